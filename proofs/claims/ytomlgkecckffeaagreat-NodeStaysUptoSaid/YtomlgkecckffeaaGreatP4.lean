/- The policy: the orders; places. The policy: slices.DeleteFunc at numbers; Demote. -/
import Derived.Test.YtomlgkecckffeaaGreatP2
import Derived.Test.YtomlgkecckffeaaGreatS7
set_option linter.unusedVariables false
set_option linter.unusedSimpArgs false
set_option maxRecDepth 10000
namespace Go.Proofs.YtomlgkecckffeaaGreat
open Go.VW
def oldE (a b : Ent) : Bool := decide (a.stamp < b.stamp ∨ a.stamp = b.stamp ∧ a.ins < b.ins)
theorem oldE_sw : SW oldE := by
 refine ⟨fun x y h => ?_, fun x y z h => ?_⟩
 ·unfold oldE at *
  simp only [decide_eq_true_eq, decide_eq_false_iff_not] at *
  omega
 ·unfold oldE at *
  simp only [decide_eq_true_eq] at *
  omega
def OrdAt (g : Nat) (lt : Ent → Ent → Bool) : Prop :=
 ∀ (a b : Ent) (w : World) (K : Value → World → Prop), (∀ (r : Int) (w' : World), Fr [] w w' → decide (r < 0) = lt a b → K (.int .i64 r) w') → nx Tryz.prog (xcall (.func (.func g) #[] #[]) [.agg (encEnt a).toArray, .agg (encEnt b).toArray]) w K
def orL : List Int → Int
 | [] => 0
 | x :: r => if x ≠ 0 then x else orL r
theorem or_spec {w : World} {v : Value} {X : List Int} {K : Value → World → Prop} (h : SlOf 1 encI1 w v X) (hb : X.length ≤ 1000) (hK : ∀ w', Fr [] w w' → K (.int .i64 (orL X)) w') : CallsN Tryz.prog 181 [v] w K := by
 have cw := cur w
 obtain ⟨va, vc, hv⟩ := h.form
 refine call181 ?_
 simp (maxSteps:=9^7)(disch:=first|assumption|(simp only[dz];first|done|assumption|omega)|omega|apply_rules[Fr.refl,Fr.alloc,Fr.drew]|rfl) only [↓gd,gp,Nat.reduceAdd,Nat.reduceEqDiff, ↓hk181, hv]
 rw [← hv]
 refine for_intro X.length 8 0 (fun i e w' => e 3 = .int .i64 0 ∧ e 6 = v ∧ e 7 = .int .i64 X.length ∧ orL X = orL (X.drop i) ∧ Fr [] w w') ?_ (Nat.zero_le _) ?_ ?_
 ·simp (maxSteps:=9^7)(disch:=first|assumption|(simp only[dz];first|done|assumption|omega)|omega|apply_rules[Fr.refl,Fr.alloc,Fr.drew]|rfl) only [↓gsd,gs,gv,Nat.reduceAdd,Nat.reduceEqDiff, Int.natCast_zero]
 ·simp (maxSteps:=9^7)(disch:=first|assumption|(simp only[dz];first|done|assumption|omega)|omega|apply_rules[Fr.refl,Fr.alloc,Fr.drew]|rfl) only [↓gsd,gs,gv,Nat.reduceAdd,Nat.reduceEqDiff, hv]
  exact Fr.refl _ _
 rintro i e w1 kk hi eS ⟨e3, e6, e7, ho, hf⟩ hkk
 have cw1 := cur w1
 by_cases hil : i < X.length
 ·have d1 : decide ((i : Int) < (X.length : Int)) = true := decide_eq_true (by omega)
  obtain ⟨x, hx⟩ : ∃ x, X[i]? = some x := ⟨X[i], List.getElem?_eq_getElem hil⟩
  obtain ⟨b1, o1, p1, ob1, hv1, hb1, _, _, hc1⟩ := (h.frN hf).read encI1_len i x hx
  have q1 := fun orig K => hc1 0 (.int .i64 x) orig K rfl
  simp only [Nat.add_zero, Nat.mul_one] at q1
  have i0 : (0 : Int) ≤ (i : Int) := by omega
  have i1 : (i : Int) < (X.length : Int) := by omega
  have wi : IntKind.i64.wrap ((i : Int) + 1) = (i : Int) + 1 := wrap64 (by omega) (by omega)
  have dX : X.drop i = x :: X.drop (i + 1) := by
   obtain ⟨g1, g2⟩ := List.getElem?_eq_some_iff.1 hx
   rw [List.drop_eq_getElem_cons g1, g2]
  rw [dX, orL] at ho
  by_cases hx0 : x = 0
  ·have d2 : decide (x = 0) = true := decide_eq_true hx0
   rw [if_neg (by simpa using hx0)] at ho
   simp (maxSteps:=9^7)(disch:=first|assumption|(simp only[dz];first|done|assumption|omega)|omega|apply_rules[Fr.refl,Fr.alloc,Fr.drew]|rfl) only [↓gd,gp,Nat.reduceAdd,Nat.reduceEqDiff, ↓hk181, e3, e6, e7, eS, hv1, d1, d2, i0, i1, Int.toNat_natCast, Nat.mul_one, hb1, q1, wi]
   refine hkk _ _ hil rfl ?_
   simp (maxSteps:=9^7)(disch:=first|assumption|(simp only[dz];first|done|assumption|omega)|omega|apply_rules[Fr.refl,Fr.alloc,Fr.drew]|rfl) only [↓gsd,gs,gv,Nat.reduceAdd,Nat.reduceEqDiff, e3, e6, e7, hv1]
   exact ⟨ho, hf⟩
  ·have d2 : decide (x = 0) = false := decide_eq_false hx0
   rw [if_pos hx0] at ho
   rw [ho] at hK
   simp (maxSteps:=9^7)(disch:=first|assumption|(simp only[dz];first|done|assumption|omega)|omega|apply_rules[Fr.refl,Fr.alloc,Fr.drew]|rfl) only [↓gd,gp,Nat.reduceAdd,Nat.reduceEqDiff, ↓hk181, e3, e6, e7, eS, hv1, d1, d2, i0, i1, Int.toNat_natCast, Nat.mul_one, hb1, q1, wi]
   exact hK _ hf
 ·have d1 : decide ((i : Int) < (X.length : Int)) = false := decide_eq_false (by omega)
  rw [List.drop_of_length_le (by omega)] at ho
  have ho' : orL X = 0 := ho
  rw [ho'] at hK
  simp (maxSteps:=9^7)(disch:=first|assumption|(simp only[dz];first|done|assumption|omega)|omega|apply_rules[Fr.refl,Fr.alloc,Fr.drew]|rfl) only [↓gd,gp,Nat.reduceAdd,Nat.reduceEqDiff, ↓hk181, e3, e6, e7, eS, d1]
  exact hK _ hf
theorem or_old (a b : Ent) : decide (orL [cmpI a.stamp b.stamp, cmpI a.ins b.ins] < 0) = oldE a b := by
 unfold oldE orL orL orL
 rcases Int.lt_trichotomy a.stamp b.stamp with h | h | h
 ·rw [cmpI_lt h]; simp; omega
 ·rw [h, cmpI_eq]
  rcases Int.lt_trichotomy a.ins b.ins with h2 | h2 | h2
  ·rw [cmpI_lt h2]; simp; omega
  ·rw [h2, cmpI_eq]; simp
  ·rw [cmpI_gt h2]; simp; omega
 ·rw [cmpI_gt h]; simp; omega
set_option maxHeartbeats 4000000 in
theorem ord_old : OrdAt 180 oldE := by
 intro a b w K hK
 rw [nx_xcall Tryz.call180]
 have cw := cur w
 refine call180 ?_
 unfold encEnt
 simp (maxSteps:=9^7)(disch:=first|assumption|(simp only[dz];first|done|assumption|omega)|omega|apply_rules[Fr.refl,Fr.alloc,Fr.drew]|rfl) only [↓gd,gp,Nat.reduceAdd,Nat.reduceEqDiff, ↓hk180]
 generalize hW : World.alloc (World.alloc w _) _ = w1
 have hf1 : Fr [] w w1 := by rw [← hW]; exact fr_
 clear hW
 have cw1 := cur w1
 refine cmp_spec ?_
 try simp (maxSteps:=9^7)(disch:=first|assumption|(simp only[dz];first|done|assumption|omega)|omega|apply_rules[Fr.refl,Fr.alloc,Fr.drew]|rfl) only [↓gd,gp,Nat.reduceAdd,Nat.reduceEqDiff, ↓hk180]
 refine cmp_spec ?_
 try simp (maxSteps:=9^7)(disch:=first|assumption|(simp only[dz];first|done|assumption|omega)|omega|apply_rules[Fr.refl,Fr.alloc,Fr.drew]|rfl) only [↓gd,gp,Nat.reduceAdd,Nat.reduceEqDiff, ↓hk180]
 refine or_spec (X := [cmpI a.stamp b.stamp, cmpI a.ins b.ins]) ?_ (by simp) fun w2 hf2 => hK _ _ (hf1.trans' (Fr.trans' (((Fr.refl _ _).drew).alloc _) hf2)) (or_old a b)
 exact ⟨rfl, .inr ⟨w1.heap.size, 0, 2, _, 3, (0, 0), rfl, get_alloc_new w1.drew _, rfl⟩⟩
def ltI (lt : Ent → Ent → Bool) (l : Ents) (i j : Nat) : Bool := lt ((l[i]?).getD entZ) ((l[j]?).getD entZ)
theorem ltI_sw {lt : Ent → Ent → Bool} (h : SW lt) (l : Ents) : SW (ltI lt l) := ⟨fun x y => h.asym _ _, fun x y z => h.ntr _ _ _⟩
theorem cmp_places {g : Nat} {lt : Ent → Ent → Bool} (ho : OrdAt g lt) {w : World} {v : Value} {l : Ents} {b p2 p3 : Nat} (h : SlOf 8 encEnt w v l) (hoff : offV v b) (h2 : w.heap[p2]? = some (.cells ([v] : List Value).toArray 41 (0, 0))) (h3 : w.heap[p3]? = some (.cells ([.func (.func g) #[] #[]] : List Value).toArray 141 (0, 0)))
  (hb2 : p2 ≠ b) (hb3 : p3 ≠ b) (hbl : b < w.heap.size) : CmpAt b w (.func (.func 146) #[] #[.pointer (some ⟨p3, 0, none⟩), .pointer (some ⟨p2, 0, none⟩)]) l.length (ltI lt l) := by
 intro w1 x y K hf hx hy hK
 have cw1 := cur w1
 rw [nx_xcall Tryz.call146]
 have h1 := h.fr hf (by intro q hq; simp at hq; subst hq; exact hoff)
 have h21 := hf.get h2 (by simp; exact hb2)
 have h31 := hf.get h3 (by simp; exact hb3)
 obtain ⟨ex, hex⟩ : ∃ e, l[x]? = some e := ⟨l[x], List.getElem?_eq_getElem hx⟩
 obtain ⟨ey, hey⟩ : ∃ e, l[y]? = some e := ⟨l[y], List.getElem?_eq_getElem hy⟩
 obtain ⟨b1, o1, p1, ob1, hv1, hb1, hbl1, hr1, _⟩ := h1.read encEnt_len x ex hex
 obtain ⟨b2, o2, p2', ob2, hv2, hb2', hbl2, hr2, _⟩ := h1.read encEnt_len y ey hey
 rw [hv1] at hv2
 simp only [Value.slice.injEq, Option.some.injEq, Addr.mk.injEq] at hv2
 obtain ⟨⟨rfl, rfl, _⟩, _, rfl⟩ := hv2
 rw [hb1] at hb2'
 cases hb2'
 have x0 : (0 : Int) ≤ (x : Int) := by omega
 have x1 : (x : Int) < (l.length : Int) := by omega
 have y0 : (0 : Int) ≤ (y : Int) := by omega
 have y1 : (y : Int) < (l.length : Int) := by omega
 rw [hv1] at h21
 unfold encEnt at hr1 hr2
 have ha : [Value.int .i64 (x : Int), .int .i64 (y : Int)] ++ (#[Value.pointer (some ⟨p3, 0, none⟩), .pointer (some ⟨p2, 0, none⟩)] : Array Value).toList = [.int .i64 x, .int .i64 y, .pointer (some ⟨p3, 0, none⟩), .pointer (some ⟨p2, 0, none⟩)] := rfl
 rw [ha]
 refine call146 ?_
 simp (maxSteps:=9^7)(disch:=first|assumption|(simp only[dz];first|done|assumption|omega)|omega|apply_rules[Fr.refl,Fr.alloc,Fr.drew]|rfl) only [↓gd,gp,Nat.reduceAdd,Nat.reduceEqDiff, ↓hk146, h21, h31, x0, x1, y0, y1, Int.toNat_natCast, hb1, hr1, hr2]
 have hlt : ltI lt l x y = lt ex ey := by unfold ltI; rw [hex, hey]; rfl
 refine ho ex ey _ _ fun r w2 hf2 hr => ?_
 exact hK r w2 fr_ (by rw [hlt]; exact hr)
abbrev encN (i : Nat) : List Value := [.int .i64 i]
theorem encN_cells (l : List Nat) : cellsOf encN l = l.map fun i : Nat => Value.int .i64 i := by
 induction l with
 | nil => rfl
 | cons a l ih => simp only [cellsOf, List.flatMap_cons, List.map_cons] at *; rw [ih]; rfl
theorem row_of_own {w : World} {v : Value} {L : List Nat} (h : Own 1 3 w v L.length (cellsOf encN L)) (h0 : 0 < L.length) : ∃ b cap R, v = rowV b L.length cap ∧ RowI w b L R ∧ L.length ≤ cap ∧ (L.length + R.length = cap) := by
 rcases h.2 with ⟨_, e⟩ | ⟨g, cap, cur', rfl, _⟩
 ·omega
 ·obtain ⟨D, hb, hD, hnc, hcm, hT⟩ := own_blkD h
  refine ⟨g, cap, D.drop L.length, rfl, ?_, hnc, ?_⟩
  ·unfold RowI rowO
   rw [← encN_cells, ← hT, Nat.mul_one, List.take_append_drop]
   exact hb
  ·rw [List.length_drop, hD]; omega
set_option maxHeartbeats 4000000 in
theorem places_spec {g : Nat} {lt : Ent → Ent → Bool} (ho : OrdAt g lt) (hsw : SW lt) {w : World} {v : Value} {l : Ents} {K : Value → World → Prop} (h : SlOf 8 encEnt w v l) (h0 : 0 < l.length) (hb : l.length ≤ 1000000000) (hvl : ∀ a n c, v = .slice (some a) n c → a.block < w.heap.size)
  (hK : ∀ w' L b cap R, Fr [] w w' → w.heap.size ≤ b → L.Perm (List.range l.length) → SortL (ltI lt l) L → RowI w' b L R → l.length ≤ cap → l.length + R.length = cap → K (rowV b l.length cap) w') :
  CallsN Tryz.prog 86 [v, .func (.func g) #[] #[]] w K := by
 have cw := cur w
 obtain ⟨va, vc, hv⟩ := h.form
 refine call86 ?_
 simp (maxSteps:=9^7)(disch:=first|assumption|(simp only[dz];first|done|assumption|omega)|omega|apply_rules[Fr.refl,Fr.alloc,Fr.drew]|rfl) only [↓gd,gp,Nat.reduceAdd,Nat.reduceEqDiff, ↓hk86, hv]
 generalize hW : World.alloc (World.alloc w _) _ = w1
 have hf1 : Fr [] w w1 := by rw [← hW]; exact fr_
 have hsz : w1.heap.size = w.heap.size + 1 + 1 := by rw [← hW]; simp only [gz]
 have g2 : w1.heap[w.heap.size]? = some (.cells ([v] : List Value).toArray 41 (0, 0)) := by rw [← hW, hv]; simp (maxSteps:=9^7)(disch:=first|assumption|(simp only[dz];first|done|assumption|omega)|omega|apply_rules[Fr.refl,Fr.alloc,Fr.drew]|rfl) only [↓gsd,gs,gv,Nat.reduceAdd,Nat.reduceEqDiff]
 have g3 : w1.heap[w.heap.size + 1]? = some (.cells ([.func (.func g) #[] #[]] : List Value).toArray 141 (0, 0)) := by rw [← hW]; simp (maxSteps:=9^7)(disch:=first|assumption|(simp only[dz];first|done|assumption|omega)|omega|apply_rules[Fr.refl,Fr.alloc,Fr.drew]|rfl) only [↓gsd,gs,gv,Nat.reduceAdd,Nat.reduceEqDiff]
 clear hW
 have cw1 := cur w1
 refine for_intro l.length 9 0 (fun i e w' => ∃ vo, e 2 = .pointer (some ⟨w.heap.size, 0, none⟩) ∧ e 3 = .pointer (some ⟨w.heap.size + 1, 0, none⟩) ∧ e 5 = vo ∧ e 8 = .int .i64 l.length ∧ Own 1 3 w' vo i (cellsOf encN (List.range i)) ∧ (∀ x, vo.ownBlock = some x → w1.heap.size ≤ x) ∧ Fr [] w1 w') ?_ (Nat.zero_le _) ?_ ?_
 ·simp (maxSteps:=9^7)(disch:=first|assumption|(simp only[dz];first|done|assumption|omega)|omega|apply_rules[Fr.refl,Fr.alloc,Fr.drew]|rfl) only [↓gsd,gs,gv,Nat.reduceAdd,Nat.reduceEqDiff, Int.natCast_zero]
 ·refine ⟨sliceZ, ?_⟩
  simp (maxSteps:=9^7)(disch:=first|assumption|(simp only[dz];first|done|assumption|omega)|omega|apply_rules[Fr.refl,Fr.alloc,Fr.drew]|rfl) only [↓gsd,gs,gv,Nat.reduceAdd,Nat.reduceEqDiff]
  exact ⟨Own.nil, fun x hx => by simp [Value.ownBlock] at hx, Fr.refl _ _⟩
 rintro i e w2 kk hi eS ⟨vo, e2, e3, e5, e8, hown, hbk, hf2⟩ hkk
 have cw2 := cur w2
 have hz2 := hf2.size
 by_cases hil : i < l.length
 ·have d1 : decide ((i : Int) < (l.length : Int)) = true := decide_eq_true (by omega)
  have wi : IntKind.i64.wrap ((i : Int) + 1) = (i : Int) + 1 := wrap64 (by omega) (by omega)
  obtain ⟨oa, oc, hvo⟩ := hown.sl.form
  have hsl : Sl 1 (w2.alloc (.cells ([.int .i64 (i : Int)] : List Value).toArray 3)) (.slice (some ⟨w2.heap.size, 0, none⟩) 1 1) 1 [.int .i64 (i : Int)] := ⟨rfl, .inr ⟨_, 0, 1, _, 3, (0, 0), rfl, get_alloc_new _ _, rfl⟩⟩
  have ho2 : Own 1 3 (w2.alloc (.cells ([.int .i64 (i : Int)] : List Value).toArray 3)) vo i (cellsOf encN (List.range i)) := Go.Proofs.YtomlgkecckffeaaGreat.Own.frN hown fr_
  obtain ⟨v3, w3, hr3, hown3, hf3, hbk3⟩ := ap63 (ty := 63) ho2 hsl rfl (by omega)
  have cw3 := cur w3
  rw [hvo] at hr3
  simp (maxSteps:=9^7)(disch:=first|assumption|(simp only[dz];first|done|assumption|omega)|omega|apply_rules[Fr.refl,Fr.alloc,Fr.drew]|rfl) only [↓gd,gp,Nat.reduceAdd,Nat.reduceEqDiff, ↓hk86, e2, e3, e5, e8, eS, d1, hvo, hr3, wi]
  refine hkk _ _ hil rfl ⟨v3, ?_⟩
  simp (maxSteps:=9^7)(disch:=first|assumption|(simp only[dz];first|done|assumption|omega)|omega|apply_rules[Fr.refl,Fr.alloc,Fr.drew]|rfl) only [↓gsd,gs,gv,Nat.reduceAdd,Nat.reduceEqDiff, e2, e3, e5, e8]
  refine ⟨?_, fun x hx => ?_, (hf2.alloc _).trans hf3 fun y hy => .inr (hbk y (mem_blkL.1 hy))⟩
  ·rw [List.range_succ, cellsOf_append]; exact hown3
  ·rcases hbk3 with q | ⟨b', q1, q2⟩
   ·exact hbk x (q ▸ hx)
   ·rw [q1] at hx; cases hx; rw [size_alloc] at q2; omega
 ·have d1 : decide ((i : Int) < (l.length : Int)) = false := decide_eq_false (by omega)
  obtain rfl : i = l.length := by omega
  have hown' : Own 1 3 w2 vo (List.range l.length).length (cellsOf encN (List.range l.length)) := by rw [List.length_range]; exact hown
  obtain ⟨b, cap, R, hvo, hrow, hcap, hcl⟩ := row_of_own hown' (by rw [List.length_range]; exact h0)
  rw [List.length_range] at hvo hcap hcl
  subst hvo
  have hbw := hbk b rfl
  have hbl2 := lt_of_get _ _ hrow
  have h1 := (h.frN hf1).frN hf2
  have hc := cmp_places (g := g) (lt := lt) ho h1 (b := b) (p2 := w.heap.size) (p3 := w.heap.size + 1) (fun a n c q => by have := hvl a n c q; omega) (hf2.getN g2) (hf2.getN g3) (by omega) (by omega) hbl2
  simp (maxSteps:=9^7)(disch:=first|assumption|(simp only[dz];first|done|assumption|omega)|omega|apply_rules[Fr.refl,Fr.alloc,Fr.drew]|rfl) only [↓gd,gp,Nat.reduceAdd,Nat.reduceEqDiff, ↓hk86, e2, e3, e5, e8, eS, d1]
  refine sort_spec (ltI_sw hsw l) hrow hc (by rw [List.length_range]) (fun x hx => List.mem_range.1 hx) (by omega) fun w3 L' hf3 hp hs hrow3 => ?_
  have cw3 := cur w3
  simp (maxSteps:=9^7)(disch:=first|assumption|(simp only[dz];first|done|assumption|omega)|omega|apply_rules[Fr.refl,Fr.alloc,Fr.drew]|rfl) only [↓gd,gp,Nat.reduceAdd,Nat.reduceEqDiff, ↓hk86, e2, e3, e5, e8]
  exact hK w3 L' b cap R ((hf1.trans' hf2).trans hf3 fun y hy => by simp at hy; subst hy; exact .inr (by omega)) (by omega) hp hs hrow3 hcap hcl
def PrdAt (b : Nat) (w0 : World) (fv : Value) (n : Nat) (p : Nat → Bool) : Prop :=
 ∀ (w : World) (x : Nat) (K : Value → World → Prop), Fr [b] w0 w → x < n → (∀ w', Fr [] w w' → K (.bool (p x)) w') → nx Tryz.prog (xcall fv [.int .i64 x]) w K
theorem PrdAt.fr {b : Nat} {w0 w1 : World} {fv : Value} {n : Nat} {p : Nat → Bool} (h : PrdAt b w0 fv n p) (hf : Fr [b] w0 w1) : PrdAt b w1 fv n p := fun w x K hf' => h w x K (hf.transM hf')
set_option maxHeartbeats 4000000 in
theorem idxF_spec {b n cap : Nat} {fv : Value} {p : Nat → Bool} {L : List Nat} {R : List Value} {w : World} {K : Value → World → Prop} (h : RowI w b L R) (hp : PrdAt b w fv n p) (hn : L.length = n) (hlt : ∀ x ∈ L, x < n) (hb : n ≤ 1000000000)
  (hN : ∀ w', Fr [] w w' → (∀ x ∈ L, p x = false) → K (.int .i64 (-1)) w') (hS : ∀ w' i x, Fr [] w w' → L[i]? = some x → p x = true → (∀ y ∈ L.take i, p y = false) → K (.int .i64 i) w') : CallsN Tryz.prog 207 [rowV b n cap, fv] w K := by
 have cw := cur w
 refine call207 ?_
 simp (maxSteps:=9^7)(disch:=first|assumption|(simp only[dz];first|done|assumption|omega)|omega|apply_rules[Fr.refl,Fr.alloc,Fr.drew]|rfl) only [↓gd,gp,Nat.reduceAdd,Nat.reduceEqDiff, ↓hk207]
 refine for_intro n 8 0 (fun i e w' => e 0 = rowV b n cap ∧ e 1 = fv ∧ e 7 = .int .i64 n ∧ (∀ y ∈ L.take i, p y = false) ∧ Fr [] w w') ?_ (Nat.zero_le _) ?_ ?_
 ·simp (maxSteps:=9^7)(disch:=first|assumption|(simp only[dz];first|done|assumption|omega)|omega|apply_rules[Fr.refl,Fr.alloc,Fr.drew]|rfl) only [↓gsd,gs,gv,Nat.reduceAdd,Nat.reduceEqDiff, Int.natCast_zero]
 ·simp (maxSteps:=9^7)(disch:=first|assumption|(simp only[dz];first|done|assumption|omega)|omega|apply_rules[Fr.refl,Fr.alloc,Fr.drew]|rfl) only [↓gsd,gs,gv,Nat.reduceAdd,Nat.reduceEqDiff]
  exact ⟨by simp, Fr.refl _ _⟩
 rintro i e w1 kk hi eS ⟨e0, e1, e7, hall, hf⟩ hkk
 have cw1 := cur w1
 have h1 : RowI w1 b L R := hf.getN h
 by_cases hil : i < n
 ·have d1 : decide ((i : Int) < (n : Int)) = true := decide_eq_true (by omega)
  obtain ⟨x, hx⟩ : ∃ x, L[i]? = some x := ⟨L[i]'(by omega), List.getElem?_eq_getElem _⟩
  have r1 := fun orig K => rowO_ld (R := R) hx orig K
  have i0 : (0 : Int) ≤ (i : Int) := by omega
  have i1 : (i : Int) < (n : Int) := by omega
  have wi : IntKind.i64.wrap ((i : Int) + 1) = (i : Int) + 1 := wrap64 (by omega) (by omega)
  simp (maxSteps:=9^7)(disch:=first|assumption|(simp only[dz];first|done|assumption|omega)|omega|apply_rules[Fr.refl,Fr.alloc,Fr.drew]|rfl) only [↓gd,gp,Nat.reduceAdd,Nat.reduceEqDiff, ↓hk207, e0, e1, e7, eS, d1, i0, i1, Int.toNat_natCast, Nat.mul_one, Nat.zero_add, h1, r1]
  refine hp _ x _ (Fr.trans (M' := []) (Fr.refl [b] w) fr_ (by simp)) (hlt x (List.mem_of_getElem? hx)) fun w2 hf2 => ?_
  have cw2 := cur w2
  have hF2 : Fr [] w w2 := hf.trans' (Fr.trans' fr_ hf2)
  cases hpx : p x with
  | true =>
    simp (maxSteps:=9^7)(disch:=first|assumption|(simp only[dz];first|done|assumption|omega)|omega|apply_rules[Fr.refl,Fr.alloc,Fr.drew]|rfl) only [↓gd,gp,Nat.reduceAdd,Nat.reduceEqDiff, ↓hk207, e0, e1, e7, eS, wi]
    exact hS w2 i x hF2 hx hpx hall
  | false =>
    simp (maxSteps:=9^7)(disch:=first|assumption|(simp only[dz];first|done|assumption|omega)|omega|apply_rules[Fr.refl,Fr.alloc,Fr.drew]|rfl) only [↓gd,gp,Nat.reduceAdd,Nat.reduceEqDiff, ↓hk207, e0, e1, e7, eS, wi]
    refine hkk _ _ hil rfl ?_
    simp (maxSteps:=9^7)(disch:=first|assumption|(simp only[dz];first|done|assumption|omega)|omega|apply_rules[Fr.refl,Fr.alloc,Fr.drew]|rfl) only [↓gsd,gs,gv,Nat.reduceAdd,Nat.reduceEqDiff, e0, e1, e7]
    refine ⟨fun y hy => ?_, hF2⟩
    rw [List.take_add_one, hx] at hy
    rcases List.mem_append.1 hy with hy | hy
    ·exact hall y hy
    ·simp at hy; subst hy; exact hpx
 ·have d1 : decide ((i : Int) < (n : Int)) = false := decide_eq_false (by omega)
  simp (maxSteps:=9^7)(disch:=first|assumption|(simp only[dz];first|done|assumption|omega)|omega|apply_rules[Fr.refl,Fr.alloc,Fr.drew]|rfl) only [↓gd,gp,Nat.reduceAdd,Nat.reduceEqDiff, ↓hk207, e0, e1, e7, eS, d1]
  rw [List.take_of_length_le (by omega)] at hall
  exact hN w1 hf hall
theorem row_sl {w : World} {b : Nat} {L F : List Nat} {R : List Value} {cap : Nat} (h : RowI w b L R) (hF : L.take F.length = F) : SlOf 1 encN w (rowV b F.length cap) F := by
 unfold SlOf
 rw [encN_cells]
 refine ⟨by simp, .inr ⟨b, 0, cap, _, 3, (0, 0), rfl, h, ?_⟩⟩
 have hl : F.length ≤ L.length := by rw [← hF, List.length_take]; omega
 simp only [List.drop_zero, Nat.mul_one]
 rw [List.take_append_of_le_length (by simpa using hl), ← List.map_take, hF]
set_option maxHeartbeats 8000000 in
theorem delF_spec {b n cap : Nat} {fv : Value} {p : Nat → Bool} {L : List Nat} {R : List Value} {w : World} {K : Value → World → Prop} (h : RowI w b L R) (hp : PrdAt b w fv n p) (hn : L.length = n) (hlt : ∀ x ∈ L, x < n) (hb : n ≤ 1000000000) (hcap : n ≤ cap) (hR : n + R.length = cap)
  (hK : ∀ w', Fr [b] w w' → SlOf 1 encN w' (rowV b (L.filter fun x => !p x).length cap) (L.filter fun x => !p x) → K (rowV b (L.filter fun x => !p x).length cap) w') : CallsN Tryz.prog 183 [rowV b n cap, fv] w K := by
 have cw := cur w
 refine call183 ?_
 simp (maxSteps:=9^7)(disch:=first|assumption|(simp only[dz];first|done|assumption|omega)|omega|apply_rules[Fr.refl,Fr.alloc,Fr.drew]|rfl) only [↓gd,gp,Nat.reduceAdd,Nat.reduceEqDiff, ↓hk183]
 refine idxF_spec (cap := cap) h hp hn hlt hb (fun w1 hf1 hall => ?_) fun w1 i0 x0 hf1 hx0 hp0 hall => ?_
 ·have cw1 := cur w1
  have d1 : decide ((-1 : Int) = -1) = true := rfl
  simp (maxSteps:=9^7)(disch:=first|assumption|(simp only[dz];first|done|assumption|omega)|omega|apply_rules[Fr.refl,Fr.alloc,Fr.drew]|rfl) only [↓gd,gp,Nat.reduceAdd,Nat.reduceEqDiff, ↓hk183, d1]
  have hfil : (L.filter fun x => !p x) = L := by
   rw [List.filter_eq_self]
   intro x hx; rw [hall x hx]; rfl
  rw [hfil, hn] at hK
  refine hK w1 (Fr.trans (M' := []) (Fr.refl [b] w) hf1 (by simp)) ?_
  have := row_sl (cap := cap) (F := L) (hf1.getN h) (by rw [List.take_length])
  rwa [hn] at this
 have cw1 := cur w1
 have hi0 := (List.getElem?_eq_some_iff.1 hx0).1
 have d1 : decide ((i0 : Int) = -1) = false := decide_eq_false (by omega)
 have w0 : IntKind.i64.wrap ((i0 : Int) + 1) = ((i0 + 1 : Nat) : Int) := by rw [wrap64 (by omega) (by omega)]; omega
 have h1 : RowI w1 b L R := hf1.getN h
 have hF1 : Fr [b] w w1 := Fr.trans (M' := []) (Fr.refl [b] w) hf1 (by simp)
 simp (maxSteps:=9^7)(disch:=first|assumption|(simp only[dz];first|done|assumption|omega)|omega|apply_rules[Fr.refl,Fr.alloc,Fr.drew]|rfl) only [↓gd,gp,Nat.reduceAdd,Nat.reduceEqDiff, ↓hk183, d1, w0]
 refine loop_intro (fun e w' => ∃ (j c : Nat) (L' : List Nat), j ≤ n ∧ c < j ∧ e 0 = rowV b n cap ∧ e 1 = fv ∧ e 5 = .int .i64 c ∧ e 6 = .int .i64 j ∧ L'.length = n ∧ L'.take c = (L.take j).filter (fun x => !p x) ∧ L'.drop j = L.drop j ∧ RowI w' b L' R ∧ Fr [b] w w')
  (fun e _ => n - (numOf (e 6)).toNat) ?_ ?_
 ·refine ⟨i0 + 1, i0, L, by omega, by omega, ?_⟩
  simp (maxSteps:=9^7)(disch:=first|assumption|(simp only[dz];first|done|assumption|omega)|omega|apply_rules[Fr.refl,Fr.alloc,Fr.drew]|rfl) only [↓gsd,gs,gv,Nat.reduceAdd,Nat.reduceEqDiff]
  refine ⟨hn, ?_, h1, hF1⟩
  rw [List.take_add_one, hx0, List.filter_append]
  have e1 : (L.take i0).filter (fun x => !p x) = L.take i0 := by
   rw [List.filter_eq_self]
   intro x hx; rw [hall x hx]; rfl
  rw [e1]
  simp [hp0]
 rintro e w2 kk ⟨j, c, L', hj, hcj, e0, e1, e5, e6, hl', htk, hdr, h2, hf2⟩ hkk
 have cw2 := cur w2
 have hbl2 := lt_of_get _ _ h2
 have hcl : ((L.take j).filter fun x => !p x).length = c := by rw [← htk, List.length_take]; omega
 by_cases hjn : j < n
 ·have d2 : decide ((j : Int) < (n : Int)) = true := decide_eq_true (by omega)
  obtain ⟨x, hx⟩ : ∃ x, L[j]? = some x := ⟨L[j]'(by omega), List.getElem?_eq_getElem _⟩
  have hx' : L'[j]? = some x := by
   have := congrArg (fun l => l[0]?) hdr
   simpa [List.getElem?_drop, hx] using this
  have r1 := fun orig K => rowO_ld (R := R) hx' orig K
  have j0 : (0 : Int) ≤ (j : Int) := by omega
  have j1 : (j : Int) < (n : Int) := by omega
  have c0 : (0 : Int) ≤ (c : Int) := by omega
  have c1 : (c : Int) < (n : Int) := by omega
  have wj : IntKind.i64.wrap ((j : Int) + 1) = ((j + 1 : Nat) : Int) := by rw [wrap64 (by omega) (by omega)]; omega
  have wc : IntKind.i64.wrap ((c : Int) + 1) = ((c + 1 : Nat) : Int) := by rw [wrap64 (by omega) (by omega)]; omega
  have htj : (L.take (j + 1)).filter (fun x => !p x) = (L.take j).filter (fun x => !p x) ++ (if p x = true then [] else [x]) := by
   rw [List.take_add_one, hx, List.filter_append]
   cases hpx : p x <;> simp [hpx]
  have hdj : ∀ q : List Nat, q.drop j = L.drop j → q.drop (j + 1) = L.drop (j + 1) := fun q hq => by
   have := congrArg (List.drop 1) hq
   rwa [List.drop_drop, List.drop_drop] at this
  simp (maxSteps:=9^7)(disch:=first|assumption|(simp only[dz];first|done|assumption|omega)|omega|apply_rules[Fr.refl,Fr.alloc,Fr.drew]|rfl) only [↓gd,gp,Nat.reduceAdd,Nat.reduceEqDiff, ↓hk183, e0, e1, e5, e6, d2, j0, j1, Int.toNat_natCast, Nat.mul_one, Nat.zero_add, h2, r1]
  refine hp _ x _ fr_ (hlt x (List.mem_of_getElem? hx)) fun w3 hf3 => ?_
  have cw3 := cur w3
  have h3 : RowI w3 b L' R := hf3.getN h2
  have hF3 : Fr [b] w w3 := hf2.trans' fr_
  have hbl3 := lt_of_get _ _ h3
  cases hpx : p x with
  | true =>
    rw [hpx] at htj
    simp (maxSteps:=9^7)(disch:=first|assumption|(simp only[dz];first|done|assumption|omega)|omega|apply_rules[Fr.refl,Fr.alloc,Fr.drew]|rfl) only [↓gd,gp,Nat.reduceAdd,Nat.reduceEqDiff, ↓hk183, e0, e1, e5, e6, wj]
    refine hkk _ _ ⟨j + 1, c, L', by omega, by omega, ?_⟩ ?_
    ·simp (maxSteps:=9^7)(disch:=first|assumption|(simp only[dz];first|done|assumption|omega)|omega|apply_rules[Fr.refl,Fr.alloc,Fr.drew]|rfl) only [↓gsd,gs,gv,Nat.reduceAdd,Nat.reduceEqDiff, e0, e1, e5, e6]
     exact ⟨hl', by rw [htj, htk]; simp, hdj L' hdr, h3, hF3⟩
    ·simp (maxSteps:=9^7)(disch:=first|assumption|(simp only[dz];first|done|assumption|omega)|omega|apply_rules[Fr.refl,Fr.alloc,Fr.drew]|rfl) only [↓gsd,gs,gv,Nat.reduceAdd,Nat.reduceEqDiff, e6, numOf, Int.toNat_natCast]; omega
  | false =>
    rw [hpx] at htj
    have s1 := fun orig K => rowO_st (R := R) (i := c) (L := L') x (by omega) orig K
    simp (maxSteps:=9^7)(disch:=first|assumption|(simp only[dz];first|done|assumption|omega)|omega|apply_rules[Fr.refl,Fr.alloc,Fr.drew]|rfl) only [↓gd,gp,Nat.reduceAdd,Nat.reduceEqDiff, ↓hk183, e0, e1, e5, e6, c0, c1, Int.toNat_natCast, Nat.mul_one, Nat.zero_add, h3, s1, wj, wc]
    refine hkk _ _ ⟨j + 1, c + 1, L'.set c x, by omega, by omega, ?_⟩ ?_
    ·simp (maxSteps:=9^7)(disch:=first|assumption|(simp only[dz];first|done|assumption|omega)|omega|apply_rules[Fr.refl,Fr.alloc,Fr.drew]|rfl) only [↓gsd,gs,gv,Nat.reduceAdd,Nat.reduceEqDiff, e0, e1, e5, e6]
     refine ⟨by rw [List.length_set]; exact hl', ?_, ?_, by unfold RowI; simp (maxSteps:=9^7)(disch:=first|assumption|(simp only[dz];first|done|assumption|omega)|omega|apply_rules[Fr.refl,Fr.alloc,Fr.drew]|rfl) only [↓gsd,gs,gv,Nat.reduceAdd,Nat.reduceEqDiff], fr_⟩
     ·rw [htj, ← htk, List.take_add_one, List.take_set, List.set_eq_of_length_le (by rw [List.length_take]; omega), List.getElem?_set, if_pos rfl, if_pos (by omega)]
      rfl
     ·refine hdj _ ?_
      rw [List.drop_set_of_lt hcj]; exact hdr
    ·simp (maxSteps:=9^7)(disch:=first|assumption|(simp only[dz];first|done|assumption|omega)|omega|apply_rules[Fr.refl,Fr.alloc,Fr.drew]|rfl) only [↓gsd,gs,gv,Nat.reduceAdd,Nat.reduceEqDiff, e6, numOf, Int.toNat_natCast]; omega
 ·have d2 : decide ((j : Int) < (n : Int)) = false := decide_eq_false (by omega)
  have hfull : L.take j = L := List.take_of_length_le (by omega)
  rw [hfull] at htk hcl
  have hblk : Blk w2 b 3 ((L'.map fun i : Nat => Value.int .i64 (i : Int)) ++ R) := h2
  have k1 := fun W => cut_low0 (P := Tryz.prog) Tryz.runUnderlying63 Tryz.sizeOf3 b n cap c (by omega) hcap W
  have k2 := fun W => cut_high0 (P := Tryz.prog) Tryz.runUnderlying63 Tryz.sizeOf3 b n cap c (by omega) W
  rw [if_neg (by omega)] at k1
  obtain ⟨D', hcl', hl2, ht2⟩ := clear_row (P := Tryz.prog) (t := 63) (ty := 0) (n := n - c) (c := cap - c) (o := c * 1) Tryz.runUnderlying63 Tryz.zeroValue3 hblk (by simp [Value.cells, hl']; omega) (by rfl)
  simp (maxSteps:=9^7)(disch:=first|assumption|(simp only[dz];first|done|assumption|omega)|omega|apply_rules[Fr.refl,Fr.alloc,Fr.drew]|rfl) only [↓gd,gp,Nat.reduceAdd,Nat.reduceEqDiff, ↓hk183, e0, e1, e5, e6, d2, k1, nx_clear, vR_ok, hcl']
  have k2' := k2 (w2.setB b (.cells D'.toArray 3 (0, 0)))
  simp (maxSteps:=9^7)(disch:=first|assumption|(simp only[dz];first|done|assumption|omega)|omega|apply_rules[Fr.refl,Fr.alloc,Fr.drew]|rfl) only [↓gd,gp,Nat.reduceAdd,Nat.reduceEqDiff, ↓hk183, k2]
  rw [hcl] at hK
  refine hK _ fr_ ?_
  unfold SlOf
  rw [encN_cells, hcl]
  refine ⟨by simp [hcl], .inr ⟨b, 0, cap, D'.toArray, 3, (0, 0), rfl, get_setB_same _ _ _ hbl2, ?_⟩⟩
  rw [List.drop_zero, Nat.mul_one]
  show D'.take c = _
  rw [ht2 c (by omega), List.take_append_of_le_length (by simp; omega), ← List.map_take, htk]
def hotI (l : Ents) (i : Nat) : Bool := ((l[i]?).getD entZ).hot
theorem prd_demote {w : World} {v : Value} {l : Ents} {b p2 : Nat} (h : SlOf 8 encEnt w v l) (hoff : offV v b) (h2 : w.heap[p2]? = some (.cells ([v] : List Value).toArray 41 (0, 0))) (hb2 : p2 ≠ b) :
  PrdAt b w (.func (.func 184) #[] #[.pointer (some ⟨p2, 0, none⟩)]) l.length (fun i => !hotI l i) := by
 intro w1 x K hf hx hK
 have cw1 := cur w1
 rw [nx_xcall Tryz.call184]
 have h1 := h.fr hf (by intro q hq; simp at hq; subst hq; exact hoff)
 have h21 := hf.get h2 (by simp; exact hb2)
 obtain ⟨ex, hex⟩ : ∃ e, l[x]? = some e := ⟨l[x], List.getElem?_eq_getElem hx⟩
 obtain ⟨b1, o1, p1, ob1, hv1, hb1, hbl1, _, hc1⟩ := h1.read encEnt_len x ex hex
 have q5 := fun orig K => hc1 5 (.bool ex.hot) orig K rfl
 have x0 : (0 : Int) ≤ (x : Int) := by omega
 have x1 : (x : Int) < (l.length : Int) := by omega
 rw [hv1] at h21
 have ha : [Value.int .i64 (x : Int)] ++ (#[Value.pointer (some ⟨p2, 0, none⟩)] : Array Value).toList = [.int .i64 x, .pointer (some ⟨p2, 0, none⟩)] := rfl
 rw [ha]
 refine call184 ?_
 have hh : hotI l x = ex.hot := by unfold hotI; rw [hex]; rfl
 simp (maxSteps:=9^7)(disch:=first|assumption|(simp only[dz];first|done|assumption|omega)|omega|apply_rules[Fr.refl,Fr.alloc,Fr.drew]|rfl) only [↓gd,gp,Nat.reduceAdd,Nat.reduceEqDiff, ↓hk184, h21, x0, x1, Int.toNat_natCast, hb1, q5]
 have := hK w1 (Fr.refl _ _)
 simpa only [hh] using this
theorem sl_take {w : World} {b cap k : Nat} {F : List Nat} (h : SlOf 1 encN w (rowV b F.length cap) F) (hk : k ≤ F.length) : SlOf 1 encN w (rowV b k cap) (F.take k) := by
 unfold SlOf at *
 have hl : (F.take k).length = k := by rw [List.length_take]; omega
 rw [hl, encN_cells]
 rw [encN_cells] at h
 refine ⟨by simp; omega, ?_⟩
 by_cases hk0 : k = 0
 ·exact .inl ⟨hk0, _, _, by rw [hk0]⟩
 rcases h.2 with ⟨e, _⟩ | ⟨b', off, cap', c, et, fr, he, hb, hc⟩
 ·omega
 ·refine .inr ⟨b', off, cap', c, et, fr, ?_, hb, ?_⟩
  ·simp only [Value.slice.injEq] at he ⊢
   exact ⟨he.1, trivial, he.2.2⟩
  ·have := congrArg (List.take k) hc
   rw [List.take_take] at this
   rw [Nat.mul_one] at this ⊢
   rw [Nat.min_eq_left hk] at this
   rw [this, List.map_take]
def demN (most : Int) (m : Nat) : Nat := (max ((m : Int) - max most 0) 0).toNat
set_option maxHeartbeats 4000000 in
theorem demote_spec {w : World} {v : Value} {l : Ents} {most : Int} {K : Value → World → Prop} (h : SlOf 8 encEnt w v l) (h0 : 0 < l.length) (hb : l.length ≤ 1000000000) (hvl : ∀ a n c, v = .slice (some a) n c → a.block < w.heap.size) (hm : most ≤ 1000000000)
  (hK : ∀ w' L v', Fr [] w w' → L.Perm (List.range l.length) → SortL (ltI oldE l) L → SlOf 1 encN w' v' ((L.filter (hotI l)).take (demN most (L.filter (hotI l)).length)) → (∃ b m cap, v' = rowV b m cap ∧ w.heap.size ≤ b ∧ b < w'.heap.size) → K v' w') : CallsN Tryz.prog 142 [v, .int .i64 most] w K := by
 have cw := cur w
 obtain ⟨va, vc, hv⟩ := h.form
 refine call142 ?_
 simp (maxSteps:=9^7)(disch:=first|assumption|(simp only[dz];first|done|assumption|omega)|omega|apply_rules[Fr.refl,Fr.alloc,Fr.drew]|rfl) only [↓gd,gp,Nat.reduceAdd,Nat.reduceEqDiff, ↓hk142, hv]
 rw [← hv]
 generalize hW : World.alloc w _ = w1
 have hf1 : Fr [] w w1 := by rw [← hW]; exact fr_
 have hsz : w1.heap.size = w.heap.size + 1 := by rw [← hW]; simp only [gz]
 have g2 : w1.heap[w.heap.size]? = some (.cells ([v] : List Value).toArray 41 (0, 0)) := by rw [← hW]; simp (maxSteps:=9^7)(disch:=first|assumption|(simp only[dz];first|done|assumption|omega)|omega|apply_rules[Fr.refl,Fr.alloc,Fr.drew]|rfl) only [↓gsd,gs,gv,Nat.reduceAdd,Nat.reduceEqDiff]
 clear hW
 have cw1 := cur w1
 refine places_spec ord_old oldE_sw (h.frN hf1) h0 hb (fun a n c q => by have := hvl a n c q; omega) fun w2 L b cap R hf2 hbw hp hs hrow hcap hR => ?_
 have cw2 := cur w2
 have hz2 := hf2.size
 have hll : L.length = l.length := by rw [hp.length_eq, List.length_range]
 have hpr := prd_demote (b := b) (p2 := w.heap.size) ((h.frN hf1).frN hf2) (fun a n c q => by have := hvl a n c q; omega) (hf2.getN g2) (by omega)
 simp (maxSteps:=9^7)(disch:=first|assumption|(simp only[dz];first|done|assumption|omega)|omega|apply_rules[Fr.refl,Fr.alloc,Fr.drew]|rfl) only [↓gd,gp,Nat.reduceAdd,Nat.reduceEqDiff, ↓hk142]
 refine delF_spec hrow hpr hll (fun x hx => by have := hp.mem_iff.1 hx; simpa using this) hb hcap hR fun w3 hf3 hsl => ?_
 have cw3 := cur w3
 have hff : (L.filter fun x => !(!hotI l x)) = L.filter (hotI l) := by congr 1; funext x; simp
 rw [hff] at hsl
 rw [hff]
 have hfl : (L.filter (hotI l)).length ≤ l.length := by rw [← hll]; exact List.length_filter_le _ _
 obtain ⟨F, hF⟩ : ∃ F, F = L.filter (hotI l) := ⟨_, rfl⟩
 rw [← hF] at hsl hfl ⊢
 have wr : IntKind.i64.wrap ((F.length : Int) - max most 0) = (F.length : Int) - max most 0 := wrap64 (by omega) (by omega)
 obtain ⟨k, hk⟩ : ∃ k, k = demN most F.length := ⟨_, rfl⟩
 have hk' : max ((F.length : Int) - max most 0) 0 = (k : Int) := by rw [hk]; unfold demN; omega
 have k2 := fun W => cut_high0 (P := Tryz.prog) Tryz.runUnderlying63 Tryz.sizeOf3 b F.length cap k (by omega) W
 simp (maxSteps:=9^7)(disch:=first|assumption|(simp only[dz];first|done|assumption|omega)|omega|apply_rules[Fr.refl,Fr.alloc,Fr.drew]|rfl) only [↓gd,gp,Nat.reduceAdd,Nat.reduceEqDiff, ↓hk142, wr, hk', k2]
 refine hK w3 L _ ((hf1.trans' hf2).trans hf3 fun y hy => by simp at hy; subst hy; exact .inr (by omega)) hp hs ?_ ⟨b, k, cap, rfl, by omega, ?_⟩
 ·rw [← hF, ← hk]
  exact sl_take hsl (by unfold demN at hk; omega)
 ·have := lt_of_get _ _ hrow
  have := hf3.size
  omega
end Go.Proofs.YtomlgkecckffeaaGreat
