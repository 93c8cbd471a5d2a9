/- The policy: the orders; places. -/
import Derived.Test.YtomlgkecckffeaaGreatP2
import Derived.Test.YtomlgkecckffeaaGreatS7
set_option linter.unusedVariables false
set_option linter.unusedSimpArgs false
set_option maxRecDepth 10000
namespace Go.Proofs.YtomlgkecckffeaaGreat
open Go.VW
theorem lexI_sw : SW fun a b : List Int => decide (lexI a b < 0) := by
 refine ⟨fun x => ?_, fun x => ?_⟩
 ·induction x with
  | nil => intro y; cases y <;> simp [lexI]
  | cons a x ih =>
    intro y
    cases y with
    | nil => simp [lexI]
    | cons b y =>
      have := ih y
      simp only [decide_eq_true_eq, decide_eq_false_iff_not, lex1] at *
      omega
 ·induction x with
  | nil => intro y z; cases y <;> cases z <;> simp [lexI]
  | cons a x ih =>
    intro y z
    cases y with
    | nil => cases z <;> simp [lexI]
    | cons b y =>
      cases z with
      | nil => simp [lexI]
      | cons c z =>
        have := ih y z
        simp only [decide_eq_true_eq, lex1] at *
        omega
theorem befE_sw : SW befE := by
 refine ⟨fun x y h => ?_, fun x y z h => ?_⟩
 ·unfold befE at *
  rw [← before_eq] at *
  exact lexI_sw.asym _ _ h
 ·unfold befE at *
  rw [← before_eq] at *
  rw [← before_eq]
  exact lexI_sw.ntr _ _ _ h
def oldE (a b : Ent) : Bool := decide (a.stamp < b.stamp ∨ a.stamp = b.stamp ∧ a.ins < b.ins)
theorem oldE_sw : SW oldE := by
 refine ⟨fun x y h => ?_, fun x y z h => ?_⟩
 ·unfold oldE at *
  simp only [decide_eq_true_eq, decide_eq_false_iff_not] at *
  omega
 ·unfold oldE at *
  simp only [decide_eq_true_eq] at *
  omega
def OrdAt (g : Nat) (lt : Ent → Ent → Bool) : Prop :=
 ∀ (a b : Ent) (w : World) (K : Value → World → Prop), (∀ (r : Int) (w' : World), Fr [] w w' → decide (r < 0) = lt a b → K (.int .i64 r) w') → nx Tryz.prog (xcall (.func (.func g) #[] #[]) [.agg (encEnt a).toArray, .agg (encEnt b).toArray]) w K
theorem ord_compare : OrdAt 87 befE := by
 intro a b w K hK
 rw [nx_xcall Tryz.call87]
 exact compare_spec fun w' hf => hK _ w' hf (before_eq _ _)
def orL : List Int → Int
 | [] => 0
 | x :: r => if x ≠ 0 then x else orL r
theorem or_spec {w : World} {v : Value} {X : List Int} {K : Value → World → Prop} (h : SlOf 1 encI1 w v X) (hb : X.length ≤ 1000) (hK : ∀ w', Fr [] w w' → K (.int .i64 (orL X)) w') : CallsN Tryz.prog 181 [v] w K := by
 have cw := cur w
 obtain ⟨va, vc, hv⟩ := h.form
 refine call181 ?_
 simp (maxSteps:=9^7)(disch:=first|assumption|(simp only[dz];first|done|assumption|omega)|omega|apply_rules[Fr.refl,Fr.alloc,Fr.drew]|rfl) only [↓gd,gp,Nat.reduceAdd,Nat.reduceEqDiff, ↓hk181, hv]
 rw [← hv]
 refine for_intro X.length 8 0 (fun i e w' => e 3 = .int .i64 0 ∧ e 6 = v ∧ e 7 = .int .i64 X.length ∧ orL X = orL (X.drop i) ∧ Fr [] w w') ?_ (Nat.zero_le _) ?_ ?_
 ·simp (maxSteps:=9^7)(disch:=first|assumption|(simp only[dz];first|done|assumption|omega)|omega|apply_rules[Fr.refl,Fr.alloc,Fr.drew]|rfl) only [↓gsd,gs,gv,Nat.reduceAdd,Nat.reduceEqDiff, Int.natCast_zero]
 ·simp (maxSteps:=9^7)(disch:=first|assumption|(simp only[dz];first|done|assumption|omega)|omega|apply_rules[Fr.refl,Fr.alloc,Fr.drew]|rfl) only [↓gsd,gs,gv,Nat.reduceAdd,Nat.reduceEqDiff, hv]
  exact Fr.refl _ _
 rintro i e w1 kk hi eS ⟨e3, e6, e7, ho, hf⟩ hkk
 have cw1 := cur w1
 by_cases hil : i < X.length
 ·have d1 : decide ((i : Int) < (X.length : Int)) = true := decide_eq_true (by omega)
  obtain ⟨x, hx⟩ : ∃ x, X[i]? = some x := ⟨X[i], List.getElem?_eq_getElem hil⟩
  obtain ⟨b1, o1, p1, ob1, hv1, hb1, _, _, hc1⟩ := (h.frN hf).read encI1_len i x hx
  have q1 := fun orig K => hc1 0 (.int .i64 x) orig K rfl
  simp only [Nat.add_zero, Nat.mul_one] at q1
  have i0 : (0 : Int) ≤ (i : Int) := by omega
  have i1 : (i : Int) < (X.length : Int) := by omega
  have wi : IntKind.i64.wrap ((i : Int) + 1) = (i : Int) + 1 := wrap64 (by omega) (by omega)
  have dX : X.drop i = x :: X.drop (i + 1) := by
   obtain ⟨g1, g2⟩ := List.getElem?_eq_some_iff.1 hx
   rw [List.drop_eq_getElem_cons g1, g2]
  rw [dX, orL] at ho
  by_cases hx0 : x = 0
  ·have d2 : decide (x = 0) = true := decide_eq_true hx0
   rw [if_neg (by simpa using hx0)] at ho
   simp (maxSteps:=9^7)(disch:=first|assumption|(simp only[dz];first|done|assumption|omega)|omega|apply_rules[Fr.refl,Fr.alloc,Fr.drew]|rfl) only [↓gd,gp,Nat.reduceAdd,Nat.reduceEqDiff, ↓hk181, e3, e6, e7, eS, hv1, d1, d2, i0, i1, Int.toNat_natCast, Nat.mul_one, hb1, q1, wi]
   refine hkk _ _ hil rfl ?_
   simp (maxSteps:=9^7)(disch:=first|assumption|(simp only[dz];first|done|assumption|omega)|omega|apply_rules[Fr.refl,Fr.alloc,Fr.drew]|rfl) only [↓gsd,gs,gv,Nat.reduceAdd,Nat.reduceEqDiff, e3, e6, e7, hv1]
   exact ⟨ho, hf⟩
  ·have d2 : decide (x = 0) = false := decide_eq_false hx0
   rw [if_pos hx0] at ho
   rw [ho] at hK
   simp (maxSteps:=9^7)(disch:=first|assumption|(simp only[dz];first|done|assumption|omega)|omega|apply_rules[Fr.refl,Fr.alloc,Fr.drew]|rfl) only [↓gd,gp,Nat.reduceAdd,Nat.reduceEqDiff, ↓hk181, e3, e6, e7, eS, hv1, d1, d2, i0, i1, Int.toNat_natCast, Nat.mul_one, hb1, q1, wi]
   exact hK _ hf
 ·have d1 : decide ((i : Int) < (X.length : Int)) = false := decide_eq_false (by omega)
  rw [List.drop_of_length_le (by omega)] at ho
  have ho' : orL X = 0 := ho
  rw [ho'] at hK
  simp (maxSteps:=9^7)(disch:=first|assumption|(simp only[dz];first|done|assumption|omega)|omega|apply_rules[Fr.refl,Fr.alloc,Fr.drew]|rfl) only [↓gd,gp,Nat.reduceAdd,Nat.reduceEqDiff, ↓hk181, e3, e6, e7, eS, d1]
  exact hK _ hf
theorem or_old (a b : Ent) : decide (orL [cmpI a.stamp b.stamp, cmpI a.ins b.ins] < 0) = oldE a b := by
 unfold oldE orL orL orL
 rcases Int.lt_trichotomy a.stamp b.stamp with h | h | h
 ·rw [cmpI_lt h]; simp; omega
 ·rw [h, cmpI_eq]
  rcases Int.lt_trichotomy a.ins b.ins with h2 | h2 | h2
  ·rw [cmpI_lt h2]; simp; omega
  ·rw [h2, cmpI_eq]; simp
  ·rw [cmpI_gt h2]; simp; omega
 ·rw [cmpI_gt h]; simp; omega
set_option maxHeartbeats 4000000 in
theorem ord_old : OrdAt 180 oldE := by
 intro a b w K hK
 rw [nx_xcall Tryz.call180]
 have cw := cur w
 refine call180 ?_
 unfold encEnt
 simp (maxSteps:=9^7)(disch:=first|assumption|(simp only[dz];first|done|assumption|omega)|omega|apply_rules[Fr.refl,Fr.alloc,Fr.drew]|rfl) only [↓gd,gp,Nat.reduceAdd,Nat.reduceEqDiff, ↓hk180]
 generalize hW : World.alloc (World.alloc w _) _ = w1
 have hf1 : Fr [] w w1 := by rw [← hW]; exact fr_
 clear hW
 have cw1 := cur w1
 refine cmp_spec ?_
 try simp (maxSteps:=9^7)(disch:=first|assumption|(simp only[dz];first|done|assumption|omega)|omega|apply_rules[Fr.refl,Fr.alloc,Fr.drew]|rfl) only [↓gd,gp,Nat.reduceAdd,Nat.reduceEqDiff, ↓hk180]
 refine cmp_spec ?_
 try simp (maxSteps:=9^7)(disch:=first|assumption|(simp only[dz];first|done|assumption|omega)|omega|apply_rules[Fr.refl,Fr.alloc,Fr.drew]|rfl) only [↓gd,gp,Nat.reduceAdd,Nat.reduceEqDiff, ↓hk180]
 refine or_spec (X := [cmpI a.stamp b.stamp, cmpI a.ins b.ins]) ?_ (by simp) fun w2 hf2 => hK _ _ (hf1.trans' (Fr.trans' (((Fr.refl _ _).drew).alloc _) hf2)) (or_old a b)
 exact ⟨rfl, .inr ⟨w1.heap.size, 0, 2, _, 3, (0, 0), rfl, get_alloc_new w1.drew _, rfl⟩⟩
def ltI (lt : Ent → Ent → Bool) (l : Ents) (i j : Nat) : Bool := lt ((l[i]?).getD entZ) ((l[j]?).getD entZ)
theorem ltI_sw {lt : Ent → Ent → Bool} (h : SW lt) (l : Ents) : SW (ltI lt l) := ⟨fun x y => h.asym _ _, fun x y z => h.ntr _ _ _⟩
theorem cmp_places {g : Nat} {lt : Ent → Ent → Bool} (ho : OrdAt g lt) {w : World} {v : Value} {l : Ents} {b p2 p3 : Nat} (h : SlOf 8 encEnt w v l) (hoff : offV v b) (h2 : w.heap[p2]? = some (.cells ([v] : List Value).toArray 41 (0, 0))) (h3 : w.heap[p3]? = some (.cells ([.func (.func g) #[] #[]] : List Value).toArray 141 (0, 0)))
  (hb2 : p2 ≠ b) (hb3 : p3 ≠ b) (hbl : b < w.heap.size) : CmpAt b w (.func (.func 146) #[] #[.pointer (some ⟨p3, 0, none⟩), .pointer (some ⟨p2, 0, none⟩)]) l.length (ltI lt l) := by
 intro w1 x y K hf hx hy hK
 have cw1 := cur w1
 rw [nx_xcall Tryz.call146]
 have h1 := h.fr hf (by intro q hq; simp at hq; subst hq; exact hoff)
 have h21 := hf.get h2 (by simp; exact hb2)
 have h31 := hf.get h3 (by simp; exact hb3)
 obtain ⟨ex, hex⟩ : ∃ e, l[x]? = some e := ⟨l[x], List.getElem?_eq_getElem hx⟩
 obtain ⟨ey, hey⟩ : ∃ e, l[y]? = some e := ⟨l[y], List.getElem?_eq_getElem hy⟩
 obtain ⟨b1, o1, p1, ob1, hv1, hb1, hbl1, hr1, _⟩ := h1.read encEnt_len x ex hex
 obtain ⟨b2, o2, p2', ob2, hv2, hb2', hbl2, hr2, _⟩ := h1.read encEnt_len y ey hey
 rw [hv1] at hv2
 simp only [Value.slice.injEq, Option.some.injEq, Addr.mk.injEq] at hv2
 obtain ⟨⟨rfl, rfl, _⟩, _, rfl⟩ := hv2
 rw [hb1] at hb2'
 cases hb2'
 have x0 : (0 : Int) ≤ (x : Int) := by omega
 have x1 : (x : Int) < (l.length : Int) := by omega
 have y0 : (0 : Int) ≤ (y : Int) := by omega
 have y1 : (y : Int) < (l.length : Int) := by omega
 rw [hv1] at h21
 unfold encEnt at hr1 hr2
 have ha : [Value.int .i64 (x : Int), .int .i64 (y : Int)] ++ (#[Value.pointer (some ⟨p3, 0, none⟩), .pointer (some ⟨p2, 0, none⟩)] : Array Value).toList = [.int .i64 x, .int .i64 y, .pointer (some ⟨p3, 0, none⟩), .pointer (some ⟨p2, 0, none⟩)] := rfl
 rw [ha]
 refine call146 ?_
 simp (maxSteps:=9^7)(disch:=first|assumption|(simp only[dz];first|done|assumption|omega)|omega|apply_rules[Fr.refl,Fr.alloc,Fr.drew]|rfl) only [↓gd,gp,Nat.reduceAdd,Nat.reduceEqDiff, ↓hk146, h21, h31, x0, x1, y0, y1, Int.toNat_natCast, hb1, hr1, hr2]
 have hlt : ltI lt l x y = lt ex ey := by unfold ltI; rw [hex, hey]; rfl
 refine ho ex ey _ _ fun r w2 hf2 hr => ?_
 exact hK r w2 fr_ (by rw [hlt]; exact hr)
abbrev encN (i : Nat) : List Value := [.int .i64 i]
theorem encN_cells (l : List Nat) : cellsOf encN l = l.map fun i : Nat => Value.int .i64 i := by
 induction l with
 | nil => rfl
 | cons a l ih => simp only [cellsOf, List.flatMap_cons, List.map_cons] at *; rw [ih]; rfl
theorem row_of_own {w : World} {v : Value} {L : List Nat} (h : Own 1 3 w v L.length (cellsOf encN L)) (h0 : 0 < L.length) : ∃ b cap R, v = rowV b L.length cap ∧ RowI w b L R ∧ L.length ≤ cap ∧ (L.length + R.length = cap) := by
 rcases h.2 with ⟨_, e⟩ | ⟨g, cap, cur', rfl, _⟩
 ·omega
 ·obtain ⟨D, hb, hD, hnc, hcm, hT⟩ := own_blkD h
  refine ⟨g, cap, D.drop L.length, rfl, ?_, hnc, ?_⟩
  ·unfold RowI rowO
   rw [← encN_cells, ← hT, Nat.mul_one, List.take_append_drop]
   exact hb
  ·rw [List.length_drop, hD]; omega
set_option maxHeartbeats 4000000 in
theorem places_spec {g : Nat} {lt : Ent → Ent → Bool} (ho : OrdAt g lt) (hsw : SW lt) {w : World} {v : Value} {l : Ents} {K : Value → World → Prop} (h : SlOf 8 encEnt w v l) (h0 : 0 < l.length) (hb : l.length ≤ 1000000000) (hvl : ∀ a n c, v = .slice (some a) n c → a.block < w.heap.size)
  (hK : ∀ w' L b cap R, Fr [] w w' → w.heap.size ≤ b → L.Perm (List.range l.length) → SortL (ltI lt l) L → RowI w' b L R → l.length ≤ cap → l.length + R.length = cap → K (rowV b l.length cap) w') :
  CallsN Tryz.prog 86 [v, .func (.func g) #[] #[]] w K := by
 have cw := cur w
 obtain ⟨va, vc, hv⟩ := h.form
 refine call86 ?_
 simp (maxSteps:=9^7)(disch:=first|assumption|(simp only[dz];first|done|assumption|omega)|omega|apply_rules[Fr.refl,Fr.alloc,Fr.drew]|rfl) only [↓gd,gp,Nat.reduceAdd,Nat.reduceEqDiff, ↓hk86, hv]
 generalize hW : World.alloc (World.alloc w _) _ = w1
 have hf1 : Fr [] w w1 := by rw [← hW]; exact fr_
 have hsz : w1.heap.size = w.heap.size + 1 + 1 := by rw [← hW]; simp only [gz]
 have g2 : w1.heap[w.heap.size]? = some (.cells ([v] : List Value).toArray 41 (0, 0)) := by rw [← hW, hv]; simp (maxSteps:=9^7)(disch:=first|assumption|(simp only[dz];first|done|assumption|omega)|omega|apply_rules[Fr.refl,Fr.alloc,Fr.drew]|rfl) only [↓gsd,gs,gv,Nat.reduceAdd,Nat.reduceEqDiff]
 have g3 : w1.heap[w.heap.size + 1]? = some (.cells ([.func (.func g) #[] #[]] : List Value).toArray 141 (0, 0)) := by rw [← hW]; simp (maxSteps:=9^7)(disch:=first|assumption|(simp only[dz];first|done|assumption|omega)|omega|apply_rules[Fr.refl,Fr.alloc,Fr.drew]|rfl) only [↓gsd,gs,gv,Nat.reduceAdd,Nat.reduceEqDiff]
 clear hW
 have cw1 := cur w1
 refine for_intro l.length 9 0 (fun i e w' => ∃ vo, e 2 = .pointer (some ⟨w.heap.size, 0, none⟩) ∧ e 3 = .pointer (some ⟨w.heap.size + 1, 0, none⟩) ∧ e 5 = vo ∧ e 8 = .int .i64 l.length ∧ Own 1 3 w' vo i (cellsOf encN (List.range i)) ∧ (∀ x, vo.ownBlock = some x → w1.heap.size ≤ x) ∧ Fr [] w1 w') ?_ (Nat.zero_le _) ?_ ?_
 ·simp (maxSteps:=9^7)(disch:=first|assumption|(simp only[dz];first|done|assumption|omega)|omega|apply_rules[Fr.refl,Fr.alloc,Fr.drew]|rfl) only [↓gsd,gs,gv,Nat.reduceAdd,Nat.reduceEqDiff, Int.natCast_zero]
 ·refine ⟨sliceZ, ?_⟩
  simp (maxSteps:=9^7)(disch:=first|assumption|(simp only[dz];first|done|assumption|omega)|omega|apply_rules[Fr.refl,Fr.alloc,Fr.drew]|rfl) only [↓gsd,gs,gv,Nat.reduceAdd,Nat.reduceEqDiff]
  exact ⟨Own.nil, fun x hx => by simp [Value.ownBlock] at hx, Fr.refl _ _⟩
 rintro i e w2 kk hi eS ⟨vo, e2, e3, e5, e8, hown, hbk, hf2⟩ hkk
 have cw2 := cur w2
 have hz2 := hf2.size
 by_cases hil : i < l.length
 ·have d1 : decide ((i : Int) < (l.length : Int)) = true := decide_eq_true (by omega)
  have wi : IntKind.i64.wrap ((i : Int) + 1) = (i : Int) + 1 := wrap64 (by omega) (by omega)
  obtain ⟨oa, oc, hvo⟩ := hown.sl.form
  have hsl : Sl 1 (w2.alloc (.cells ([.int .i64 (i : Int)] : List Value).toArray 3)) (.slice (some ⟨w2.heap.size, 0, none⟩) 1 1) 1 [.int .i64 (i : Int)] := ⟨rfl, .inr ⟨_, 0, 1, _, 3, (0, 0), rfl, get_alloc_new _ _, rfl⟩⟩
  have ho2 : Own 1 3 (w2.alloc (.cells ([.int .i64 (i : Int)] : List Value).toArray 3)) vo i (cellsOf encN (List.range i)) := Go.Proofs.YtomlgkecckffeaaGreat.Own.frN hown fr_
  obtain ⟨v3, w3, hr3, hown3, hf3, hbk3⟩ := ap63 (ty := 63) ho2 hsl rfl (by omega)
  have cw3 := cur w3
  rw [hvo] at hr3
  simp (maxSteps:=9^7)(disch:=first|assumption|(simp only[dz];first|done|assumption|omega)|omega|apply_rules[Fr.refl,Fr.alloc,Fr.drew]|rfl) only [↓gd,gp,Nat.reduceAdd,Nat.reduceEqDiff, ↓hk86, e2, e3, e5, e8, eS, d1, hvo, hr3, wi]
  refine hkk _ _ hil rfl ⟨v3, ?_⟩
  simp (maxSteps:=9^7)(disch:=first|assumption|(simp only[dz];first|done|assumption|omega)|omega|apply_rules[Fr.refl,Fr.alloc,Fr.drew]|rfl) only [↓gsd,gs,gv,Nat.reduceAdd,Nat.reduceEqDiff, e2, e3, e5, e8]
  refine ⟨?_, fun x hx => ?_, (hf2.alloc _).trans hf3 fun y hy => .inr (hbk y (mem_blkL.1 hy))⟩
  ·rw [List.range_succ, cellsOf_append]; exact hown3
  ·rcases hbk3 with q | ⟨b', q1, q2⟩
   ·exact hbk x (q ▸ hx)
   ·rw [q1] at hx; cases hx; rw [size_alloc] at q2; omega
 ·have d1 : decide ((i : Int) < (l.length : Int)) = false := decide_eq_false (by omega)
  obtain rfl : i = l.length := by omega
  have hown' : Own 1 3 w2 vo (List.range l.length).length (cellsOf encN (List.range l.length)) := by rw [List.length_range]; exact hown
  obtain ⟨b, cap, R, hvo, hrow, hcap, hcl⟩ := row_of_own hown' (by rw [List.length_range]; exact h0)
  rw [List.length_range] at hvo hcap hcl
  subst hvo
  have hbw := hbk b rfl
  have hbl2 := lt_of_get _ _ hrow
  have h1 := (h.frN hf1).frN hf2
  have hc := cmp_places (g := g) (lt := lt) ho h1 (b := b) (p2 := w.heap.size) (p3 := w.heap.size + 1) (fun a n c q => by have := hvl a n c q; omega) (hf2.getN g2) (hf2.getN g3) (by omega) (by omega) hbl2
  simp (maxSteps:=9^7)(disch:=first|assumption|(simp only[dz];first|done|assumption|omega)|omega|apply_rules[Fr.refl,Fr.alloc,Fr.drew]|rfl) only [↓gd,gp,Nat.reduceAdd,Nat.reduceEqDiff, ↓hk86, e2, e3, e5, e8, eS, d1]
  refine sort_spec (ltI_sw hsw l) hrow hc (by rw [List.length_range]) (fun x hx => List.mem_range.1 hx) (by omega) fun w3 L' hf3 hp hs hrow3 => ?_
  have cw3 := cur w3
  simp (maxSteps:=9^7)(disch:=first|assumption|(simp only[dz];first|done|assumption|omega)|omega|apply_rules[Fr.refl,Fr.alloc,Fr.drew]|rfl) only [↓gd,gp,Nat.reduceAdd,Nat.reduceEqDiff, ↓hk86, e2, e3, e5, e8]
  exact hK w3 L' b cap R ((hf1.trans' hf2).trans hf3 fun y hy => by simp at hy; subst hy; exact .inr (by omega)) (by omega) hp hs hrow3 hcap hcl
end Go.Proofs.YtomlgkecckffeaaGreat
