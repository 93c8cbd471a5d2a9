/- codec: IndexFunc, ContainsFunc. codec: numbers. codec: things, Check. -/
import Derived.Test.YtgloomahpjpiiaaGreatO3
set_option linter.unusedVariables false
set_option linter.unusedSimpArgs false
set_option maxRecDepth 10000
namespace Go.Proofs.YtgloomahpjpiiaaGreat.Or
open Go.VW
theorem any_take_snoc {α : Type} {l : List α} {i : Nat} {y : α} (h : l[i]? = some y) {p : α → Bool} (h0 : (l.take i).any p = false) (hp : p y = false) : (l.take (i + 1)).any p = false := by
 rw [List.take_add_one, h, List.any_append, h0]; simp [hp]
theorem any_of_get {α : Type} {l : List α} {i : Nat} {y : α} (h : l[i]? = some y) {p : α → Bool} (hp : p y = true) : l.any p = true := List.any_eq_true.2 ⟨y, List.mem_of_getElem? h, hp⟩
set_option maxHeartbeats 4000000 in
theorem idxW_spec {w : World} {v : Value} {ws : List St.Wr} {K : Value → World → Prop} (h : SlOf 3 St.encWr w v ws) (hl : ws.length ≤ 9223372036854775807)
  (hK : ∀ (i : Int) w', Fr [] w w' → decide (0 ≤ i) = ws.any badW → K (.int .i64 i) w') : CallsN Tryz.prog 97 [v, .func (.func 80) #[] #[]] w K := by
 have cw := cur w
 obtain ⟨va, vc, hv⟩ := h.form
 refine call97 ?_
 simp (maxSteps:=4000000)(disch:=first|assumption|(simp only[dz];first|done|assumption|omega)|omega|apply_rules[Fr.refl,Fr.alloc,Fr.drew]|rfl) only [↓gd,gp,Nat.reduceAdd,Nat.reduceEqDiff, ↓hk97, hv]
 rw [← hv]
 refine for_intro ws.length 8 0 (fun i e w' => e 0 = v ∧ e 1 = .func (.func 80) #[] #[] ∧ e 7 = .int .i64 ws.length ∧ (ws.take i).any badW = false ∧ Fr [] w w') ?_ (Nat.zero_le _) ?_ ?_
 ·simp (maxSteps:=4000000)(disch:=first|assumption|(simp only[dz];first|done|assumption|omega)|omega|apply_rules[Fr.refl,Fr.alloc,Fr.drew]|rfl) only [↓gsd,gs,gv,Nat.reduceAdd,Nat.reduceEqDiff]; rfl
 ·simp (maxSteps:=4000000)(disch:=first|assumption|(simp only[dz];first|done|assumption|omega)|omega|apply_rules[Fr.refl,Fr.alloc,Fr.drew]|rfl) only [↓gsd,gs,gv,Nat.reduceAdd,Nat.reduceEqDiff, hv]
  exact ⟨rfl, Fr.refl _ _⟩
 rintro i e w1 kk hi e8 ⟨e0, e1, e7, hno, hf⟩ hk
 have cw1 := cur w1
 by_cases hil : i < ws.length
 ·have d : decide ((i : Int) < (ws.length : Int)) = true := decide_eq_true (by omega)
  obtain ⟨y, hy⟩ : ∃ y, ws[i]? = some y := ⟨ws[i], List.getElem?_eq_getElem hil⟩
  obtain ⟨bb, off, cap, ob, hv1, hob, _, hrow, _⟩ := (h.frN hf).read St.encWr_len i y hy
  have i0 : (0 : Int) ≤ (i : Int) := by omega
  have i1 : (i : Int) < (ws.length : Int) := by omega
  have wr : IntKind.i64.wrap ((i : Int) + 1) = (i : Int) + 1 := wrap64 (by omega) (by omega)
  simp (maxSteps:=4000000)(disch:=first|assumption|(simp only[dz];first|done|assumption|omega)|omega|apply_rules[Fr.refl,Fr.alloc,Fr.drew]|rfl) only [↓gd,gp,Nat.reduceAdd,Nat.reduceEqDiff, ↓hk97, e0, e1, e7, e8, hv1, d, i0, i1, Int.toNat_natCast, hob, hrow]
  refine badW_spec fun w2 hf2 => ?_
  have cw2 := cur w2
  cases q : badW y with
  | true =>
    simp (maxSteps:=4000000)(disch:=first|assumption|(simp only[dz];first|done|assumption|omega)|omega|apply_rules[Fr.refl,Fr.alloc,Fr.drew]|rfl) only [↓gd,gp,Nat.reduceAdd,Nat.reduceEqDiff, ↓hk97, q]
    exact hK _ _ (hf.trans' hf2) (by rw [any_of_get hy q]; exact decide_eq_true i0)
  | false =>
    simp (maxSteps:=4000000)(disch:=first|assumption|(simp only[dz];first|done|assumption|omega)|omega|apply_rules[Fr.refl,Fr.alloc,Fr.drew]|rfl) only [↓gd,gp,Nat.reduceAdd,Nat.reduceEqDiff, ↓hk97, q, e0, e1, e7, e8, wr]
    refine hk _ _ hil rfl ?_
    simp (maxSteps:=4000000)(disch:=first|assumption|(simp only[dz];first|done|assumption|omega)|omega|apply_rules[Fr.refl,Fr.alloc,Fr.drew]|rfl) only [↓gsd,gs,gv,Nat.reduceAdd,Nat.reduceEqDiff, e0, e1, e7, hv1]
    exact ⟨any_take_snoc hy hno q, hf.trans' hf2⟩
 ·have d : decide ((i : Int) < (ws.length : Int)) = false := decide_eq_false (by omega)
  rw [List.take_of_length_le (by omega)] at hno
  simp (maxSteps:=4000000)(disch:=first|assumption|(simp only[dz];first|done|assumption|omega)|omega|apply_rules[Fr.refl,Fr.alloc,Fr.drew]|rfl) only [↓gd,gp,Nat.reduceAdd,Nat.reduceEqDiff, ↓hk97, e0, e1, e7, e8, d]
  exact hK _ _ hf (by rw [hno]; rfl)
theorem cntW_spec {w : World} {v : Value} {ws : List St.Wr} {K : Value → World → Prop} (h : SlOf 3 St.encWr w v ws) (hl : ws.length ≤ 9223372036854775807)
  (hK : ∀ w', Fr [] w w' → K (.bool (ws.any badW)) w') : CallsN Tryz.prog 83 [v, .func (.func 80) #[] #[]] w K := by
 have cw := cur w
 refine call83 ?_
 simp (maxSteps:=4000000)(disch:=first|assumption|(simp only[dz];first|done|assumption|omega)|omega|apply_rules[Fr.refl,Fr.alloc,Fr.drew]|rfl) only [↓gd,gp,Nat.reduceAdd,Nat.reduceEqDiff, ↓hk83]
 refine idxW_spec h hl fun i w2 hf2 hi => ?_
 have cw2 := cur w2
 simp (maxSteps:=4000000)(disch:=first|assumption|(simp only[dz];first|done|assumption|omega)|omega|apply_rules[Fr.refl,Fr.alloc,Fr.drew]|rfl) only [↓gd,gp,Nat.reduceAdd,Nat.reduceEqDiff, ↓hk83, hi]
 exact hK _ hf2
set_option maxHeartbeats 4000000 in
theorem idxS_spec {w : World} {v : Value} {ks : List ByteArray} {K : Value → World → Prop} (h : SlOf 1 Sm.encS w v ks) (hl : ks.length ≤ 9223372036854775807)
  (hK : ∀ (i : Int) w', Fr [] w w' → decide (0 ≤ i) = ks.any (fun k => !gKey k) → K (.int .i64 i) w') : CallsN Tryz.prog 98 [v, .func (.func 85) #[] #[]] w K := by
 have cw := cur w
 obtain ⟨va, vc, hv⟩ := h.form
 refine call98 ?_
 simp (maxSteps:=4000000)(disch:=first|assumption|(simp only[dz];first|done|assumption|omega)|omega|apply_rules[Fr.refl,Fr.alloc,Fr.drew]|rfl) only [↓gd,gp,Nat.reduceAdd,Nat.reduceEqDiff, ↓hk98, hv]
 rw [← hv]
 refine for_intro ks.length 8 0 (fun i e w' => e 0 = v ∧ e 1 = .func (.func 85) #[] #[] ∧ e 7 = .int .i64 ks.length ∧ (ks.take i).any (fun k => !gKey k) = false ∧ Fr [] w w') ?_ (Nat.zero_le _) ?_ ?_
 ·simp (maxSteps:=4000000)(disch:=first|assumption|(simp only[dz];first|done|assumption|omega)|omega|apply_rules[Fr.refl,Fr.alloc,Fr.drew]|rfl) only [↓gsd,gs,gv,Nat.reduceAdd,Nat.reduceEqDiff]; rfl
 ·simp (maxSteps:=4000000)(disch:=first|assumption|(simp only[dz];first|done|assumption|omega)|omega|apply_rules[Fr.refl,Fr.alloc,Fr.drew]|rfl) only [↓gsd,gs,gv,Nat.reduceAdd,Nat.reduceEqDiff, hv]
  exact ⟨rfl, Fr.refl _ _⟩
 rintro i e w1 kk hi e8 ⟨e0, e1, e7, hno, hf⟩ hk
 have cw1 := cur w1
 by_cases hil : i < ks.length
 ·have d : decide ((i : Int) < (ks.length : Int)) = true := decide_eq_true (by omega)
  obtain ⟨y, hy⟩ : ∃ y, ks[i]? = some y := ⟨ks[i], List.getElem?_eq_getElem hil⟩
  obtain ⟨bb, off, cap, ob, hv1, hob, _, _, hcell⟩ := (h.frN hf).read Sm.encS_len i y hy
  have hc0 := fun orig K => hcell 0 (.string y) orig K rfl
  simp only [Nat.add_zero, Nat.mul_one] at hc0
  have i0 : (0 : Int) ≤ (i : Int) := by omega
  have i1 : (i : Int) < (ks.length : Int) := by omega
  have wr : IntKind.i64.wrap ((i : Int) + 1) = (i : Int) + 1 := wrap64 (by omega) (by omega)
  simp (maxSteps:=4000000)(disch:=first|assumption|(simp only[dz];first|done|assumption|omega)|omega|apply_rules[Fr.refl,Fr.alloc,Fr.drew]|rfl) only [↓gd,gp,Nat.reduceAdd,Nat.reduceEqDiff, ↓hk98, e0, e1, e7, e8, hv1, d, i0, i1, Int.toNat_natCast, Nat.mul_one, hob, hc0]
  refine badS_spec fun w2 hf2 => ?_
  have cw2 := cur w2
  cases q : gKey y with
  | false =>
    simp (maxSteps:=4000000)(disch:=first|assumption|(simp only[dz];first|done|assumption|omega)|omega|apply_rules[Fr.refl,Fr.alloc,Fr.drew]|rfl) only [↓gd,gp,Nat.reduceAdd,Nat.reduceEqDiff, ↓hk98, q]
    exact hK _ _ (hf.trans' hf2) (by rw [any_of_get hy (by rw [q]; rfl)]; exact decide_eq_true i0)
  | true =>
    simp (maxSteps:=4000000)(disch:=first|assumption|(simp only[dz];first|done|assumption|omega)|omega|apply_rules[Fr.refl,Fr.alloc,Fr.drew]|rfl) only [↓gd,gp,Nat.reduceAdd,Nat.reduceEqDiff, ↓hk98, q, e0, e1, e7, e8, wr]
    refine hk _ _ hil rfl ?_
    simp (maxSteps:=4000000)(disch:=first|assumption|(simp only[dz];first|done|assumption|omega)|omega|apply_rules[Fr.refl,Fr.alloc,Fr.drew]|rfl) only [↓gsd,gs,gv,Nat.reduceAdd,Nat.reduceEqDiff, e0, e1, e7, hv1]
    exact ⟨any_take_snoc hy hno (by rw [q]; rfl), hf.trans' hf2⟩
 ·have d : decide ((i : Int) < (ks.length : Int)) = false := decide_eq_false (by omega)
  rw [List.take_of_length_le (by omega)] at hno
  simp (maxSteps:=4000000)(disch:=first|assumption|(simp only[dz];first|done|assumption|omega)|omega|apply_rules[Fr.refl,Fr.alloc,Fr.drew]|rfl) only [↓gd,gp,Nat.reduceAdd,Nat.reduceEqDiff, ↓hk98, e0, e1, e7, e8, d]
  exact hK _ _ hf (by rw [hno]; rfl)
theorem cntS_spec {w : World} {v : Value} {ks : List ByteArray} {K : Value → World → Prop} (h : SlOf 1 Sm.encS w v ks) (hl : ks.length ≤ 9223372036854775807)
  (hK : ∀ w', Fr [] w w' → K (.bool (ks.any fun k => !gKey k)) w') : CallsN Tryz.prog 86 [v, .func (.func 85) #[] #[]] w K := by
 have cw := cur w
 refine call86 ?_
 simp (maxSteps:=4000000)(disch:=first|assumption|(simp only[dz];first|done|assumption|omega)|omega|apply_rules[Fr.refl,Fr.alloc,Fr.drew]|rfl) only [↓gd,gp,Nat.reduceAdd,Nat.reduceEqDiff, ↓hk86]
 refine idxS_spec h hl fun i w2 hf2 hi => ?_
 have cw2 := cur w2
 simp (maxSteps:=4000000)(disch:=first|assumption|(simp only[dz];first|done|assumption|omega)|omega|apply_rules[Fr.refl,Fr.alloc,Fr.drew]|rfl) only [↓gd,gp,Nat.reduceAdd,Nat.reduceEqDiff, ↓hk86, hi]
 exact hK _ hf2
end Go.Proofs.YtgloomahpjpiiaaGreat.Or
namespace Go.Proofs.YtgloomahpjpiiaaGreat.Or
open Go.VW
def tailB (sq ic on : Bool) (m : Msg) : Bool := (!sq || btw m.seq 1 2147483647) && ((!ic || btw m.inc 1 2147483647) && (!on || decide ((1 : Int) ≤ m.n)))
def numsB (m : Msg) : Bool := btw m.node 0 7 && (btw m.ses 0 63 && (btw m.tx 0 255 && (btw m.err 0 255 && (btw m.n 0 1099511627776 && tailB (decide (m.kind ≤ 6)) (decide (m.kind = 10) || decide (m.kind = 11)) (decide (m.kind = 8) || decide (m.kind = 9)) m))))
set_option maxHeartbeats 16000000 in
theorem nums_tail {m : Msg} {w : World} {b : Nat} {sq ic on : Bool} {e : Env} {K : Value → World → Prop} (g : w.heap[b]? = some (.cells (encMsg m).toArray 40 (0, 0))) (e1 : e 1 = .pointer (some ⟨b, 0, none⟩)) (e3 : e 3 = .int .i64 2147483647) (e4 : e 4 = .bool sq) (e5 : e 5 = .bool ic) (e6 : e 6 = .bool on)
  (hK : K (.bool (tailB sq ic on m)) w) : W3 Tryz.prog 79 V53 c53_7 (retQ Tryz.prog [.tmp 2] K) e w := by
 have cw := cur w
 have lb := lt_of_get _ _ g
 unfold encMsg at g
 unfold tailB at hK
 have hIn : ∀ (e' : Env), True := fun _ => trivial
 cases sq with
 | false =>
   cases ic with
   | false =>
     cases on with
     | false =>
       simp (maxSteps:=4000000)(disch:=first|assumption|(simp only[dz];first|done|assumption|omega)|omega|apply_rules[Fr.refl,Fr.alloc,Fr.drew]|rfl) only [↓gd,gp,Nat.reduceAdd,Nat.reduceEqDiff, ↓hk53, e1, e3, e4, e5, e6]
       exact hK
     | true =>
       simp (maxSteps:=4000000)(disch:=first|assumption|(simp only[dz];first|done|assumption|omega)|omega|apply_rules[Fr.refl,Fr.alloc,Fr.drew]|rfl) only [↓gd,gp,Nat.reduceAdd,Nat.reduceEqDiff, ↓hk53, e1, e3, e4, e5, e6, g]
       simpa using hK
   | true =>
     simp (maxSteps:=4000000)(disch:=first|assumption|(simp only[dz];first|done|assumption|omega)|omega|apply_rules[Fr.refl,Fr.alloc,Fr.drew]|rfl) only [↓gd,gp,Nat.reduceAdd,Nat.reduceEqDiff, ↓hk53, e1, e3, e4, e5, e6, g]
     refine between_spec ?_
     cases q : btw m.inc 1 2147483647 with
     | false =>
       rw [q] at hK
       simp (maxSteps:=4000000)(disch:=first|assumption|(simp only[dz];first|done|assumption|omega)|omega|apply_rules[Fr.refl,Fr.alloc,Fr.drew]|rfl) only [↓gd,gp,Nat.reduceAdd,Nat.reduceEqDiff, ↓hk53, e1, e3, e4, e5, e6]
       simpa using hK
     | true =>
       rw [q] at hK
       cases on with
       | false =>
         simp (maxSteps:=4000000)(disch:=first|assumption|(simp only[dz];first|done|assumption|omega)|omega|apply_rules[Fr.refl,Fr.alloc,Fr.drew]|rfl) only [↓gd,gp,Nat.reduceAdd,Nat.reduceEqDiff, ↓hk53, e1, e3, e4, e5, e6]
         simpa using hK
       | true =>
         simp (maxSteps:=4000000)(disch:=first|assumption|(simp only[dz];first|done|assumption|omega)|omega|apply_rules[Fr.refl,Fr.alloc,Fr.drew]|rfl) only [↓gd,gp,Nat.reduceAdd,Nat.reduceEqDiff, ↓hk53, e1, e3, e4, e5, e6, g]
         simpa using hK
 | true =>
   simp (maxSteps:=4000000)(disch:=first|assumption|(simp only[dz];first|done|assumption|omega)|omega|apply_rules[Fr.refl,Fr.alloc,Fr.drew]|rfl) only [↓gd,gp,Nat.reduceAdd,Nat.reduceEqDiff, ↓hk53, e1, e3, e4, e5, e6, g]
   refine between_spec ?_
   cases q0 : btw m.seq 1 2147483647 with
   | false =>
     rw [q0] at hK
     simp (maxSteps:=4000000)(disch:=first|assumption|(simp only[dz];first|done|assumption|omega)|omega|apply_rules[Fr.refl,Fr.alloc,Fr.drew]|rfl) only [↓gd,gp,Nat.reduceAdd,Nat.reduceEqDiff, ↓hk53, e1, e3, e4, e5, e6]
     simpa using hK
   | true =>
     rw [q0] at hK
     cases ic with
     | false =>
       cases on with
       | false =>
         simp (maxSteps:=4000000)(disch:=first|assumption|(simp only[dz];first|done|assumption|omega)|omega|apply_rules[Fr.refl,Fr.alloc,Fr.drew]|rfl) only [↓gd,gp,Nat.reduceAdd,Nat.reduceEqDiff, ↓hk53, e1, e3, e4, e5, e6]
         simpa using hK
       | true =>
         simp (maxSteps:=4000000)(disch:=first|assumption|(simp only[dz];first|done|assumption|omega)|omega|apply_rules[Fr.refl,Fr.alloc,Fr.drew]|rfl) only [↓gd,gp,Nat.reduceAdd,Nat.reduceEqDiff, ↓hk53, e1, e3, e4, e5, e6, g]
         simpa using hK
     | true =>
       simp (maxSteps:=4000000)(disch:=first|assumption|(simp only[dz];first|done|assumption|omega)|omega|apply_rules[Fr.refl,Fr.alloc,Fr.drew]|rfl) only [↓gd,gp,Nat.reduceAdd,Nat.reduceEqDiff, ↓hk53, e1, e3, e4, e5, e6, g]
       refine between_spec ?_
       cases q : btw m.inc 1 2147483647 with
       | false =>
         rw [q] at hK
         simp (maxSteps:=4000000)(disch:=first|assumption|(simp only[dz];first|done|assumption|omega)|omega|apply_rules[Fr.refl,Fr.alloc,Fr.drew]|rfl) only [↓gd,gp,Nat.reduceAdd,Nat.reduceEqDiff, ↓hk53, e1, e3, e4, e5, e6]
         simpa using hK
       | true =>
         rw [q] at hK
         cases on with
         | false =>
           simp (maxSteps:=4000000)(disch:=first|assumption|(simp only[dz];first|done|assumption|omega)|omega|apply_rules[Fr.refl,Fr.alloc,Fr.drew]|rfl) only [↓gd,gp,Nat.reduceAdd,Nat.reduceEqDiff, ↓hk53, e1, e3, e4, e5, e6]
           simpa using hK
         | true =>
           simp (maxSteps:=4000000)(disch:=first|assumption|(simp only[dz];first|done|assumption|omega)|omega|apply_rules[Fr.refl,Fr.alloc,Fr.drew]|rfl) only [↓gd,gp,Nat.reduceAdd,Nat.reduceEqDiff, ↓hk53, e1, e3, e4, e5, e6, g]
           simpa using hK
set_option maxHeartbeats 16000000 in
theorem nums_spec {m : Msg} {w : World} {K : Value → World → Prop} (hK : ∀ w', Fr [] w w' → K (.bool (numsB m)) w') : CallsN Tryz.prog 53 [.agg (encMsg m).toArray] w K := by
 have cw := cur w
 refine call53 ?_
 unfold encMsg
 simp (maxSteps:=4000000)(disch:=first|assumption|(simp only[dz];first|done|assumption|omega)|omega|apply_rules[Fr.refl,Fr.alloc,Fr.drew]|rfl) only [↓gd,gp,Nat.reduceAdd,Nat.reduceEqDiff, ↓c53_7_s, ↓c53_6_s, ↓c53_5_s, ↓c53_10_s, ↓c53_9_s, ↓c53_8_s, ↓c53_3_s, ↓c53_13_s, ↓c53_12_s, ↓c53_11_s, ↓c53_2_s, ↓c53_1_s, ↓c53_s, ↓w3t_53]
 generalize hW : World.alloc w _ = w1
 have hf1 : Fr [] w w1 := by rw [← hW]; (repeat (first | exact Fr.refl _ _ | assumption | with_reducible apply Fr.alloc | with_reducible apply Fr.drew | with_reducible refine Fr.setB ?_ _ _ (.inr (by first | omega | (simp only [gz]; omega))) | with_reducible refine Fr.setB ?_ _ _ (.inl (by first | assumption | simp)) | with_reducible refine Fr.trans' ?_ (by assumption)))
 have g : w1.heap[w.heap.size]? = some (.cells (encMsg m).toArray 40 (0, 0)) := by rw [← hW]; exact get_alloc_new _ _
 clear hW
 have cw1 := cur w1
 have lb := lt_of_get _ _ g
 have g' := g
 unfold encMsg at g'
 replace hK := hK _ hf1
 unfold numsB at hK
 refine between_spec ?_
 cases q0 : btw m.node 0 7 with
 | false =>
   simp only [q0, Bool.false_and] at hK
   simp (maxSteps:=4000000)(disch:=first|assumption|(simp only[dz];first|done|assumption|omega)|omega|apply_rules[Fr.refl,Fr.alloc,Fr.drew]|rfl) only [↓gd,gp,Nat.reduceAdd,Nat.reduceEqDiff, ↓c53_7_s, ↓c53_6_s, ↓c53_5_s, ↓c53_10_s, ↓c53_9_s, ↓c53_8_s, ↓c53_3_s, ↓c53_13_s, ↓c53_12_s, ↓c53_11_s, ↓c53_2_s, ↓c53_1_s, ↓c53_s, ↓w3t_53]
   exact hK
 | true =>
 simp (maxSteps:=4000000)(disch:=first|assumption|(simp only[dz];first|done|assumption|omega)|omega|apply_rules[Fr.refl,Fr.alloc,Fr.drew]|rfl) only [↓gd,gp,Nat.reduceAdd,Nat.reduceEqDiff, ↓c53_7_s, ↓c53_6_s, ↓c53_5_s, ↓c53_10_s, ↓c53_9_s, ↓c53_8_s, ↓c53_3_s, ↓c53_13_s, ↓c53_12_s, ↓c53_11_s, ↓c53_2_s, ↓c53_1_s, ↓c53_s, ↓w3t_53, g']
 refine between_spec ?_
 cases q1 : btw m.ses 0 63 with
 | false =>
   simp only [q0, q1, Bool.false_and, Bool.true_and] at hK
   simp (maxSteps:=4000000)(disch:=first|assumption|(simp only[dz];first|done|assumption|omega)|omega|apply_rules[Fr.refl,Fr.alloc,Fr.drew]|rfl) only [↓gd,gp,Nat.reduceAdd,Nat.reduceEqDiff, ↓c53_7_s, ↓c53_6_s, ↓c53_5_s, ↓c53_10_s, ↓c53_9_s, ↓c53_8_s, ↓c53_3_s, ↓c53_13_s, ↓c53_12_s, ↓c53_11_s, ↓c53_2_s, ↓c53_1_s, ↓c53_s, ↓w3t_53]
   exact hK
 | true =>
 simp (maxSteps:=4000000)(disch:=first|assumption|(simp only[dz];first|done|assumption|omega)|omega|apply_rules[Fr.refl,Fr.alloc,Fr.drew]|rfl) only [↓gd,gp,Nat.reduceAdd,Nat.reduceEqDiff, ↓c53_7_s, ↓c53_6_s, ↓c53_5_s, ↓c53_10_s, ↓c53_9_s, ↓c53_8_s, ↓c53_3_s, ↓c53_13_s, ↓c53_12_s, ↓c53_11_s, ↓c53_2_s, ↓c53_1_s, ↓c53_s, ↓w3t_53, g']
 refine between_spec ?_
 cases q2 : btw m.tx 0 255 with
 | false =>
   simp only [q0, q1, q2, Bool.false_and, Bool.true_and] at hK
   simp (maxSteps:=4000000)(disch:=first|assumption|(simp only[dz];first|done|assumption|omega)|omega|apply_rules[Fr.refl,Fr.alloc,Fr.drew]|rfl) only [↓gd,gp,Nat.reduceAdd,Nat.reduceEqDiff, ↓c53_7_s, ↓c53_6_s, ↓c53_5_s, ↓c53_10_s, ↓c53_9_s, ↓c53_8_s, ↓c53_3_s, ↓c53_13_s, ↓c53_12_s, ↓c53_11_s, ↓c53_2_s, ↓c53_1_s, ↓c53_s, ↓w3t_53]
   exact hK
 | true =>
 simp (maxSteps:=4000000)(disch:=first|assumption|(simp only[dz];first|done|assumption|omega)|omega|apply_rules[Fr.refl,Fr.alloc,Fr.drew]|rfl) only [↓gd,gp,Nat.reduceAdd,Nat.reduceEqDiff, ↓c53_7_s, ↓c53_6_s, ↓c53_5_s, ↓c53_10_s, ↓c53_9_s, ↓c53_8_s, ↓c53_3_s, ↓c53_13_s, ↓c53_12_s, ↓c53_11_s, ↓c53_2_s, ↓c53_1_s, ↓c53_s, ↓w3t_53, g']
 refine between_spec ?_
 cases q3 : btw m.err 0 255 with
 | false =>
   simp only [q0, q1, q2, q3, Bool.false_and, Bool.true_and] at hK
   simp (maxSteps:=4000000)(disch:=first|assumption|(simp only[dz];first|done|assumption|omega)|omega|apply_rules[Fr.refl,Fr.alloc,Fr.drew]|rfl) only [↓gd,gp,Nat.reduceAdd,Nat.reduceEqDiff, ↓c53_7_s, ↓c53_6_s, ↓c53_5_s, ↓c53_10_s, ↓c53_9_s, ↓c53_8_s, ↓c53_3_s, ↓c53_13_s, ↓c53_12_s, ↓c53_11_s, ↓c53_2_s, ↓c53_1_s, ↓c53_s, ↓w3t_53]
   exact hK
 | true =>
 simp (maxSteps:=4000000)(disch:=first|assumption|(simp only[dz];first|done|assumption|omega)|omega|apply_rules[Fr.refl,Fr.alloc,Fr.drew]|rfl) only [↓gd,gp,Nat.reduceAdd,Nat.reduceEqDiff, ↓c53_7_s, ↓c53_6_s, ↓c53_5_s, ↓c53_10_s, ↓c53_9_s, ↓c53_8_s, ↓c53_3_s, ↓c53_13_s, ↓c53_12_s, ↓c53_11_s, ↓c53_2_s, ↓c53_1_s, ↓c53_s, ↓w3t_53, g']
 refine between_spec ?_
 cases q4 : btw m.n 0 1099511627776 with
 | false =>
   simp only [q0, q1, q2, q3, q4, Bool.false_and, Bool.true_and] at hK
   simp (maxSteps:=4000000)(disch:=first|assumption|(simp only[dz];first|done|assumption|omega)|omega|apply_rules[Fr.refl,Fr.alloc,Fr.drew]|rfl) only [↓gd,gp,Nat.reduceAdd,Nat.reduceEqDiff, ↓c53_7_s, ↓c53_6_s, ↓c53_5_s, ↓c53_10_s, ↓c53_9_s, ↓c53_8_s, ↓c53_3_s, ↓c53_13_s, ↓c53_12_s, ↓c53_11_s, ↓c53_2_s, ↓c53_1_s, ↓c53_s, ↓w3t_53]
   exact hK
 | true =>
 simp only [q0, q1, q2, q3, q4, Bool.true_and] at hK
 have hfin : ∀ (ic on : Bool), (decide (m.kind = 10) || decide (m.kind = 11)) = ic → (decide (m.kind = 8) || decide (m.kind = 9)) = on → ∀ e : Env, e 1 = .pointer (some ⟨w.heap.size, 0, none⟩) → e 3 = .int .i64 2147483647 → e 4 = .bool (decide (m.kind ≤ 6)) → e 5 = .bool ic → e 6 = .bool on → W3 Tryz.prog 79 V53 c53_7 (retQ Tryz.prog [.tmp 2] K) e w1 := fun ic on hi ho e e1 e3 e4 e5 e6 => nums_tail g e1 e3 e4 e5 e6 (by rw [← hi, ← ho]; exact hK)
 cases k10 : decide (m.kind = 10) with
 | true =>
   have h8 : decide (m.kind = 8) = false := decide_eq_false (by have := of_decide_eq_true k10; omega)
   have h9 : decide (m.kind = 9) = false := decide_eq_false (by have := of_decide_eq_true k10; omega)
   simp (maxSteps:=4000000)(disch:=first|assumption|(simp only[dz];first|done|assumption|omega)|omega|apply_rules[Fr.refl,Fr.alloc,Fr.drew]|rfl) only [↓gd,gp,Nat.reduceAdd,Nat.reduceEqDiff, ↓c53_6_s, ↓c53_5_s, ↓c53_4_s, ↓c53_10_s, ↓c53_9_s, ↓c53_8_s, ↓c53_3_s, ↓c53_13_s, ↓c53_12_s, ↓c53_11_s, ↓c53_2_s, ↓c53_1_s, ↓c53_s, ↓w3t_53, g', k10, h8, h9]
   refine hfin true false (by rw [k10]; rfl) (by rw [h8, h9]; rfl) _ ?_ ?_ ?_ ?_ ?_ <;> simp (maxSteps:=4000000)(disch:=first|assumption|(simp only[dz];first|done|assumption|omega)|omega|apply_rules[Fr.refl,Fr.alloc,Fr.drew]|rfl) only [↓gsd,gs,gv,Nat.reduceAdd,Nat.reduceEqDiff]
 | false =>
   cases k11 : decide (m.kind = 11) with
   | true =>
     have h8 : decide (m.kind = 8) = false := decide_eq_false (by have := of_decide_eq_true k11; omega)
     have h9 : decide (m.kind = 9) = false := decide_eq_false (by have := of_decide_eq_true k11; omega)
     simp (maxSteps:=4000000)(disch:=first|assumption|(simp only[dz];first|done|assumption|omega)|omega|apply_rules[Fr.refl,Fr.alloc,Fr.drew]|rfl) only [↓gd,gp,Nat.reduceAdd,Nat.reduceEqDiff, ↓c53_6_s, ↓c53_5_s, ↓c53_4_s, ↓c53_10_s, ↓c53_9_s, ↓c53_8_s, ↓c53_3_s, ↓c53_13_s, ↓c53_12_s, ↓c53_11_s, ↓c53_2_s, ↓c53_1_s, ↓c53_s, ↓w3t_53, g', k10, k11, h8, h9]
     refine hfin true false (by rw [k10, k11]; rfl) (by rw [h8, h9]; rfl) _ ?_ ?_ ?_ ?_ ?_ <;> simp (maxSteps:=4000000)(disch:=first|assumption|(simp only[dz];first|done|assumption|omega)|omega|apply_rules[Fr.refl,Fr.alloc,Fr.drew]|rfl) only [↓gsd,gs,gv,Nat.reduceAdd,Nat.reduceEqDiff]
   | false =>
     cases k8 : decide (m.kind = 8) with
     | true =>
       simp (maxSteps:=4000000)(disch:=first|assumption|(simp only[dz];first|done|assumption|omega)|omega|apply_rules[Fr.refl,Fr.alloc,Fr.drew]|rfl) only [↓gd,gp,Nat.reduceAdd,Nat.reduceEqDiff, ↓c53_6_s, ↓c53_5_s, ↓c53_4_s, ↓c53_10_s, ↓c53_9_s, ↓c53_8_s, ↓c53_3_s, ↓c53_13_s, ↓c53_12_s, ↓c53_11_s, ↓c53_2_s, ↓c53_1_s, ↓c53_s, ↓w3t_53, g', k10, k11, k8]
       refine hfin false true (by rw [k10, k11]; rfl) (by rw [k8]; rfl) _ ?_ ?_ ?_ ?_ ?_ <;> simp (maxSteps:=4000000)(disch:=first|assumption|(simp only[dz];first|done|assumption|omega)|omega|apply_rules[Fr.refl,Fr.alloc,Fr.drew]|rfl) only [↓gsd,gs,gv,Nat.reduceAdd,Nat.reduceEqDiff]
     | false =>
       cases k9 : decide (m.kind = 9) with
       | true =>
         simp (maxSteps:=4000000)(disch:=first|assumption|(simp only[dz];first|done|assumption|omega)|omega|apply_rules[Fr.refl,Fr.alloc,Fr.drew]|rfl) only [↓gd,gp,Nat.reduceAdd,Nat.reduceEqDiff, ↓c53_6_s, ↓c53_5_s, ↓c53_4_s, ↓c53_10_s, ↓c53_9_s, ↓c53_8_s, ↓c53_3_s, ↓c53_13_s, ↓c53_12_s, ↓c53_11_s, ↓c53_2_s, ↓c53_1_s, ↓c53_s, ↓w3t_53, g', k10, k11, k8, k9]
         refine hfin false true (by rw [k10, k11]; rfl) (by rw [k8, k9]; rfl) _ ?_ ?_ ?_ ?_ ?_ <;> simp (maxSteps:=4000000)(disch:=first|assumption|(simp only[dz];first|done|assumption|omega)|omega|apply_rules[Fr.refl,Fr.alloc,Fr.drew]|rfl) only [↓gsd,gs,gv,Nat.reduceAdd,Nat.reduceEqDiff]
       | false =>
         simp (maxSteps:=4000000)(disch:=first|assumption|(simp only[dz];first|done|assumption|omega)|omega|apply_rules[Fr.refl,Fr.alloc,Fr.drew]|rfl) only [↓gd,gp,Nat.reduceAdd,Nat.reduceEqDiff, ↓c53_6_s, ↓c53_5_s, ↓c53_4_s, ↓c53_10_s, ↓c53_9_s, ↓c53_8_s, ↓c53_3_s, ↓c53_13_s, ↓c53_12_s, ↓c53_11_s, ↓c53_2_s, ↓c53_1_s, ↓c53_s, ↓w3t_53, g', k10, k11, k8, k9]
         refine hfin false false (by rw [k10, k11]; rfl) (by rw [k8, k9]; rfl) _ ?_ ?_ ?_ ?_ ?_ <;> simp (maxSteps:=4000000)(disch:=first|assumption|(simp only[dz];first|done|assumption|omega)|omega|apply_rules[Fr.refl,Fr.alloc,Fr.drew]|rfl) only [↓gsd,gs,gv,Nat.reduceAdd,Nat.reduceEqDiff]
end Go.Proofs.YtgloomahpjpiiaaGreat.Or
namespace Go.Proofs.YtgloomahpjpiiaaGreat.Or
open Go.VW
abbrev Msg.wv (m : Msg) : Value := .slice m.wa m.wl m.wc
abbrev Msg.kv (m : Msg) : Value := .slice m.ka m.kl m.kc
structure MsgAt (w : World) (m : Msg) (ws : List St.Wr) (ks : List ByteArray) : Prop where
 dw : SlOf 3 St.encWr w m.wv ws
 dk : SlOf 1 Sm.encS w m.kv ks
 wl : ws.length ≤ 9223372036854775807
 kl : ks.length ≤ 9223372036854775807
theorem MsgAt.frN {w w' : World} {m : Msg} {ws : List St.Wr} {ks : List ByteArray} (h : MsgAt w m ws ks) (hf : Fr [] w w') : MsgAt w' m ws ks := ⟨h.dw.frN hf, h.dk.frN hf, h.wl, h.kl⟩
theorem MsgAt.wlen {w : World} {m : Msg} {ws : List St.Wr} {ks : List ByteArray} (h : MsgAt w m ws ks) : m.wl = ws.length := by
 obtain ⟨a, c, hv⟩ := h.dw.form
 simp only [Value.slice.injEq] at hv
 exact hv.2.1
theorem MsgAt.klen {w : World} {m : Msg} {ws : List St.Wr} {ks : List ByteArray} (h : MsgAt w m ws ks) : m.kl = ks.length := by
 obtain ⟨a, c, hv⟩ := h.dk.form
 simp only [Value.slice.injEq] at hv
 exact hv.2.1
def fullB (m : Msg) : Bool := m.hit || (decide (m.kind = 6) && decide (m.err = 0))
def thingsB (m : Msg) (ws : List St.Wr) (ks : List ByteArray) : Bool :=
 if m.kind = 1 then btw m.wl 1 8 && !ws.any badW
 else if m.kind = 3 ∨ m.kind = 5 then gKey m.key && gPin m.plo m.phi
 else if m.kind = 7 then gKey m.key && (gVal m.vh m.vd && gPin m.plo m.phi)
 else if m.kind = 4 ∨ m.kind = 6 then !fullB m || (gVal m.vh m.vd && gPin m.plo m.phi)
 else if m.kind = 8 then btw m.kl 1 8 && !ks.any (fun k => !gKey k)
 else true
set_option maxHeartbeats 32000000 in
theorem things_spec {m : Msg} {ws : List St.Wr} {ks : List ByteArray} {w : World} {K : Value → World → Prop} (h : MsgAt w m ws ks) (hk : 1 ≤ m.kind ∧ m.kind ≤ 11) (hK : ∀ w', Fr [] w w' → K (.bool (thingsB m ws ks)) w') : CallsN Tryz.prog 54 [.agg (encMsg m).toArray] w K := by
 have cw := cur w
 have hwl := h.wlen
 have hkl := h.klen
 refine call54 ?_
 unfold encMsg
 simp (maxSteps:=4000000)(disch:=first|assumption|(simp only[dz];first|done|assumption|omega)|omega|apply_rules[Fr.refl,Fr.alloc,Fr.drew]|rfl) only [↓gd,gp,Nat.reduceAdd,Nat.reduceEqDiff, ↓c54_2_s, ↓c54_8_s, ↓c54_7_s, ↓c54_11_s, ↓c54_14_s, ↓c54_18_s, ↓c54_17_s, ↓c54_22_s, ↓c54_21_s, ↓c54_20_s, ↓c54_19_s, ↓c54_16_s, ↓c54_25_s, ↓c54_24_s, ↓c54_23_s, ↓c54_15_s, ↓c54_13_s, ↓c54_12_s, ↓c54_10_s, ↓c54_28_s, ↓c54_27_s, ↓c54_26_s, ↓c54_9_s, ↓c54_6_s, ↓c54_4_s, ↓c54_3_s, ↓c54_1_s, ↓c54_s, ↓w3t_54]
 generalize hW : World.alloc w _ = w1
 have hf1 : Fr [] w w1 := by rw [← hW]; (repeat (first | exact Fr.refl _ _ | assumption | with_reducible apply Fr.alloc | with_reducible apply Fr.drew | with_reducible refine Fr.setB ?_ _ _ (.inr (by first | omega | (simp only [gz]; omega))) | with_reducible refine Fr.setB ?_ _ _ (.inl (by first | assumption | simp)) | with_reducible refine Fr.trans' ?_ (by assumption)))
 have g : w1.heap[w.heap.size]? = some (.cells (encMsg m).toArray 40 (0, 0)) := by rw [← hW]; exact get_alloc_new _ _
 clear hW
 have cw1 := cur w1
 have h1 := h.frN hf1
 obtain ⟨kind, node, inc, ses, tx, seq, key, plo, phi, vh, vd, hit, err, n, wa, wl, wc, ka, kl, kc⟩ := m
 simp only at hk hwl hkl
 subst hwl hkl
 have lb := lt_of_get _ _ g
 have hg : ∀ w', Fr [] w1 w' → w'.heap[w.heap.size]? = some (.cells (encMsg ⟨kind, node, inc, ses, tx, seq, key, plo, phi, vh, vd, hit, err, n, wa, ws.length, wc, ka, ks.length, kc⟩).toArray 40 (0, 0)) := fun w' hf => hf.getN g
 unfold encMsg at g hg
 -- a pin behind a value, or behind a key
 have hc : kind = 1 ∨ kind = 3 ∨ kind = 5 ∨ kind = 7 ∨ kind = 4 ∨ kind = 6 ∨ kind = 8 ∨ (kind = 2 ∨ kind = 9 ∨ kind = 10 ∨ kind = 11) := by omega
 rcases hc with rfl | h35
 ·-- writes
  simp only [thingsB, if_true] at hK
  simp (maxSteps:=4000000)(disch:=first|assumption|(simp only[dz];first|done|assumption|omega)|omega|apply_rules[Fr.refl,Fr.alloc,Fr.drew]|rfl) only [↓gd,gp,Nat.reduceAdd,Nat.reduceEqDiff, ↓hk54, Int.reduceEq, g]
  refine between_spec ?_
  cases q : btw (ws.length : Int) 1 8 with
  | false =>
    simp only [q, Bool.false_and] at hK
    simp (maxSteps:=4000000)(disch:=first|assumption|(simp only[dz];first|done|assumption|omega)|omega|apply_rules[Fr.refl,Fr.alloc,Fr.drew]|rfl) only [↓gd,gp,Nat.reduceAdd,Nat.reduceEqDiff, ↓hk54, q]
    exact hK _ hf1
  | true =>
    simp only [q, Bool.true_and] at hK
    simp (maxSteps:=4000000)(disch:=first|assumption|(simp only[dz];first|done|assumption|omega)|omega|apply_rules[Fr.refl,Fr.alloc,Fr.drew]|rfl) only [↓gd,gp,Nat.reduceAdd,Nat.reduceEqDiff, ↓hk54, q, g]
    refine cntW_spec h1.dw h1.wl fun w2 hf2 => ?_
    have cw2 := cur w2
    try simp (maxSteps:=4000000)(disch:=first|assumption|(simp only[dz];first|done|assumption|omega)|omega|apply_rules[Fr.refl,Fr.alloc,Fr.drew]|rfl) only [↓gd,gp,Nat.reduceAdd,Nat.reduceEqDiff, ↓hk54]
    exact hK _ (hf1.trans' hf2)
 have hkp : ∀ {kd : Int}, (kd = 3 ∨ kd = 5) → kind = kd → (∀ w', Fr [] w w' → K (.bool (gKey key && gPin plo phi)) w') := fun {kd} hkd e w' hf => by
  subst e
  have := hK w' hf
  rcases hkd with rfl | rfl <;> simpa [thingsB] using this
 by_cases k35 : kind = 3 ∨ kind = 5
 ·have hK' := hkp k35 rfl
  rcases k35 with rfl | rfl <;>
  ·simp (maxSteps:=4000000)(disch:=first|assumption|(simp only[dz];first|done|assumption|omega)|omega|apply_rules[Fr.refl,Fr.alloc,Fr.drew]|rfl) only [↓gd,gp,Nat.reduceAdd,Nat.reduceEqDiff, ↓hk54, Int.reduceEq, g]
   refine gkey_spec fun w2 hf2 => ?_
   have cw2 := cur w2
   have g2 := hg _ hf2
   have l2 := lt_of_get _ _ g2
   cases q : gKey key with
   | false =>
     simp only [q, Bool.false_and] at hK'
     simp (maxSteps:=4000000)(disch:=first|assumption|(simp only[dz];first|done|assumption|omega)|omega|apply_rules[Fr.refl,Fr.alloc,Fr.drew]|rfl) only [↓gd,gp,Nat.reduceAdd,Nat.reduceEqDiff, ↓hk54, q]
     exact hK' _ (hf1.trans' hf2)
   | true =>
     simp only [q, Bool.true_and] at hK'
     simp (maxSteps:=4000000)(disch:=first|assumption|(simp only[dz];first|done|assumption|omega)|omega|apply_rules[Fr.refl,Fr.alloc,Fr.drew]|rfl) only [↓gd,gp,Nat.reduceAdd,Nat.reduceEqDiff, ↓hk54, q, g2]
     refine gpin_spec fun w3 hf3 => ?_
     have cw3 := cur w3
     try simp (maxSteps:=4000000)(disch:=first|assumption|(simp only[dz];first|done|assumption|omega)|omega|apply_rules[Fr.refl,Fr.alloc,Fr.drew]|rfl) only [↓gd,gp,Nat.reduceAdd,Nat.reduceEqDiff, ↓hk54]
     exact hK' _ ((hf1.trans' hf2).trans' hf3)
 by_cases k7 : kind = 7
 ·subst k7
  simp only [thingsB, Int.reduceEq, if_false, if_true, or_self] at hK
  simp (maxSteps:=4000000)(disch:=first|assumption|(simp only[dz];first|done|assumption|omega)|omega|apply_rules[Fr.refl,Fr.alloc,Fr.drew]|rfl) only [↓gd,gp,Nat.reduceAdd,Nat.reduceEqDiff, ↓hk54, Int.reduceEq, g]
  refine gkey_spec fun w2 hf2 => ?_
  have cw2 := cur w2
  have g2 := hg _ hf2
  have l2 := lt_of_get _ _ g2
  cases q : gKey key with
  | false =>
    simp only [q, Bool.false_and] at hK
    simp (maxSteps:=4000000)(disch:=first|assumption|(simp only[dz];first|done|assumption|omega)|omega|apply_rules[Fr.refl,Fr.alloc,Fr.drew]|rfl) only [↓gd,gp,Nat.reduceAdd,Nat.reduceEqDiff, ↓hk54, q]
    exact hK _ (hf1.trans' hf2)
  | true =>
    simp only [q, Bool.true_and] at hK
    simp (maxSteps:=4000000)(disch:=first|assumption|(simp only[dz];first|done|assumption|omega)|omega|apply_rules[Fr.refl,Fr.alloc,Fr.drew]|rfl) only [↓gd,gp,Nat.reduceAdd,Nat.reduceEqDiff, ↓hk54, q, g2]
    refine gval_spec fun w3 hf3 => ?_
    have cw3 := cur w3
    have g3 := hg _ (hf2.trans' hf3)
    have l3 := lt_of_get _ _ g3
    cases q2 : gVal vh vd with
    | false =>
      simp only [q2, Bool.false_and] at hK
      simp (maxSteps:=4000000)(disch:=first|assumption|(simp only[dz];first|done|assumption|omega)|omega|apply_rules[Fr.refl,Fr.alloc,Fr.drew]|rfl) only [↓gd,gp,Nat.reduceAdd,Nat.reduceEqDiff, ↓hk54, q2]
      exact hK _ ((hf1.trans' hf2).trans' hf3)
    | true =>
      simp only [q2, Bool.true_and] at hK
      simp (maxSteps:=4000000)(disch:=first|assumption|(simp only[dz];first|done|assumption|omega)|omega|apply_rules[Fr.refl,Fr.alloc,Fr.drew]|rfl) only [↓gd,gp,Nat.reduceAdd,Nat.reduceEqDiff, ↓hk54, q2, g3]
      refine gpin_spec fun w4 hf4 => ?_
      have cw4 := cur w4
      try simp (maxSteps:=4000000)(disch:=first|assumption|(simp only[dz];first|done|assumption|omega)|omega|apply_rules[Fr.refl,Fr.alloc,Fr.drew]|rfl) only [↓gd,gp,Nat.reduceAdd,Nat.reduceEqDiff, ↓hk54]
      exact hK _ (((hf1.trans' hf2).trans' hf3).trans' hf4)
 by_cases k46 : kind = 4 ∨ kind = 6
 ·have hK' : ∀ w', Fr [] w w' → K (.bool (!(hit || (decide (kind = 6) && decide (err = 0))) || (gVal vh vd && gPin plo phi))) w' := fun w' hf => by
   have := hK w' hf
   unfold thingsB fullB at this
   rw [if_neg (by rcases k46 with rfl | rfl <;> simp), if_neg k35, if_neg k7, if_pos k46] at this
   exact this
  have hrest : ∀ (e : Env), e 1 = .pointer (some ⟨w.heap.size, 0, none⟩) → e 4 = .bool (hit || (decide (kind = 6) && decide (err = 0))) → W3 Tryz.prog 87 V54 c54_18 (blockQ 0 (seqQ (W3 Tryz.prog 87 V54 c54_2 (retQ Tryz.prog [.tmp 2] K)) (retQ Tryz.prog [.tmp 2] K))) e w1 := fun e e1 e4 => by
   cases q : (hit || (decide (kind = 6) && decide (err = 0))) with
   | false =>
     rw [q] at e4 hK'
     simp only [Bool.not_false, Bool.true_or] at hK'
     simp (maxSteps:=4000000)(disch:=first|assumption|(simp only[dz];first|done|assumption|omega)|omega|apply_rules[Fr.refl,Fr.alloc,Fr.drew]|rfl) only [↓gd,gp,Nat.reduceAdd,Nat.reduceEqDiff, ↓hk54, e1, e4]
     exact hK' _ hf1
   | true =>
     rw [q] at e4 hK'
     simp only [Bool.not_true, Bool.false_or] at hK'
     simp (maxSteps:=4000000)(disch:=first|assumption|(simp only[dz];first|done|assumption|omega)|omega|apply_rules[Fr.refl,Fr.alloc,Fr.drew]|rfl) only [↓gd,gp,Nat.reduceAdd,Nat.reduceEqDiff, ↓hk54, e1, e4, g]
     refine gval_spec fun w3 hf3 => ?_
     have cw3 := cur w3
     have g3 := hg _ hf3
     have l3 := lt_of_get _ _ g3
     cases q2 : gVal vh vd with
     | false =>
       simp only [q2, Bool.false_and] at hK'
       simp (maxSteps:=4000000)(disch:=first|assumption|(simp only[dz];first|done|assumption|omega)|omega|apply_rules[Fr.refl,Fr.alloc,Fr.drew]|rfl) only [↓gd,gp,Nat.reduceAdd,Nat.reduceEqDiff, ↓hk54, q2]
       exact hK' _ (hf1.trans' hf3)
     | true =>
       simp only [q2, Bool.true_and] at hK'
       simp (maxSteps:=4000000)(disch:=first|assumption|(simp only[dz];first|done|assumption|omega)|omega|apply_rules[Fr.refl,Fr.alloc,Fr.drew]|rfl) only [↓gd,gp,Nat.reduceAdd,Nat.reduceEqDiff, ↓hk54, q2, e1, g3]
       refine gpin_spec fun w4 hf4 => ?_
       have cw4 := cur w4
       try simp (maxSteps:=4000000)(disch:=first|assumption|(simp only[dz];first|done|assumption|omega)|omega|apply_rules[Fr.refl,Fr.alloc,Fr.drew]|rfl) only [↓gd,gp,Nat.reduceAdd,Nat.reduceEqDiff, ↓hk54]
       exact hK' _ ((hf1.trans' hf3).trans' hf4)
  rcases k46 with rfl | rfl
  ·cases hit with
   | true =>
     simp (maxSteps:=4000000)(disch:=first|assumption|(simp only[dz];first|done|assumption|omega)|omega|apply_rules[Fr.refl,Fr.alloc,Fr.drew]|rfl) only [↓gd,gp,Nat.reduceAdd,Nat.reduceEqDiff, ↓c54_2_s, ↓c54_8_s, ↓c54_7_s, ↓c54_11_s, ↓c54_14_s, ↓c54_17_s, ↓c54_22_s, ↓c54_21_s, ↓c54_20_s, ↓c54_19_s, ↓c54_16_s, ↓c54_25_s, ↓c54_24_s, ↓c54_23_s, ↓c54_15_s, ↓c54_13_s, ↓c54_12_s, ↓c54_10_s, ↓c54_28_s, ↓c54_27_s, ↓c54_26_s, ↓c54_9_s, ↓c54_6_s, ↓c54_5_s, ↓c54_4_s, ↓c54_3_s, ↓c54_1_s, ↓c54_s, ↓w3t_54, Int.reduceEq, g]
     exact hrest _ rfl rfl
   | false =>
     simp (maxSteps:=4000000)(disch:=first|assumption|(simp only[dz];first|done|assumption|omega)|omega|apply_rules[Fr.refl,Fr.alloc,Fr.drew]|rfl) only [↓gd,gp,Nat.reduceAdd,Nat.reduceEqDiff, ↓c54_2_s, ↓c54_8_s, ↓c54_7_s, ↓c54_11_s, ↓c54_14_s, ↓c54_17_s, ↓c54_22_s, ↓c54_21_s, ↓c54_20_s, ↓c54_19_s, ↓c54_16_s, ↓c54_25_s, ↓c54_24_s, ↓c54_23_s, ↓c54_15_s, ↓c54_13_s, ↓c54_12_s, ↓c54_10_s, ↓c54_28_s, ↓c54_27_s, ↓c54_26_s, ↓c54_9_s, ↓c54_6_s, ↓c54_5_s, ↓c54_4_s, ↓c54_3_s, ↓c54_1_s, ↓c54_s, ↓w3t_54, Int.reduceEq, g]
     exact hrest _ rfl (by simp (maxSteps:=4000000)(disch:=first|assumption|(simp only[dz];first|done|assumption|omega)|omega|apply_rules[Fr.refl,Fr.alloc,Fr.drew]|rfl) only [↓gsd,gs,gv,Nat.reduceAdd,Nat.reduceEqDiff]; rfl)
  ·cases hit with
   | true =>
     simp (maxSteps:=4000000)(disch:=first|assumption|(simp only[dz];first|done|assumption|omega)|omega|apply_rules[Fr.refl,Fr.alloc,Fr.drew]|rfl) only [↓gd,gp,Nat.reduceAdd,Nat.reduceEqDiff, ↓c54_2_s, ↓c54_8_s, ↓c54_7_s, ↓c54_11_s, ↓c54_14_s, ↓c54_17_s, ↓c54_22_s, ↓c54_21_s, ↓c54_20_s, ↓c54_19_s, ↓c54_16_s, ↓c54_25_s, ↓c54_24_s, ↓c54_23_s, ↓c54_15_s, ↓c54_13_s, ↓c54_12_s, ↓c54_10_s, ↓c54_28_s, ↓c54_27_s, ↓c54_26_s, ↓c54_9_s, ↓c54_6_s, ↓c54_5_s, ↓c54_4_s, ↓c54_3_s, ↓c54_1_s, ↓c54_s, ↓w3t_54, Int.reduceEq, g]
     exact hrest _ rfl rfl
   | false =>
     simp (maxSteps:=4000000)(disch:=first|assumption|(simp only[dz];first|done|assumption|omega)|omega|apply_rules[Fr.refl,Fr.alloc,Fr.drew]|rfl) only [↓gd,gp,Nat.reduceAdd,Nat.reduceEqDiff, ↓c54_2_s, ↓c54_8_s, ↓c54_7_s, ↓c54_11_s, ↓c54_14_s, ↓c54_17_s, ↓c54_22_s, ↓c54_21_s, ↓c54_20_s, ↓c54_19_s, ↓c54_16_s, ↓c54_25_s, ↓c54_24_s, ↓c54_23_s, ↓c54_15_s, ↓c54_13_s, ↓c54_12_s, ↓c54_10_s, ↓c54_28_s, ↓c54_27_s, ↓c54_26_s, ↓c54_9_s, ↓c54_6_s, ↓c54_5_s, ↓c54_4_s, ↓c54_3_s, ↓c54_1_s, ↓c54_s, ↓w3t_54, Int.reduceEq, g]
     exact hrest _ rfl (by simp (maxSteps:=4000000)(disch:=first|assumption|(simp only[dz];first|done|assumption|omega)|omega|apply_rules[Fr.refl,Fr.alloc,Fr.drew]|rfl) only [↓gsd,gs,gv,Nat.reduceAdd,Nat.reduceEqDiff]; simp)
 by_cases k8 : kind = 8
 ·subst k8
  simp only [thingsB, Int.reduceEq, if_false, if_true, or_self] at hK
  simp (maxSteps:=4000000)(disch:=first|assumption|(simp only[dz];first|done|assumption|omega)|omega|apply_rules[Fr.refl,Fr.alloc,Fr.drew]|rfl) only [↓gd,gp,Nat.reduceAdd,Nat.reduceEqDiff, ↓hk54, Int.reduceEq, g]
  refine between_spec ?_
  cases q : btw (ks.length : Int) 1 8 with
  | false =>
    simp only [q, Bool.false_and] at hK
    simp (maxSteps:=4000000)(disch:=first|assumption|(simp only[dz];first|done|assumption|omega)|omega|apply_rules[Fr.refl,Fr.alloc,Fr.drew]|rfl) only [↓gd,gp,Nat.reduceAdd,Nat.reduceEqDiff, ↓hk54, q]
    exact hK _ hf1
  | true =>
    simp only [q, Bool.true_and] at hK
    simp (maxSteps:=4000000)(disch:=first|assumption|(simp only[dz];first|done|assumption|omega)|omega|apply_rules[Fr.refl,Fr.alloc,Fr.drew]|rfl) only [↓gd,gp,Nat.reduceAdd,Nat.reduceEqDiff, ↓hk54, q, g]
    refine cntS_spec h1.dk h1.kl fun w2 hf2 => ?_
    have cw2 := cur w2
    try simp (maxSteps:=4000000)(disch:=first|assumption|(simp only[dz];first|done|assumption|omega)|omega|apply_rules[Fr.refl,Fr.alloc,Fr.drew]|rfl) only [↓gd,gp,Nat.reduceAdd,Nat.reduceEqDiff, ↓hk54]
    exact hK _ (hf1.trans' hf2)
 have hco : kind = 2 ∨ kind = 9 ∨ kind = 10 ∨ kind = 11 := by omega
 rcases hco with rfl | rfl | rfl | rfl <;>
 ·simp only [thingsB, Int.reduceEq, if_false, or_self] at hK
  simp (maxSteps:=4000000)(disch:=first|assumption|(simp only[dz];first|done|assumption|omega)|omega|apply_rules[Fr.refl,Fr.alloc,Fr.drew]|rfl) only [↓gd,gp,Nat.reduceAdd,Nat.reduceEqDiff, ↓hk54, Int.reduceEq, g]
  exact hK _ hf1
def chkM (m : Msg) (ws : List St.Wr) (ks : List ByteArray) : Int := if btw m.kind 1 11 = true then (if zB (blankM m) && (numsB m && thingsB m ws ks) = true then 0 else 1) else 13
theorem btw_iff (x lo hi : Int) : btw x lo hi = true ↔ lo ≤ x ∧ x ≤ hi := by unfold btw; simp
set_option maxHeartbeats 16000000 in
theorem mcheck_spec {m : Msg} {ws : List St.Wr} {ks : List ByteArray} {w : World} {K : Value → World → Prop} (h : MsgAt w m ws ks) (hK : ∀ w', Fr [] w w' → K (.int .i64 (chkM m ws ks)) w') : CallsN Tryz.prog 30 [.agg (encMsg m).toArray] w K := by
 have cw := cur w
 unfold chkM at hK
 refine call30 ?_
 have hm : (encMsg m).toArray = #[.int .i64 m.kind, .int .i64 m.node, .int .i64 m.inc, .int .i64 m.ses, .int .i64 m.tx, .int .i64 m.seq, .string m.key, .int .i64 m.plo, .int .i64 m.phi, .bool m.vh, .string m.vd, .bool m.hit, .int .i64 m.err, .int .i64 m.n, .slice m.wa m.wl m.wc, .slice m.ka m.kl m.kc] := rfl
 rw [hm]
 simp (maxSteps:=4000000)(disch:=first|assumption|(simp only[dz];first|done|assumption|omega)|omega|apply_rules[Fr.refl,Fr.alloc,Fr.drew]|rfl) only [↓gd,gp,Nat.reduceAdd,Nat.reduceEqDiff, ↓hk30]
 generalize hW : World.alloc w _ = w1
 have hf1 : Fr [] w w1 := by rw [← hW]; (repeat (first | exact Fr.refl _ _ | assumption | with_reducible apply Fr.alloc | with_reducible apply Fr.drew | with_reducible refine Fr.setB ?_ _ _ (.inr (by first | omega | (simp only [gz]; omega))) | with_reducible refine Fr.setB ?_ _ _ (.inl (by first | assumption | simp)) | with_reducible refine Fr.trans' ?_ (by assumption)))
 have g : w1.heap[w.heap.size]? = some (.cells (encMsg m).toArray 40 (0, 0)) := by rw [← hW]; exact get_alloc_new _ _
 clear hW
 have cw1 := cur w1
 have h1 := h.frN hf1
 have lb := lt_of_get _ _ g
 have hg : ∀ w', Fr [] w1 w' → w'.heap[w.heap.size]? = some (.cells (encMsg m).toArray 40 (0, 0)) := fun w' hf => hf.getN g
 rw [hm] at g hg
 refine known_spec ?_
 cases q0 : btw m.kind 1 11 with
 | false =>
   simp only [q0, Bool.false_eq_true, if_false] at hK
   simp (maxSteps:=4000000)(disch:=first|assumption|(simp only[dz];first|done|assumption|omega)|omega|apply_rules[Fr.refl,Fr.alloc,Fr.drew]|rfl) only [↓gd,gp,Nat.reduceAdd,Nat.reduceEqDiff, ↓hk30]
   exact hK _ hf1
 | true =>
 have hk := (btw_iff _ _ _).1 q0
 simp only [q0, if_true] at hK
 simp (maxSteps:=4000000)(disch:=first|assumption|(simp only[dz];first|done|assumption|omega)|omega|apply_rules[Fr.refl,Fr.alloc,Fr.drew]|rfl) only [↓gd,gp,Nat.reduceAdd,Nat.reduceEqDiff, ↓hk30, g]
 refine unused_spec (m := m) hk fun w2 hf2 => ?_
 have cw2 := cur w2
 have g2 := hg _ hf2
 have l2 := lt_of_get _ _ g2
 cases q1 : zB (blankM m) with
 | false =>
   simp only [q1, Bool.false_and, Bool.false_eq_true, if_false] at hK
   simp (maxSteps:=4000000)(disch:=first|assumption|(simp only[dz];first|done|assumption|omega)|omega|apply_rules[Fr.refl,Fr.alloc,Fr.drew]|rfl) only [↓gd,gp,Nat.reduceAdd,Nat.reduceEqDiff, ↓hk30]
   exact hK _ (hf1.trans' hf2)
 | true =>
 simp only [q1, Bool.true_and] at hK
 simp (maxSteps:=4000000)(disch:=first|assumption|(simp only[dz];first|done|assumption|omega)|omega|apply_rules[Fr.refl,Fr.alloc,Fr.drew]|rfl) only [↓gd,gp,Nat.reduceAdd,Nat.reduceEqDiff, ↓hk30, g2]
 refine nums_spec (m := m) fun w3 hf3 => ?_
 have cw3 := cur w3
 have g3 := hg _ (hf2.trans' hf3)
 have l3 := lt_of_get _ _ g3
 cases q2 : numsB m with
 | false =>
   simp only [q2, Bool.false_and, Bool.false_eq_true, if_false] at hK
   simp (maxSteps:=4000000)(disch:=first|assumption|(simp only[dz];first|done|assumption|omega)|omega|apply_rules[Fr.refl,Fr.alloc,Fr.drew]|rfl) only [↓gd,gp,Nat.reduceAdd,Nat.reduceEqDiff, ↓hk30]
   exact hK _ ((hf1.trans' hf2).trans' hf3)
 | true =>
 simp only [q2, Bool.true_and] at hK
 simp (maxSteps:=4000000)(disch:=first|assumption|(simp only[dz];first|done|assumption|omega)|omega|apply_rules[Fr.refl,Fr.alloc,Fr.drew]|rfl) only [↓gd,gp,Nat.reduceAdd,Nat.reduceEqDiff, ↓hk30, g3]
 refine things_spec (m := m) ((h1.frN hf2).frN hf3) hk fun w4 hf4 => ?_
 have cw4 := cur w4
 cases q3 : thingsB m ws ks with
 | false =>
   simp only [q3, Bool.false_eq_true, if_false] at hK
   simp (maxSteps:=4000000)(disch:=first|assumption|(simp only[dz];first|done|assumption|omega)|omega|apply_rules[Fr.refl,Fr.alloc,Fr.drew]|rfl) only [↓gd,gp,Nat.reduceAdd,Nat.reduceEqDiff, ↓hk30]
   exact hK _ (((hf1.trans' hf2).trans' hf3).trans' hf4)
 | true =>
   simp only [q3, if_true] at hK
   simp (maxSteps:=4000000)(disch:=first|assumption|(simp only[dz];first|done|assumption|omega)|omega|apply_rules[Fr.refl,Fr.alloc,Fr.drew]|rfl) only [↓gd,gp,Nat.reduceAdd,Nat.reduceEqDiff, ↓hk30]
   exact hK _ (((hf1.trans' hf2).trans' hf3).trans' hf4)
end Go.Proofs.YtgloomahpjpiiaaGreat.Or
