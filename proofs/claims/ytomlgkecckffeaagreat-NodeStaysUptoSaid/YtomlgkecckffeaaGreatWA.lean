/- A node: Fill. A node: entries are closed. -/
import Derived.Test.YtomlgkecckffeaaGreatW8
set_option linter.unusedVariables false
set_option linter.unusedSimpArgs false
set_option maxRecDepth 10000
namespace Go.Proofs.YtomlgkecckffeaaGreat
open Go.VW
set_option maxHeartbeats 16000000 in
theorem fill_spec {w : World} {a : Lay} {c : Cfg} {inc : Int} {M : Mem} {f : Ent} {read : Int} {B : Nat} {K : Value → World → Prop} (h : NodeAt w a c inc M) (hT : TOK M.T B) (hB : B ≤ 100000000)
  (hK : ∀ w' S', NodeAt w' { a with S := S' } c inc (M.fill c f read).1 → (∀ x ∈ S', x ∈ a.S ∨ w.heap.size ≤ x) → Fr a.all w w' → K (.bool (M.fill c f read).2) w') :
  CallsN Tryz.prog 18 [.pointer (some ⟨a.nb, 0, none⟩), .agg (encFct f).toArray, .int .i64 read] w K := by
 have cw := cur w
 refine call18 ?_
 unfold encFct
 simp (maxSteps:=9^7)(disch:=first|assumption|(simp only[dz];first|done|assumption|omega)|omega|apply_rules[Fr.refl,Fr.alloc,Fr.drew]|rfl) only [↓gd,gp,Nat.reduceAdd,Nat.reduceEqDiff, ↓hk18]
 generalize hW : World.alloc w _ = w1
 have hf1 : Fr [] w w1 := by rw [← hW]; exact fr_
 have hz1 : w1.heap.size = w.heap.size + 1 := by rw [← hW]; simp only [gz]
 have g4 : w1.heap[w.heap.size]? = some (.cells (encFct f).toArray 34 (0, 0)) := by rw [← hW]; simp (maxSteps:=9^7)(disch:=first|assumption|(simp only[dz];first|done|assumption|omega)|omega|apply_rules[Fr.refl,Fr.alloc,Fr.drew]|rfl) only [↓gsd,gs,gv,Nat.reduceAdd,Nat.reduceEqDiff] <;> rfl
 clear hW
 have cw1 := cur w1
 have h1 := h.frN hf1
 have l4 := lt_of_get _ _ g4
 refine up_spec h1 ?_
 have g4u := g4
 unfold encFct at g4u
 unfold Mem.fill at hK
 obtain ⟨x, hx⟩ : ∃ x, x = IntKind.i64.wrap (read + 1) := ⟨_, rfl⟩
 have hx' : wr1 read = x := hx.symm
 rw [hx'] at hK
 simp (maxSteps:=9^7)(disch:=first|assumption|(simp only[dz];first|done|assumption|omega)|omega|apply_rules[Fr.refl,Fr.alloc,Fr.drew]|rfl) only [↓gd,gp,Nat.reduceAdd,Nat.reduceEqDiff, ↓hk18, g4u, ← hx]
 refine good_spec fun w2 hf2 => ?_
 have cw2 := cur w2
 have hz2 := hf2.size
 have h2 := h1.frN hf2
 have g42 := hf2.getN g4u
 have l42 := lt_of_get _ _ g42
 have hF2 : Fr a.all w w2 := (Fr.refl a.all w).trans (hf1.trans' hf2) (by simp)
 cases q1 : goodE f with
 | false =>
   rw [if_pos (.inl q1)] at hK
   simp (maxSteps:=9^7)(disch:=first|assumption|(simp only[dz];first|done|assumption|omega)|omega|apply_rules[Fr.refl,Fr.alloc,Fr.drew]|rfl) only [↓gd,gp,Nat.reduceAdd,Nat.reduceEqDiff, ↓hk18, g42, ← hx]
   exact hK _ a.S h2 (fun x hx => .inl hx) hF2
 | true =>
   by_cases q2 : read < f.lo
   ·have d2 : decide (read < f.lo) = true := decide_eq_true q2
    rw [if_pos (.inr (.inl q2))] at hK
    simp (maxSteps:=9^7)(disch:=first|assumption|(simp only[dz];first|done|assumption|omega)|omega|apply_rules[Fr.refl,Fr.alloc,Fr.drew]|rfl) only [↓gd,gp,Nat.reduceAdd,Nat.reduceEqDiff, ↓hk18, g42, d2, ← hx]
    exact hK _ a.S h2 (fun x hx => .inl hx) hF2
   have d2 : decide (read < f.lo) = false := decide_eq_false q2
   by_cases q3 : 1099511627776 < read
   ·have d3 : decide (1099511627776 < read) = true := decide_eq_true q3
    rw [if_pos (.inr (.inr q3))] at hK
    simp (maxSteps:=9^7)(disch:=first|assumption|(simp only[dz];first|done|assumption|omega)|omega|apply_rules[Fr.refl,Fr.alloc,Fr.drew]|rfl) only [↓gd,gp,Nat.reduceAdd,Nat.reduceEqDiff, ↓hk18, g42, d2, d3, ← hx]
    exact hK _ a.S h2 (fun x hx => .inl hx) hF2
   have d3 : decide (1099511627776 < read) = false := decide_eq_false q3
   rw [if_neg (by rw [q1]; rintro (q | q | q); cases q; exact q2 q; exact q3 q)] at hK
   have fin : ∀ (w3 : World) (r : Value) (K' : Value → World → Prop), Fr [] w2 w3 → r = .agg (encFct (M.settle f read)).toArray → (∀ w' S', NodeAt w' { a with S := S' } c inc (M.lay c (M.settle f read)).1 → (∀ x ∈ S', x ∈ a.S ∨ w.heap.size ≤ x) → Fr a.all w w' → K (.bool (M.lay c (M.settle f read)).2) w') → (∀ b w', K b w' → K' b w') →
     CallsN Tryz.prog 49 [.pointer (some ⟨a.nb, 0, none⟩), r] w3 K' := by
    intro w3 r K' hf3 hr hk hkk
    subst hr
    have hz3 := hf3.size
    refine lay_spec (h2.frN hf3) hT hB fun w4 S4 h4 hS4 hf4 => hkk _ _ (hk _ S4 h4 (fun x hx => (hS4 x hx).imp id fun q => by omega) ((hF2.trans' hf3).trans hf4 fun x hx => .inl hx))
   by_cases q4 : f.hi = 4611686018427387904
   ·have d4 : decide (f.hi = 4611686018427387904) = true := decide_eq_true q4
    rw [if_neg (fun q => q.1 q4)] at hK
    simp (maxSteps:=9^7)(disch:=first|assumption|(simp only[dz];first|done|assumption|omega)|omega|apply_rules[Fr.refl,Fr.alloc,Fr.drew]|rfl) only [↓gd,gp,Nat.reduceAdd,Nat.reduceEqDiff, ↓hk18, g42, d2, d3, d4, ← hx]
    refine settle_spec (e := f) h2 fun w3 hf3 => ?_
    have cw3 := cur w3
    refine fin _ _ _ hf3 rfl hK fun b w' hb => ?_
    have cw' := cur w'
    first | exact hb | (simp (maxSteps:=9^7)(disch:=first|assumption|(simp only[dz];first|done|assumption|omega)|omega|apply_rules[Fr.refl,Fr.alloc,Fr.drew]|rfl) only [↓gd,gp,Nat.reduceAdd,Nat.reduceEqDiff, ↓hk18]; exact hb)
   ·have d4 : decide (f.hi = 4611686018427387904) = false := decide_eq_false q4
    by_cases q5 : x < f.hi
    ·have d5 : decide (x < f.hi) = true := decide_eq_true q5
     rw [if_pos ⟨q4, q5⟩] at hK
     simp (maxSteps:=9^7)(disch:=first|assumption|(simp only[dz];first|done|assumption|omega)|omega|apply_rules[Fr.refl,Fr.alloc,Fr.drew]|rfl) only [↓gd,gp,Nat.reduceAdd,Nat.reduceEqDiff, ↓hk18, g42, d2, d3, d4, d5, ← hx]
     exact hK _ a.S h2 (fun x hx => .inl hx) hF2
    ·have d5 : decide (x < f.hi) = false := decide_eq_false q5
     rw [if_neg (fun q => q5 q.2)] at hK
     simp (maxSteps:=9^7)(disch:=first|assumption|(simp only[dz];first|done|assumption|omega)|omega|apply_rules[Fr.refl,Fr.alloc,Fr.drew]|rfl) only [↓gd,gp,Nat.reduceAdd,Nat.reduceEqDiff, ↓hk18, g42, d2, d3, d4, d5, ← hx]
     refine settle_spec (e := f) h2 fun w3 hf3 => ?_
     have cw3 := cur w3
     refine fin _ _ _ hf3 rfl hK fun b w' hb => ?_
     have cw' := cur w'
     first | exact hb | (simp (maxSteps:=9^7)(disch:=first|assumption|(simp only[dz];first|done|assumption|omega)|omega|apply_rules[Fr.refl,Fr.alloc,Fr.drew]|rfl) only [↓gd,gp,Nat.reduceAdd,Nat.reduceEqDiff, ↓hk18]; exact hb)
def EndAt (w0 : World) (a : Lay) (c : Cfg) (inc : Int) (M : Mem) (fv : Value) (F : Ent → Int × Bool) : Prop :=
 ∀ (w : World) (S : List Nat) (T : Tab) (e : Ent) (K : Value → World → Prop), NodeAt w { a with S := S } c inc { M with T := T } → Fr a.S w0 w → (∀ w', Fr [] w w' → K (.tuple ([.int .i64 (F e).1, .bool (F e).2] : List Value).toArray) w') → nx Tryz.prog (xcall fv [.agg (encEnt e).toArray]) w K
def endO (F : Ent → Int × Bool) (e : Ent) : Option Int := if (F e).2 = true then some (F e).1 else none
set_option maxHeartbeats 16000000 in
theorem closeAll_spec {w : World} {a : Lay} {c : Cfg} {inc : Int} {M : Mem} {B : Nat} {n : Int} {v fv : Value} {l : Ents} {F : Ent → Int × Bool} {K : Value → World → Prop} (h : NodeAt w a c inc M) (hT : TI M.T B n) (hB : B ≤ 100000000)
  (hs : SlOf 8 encEnt w v l) (hoff : ∀ x m cc, v = .slice (some x) m cc → x.block < w.heap.size ∧ x.block ∉ a.S) (hp : PlaceND l) (hl : ∀ x ∈ l, M.T.at x.key x.lo = some x) (hb : l.length ≤ 1000000000) (hF : EndAt w a c inc M fv F)
  (hK : ∀ w' S', NodeAt w' { a with S := S' } c inc { M with T := closeL (endO F) M.T l } → TI (closeL (endO F) M.T l) B n → (∀ x ∈ S', x ∈ a.S ∨ w.heap.size ≤ x) → Fr a.S w w' → K (.tuple #[]) w') :
  CallsN Tryz.prog 64 [.pointer (some ⟨a.nb, 0, none⟩), v, fv] w K := by
 have cw := cur w
 obtain ⟨va, vc, hv⟩ := hs.form
 refine call64 ?_
 simp (maxSteps:=9^7)(disch:=first|assumption|(simp only[dz];first|done|assumption|omega)|omega|apply_rules[Fr.refl,Fr.alloc,Fr.drew]|rfl) only [↓gd,gp,Nat.reduceAdd,Nat.reduceEqDiff, ↓hk64, hv]
 rw [← hv]
 refine for_intro l.length 14 0 (fun i e1 w' => ∃ S T, e1 0 = .pointer (some ⟨a.nb, 0, none⟩) ∧ e1 2 = fv ∧ e1 12 = v ∧ e1 13 = .int .i64 l.length ∧ NodeAt w' { a with S := S } c inc { M with T := T } ∧ T = closeL (endO F) M.T (l.take i) ∧ TI T B n ∧ (∀ x ∈ l.drop i, T.at x.key x.lo = some x) ∧
  (∀ x ∈ S, x ∈ a.S ∨ w.heap.size ≤ x) ∧ Fr a.S w w') ?_ (Nat.zero_le _) ?_ ?_
 ·simp (maxSteps:=9^7)(disch:=first|assumption|(simp only[dz];first|done|assumption|omega)|omega|apply_rules[Fr.refl,Fr.alloc,Fr.drew]|rfl) only [↓gsd,gs,gv,Nat.reduceAdd,Nat.reduceEqDiff, Int.natCast_zero]
 ·refine ⟨a.S, M.T, ?_⟩
  simp (maxSteps:=9^7)(disch:=first|assumption|(simp only[dz];first|done|assumption|omega)|omega|apply_rules[Fr.refl,Fr.alloc,Fr.drew]|rfl) only [↓gsd,gs,gv,Nat.reduceAdd,Nat.reduceEqDiff, hv]
  exact ⟨h, rfl, hT, fun x hx => hl x (by simpa using hx), fun x hx => .inl hx, Fr.refl _ _⟩
 rintro i e1 w1 kk hi eS ⟨S, T, e0, e2, e12, e13, h1, hTe, hT1, hl1, hS1, hF1⟩ hkk
 have cw1 := cur w1
 have hz1 := hF1.size
 have hs1 : SlOf 8 encEnt w1 v l := hs.fr hF1 fun b hb x m cc q => (fun e => (hoff x m cc q).2 (e ▸ hb))
 by_cases hil : i < l.length
 ·have d1 : decide ((i : Int) < (l.length : Int)) = true := decide_eq_true (by omega)
  obtain ⟨x, hx⟩ : ∃ x, l[i]? = some x := ⟨l[i], List.getElem?_eq_getElem hil⟩
  obtain ⟨b1, o1, p1, ob1, hv1, hb1, hbl1, hr1, _⟩ := hs1.read encEnt_len i x hx
  have i0 : (0 : Int) ≤ (i : Int) := by omega
  have i1 : (i : Int) < (l.length : Int) := by omega
  have wi : IntKind.i64.wrap ((i : Int) + 1) = (i : Int) + 1 := wrap64 (by omega) (by omega)
  have hdr : l.drop i = x :: l.drop (i + 1) := by
   obtain ⟨q1, q2⟩ := List.getElem?_eq_some_iff.1 hx
   rw [List.drop_eq_getElem_cons q1, q2]
  have htk : l.take (i + 1) = l.take i ++ [x] := by rw [List.take_add_one, hx]; rfl
  have hstep : closeL (endO F) M.T (l.take (i + 1)) = closeStep (endO F) T x := by rw [htk, hTe]; unfold closeL; rw [List.foldl_append]; rfl
  have hxa : T.at x.key x.lo = some x := hl1 x (by rw [hdr]; exact List.mem_cons_self ..)
  obtain ⟨hTn, hTat⟩ := hT1.closeStep (by omega) hxa (endO F)
  have hpd : ∀ y ∈ l.drop (i + 1), ¬ (x.key = y.key ∧ x.lo = y.lo) := by
   have := hp.sublist (List.drop_sublist i l)
   rw [hdr] at this
   exact (List.pairwise_cons.1 this).1
  have hln : ∀ y ∈ l.drop (i + 1), (closeStep (endO F) T x).at y.key y.lo = some y := fun y hy => by
   rw [hTat, if_neg (hpd y hy)]
   exact hl1 y (by rw [hdr]; exact List.mem_cons_of_mem _ hy)
  have fin : ∀ (e' : Env) (w' : World) (S' : List Nat), e' 0 = .pointer (some ⟨a.nb, 0, none⟩) → e' 2 = fv → e' 12 = v → e' 13 = .int .i64 l.length → e' 14 = .int .i64 ((i : Int) + 1) → NodeAt w' { a with S := S' } c inc { M with T := closeStep (endO F) T x } → (∀ x ∈ S', x ∈ a.S ∨ w.heap.size ≤ x) → Fr a.S w w' → kk e' w' := fun e' w' S' r0 r2 r12 r13 r14 hN hS hf => hkk e' w' hil r14 ⟨S', _, r0, r2, r12, r13, hN, hstep.symm, hTn, hln, hS, hf⟩
  have hendo : endO F x = if (F x).2 = true then some (F x).1 else none := rfl
  unfold closeStep at fin
  unfold encEnt at hr1
  simp (maxSteps:=9^7)(disch:=first|assumption|(simp only[dz];first|done|assumption|omega)|omega|apply_rules[Fr.refl,Fr.alloc,Fr.drew]|rfl) only [↓gd,gp,Nat.reduceAdd,Nat.reduceEqDiff, ↓hk64, e0, e2, e12, e13, eS, hv1, d1, i0, i1, Int.toNat_natCast, Nat.mul_one, hb1, hr1]
  generalize hW : World.alloc w1 _ = w2
  have hf2 : Fr [] w1 w2 := by rw [← hW]; exact fr_
  have g7 : w2.heap[w1.heap.size]? = some (.cells (encEnt x).toArray 52 (0, 0)) := by rw [← hW]; exact get_alloc_new _ _
  clear hW
  have cw2 := cur w2
  have hz2 := hf2.size
  have h2 := h1.frN hf2
  have hF2 := hF1.trans' hf2
  refine hF w2 S T x _ h2 hF2 fun w3 hf3 => ?_
  have cw3 := cur w3
  have hz3 := hf3.size
  have h3 := h2.frN hf3
  have hF3 := hF2.trans' hf3
  have g73 := hf3.getN g7
  have l73 := lt_of_get _ _ g73
  have g73u := g73
  unfold encEnt at g73u
  generalize F x = fx at hendo fin
  obtain ⟨en, ok⟩ := fx
  simp only at hendo
  by_cases q1 : x.hi = 4611686018427387904
  ·have d2 : decide (x.hi = 4611686018427387904) = true := decide_eq_true q1
   cases ok with
   | false =>
     rw [if_neg (by simp)] at hendo
     rw [if_neg (fun q => q q1), hendo] at fin
     simp only at fin
     simp (maxSteps:=9^7)(disch:=first|assumption|(simp only[dz];first|done|assumption|omega)|omega|apply_rules[Fr.refl,Fr.alloc,Fr.drew]|rfl) only [↓gd,gp,Nat.reduceAdd,Nat.reduceEqDiff, ↓hk64, e0, e2, e12, e13, eS, g73u, d2, wi]
     exact fin _ _ S e0 e2 e12 e13 rfl (h3.frN fr_) hS1 (hF3.trans' fr_)
   | true =>
     rw [if_pos rfl] at hendo
     rw [if_neg (fun q => q q1), hendo] at fin
     simp only at fin
     simp (maxSteps:=9^7)(disch:=first|assumption|(simp only[dz];first|done|assumption|omega)|omega|apply_rules[Fr.refl,Fr.alloc,Fr.drew]|rfl) only [↓gd,gp,Nat.reduceAdd,Nat.reduceEqDiff, ↓hk64, e0, e2, e12, e13, eS, g73u, d2, wi]
     refine close_spec (e := x) (n := en) fun w4 hf4 => ?_
     have cw4 := cur w4
     have hz4 := hf4.size
     have h4 := h3.frN hf4
     have hF4 := hF3.trans' hf4
     have g74 := hf4.getN g73
     have l74 := lt_of_get _ _ g74
     have g74u := g74
     unfold encEnt at g74u
     have hd4 := h4.hd
     have hm4 := h4.mm
     simp only at hd4 hm4
     have l4a := lt_of_get _ _ hd4
     have l4b := lt_of_get _ _ hm4
     have a7 := h1.away (Nat.le_refl w1.heap.size)
     have s2 := (sub_all (a := { a with S := S })).2.1
     have s3 := (sub_all (a := { a with S := S })).2.2.1
     have x2 : a.nb ≠ w1.heap.size := fun q => a7.1 (q ▸ s2)
     have x3 : a.mb ≠ w1.heap.size := fun q => a7.1 (q ▸ s3)
     cases hc : closeE x en with
     | none =>
       rw [hc] at fin
       simp only at fin
       unfold encFct
       simp (maxSteps:=9^7)(disch:=first|assumption|(simp only[dz];first|done|assumption|omega)|omega|apply_rules[Fr.refl,Fr.alloc,Fr.drew]|rfl) only [↓gd,gp,Nat.reduceAdd,Nat.reduceEqDiff, ↓hk64, e0, e2, e12, e13, eS, g74u, d2, wi, hd4, hm4]
       generalize hW : World.drew _ = w5
       have hf5 : Fr [] w4 w5 := by rw [← hW]; exact fr_
       clear hW
       have cw5 := cur w5
       have h5 := h4.frN hf5
       refine drop_spec (k := x.key) (lo := x.lo) h5.tab hT1.tok.wf (by omega) fun w6 ht6 hf6 => ?_
       have cw6 := cur w6
       have h6 : NodeAt w6 { a with S := S } c inc { M with T := T.drop x.key x.lo } := h5.tabS (S' := S) ht6 (fun x hx => .inl hx) hf6
       try simp (maxSteps:=9^7)(disch:=first|assumption|(simp only[dz];first|done|assumption|omega)|omega|apply_rules[Fr.refl,Fr.alloc,Fr.drew]|rfl) only [↓gd,gp,Nat.reduceAdd,Nat.reduceEqDiff, ↓hk64, e0, e2, e12, e13, eS, wi]
       exact fin _ _ S e0 e2 e12 e13 rfl h6 hS1 ((hF4.trans' hf5).trans hf6 (fun y hy => hS1 y hy))
     | some f =>
       have hm : ∃ X, f = { x with hi := X } := by
        unfold closeE at hc
        split at hc
        ·cases hc; exact ⟨x.hi, rfl⟩
        ·split at hc
         ·cases hc
         ·cases hc; exact ⟨_, rfl⟩
       obtain ⟨X, rfl⟩ := hm
       rw [hc] at fin
       simp only at fin
       unfold encFct
       simp (maxSteps:=9^7)(disch:=first|assumption|(simp only[dz];first|done|assumption|omega)|omega|apply_rules[Fr.refl,Fr.alloc,Fr.drew]|rfl) only [↓gd,gp,Nat.reduceAdd,Nat.reduceEqDiff, ↓hk64, e0, e2, e12, e13, eS, g74u, d2, wi, hd4, hm4]
       generalize hW : World.drew _ = w5
       have hf5 : Fr [w1.heap.size] w4 w5 := by rw [← hW]; exact fr_
       clear hW
       have cw5 := cur w5
       have h5 := h4.frA hf5 (fun g hg => by simp at hg; subst hg; exact a7)
       have hz5 := hf5.size
       refine put_spec (e := { x with hi := X }) h5.tab hT1.tok.wf (by omega) fun w6 S6 ht6 hs6 hn6 hf6 => ?_
       have cw6 := cur w6
       have h6 : NodeAt w6 { a with S := S6 } c inc { M with T := T.putR { x with hi := X } } := h5.tabS ht6 hn6 hf6
       try simp (maxSteps:=9^7)(disch:=first|assumption|(simp only[dz];first|done|assumption|omega)|omega|apply_rules[Fr.refl,Fr.alloc,Fr.drew]|rfl) only [↓gd,gp,Nat.reduceAdd,Nat.reduceEqDiff, ↓hk64, e0, e2, e12, e13, eS, wi]
       exact fin _ _ S6 e0 e2 e12 e13 rfl h6 (fun y hy => (hn6 y hy).elim (fun q => hS1 y q) (fun q => .inr (by omega))) ((hF4.trans hf5 (fun y hy => by simp at hy; subst hy; exact .inr (by omega))).trans hf6 (fun y hy => hS1 y hy))
  ·have d2 : decide (x.hi = 4611686018427387904) = false := decide_eq_false q1
   rw [if_pos q1] at fin
   simp (maxSteps:=9^7)(disch:=first|assumption|(simp only[dz];first|done|assumption|omega)|omega|apply_rules[Fr.refl,Fr.alloc,Fr.drew]|rfl) only [↓gd,gp,Nat.reduceAdd,Nat.reduceEqDiff, ↓hk64, e0, e2, e12, e13, eS, g73u, d2, wi]
   exact fin _ _ S e0 e2 e12 e13 rfl (h3.frN fr_) hS1 (hF3.trans' fr_)
 ·have d1 : decide ((i : Int) < (l.length : Int)) = false := decide_eq_false (by omega)
  rw [List.take_of_length_le (by omega)] at hTe
  subst hTe
  simp (maxSteps:=9^7)(disch:=first|assumption|(simp only[dz];first|done|assumption|omega)|omega|apply_rules[Fr.refl,Fr.alloc,Fr.drew]|rfl) only [↓gd,gp,Nat.reduceAdd,Nat.reduceEqDiff, ↓hk64, e0, e2, e12, e13, eS, d1]
  exact hK w1 S h1 hT1 hS1 hF1
end Go.Proofs.YtomlgkecckffeaaGreat
