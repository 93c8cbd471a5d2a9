/- A node: victims go. A node: the closures of lay. -/
import Derived.Test.YtomlgkecckffeaaGreatW5
set_option linter.unusedVariables false
set_option linter.unusedSimpArgs false
set_option maxRecDepth 10000
namespace Go.Proofs.YtomlgkecckffeaaGreat
open Go.VW
def AmongAt (w0 : World) (a : Lay) (c : Cfg) (inc : Int) (M : Mem) (B : Nat) (fv : Value) (F : Tab → Ents) : Prop :=
 ∀ (w : World) (T : Tab) (K : Value → World → Prop), NodeAt w a c inc { M with T := T } → TOK T B → Fr a.S w0 w → (∀ v w', SlOf 8 encEnt w' v (F T) → Fr [] w w' → K v w') → nx Tryz.prog (xcall fv []) w K
def OverAt (w0 : World) (a : Lay) (c : Cfg) (inc : Int) (M : Mem) (B : Nat) (fv : Value) (o : Tab → Bool) : Prop :=
 ∀ (w : World) (T : Tab) (K : Value → World → Prop), NodeAt w a c inc { M with T := T } → TOK T B → Fr a.S w0 w → (∀ w', Fr [] w w' → K (.bool (o T)) w') → nx Tryz.prog (xcall fv []) w K
theorem snocE {w : World} {v : Value} {l : Ents} {x : Ent} (h : Own 8 52 w v l.length (cellsOf encEnt l)) (hl : l.length ≤ 1000000000000) :
  ∃ v' w', (Builtin.append_ #[41, 41] 41 #[v, .slice (some ⟨w.heap.size, 0, none⟩) 1 1]).run Tryz.prog (w.alloc (.cells (encEnt x).toArray 52 (0, 0))) = .ok v' w' ∧ Own 8 52 w' v' (l ++ [x]).length (cellsOf encEnt (l ++ [x])) ∧ Fr (blkL v) w w' ∧ (v'.ownBlock = v.ownBlock ∨ ∃ b, v'.ownBlock = some b ∧ w.heap.size ≤ b) := by
 have h1 : Own 8 52 (w.alloc (.cells (encEnt x).toArray 52 (0, 0))) v l.length (cellsOf encEnt l) := h.fr (M := []) ((Fr.refl [] w).alloc _) (by simp)
 have hsl : Sl 8 (w.alloc (.cells (encEnt x).toArray 52 (0, 0))) (.slice (some ⟨w.heap.size, 0, none⟩) 1 1) 1 (cellsOf encEnt [x]) := ⟨rfl, .inr ⟨w.heap.size, 0, 1, (encEnt x).toArray, 52, (0, 0), rfl, get_alloc_new _ _, by rw [cellsOf_one]; rfl⟩⟩
 obtain ⟨v', w', hr, ho, hf, hb⟩ := ap41 (ty := 41) h1 hsl (cellsE_one [x]) (by omega)
 refine ⟨v', w', hr, by rw [List.length_append, cellsOf_append]; exact ho, Fr.trans (M' := blkL v) ((Fr.refl _ w).alloc _) hf fun y hy => .inl hy, ?_⟩
 rcases hb with hb | ⟨b, q1, q2⟩
 ·exact .inl hb
 ·exact .inr ⟨b, q1, by rw [size_alloc] at q2; omega⟩
def others (l : Ents) (ins : Int) : Ents := l.filter fun x => !decide (x.ins = ins)
theorem others_snoc (l : Ents) (x : Ent) (ins : Int) : others (l ++ [x]) ins = if x.ins = ins then others l ins else others l ins ++ [x] := by
 unfold others
 rw [List.filter_append]
 by_cases q : x.ins = ins
 ·rw [if_pos q]; simp [q]
 ·rw [if_neg q]; simp [q]
theorem drop_list_len {T : Tab} {B : Nat} (h : TOK T B) (hB : B ≤ 1000000000) {x : Ent} (hx : x ∈ T.list) : (T.drop x.key x.lo).list.length + 1 = T.list.length := by
 have h1 := (list_row h hx).1
 have h2 := sumR_drop (fun _ => 1) (T := T) (k := x.key) (lo := x.lo) h1
 rw [← sumE_list _ h.nd, ← sumE_list _ (h.drop hB x.key x.lo).1.nd, sumE_one, sumE_one] at h2
 exact h2
theorem evictF_sub {among : Tab → Ents} {over : Tab → Bool} {ins : Int} {n : Nat} {T : Tab} (h : over T = false) : evictF among over ins n T = T := by
 cases n with
 | zero => rfl
 | succ n => unfold evictF; rw [h]; rfl
theorem evictF_none {among : Tab → Ents} {over : Tab → Bool} {ins : Int} {n : Nat} {T : Tab} (h : vicE (others (among T) ins) = none) : evictF among over ins n T = T := by
 cases n with
 | zero => rfl
 | succ n =>
   unfold evictF
   unfold others at h
   rw [h]
   split <;> rfl
theorem evictF_some {among : Tab → Ents} {over : Tab → Bool} {ins : Int} {n : Nat} {T : Tab} {i : Nat} {x : Ent} (ho : over T = true) (h : vicE (others (among T) ins) = some i) (hx : (others (among T) ins)[i]? = some x) : evictF among over ins (n + 1) T = evictF among over ins n (T.drop x.key x.lo) := by
 conv => { lhs; unfold evictF }
 unfold others at h hx
 rw [if_pos ho, h]
 simp only [Option.bind_some, hx]
theorem vicE_lt {l : Ents} {i : Nat} (h : vicE l = some i) : i < l.length := vicTo_lt (Nat.le_refl _) h
set_option maxHeartbeats 16000000 in
theorem evict_spec {w : World} {a : Lay} {c : Cfg} {inc : Int} {M : Mem} {e : Ent} {B : Nat} {f1 f2 : Value} {among : Tab → Ents} {over : Tab → Bool} {K : Value → World → Prop} (h : NodeAt w a c inc M) (hT : TOK M.T B) (hB : B ≤ 1000000000)
  (hA : AmongAt w a c inc M B f1 among) (hO : OverAt w a c inc M B f2 over) (hsub : ∀ T, ∀ x ∈ among T, x ∈ T.list) (hlen : ∀ T, TOK T B → (among T).length ≤ T.list.length)
  (hK : ∀ w', NodeAt w' a c inc { M with T := evictF among over e.ins M.T.list.length M.T } → Fr a.S w w' → K (.tuple #[]) w') : CallsN Tryz.prog 117 [.pointer (some ⟨a.nb, 0, none⟩), .agg (encEnt e).toArray, f1, f2] w K := by
 have cw := cur w
 refine call117 ?_
 unfold encEnt
 simp (maxSteps:=9^7)(disch:=first|assumption|(simp only[dz];first|done|assumption|omega)|omega|apply_rules[Fr.refl,Fr.alloc,Fr.drew]|rfl) only [↓gd,gp,Nat.reduceAdd,Nat.reduceEqDiff, ↓hk117]
 generalize hW : World.alloc w _ = w1
 have hf1 : Fr [] w w1 := by rw [← hW]; exact fr_
 have hz1 : w1.heap.size = w.heap.size + 1 := by rw [← hW]; simp only [gz]
 have g5 : w1.heap[w.heap.size]? = some (.cells (encEnt e).toArray 52 (0, 0)) := by rw [← hW]; exact get_alloc_new _ _
 clear hW
 have cw1 := cur w1
 have aw := h.away (Nat.le_refl _)
 have hnS : w.heap.size ∉ a.S := fun q => aw.1 (sub_all.1 _ q)
 refine loop_fuel (fun n e' w' => ∃ T, e' 0 = .pointer (some ⟨a.nb, 0, none⟩) ∧ e' 2 = f1 ∧ e' 3 = f2 ∧ e' 5 = .pointer (some ⟨w.heap.size, 0, none⟩) ∧ NodeAt w' a c inc { M with T := T } ∧ TOK T B ∧ T.list.length ≤ n ∧
  evictF among over e.ins M.T.list.length M.T = evictF among over e.ins n T ∧ Fr a.S w w' ∧ Fr a.S w1 w') M.T.list.length ?_ ?_
 ·refine ⟨M.T, ?_⟩
  simp (maxSteps:=9^7)(disch:=first|assumption|(simp only[dz];first|done|assumption|omega)|omega|apply_rules[Fr.refl,Fr.alloc,Fr.drew]|rfl) only [↓gsd,gs,gv,Nat.reduceAdd,Nat.reduceEqDiff]
  exact ⟨h.frN hf1, hT, Nat.le_refl _, (Fr.refl a.S w).trans hf1 (by simp), Fr.refl _ _⟩
 rintro n e' w2 kk ⟨T, e0, e2, e3, e5, h2, hT2, hn, hev, hF, hF1⟩ hkk
 have cw2 := cur w2
 have hz2 := hF1.size
 have g52 := hF1.get g5 hnS
 have l52 := lt_of_get _ _ g52
 simp (maxSteps:=9^7)(disch:=first|assumption|(simp only[dz];first|done|assumption|omega)|omega|apply_rules[Fr.refl,Fr.alloc,Fr.drew]|rfl) only [↓gd,gp,Nat.reduceAdd,Nat.reduceEqDiff, ↓hk117, e3]
 refine hO w2 T _ h2 hT2 hF fun w3 hf3 => ?_
 have cw3 := cur w3
 have hz3 := hf3.size
 have h3 := h2.frN hf3
 have hF3 := hF.trans' hf3
 cases ho : over T with
 | false =>
   rw [evictF_sub (T := T) ho] at hev
   simp (maxSteps:=9^7)(disch:=first|assumption|(simp only[dz];first|done|assumption|omega)|omega|apply_rules[Fr.refl,Fr.alloc,Fr.drew]|rfl) only [↓gd,gp,Nat.reduceAdd,Nat.reduceEqDiff, ↓hk117, e0, e2, e3, e5]
   rw [hev] at hK
   exact hK _ h3 hF3
 | true =>
   simp (maxSteps:=9^7)(disch:=first|assumption|(simp only[dz];first|done|assumption|omega)|omega|apply_rules[Fr.refl,Fr.alloc,Fr.drew]|rfl) only [↓gd,gp,Nat.reduceAdd,Nat.reduceEqDiff, ↓hk117, e0, e2, e3, e5]
   refine hA w3 T _ h3 hT2 hF3 fun va w4 hva hf4 => ?_
   have cw4 := cur w4
   have hz4 := hf4.size
   have h4 := h3.frN hf4
   have g54 := (hf3.trans' hf4).getN g52
   have hll := hT2.list_len
   have hal := hlen T hT2
   have hsb := hsub T
   generalize hL : among T = L at hva hal hsb
   obtain ⟨xa, xc, hvf⟩ := hva.form
   simp (maxSteps:=9^7)(disch:=first|assumption|(simp only[dz];first|done|assumption|omega)|omega|apply_rules[Fr.refl,Fr.alloc,Fr.drew]|rfl) only [↓gd,gp,Nat.reduceAdd,Nat.reduceEqDiff, ↓hk117, e0, e2, e3, e5, hvf]
   rw [← hvf]
   refine for_intro L.length 17 0 (fun i e1 w' => ∃ v8, e1 0 = .pointer (some ⟨a.nb, 0, none⟩) ∧ e1 2 = f1 ∧ e1 3 = f2 ∧ e1 5 = .pointer (some ⟨w.heap.size, 0, none⟩) ∧ e1 15 = va ∧ e1 16 = .int .i64 L.length ∧ e1 8 = v8 ∧ Own 8 52 w' v8 (others (L.take i) e.ins).length (cellsOf encEnt (others (L.take i) e.ins)) ∧
    (∀ b, v8.ownBlock = some b → w4.heap.size ≤ b) ∧ Fr [] w4 w') ?_ (Nat.zero_le _) ?_ ?_
   ·simp (maxSteps:=9^7)(disch:=first|assumption|(simp only[dz];first|done|assumption|omega)|omega|apply_rules[Fr.refl,Fr.alloc,Fr.drew]|rfl) only [↓gsd,gs,gv,Nat.reduceAdd,Nat.reduceEqDiff, Int.natCast_zero]
   ·refine ⟨.slice none 0 0, ?_⟩
    simp (maxSteps:=9^7)(disch:=first|assumption|(simp only[dz];first|done|assumption|omega)|omega|apply_rules[Fr.refl,Fr.alloc,Fr.drew]|rfl) only [↓gsd,gs,gv,Nat.reduceAdd,Nat.reduceEqDiff, e0, e2, e3, e5, hvf]
    exact ⟨Own.nil, by simp [Value.ownBlock], Fr.refl _ _⟩
   rintro i e1 w5 kk2 hi eS ⟨v8, q0, q2, q3, q5, q15, q16, q8, ho8, hb8, hf5⟩ hkk2
   have cw5 := cur w5
   have hz5 := hf5.size
   have g55 := hf5.getN g54
   have l55 := lt_of_get _ _ g55
   have h5 := h4.frN hf5
   have hfil : (others (L.take i) e.ins).length ≤ L.length := Nat.le_trans (List.length_filter_le _ _) (by rw [List.length_take]; omega)
   by_cases hil : i < L.length
   ·have d1 : decide ((i : Int) < (L.length : Int)) = true := decide_eq_true (by omega)
    obtain ⟨x, hx⟩ : ∃ x, L[i]? = some x := ⟨L[i], List.getElem?_eq_getElem hil⟩
    have hva5 := hva.frN hf5
    obtain ⟨b1, o1, p1, ob1, hv1, hb1, hbl1, hr1, _⟩ := hva5.read encEnt_len i x hx
    have i0 : (0 : Int) ≤ (i : Int) := by omega
    have i1 : (i : Int) < (L.length : Int) := by omega
    have wi : IntKind.i64.wrap ((i : Int) + 1) = (i : Int) + 1 := wrap64 (by omega) (by omega)
    have htk : L.take (i + 1) = L.take i ++ [x] := by rw [List.take_add_one, hx]; rfl
    unfold encEnt at hr1 g55
    by_cases hxi : x.ins = e.ins
    ·have d2 : decide (x.ins = e.ins) = true := decide_eq_true hxi
     simp (maxSteps:=9^7)(disch:=first|assumption|(simp only[dz];first|done|assumption|omega)|omega|apply_rules[Fr.refl,Fr.alloc,Fr.drew]|rfl) only [↓gd,gp,Nat.reduceAdd,Nat.reduceEqDiff, ↓hk117, q0, q2, q3, q5, q15, q16, eS, hv1, d1, i0, i1, Int.toNat_natCast, Nat.mul_one, hb1, hr1, g55, d2, wi]
     refine hkk2 _ _ hil rfl ⟨v8, ?_⟩
     rw [htk, others_snoc, if_pos hxi]
     simp (maxSteps:=9^7)(disch:=first|assumption|(simp only[dz];first|done|assumption|omega)|omega|apply_rules[Fr.refl,Fr.alloc,Fr.drew]|rfl) only [↓gsd,gs,gv,Nat.reduceAdd,Nat.reduceEqDiff, q0, q2, q3, q5, q15, q16, q8, hv1]
     exact ⟨ho8.frN fr_, hb8, hf5.trans' fr_⟩
    ·have d2 : decide (x.ins = e.ins) = false := decide_eq_false hxi
     obtain ⟨v8a, v8c, hv8⟩ := ho8.sl.form
     simp (maxSteps:=9^7)(disch:=first|assumption|(simp only[dz];first|done|assumption|omega)|omega|apply_rules[Fr.refl,Fr.alloc,Fr.drew]|rfl) only [↓gd,gp,Nat.reduceAdd,Nat.reduceEqDiff, ↓hk117, q0, q2, q3, q5, q15, q16, q8, eS, hv1, d1, i0, i1, Int.toNat_natCast, Nat.mul_one, hb1, hr1, g55, d2, wi]
     generalize hW : World.alloc w5 _ = w6
     have hf6 : Fr [] w5 w6 := by rw [← hW]; exact fr_
     have hz6e : w6.heap.size = w5.heap.size + 1 := by rw [← hW]; simp only [gz]
     clear hW
     have cw6 := cur w6
     have hz6 := hf6.size
     obtain ⟨v9, w9, hr9, ho9, hf9, hbk9⟩ := snocE (x := x) (ho8.frN hf6) (by omega)
     have cw9 := cur w9
     have hz9 := hf9.size
     unfold encEnt at hr9
     rw [hz6e] at hr9
     simp (maxSteps:=9^7)(disch:=first|assumption|(simp only[dz];first|done|assumption|omega)|omega|apply_rules[Fr.refl,Fr.alloc,Fr.drew]|rfl) only [↓gd,gp,Nat.reduceAdd,Nat.reduceEqDiff, ↓hk117, q0, q2, q3, q5, q15, q16, q8, eS, hr9, wi]
     refine hkk2 _ _ hil rfl ⟨v9, ?_⟩
     rw [htk, others_snoc, if_neg hxi]
     simp (maxSteps:=9^7)(disch:=first|assumption|(simp only[dz];first|done|assumption|omega)|omega|apply_rules[Fr.refl,Fr.alloc,Fr.drew]|rfl) only [↓gsd,gs,gv,Nat.reduceAdd,Nat.reduceEqDiff, q0, q2, q3, q5, q15, q16, q8, hv1]
     refine ⟨ho9, fun b hb => ?_, (hf5.trans' hf6).trans hf9 fun y hy => .inr (hb8 y (mem_blkL.1 hy))⟩
     rcases hbk9 with q | ⟨b', r1, r2⟩
     ·exact hb8 b (q ▸ hb)
     ·rw [r1] at hb; cases hb; omega
   ·have d1 : decide ((i : Int) < (L.length : Int)) = false := decide_eq_false (by omega)
    rw [List.take_of_length_le (by omega)] at ho8
    obtain ⟨v8a, v8c, hv8⟩ := ho8.sl.form
    simp (maxSteps:=9^7)(disch:=first|assumption|(simp only[dz];first|done|assumption|omega)|omega|apply_rules[Fr.refl,Fr.alloc,Fr.drew]|rfl) only [↓gd,gp,Nat.reduceAdd,Nat.reduceEqDiff, ↓hk117, q0, q2, q3, q5, q15, q16, q8, eS, d1]
    refine victim_spec (l := others L e.ins) ho8.sl (by have : (others L e.ins).length ≤ L.length := List.length_filter_le _ _; omega) fun w6 hf6 => ?_
    have cw6 := cur w6
    have hz6 := hf6.size
    have h6 := h5.frN hf6
    have hF6 := ((hF3.trans' hf4).trans' hf5).trans' hf6
    have hF16 := (((hF1.trans' hf3).trans' hf4).trans' hf5).trans' hf6
    have ho86 := ho8.frN hf6
    cases hv : vicE (others L e.ins) with
    | none =>
      rw [evictF_none (T := T) (by rw [hL]; exact hv)] at hev
      have d2 : decide ((-1 : Int) < 0) = true := rfl
      simp (maxSteps:=9^7)(disch:=first|assumption|(simp only[dz];first|done|assumption|omega)|omega|apply_rules[Fr.refl,Fr.alloc,Fr.drew]|rfl) only [↓gd,gp,Nat.reduceAdd,Nat.reduceEqDiff, ↓hk117, vicV, q0, q2, q3, q5, q8, d2]
      rw [hev] at hK
      exact hK _ h6 hF6
    | some j =>
      have hj := vicE_lt hv
      obtain ⟨x, hx⟩ : ∃ x, (others L e.ins)[j]? = some x := ⟨_, List.getElem?_eq_getElem hj⟩
      have hxl : x ∈ T.list := hsb x (List.mem_filter.1 (List.mem_of_getElem? hx)).1
      have hdl := drop_list_len hT2 hB hxl
      obtain ⟨m, hm⟩ : ∃ m, n = m + 1 := ⟨n - 1, by omega⟩
      subst hm
      rw [evictF_some (T := T) ho (by rw [hL]; exact hv) (by rw [hL]; exact hx)] at hev
      have d2 : decide ((j : Int) < 0) = false := decide_eq_false (by omega)
      have j0 : (0 : Int) ≤ (j : Int) := by omega
      have j1 : (j : Int) < ((others L e.ins).length : Int) := by omega
      have hvs : SlOf 8 encEnt w6 v8 (others L e.ins) := ho86.sl
      obtain ⟨b1, o1, p1, ob1, hv1, hb1, hbl1, hr1, hc1⟩ := hvs.read encEnt_len j x hx
      have r0 := fun orig K => hc1 0 (.string x.key) orig K rfl
      have r3 := fun orig K => hc1 3 (.int .i64 x.lo) orig K rfl
      simp only [Nat.add_zero] at r0
      have hd6 := h6.hd
      have hm6 := h6.mm
      simp only at hd6 hm6
      have lnb6 := lt_of_get _ _ hd6
      simp (maxSteps:=9^7)(disch:=first|assumption|(simp only[dz];first|done|assumption|omega)|omega|apply_rules[Fr.refl,Fr.alloc,Fr.drew]|rfl) only [↓gd,gp,Nat.reduceAdd,Nat.reduceEqDiff, ↓hk117, vicV, q0, q2, q3, q5, q8, d2, hv1, j0, j1, Int.toNat_natCast, Nat.mul_one, hb1, r0, r3, hd6, hm6]
      have h6d := h6.frN (w' := w6.drew) fr_
      refine drop_spec (k := x.key) (lo := x.lo) h6d.tab hT2.wf (by omega) fun w7 ht7 hf7 => ?_
      have cw7 := cur w7
      have h7 : NodeAt w7 a c inc { M with T := T.drop x.key x.lo } := h6d.tabS (S' := a.S) ht7 (fun x hx => .inl hx) hf7
      try simp (maxSteps:=9^7)(disch:=first|assumption|(simp only[dz];first|done|assumption|omega)|omega|apply_rules[Fr.refl,Fr.alloc,Fr.drew]|rfl) only [↓gd,gp,Nat.reduceAdd,Nat.reduceEqDiff, ↓hk117]
      refine hkk m _ _ (Nat.lt_succ_self _) ⟨T.drop x.key x.lo, ?_⟩
      simp (maxSteps:=9^7)(disch:=first|assumption|(simp only[dz];first|done|assumption|omega)|omega|apply_rules[Fr.refl,Fr.alloc,Fr.drew]|rfl) only [↓gsd,gs,gv,Nat.reduceAdd,Nat.reduceEqDiff, q0, q2, q3, q5]
      exact ⟨h7, (hT2.drop hB _ _).1, by omega, hev, (hF6.trans' fr_).trans hf7 (fun x hx => .inl hx), (hF16.trans' fr_).trans hf7 (fun x hx => .inl hx)⟩
section
variable {w : World} {a : Lay} {c : Cfg} {inc : Int} {M : Mem} {p2 p3 B : Nat} {f : Ent}
theorem among_row (h0 : w.heap[p2]? = some (.cells ([.pointer (some ⟨a.nb, 0, none⟩)] : List Value).toArray 26 (0, 0))) (h1 : w.heap[p3]? = some (.cells (encFct f).toArray 34 (0, 0))) (n0 : p2 ∉ a.S) (n1 : p3 ∉ a.S) (hB : B ≤ 1000000000) :
  AmongAt w a c inc M B (.func (.func 118) #[] #[.pointer (some ⟨p2, 0, none⟩), .pointer (some ⟨p3, 0, none⟩)]) (fun T => T.row f.key) := by
 intro w1 T K h hT hf hK
 rw [nx_xcall Tryz.call118]
 have ha : ([] : List Value) ++ (#[Value.pointer (some ⟨p2, 0, none⟩), .pointer (some ⟨p3, 0, none⟩)] : Array Value).toList = [.pointer (some ⟨p2, 0, none⟩), .pointer (some ⟨p3, 0, none⟩)] := rfl
 rw [ha]
 have cw1 := cur w1
 have g0 := hf.get h0 n0
 have g1 := hf.get h1 n1
 have hd := h.hd
 have hm := h.mm
 unfold encFct at g1
 refine call118 ?_
 simp (maxSteps:=9^7)(disch:=first|assumption|(simp only[dz];first|done|assumption|omega)|omega|apply_rules[Fr.refl,Fr.alloc,Fr.drew]|rfl) only [↓gd,gp,Nat.reduceAdd,Nat.reduceEqDiff, ↓hk118, g0, g1, hd, hm]
 refine of_spec (h.frN (w' := w1.drew) fr_).tab hT.wf (by omega) fun v w2 ho hf2 _ => ?_
 have cw2 := cur w2
 try simp (maxSteps:=9^7)(disch:=first|assumption|(simp only[dz];first|done|assumption|omega)|omega|apply_rules[Fr.refl,Fr.alloc,Fr.drew]|rfl) only [↓gd,gp,Nat.reduceAdd,Nat.reduceEqDiff, ↓hk118]
 exact hK _ _ (SlOf.frN ho.sl fr_) (Fr.trans' fr_ hf2)
theorem over_row (h0 : w.heap[p2]? = some (.cells ([.pointer (some ⟨a.nb, 0, none⟩)] : List Value).toArray 26 (0, 0))) (h1 : w.heap[p3]? = some (.cells (encFct f).toArray 34 (0, 0))) (n0 : p2 ∉ a.S) (n1 : p3 ∉ a.S) (hB : B ≤ 1000000000) :
  OverAt w a c inc M B (.func (.func 119) #[] #[.pointer (some ⟨p2, 0, none⟩), .pointer (some ⟨p3, 0, none⟩)]) (overK c f.key) := by
 intro w1 T K h hT hf hK
 rw [nx_xcall Tryz.call119]
 have ha : ([] : List Value) ++ (#[Value.pointer (some ⟨p2, 0, none⟩), .pointer (some ⟨p3, 0, none⟩)] : Array Value).toList = [.pointer (some ⟨p2, 0, none⟩), .pointer (some ⟨p3, 0, none⟩)] := rfl
 rw [ha]
 have cw1 := cur w1
 have g0 := hf.get h0 n0
 have g1 := hf.get h1 n1
 have hd := h.hd
 have hm := h.mm
 unfold encFct at g1
 unfold overK at hK
 refine call119 ?_
 simp (maxSteps:=9^7)(disch:=first|assumption|(simp only[dz];first|done|assumption|omega)|omega|apply_rules[Fr.refl,Fr.alloc,Fr.drew]|rfl) only [↓gd,gp,Nat.reduceAdd,Nat.reduceEqDiff, ↓hk119, g0, g1, hd, hm]
 refine of_spec (h.frN (w' := w1.drew) fr_).tab hT.wf (by omega) fun v w2 ho hf2 _ => ?_
 have cw2 := cur w2
 have hf2' : Fr [] w1 w2 := Fr.trans' fr_ hf2
 have g02 := hf2'.getN g0
 have hd2 := (h.frN hf2').hd
 obtain ⟨va, vc, hv⟩ := ho.sl.form
 simp (maxSteps:=9^7)(disch:=first|assumption|(simp only[dz];first|done|assumption|omega)|omega|apply_rules[Fr.refl,Fr.alloc,Fr.drew]|rfl) only [↓gd,gp,Nat.reduceAdd,Nat.reduceEqDiff, ↓hk119, g02, hd2, hv]
 exact hK _ hf2'
theorem over_bytes (h0 : w.heap[p2]? = some (.cells ([.pointer (some ⟨a.nb, 0, none⟩)] : List Value).toArray 26 (0, 0))) (n0 : p2 ∉ a.S) :
  OverAt w a c inc M B (.func (.func 120) #[] #[.pointer (some ⟨p2, 0, none⟩)]) (overB c) := by
 intro w1 T K h hT hf hK
 rw [nx_xcall Tryz.call120]
 have ha : ([] : List Value) ++ (#[Value.pointer (some ⟨p2, 0, none⟩)] : Array Value).toList = [.pointer (some ⟨p2, 0, none⟩)] := rfl
 rw [ha]
 have cw1 := cur w1
 have g0 := hf.get h0 n0
 have hd := h.hd
 have hm := h.mm
 unfold overB at hK
 refine call120 ?_
 simp (maxSteps:=9^7)(disch:=first|assumption|(simp only[dz];first|done|assumption|omega)|omega|apply_rules[Fr.refl,Fr.alloc,Fr.drew]|rfl) only [↓gd,gp,Nat.reduceAdd,Nat.reduceEqDiff, ↓hk120, g0, hd, hm]
 refine bytes_spec (h.frN (w' := w1.drew) fr_).tab ?_
 have hd2 := (h.frN (w' := w1.drew) fr_).hd
 try simp (maxSteps:=9^7)(disch:=first|assumption|(simp only[dz];first|done|assumption|omega)|omega|apply_rules[Fr.refl,Fr.alloc,Fr.drew]|rfl) only [↓gd,gp,Nat.reduceAdd,Nat.reduceEqDiff, ↓hk120, g0, hd, hd2]
 exact hK _ fr_
theorem among_all (hB : B ≤ 1000000000) : AmongAt w a c inc M B (.func (.func 68) #[.pointer (some ⟨a.tb, 0, none⟩)] #[]) Tab.list := by
 intro w1 T K h hT hf hK
 rw [nx_xcallB Tryz.call68]
 have ha : (#[Value.pointer (some ⟨a.tb, 0, none⟩)] : Array Value).toList ++ ([] : List Value) ++ (#[] : Array Value).toList = [.pointer (some ⟨a.tb, 0, none⟩)] := rfl
 rw [ha]
 exact all_all h.tab hT hB fun v w2 hs _ _ hf2 => hK v w2 hs hf2
theorem row_len_le {T : Tab} {B : Nat} (h : TOK T B) (k : ByteArray) : (T.row k).length ≤ T.list.length := by
 have h1 := sumR_row (fun _ => 1) T k
 rw [← sumE_list _ h.nd, sumE_one, sumE_one] at h1
 exact h1
end
end Go.Proofs.YtomlgkecckffeaaGreat
