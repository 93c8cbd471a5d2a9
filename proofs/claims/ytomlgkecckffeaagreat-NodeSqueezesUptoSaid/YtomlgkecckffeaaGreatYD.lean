/- A node squeezed: the victims go in the policy's order. A node: Squeeze; Order. Order, also of the empty list. NodeAnswers: its end. -/
import Derived.Test.YtomlgkecckffeaaGreatYF
import Derived.Test.YtomlgkecckffeaaGreatVI
import Derived.Test.YtomlgkecckffeaaGreatVJ
set_option linter.unusedVariables false
set_option linter.unusedSimpArgs false
set_option maxRecDepth 10000
namespace Go.Proofs.YtomlgkecckffeaaGreat
open Go.VW
theorem lexI_eq : ∀ (x y : List Int), x.length = y.length → ¬ lexI x y < 0 → ¬ lexI y x < 0 → x = y
 | [], [], _, _, _ => rfl
 | [], _ :: _, h, _, _ => by simp at h
 | _ :: _, [], h, _, _ => by simp at h
 | x :: a, y :: b, h, h1, h2 => by
   rw [lex1] at h1 h2
   have e : x = y := by omega
   subst e
   rw [lexI_eq a b (by simpa using h) (by omega) (by omega)]
theorem befE_ins {a b : Ent} (h1 : befE a b = false) (h2 : befE b a = false) : a.ins = b.ins := by
 unfold befE at h1 h2
 rw [← before_eq] at h1 h2
 have hl : ∀ p : Pol, (rankL p).length = 4 := fun p => by unfold rankL; split <;> rfl
 have e := lexI_eq _ _ (by rw [hl, hl]) (of_decide_eq_false h1) (of_decide_eq_false h2)
 unfold rankL polOf at e
 simp only at e
 by_cases q1 : a.hi = openI <;> by_cases q2 : b.hi = openI
 ·rw [if_neg (show ¬ (a.hi ≠ openI) from fun q => q q1), if_neg (show ¬ (b.hi ≠ openI) from fun q => q q2)] at e
  simp only [List.cons.injEq, and_true, true_and] at e
  exact e.2.2
 ·rw [if_neg (show ¬ (a.hi ≠ openI) from fun q => q q1), if_pos (show b.hi ≠ openI from q2)] at e
  simp at e
 ·rw [if_pos (show a.hi ≠ openI from q1), if_neg (show ¬ (b.hi ≠ openI) from fun q => q q2)] at e
  simp at e
 ·rw [if_pos (show a.hi ≠ openI from q1), if_pos (show b.hi ≠ openI from q2)] at e
  simp only [List.cons.injEq, and_true, true_and] at e
  exact e.2
theorem vicTo_min {l : Ents} : ∀ {i b : Nat}, i ≤ l.length → vicTo l i = some b → ∀ j x y, j < i → l[j]? = some x → l[b]? = some y → befE x y = false
 | 0, b, _, h, _, _, _, _, _, _ => by cases h
 | i + 1, b, hi, h, j, x, y, hj, hx, hy => by
   have hg : l[i]? = some (l[i]'(by omega)) := List.getElem?_eq_getElem _
   unfold vicTo vicStep at h
   rw [hg] at h
   simp only at h
   have irr : ∀ z, befE z z = false := fun z => by
    cases q : befE z z with
    | false => rfl
    | true => have := befE_sw.asym _ _ q; rw [q] at this; exact this
   cases hv : vicTo l i with
   | none =>
     rw [hv] at h
     simp only [Option.some.injEq] at h
     subst h
     have h0 : i = 0 := by
      apply Classical.byContradiction
      intro hn
      have := vicTo_some (l := l) (i := i) (by omega) (by omega)
      rw [hv] at this; cases this
     subst h0
     have : j = 0 := by omega
     subst this
     rw [hx] at hy; cases hy; exact irr _
   | some b0 =>
     rw [hv] at h
     simp only at h
     have hb0 := vicTo_lt (by omega) hv
     have hgb : l[b0]? = some (l[b0]'(by omega)) := List.getElem?_eq_getElem _
     rw [hgb] at h
     simp only [Option.any_some] at h
     split at h
     ·rename_i q
      cases h
      rw [hg] at hy; cases hy
      by_cases hji : j = i
      ·subst hji; rw [hg] at hx; cases hx; exact irr _
      ·have ih := vicTo_min (by omega) hv j x _ (by omega) hx hgb
       cases q2 : befE x (l[i]'(by omega)) with
       | false => rfl
       | true =>
         rcases befE_sw.ntr _ (l[b0]'(by omega)) _ q2 with q3 | q3
         ·rw [ih] at q3; cases q3
         ·have := befE_sw.asym _ _ q; rw [q3] at this; cases this
     ·rename_i q
      cases h
      rw [hgb] at hy; cases hy
      by_cases hji : j = i
      ·subst hji; rw [hg] at hx; cases hx; simpa using q
      ·exact vicTo_min (by omega) hv j x _ (by omega) hx hgb
def Mem.squeeze (M : Mem) : Mem × Option Ent :=
 match (vicE M.T.list).bind (M.T.list[·]?) with
 | none => (M, none)
 | some e => ({ M with T := M.T.drop e.key e.lo }, some e)
theorem MOK.squeeze {c : Cfg} (hc : CfgOK c) {M : Mem} {i : Int} (h : MOK c M i) : MOK c M.squeeze.1 i := by
 have hb0 := hc.b0
 have hb1 := hc.b1
 unfold Mem.squeeze
 split
 ·exact h
 ·exact ⟨h.ti.drop (by omega) _ _, h.wf, h.i0, h.i1⟩
def LeftAt (l0 : Ents) (L : List Nat) (k : Nat) (T : Tab) : Prop := ∀ y, y ∈ T.list ↔ ∃ j, k ≤ j ∧ ∃ i, L[j]? = some i ∧ l0[i]? = some y
theorem squeeze_next {c : Cfg} (hc : CfgOK c) {M : Mem} {m : Int} (h : MOK c M m) {l0 : Ents} (hn : (l0.map (·.ins)).Nodup) {L : List Nat} (hp : L.Perm (List.range l0.length)) (hs : SortL (ltI befE l0) L) {k i : Nat} {e : Ent} (hl : LeftAt l0 L k M.T) (hk : L[k]? = some i) (he : l0[i]? = some e) :
  M.squeeze.2 = some e ∧ LeftAt l0 L (k + 1) M.squeeze.1.T := by
 have hb0 := hc.b0
 have hb1 := hc.b1
 have hel : e ∈ M.T.list := (hl e).2 ⟨k, Nat.le_refl _, i, hk, he⟩
 have hpos := List.length_pos_of_mem hel
 obtain ⟨b, hb⟩ := Option.isSome_iff_exists.1 (vicTo_some (l := M.T.list) hpos (Nat.le_refl _))
 have hv : vicE M.T.list = some b := hb
 have hbl := vicE_lt hv
 obtain ⟨x, hx⟩ : ∃ x, M.T.list[b]? = some x := ⟨_, List.getElem?_eq_getElem hbl⟩
 have hxm := List.mem_of_getElem? hx
 have same : ∀ {i1 i2 : Nat} {a b : Ent}, l0[i1]? = some a → l0[i2]? = some b → a.ins = b.ins → i1 = i2 := fun {i1 i2 a b} h1 h2 hab => by
  obtain ⟨g1, g2⟩ := List.getElem?_eq_some_iff.1 h1
  obtain ⟨g3, g4⟩ := List.getElem?_eq_some_iff.1 h2
  rcases Nat.lt_trichotomy i1 i2 with q | q | q
  ·have := List.pairwise_iff_getElem.1 hn i1 i2 (by simpa using g1) (by simpa using g3) q
   simp [g2, g4] at this; exact absurd hab this
  ·exact q
  ·have := List.pairwise_iff_getElem.1 hn i2 i1 (by simpa using g3) (by simpa using g1) q
   simp [g2, g4] at this; exact absurd hab.symm this
 have hxe : x = e := by
  obtain ⟨j, hj, i2, hj2, hi2⟩ := (hl x).1 hxm
  obtain ⟨t, ht⟩ := List.getElem?_of_mem hel
  have m1 : befE e x = false := vicTo_min (Nat.le_refl _) hv t e x (List.getElem?_eq_some_iff.1 ht).1 ht hx
  by_cases hjk : j = k
  ·subst hjk
   rw [hk] at hj2; cases hj2
   rw [he] at hi2; cases hi2; rfl
  ·obtain ⟨g1, g2⟩ := List.getElem?_eq_some_iff.1 hk
   obtain ⟨g3, g4⟩ := List.getElem?_eq_some_iff.1 hj2
   have m2 := List.pairwise_iff_getElem.1 hs k j g1 g3 (by omega)
   rw [g2, g4] at m2
   unfold ltI at m2
   rw [hi2, he] at m2
   simp only [Option.getD_some] at m2
   have := same he hi2 (befE_ins m1 m2)
   subst this
   rw [he] at hi2; cases hi2; rfl
 subst hxe
 have hbind : (vicE M.T.list).bind (M.T.list[·]?) = some x := by rw [hv]; exact hx
 unfold Mem.squeeze
 rw [hbind]
 refine ⟨rfl, fun y => ?_⟩
 simp only
 have hmem : y ∈ (M.T.drop x.key x.lo).list ↔ y ∈ M.T.list ∧ y ≠ x := by
  have hd := h.ti.drop (show c.bytes.toNat ≤ 1000000000 by omega) x.key x.lo
  constructor
  ·intro hy
   have h1 := (list_row hd.tok hy).1
   rw [at_drop h.ti.tok] at h1
   split at h1
   ·cases h1
   ·rename_i q
    exact ⟨(h.ti.tok.at_list.1 h1).1, fun e' => q (by rw [e']; exact ⟨rfl, rfl⟩)⟩
  ·rintro ⟨hy, hne⟩
   have h1 := (list_row h.ti.tok hy).1
   have h2 := (list_row h.ti.tok hxm).1
   have h3 : (M.T.drop x.key x.lo).at y.key y.lo = some y := by
    rw [at_drop h.ti.tok, if_neg]
    ·exact h1
    ·rintro ⟨q1, q2⟩
     rw [q1, q2, h1] at h2
     cases h2; exact hne rfl
   exact (hd.tok.at_list.1 h3).1
 rw [hmem, hl y]
 constructor
 ·rintro ⟨⟨j, hj, i2, hj2, hi2⟩, hne⟩
  refine ⟨j, ?_, i2, hj2, hi2⟩
  have : j ≠ k := fun e' => by
   subst e'
   rw [hk] at hj2; cases hj2
   rw [he] at hi2; cases hi2; exact hne rfl
  omega
 ·rintro ⟨j, hj, i2, hj2, hi2⟩
  refine ⟨⟨j, by omega, i2, hj2, hi2⟩, fun e' => ?_⟩
  subst e'
  have h1 := same he hi2 rfl
  subst h1
  have hLn : L.Nodup := hp.nodup_iff.2 List.nodup_range
  obtain ⟨g1, g2⟩ := List.getElem?_eq_some_iff.1 hk
  obtain ⟨g3, g4⟩ := List.getElem?_eq_some_iff.1 hj2
  have := List.pairwise_iff_getElem.1 hLn k j g1 g3 (by omega)
  rw [g2, g4] at this
  exact this rfl
theorem left_zero {T : Tab} {L : List Nat} (hp : L.Perm (List.range T.list.length)) : LeftAt T.list L 0 T := by
 intro y
 constructor
 ·intro hy
  obtain ⟨i, hi⟩ := List.getElem?_of_mem hy
  have : i ∈ L := hp.mem_iff.2 (List.mem_range.2 (List.getElem?_eq_some_iff.1 hi).1)
  obtain ⟨j, hj⟩ := List.getElem?_of_mem this
  exact ⟨j, Nat.zero_le _, i, hj, hi⟩
 ·rintro ⟨j, _, i, _, hi⟩
  exact List.mem_of_getElem? hi
theorem left_end {l0 : Ents} {L : List Nat} {T : Tab} (h : LeftAt l0 L L.length T) : T.list = [] := by
 apply List.eq_nil_iff_forall_not_mem.2
 intro y hy
 obtain ⟨j, hj, i, hi, _⟩ := (h y).1 hy
 have := (List.getElem?_eq_some_iff.1 hi).1
 omega
set_option maxHeartbeats 16000000 in
theorem squeeze_spec {w : World} {a : Lay} {c : Cfg} {inc : Int} {M : Mem} {B : Nat} {K : Value → World → Prop} (h : NodeAt w a c inc M) (hT : TOK M.T B) (hB : B ≤ 100000000)
  (hK : ∀ w', NodeAt w' a c inc M.squeeze.1 → Fr a.all w w' → K (.tuple ([.agg (encEnt (M.squeeze.2.getD entZ)).toArray, .bool M.squeeze.2.isSome] : List Value).toArray) w') :
  CallsN Tryz.prog 29 [.pointer (some ⟨a.nb, 0, none⟩)] w K := by
 have cw := cur w
 refine call29 ?_
 simp (maxSteps:=9^7)(disch:=first|assumption|(simp only[dz];first|done|assumption|omega)|omega|apply_rules[Fr.refl,Fr.alloc,Fr.drew]|rfl) only [↓gd,gp,Nat.reduceAdd,Nat.reduceEqDiff, ↓c29_6_s, ↓c29_5_s, ↓c29_9_s, ↓c29_8_s, ↓c29_7_s, ↓c29_4_s, ↓c29_3_s, ↓c29_2_s, ↓c29_12_s, ↓c29_11_s, ↓c29_10_s, ↓c29_s, ↓w3t_29]
 generalize hW : World.alloc w _ = w1
 have hf1 : Fr [] w w1 := by rw [← hW]; exact fr_
 have hz1 : w1.heap.size = w.heap.size + 1 := by rw [← hW]; simp only [gz]
 have g2 : w1.heap[w.heap.size]? = some (.cells (encEnt entZ).toArray 52 (0, 0)) := by rw [← hW]; exact get_alloc_new _ _
 clear hW
 have cw1 := cur w1
 have h1 := h.frN hf1
 have hd1 := h1.hd
 have hm1 := h1.mm
 have a2 := h.away (Nat.le_refl w.heap.size)
 have g2u := g2
 unfold encEnt at g2u
 simp (maxSteps:=9^7)(disch:=first|assumption|(simp only[dz];first|done|assumption|omega)|omega|apply_rules[Fr.refl,Fr.alloc,Fr.drew]|rfl) only [↓gd,gp,Nat.reduceAdd,Nat.reduceEqDiff, ↓hk29]
 refine up_spec h1 ?_
 simp (maxSteps:=9^7)(disch:=first|assumption|(simp only[dz];first|done|assumption|omega)|omega|apply_rules[Fr.refl,Fr.alloc,Fr.drew]|rfl) only [↓gd,gp,Nat.reduceAdd,Nat.reduceEqDiff, ↓hk29, hd1, hm1]
 refine all_all h1.tab hT (by omega) fun v w2 hs2 ho2 hb2 hf2 => ?_
 have cw2 := cur w2
 have hz2 := hf2.size
 have hll := hT.list_len
 obtain ⟨va, vc, hv⟩ := hs2.form
 simp (maxSteps:=9^7)(disch:=first|assumption|(simp only[dz];first|done|assumption|omega)|omega|apply_rules[Fr.refl,Fr.alloc,Fr.drew]|rfl) only [↓gd,gp,Nat.reduceAdd,Nat.reduceEqDiff, ↓hk29]
 refine victim_spec hs2 (by omega) fun w3 hf3 => ?_
 have cw3 := cur w3
 have hz3 := hf3.size
 have h3 := (h1.frN hf2).frN hf3
 have g23 := (hf2.trans' hf3).getN g2u
 have l23 := lt_of_get _ _ g23
 have hd3 := h3.hd
 have hm3 := h3.mm
 have F3 : Fr a.all w w3 := (Fr.refl a.all w).trans ((hf1.trans' hf2).trans' hf3) (by simp)
 unfold Mem.squeeze at hK
 cases hvi : vicE M.T.list with
 | none =>
   rw [hvi] at hK
   simp only [Option.bind_none, Option.getD_none, Option.isSome_none] at hK
   unfold encEnt at hK
   have d1 : decide ((-1 : Int) < 0) = true := rfl
   simp (maxSteps:=9^7)(disch:=first|assumption|(simp only[dz];first|done|assumption|omega)|omega|apply_rules[Fr.refl,Fr.alloc,Fr.drew]|rfl) only [↓gd,gp,Nat.reduceAdd,Nat.reduceEqDiff, ↓hk29, vicV, d1, g23]
   exact hK _ (h3.frA (L := [w.heap.size]) fr_ (fun g hg => by simp at hg; subst hg; exact a2)) (F3.trans (M' := [w.heap.size]) fr_ fun y hy => by simp at hy; subst hy; exact .inr (Nat.le_refl _))
 | some j =>
   have hj := vicE_lt hvi
   obtain ⟨x, hx⟩ : ∃ x, M.T.list[j]? = some x := ⟨_, List.getElem?_eq_getElem hj⟩
   rw [hvi] at hK
   simp only [Option.bind_some, hx, Option.getD_some, Option.isSome_some] at hK
   have d1 : decide ((j : Int) < 0) = false := decide_eq_false (by omega)
   have j0 : (0 : Int) ≤ (j : Int) := by omega
   have j1 : (j : Int) < (M.T.list.length : Int) := by omega
   have hs3 := hs2.frN hf3
   obtain ⟨b1, o1, p1, ob1, hv1, hb1, hbl1, hr1, hc1⟩ := hs3.read encEnt_len j x hx
   have r0 := fun orig K => hc1 0 (.string x.key) orig K rfl
   have r3 := fun orig K => hc1 3 (.int .i64 x.lo) orig K rfl
   simp only [Nat.add_zero] at r0
   have k1 := lt_of_get _ _ hd3
   have k2 := lt_of_get _ _ hm3
   simp (maxSteps:=9^7)(disch:=first|assumption|(simp only[dz];first|done|assumption|omega)|omega|apply_rules[Fr.refl,Fr.alloc,Fr.drew]|rfl) only [↓gd,gp,Nat.reduceAdd,Nat.reduceEqDiff, ↓hk29, vicV, d1, hv1, j0, j1, Int.toNat_natCast, Nat.mul_one, hb1, r0, r3, hd3, hm3]
   have h3d := h3.frN (w' := w3.drew) fr_
   refine drop_spec (k := x.key) (lo := x.lo) h3d.tab hT.wf (by omega) fun w4 ht4 hf4 => ?_
   have cw4 := cur w4
   have h4 : NodeAt w4 a c inc { M with T := M.T.drop x.key x.lo } := h3d.tabS (S' := a.S) ht4 (fun x hx => .inl hx) hf4
   have hbn : b1 ∉ a.S := fun hm => by
    have hq := own_off ho2 _ _ _ hv1
    have h5 := hb2 _ hq
    have := h1.lt _ (sub_all.1 _ hm)
    simp only at h5
    omega
   have hb4 : w4.heap[b1]? = some ob1 := by rw [hf4.keep b1 (by rw [size_drew]; exact hbl1) hbn]; exact hb1
   have g24 := hf4.get (w := w4) (show w3.drew.heap[w.heap.size]? = _ from g23) (fun q => a2.1 (sub_all.1 _ q))
   have l24 := lt_of_get _ _ g24
   have lb4 := lt_of_get _ _ hb4
   unfold encEnt at hr1 hK
   simp (maxSteps:=9^7)(disch:=first|assumption|(simp only[dz];first|done|assumption|omega)|omega|apply_rules[Fr.refl,Fr.alloc,Fr.drew]|rfl) only [↓gd,gp,Nat.reduceAdd,Nat.reduceEqDiff, ↓hk29, hv1, j0, j1, Int.toNat_natCast, Nat.mul_one, hb4, hr1, g24]
   refine hK _ (h4.frA (L := [w.heap.size]) fr_ (fun g hg => by simp at hg; subst hg; exact a2)) (((F3.trans' (fr_ : Fr [] w3 w3.drew)).trans hf4 fun y hy => .inl (sub_all.1 y hy)).trans (M' := [w.heap.size]) fr_ fun y hy => by simp at hy; subst hy; exact .inr (Nat.le_refl _))
theorem ins_nil {fv : Value} {w : World} {K : Value → World → Prop} (hK : K (.tuple #[]) w) : CallsN Tryz.prog 208 [.slice none 0 0, .int .i64 0, .int .i64 0, fv] w K := by
 have cw := cur w
 refine call208 ?_
 have w1 : IntKind.i64.wrap ((0 : Int) + 1) = 1 := by decide
 simp (maxSteps:=9^7)(disch:=first|assumption|(simp only[dz];first|done|assumption|omega)|omega|apply_rules[Fr.refl,Fr.alloc,Fr.drew]|rfl) only [↓gd,gp,Nat.reduceAdd,Nat.reduceEqDiff, ↓hk208, w1]
 refine loop_intro (fun e' w' => e' 8 = .int .i64 1 ∧ e' 2 = .int .i64 0 ∧ w' = w) (fun _ _ => 0) ?_ ?_
 ·simp (maxSteps:=9^7)(disch:=first|assumption|(simp only[dz];first|done|assumption|omega)|omega|apply_rules[Fr.refl,Fr.alloc,Fr.drew]|rfl) only [↓gsd,gs,gv,Nat.reduceAdd,Nat.reduceEqDiff]
 rintro e' w' k ⟨e8, e2, hw⟩ _
 subst hw
 have cw' := cur w'
 have d1 : decide ((1 : Int) < 0) = false := rfl
 simp (maxSteps:=9^7)(disch:=first|assumption|(simp only[dz];first|done|assumption|omega)|omega|apply_rules[Fr.refl,Fr.alloc,Fr.drew]|rfl) only [↓gd,gp,Nat.reduceAdd,Nat.reduceEqDiff, ↓hk208, e8, e2, d1]
 exact hK
theorem sort_nil {fv : Value} {w : World} {K : Value → World → Prop} (hK : K (.tuple #[]) w) : CallsN Tryz.prog 145 [.slice none 0 0, fv] w K := by
 have cw := cur w
 refine call145 ?_
 simp (maxSteps:=9^7)(disch:=first|assumption|(simp only[dz];first|done|assumption|omega)|omega|apply_rules[Fr.refl,Fr.alloc,Fr.drew]|rfl) only [↓gd,gp,Nat.reduceAdd,Nat.reduceEqDiff, ↓hk145, Int.natCast_zero]
 refine call185 ?_
 simp (maxSteps:=9^7)(disch:=first|assumption|(simp only[dz];first|done|assumption|omega)|omega|apply_rules[Fr.refl,Fr.alloc,Fr.drew]|rfl) only [↓gd,gp,Nat.reduceAdd,Nat.reduceEqDiff, ↓hk185]
 refine loop_intro (fun e' w' => e' 0 = .slice none 0 0 ∧ e' 1 = .int .i64 0 ∧ e' 2 = fv ∧ e' 6 = .int .i64 20 ∧ e' 7 = .int .i64 0 ∧ e' 8 = .int .i64 20 ∧ w' = w) (fun _ _ => 0) ?_ ?_
 ·simp (maxSteps:=9^7)(disch:=first|assumption|(simp only[dz];first|done|assumption|omega)|omega|apply_rules[Fr.refl,Fr.alloc,Fr.drew]|rfl) only [↓gsd,gs,gv,Nat.reduceAdd,Nat.reduceEqDiff]
 rintro e' w1 k ⟨e0, e1, e2, e6, e7, e8, hw⟩ _
 subst hw
 have cw1 := cur w1
 have d1 : decide ((20 : Int) ≤ 0) = false := rfl
 simp (maxSteps:=9^7)(disch:=first|assumption|(simp only[dz];first|done|assumption|omega)|omega|apply_rules[Fr.refl,Fr.alloc,Fr.drew]|rfl) only [↓gd,gp,Nat.reduceAdd,Nat.reduceEqDiff, ↓hk185, e0, e1, e2, e6, e7, e8, d1]
 refine ins_nil ?_
 simp (maxSteps:=9^7)(disch:=first|assumption|(simp only[dz];first|done|assumption|omega)|omega|apply_rules[Fr.refl,Fr.alloc,Fr.drew]|rfl) only [↓gd,gp,Nat.reduceAdd,Nat.reduceEqDiff, ↓hk185]
 refine loop_intro (fun e'' w2 => e'' 1 = .int .i64 0 ∧ e'' 6 = .int .i64 20 ∧ w2 = w1) (fun _ _ => 0) ?_ ?_
 ·simp (maxSteps:=9^7)(disch:=first|assumption|(simp only[dz];first|done|assumption|omega)|omega|apply_rules[Fr.refl,Fr.alloc,Fr.drew]|rfl) only [↓gsd,gs,gv,Nat.reduceAdd,Nat.reduceEqDiff, e1, e6]
 rintro e'' w2 k2 ⟨f1, f6, hw2⟩ _
 subst hw2
 have cw2 := cur w2
 have d2 : decide ((20 : Int) < 0) = false := rfl
 simp (maxSteps:=9^7)(disch:=first|assumption|(simp only[dz];first|done|assumption|omega)|omega|apply_rules[Fr.refl,Fr.alloc,Fr.drew]|rfl) only [↓gd,gp,Nat.reduceAdd,Nat.reduceEqDiff, ↓hk185, f1, f6, d2]
 exact hK
set_option maxHeartbeats 8000000 in
theorem places_nil {g : Nat} {w : World} {v : Value} {K : Value → World → Prop} (h : SlOf 8 encEnt w v []) (hK : ∀ w', Fr [] w w' → K (.slice none 0 0) w') : CallsN Tryz.prog 86 [v, .func (.func g) #[] #[]] w K := by
 have cw := cur w
 obtain ⟨va, vc, hv⟩ := h.form
 refine call86 ?_
 simp (maxSteps:=9^7)(disch:=first|assumption|(simp only[dz];first|done|assumption|omega)|omega|apply_rules[Fr.refl,Fr.alloc,Fr.drew]|rfl) only [↓gd,gp,Nat.reduceAdd,Nat.reduceEqDiff, ↓hk86, hv]
 generalize hW : World.alloc (World.alloc w _) _ = w1
 have hf1 : Fr [] w w1 := by rw [← hW]; exact fr_
 clear hW
 have cw1 := cur w1
 refine for_intro 0 9 0 (fun i e w' => e 2 = .pointer (some ⟨w.heap.size, 0, none⟩) ∧ e 3 = .pointer (some ⟨w.heap.size + 1, 0, none⟩) ∧ e 5 = .slice none 0 0 ∧ e 8 = .int .i64 0 ∧ Fr [] w1 w') ?_ (Nat.le_refl _) ?_ ?_
 ·simp (maxSteps:=9^7)(disch:=first|assumption|(simp only[dz];first|done|assumption|omega)|omega|apply_rules[Fr.refl,Fr.alloc,Fr.drew]|rfl) only [↓gsd,gs,gv,Nat.reduceAdd,Nat.reduceEqDiff, Int.natCast_zero]
 ·simp (maxSteps:=9^7)(disch:=first|assumption|(simp only[dz];first|done|assumption|omega)|omega|apply_rules[Fr.refl,Fr.alloc,Fr.drew]|rfl) only [↓gsd,gs,gv,Nat.reduceAdd,Nat.reduceEqDiff, Int.natCast_zero, List.length_nil]
  exact Fr.refl _ _
 rintro i e w2 kk hi eS ⟨e2, e3, e5, e8, hf2⟩ hkk
 have cw2 := cur w2
 have d1 : decide ((i : Int) < 0) = false := decide_eq_false (by omega)
 simp (maxSteps:=9^7)(disch:=first|assumption|(simp only[dz];first|done|assumption|omega)|omega|apply_rules[Fr.refl,Fr.alloc,Fr.drew]|rfl) only [↓gd,gp,Nat.reduceAdd,Nat.reduceEqDiff, ↓hk86, e2, e3, e5, e8, eS, d1]
 refine sort_nil ?_
 simp (maxSteps:=9^7)(disch:=first|assumption|(simp only[dz];first|done|assumption|omega)|omega|apply_rules[Fr.refl,Fr.alloc,Fr.drew]|rfl) only [↓gd,gp,Nat.reduceAdd,Nat.reduceEqDiff, ↓hk86, e2, e3, e5, e8]
 exact hK _ (hf1.trans' hf2)
theorem order_spec {w : World} {v : Value} {l : Ents} {K : Value → World → Prop} (h : SlOf 8 encEnt w v l) (hb : l.length ≤ 1000000000) (hvl : ∀ a n c, v = .slice (some a) n c → a.block < w.heap.size)
  (hK : ∀ w' L v', Fr [] w w' → L.Perm (List.range l.length) → SortL (ltI befE l) L → SlOf 1 encN w' v' L → (∀ x m cc, v' = .slice (some x) m cc → w.heap.size ≤ x.block) → K v' w') : CallsN Tryz.prog 28 [v] w K := by
 have cw := cur w
 obtain ⟨va, vc, hv⟩ := h.form
 refine call28 ?_
 simp (maxSteps:=9^7)(disch:=first|assumption|(simp only[dz];first|done|assumption|omega)|omega|apply_rules[Fr.refl,Fr.alloc,Fr.drew]|rfl) only [↓gd,gp,Nat.reduceAdd,Nat.reduceEqDiff, ↓hk28]
 by_cases h0 : 0 < l.length
 ·refine places_spec ord_compare befE_sw h h0 hb hvl fun w1 L b cap R hf hwb hp hs hrow hcap hR => ?_
  have cw1 := cur w1
  try simp (maxSteps:=9^7)(disch:=first|assumption|(simp only[dz];first|done|assumption|omega)|omega|apply_rules[Fr.refl,Fr.alloc,Fr.drew]|rfl) only [↓gd,gp,Nat.reduceAdd,Nat.reduceEqDiff, ↓hk28]
  have hl : L.length = l.length := by rw [hp.length_eq, List.length_range]
  refine hK _ L _ hf hp hs ?_ (fun x m cc q => ?_)
  ·have := row_sl (F := L) (cap := cap) hrow (by rw [List.take_length])
   rw [hl] at this
   exact this
  ·simp only [Value.slice.injEq, Option.some.injEq] at q
   rw [← q.1]; exact hwb
 ·have hl : l = [] := List.eq_nil_of_length_eq_zero (by omega)
  subst hl
  refine places_nil h fun w1 hf => ?_
  have cw1 := cur w1
  try simp (maxSteps:=9^7)(disch:=first|assumption|(simp only[dz];first|done|assumption|omega)|omega|apply_rules[Fr.refl,Fr.alloc,Fr.drew]|rfl) only [↓gd,gp,Nat.reduceAdd,Nat.reduceEqDiff, ↓hk28]
  exact hK _ [] _ hf (by simp) List.Pairwise.nil ⟨rfl, .inl ⟨rfl, none, 0, rfl⟩⟩ (fun x m cc q => by simp at q)
theorem NodeIn.base {V W w : World} {a : Lay} {c : Cfg} {inc : Int} {M : Mem} {i : Int} (h : NodeIn W w a c inc M i) (hf : Fr [] V W) : NodeIn V w a c inc M i := ⟨h.at_, h.ok, fun y hy => Nat.le_trans hf.size (h.ge y hy), hf.trans' h.fr⟩
end Go.Proofs.YtomlgkecckffeaaGreat
