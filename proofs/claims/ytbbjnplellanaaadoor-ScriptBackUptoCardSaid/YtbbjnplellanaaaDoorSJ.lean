/- A line's form is looked for: the program's inner loop. -/
import Derived.Test.YtbbjnplellanaaaDoorSI
set_option linter.unusedVariables false
set_option linter.unusedSimpArgs false
set_option maxRecDepth 10000
namespace Go.Proofs.YtbbjnplellanaaaDoor
open Go.VW
/-- The steps so far, in memory that is the call's own. -/
structure OutAt (C : Nat) (w : World) (v : Value) (rows : List (Stp × SlV)) : Prop where
 own : Own 8 33 w v rows.length (cellsOf encStp rows)
 ge : ∀ b, v.ownBlock = some b → C ≤ b
 ws : ∀ x ∈ rows, Own 3 60 w (.slice x.2.1 x.2.2.1 x.2.2.2) x.1.ws.length (cellsOf encWr x.1.ws)
theorem OutAt.nil {C : Nat} {w : World} : OutAt C w (.slice none 0 0) [] := ⟨Own.nil, fun b hb => by simp [Value.ownBlock] at hb, fun x hx => by simp at hx⟩
theorem OutAt.fr {C : Nat} {w w' : World} {v : Value} {rows : List (Stp × SlV)} (h : OutAt C w v rows) (hf : Fr [] w w') : OutAt C w' v rows := ⟨Own.frN h.own hf, h.ge, fun x hx => Own.frN (h.ws x hx) hf⟩
theorem own_ne {k k' n n' : Nat} {e e' : TypeId} {w : World} {v v' : Value} {cs cs' : List Value} (h : Own k e w v n cs) (h' : Own k' e' w v' n' cs') (he : e ≠ e') : ∀ b, v.ownBlock = some b → v'.ownBlock ≠ some b := by
 intro b hb hb'
 rcases h.2 with ⟨rfl, _⟩ | ⟨g, cap, cur, rfl, _, hg, _⟩
 ·simp [Value.ownBlock] at hb
 ·rcases h'.2 with ⟨rfl, _⟩ | ⟨g', cap', cur', rfl, _, hg', _⟩
  ·simp [Value.ownBlock] at hb'
  ·simp only [Value.ownBlock, Option.some.injEq] at hb hb'
   subst hb hb'
   rw [hg] at hg'; cases hg'; exact he rfl
theorem mem_blkL {v : Value} {b : Nat} (h : b ∈ blkL v) : v.ownBlock = some b := by
 unfold blkL at h
 split at h
 ·rename_i c hc; simp at h; subst h; exact hc
 ·simp at h
theorem stepO_cons (w0 : Bs) (r : List Bs) : stepO (w0 :: r) = (formsL.find? fun f => decide (f.word = w0)).bind fun f => stepF f r := rfl
theorem find_no {w0 : Bs} (h : ∀ j f, j < 16 → formsL[j]? = some f → f.word ≠ w0) : (formsL.find? fun f => decide (f.word = w0)) = none := by
 rw [List.find?_eq_none]
 intro f hf
 obtain ⟨j, hj⟩ := List.mem_iff_getElem?.1 hf
 have := h j f (List.getElem?_eq_some_iff.1 hj).1 hj
 simpa using this
theorem find_at {w0 : Bs} {k : Nat} {f : Form} (h : ∀ j g, j < k → formsL[j]? = some g → g.word ≠ w0) (hf : formsL[k]? = some f) (hw : f.word = w0) : (formsL.find? fun f => decide (f.word = w0)) = some f := by
 rw [List.find?_eq_some_iff_getElem]
 have hk := List.getElem?_eq_some_iff.1 hf
 refine ⟨by simpa using hw, k, hk.1, hk.2, fun j hj => ?_⟩
 have hjl : j < formsL.length := Nat.lt_trans hj hk.1
 have := h j _ hj (List.getElem?_eq_getElem hjl)
 simpa using this
theorem nfV_one (n : Nat) : oneC (nfV n) = true := by unfold nfV; split <;> rfl
theorem rfV_one (n : Nat) : oneC (rfV n) = true := by unfold rfV; split <;> rfl
theorem form_one (f : Form) : ([.string (B f.word), .int .i64 f.kind, nfV f.nf, rfV f.rf] : List Value).all oneC = true := by
 simp only [List.all_cons, List.all_nil, nfV_one, rfV_one]; rfl
theorem forms_bd {f : Form} (h : f ∈ formsL) : f.nf ≤ 4 ∧ f.rf ≤ 2 := by
 simp only [formsL, List.mem_cons, List.not_mem_nil, or_false] at h
 rcases h with rfl | rfl | rfl | rfl | rfl | rfl | rfl | rfl | rfl | rfl | rfl | rfl | rfl | rfl | rfl | rfl <;> exact ⟨by decide, by decide⟩
section
variable {W0 w : World} {e : Env} {fv wv ov : Value} {w0 : Bs} {r : List Bs} {rows : List (Stp × SlV)} {i : Nat} {Q : Exit → Env → World → Prop}
set_option maxHeartbeats 16000000 in
theorem forms_loop (e6 : e 6 = fv) (e9 : e 9 = wv) (e5 : e 5 = ov) (e7 : e 7 = .int .i64 i) (hi : i ≤ 70000) (hr : rows.length ≤ 70000)
  (hfv : SlOf 4 encForm w fv formsL) (hw : SlOf 1 encB w wv (w0 :: r)) (hcap : ∀ a m c, wv = .slice a m c → m ≤ c) (ho : OutAt W0.heap.size w ov rows) (hf : Fr [] W0 w) (hm : MaxL W0) (hl : ∀ x ∈ r, x.length ≤ 65536) (hn : r.length ≤ 65536)
  (hbad : ∀ e' w', stepO (w0 :: r) = none → e' 2 = .slice none 0 0 → e' 3 = .int .i64 ((i : Int) + 1) → e' 4 = .int .i64 60 → Fr [] W0 w' → Q .ret e' w')
  (hok : ∀ e' w' ov' s sv, stepO (w0 :: r) = some s → e' 0 = e 0 → e' 2 = e 2 → e' 3 = e 3 → e' 4 = e 4 → e' 5 = ov' → e' 6 = fv → e' 19 = e 19 → e' 20 = e 20 → e' 21 = e 21 → OutAt W0.heap.size w' ov' (rows ++ [(s, sv)]) → Fr [] W0 w' → Q (.exit 1) e' w') :
  W3 Tryd.prog 67 V9 c9_19 Q e w := by
 have cw := cur w
 have hlen : formsL.length = 16 := rfl
 obtain ⟨fa, fc, hv⟩ := hfv.form
 rw [hlen] at hv
 simp (maxSteps:=4000000)(disch:=first|assumption|(simp only[dz];first|done|assumption|omega)|omega|apply_rules[Fr.refl,Fr.alloc,Fr.drew]|rfl) only [↓gd,gp,Nat.reduceAdd,Nat.reduceEqDiff, ↓hk9, e6, hv]
 rw [← hv]
 refine for_intro 16 40 0 (fun k e1 w' => e1 38 = fv ∧ e1 39 = .int .i64 16 ∧ e1 9 = wv ∧ e1 5 = ov ∧ e1 7 = .int .i64 i ∧ e1 0 = e 0 ∧ e1 2 = e 2 ∧ e1 3 = e 3 ∧ e1 4 = e 4 ∧ e1 6 = fv ∧ e1 19 = e 19 ∧ e1 20 = e 20 ∧ e1 21 = e 21 ∧ (∀ j g, j < k → formsL[j]? = some g → g.word ≠ w0) ∧ Fr [] w w') ?_ (Nat.zero_le _) ?_ ?_
 ·simp (maxSteps:=4000000)(disch:=first|assumption|(simp only[dz];first|done|assumption|omega)|omega|apply_rules[Fr.refl,Fr.alloc,Fr.drew]|rfl) only [↓gsd,gs,gv,Nat.reduceAdd,Nat.reduceEqDiff]; rfl
 ·simp (maxSteps:=4000000)(disch:=first|assumption|(simp only[dz];first|done|assumption|omega)|omega|apply_rules[Fr.refl,Fr.alloc,Fr.drew]|rfl) only [↓gsd,gs,gv,Nat.reduceAdd,Nat.reduceEqDiff, e9, e5, e7, e6]
  exact ⟨rfl, fun j g hj => absurd hj (Nat.not_lt_zero _), Fr.refl _ _⟩
 rintro k e1 w1 kk hk e40 ⟨e38, e39, e9, e5, e7, e0, e2, e3, e4, e6, e19, e20, e21, hno, hf1⟩ hkk
 have cw1 := cur w1
 have hf01 := hf.trans' hf1
 have wi : IntKind.i64.wrap ((i : Int) + 1) = (i : Int) + 1 := wrap64 (by omega) (by omega)
 by_cases hk16 : k < 16
 ·have d : decide ((k : Int) < 16) = true := decide_eq_true (by omega)
  obtain ⟨f, hfk⟩ : ∃ f, formsL[k]? = some f := ⟨formsL[k], List.getElem?_eq_getElem hk16⟩
  obtain ⟨bb, off, cap, ob, hv1, hob1, hbl1, hrow, hcell⟩ := (hfv.frN hf1).read encForm_len k f hfk
  rw [hlen] at hv1
  obtain ⟨b2, off2, cap2, ob2, hv2, hob2, hbl2, _, hcell2⟩ := (hw.frN hf1).read encB_len 0 w0 rfl
  have hc2 := fun orig K => hcell2 0 (.string (B w0)) orig K rfl
  simp only [Nat.add_zero, Nat.zero_mul, Nat.mul_one] at hc2
  obtain ⟨L, hL⟩ : ∃ L, L = (w0 :: r).length := ⟨_, rfl⟩
  rw [← hL] at hv2
  have i1 : (0 : Int) < (L : Int) := by rw [hL]; simp only [List.length_cons]; omega
  have i0 : (0 : Int) ≤ (k : Int) := by omega
  have i16 : (k : Int) < ((16 : Nat) : Int) := by omega
  have hone := form_one f
  have wr : IntKind.i64.wrap ((k : Int) + 1) = (k : Int) + 1 := wrap64 (by omega) (by omega)
  unfold encForm at hrow
  have hob2' : (w1.alloc (.cells (encForm f).toArray 53 (0, 0))).heap[b2]? = some ob2 := by rw [get_alloc_old _ _ _ hbl2]; exact hob2
  by_cases hwd : f.word = w0
  ·have dw : decide (B f.word = B w0) = true := decide_eq_true (by rw [hwd])
   have hst : stepO (w0 :: r) = stepF f r := by rw [stepO_cons, find_at hno hfk hwd]; rfl
   obtain ⟨wD, hwD⟩ : ∃ wD, wD = (w1.alloc (.cells (encForm f).toArray 53 (0, 0))).drew := ⟨_, rfl⟩
   have hfD : Fr [] w1 wD := by rw [hwD]; exact ((Fr.refl _ _).alloc _).drew
   have hfm := forms_bd (List.mem_of_getElem? hfk)
   have hstep := @step_spec f w0 r wD wv (K := fun v w' => ∃ x ok, v = .tuple #[.agg (encStp x).toArray, .bool ok] ∧ Fr [] wD w' ∧ ResS (stepF f r) x ok w') hfm.1 hfm.2 ((hw.frN hf1).frN hfD) hcap ((hm.fr hf01).fr hfD) hl hn (fun x ok w' h1 h2 => ⟨x, ok, rfl, h1, h2⟩)
   rw [hwD] at hstep
   unfold encForm at hstep
   rw [hv2] at hstep
   simp (maxSteps:=4000000)(disch:=first|assumption|(simp only[dz];first|done|assumption|omega)|omega|apply_rules[Fr.refl,Fr.alloc,Fr.drew]|rfl) only [↓gd,gp,Nat.reduceAdd,Nat.reduceEqDiff, ↓hk9, e38, e39, e40, e9, hv1, hv2, d, i0, i16, i1, Int.toNat_natCast, hob1, hrow, hob2, hc2, dw, Int.le_refl, Int.toNat_zero, Nat.zero_mul, Nat.add_zero, wr]
   refine hstep.mono ?_
   rintro v w2 ⟨x, ok, rfl, hf2, hres⟩
   have cw2 := cur w2
   have hf02 : Fr [] W0 w2 := (hf01.trans' hfD).trans' (hwD ▸ hf2)
   have ho2 : OutAt W0.heap.size w2 ov rows := ((ho.fr hf1).fr hfD).fr (hwD ▸ hf2)
   rcases hres with ⟨hx, rfl, hxo⟩ | ⟨hx, rfl⟩
   ·have hsx := sl_new (e := 33) (w := w2.alloc (.cells (encStp x).toArray 33 (0, 0))) (encStp_len x)
    have hfx : Fr [] w2 ((w2.alloc (.cells (encStp x).toArray 33 (0, 0))).alloc (.cells (encStp x).toArray 33 (0, 0))) := ((Fr.refl _ _).alloc _).alloc _
    obtain ⟨v4, w4, hr4, hown4, hf4, hbk⟩ := ap23 (ty := 23) (Own.frN ho2.own hfx) hsx (by rfl) (by omega)
    have cw4 := cur w4
    have hov := ho2.own
    obtain ⟨ao, co, hvo⟩ := ho2.own.sl.form
    rw [hvo] at hr4
    unfold encStp at hr4
    simp only [size_alloc] at hr4
    simp (maxSteps:=4000000)(disch:=first|assumption|(simp only[dz];first|done|assumption|omega)|omega|apply_rules[Fr.refl,Fr.alloc,Fr.drew]|rfl) only [↓gd,gp,Nat.reduceAdd,Nat.reduceEqDiff, ↓hk9, encStp, e5, hvo, hr4]
    refine hok _ _ v4 x.1 x.2 (hst.trans hx) ?_ ?_ ?_ ?_ ?_ ?_ ?_ ?_ ?_ ⟨?_, ?_, ?_⟩ ?_
    ·simp (maxSteps:=4000000)(disch:=first|assumption|(simp only[dz];first|done|assumption|omega)|omega|apply_rules[Fr.refl,Fr.alloc,Fr.drew]|rfl) only [↓gsd,gs,gv,Nat.reduceAdd,Nat.reduceEqDiff, e0]
    ·simp (maxSteps:=4000000)(disch:=first|assumption|(simp only[dz];first|done|assumption|omega)|omega|apply_rules[Fr.refl,Fr.alloc,Fr.drew]|rfl) only [↓gsd,gs,gv,Nat.reduceAdd,Nat.reduceEqDiff, e2]
    ·simp (maxSteps:=4000000)(disch:=first|assumption|(simp only[dz];first|done|assumption|omega)|omega|apply_rules[Fr.refl,Fr.alloc,Fr.drew]|rfl) only [↓gsd,gs,gv,Nat.reduceAdd,Nat.reduceEqDiff, e3]
    ·simp (maxSteps:=4000000)(disch:=first|assumption|(simp only[dz];first|done|assumption|omega)|omega|apply_rules[Fr.refl,Fr.alloc,Fr.drew]|rfl) only [↓gsd,gs,gv,Nat.reduceAdd,Nat.reduceEqDiff, e4]
    ·simp (maxSteps:=4000000)(disch:=first|assumption|(simp only[dz];first|done|assumption|omega)|omega|apply_rules[Fr.refl,Fr.alloc,Fr.drew]|rfl) only [↓gsd,gs,gv,Nat.reduceAdd,Nat.reduceEqDiff]
    ·simp (maxSteps:=4000000)(disch:=first|assumption|(simp only[dz];first|done|assumption|omega)|omega|apply_rules[Fr.refl,Fr.alloc,Fr.drew]|rfl) only [↓gsd,gs,gv,Nat.reduceAdd,Nat.reduceEqDiff, e6]
    ·simp (maxSteps:=4000000)(disch:=first|assumption|(simp only[dz];first|done|assumption|omega)|omega|apply_rules[Fr.refl,Fr.alloc,Fr.drew]|rfl) only [↓gsd,gs,gv,Nat.reduceAdd,Nat.reduceEqDiff, e19]
    ·simp (maxSteps:=4000000)(disch:=first|assumption|(simp only[dz];first|done|assumption|omega)|omega|apply_rules[Fr.refl,Fr.alloc,Fr.drew]|rfl) only [↓gsd,gs,gv,Nat.reduceAdd,Nat.reduceEqDiff, e20]
    ·simp (maxSteps:=4000000)(disch:=first|assumption|(simp only[dz];first|done|assumption|omega)|omega|apply_rules[Fr.refl,Fr.alloc,Fr.drew]|rfl) only [↓gsd,gs,gv,Nat.reduceAdd,Nat.reduceEqDiff, e21]
    ·rw [List.length_append, List.length_singleton, cellsOf_append, cellsOf_one]
     exact hown4
    ·exact own_fresh hbk ho2.ge (by simp only [size_alloc]; have := hf02.size; omega)
    ·intro z hz
     have hz4 : ∀ (y : Stp × SlV), Own 3 60 w2 (.slice y.2.1 y.2.2.1 y.2.2.2) y.1.ws.length (cellsOf encWr y.1.ws) → Own 3 60 w4 (.slice y.2.1 y.2.2.1 y.2.2.2) y.1.ws.length (cellsOf encWr y.1.ws) := fun y hy =>
      (Own.frN hy hfx).fr hf4 fun b hb hb' => own_ne (Own.frN hy hfx) (Own.frN ho2.own hfx) (by decide) b hb' (mem_blkL hb)
     rcases List.mem_append.1 hz with h | h
     ·exact hz4 z (ho2.ws z h)
     ·simp only [List.mem_singleton] at h; subst h; exact hz4 _ hxo
    ·exact (hf02.trans' hfx).trans hf4 fun z hz => .inr (ho2.ge _ (mem_blkL hz))
   ·simp (maxSteps:=4000000)(disch:=first|assumption|(simp only[dz];first|done|assumption|omega)|omega|apply_rules[Fr.refl,Fr.alloc,Fr.drew]|rfl) only [↓gd,gp,Nat.reduceAdd,Nat.reduceEqDiff, ↓hk9, encStp, e7, wi]
    refine hbad _ _ (hst.trans hx) ?_ ?_ ?_ (hf02.alloc _)
    ·simp (maxSteps:=4000000)(disch:=first|assumption|(simp only[dz];first|done|assumption|omega)|omega|apply_rules[Fr.refl,Fr.alloc,Fr.drew]|rfl) only [↓gsd,gs,gv,Nat.reduceAdd,Nat.reduceEqDiff]
    ·simp (maxSteps:=4000000)(disch:=first|assumption|(simp only[dz];first|done|assumption|omega)|omega|apply_rules[Fr.refl,Fr.alloc,Fr.drew]|rfl) only [↓gsd,gs,gv,Nat.reduceAdd,Nat.reduceEqDiff]
    ·simp (maxSteps:=4000000)(disch:=first|assumption|(simp only[dz];first|done|assumption|omega)|omega|apply_rules[Fr.refl,Fr.alloc,Fr.drew]|rfl) only [↓gsd,gs,gv,Nat.reduceAdd,Nat.reduceEqDiff]
  ·have dw : decide (B f.word = B w0) = false := decide_eq_false (by rw [B_inj]; exact hwd)
   simp (maxSteps:=4000000)(disch:=first|assumption|(simp only[dz];first|done|assumption|omega)|omega|apply_rules[Fr.refl,Fr.alloc,Fr.drew]|rfl) only [↓gd,gp,Nat.reduceAdd,Nat.reduceEqDiff, ↓hk9, e38, e39, e40, e9, hv1, hv2, d, i0, i16, i1, Int.toNat_natCast, hob1, hrow, hob2, hc2, dw, Int.le_refl, Int.toNat_zero, Nat.zero_mul, Nat.add_zero, wr]
   refine hkk _ _ hk16 ?_ ⟨?_, ?_, ?_, ?_, ?_, ?_, ?_, ?_, ?_, ?_, ?_, ?_, ?_, ?_, (hf1.alloc _).drew⟩
   ·simp (maxSteps:=4000000)(disch:=first|assumption|(simp only[dz];first|done|assumption|omega)|omega|apply_rules[Fr.refl,Fr.alloc,Fr.drew]|rfl) only [↓gsd,gs,gv,Nat.reduceAdd,Nat.reduceEqDiff]
   ·simp (maxSteps:=4000000)(disch:=first|assumption|(simp only[dz];first|done|assumption|omega)|omega|apply_rules[Fr.refl,Fr.alloc,Fr.drew]|rfl) only [↓gsd,gs,gv,Nat.reduceAdd,Nat.reduceEqDiff, e38]
   ·simp (maxSteps:=4000000)(disch:=first|assumption|(simp only[dz];first|done|assumption|omega)|omega|apply_rules[Fr.refl,Fr.alloc,Fr.drew]|rfl) only [↓gsd,gs,gv,Nat.reduceAdd,Nat.reduceEqDiff, e39]
   ·simp (maxSteps:=4000000)(disch:=first|assumption|(simp only[dz];first|done|assumption|omega)|omega|apply_rules[Fr.refl,Fr.alloc,Fr.drew]|rfl) only [↓gsd,gs,gv,Nat.reduceAdd,Nat.reduceEqDiff, e9, hv2]
   ·simp (maxSteps:=4000000)(disch:=first|assumption|(simp only[dz];first|done|assumption|omega)|omega|apply_rules[Fr.refl,Fr.alloc,Fr.drew]|rfl) only [↓gsd,gs,gv,Nat.reduceAdd,Nat.reduceEqDiff, e5]
   ·simp (maxSteps:=4000000)(disch:=first|assumption|(simp only[dz];first|done|assumption|omega)|omega|apply_rules[Fr.refl,Fr.alloc,Fr.drew]|rfl) only [↓gsd,gs,gv,Nat.reduceAdd,Nat.reduceEqDiff, e7]
   ·simp (maxSteps:=4000000)(disch:=first|assumption|(simp only[dz];first|done|assumption|omega)|omega|apply_rules[Fr.refl,Fr.alloc,Fr.drew]|rfl) only [↓gsd,gs,gv,Nat.reduceAdd,Nat.reduceEqDiff, e0]
   ·simp (maxSteps:=4000000)(disch:=first|assumption|(simp only[dz];first|done|assumption|omega)|omega|apply_rules[Fr.refl,Fr.alloc,Fr.drew]|rfl) only [↓gsd,gs,gv,Nat.reduceAdd,Nat.reduceEqDiff, e2]
   ·simp (maxSteps:=4000000)(disch:=first|assumption|(simp only[dz];first|done|assumption|omega)|omega|apply_rules[Fr.refl,Fr.alloc,Fr.drew]|rfl) only [↓gsd,gs,gv,Nat.reduceAdd,Nat.reduceEqDiff, e3]
   ·simp (maxSteps:=4000000)(disch:=first|assumption|(simp only[dz];first|done|assumption|omega)|omega|apply_rules[Fr.refl,Fr.alloc,Fr.drew]|rfl) only [↓gsd,gs,gv,Nat.reduceAdd,Nat.reduceEqDiff, e4]
   ·simp (maxSteps:=4000000)(disch:=first|assumption|(simp only[dz];first|done|assumption|omega)|omega|apply_rules[Fr.refl,Fr.alloc,Fr.drew]|rfl) only [↓gsd,gs,gv,Nat.reduceAdd,Nat.reduceEqDiff, e6]
   ·simp (maxSteps:=4000000)(disch:=first|assumption|(simp only[dz];first|done|assumption|omega)|omega|apply_rules[Fr.refl,Fr.alloc,Fr.drew]|rfl) only [↓gsd,gs,gv,Nat.reduceAdd,Nat.reduceEqDiff, e19]
   ·simp (maxSteps:=4000000)(disch:=first|assumption|(simp only[dz];first|done|assumption|omega)|omega|apply_rules[Fr.refl,Fr.alloc,Fr.drew]|rfl) only [↓gsd,gs,gv,Nat.reduceAdd,Nat.reduceEqDiff, e20]
   ·simp (maxSteps:=4000000)(disch:=first|assumption|(simp only[dz];first|done|assumption|omega)|omega|apply_rules[Fr.refl,Fr.alloc,Fr.drew]|rfl) only [↓gsd,gs,gv,Nat.reduceAdd,Nat.reduceEqDiff, e21]
   ·intro j g hj hg
    rcases Nat.lt_succ_iff_lt_or_eq.1 hj with h | h
    ·exact hno j g h hg
    ·subst h; rw [hfk] at hg; cases hg; exact hwd
 ·have d : decide ((k : Int) < 16) = false := decide_eq_false (by omega)
  have hk' : k = 16 := by omega
  subst hk'
  simp (maxSteps:=4000000)(disch:=first|assumption|(simp only[dz];first|done|assumption|omega)|omega|apply_rules[Fr.refl,Fr.alloc,Fr.drew]|rfl) only [↓gd,gp,Nat.reduceAdd,Nat.reduceEqDiff, ↓hk9, e38, e39, e40, e9, e7, d, wi]
  refine hbad _ _ ?_ ?_ ?_ ?_ hf01
  ·rw [stepO_cons, find_no hno]; rfl
  ·simp (maxSteps:=4000000)(disch:=first|assumption|(simp only[dz];first|done|assumption|omega)|omega|apply_rules[Fr.refl,Fr.alloc,Fr.drew]|rfl) only [↓gsd,gs,gv,Nat.reduceAdd,Nat.reduceEqDiff]
  ·simp (maxSteps:=4000000)(disch:=first|assumption|(simp only[dz];first|done|assumption|omega)|omega|apply_rules[Fr.refl,Fr.alloc,Fr.drew]|rfl) only [↓gsd,gs,gv,Nat.reduceAdd,Nat.reduceEqDiff]
  ·simp (maxSteps:=4000000)(disch:=first|assumption|(simp only[dz];first|done|assumption|omega)|omega|apply_rules[Fr.refl,Fr.alloc,Fr.drew]|rfl) only [↓gsd,gs,gv,Nat.reduceAdd,Nat.reduceEqDiff]
end
end Go.Proofs.YtbbjnplellanaaaDoor
