/- The law ScriptBack walked. -/
import Derived.Test.YtbbjnplellanaaaDoorQJ
set_option linter.unusedVariables false
set_option linter.unusedSimpArgs false
set_option maxRecDepth 100000
namespace Go.Proofs.YtbbjnplellanaaaDoor
open Go.VW
theorem form_idx {k : Nat} {f : Form} (h : formsL[k]? = some f) : f.kind = k + 1 := by
 have hk : k < 16 := (List.getElem?_eq_some_iff.1 h).1
 have : ∀ k, k < 16 → (formsL[k]?).map (·.kind) = some (k + 1) := by decide
 have h2 := this k hk
 rw [h] at h2
 exact Option.some.inj h2
theorem lineS_form {s : Stp} {l : Bs} (h : lineS s = some l) : ∃ f ∈ formsL, s.kind = (f.kind : Int) ∧ bareS s = bareF f s := by
 unfold lineS at h
 split at h
 ·rename_i hk
  cases hf : formsL[(s.kind - 1).toNat]? with
  | none => rw [hf] at h; cases h
  | some f =>
    refine ⟨f, List.mem_of_getElem? hf, ?_, by unfold bareS; rw [hf]⟩
    have := form_idx hf
    omega
 ·cases h
theorem textGo_all : ∀ (ss : List Stp) (i : Nat) (out : Bs), (textGo ss i out).2.2 = 0 → ∀ s ∈ ss, ∃ l, lineS s = some l
 | [], i, out, h, s, hs => by cases hs
 | u :: r, i, out, h, s, hs => by
   rw [textGo] at h
   cases hl : lineS u with
   | none => rw [hl] at h; cases h
   | some l =>
     rw [hl] at h
     rcases List.mem_cons.1 hs with rfl | hs'
     ·exact ⟨l, hl⟩
     ·exact textGo_all r (i + 1) _ h s hs'
theorem bare_ws {f : Form} (hf : f ∈ formsL) (s : Stp) : (f.kind = 2 → (bareF f s).ws = s.ws) ∧ (f.kind ≠ 2 → (bareF f s).ws = []) := by
 simp only [formsL, List.mem_cons, List.not_mem_nil, or_false] at hf
 rcases hf with rfl | rfl | rfl | rfl | rfl | rfl | rfl | rfl | rfl | rfl | rfl | rfl | rfl | rfl | rfl | rfl
 all_goals first | exact ⟨fun h => absurd h (by decide), fun _ => rfl⟩ | exact ⟨fun _ => rfl, fun h => absurd rfl h⟩
section
variable {w : World} {K : Value → World → Prop}
set_option maxHeartbeats 16000000 in
theorem back2_spec {b : Bs} {e : Env} (e1 : e 1 = .string (B b)) (hb : b.length ≤ 140737488355328) (hm : MaxL w) (ht : TabP w) (hK : ∀ w', Fr [] w w' → K (.bool true) w') : W3 Tryd.prog 116 V5 c5_4 (retQ Tryd.prog [.tmp 4] K) e w := by
 have cw := cur w
 simp (maxSteps:=4000000)(disch:=first|assumption|(simp only[dz];first|done|assumption|omega)|omega|apply_rules[Fr.refl,Fr.alloc,Fr.drew]|rfl) only [↓gd,gp,Nat.reduceAdd,Nat.reduceEqDiff, ↓hk5, e1]
 refine parse_spec hm fun v1 w1 ho1 hf1 => ?_
 have cw1 := cur w1
 obtain ⟨P, hP⟩ : ∃ P, P = parseL b := ⟨_, rfl⟩
 have hbd := parse_bd b
 have hgd := parse_good b
 have her := parse_err b
 rw [← hP] at ho1 hbd hgd her ⊢
 obtain ⟨rows, hrows, ho⟩ := ho1
 obtain ⟨va, vc, hva⟩ := ho.own.sl.form
 have hlen : rows.length ≤ 70000 := by have h := congrArg List.length hrows; rw [List.length_map] at h; rw [h]; exact hbd.2.2
 have dd : ∀ n : Int, decide (n = n) = true := fun n => decide_eq_true rfl
 by_cases q1 : P.2.2 = 0
 ·have d1 : decide (P.2.2 = 0) = true := decide_eq_true q1
  simp (maxSteps:=4000000)(disch:=first|assumption|(simp only[dz];first|done|assumption|omega)|omega|apply_rules[Fr.refl,Fr.alloc,Fr.drew]|rfl) only [↓gd,gp,Nat.reduceAdd,Nat.reduceEqDiff, ↓hk5, e1, d1]
  have hgr : ∀ x ∈ rows, Fits x.1 := fun x hx => (hgd x.1 (by rw [← hrows]; exact List.mem_map_of_mem hx)).fits
  refine text_spec ho.rows hgr (by omega) (ht.fr hf1) fun w2 hf2 => ?_
  have cw2 := cur w2
  have hf02 := hf1.trans' hf2
  rw [hrows]
  rcases text_good hgd with q2 | ⟨q2, q3⟩
  ·have d2 : decide ((textL P.1).2.2 = 2) = true := decide_eq_true q2
   simp (maxSteps:=4000000)(disch:=first|assumption|(simp only[dz];first|done|assumption|omega)|omega|apply_rules[Fr.refl,Fr.alloc,Fr.drew]|rfl) only [↓gd,gp,Nat.reduceAdd,Nat.reduceEqDiff, ↓hk5, e1, d2]
   exact hK _ hf02
  ·have d2 : decide ((textL P.1).2.2 = 2) = false := decide_eq_false (by omega)
   have d3 : decide ((textL P.1).2.2 = 0) = true := decide_eq_true q2
   simp (maxSteps:=4000000)(disch:=first|assumption|(simp only[dz];first|done|assumption|omega)|omega|apply_rules[Fr.refl,Fr.alloc,Fr.drew]|rfl) only [↓gd,gp,Nat.reduceAdd,Nat.reduceEqDiff, ↓hk5, e1, d2, d3]
   refine parse_spec (hm.fr hf02) fun v3 w3 ho3 hf3 => ?_
   have cw3 := cur w3
   rw [q3] at ho3 ⊢
   obtain ⟨rz, hrz, hoz⟩ := ho3
   simp (maxSteps:=4000000)(disch:=first|assumption|(simp only[dz];first|done|assumption|omega)|omega|apply_rules[Fr.refl,Fr.alloc,Fr.drew]|rfl) only [↓gd,gp,Nat.reduceAdd,Nat.reduceEqDiff, ↓hk5, e1, d2, d3, dd]
   refine rsame_spec (((ho.fr hf2).fr hf3).rows) hoz.rows (by omega) (fun x hx => by have := (hgr x hx).ws; omega) fun w4 hf4 => ?_
   have cw4 := cur w4
   have hd : decide (rows.map Prod.fst = rz.map Prod.fst) = true := decide_eq_true (by rw [hrows, hrz])
   simp (maxSteps:=4000000)(disch:=first|assumption|(simp only[dz];first|done|assumption|omega)|omega|apply_rules[Fr.refl,Fr.alloc,Fr.drew]|rfl) only [↓gd,gp,Nat.reduceAdd,Nat.reduceEqDiff, ↓hk5, hd]
   exact hK _ ((hf02.trans' hf3).trans' hf4)
 ·have d1 : decide (P.2.2 = 0) = false := decide_eq_false q1
  have h0 := her q1
  have hr0 : rows = [] := by rw [h0] at hrows; exact List.map_eq_nil_iff.1 hrows
  subst hr0
  have d0 : decide (((([] : List (Stp × SlV)).length : Nat) : Int) = 0) = true := rfl
  simp (maxSteps:=4000000)(disch:=first|assumption|(simp only[dz];first|done|assumption|omega)|omega|apply_rules[Fr.refl,Fr.alloc,Fr.drew]|rfl) only [↓gd,gp,Nat.reduceAdd,Nat.reduceEqDiff, ↓hk5, e1, d1, hva, d0]
  exact hK _ hf1
set_option maxHeartbeats 16000000 in
theorem back_spec {v : Value} {rows : List (Stp × SlV)} {b : Bs} (hv : RowsAt w v rows) (hft : ∀ x ∈ rows, Fits x.1) (hn : rows.length ≤ 4000000) (hb : b.length ≤ 140737488355328) (hm : MaxL w) (ht : TabP w) (hK : ∀ w', Fr [] w w' → K (.bool true) w') : CallsN Tryd.prog 5 [v, .string (B b)] w K := by
 have cw := cur w
 obtain ⟨va, vc, hvv⟩ := hv.1.form
 refine call5 ?_
 simp (maxSteps:=4000000)(disch:=first|assumption|(simp only[dz];first|done|assumption|omega)|omega|apply_rules[Fr.refl,Fr.alloc,Fr.drew]|rfl) only [↓gd,gp,Nat.reduceAdd,Nat.reduceEqDiff, ↓hk5]
 refine fixed_spec hm ht fun w1 hf1 => ?_
 have cw1 := cur w1
 simp (maxSteps:=4000000)(disch:=first|assumption|(simp only[dz];first|done|assumption|omega)|omega|apply_rules[Fr.refl,Fr.alloc,Fr.drew]|rfl) only [↓gd,gp,Nat.reduceAdd,Nat.reduceEqDiff, ↓hk5]
 refine text_spec (hv.fr hf1) hft (by omega) (ht.fr hf1) fun w2 hf2 => ?_
 have cw2 := cur w2
 have hf02 := hf1.trans' hf2
 obtain ⟨T, hT⟩ : ∃ T, T = textL (rows.map Prod.fst) := ⟨_, rfl⟩
 have her := @text_err (rows.map Prod.fst)
 have hbk := @text_back (rows.map Prod.fst)
 have hal := textGo_all (rows.map Prod.fst) 0 []
 rw [show textGo (rows.map Prod.fst) 0 [] = T from hT.symm] at hal
 rw [← hT] at her hbk ⊢
 rw [List.length_map] at her
 have dd : ∀ n : Int, decide (n = n) = true := fun n => decide_eq_true rfl
 by_cases q1 : T.2.2 = 0
 ·have d1 : decide (T.2.2 = 0) = true := decide_eq_true q1
  simp (maxSteps:=4000000)(disch:=first|assumption|(simp only[dz];first|done|assumption|omega)|omega|apply_rules[Fr.refl,Fr.alloc,Fr.drew]|rfl) only [↓gd,gp,Nat.reduceAdd,Nat.reduceEqDiff, ↓c5_9_s, ↓c5_8_s, ↓c5_12_s, ↓c5_11_s, ↓c5_10_s, ↓c5_7_s, ↓c5_6_s, ↓c5_15_s, ↓c5_14_s, ↓c5_13_s, ↓c5_5_s, ↓c5_20_s, ↓c5_19_s, ↓c5_18_s, ↓c5_26_s, ↓c5_25_s, ↓c5_24_s, ↓c5_23_s, ↓c5_32_s, ↓c5_34_s, ↓c5_33_s, ↓c5_31_s, ↓c5_36_s, ↓c5_35_s, ↓c5_30_s, ↓c5_29_s, ↓c5_28_s, ↓c5_27_s, ↓c5_22_s, ↓c5_21_s, ↓c5_17_s, ↓c5_16_s, ↓c5_3_s, ↓c5_2_s, ↓c5_39_s, ↓c5_38_s, ↓c5_37_s, ↓c5_1_s, ↓c5_s, ↓w3t_5, d1]
  refine for_intro rows.length 9 0 (fun i e' w' => ∃ (wv : Value) (wr : List (Stp × SlV)), e' 0 = v ∧ e' 1 = .string (B b) ∧ e' 8 = wv ∧ e' 5 = .string (B T.1) ∧ wr.map Prod.fst = ((rows.map Prod.fst).take i).map bareS ∧ wr.length = i ∧ Own 8 33 w' wv wr.length (cellsOf encStp wr) ∧ (∀ x, wv.ownBlock = some x → w2.heap.size ≤ x) ∧ (∀ x ∈ wr, SlOf 3 encWr w2 (.slice x.2.1 x.2.2.1 x.2.2.2) x.1.ws) ∧ Fr [] w2 w') ?_ (Nat.zero_le _) ?_ ?_
  ·simp (maxSteps:=4000000)(disch:=first|assumption|(simp only[dz];first|done|assumption|omega)|omega|apply_rules[Fr.refl,Fr.alloc,Fr.drew]|rfl) only [↓gsd,gs,gv,Nat.reduceAdd,Nat.reduceEqDiff]; rfl
  ·refine ⟨.slice none 0 0, [], ?_, ?_, ?_, ?_, rfl, rfl, Own.nil, fun x hx => by simp [Value.ownBlock] at hx, fun x hx => (by cases hx), Fr.refl _ _⟩
   all_goals simp (maxSteps:=4000000)(disch:=first|assumption|(simp only[dz];first|done|assumption|omega)|omega|apply_rules[Fr.refl,Fr.alloc,Fr.drew]|rfl) only [↓gsd,gs,gv,Nat.reduceAdd,Nat.reduceEqDiff]
  rintro i e4 w4 kk hi e49 ⟨wv, wr, e40, e41, e48, e45, hwr, hwl, hown, hge, hws, hf4⟩ hkk
  have cw4 := cur w4
  have hf04 := hf02.trans' hf4
  obtain ⟨wa, wc, hwv⟩ := hown.sl.form
  by_cases hil : i < rows.length
  ·have d : decide ((i : Int) < (rows.length : Int)) = true := decide_eq_true (by omega)
   obtain ⟨x, hx⟩ : ∃ x, rows[i]? = some x := ⟨rows[i], List.getElem?_eq_getElem hil⟩
   have hxm : (rows.map Prod.fst)[i]? = some x.1 := by rw [List.getElem?_map, hx]; rfl
   obtain ⟨bb, off, cap, ob, hv1, hob1, _, hrow, _⟩ := (hv.1.frN hf04).read encStp_len i x hx
   have i0 : (0 : Int) ≤ (i : Int) := by omega
   have i1 : (i : Int) < (rows.length : Int) := by omega
   have wr1 : IntKind.i64.wrap ((i : Int) + 1) = (i : Int) + 1 := wrap64 (by omega) (by omega)
   simp (maxSteps:=4000000)(disch:=first|assumption|(simp only[dz];first|done|assumption|omega)|omega|apply_rules[Fr.refl,Fr.alloc,Fr.drew]|rfl) only [↓gd,gp,Nat.reduceAdd,Nat.reduceEqDiff, ↓c5_9_s, ↓c5_8_s, ↓c5_12_s, ↓c5_11_s, ↓c5_10_s, ↓c5_7_s, ↓c5_6_s, ↓c5_15_s, ↓c5_14_s, ↓c5_13_s, ↓c5_5_s, ↓c5_20_s, ↓c5_19_s, ↓c5_18_s, ↓c5_26_s, ↓c5_25_s, ↓c5_24_s, ↓c5_23_s, ↓c5_32_s, ↓c5_34_s, ↓c5_33_s, ↓c5_31_s, ↓c5_36_s, ↓c5_35_s, ↓c5_30_s, ↓c5_29_s, ↓c5_28_s, ↓c5_27_s, ↓c5_22_s, ↓c5_21_s, ↓c5_17_s, ↓c5_16_s, ↓c5_3_s, ↓c5_2_s, ↓c5_39_s, ↓c5_38_s, ↓c5_37_s, ↓c5_1_s, ↓c5_s, ↓w3t_5, e40, e48, e49, hv1, hwv, d, i0, i1, Int.toNat_natCast, hob1, hrow]
   obtain ⟨l, hl⟩ := hal q1 x.1 (List.mem_of_getElem? hxm)
   obtain ⟨f, hfm, hkf, hbf⟩ := lineS_form hl
   refine bare_spec (s := x.1) (sv := x.2) hfm hkf fun w5 hf5 => ?_
   have cw5 := cur w5
   have hown5 := Own.frN hown hf5
   have hfx : Fr [] w5 (w5.alloc (.cells (encStp (bareF f x.1, bareV f x.2)).toArray 33 (0, 0))) := (Fr.refl _ _).alloc _
   obtain ⟨v6, w6, hr6, hown6, hf6, hbk6⟩ := ap23 (ty := 23) (Own.frN hown5 hfx) (sl_new (e := 33) (w := w5) (encStp_len (bareF f x.1, bareV f x.2))) (encStp_one _) (by omega)
   have cw6 := cur w6
   have hf46 : Fr [] w2 w6 := ((hf4.trans' hf5).trans' hfx).trans hf6 fun z hz => .inr (hge z (mem_blkL hz))
   have hge6 : ∀ z, v6.ownBlock = some z → w2.heap.size ≤ z := own_fresh hbk6 hge (by simp only [size_alloc]; have := hf4.size; have := hf5.size; omega)
   rw [hwv] at hr6
   obtain ⟨v61, v62, hv6⟩ := hown6.sl.form
   have hbs := bs23_1 (encStp (bareF f x.1, bareV f x.2)) (encStp_len _) w5
   simp (maxSteps:=4000000)(disch:=first|assumption|(simp only[dz];first|done|assumption|omega)|omega|apply_rules[Fr.refl,Fr.alloc,Fr.drew]|rfl) only [↓gd,gp,Nat.reduceAdd,Nat.reduceEqDiff, ↓c5_9_s, ↓c5_8_s, ↓c5_12_s, ↓c5_11_s, ↓c5_10_s, ↓c5_7_s, ↓c5_6_s, ↓c5_15_s, ↓c5_14_s, ↓c5_13_s, ↓c5_5_s, ↓c5_20_s, ↓c5_19_s, ↓c5_18_s, ↓c5_26_s, ↓c5_25_s, ↓c5_24_s, ↓c5_23_s, ↓c5_32_s, ↓c5_34_s, ↓c5_33_s, ↓c5_31_s, ↓c5_36_s, ↓c5_35_s, ↓c5_30_s, ↓c5_29_s, ↓c5_28_s, ↓c5_27_s, ↓c5_22_s, ↓c5_21_s, ↓c5_17_s, ↓c5_16_s, ↓c5_3_s, ↓c5_2_s, ↓c5_39_s, ↓c5_38_s, ↓c5_37_s, ↓c5_1_s, ↓c5_s, ↓w3t_5, hbs, e49, hr6, wr1]
   refine hkk _ _ hil ?_ ⟨v6, wr ++ [(bareF f x.1, bareV f x.2)], ?_, ?_, ?_, ?_, ?_, ?_, ?_, hge6, ?_, hf46⟩
   ·simp (maxSteps:=4000000)(disch:=first|assumption|(simp only[dz];first|done|assumption|omega)|omega|apply_rules[Fr.refl,Fr.alloc,Fr.drew]|rfl) only [↓gsd,gs,gv,Nat.reduceAdd,Nat.reduceEqDiff]
   ·simp (maxSteps:=4000000)(disch:=first|assumption|(simp only[dz];first|done|assumption|omega)|omega|apply_rules[Fr.refl,Fr.alloc,Fr.drew]|rfl) only [↓gsd,gs,gv,Nat.reduceAdd,Nat.reduceEqDiff, e40, hv1]
   ·simp (maxSteps:=4000000)(disch:=first|assumption|(simp only[dz];first|done|assumption|omega)|omega|apply_rules[Fr.refl,Fr.alloc,Fr.drew]|rfl) only [↓gsd,gs,gv,Nat.reduceAdd,Nat.reduceEqDiff, e41]
   ·simp (maxSteps:=4000000)(disch:=first|assumption|(simp only[dz];first|done|assumption|omega)|omega|apply_rules[Fr.refl,Fr.alloc,Fr.drew]|rfl) only [↓gsd,gs,gv,Nat.reduceAdd,Nat.reduceEqDiff]
   ·simp (maxSteps:=4000000)(disch:=first|assumption|(simp only[dz];first|done|assumption|omega)|omega|apply_rules[Fr.refl,Fr.alloc,Fr.drew]|rfl) only [↓gsd,gs,gv,Nat.reduceAdd,Nat.reduceEqDiff, e45]
   ·rw [List.map_append, hwr, List.take_add_one, hxm, List.map_append]
    simp [hbf]
   ·simp [hwl]
   ·rw [List.length_append, List.length_singleton, cellsOf_append, cellsOf_one]; exact hown6
   ·intro y hy
    rcases List.mem_append.1 hy with hy' | hy'
    ·exact hws y hy'
    ·simp only [List.mem_singleton] at hy'; subst hy'
     obtain ⟨b2, b0⟩ := bare_ws hfm x.1
     by_cases hk2 : f.kind = 2
     ·have hxw := (hv.fr hf02).2 x (List.mem_of_getElem? hx)
      simp only [bareV, if_pos hk2, b2 hk2]; exact hxw
     ·simp only [bareV, if_neg hk2, b0 hk2]; exact Sl.nil
  ·have d : decide ((i : Int) < (rows.length : Int)) = false := decide_eq_false (by omega)
   have hi' : i = rows.length := by omega
   simp (maxSteps:=4000000)(disch:=first|assumption|(simp only[dz];first|done|assumption|omega)|omega|apply_rules[Fr.refl,Fr.alloc,Fr.drew]|rfl) only [↓gd,gp,Nat.reduceAdd,Nat.reduceEqDiff, ↓c5_9_s, ↓c5_8_s, ↓c5_12_s, ↓c5_11_s, ↓c5_10_s, ↓c5_7_s, ↓c5_6_s, ↓c5_15_s, ↓c5_14_s, ↓c5_13_s, ↓c5_5_s, ↓c5_20_s, ↓c5_19_s, ↓c5_18_s, ↓c5_26_s, ↓c5_25_s, ↓c5_24_s, ↓c5_23_s, ↓c5_32_s, ↓c5_34_s, ↓c5_33_s, ↓c5_31_s, ↓c5_36_s, ↓c5_35_s, ↓c5_30_s, ↓c5_29_s, ↓c5_28_s, ↓c5_27_s, ↓c5_22_s, ↓c5_21_s, ↓c5_17_s, ↓c5_16_s, ↓c5_3_s, ↓c5_2_s, ↓c5_39_s, ↓c5_38_s, ↓c5_37_s, ↓c5_1_s, ↓c5_s, ↓w3t_5, e40, e45, e49, hvv, d]
   refine parse_spec (hm.fr hf04) fun v5 w5 ho5 hf5 => ?_
   have cw5 := cur w5
   rw [hbk q1] at ho5 ⊢
   obtain ⟨rz, hrz, hoz⟩ := ho5
   have hlz : rz.length = rows.length := by have h := congrArg List.length hrz; simpa using h
   have hrw : RowsAt w5 wv wr := ⟨SlOf.frN hown.sl hf5, fun y hy => (hws y hy).frN (hf4.trans' hf5)⟩
   simp (maxSteps:=4000000)(disch:=first|assumption|(simp only[dz];first|done|assumption|omega)|omega|apply_rules[Fr.refl,Fr.alloc,Fr.drew]|rfl) only [↓gd,gp,Nat.reduceAdd,Nat.reduceEqDiff, ↓c5_9_s, ↓c5_8_s, ↓c5_12_s, ↓c5_11_s, ↓c5_10_s, ↓c5_7_s, ↓c5_6_s, ↓c5_15_s, ↓c5_14_s, ↓c5_13_s, ↓c5_5_s, ↓c5_20_s, ↓c5_19_s, ↓c5_18_s, ↓c5_26_s, ↓c5_25_s, ↓c5_24_s, ↓c5_23_s, ↓c5_32_s, ↓c5_34_s, ↓c5_33_s, ↓c5_31_s, ↓c5_36_s, ↓c5_35_s, ↓c5_30_s, ↓c5_29_s, ↓c5_28_s, ↓c5_27_s, ↓c5_22_s, ↓c5_21_s, ↓c5_17_s, ↓c5_16_s, ↓c5_3_s, ↓c5_2_s, ↓c5_39_s, ↓c5_38_s, ↓c5_37_s, ↓c5_1_s, ↓c5_s, ↓w3t_5, e48, dd]
   refine rsame_spec hoz.rows hrw (by omega) (fun y hy => own_len (hoz.ws y hy)) fun w7 hf7' => ?_
   have hf7 := hf5.trans' hf7'
   have cw7 := cur w7
   have hd : decide (rz.map Prod.fst = wr.map Prod.fst) = true := decide_eq_true (by rw [hrz, hwr, List.take_of_length_le (by rw [List.length_map]; omega)])
   simp (maxSteps:=4000000)(disch:=first|assumption|(simp only[dz];first|done|assumption|omega)|omega|apply_rules[Fr.refl,Fr.alloc,Fr.drew]|rfl) only [↓gd,gp,Nat.reduceAdd,Nat.reduceEqDiff, ↓c5_9_s, ↓c5_8_s, ↓c5_12_s, ↓c5_11_s, ↓c5_10_s, ↓c5_7_s, ↓c5_6_s, ↓c5_15_s, ↓c5_14_s, ↓c5_13_s, ↓c5_5_s, ↓c5_20_s, ↓c5_19_s, ↓c5_18_s, ↓c5_26_s, ↓c5_25_s, ↓c5_24_s, ↓c5_23_s, ↓c5_32_s, ↓c5_34_s, ↓c5_33_s, ↓c5_31_s, ↓c5_36_s, ↓c5_35_s, ↓c5_30_s, ↓c5_29_s, ↓c5_28_s, ↓c5_27_s, ↓c5_22_s, ↓c5_21_s, ↓c5_17_s, ↓c5_16_s, ↓c5_3_s, ↓c5_2_s, ↓c5_39_s, ↓c5_38_s, ↓c5_37_s, ↓c5_1_s, ↓c5_s, ↓w3t_5, hd]
   have hf07 := hf04.trans' hf7
   refine back2_spec ?_ hb (hm.fr hf07) (ht.fr hf07) fun w8 hf8 => hK _ (hf07.trans' hf8)
   simp (maxSteps:=4000000)(disch:=first|assumption|(simp only[dz];first|done|assumption|omega)|omega|apply_rules[Fr.refl,Fr.alloc,Fr.drew]|rfl) only [↓gsd,gs,gv,Nat.reduceAdd,Nat.reduceEqDiff, e41]
 ·have d1 : decide (T.2.2 = 0) = false := decide_eq_false q1
  obtain ⟨g1, g2, g3, g4⟩ := her q1
  have ds : decide (B T.1 = ⟨#[]⟩) = true := by rw [g1]; rfl
  have d2 : decide (T.2.1 < 0) = false := decide_eq_false (by omega)
  have d3 : decide ((rows.length : Int) < T.2.1) = false := decide_eq_false (by omega)
  by_cases q6 : T.2.2 = 60
  ·have d4 : decide (T.2.2 = 60) = true := decide_eq_true q6
   have d5 : decide (T.2.1 = 0) = false := decide_eq_false (g4 q6)
   simp (maxSteps:=4000000)(disch:=first|assumption|(simp only[dz];first|done|assumption|omega)|omega|apply_rules[Fr.refl,Fr.alloc,Fr.drew]|rfl) only [↓gd,gp,Nat.reduceAdd,Nat.reduceEqDiff, ↓c5_9_s, ↓c5_8_s, ↓c5_12_s, ↓c5_11_s, ↓c5_10_s, ↓c5_7_s, ↓c5_6_s, ↓c5_15_s, ↓c5_14_s, ↓c5_13_s, ↓c5_5_s, ↓c5_20_s, ↓c5_19_s, ↓c5_18_s, ↓c5_26_s, ↓c5_25_s, ↓c5_24_s, ↓c5_23_s, ↓c5_32_s, ↓c5_34_s, ↓c5_33_s, ↓c5_31_s, ↓c5_36_s, ↓c5_35_s, ↓c5_30_s, ↓c5_29_s, ↓c5_28_s, ↓c5_27_s, ↓c5_22_s, ↓c5_21_s, ↓c5_17_s, ↓c5_16_s, ↓c5_3_s, ↓c5_2_s, ↓c5_39_s, ↓c5_38_s, ↓c5_37_s, ↓c5_1_s, ↓c5_s, ↓w3t_5, d1, ds, d2, d3, d4, d5, hvv]
   refine back2_spec ?_ hb (hm.fr hf02) (ht.fr hf02) fun w8 hf8 => hK _ (hf02.trans' hf8)
   simp (maxSteps:=4000000)(disch:=first|assumption|(simp only[dz];first|done|assumption|omega)|omega|apply_rules[Fr.refl,Fr.alloc,Fr.drew]|rfl) only [↓gsd,gs,gv,Nat.reduceAdd,Nat.reduceEqDiff]
  ·have d4 : decide (T.2.2 = 60) = false := decide_eq_false q6
   simp (maxSteps:=4000000)(disch:=first|assumption|(simp only[dz];first|done|assumption|omega)|omega|apply_rules[Fr.refl,Fr.alloc,Fr.drew]|rfl) only [↓gd,gp,Nat.reduceAdd,Nat.reduceEqDiff, ↓c5_9_s, ↓c5_8_s, ↓c5_12_s, ↓c5_11_s, ↓c5_10_s, ↓c5_7_s, ↓c5_6_s, ↓c5_15_s, ↓c5_14_s, ↓c5_13_s, ↓c5_5_s, ↓c5_20_s, ↓c5_19_s, ↓c5_18_s, ↓c5_26_s, ↓c5_25_s, ↓c5_24_s, ↓c5_23_s, ↓c5_32_s, ↓c5_34_s, ↓c5_33_s, ↓c5_31_s, ↓c5_36_s, ↓c5_35_s, ↓c5_30_s, ↓c5_29_s, ↓c5_28_s, ↓c5_27_s, ↓c5_22_s, ↓c5_21_s, ↓c5_17_s, ↓c5_16_s, ↓c5_3_s, ↓c5_2_s, ↓c5_39_s, ↓c5_38_s, ↓c5_37_s, ↓c5_1_s, ↓c5_s, ↓w3t_5, d1, ds, d2, d3, d4, hvv]
   refine back2_spec ?_ hb (hm.fr hf02) (ht.fr hf02) fun w8 hf8 => hK _ (hf02.trans' hf8)
   simp (maxSteps:=4000000)(disch:=first|assumption|(simp only[dz];first|done|assumption|omega)|omega|apply_rules[Fr.refl,Fr.alloc,Fr.drew]|rfl) only [↓gsd,gs,gv,Nat.reduceAdd,Nat.reduceEqDiff]
end
end Go.Proofs.YtbbjnplellanaaaDoor
