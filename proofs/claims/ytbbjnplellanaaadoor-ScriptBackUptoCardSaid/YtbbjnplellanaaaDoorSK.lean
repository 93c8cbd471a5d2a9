/- Parse, as the program does it. -/
import Derived.Test.YtbbjnplellanaaaDoorSJ
set_option linter.unusedVariables false
set_option linter.unusedSimpArgs false
set_option maxRecDepth 10000
namespace Go.Proofs.YtbbjnplellanaaaDoor
open Go.VW
theorem preH_len (p : Bs) (l : List Bs) (h : l ≠ []) : (preH p l).length = l.length := by
 cases l with
 | nil => exact absurd rfl h
 | cons x r => rfl
theorem splitL_len (b : UInt8) : ∀ l : Bs, (splitL b l).length ≤ l.length + 1
 | [] => by simp [splitL]
 | x :: r => by
   have ih := splitL_len b r
   rw [splitL]; split
   ·simp only [List.length_cons]; omega
   ·rw [preH_len _ _ (splitL_ne b r)]; simp only [List.length_cons]; omega
theorem splitL_mem (b : UInt8) : ∀ (l : Bs) (p : Bs), p ∈ splitL b l → p.length ≤ l.length
 | [], p, h => by simp [splitL] at h; subst h; simp
 | x :: r, p, h => by
   have ih := splitL_mem b r
   rw [splitL] at h; split at h
   ·rcases List.mem_cons.1 h with h | h
    ·subst h; simp
    ·have := ih p h; simp only [List.length_cons]; omega
   ·cases hs : splitL b r with
    | nil => exact absurd hs (splitL_ne b r)
    | cons y t =>
      rw [hs] at h ih
      rcases List.mem_cons.1 h with h | h
      ·subst h; have := ih y (by simp); simp only [List.length_append, List.length_cons, List.length_nil]; omega
      ·have := ih p (List.mem_cons_of_mem _ h); simp only [List.length_cons]; omega
theorem wordsL_mem {l w : Bs} (h : w ∈ wordsL l) : w.length ≤ l.length ∧ w ≠ [] := by
 unfold wordsL nonE at h
 rw [List.mem_filter] at h
 exact ⟨splitL_mem 32 l w h.1, by rintro rfl; simp at h⟩
theorem wordsL_len (l : Bs) : (wordsL l).length ≤ l.length + 1 := Nat.le_trans (List.length_filter_le _ _) (splitL_len 32 l)
def StepsOwn (C : Nat) (w : World) (v : Value) (l : List Stp) : Prop := ∃ rows, rows.map Prod.fst = l ∧ OutAt C w v rows
theorem go_skip {ls : List Bs} {i : Nat} {l : Bs} {out : List Stp} {R : List Stp × Int × Int} (h : parseGo (ls.drop i) i out = R) (hl : ls[i]? = some l) (hs : lineO l = some none) : parseGo (ls.drop (i + 1)) (i + 1) out = R := by
 have hi := (List.getElem?_eq_some_iff.1 hl)
 have : ls.drop i = l :: ls.drop (i + 1) := by rw [List.drop_eq_getElem_cons hi.1, hi.2]
 rw [this, parseGo, hs] at h; exact h
theorem go_step {ls : List Bs} {i : Nat} {l : Bs} {s : Stp} {out : List Stp} {R : List Stp × Int × Int} (h : parseGo (ls.drop i) i out = R) (hl : ls[i]? = some l) (hs : lineO l = some (some s)) : parseGo (ls.drop (i + 1)) (i + 1) (out ++ [s]) = R := by
 have hi := (List.getElem?_eq_some_iff.1 hl)
 have : ls.drop i = l :: ls.drop (i + 1) := by rw [List.drop_eq_getElem_cons hi.1, hi.2]
 rw [this, parseGo, hs] at h; exact h
theorem go_bad {ls : List Bs} {i : Nat} {l : Bs} {out : List Stp} {R : List Stp × Int × Int} (h : parseGo (ls.drop i) i out = R) (hl : ls[i]? = some l) (hs : lineO l = none) : R = ([], (i : Int) + 1, 60) := by
 have hi := (List.getElem?_eq_some_iff.1 hl)
 have : ls.drop i = l :: ls.drop (i + 1) := by rw [List.drop_eq_getElem_cons hi.1, hi.2]
 rw [this, parseGo, hs] at h; exact h.symm
theorem go_end {ls : List Bs} {out : List Stp} {R : List Stp × Int × Int} (h : parseGo (ls.drop ls.length) ls.length out = R) : R = (out, 0, 0) := by
 rw [List.drop_length, parseGo] at h; exact h.symm
set_option maxHeartbeats 16000000 in
theorem parse_spec {t : Bs} {w : World} {K : Value → World → Prop} (hm : MaxL w)
  (hK : ∀ v w', StepsOwn w.heap.size w' v (parseL t).1 → Fr [] w w' → K (.tuple #[v, .int .i64 (parseL t).2.1, .int .i64 (parseL t).2.2]) w') : CallsN Tryd.prog 9 [.string (B t)] w K := by
 have cw := cur w
 refine call9 ?_
 by_cases hbig : 65536 < t.length
 ·have d : decide ((65536 : Int) < (t.length : Int)) = true := decide_eq_true (by omega)
  have hp : parseL t = ([], 0, 2) := by unfold parseL; rw [if_pos hbig]
  rw [hp] at hK
  simp (maxSteps:=4000000)(disch:=first|assumption|(simp only[dz];first|done|assumption|omega)|omega|apply_rules[Fr.refl,Fr.alloc,Fr.drew]|rfl) only [↓gd,gp,Nat.reduceAdd,Nat.reduceEqDiff, ↓hk9, B_size, d]
  exact hK _ _ ⟨[], rfl, OutAt.nil⟩ (Fr.refl _ _)
 have d : decide ((65536 : Int) < (t.length : Int)) = false := decide_eq_false (by omega)
 simp (maxSteps:=4000000)(disch:=first|assumption|(simp only[dz];first|done|assumption|omega)|omega|apply_rules[Fr.refl,Fr.alloc,Fr.drew]|rfl) only [↓gd,gp,Nat.reduceAdd,Nat.reduceEqDiff, ↓hk9, B_size, d]
 refine forms_spec fun fv wF hfv hfF => ?_
 have cwF := cur wF
 simp (maxSteps:=4000000)(disch:=first|assumption|(simp only[dz];first|done|assumption|omega)|omega|apply_rules[Fr.refl,Fr.alloc,Fr.drew]|rfl) only [↓gd,gp,Nat.reduceAdd,Nat.reduceEqDiff, ↓hk9]
 refine split_spec (hm.fr hfF) (by omega) fun lv wS hlv hfS => ?_
 have cwS := cur wS
 have hfv := hfv.frN hfS
 have hf0 : Fr [] w wS := hfF.trans' hfS
 have hmS := hm.fr hf0
 obtain ⟨ls, hls⟩ : ∃ ls, ls = splitL 10 t := ⟨_, rfl⟩
 rw [← hls] at hlv
 have hlen : ls.length ≤ 65537 := by rw [hls]; have := splitL_len 10 t; omega
 have hp : parseL t = parseGo ls 0 [] := by unfold parseL; rw [if_neg hbig, hls]
 rw [hp] at hK
 obtain ⟨la, lc, hlv0⟩ := hlv.form
 simp (maxSteps:=4000000)(disch:=first|assumption|(simp only[dz];first|done|assumption|omega)|omega|apply_rules[Fr.refl,Fr.alloc,Fr.drew]|rfl) only [↓gd,gp,Nat.reduceAdd,Nat.reduceEqDiff, ↓hk9, hlv0]
 rw [← hlv0]
 refine for_intro ls.length 21 0 (fun i e1 w' => ∃ (rows : List (Stp × SlV)) (ov : Value), e1 19 = lv ∧ e1 20 = .int .i64 ls.length ∧ e1 6 = fv ∧ e1 5 = ov ∧ OutAt wS.heap.size w' ov rows ∧ rows.length ≤ i ∧ parseGo (ls.drop i) i (rows.map Prod.fst) = parseGo ls 0 [] ∧ Fr [] wS w') ?_ (Nat.zero_le _) ?_ ?_
 ·simp (maxSteps:=4000000)(disch:=first|assumption|(simp only[dz];first|done|assumption|omega)|omega|apply_rules[Fr.refl,Fr.alloc,Fr.drew]|rfl) only [↓gsd,gs,gv,Nat.reduceAdd,Nat.reduceEqDiff]; rfl
 ·refine ⟨[], _, ?_, ?_, ?_, ?_, OutAt.nil, Nat.zero_le _, rfl, Fr.refl _ _⟩ <;> simp (maxSteps:=4000000)(disch:=first|assumption|(simp only[dz];first|done|assumption|omega)|omega|apply_rules[Fr.refl,Fr.alloc,Fr.drew]|rfl) only [↓gsd,gs,gv,Nat.reduceAdd,Nat.reduceEqDiff]
 rintro i e1 w1 kk hi e21 ⟨rows, ov, e19, e20, e6, e5, ho, hrl, hgo, hf1⟩ hkk
 have cw1 := cur w1
 have wr : IntKind.i64.wrap ((i : Int) + 1) = (i : Int) + 1 := wrap64 (by omega) (by omega)
 have hfK : ∀ w', Fr [] wS w' → Fr [] w w' := fun w' h => hf0.trans' h
 by_cases hil : i < ls.length
 ·have d : decide ((i : Int) < (ls.length : Int)) = true := decide_eq_true (by omega)
  obtain ⟨l, hl⟩ : ∃ l, ls[i]? = some l := ⟨ls[i], List.getElem?_eq_getElem hil⟩
  have hll : l.length ≤ 65536 := by
   have := splitL_mem 10 t l (hls ▸ List.mem_of_getElem? hl); omega
  obtain ⟨bb, off, cap, ob, hv1, hob1, hbl1, _, hcell⟩ := (hlv.frN hf1).read encB_len i l hl
  have hc0 := fun orig K => hcell 0 (.string (B l)) orig K rfl
  simp only [Nat.add_zero, Nat.mul_one] at hc0
  have i0 : (0 : Int) ≤ (i : Int) := by omega
  have i1 : (i : Int) < (ls.length : Int) := by omega
  simp (maxSteps:=4000000)(disch:=first|assumption|(simp only[dz];first|done|assumption|omega)|omega|apply_rules[Fr.refl,Fr.alloc,Fr.drew]|rfl) only [↓gd,gp,Nat.reduceAdd,Nat.reduceEqDiff, ↓hk9, e19, e20, e21, e6, hv1, d, i0, i1, Int.toNat_natCast, Nat.mul_one, hob1, hc0]
  refine words_spec hll fun wv w2 hwv hcap hf2 => ?_
  have cw2 := cur w2
  have hf02 := hf1.trans' hf2
  obtain ⟨wa, wc, hwv0⟩ := hwv.form
  have hwl := wordsL_len l
  cases hw : wordsL l with
  | nil =>
    have hlo : lineO l = some none := by unfold lineO; rw [hw]
    rw [hw] at hwv0
    have dl : decide (((0 : Nat) : Int) = 0) = true := rfl
    simp (maxSteps:=4000000)(disch:=first|assumption|(simp only[dz];first|done|assumption|omega)|omega|apply_rules[Fr.refl,Fr.alloc,Fr.drew]|rfl) only [↓gd,gp,Nat.reduceAdd,Nat.reduceEqDiff, ↓hk9, hwv0, dl, e21, wr]
    refine hkk _ _ hil ?_ ⟨rows, ov, ?_, ?_, ?_, ?_, ho.fr hf2, by omega, go_skip hgo hl hlo, hf02⟩
    ·simp (maxSteps:=4000000)(disch:=first|assumption|(simp only[dz];first|done|assumption|omega)|omega|apply_rules[Fr.refl,Fr.alloc,Fr.drew]|rfl) only [↓gsd,gs,gv,Nat.reduceAdd,Nat.reduceEqDiff]
    ·simp (maxSteps:=4000000)(disch:=first|assumption|(simp only[dz];first|done|assumption|omega)|omega|apply_rules[Fr.refl,Fr.alloc,Fr.drew]|rfl) only [↓gsd,gs,gv,Nat.reduceAdd,Nat.reduceEqDiff, e19, hv1]
    ·simp (maxSteps:=4000000)(disch:=first|assumption|(simp only[dz];first|done|assumption|omega)|omega|apply_rules[Fr.refl,Fr.alloc,Fr.drew]|rfl) only [↓gsd,gs,gv,Nat.reduceAdd,Nat.reduceEqDiff, e20]
    ·simp (maxSteps:=4000000)(disch:=first|assumption|(simp only[dz];first|done|assumption|omega)|omega|apply_rules[Fr.refl,Fr.alloc,Fr.drew]|rfl) only [↓gsd,gs,gv,Nat.reduceAdd,Nat.reduceEqDiff, e6]
    ·simp (maxSteps:=4000000)(disch:=first|assumption|(simp only[dz];first|done|assumption|omega)|omega|apply_rules[Fr.refl,Fr.alloc,Fr.drew]|rfl) only [↓gsd,gs,gv,Nat.reduceAdd,Nat.reduceEqDiff, e5]
  | cons w0 r =>
    have hmem : ∀ x ∈ w0 :: r, x.length ≤ l.length ∧ x ≠ [] := fun x hx => wordsL_mem (hw ▸ hx)
    rw [hw] at hwv hwl hwv0
    obtain ⟨c, w0', hw0⟩ : ∃ c w0', w0 = c :: w0' := by
     cases w0 with
     | nil => exact absurd rfl (hmem [] (by simp)).2
     | cons c w0' => exact ⟨c, w0', rfl⟩
    obtain ⟨b2, off2, cap2, ob2, hv2, hob2, hbl2, _, hcell2⟩ := hwv.read encB_len 0 w0 rfl
    have hc2 := fun orig K => hcell2 0 (.string (B w0)) orig K rfl
    simp only [Nat.add_zero, Nat.zero_mul, Nat.mul_one] at hc2
    obtain ⟨L, hL⟩ : ∃ L, L = (w0 :: r).length := ⟨_, rfl⟩
    have hL1 : 0 < L := by rw [hL]; simp
    rw [← hL] at hv2
    have dl : decide ((L : Int) = 0) = false := decide_eq_false (by omega)
    have j1 : (0 : Int) < (L : Int) := by omega
    have hix := fun k w => ix9_0 (l := w0) (b := c) (by rw [hw0]; rfl) k w
    have hhd : w0.head? = some c := by rw [hw0]; rfl
    by_cases q : c = 35
    ·have dq : decide ((c.toNat : Int) = 35) = true := by rw [q]; rfl
     have hlo : lineO l = some none := by unfold lineO; rw [hw]; simp only; rw [if_pos (by rw [hhd, q])]
     simp (maxSteps:=4000000)(disch:=first|assumption|(simp only[dz];first|done|assumption|omega)|omega|apply_rules[Fr.refl,Fr.alloc,Fr.drew]|rfl) only [↓gd,gp,Nat.reduceAdd,Nat.reduceEqDiff, ↓hk9, hv2, dl, hob2, hc2, Int.le_refl, j1, Int.toNat_zero, Nat.zero_mul, Nat.add_zero, hix, dq, e21, wr]
     refine hkk _ _ hil ?_ ⟨rows, ov, ?_, ?_, ?_, ?_, ho.fr hf2, by omega, go_skip hgo hl hlo, hf02⟩
     ·simp (maxSteps:=4000000)(disch:=first|assumption|(simp only[dz];first|done|assumption|omega)|omega|apply_rules[Fr.refl,Fr.alloc,Fr.drew]|rfl) only [↓gsd,gs,gv,Nat.reduceAdd,Nat.reduceEqDiff]
     ·simp (maxSteps:=4000000)(disch:=first|assumption|(simp only[dz];first|done|assumption|omega)|omega|apply_rules[Fr.refl,Fr.alloc,Fr.drew]|rfl) only [↓gsd,gs,gv,Nat.reduceAdd,Nat.reduceEqDiff, e19, hv1]
     ·simp (maxSteps:=4000000)(disch:=first|assumption|(simp only[dz];first|done|assumption|omega)|omega|apply_rules[Fr.refl,Fr.alloc,Fr.drew]|rfl) only [↓gsd,gs,gv,Nat.reduceAdd,Nat.reduceEqDiff, e20]
     ·simp (maxSteps:=4000000)(disch:=first|assumption|(simp only[dz];first|done|assumption|omega)|omega|apply_rules[Fr.refl,Fr.alloc,Fr.drew]|rfl) only [↓gsd,gs,gv,Nat.reduceAdd,Nat.reduceEqDiff, e6]
     ·simp (maxSteps:=4000000)(disch:=first|assumption|(simp only[dz];first|done|assumption|omega)|omega|apply_rules[Fr.refl,Fr.alloc,Fr.drew]|rfl) only [↓gsd,gs,gv,Nat.reduceAdd,Nat.reduceEqDiff, e5]
    ·have dq : decide ((c.toNat : Int) = 35) = false := decide_eq_false (fun h => q (UInt8.toNat_inj.1 (by have : (35 : UInt8).toNat = 35 := rfl; omega)))
     have hlo : lineO l = (stepO (w0 :: r)).map some := by unfold lineO; rw [hw]; simp only; rw [if_neg (by rw [hhd]; simpa using q)]
     simp (maxSteps:=4000000)(disch:=first|assumption|(simp only[dz];first|done|assumption|omega)|omega|apply_rules[Fr.refl,Fr.alloc,Fr.drew]|rfl) only [↓gd,gp,Nat.reduceAdd,Nat.reduceEqDiff, ↓c9_7_s, ↓c9_14_s, ↓c9_20_s, ↓c9_27_s, ↓c9_33_s, ↓c9_35_s, ↓c9_34_s, ↓c9_32_s, ↓c9_31_s, ↓c9_37_s, ↓c9_36_s, ↓c9_30_s, ↓c9_29_s, ↓c9_28_s, ↓c9_26_s, ↓c9_38_s, ↓c9_25_s, ↓c9_24_s, ↓c9_23_s, ↓c9_22_s, ↓c9_21_s, ↓c9_40_s, ↓c9_39_s, ↓c9_18_s, ↓c9_17_s, ↓c9_16_s, ↓c9_15_s, ↓c9_13_s, ↓c9_41_s, ↓c9_12_s, ↓c9_11_s, ↓c9_10_s, ↓c9_9_s, ↓c9_8_s, ↓c9_6_s, ↓c9_5_s, ↓c9_4_s, ↓c9_3_s, ↓c9_44_s, ↓c9_43_s, ↓c9_42_s, ↓c9_2_s, ↓c9_1_s, ↓c9_s, ↓w3t_9, hv2, dl, hob2, hc2, Int.le_refl, j1, Int.toNat_zero, Nat.zero_mul, Nat.add_zero, hix, dq, e21]
     refine forms_loop (W0 := wS) (w := w2) (fv := fv) (wv := wv) (ov := ov) (w0 := w0) (r := r) (rows := rows) (i := i) ?_ ?_ ?_ ?_ (by omega) (by omega) (hfv.frN hf02) hwv hcap (ho.fr hf2) hf02 hmS (fun x hx => Nat.le_trans (hmem x (List.mem_cons_of_mem _ hx)).1 hll) (by simp only [List.length_cons] at hwl; omega) ?_ ?_
     ·simp (maxSteps:=4000000)(disch:=first|assumption|(simp only[dz];first|done|assumption|omega)|omega|apply_rules[Fr.refl,Fr.alloc,Fr.drew]|rfl) only [↓gsd,gs,gv,Nat.reduceAdd,Nat.reduceEqDiff, e6]
     ·simp (maxSteps:=4000000)(disch:=first|assumption|(simp only[dz];first|done|assumption|omega)|omega|apply_rules[Fr.refl,Fr.alloc,Fr.drew]|rfl) only [↓gsd,gs,gv,Nat.reduceAdd,Nat.reduceEqDiff, hv2]
     ·simp (maxSteps:=4000000)(disch:=first|assumption|(simp only[dz];first|done|assumption|omega)|omega|apply_rules[Fr.refl,Fr.alloc,Fr.drew]|rfl) only [↓gsd,gs,gv,Nat.reduceAdd,Nat.reduceEqDiff, e5]
     ·simp (maxSteps:=4000000)(disch:=first|assumption|(simp only[dz];first|done|assumption|omega)|omega|apply_rules[Fr.refl,Fr.alloc,Fr.drew]|rfl) only [↓gsd,gs,gv,Nat.reduceAdd,Nat.reduceEqDiff]
     ·intro e' w' hs he2 he3 he4 hf'
      have cw' := cur w'
      have hR := go_bad hgo hl (by rw [hlo, hs]; rfl)
      rw [hR] at hK
      simp (maxSteps:=4000000)(disch:=first|assumption|(simp only[dz];first|done|assumption|omega)|omega|apply_rules[Fr.refl,Fr.alloc,Fr.drew]|rfl) only [↓gd,gp,Nat.reduceAdd,Nat.reduceEqDiff, ↓hk9, he2, he3, he4]
      exact hK _ _ ⟨[], rfl, OutAt.nil⟩ (hfK _ hf')
     ·intro e' w' ov' s sv hs h0 h2 h3 h4 h5 h6 h19 h20 h21 ho' hf'
      have cw' := cur w'
      simp (maxSteps:=4000000)(disch:=first|assumption|(simp only[dz];first|done|assumption|omega)|omega|apply_rules[Fr.refl,Fr.alloc,Fr.drew]|rfl) only [↓gsd,gs,gv,Nat.reduceAdd,Nat.reduceEqDiff, e19, e20, e21] at h19 h20 h21
      simp (maxSteps:=4000000)(disch:=first|assumption|(simp only[dz];first|done|assumption|omega)|omega|apply_rules[Fr.refl,Fr.alloc,Fr.drew]|rfl) only [↓gd,gp,Nat.reduceAdd,Nat.reduceEqDiff, ↓hk9, h21, wr]
      refine hkk _ _ hil ?_ ⟨rows ++ [(s, sv)], ov', ?_, ?_, ?_, ?_, ho', by simp only [List.length_append, List.length_singleton]; omega, ?_, hf'⟩
      ·simp (maxSteps:=4000000)(disch:=first|assumption|(simp only[dz];first|done|assumption|omega)|omega|apply_rules[Fr.refl,Fr.alloc,Fr.drew]|rfl) only [↓gsd,gs,gv,Nat.reduceAdd,Nat.reduceEqDiff]
      ·simp (maxSteps:=4000000)(disch:=first|assumption|(simp only[dz];first|done|assumption|omega)|omega|apply_rules[Fr.refl,Fr.alloc,Fr.drew]|rfl) only [↓gsd,gs,gv,Nat.reduceAdd,Nat.reduceEqDiff, h19, hv1]
      ·simp (maxSteps:=4000000)(disch:=first|assumption|(simp only[dz];first|done|assumption|omega)|omega|apply_rules[Fr.refl,Fr.alloc,Fr.drew]|rfl) only [↓gsd,gs,gv,Nat.reduceAdd,Nat.reduceEqDiff, h20]
      ·simp (maxSteps:=4000000)(disch:=first|assumption|(simp only[dz];first|done|assumption|omega)|omega|apply_rules[Fr.refl,Fr.alloc,Fr.drew]|rfl) only [↓gsd,gs,gv,Nat.reduceAdd,Nat.reduceEqDiff, h6]
      ·simp (maxSteps:=4000000)(disch:=first|assumption|(simp only[dz];first|done|assumption|omega)|omega|apply_rules[Fr.refl,Fr.alloc,Fr.drew]|rfl) only [↓gsd,gs,gv,Nat.reduceAdd,Nat.reduceEqDiff, h5]
      ·rw [List.map_append]; exact go_step hgo hl (by rw [hlo, hs]; rfl)
 ·have d : decide ((i : Int) < (ls.length : Int)) = false := decide_eq_false (by omega)
  have hi' : i = ls.length := by omega
  have hR := go_end (hi' ▸ hgo)
  rw [hR] at hK
  simp (maxSteps:=4000000)(disch:=first|assumption|(simp only[dz];first|done|assumption|omega)|omega|apply_rules[Fr.refl,Fr.alloc,Fr.drew]|rfl) only [↓gd,gp,Nat.reduceAdd,Nat.reduceEqDiff, ↓hk9, e19, e20, e21, e5, d]
  refine hK _ _ ⟨rows, rfl, ho.own, fun b hb => Nat.le_trans hf0.size (ho.ge b hb), ho.ws⟩ (hfK _ hf1)
end Go.Proofs.YtbbjnplellanaaaDoor
