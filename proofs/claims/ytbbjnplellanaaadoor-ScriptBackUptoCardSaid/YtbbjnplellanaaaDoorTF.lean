/- The reference's Parse. -/
import Derived.Test.YtbbjnplellanaaaDoorTE
set_option linter.unusedVariables false
set_option linter.unusedSimpArgs false
set_option maxRecDepth 10000
namespace Go.Proofs.YtbbjnplellanaaaDoor
open Go.VW
set_option maxHeartbeats 16000000 in
theorem rparse_spec {t : Bs} {w : World} {K : Value → World → Prop}
  (hK : ∀ v w', StepsOwn w.heap.size w' v (parseL t).1 → Fr [] w w' → K (.tuple #[v, .int .i64 (parseL t).2.1, .int .i64 (parseL t).2.2]) w') : CallsN Tryd.prog 10 [.string (B t)] w K := by
 have cw := cur w
 refine call10 ?_
 by_cases hbig : 65536 < t.length
 ·have d : decide ((65536 : Int) < (t.length : Int)) = true := decide_eq_true (by omega)
  have hp : parseL t = ([], 0, 2) := by unfold parseL; rw [if_pos hbig]
  rw [hp] at hK
  simp (maxSteps:=4000000)(disch:=first|assumption|(simp only[dz];first|done|assumption|omega)|omega|apply_rules[Fr.refl,Fr.alloc,Fr.drew]|rfl) only [↓gd,gp,Nat.reduceAdd,Nat.reduceEqDiff, ↓hk10, B_size, d]
  exact hK _ _ ⟨[], rfl, OutAt.nil⟩ (Fr.refl _ _)
 have d : decide ((65536 : Int) < (t.length : Int)) = false := decide_eq_false (by omega)
 simp (maxSteps:=4000000)(disch:=first|assumption|(simp only[dz];first|done|assumption|omega)|omega|apply_rules[Fr.refl,Fr.alloc,Fr.drew]|rfl) only [↓gd,gp,Nat.reduceAdd,Nat.reduceEqDiff, ↓hk10, B_size, d]
 refine rsplit_spec (b := 10) (by omega) fun lv wS hlv hf0 => ?_
 have cwS := cur wS
 have hlv := hlv.sl
 obtain ⟨ls, hls⟩ : ∃ ls, ls = splitL 10 t := ⟨_, rfl⟩
 rw [← hls] at hlv
 have hlen : ls.length ≤ 65537 := by rw [hls]; have := splitL_len 10 t; omega
 have hp : parseL t = parseGo ls 0 [] := by unfold parseL; rw [if_neg hbig, hls]
 rw [hp] at hK
 obtain ⟨la, lc, hlv0⟩ := hlv.form
 simp (maxSteps:=4000000)(disch:=first|assumption|(simp only[dz];first|done|assumption|omega)|omega|apply_rules[Fr.refl,Fr.alloc,Fr.drew]|rfl) only [↓gd,gp,Nat.reduceAdd,Nat.reduceEqDiff, ↓hk10]
 refine for_intro ls.length 7 0 (fun i e1 w' => ∃ (rows : List (Stp × SlV)) (ov : Value), e1 6 = lv ∧ e1 5 = ov ∧ OutAt wS.heap.size w' ov rows ∧ rows.length ≤ i ∧ parseGo (ls.drop i) i (rows.map Prod.fst) = parseGo ls 0 [] ∧ Fr [] wS w') ?_ (Nat.zero_le _) ?_ ?_
 ·simp (maxSteps:=4000000)(disch:=first|assumption|(simp only[dz];first|done|assumption|omega)|omega|apply_rules[Fr.refl,Fr.alloc,Fr.drew]|rfl) only [↓gsd,gs,gv,Nat.reduceAdd,Nat.reduceEqDiff]; rfl
 ·refine ⟨[], _, ?_, ?_, OutAt.nil, Nat.zero_le _, rfl, Fr.refl _ _⟩ <;> simp (maxSteps:=4000000)(disch:=first|assumption|(simp only[dz];first|done|assumption|omega)|omega|apply_rules[Fr.refl,Fr.alloc,Fr.drew]|rfl) only [↓gsd,gs,gv,Nat.reduceAdd,Nat.reduceEqDiff]
 rintro i e1 w1 kk hi e7 ⟨rows, ov, e6, e5, ho, hrl, hgo, hf1⟩ hkk
 have cw1 := cur w1
 have wr : IntKind.i64.wrap ((i : Int) + 1) = (i : Int) + 1 := wrap64 (by omega) (by omega)
 have hfK : ∀ w', Fr [] wS w' → Fr [] w w' := fun w' h => hf0.trans' h
 by_cases hil : i < ls.length
 ·have d : decide ((i : Int) < (ls.length : Int)) = true := decide_eq_true (by omega)
  obtain ⟨l, hl⟩ : ∃ l, ls[i]? = some l := ⟨ls[i], List.getElem?_eq_getElem hil⟩
  have hll : l.length ≤ 65536 := by
   have := splitL_mem 10 t l (hls ▸ List.mem_of_getElem? hl); omega
  obtain ⟨bb, off, cap, ob, hv1, hob1, hbl1, _, hcell⟩ := (hlv.frN hf1).read encB_len i l hl
  have hc0 := fun orig K => hcell 0 (.string (B l)) orig K rfl
  simp only [Nat.add_zero, Nat.mul_one] at hc0
  have i0 : (0 : Int) ≤ (i : Int) := by omega
  have i1 : (i : Int) < (ls.length : Int) := by omega
  simp (maxSteps:=4000000)(disch:=first|assumption|(simp only[dz];first|done|assumption|omega)|omega|apply_rules[Fr.refl,Fr.alloc,Fr.drew]|rfl) only [↓gd,gp,Nat.reduceAdd,Nat.reduceEqDiff, ↓hk10, e6, e7, hv1, d, i0, i1, Int.toNat_natCast, Nat.mul_one, hob1, hc0]
  refine rwords_spec hll fun wv w2 hwv hf2 => ?_
  have cw2 := cur w2
  have hf02 := hf1.trans' hf2
  obtain ⟨wa, wc, hwv0⟩ := hwv.form
  have hwl := wordsL_len l
  cases hw : wordsL l with
  | nil =>
    have hlo : lineO l = some none := by unfold lineO; rw [hw]
    rw [hw] at hwv0
    have dl : decide (((0 : Nat) : Int) = 0) = true := rfl
    simp (maxSteps:=4000000)(disch:=first|assumption|(simp only[dz];first|done|assumption|omega)|omega|apply_rules[Fr.refl,Fr.alloc,Fr.drew]|rfl) only [↓gd,gp,Nat.reduceAdd,Nat.reduceEqDiff, ↓hk10, hwv0, dl, e7, wr]
    refine hkk _ _ hil ?_ ⟨rows, ov, ?_, ?_, ho.fr hf2, by omega, go_skip hgo hl hlo, hf02⟩
    ·simp (maxSteps:=4000000)(disch:=first|assumption|(simp only[dz];first|done|assumption|omega)|omega|apply_rules[Fr.refl,Fr.alloc,Fr.drew]|rfl) only [↓gsd,gs,gv,Nat.reduceAdd,Nat.reduceEqDiff]
    ·simp (maxSteps:=4000000)(disch:=first|assumption|(simp only[dz];first|done|assumption|omega)|omega|apply_rules[Fr.refl,Fr.alloc,Fr.drew]|rfl) only [↓gsd,gs,gv,Nat.reduceAdd,Nat.reduceEqDiff, e6, hv1]
    ·simp (maxSteps:=4000000)(disch:=first|assumption|(simp only[dz];first|done|assumption|omega)|omega|apply_rules[Fr.refl,Fr.alloc,Fr.drew]|rfl) only [↓gsd,gs,gv,Nat.reduceAdd,Nat.reduceEqDiff, e5]
  | cons w0 r =>
    have hmem : ∀ x ∈ w0 :: r, x.length ≤ l.length ∧ x ≠ [] := fun x hx => wordsL_mem (hw ▸ hx)
    rw [hw] at hwv hwl hwv0
    obtain ⟨c, w0', hw0⟩ : ∃ c w0', w0 = c :: w0' := by
     cases w0 with
     | nil => exact absurd rfl (hmem [] (by simp)).2
     | cons c w0' => exact ⟨c, w0', rfl⟩
    obtain ⟨b2, off2, cap2, ob2, hv2, hob2, hbl2, _, hcell2⟩ := hwv.read encB_len 0 w0 rfl
    have hc2 := fun orig K => hcell2 0 (.string (B w0)) orig K rfl
    simp only [Nat.add_zero, Nat.zero_mul, Nat.mul_one] at hc2
    obtain ⟨L, hL⟩ : ∃ L, L = (w0 :: r).length := ⟨_, rfl⟩
    have hL1 : 0 < L := by rw [hL]; simp
    rw [← hL] at hv2
    have dl : decide ((L : Int) = 0) = false := decide_eq_false (by omega)
    have j1 : (0 : Int) < (L : Int) := by omega
    have hix := fun k w => ix9_0 (l := w0) (b := c) (by rw [hw0]; rfl) k w
    have hhd : w0.head? = some c := by rw [hw0]; rfl
    by_cases q : c = 35
    ·have dq : decide ((c.toNat : Int) = 35) = true := by rw [q]; rfl
     have hlo : lineO l = some none := by unfold lineO; rw [hw]; simp only; rw [if_pos (by rw [hhd, q])]
     simp (maxSteps:=4000000)(disch:=first|assumption|(simp only[dz];first|done|assumption|omega)|omega|apply_rules[Fr.refl,Fr.alloc,Fr.drew]|rfl) only [↓gd,gp,Nat.reduceAdd,Nat.reduceEqDiff, ↓hk10, hv2, dl, hob2, hc2, Int.le_refl, j1, Int.toNat_zero, Nat.zero_mul, Nat.add_zero, hix, dq, e7, wr]
     refine hkk _ _ hil ?_ ⟨rows, ov, ?_, ?_, ho.fr hf2, by omega, go_skip hgo hl hlo, hf02⟩
     ·simp (maxSteps:=4000000)(disch:=first|assumption|(simp only[dz];first|done|assumption|omega)|omega|apply_rules[Fr.refl,Fr.alloc,Fr.drew]|rfl) only [↓gsd,gs,gv,Nat.reduceAdd,Nat.reduceEqDiff]
     ·simp (maxSteps:=4000000)(disch:=first|assumption|(simp only[dz];first|done|assumption|omega)|omega|apply_rules[Fr.refl,Fr.alloc,Fr.drew]|rfl) only [↓gsd,gs,gv,Nat.reduceAdd,Nat.reduceEqDiff, e6, hv1]
     ·simp (maxSteps:=4000000)(disch:=first|assumption|(simp only[dz];first|done|assumption|omega)|omega|apply_rules[Fr.refl,Fr.alloc,Fr.drew]|rfl) only [↓gsd,gs,gv,Nat.reduceAdd,Nat.reduceEqDiff, e5]
    ·have dq : decide ((c.toNat : Int) = 35) = false := decide_eq_false (fun h => q (UInt8.toNat_inj.1 (by have : (35 : UInt8).toNat = 35 := rfl; omega)))
     have hlo : lineO l = (stepO (w0 :: r)).map some := by unfold lineO; rw [hw]; simp only; rw [if_neg (by rw [hhd]; simpa using q)]
     have hstep := @rstep_spec w0 r w2 wv (K := fun v w' => ∃ x ok, v = .tuple #[.agg (encStp x).toArray, .bool ok] ∧ Fr [] w2 w' ∧ ResS (stepO (w0 :: r)) x ok w') hwv (fun x hx => Nat.le_trans (hmem x (List.mem_cons_of_mem _ hx)).1 hll) (by simp only [List.length_cons] at hwl; omega) (fun x ok w' h1 h2 => ⟨x, ok, rfl, h1, h2⟩)
     rw [hv2] at hstep
     simp (maxSteps:=4000000)(disch:=first|assumption|(simp only[dz];first|done|assumption|omega)|omega|apply_rules[Fr.refl,Fr.alloc,Fr.drew]|rfl) only [↓gd,gp,Nat.reduceAdd,Nat.reduceEqDiff, ↓hk10, hv2, dl, hob2, hc2, Int.le_refl, j1, Int.toNat_zero, Nat.zero_mul, Nat.add_zero, hix, dq, e7]
     refine hstep.mono ?_
     rintro v w3 ⟨x, ok, rfl, hf3, hres⟩
     have cw3 := cur w3
     have hf03 := hf02.trans' hf3
     have ho2 := (ho.fr hf2).fr hf3
     rcases hres with ⟨hx, rfl, hxo⟩ | ⟨hx, rfl⟩
     ·have hsx := sl_new (e := 33) (w := w3.alloc (.cells (encStp x).toArray 33 (0, 0))) (encStp_len x)
      have hfx : Fr [] w3 ((w3.alloc (.cells (encStp x).toArray 33 (0, 0))).alloc (.cells (encStp x).toArray 33 (0, 0))) := ((Fr.refl _ _).alloc _).alloc _
      obtain ⟨v4, w4, hr4, hown4, hf4, hbk⟩ := ap23 (ty := 23) (Own.frN ho2.own hfx) hsx (by rfl) (by omega)
      have cw4 := cur w4
      obtain ⟨ao, co, hvo⟩ := ho2.own.sl.form
      rw [hvo] at hr4
      unfold encStp at hr4
      simp only [size_alloc] at hr4
      simp (maxSteps:=4000000)(disch:=first|assumption|(simp only[dz];first|done|assumption|omega)|omega|apply_rules[Fr.refl,Fr.alloc,Fr.drew]|rfl) only [↓gd,gp,Nat.reduceAdd,Nat.reduceEqDiff, ↓hk10, encStp, e5, e7, hvo, hr4, wr]
      refine hkk _ _ hil ?_ ⟨rows ++ [x], v4, ?_, ?_, ⟨?_, ?_, ?_⟩, by simp only [List.length_append, List.length_singleton]; omega, ?_, (hf03.trans' hfx).trans hf4 fun z hz => .inr (ho2.ge _ (mem_blkL hz))⟩
      ·simp (maxSteps:=4000000)(disch:=first|assumption|(simp only[dz];first|done|assumption|omega)|omega|apply_rules[Fr.refl,Fr.alloc,Fr.drew]|rfl) only [↓gsd,gs,gv,Nat.reduceAdd,Nat.reduceEqDiff]
      ·simp (maxSteps:=4000000)(disch:=first|assumption|(simp only[dz];first|done|assumption|omega)|omega|apply_rules[Fr.refl,Fr.alloc,Fr.drew]|rfl) only [↓gsd,gs,gv,Nat.reduceAdd,Nat.reduceEqDiff, e6, hv1]
      ·simp (maxSteps:=4000000)(disch:=first|assumption|(simp only[dz];first|done|assumption|omega)|omega|apply_rules[Fr.refl,Fr.alloc,Fr.drew]|rfl) only [↓gsd,gs,gv,Nat.reduceAdd,Nat.reduceEqDiff]
      ·rw [List.length_append, List.length_singleton, cellsOf_append, cellsOf_one]
       exact hown4
      ·exact own_fresh hbk ho2.ge (by simp only [size_alloc]; have := hf03.size; omega)
      ·intro z hz
       have hz4 : ∀ (y : Stp × SlV), Own 3 60 w3 (.slice y.2.1 y.2.2.1 y.2.2.2) y.1.ws.length (cellsOf encWr y.1.ws) → Own 3 60 w4 (.slice y.2.1 y.2.2.1 y.2.2.2) y.1.ws.length (cellsOf encWr y.1.ws) := fun y hy =>
        (Own.frN hy hfx).fr hf4 fun b hb hb' => own_ne (Own.frN hy hfx) (Own.frN ho2.own hfx) (by decide) b hb' (mem_blkL hb)
       rcases List.mem_append.1 hz with h | h
       ·exact hz4 z (ho2.ws z h)
       ·simp only [List.mem_singleton] at h; subst h; exact hz4 _ hxo
      ·rw [List.map_append]; exact go_step hgo hl (by rw [hlo, hx]; rfl)
     ·have hR := go_bad hgo hl (by rw [hlo, hx]; rfl)
      rw [hR] at hK
      simp (maxSteps:=4000000)(disch:=first|assumption|(simp only[dz];first|done|assumption|omega)|omega|apply_rules[Fr.refl,Fr.alloc,Fr.drew]|rfl) only [↓gd,gp,Nat.reduceAdd,Nat.reduceEqDiff, ↓hk10, encStp, e7, wr]
      exact hK _ _ ⟨[], rfl, OutAt.nil⟩ (hfK _ (hf03.alloc _))
 ·have d : decide ((i : Int) < (ls.length : Int)) = false := decide_eq_false (by omega)
  have hi' : i = ls.length := by omega
  have hR := go_end (hi' ▸ hgo)
  rw [hR] at hK
  simp (maxSteps:=4000000)(disch:=first|assumption|(simp only[dz];first|done|assumption|omega)|omega|apply_rules[Fr.refl,Fr.alloc,Fr.drew]|rfl) only [↓gd,gp,Nat.reduceAdd,Nat.reduceEqDiff, ↓hk10, e6, e7, hlv0, e5, d]
  refine hK _ _ ⟨rows, rfl, ho.own, fun b hb => Nat.le_trans hf0.size (ho.ge b hb), ho.ws⟩ (hfK _ hf1)
end Go.Proofs.YtbbjnplellanaaaDoor
