/- The reference's pieces, words, numbers and writes. The reference's words, numbers and writes. -/
import Derived.Test.YtbbjnplellanaaaDoorUB
import Derived.Test.YtbbjnplellanaaaDoorSK
set_option linter.unusedVariables false
set_option linter.unusedSimpArgs false
set_option maxRecDepth 10000
namespace Go.Proofs.YtbbjnplellanaaaDoor
open Go.VW
def seg (l : Bs) (a i : Nat) : Bs := (l.drop a).take (i - a)
theorem seg_on {l : Bs} {a i : Nat} {x : UInt8} (h : a ≤ i) (hx : l[i]? = some x) : seg l a (i + 1) = seg l a i ++ [x] := by
 unfold seg
 rw [show i + 1 - a = (i - a) + 1 by omega, List.take_add_one, List.getElem?_drop, show a + (i - a) = i by omega, hx]; rfl
theorem seg_self (l : Bs) (i : Nat) : seg l i i = [] := by simp [seg]
theorem seg_end (l : Bs) (a : Nat) : seg l a l.length = l.drop a := by unfold seg; exact List.take_of_length_le (by simp)
theorem cells_one (xs : List Bs) : (cellsOf encB xs).all oneC = true := by
 rw [cellsOf_encB]; simp [List.all_eq_true, oneC]
/-- A list of strings that is the call's own. -/
structure StrAt (C : Nat) (w : World) (v : Value) (xs : List Bs) : Prop where
 own : Own 1 9 w v xs.length (cellsOf encB xs)
 ge : ∀ b, v.ownBlock = some b → C ≤ b
theorem StrAt.nil {C : Nat} {w : World} : StrAt C w (.slice none 0 0) [] := ⟨Own.nil, fun b hb => by simp [Value.ownBlock] at hb⟩
theorem StrAt.fr {C : Nat} {w w' : World} {v : Value} {xs : List Bs} (h : StrAt C w v xs) (hf : Fr [] w w') : StrAt C w' v xs := ⟨Own.frN h.own hf, h.ge⟩
theorem StrAt.sl {C : Nat} {w : World} {v : Value} {xs : List Bs} (h : StrAt C w v xs) : SlOf 1 encB w v xs := h.own.sl
/-- One string more. -/
theorem str_app {W0 w : World} {a : Option Addr} {n c : Nat} {xs : List Bs} {x : Bs} (h : StrAt W0.heap.size w (.slice a n c) xs) (hf : Fr [] W0 w) (hl : xs.length ≤ 1000000) :
  ∃ v' w', (Builtin.append_ #[47, 47] 47 #[.slice a n c, .slice (some ⟨w.heap.size, 0, none⟩) 1 1]).run Tryd.prog (w.alloc (.cells ([.string (B x)] : List Value).toArray 9 (0, 0))) = .ok v' w' ∧ StrAt W0.heap.size w' v' (xs ++ [x]) ∧ Fr [] W0 w' := by
 have hsx := sl_new (e := 9) (w := w) (encB_len x)
 have hfx : Fr [] w (w.alloc (.cells (encB x).toArray 9 (0, 0))) := (Fr.refl _ _).alloc _
 obtain ⟨v4, w4, hr4, hown4, hf4, hbk⟩ := ap47 (ty := 47) (Own.frN h.own hfx) hsx (by rfl) (by omega)
 refine ⟨v4, w4, hr4, ⟨?_, ?_⟩, (hf.trans' hfx).trans hf4 fun z hz => .inr (h.ge _ (mem_blkL hz))⟩
 ·rw [List.length_append, List.length_singleton, cellsOf_append, cellsOf_one]; exact hown4
 ·exact own_fresh hbk h.ge (by simp only [size_alloc]; have := hf.size; omega)
set_option maxHeartbeats 8000000 in
theorem rsplit_spec {l : Bs} {b : UInt8} {w : World} {K : Value → World → Prop} (hl : l.length ≤ 65536)
  (hK : ∀ v w', StrAt w.heap.size w' v (splitL b l) → Fr [] w w' → K v w') : CallsN Tryd.prog 19 [.string (B l), .int .u8 b.toNat] w K := by
 have cw := cur w
 refine call19 ?_
 simp (maxSteps:=4000000)(disch:=first|assumption|(simp only[dz];first|done|assumption|omega)|omega|apply_rules[Fr.refl,Fr.alloc,Fr.drew]|rfl) only [↓gd,gp,Nat.reduceAdd,Nat.reduceEqDiff, ↓hk19]
 refine for_intro l.length 7 0 (fun i e w' => ∃ (a : Nat) (outs : List Bs) (ov : Value), e 0 = .string (B l) ∧ e 1 = .int .u8 b.toNat ∧ e 5 = ov ∧ e 6 = .int .i64 a ∧ a ≤ i ∧ StrAt w.heap.size w' ov outs ∧ outs.length ≤ i ∧ splitL b l = outs ++ preH (seg l a i) (splitL b (l.drop i)) ∧ Fr [] w w') ?_ (Nat.zero_le _) ?_ ?_
 ·simp (maxSteps:=4000000)(disch:=first|assumption|(simp only[dz];first|done|assumption|omega)|omega|apply_rules[Fr.refl,Fr.alloc,Fr.drew]|rfl) only [↓gsd,gs,gv,Nat.reduceAdd,Nat.reduceEqDiff]; rfl
 ·refine ⟨0, [], _, ?_, ?_, ?_, ?_, Nat.le_refl _, StrAt.nil, Nat.le_refl _, ?_, Fr.refl _ _⟩
  ·simp (maxSteps:=4000000)(disch:=first|assumption|(simp only[dz];first|done|assumption|omega)|omega|apply_rules[Fr.refl,Fr.alloc,Fr.drew]|rfl) only [↓gsd,gs,gv,Nat.reduceAdd,Nat.reduceEqDiff]
  ·simp (maxSteps:=4000000)(disch:=first|assumption|(simp only[dz];first|done|assumption|omega)|omega|apply_rules[Fr.refl,Fr.alloc,Fr.drew]|rfl) only [↓gsd,gs,gv,Nat.reduceAdd,Nat.reduceEqDiff]
  ·simp (maxSteps:=4000000)(disch:=first|assumption|(simp only[dz];first|done|assumption|omega)|omega|apply_rules[Fr.refl,Fr.alloc,Fr.drew]|rfl) only [↓gsd,gs,gv,Nat.reduceAdd,Nat.reduceEqDiff]
  ·simp (maxSteps:=4000000)(disch:=first|assumption|(simp only[dz];first|done|assumption|omega)|omega|apply_rules[Fr.refl,Fr.alloc,Fr.drew]|rfl) only [↓gsd,gs,gv,Nat.reduceAdd,Nat.reduceEqDiff]; rfl
  ·rw [seg_self, preH_nil (splitL_ne _ _)]; rfl
 rintro i e w1 kk hi e7 ⟨a, outs, ov, e0, e1, e5, e6, hai, ho, hol, hsp, hf⟩ hkk
 have cw1 := cur w1
 have wr : IntKind.i64.wrap ((i : Int) + 1) = (i : Int) + 1 := wrap64 (by omega) (by omega)
 obtain ⟨oa, oc, hov⟩ := ho.own.sl.form
 by_cases hil : i < l.length
 ·have d : decide ((i : Int) < (l.length : Int)) = true := decide_eq_true (by omega)
  obtain ⟨x, hx⟩ : ∃ x, l[i]? = some x := ⟨l[i], List.getElem?_eq_getElem hil⟩
  have hix := fun k w => ix9 hx k w
  by_cases q : x = b
  ·have dq : decide ((x.toNat : Int) = (b.toNat : Int)) = true := by rw [q]; simp
   rw [hov] at ho
   obtain ⟨v4, w4, hr4, ho4, hf4⟩ := str_app (x := seg l a i) ho hf (by omega)
   have cw4 := cur w4
   have hsl := fun k k' w => sl9 l hai (Nat.le_of_lt hil) k k' w
   simp (maxSteps:=4000000)(disch:=first|assumption|(simp only[dz];first|done|assumption|omega)|omega|apply_rules[Fr.refl,Fr.alloc,Fr.drew]|rfl) only [↓gd,gp,Nat.reduceAdd,Nat.reduceEqDiff, ↓hk19, e0, e1, e5, e6, e7, B_size, d, hix, dq, hov, hsl]
   unfold seg at hr4
   simp (maxSteps:=4000000)(disch:=first|assumption|(simp only[dz];first|done|assumption|omega)|omega|apply_rules[Fr.refl,Fr.alloc,Fr.drew]|rfl) only [↓gd,gp,Nat.reduceAdd,Nat.reduceEqDiff, ↓hk19, e7, hr4, wr]
   refine hkk _ _ hil ?_ ⟨i + 1, outs ++ [seg l a i], v4, ?_, ?_, ?_, ?_, Nat.le_refl _, ho4, by simp; omega, ?_, hf4⟩
   ·simp (maxSteps:=4000000)(disch:=first|assumption|(simp only[dz];first|done|assumption|omega)|omega|apply_rules[Fr.refl,Fr.alloc,Fr.drew]|rfl) only [↓gsd,gs,gv,Nat.reduceAdd,Nat.reduceEqDiff]
   ·simp (maxSteps:=4000000)(disch:=first|assumption|(simp only[dz];first|done|assumption|omega)|omega|apply_rules[Fr.refl,Fr.alloc,Fr.drew]|rfl) only [↓gsd,gs,gv,Nat.reduceAdd,Nat.reduceEqDiff, e0]
   ·simp (maxSteps:=4000000)(disch:=first|assumption|(simp only[dz];first|done|assumption|omega)|omega|apply_rules[Fr.refl,Fr.alloc,Fr.drew]|rfl) only [↓gsd,gs,gv,Nat.reduceAdd,Nat.reduceEqDiff, e1]
   ·simp (maxSteps:=4000000)(disch:=first|assumption|(simp only[dz];first|done|assumption|omega)|omega|apply_rules[Fr.refl,Fr.alloc,Fr.drew]|rfl) only [↓gsd,gs,gv,Nat.reduceAdd,Nat.reduceEqDiff]
   ·simp (maxSteps:=4000000)(disch:=first|assumption|(simp only[dz];first|done|assumption|omega)|omega|apply_rules[Fr.refl,Fr.alloc,Fr.drew]|rfl) only [↓gsd,gs,gv,Nat.reduceAdd,Nat.reduceEqDiff]; rfl
   ·rw [seg_self]; exact split_end hsp (q ▸ hx)
  ·have dq : decide ((x.toNat : Int) = (b.toNat : Int)) = false := decide_eq_false (fun h => q (UInt8.toNat_inj.1 (by omega)))
   simp (maxSteps:=4000000)(disch:=first|assumption|(simp only[dz];first|done|assumption|omega)|omega|apply_rules[Fr.refl,Fr.alloc,Fr.drew]|rfl) only [↓gd,gp,Nat.reduceAdd,Nat.reduceEqDiff, ↓hk19, e0, e1, e5, e6, e7, B_size, d, hix, dq, wr]
   refine hkk _ _ hil ?_ ⟨a, outs, ov, ?_, ?_, ?_, ?_, by omega, ho, by omega, ?_, hf⟩
   ·simp (maxSteps:=4000000)(disch:=first|assumption|(simp only[dz];first|done|assumption|omega)|omega|apply_rules[Fr.refl,Fr.alloc,Fr.drew]|rfl) only [↓gsd,gs,gv,Nat.reduceAdd,Nat.reduceEqDiff]
   ·simp (maxSteps:=4000000)(disch:=first|assumption|(simp only[dz];first|done|assumption|omega)|omega|apply_rules[Fr.refl,Fr.alloc,Fr.drew]|rfl) only [↓gsd,gs,gv,Nat.reduceAdd,Nat.reduceEqDiff, e0]
   ·simp (maxSteps:=4000000)(disch:=first|assumption|(simp only[dz];first|done|assumption|omega)|omega|apply_rules[Fr.refl,Fr.alloc,Fr.drew]|rfl) only [↓gsd,gs,gv,Nat.reduceAdd,Nat.reduceEqDiff, e1]
   ·simp (maxSteps:=4000000)(disch:=first|assumption|(simp only[dz];first|done|assumption|omega)|omega|apply_rules[Fr.refl,Fr.alloc,Fr.drew]|rfl) only [↓gsd,gs,gv,Nat.reduceAdd,Nat.reduceEqDiff, e5]
   ·simp (maxSteps:=4000000)(disch:=first|assumption|(simp only[dz];first|done|assumption|omega)|omega|apply_rules[Fr.refl,Fr.alloc,Fr.drew]|rfl) only [↓gsd,gs,gv,Nat.reduceAdd,Nat.reduceEqDiff, e6]
   ·rw [seg_on hai hx]; exact split_on hsp hx q
 ·have d : decide ((i : Int) < (l.length : Int)) = false := decide_eq_false (by omega)
  have hi' : i = l.length := by omega
  subst hi'
  rw [List.drop_length] at hsp
  rw [hov] at ho
  obtain ⟨v4, w4, hr4, ho4, hf4⟩ := str_app (x := l.drop a) ho hf (by omega)
  have cw4 := cur w4
  have hsl := fun k' w => sl9l l (i := a) (by omega) k' w
  simp (maxSteps:=4000000)(disch:=first|assumption|(simp only[dz];first|done|assumption|omega)|omega|apply_rules[Fr.refl,Fr.alloc,Fr.drew]|rfl) only [↓gd,gp,Nat.reduceAdd,Nat.reduceEqDiff, ↓hk19, e0, e1, e5, e6, e7, B_size, d, hov, hsl, hr4]
  refine hK _ _ ?_ hf4
  rw [hsp, seg_end]
  simpa [splitL, preH] using ho4
end Go.Proofs.YtbbjnplellanaaaDoor
namespace Go.Proofs.YtbbjnplellanaaaDoor
open Go.VW
theorem nonE_take {ls : List Bs} {i : Nat} {x : Bs} (hx : ls[i]? = some x) : nonE (ls.take (i + 1)) = nonE (ls.take i) ++ if x = [] then [] else [x] := by
 rw [List.take_add_one, hx]
 unfold nonE
 rw [List.filter_append]
 cases x <;> simp
set_option maxHeartbeats 8000000 in
theorem rwords_spec {l : Bs} {w : World} {K : Value → World → Prop} (hl : l.length ≤ 65536)
  (hK : ∀ v w', SlOf 1 encB w' v (wordsL l) → Fr [] w w' → K v w') : CallsN Tryd.prog 20 [.string (B l)] w K := by
 have cw := cur w
 refine call20 ?_
 simp (maxSteps:=4000000)(disch:=first|assumption|(simp only[dz];first|done|assumption|omega)|omega|apply_rules[Fr.refl,Fr.alloc,Fr.drew]|rfl) only [↓gd,gp,Nat.reduceAdd,Nat.reduceEqDiff, ↓hk20]
 refine rsplit_spec (b := 32) hl fun lv wS hlv hfS => ?_
 have cwS := cur wS
 obtain ⟨ls, hls⟩ : ∃ ls, ls = splitL 32 l := ⟨_, rfl⟩
 rw [← hls] at hlv
 have hlen : ls.length ≤ 65537 := by rw [hls]; have := splitL_len 32 l; omega
 have hwl : wordsL l = nonE ls := by rw [hls]; rfl
 have hlv := hlv.sl
 obtain ⟨la, lc, hlv0⟩ := hlv.form
 simp (maxSteps:=4000000)(disch:=first|assumption|(simp only[dz];first|done|assumption|omega)|omega|apply_rules[Fr.refl,Fr.alloc,Fr.drew]|rfl) only [↓gd,gp,Nat.reduceAdd,Nat.reduceEqDiff, ↓hk20]
 refine for_intro ls.length 5 0 (fun i e w' => ∃ (ov : Value), e 4 = lv ∧ e 3 = ov ∧ StrAt wS.heap.size w' ov (nonE (ls.take i)) ∧ Fr [] wS w') ?_ (Nat.zero_le _) ?_ ?_
 ·simp (maxSteps:=4000000)(disch:=first|assumption|(simp only[dz];first|done|assumption|omega)|omega|apply_rules[Fr.refl,Fr.alloc,Fr.drew]|rfl) only [↓gsd,gs,gv,Nat.reduceAdd,Nat.reduceEqDiff]; rfl
 ·refine ⟨.slice none 0 0, ?_, ?_, StrAt.nil, Fr.refl _ _⟩
  ·simp (maxSteps:=4000000)(disch:=first|assumption|(simp only[dz];first|done|assumption|omega)|omega|apply_rules[Fr.refl,Fr.alloc,Fr.drew]|rfl) only [↓gsd,gs,gv,Nat.reduceAdd,Nat.reduceEqDiff]
  ·simp (maxSteps:=4000000)(disch:=first|assumption|(simp only[dz];first|done|assumption|omega)|omega|apply_rules[Fr.refl,Fr.alloc,Fr.drew]|rfl) only [↓gsd,gs,gv,Nat.reduceAdd,Nat.reduceEqDiff]
 rintro i e w1 kk hi e5 ⟨ov, e4, e3, ho, hf⟩ hkk
 have cw1 := cur w1
 have hf0 := hfS.trans' hf
 have wr : IntKind.i64.wrap ((i : Int) + 1) = (i : Int) + 1 := wrap64 (by omega) (by omega)
 obtain ⟨oa, oc, hov⟩ := ho.own.sl.form
 by_cases hil : i < ls.length
 ·have d : decide ((i : Int) < (ls.length : Int)) = true := decide_eq_true (by omega)
  obtain ⟨x, hx⟩ : ∃ x, ls[i]? = some x := ⟨ls[i], List.getElem?_eq_getElem hil⟩
  obtain ⟨bb, off, cap, ob, hv1, hob1, hbl1, _, hcell⟩ := (hlv.frN hf).read encB_len i x hx
  have hc0 := fun orig K => hcell 0 (.string (B x)) orig K rfl
  simp only [Nat.add_zero, Nat.mul_one] at hc0
  have i0 : (0 : Int) ≤ (i : Int) := by omega
  have i1 : (i : Int) < (ls.length : Int) := by omega
  have htk := nonE_take hx
  by_cases q : x = []
  ·have dq : decide (B x = ⟨#[]⟩) = true := by rw [q]; rfl
   rw [if_pos q, List.append_nil] at htk
   simp (maxSteps:=4000000)(disch:=first|assumption|(simp only[dz];first|done|assumption|omega)|omega|apply_rules[Fr.refl,Fr.alloc,Fr.drew]|rfl) only [↓gd,gp,Nat.reduceAdd,Nat.reduceEqDiff, ↓hk20, e4, e5, hv1, d, i0, i1, Int.toNat_natCast, Nat.mul_one, hob1, hc0, dq, wr]
   refine hkk _ _ hil ?_ ⟨ov, ?_, ?_, htk ▸ ho, hf⟩
   ·simp (maxSteps:=4000000)(disch:=first|assumption|(simp only[dz];first|done|assumption|omega)|omega|apply_rules[Fr.refl,Fr.alloc,Fr.drew]|rfl) only [↓gsd,gs,gv,Nat.reduceAdd,Nat.reduceEqDiff]
   ·simp (maxSteps:=4000000)(disch:=first|assumption|(simp only[dz];first|done|assumption|omega)|omega|apply_rules[Fr.refl,Fr.alloc,Fr.drew]|rfl) only [↓gsd,gs,gv,Nat.reduceAdd,Nat.reduceEqDiff, e4, hv1]
   ·simp (maxSteps:=4000000)(disch:=first|assumption|(simp only[dz];first|done|assumption|omega)|omega|apply_rules[Fr.refl,Fr.alloc,Fr.drew]|rfl) only [↓gsd,gs,gv,Nat.reduceAdd,Nat.reduceEqDiff, e3]
  ·have dq : decide (B x = ⟨#[]⟩) = false := decide_eq_false (by rw [B_lit]; exact q)
   rw [if_neg q] at htk
   rw [hov] at ho
   obtain ⟨v4, w4, hr4, ho4, hf4⟩ := str_app (x := x) ho hf (by have := List.length_filter_le (fun x : Bs => !x.isEmpty) (ls.take i); unfold nonE; rw [List.length_take] at this; omega)
   have cw4 := cur w4
   simp (maxSteps:=4000000)(disch:=first|assumption|(simp only[dz];first|done|assumption|omega)|omega|apply_rules[Fr.refl,Fr.alloc,Fr.drew]|rfl) only [↓gd,gp,Nat.reduceAdd,Nat.reduceEqDiff, ↓hk20, e3, e4, e5, hv1, d, i0, i1, Int.toNat_natCast, Nat.mul_one, hob1, hc0, dq, wr, hov, hr4]
   refine hkk _ _ hil ?_ ⟨v4, ?_, ?_, htk ▸ ho4, hf4⟩
   ·simp (maxSteps:=4000000)(disch:=first|assumption|(simp only[dz];first|done|assumption|omega)|omega|apply_rules[Fr.refl,Fr.alloc,Fr.drew]|rfl) only [↓gsd,gs,gv,Nat.reduceAdd,Nat.reduceEqDiff]
   ·simp (maxSteps:=4000000)(disch:=first|assumption|(simp only[dz];first|done|assumption|omega)|omega|apply_rules[Fr.refl,Fr.alloc,Fr.drew]|rfl) only [↓gsd,gs,gv,Nat.reduceAdd,Nat.reduceEqDiff, e4, hv1]
   ·simp (maxSteps:=4000000)(disch:=first|assumption|(simp only[dz];first|done|assumption|omega)|omega|apply_rules[Fr.refl,Fr.alloc,Fr.drew]|rfl) only [↓gsd,gs,gv,Nat.reduceAdd,Nat.reduceEqDiff]
 ·have d : decide ((i : Int) < (ls.length : Int)) = false := decide_eq_false (by omega)
  rw [List.take_of_length_le (by omega), ← hwl] at ho
  simp (maxSteps:=4000000)(disch:=first|assumption|(simp only[dz];first|done|assumption|omega)|omega|apply_rules[Fr.refl,Fr.alloc,Fr.drew]|rfl) only [↓gd,gp,Nat.reduceAdd,Nat.reduceEqDiff, ↓hk20, e3, e4, e5, hlv0, d]
  exact hK _ _ ho.sl hf0
set_option maxHeartbeats 8000000 in
theorem rnumber_spec {l : Bs} {w : World} {K : Value → World → Prop} (hK : K (numRes l) w) : CallsN Tryd.prog 39 [.string (B l)] w K := by
 have cw := cur w
 refine call39 ?_
 have bad : numBad l = true → K (.tuple #[.int .i64 0, .bool false]) w := fun hb => by
  unfold numRes numO at hK; rw [if_pos hb] at hK; exact hK
 by_cases q1 : l.length < 1
 ·have d1 : decide ((l.length : Int) < 1) = true := decide_eq_true (by omega)
  simp (maxSteps:=4000000)(disch:=first|assumption|(simp only[dz];first|done|assumption|omega)|omega|apply_rules[Fr.refl,Fr.alloc,Fr.drew]|rfl) only [↓gd,gp,Nat.reduceAdd,Nat.reduceEqDiff, ↓hk39, B_size, d1]
  exact bad (by unfold numBad; rw [decide_eq_true q1]; rfl)
 have d1 : decide ((l.length : Int) < 1) = false := decide_eq_false (by omega)
 have d1' : decide (l.length < 1) = false := decide_eq_false q1
 obtain ⟨c, r, hl⟩ : ∃ c r, l = c :: r := by
  cases l with
  | nil => simp at q1
  | cons c r => exact ⟨c, r, rfl⟩
 have h0 : l[0]? = some c := by rw [hl]; rfl
 have hh : l.head? = some c := by rw [hl]; rfl
 by_cases q2 : 9 < l.length
 ·have d2 : decide ((9 : Int) < (l.length : Int)) = true := decide_eq_true (by omega)
  simp (maxSteps:=4000000)(disch:=first|assumption|(simp only[dz];first|done|assumption|omega)|omega|apply_rules[Fr.refl,Fr.alloc,Fr.drew]|rfl) only [↓gd,gp,Nat.reduceAdd,Nat.reduceEqDiff, ↓hk39, B_size, d1, d2]
  exact bad (by unfold numBad; rw [decide_eq_true q2]; simp)
 have d2 : decide ((9 : Int) < (l.length : Int)) = false := decide_eq_false (by omega)
 have d2' : decide (9 < l.length) = false := decide_eq_false q2
 have go : numBad l = false → ∀ e : Env, e 0 = .string (B l) → W3 Tryd.prog 49 V39 c39_2 (retQ Tryd.prog [.tmp 2, .tmp 3] K) e w := by
  intro hb e e0
  have hnum : numO l = numGo l 0 := by unfold numO; rw [hb]; rfl
  unfold numRes at hK
  rw [hnum] at hK
  simp (maxSteps:=4000000)(disch:=first|assumption|(simp only[dz];first|done|assumption|omega)|omega|apply_rules[Fr.refl,Fr.alloc,Fr.drew]|rfl) only [↓gd,gp,Nat.reduceAdd,Nat.reduceEqDiff, ↓hk39]
  refine for_intro l.length 5 0 (fun i e w' => ∃ n : Int, e 0 = .string (B l) ∧ e 4 = .int .i64 n ∧ 0 ≤ n ∧ n + 1 ≤ 10 ^ i ∧ numGo l 0 = numGo (l.drop i) n ∧ w' = w) ?_ (Nat.zero_le _) ?_ ?_
  ·simp (maxSteps:=4000000)(disch:=first|assumption|(simp only[dz];first|done|assumption|omega)|omega|apply_rules[Fr.refl,Fr.alloc,Fr.drew]|rfl) only [↓gsd,gs,gv,Nat.reduceAdd,Nat.reduceEqDiff]; rfl
  ·refine ⟨0, ?_, ?_, by omega, by decide, rfl, rfl⟩
   ·simp (maxSteps:=4000000)(disch:=first|assumption|(simp only[dz];first|done|assumption|omega)|omega|apply_rules[Fr.refl,Fr.alloc,Fr.drew]|rfl) only [↓gsd,gs,gv,Nat.reduceAdd,Nat.reduceEqDiff, e0]
   ·simp (maxSteps:=4000000)(disch:=first|assumption|(simp only[dz];first|done|assumption|omega)|omega|apply_rules[Fr.refl,Fr.alloc,Fr.drew]|rfl) only [↓gsd,gs,gv,Nat.reduceAdd,Nat.reduceEqDiff]
  rintro i e w1 kk hi e5 ⟨n, e0, e4, hn0, hn1, hg, rfl⟩ hkk
  have wr : IntKind.i64.wrap ((i : Int) + 1) = (i : Int) + 1 := wrap64 (by omega) (by omega)
  by_cases hil : i < l.length
  ·have d : decide ((i : Int) < (l.length : Int)) = true := decide_eq_true (by omega)
   obtain ⟨c, hc⟩ : ∃ c, l[i]? = some c := ⟨l[i], List.getElem?_eq_getElem hil⟩
   have hix := fun k w => ix9 hc k w
   have hp9 := pow_le9 (show i ≤ 9 by omega)
   have hc256 : c.toNat < 256 := UInt8.toNat_lt _
   by_cases q1 : c.toNat < 48
   ·have d1 : decide ((c.toNat : Int) < 48) = true := decide_eq_true (by omega)
    simp (maxSteps:=4000000)(disch:=first|assumption|(simp only[dz];first|done|assumption|omega)|omega|apply_rules[Fr.refl,Fr.alloc,Fr.drew]|rfl) only [↓gd,gp,Nat.reduceAdd,Nat.reduceEqDiff, ↓hk39, e0, e4, e5, B_size, d, hix, d1]
    rw [num_stop hg hc (.inl q1)] at hK
    exact hK
   ·have d1 : decide ((c.toNat : Int) < 48) = false := decide_eq_false (by omega)
    by_cases q2 : 57 < c.toNat
    ·have d2 : decide ((57 : Int) < (c.toNat : Int)) = true := decide_eq_true (by omega)
     simp (maxSteps:=4000000)(disch:=first|assumption|(simp only[dz];first|done|assumption|omega)|omega|apply_rules[Fr.refl,Fr.alloc,Fr.drew]|rfl) only [↓gd,gp,Nat.reduceAdd,Nat.reduceEqDiff, ↓hk39, e0, e4, e5, B_size, d, hix, d1, d2]
     rw [num_stop hg hc (.inr q2)] at hK
     exact hK
    ·have d2 : decide ((57 : Int) < (c.toNat : Int)) = false := decide_eq_false (by omega)
     have w1' : IntKind.i64.wrap (c.toNat : Int) = (c.toNat : Int) := wrap64 (by omega) (by omega)
     have w3' : IntKind.i64.wrap (n * 10) = n * 10 := wrap64 (by omega) (by omega)
     have w4' : IntKind.i64.wrap (n * 10 + (c.toNat : Int)) = n * 10 + (c.toNat : Int) := wrap64 (by omega) (by omega)
     have w5' : IntKind.i64.wrap (n * 10 + (c.toNat : Int) - 48) = 10 * n + ((c.toNat : Int) - 48) := by rw [wrap64 (by omega) (by omega)]; omega
     obtain ⟨b0, b1⟩ := num_bd hn0 hn1 (d := (c.toNat : Int) - 48) (by omega) (by omega)
     simp (maxSteps:=4000000)(disch:=first|assumption|(simp only[dz];first|done|assumption|omega)|omega|apply_rules[Fr.refl,Fr.alloc,Fr.drew]|rfl) only [↓gd,gp,Nat.reduceAdd,Nat.reduceEqDiff, ↓hk39, e0, e4, e5, B_size, d, hix, d1, d2, run_mul, w1', w3', w4', w5', wr]
     refine hkk _ _ hil ?_ ⟨10 * n + ((c.toNat : Int) - 48), ?_, ?_, b0, b1, num_step hg hc (by omega) (by omega), rfl⟩
     ·simp (maxSteps:=4000000)(disch:=first|assumption|(simp only[dz];first|done|assumption|omega)|omega|apply_rules[Fr.refl,Fr.alloc,Fr.drew]|rfl) only [↓gsd,gs,gv,Nat.reduceAdd,Nat.reduceEqDiff]
     ·simp (maxSteps:=4000000)(disch:=first|assumption|(simp only[dz];first|done|assumption|omega)|omega|apply_rules[Fr.refl,Fr.alloc,Fr.drew]|rfl) only [↓gsd,gs,gv,Nat.reduceAdd,Nat.reduceEqDiff, e0]
     ·simp (maxSteps:=4000000)(disch:=first|assumption|(simp only[dz];first|done|assumption|omega)|omega|apply_rules[Fr.refl,Fr.alloc,Fr.drew]|rfl) only [↓gsd,gs,gv,Nat.reduceAdd,Nat.reduceEqDiff]
  ·have d : decide ((i : Int) < (l.length : Int)) = false := decide_eq_false (by omega)
   have hi' : i = l.length := by omega
   simp (maxSteps:=4000000)(disch:=first|assumption|(simp only[dz];first|done|assumption|omega)|omega|apply_rules[Fr.refl,Fr.alloc,Fr.drew]|rfl) only [↓gd,gp,Nat.reduceAdd,Nat.reduceEqDiff, ↓hk39, e0, e4, e5, B_size, d]
   rw [num_end (hi' ▸ hg)] at hK
   exact hK
 by_cases q4 : 1 < l.length
 ·have d4 : decide ((1 : Int) < (l.length : Int)) = true := decide_eq_true (by omega)
  by_cases q3 : c = 48
  ·have d3 : decide ((c.toNat : Int) = 48) = true := by rw [q3]; rfl
   simp (maxSteps:=4000000)(disch:=first|assumption|(simp only[dz];first|done|assumption|omega)|omega|apply_rules[Fr.refl,Fr.alloc,Fr.drew]|rfl) only [↓gd,gp,Nat.reduceAdd,Nat.reduceEqDiff, ↓hk39, B_size, d1, d2, ix9_0 h0, d3, d4]
   exact bad (by unfold numBad; rw [hh, q3, decide_eq_true q4]; simp)
  ·have d3 : decide ((c.toNat : Int) = 48) = false := decide_eq_false (fun h => q3 (UInt8.toNat_inj.1 (by have : (48 : UInt8).toNat = 48 := rfl; omega)))
   simp (maxSteps:=4000000)(disch:=first|assumption|(simp only[dz];first|done|assumption|omega)|omega|apply_rules[Fr.refl,Fr.alloc,Fr.drew]|rfl) only [↓gd,gp,Nat.reduceAdd,Nat.reduceEqDiff, ↓c39_4_s, ↓c39_10_s, ↓c39_13_s, ↓c39_16_s, ↓c39_15_s, ↓c39_14_s, ↓c39_12_s, ↓c39_11_s, ↓c39_9_s, ↓c39_18_s, ↓c39_17_s, ↓c39_8_s, ↓c39_7_s, ↓c39_6_s, ↓c39_5_s, ↓c39_3_s, ↓c39_21_s, ↓c39_20_s, ↓c39_19_s, ↓c39_1_s, ↓c39_s, ↓w3t_39, B_size, d1, d2, ix9_0 h0, d3, d4]
   exact go (by unfold numBad; rw [d1', d2', hh]; simp [q3]) _ rfl
 ·have d4 : decide ((1 : Int) < (l.length : Int)) = false := decide_eq_false (by omega)
  simp (maxSteps:=4000000)(disch:=first|assumption|(simp only[dz];first|done|assumption|omega)|omega|apply_rules[Fr.refl,Fr.alloc,Fr.drew]|rfl) only [↓gd,gp,Nat.reduceAdd,Nat.reduceEqDiff, ↓c39_4_s, ↓c39_10_s, ↓c39_13_s, ↓c39_16_s, ↓c39_15_s, ↓c39_14_s, ↓c39_12_s, ↓c39_11_s, ↓c39_9_s, ↓c39_18_s, ↓c39_17_s, ↓c39_8_s, ↓c39_7_s, ↓c39_6_s, ↓c39_5_s, ↓c39_3_s, ↓c39_21_s, ↓c39_20_s, ↓c39_19_s, ↓c39_1_s, ↓c39_s, ↓w3t_39, B_size, d1, d2, ix9_0 h0, d4]
  exact go (by unfold numBad; rw [d1', d2', decide_eq_false q4]; rfl) _ rfl
set_option maxHeartbeats 8000000 in
theorem rwrite_spec {l : Bs} {w : World} {K : Value → World → Prop} (hl : l.length ≤ 65536)
  (hK : ∀ y ok w', Fr [] w w' → ResW (writeO l) y ok → K (.tuple #[.agg (encWr y).toArray, .bool ok]) w') : CallsN Tryd.prog 40 [.string (B l)] w K := by
 have cw := cur w
 refine call40 ?_
 have e0 : (⟨#[]⟩ : ByteArray) = B [] := rfl
 simp (maxSteps:=4000000)(disch:=first|assumption|(simp only[dz];first|done|assumption|omega)|omega|apply_rules[Fr.refl,Fr.alloc,Fr.drew]|rfl) only [↓gd,gp,Nat.reduceAdd,Nat.reduceEqDiff, ↓hk40]
 obtain ⟨w0, hw0⟩ : ∃ w0, w0 = w.alloc (.cells ([.string ⟨#[]⟩, .bool false, .string ⟨#[]⟩] : List Value).toArray 60 (0, 0)) := ⟨_, rfl⟩
 have hg0 : w0.heap[w.heap.size]? = some (.cells ([.string ⟨#[]⟩, .bool false, .string ⟨#[]⟩] : List Value).toArray 60 (0, 0)) := by rw [hw0]; exact get_alloc_new _ _
 have hgl := lt_of_get _ _ hg0
 have hf0 : Fr [] w w0 := by rw [hw0]; exact (Fr.refl _ _).alloc _
 rw [← hw0]
 refine for_intro l.length 4 0 (fun i e w' => e 0 = .string (B l) ∧ e 2 = .pointer (some ⟨w.heap.size, 0, none⟩) ∧ eqAt l = (eqAt (l.drop i)).map (· + i) ∧ w' = w0) ?_ (Nat.zero_le _) ?_ ?_
 ·simp (maxSteps:=4000000)(disch:=first|assumption|(simp only[dz];first|done|assumption|omega)|omega|apply_rules[Fr.refl,Fr.alloc,Fr.drew]|rfl) only [↓gsd,gs,gv,Nat.reduceAdd,Nat.reduceEqDiff]; rfl
 ·refine ⟨?_, ?_, ?_, rfl⟩
  ·simp (maxSteps:=4000000)(disch:=first|assumption|(simp only[dz];first|done|assumption|omega)|omega|apply_rules[Fr.refl,Fr.alloc,Fr.drew]|rfl) only [↓gsd,gs,gv,Nat.reduceAdd,Nat.reduceEqDiff]
  ·simp (maxSteps:=4000000)(disch:=first|assumption|(simp only[dz];first|done|assumption|omega)|omega|apply_rules[Fr.refl,Fr.alloc,Fr.drew]|rfl) only [↓gsd,gs,gv,Nat.reduceAdd,Nat.reduceEqDiff]
  ·simp
 rintro i e w1 kk hi e4 ⟨e0', e2, hq, rfl⟩ hkk
 have cw1 := cur w1
 have wr : IntKind.i64.wrap ((i : Int) + 1) = (i : Int) + 1 := wrap64 (by omega) (by omega)
 unfold writeO at hK
 by_cases hil : i < l.length
 ·have d : decide ((i : Int) < (l.length : Int)) = true := decide_eq_true (by omega)
  obtain ⟨x, hx⟩ : ∃ x, l[i]? = some x := ⟨l[i], List.getElem?_eq_getElem hil⟩
  have hix := fun k w => ix9 hx k w
  by_cases q : x = 61
  ·have dq : decide ((x.toNat : Int) = 61) = true := by rw [q]; rfl
   rw [eqAt_hit hq (q ▸ hx)] at hK
   simp only at hK
   have di : decide ((0 : Int) < (i : Int)) = decide (0 < i) := by by_cases h : 0 < i <;> simp [h]
   have hs1 := fun M w0 k' K => @tsl9h M w0 l i (by omega) k' K
   have hs2 := fun M w0 k' K => @tsl9l M w0 l (i + 1) (by omega) k' K
   have hs2' : ∀ (M : Option (List Nat)) (w0 : World) (k' : IntKind) (K : Value → Prop), takeP Tryd.prog (FrX M w0) (xv (Instr.sliceAt 9 (.string (B l)) (some (.int k' ((i : Int) + 1))) none none)) K = K (.string (B (l.drop (i + 1)))) := hs2
   simp (maxSteps:=4000000)(disch:=first|assumption|(simp only[dz];first|done|assumption|omega)|omega|apply_rules[Fr.refl,Fr.alloc,Fr.drew]|rfl) only [↓gd,gp,Nat.reduceAdd,Nat.reduceEqDiff, ↓hk40, e0', e2, e4, B_size, d, hix, dq, wr, hs1, hs2', hg0, di]
   refine hK ⟨l.take i, true, l.drop (i + 1)⟩ _ _ (hf0.drew.setB _ _ (.inr (Nat.le_refl _))) ?_
   by_cases q' : 0 < i
   ·rw [if_pos q', decide_eq_true q']; exact .inl ⟨rfl, rfl⟩
   ·rw [if_neg q', decide_eq_false q']; exact .inr ⟨rfl, rfl⟩
  ·have dq : decide ((x.toNat : Int) = 61) = false := decide_eq_false (fun h => q (UInt8.toNat_inj.1 (by have : (61 : UInt8).toNat = 61 := rfl; omega)))
   simp (maxSteps:=4000000)(disch:=first|assumption|(simp only[dz];first|done|assumption|omega)|omega|apply_rules[Fr.refl,Fr.alloc,Fr.drew]|rfl) only [↓gd,gp,Nat.reduceAdd,Nat.reduceEqDiff, ↓hk40, e0', e2, e4, B_size, d, hix, dq, wr]
   refine hkk _ _ hil ?_ ⟨?_, ?_, eqAt_on hq hx q, rfl⟩
   ·simp (maxSteps:=4000000)(disch:=first|assumption|(simp only[dz];first|done|assumption|omega)|omega|apply_rules[Fr.refl,Fr.alloc,Fr.drew]|rfl) only [↓gsd,gs,gv,Nat.reduceAdd,Nat.reduceEqDiff]
   ·simp (maxSteps:=4000000)(disch:=first|assumption|(simp only[dz];first|done|assumption|omega)|omega|apply_rules[Fr.refl,Fr.alloc,Fr.drew]|rfl) only [↓gsd,gs,gv,Nat.reduceAdd,Nat.reduceEqDiff, e0']
   ·simp (maxSteps:=4000000)(disch:=first|assumption|(simp only[dz];first|done|assumption|omega)|omega|apply_rules[Fr.refl,Fr.alloc,Fr.drew]|rfl) only [↓gsd,gs,gv,Nat.reduceAdd,Nat.reduceEqDiff, e2]
 ·have d : decide ((i : Int) < (l.length : Int)) = false := decide_eq_false (by omega)
  have hi' : i = l.length := by omega
  rw [eqAt_end (hi' ▸ hq)] at hK
  simp only at hK
  have w2' : IntKind.i64.wrap ((l.length : Int) - 1) = (l.length : Int) - 1 := wrap64 (by omega) (by omega)
  by_cases q2 : 2 ≤ l.length
  ·have hn : (l.length : Int) - 1 = ((l.length - 1 : Nat) : Int) := by omega
   have d2 : decide (((l.length - 1 : Nat) : Int) < 1) = false := decide_eq_false (by omega)
   obtain ⟨x, hx⟩ : ∃ x, l[l.length - 1]? = some x := ⟨l[l.length - 1], List.getElem?_eq_getElem (by omega)⟩
   have hix := fun k w => ix9 hx k w
   by_cases q3 : x = 33
   ·have dq : decide ((x.toNat : Int) = 33) = true := by rw [q3]; rfl
    rw [if_pos ⟨q2, by rw [hx, q3]⟩] at hK
    have hsl := fun k' w => sl9h l (j := l.length - 1) (by omega) k' w
    simp (maxSteps:=4000000)(disch:=first|assumption|(simp only[dz];first|done|assumption|omega)|omega|apply_rules[Fr.refl,Fr.alloc,Fr.drew]|rfl) only [↓gd,gp,Nat.reduceAdd,Nat.reduceEqDiff, ↓hk40, e0', e2, e4, B_size, d, w2', hn, d2, hix, dq, hsl, hg0]
    exact hK ⟨l.take (l.length - 1), false, []⟩ _ _ (hf0.setB _ _ (.inr (Nat.le_refl _))) (.inl ⟨rfl, rfl⟩)
   ·have dq : decide ((x.toNat : Int) = 33) = false := decide_eq_false (fun h => q3 (UInt8.toNat_inj.1 (by have : (33 : UInt8).toNat = 33 := rfl; omega)))
    rw [if_neg (fun h => q3 (by rw [hx] at h; simpa using h.2))] at hK
    simp (maxSteps:=4000000)(disch:=first|assumption|(simp only[dz];first|done|assumption|omega)|omega|apply_rules[Fr.refl,Fr.alloc,Fr.drew]|rfl) only [↓gd,gp,Nat.reduceAdd,Nat.reduceEqDiff, ↓hk40, e0', e2, e4, B_size, d, w2', hn, d2, hix, dq, hg0]
    exact hK ⟨[], false, []⟩ _ _ (hf0.setB _ _ (.inr (Nat.le_refl _))) (.inr ⟨rfl, rfl⟩)
  ·have d2 : decide ((l.length : Int) - 1 < 1) = true := decide_eq_true (by omega)
   rw [if_neg (fun h => q2 h.1)] at hK
   simp (maxSteps:=4000000)(disch:=first|assumption|(simp only[dz];first|done|assumption|omega)|omega|apply_rules[Fr.refl,Fr.alloc,Fr.drew]|rfl) only [↓gd,gp,Nat.reduceAdd,Nat.reduceEqDiff, ↓hk40, e0', e2, e4, B_size, d, w2', d2, hg0]
   exact hK ⟨[], false, []⟩ _ _ (hf0.setB _ _ (.inr (Nat.le_refl _))) (.inr ⟨rfl, rfl⟩)
end Go.Proofs.YtbbjnplellanaaaDoor
