/- The reference's kinds, and the steps' lines: a commit. The reference's steps. The reference's steps: the call. -/
import Derived.Test.YtbbjnplellanaaaDoorTB
set_option linter.unusedVariables false
set_option linter.unusedSimpArgs false
set_option maxRecDepth 10000
namespace Go.Proofs.YtbbjnplellanaaaDoor
open Go.VW
def kindOf (w : Bs) : Nat := match formsL.find? fun f => decide (f.word = w) with
 | some f => f.kind
 | none => 0
set_option maxHeartbeats 16000000 in
theorem rkind_spec {l : Bs} {w : World} {K : Value → World → Prop} (hK : K (.int .i64 (kindOf l)) w) : CallsN Tryd.prog 38 [.string (B l)] w K := by
 have cw := cur w
 refine call38 ?_
 by_cases q1 : l = [111, 112, 101, 110]
 ·have d1 : decide (B l = ⟨#[111, 112, 101, 110]⟩) = true := decide_eq_true (by rw [B_lit]; exact q1)
  simp (maxSteps:=4000000)(disch:=first|assumption|(simp only[dz];first|done|assumption|omega)|omega|apply_rules[Fr.refl,Fr.alloc,Fr.drew]|rfl) only [↓gd,gp,Nat.reduceAdd,Nat.reduceEqDiff, ↓hk38, d1]
  rw [q1] at hK
  exact hK
 have d1 : decide (B l = ⟨#[111, 112, 101, 110]⟩) = false := decide_eq_false (by rw [B_lit]; exact q1)
 by_cases q2 : l = [99, 111, 109, 109, 105, 116]
 ·have d2 : decide (B l = ⟨#[99, 111, 109, 109, 105, 116]⟩) = true := decide_eq_true (by rw [B_lit]; exact q2)
  simp (maxSteps:=4000000)(disch:=first|assumption|(simp only[dz];first|done|assumption|omega)|omega|apply_rules[Fr.refl,Fr.alloc,Fr.drew]|rfl) only [↓gd,gp,Nat.reduceAdd,Nat.reduceEqDiff, ↓hk38, d1, d2]
  rw [q2] at hK
  exact hK
 have d2 : decide (B l = ⟨#[99, 111, 109, 109, 105, 116]⟩) = false := decide_eq_false (by rw [B_lit]; exact q2)
 by_cases q3 : l = [97, 103, 97, 105, 110]
 ·have d3 : decide (B l = ⟨#[97, 103, 97, 105, 110]⟩) = true := decide_eq_true (by rw [B_lit]; exact q3)
  simp (maxSteps:=4000000)(disch:=first|assumption|(simp only[dz];first|done|assumption|omega)|omega|apply_rules[Fr.refl,Fr.alloc,Fr.drew]|rfl) only [↓gd,gp,Nat.reduceAdd,Nat.reduceEqDiff, ↓hk38, d1, d2, d3]
  rw [q3] at hK
  exact hK
 have d3 : decide (B l = ⟨#[97, 103, 97, 105, 110]⟩) = false := decide_eq_false (by rw [B_lit]; exact q3)
 by_cases q4 : l = [98, 101, 103, 105, 110]
 ·have d4 : decide (B l = ⟨#[98, 101, 103, 105, 110]⟩) = true := decide_eq_true (by rw [B_lit]; exact q4)
  simp (maxSteps:=4000000)(disch:=first|assumption|(simp only[dz];first|done|assumption|omega)|omega|apply_rules[Fr.refl,Fr.alloc,Fr.drew]|rfl) only [↓gd,gp,Nat.reduceAdd,Nat.reduceEqDiff, ↓hk38, d1, d2, d3, d4]
  rw [q4] at hK
  exact hK
 have d4 : decide (B l = ⟨#[98, 101, 103, 105, 110]⟩) = false := decide_eq_false (by rw [B_lit]; exact q4)
 by_cases q5 : l = [114, 101, 97, 100]
 ·have d5 : decide (B l = ⟨#[114, 101, 97, 100]⟩) = true := decide_eq_true (by rw [B_lit]; exact q5)
  simp (maxSteps:=4000000)(disch:=first|assumption|(simp only[dz];first|done|assumption|omega)|omega|apply_rules[Fr.refl,Fr.alloc,Fr.drew]|rfl) only [↓gd,gp,Nat.reduceAdd,Nat.reduceEqDiff, ↓hk38, d1, d2, d3, d4, d5]
  rw [q5] at hK
  exact hK
 have d5 : decide (B l = ⟨#[114, 101, 97, 100]⟩) = false := decide_eq_false (by rw [B_lit]; exact q5)
 by_cases q6 : l = [114, 101, 116, 114, 121]
 ·have d6 : decide (B l = ⟨#[114, 101, 116, 114, 121]⟩) = true := decide_eq_true (by rw [B_lit]; exact q6)
  simp (maxSteps:=4000000)(disch:=first|assumption|(simp only[dz];first|done|assumption|omega)|omega|apply_rules[Fr.refl,Fr.alloc,Fr.drew]|rfl) only [↓gd,gp,Nat.reduceAdd,Nat.reduceEqDiff, ↓hk38, d1, d2, d3, d4, d5, d6]
  rw [q6] at hK
  exact hK
 have d6 : decide (B l = ⟨#[114, 101, 116, 114, 121]⟩) = false := decide_eq_false (by rw [B_lit]; exact q6)
 by_cases q7 : l = [102, 105, 110, 105, 115, 104]
 ·have d7 : decide (B l = ⟨#[102, 105, 110, 105, 115, 104]⟩) = true := decide_eq_true (by rw [B_lit]; exact q7)
  simp (maxSteps:=4000000)(disch:=first|assumption|(simp only[dz];first|done|assumption|omega)|omega|apply_rules[Fr.refl,Fr.alloc,Fr.drew]|rfl) only [↓gd,gp,Nat.reduceAdd,Nat.reduceEqDiff, ↓hk38, d1, d2, d3, d4, d5, d6, d7]
  rw [q7] at hK
  exact hK
 have d7 : decide (B l = ⟨#[102, 105, 110, 105, 115, 104]⟩) = false := decide_eq_false (by rw [B_lit]; exact q7)
 by_cases q8 : l = [100, 101, 108, 105, 118, 101, 114]
 ·have d8 : decide (B l = ⟨#[100, 101, 108, 105, 118, 101, 114]⟩) = true := decide_eq_true (by rw [B_lit]; exact q8)
  simp (maxSteps:=4000000)(disch:=first|assumption|(simp only[dz];first|done|assumption|omega)|omega|apply_rules[Fr.refl,Fr.alloc,Fr.drew]|rfl) only [↓gd,gp,Nat.reduceAdd,Nat.reduceEqDiff, ↓hk38, d1, d2, d3, d4, d5, d6, d7, d8]
  rw [q8] at hK
  exact hK
 have d8 : decide (B l = ⟨#[100, 101, 108, 105, 118, 101, 114]⟩) = false := decide_eq_false (by rw [B_lit]; exact q8)
 by_cases q9 : l = [100, 114, 111, 112]
 ·have d9 : decide (B l = ⟨#[100, 114, 111, 112]⟩) = true := decide_eq_true (by rw [B_lit]; exact q9)
  simp (maxSteps:=4000000)(disch:=first|assumption|(simp only[dz];first|done|assumption|omega)|omega|apply_rules[Fr.refl,Fr.alloc,Fr.drew]|rfl) only [↓gd,gp,Nat.reduceAdd,Nat.reduceEqDiff, ↓hk38, d1, d2, d3, d4, d5, d6, d7, d8, d9]
  rw [q9] at hK
  exact hK
 have d9 : decide (B l = ⟨#[100, 114, 111, 112]⟩) = false := decide_eq_false (by rw [B_lit]; exact q9)
 by_cases q10 : l = [100, 111, 117, 98, 108, 101]
 ·have d10 : decide (B l = ⟨#[100, 111, 117, 98, 108, 101]⟩) = true := decide_eq_true (by rw [B_lit]; exact q10)
  simp (maxSteps:=4000000)(disch:=first|assumption|(simp only[dz];first|done|assumption|omega)|omega|apply_rules[Fr.refl,Fr.alloc,Fr.drew]|rfl) only [↓gd,gp,Nat.reduceAdd,Nat.reduceEqDiff, ↓hk38, d1, d2, d3, d4, d5, d6, d7, d8, d9, d10]
  rw [q10] at hK
  exact hK
 have d10 : decide (B l = ⟨#[100, 111, 117, 98, 108, 101]⟩) = false := decide_eq_false (by rw [B_lit]; exact q10)
 by_cases q11 : l = [99, 114, 97, 115, 104]
 ·have d11 : decide (B l = ⟨#[99, 114, 97, 115, 104]⟩) = true := decide_eq_true (by rw [B_lit]; exact q11)
  simp (maxSteps:=4000000)(disch:=first|assumption|(simp only[dz];first|done|assumption|omega)|omega|apply_rules[Fr.refl,Fr.alloc,Fr.drew]|rfl) only [↓gd,gp,Nat.reduceAdd,Nat.reduceEqDiff, ↓hk38, d1, d2, d3, d4, d5, d6, d7, d8, d9, d10, d11]
  rw [q11] at hK
  exact hK
 have d11 : decide (B l = ⟨#[99, 114, 97, 115, 104]⟩) = false := decide_eq_false (by rw [B_lit]; exact q11)
 by_cases q12 : l = [114, 101, 115, 116, 97, 114, 116]
 ·have d12 : decide (B l = ⟨#[114, 101, 115, 116, 97, 114, 116]⟩) = true := decide_eq_true (by rw [B_lit]; exact q12)
  simp (maxSteps:=4000000)(disch:=first|assumption|(simp only[dz];first|done|assumption|omega)|omega|apply_rules[Fr.refl,Fr.alloc,Fr.drew]|rfl) only [↓gd,gp,Nat.reduceAdd,Nat.reduceEqDiff, ↓hk38, d1, d2, d3, d4, d5, d6, d7, d8, d9, d10, d11, d12]
  rw [q12] at hK
  exact hK
 have d12 : decide (B l = ⟨#[114, 101, 115, 116, 97, 114, 116]⟩) = false := decide_eq_false (by rw [B_lit]; exact q12)
 by_cases q13 : l = [110, 117, 100, 103, 101]
 ·have d13 : decide (B l = ⟨#[110, 117, 100, 103, 101]⟩) = true := decide_eq_true (by rw [B_lit]; exact q13)
  simp (maxSteps:=4000000)(disch:=first|assumption|(simp only[dz];first|done|assumption|omega)|omega|apply_rules[Fr.refl,Fr.alloc,Fr.drew]|rfl) only [↓gd,gp,Nat.reduceAdd,Nat.reduceEqDiff, ↓hk38, d1, d2, d3, d4, d5, d6, d7, d8, d9, d10, d11, d12, d13]
  rw [q13] at hK
  exact hK
 have d13 : decide (B l = ⟨#[110, 117, 100, 103, 101]⟩) = false := decide_eq_false (by rw [B_lit]; exact q13)
 by_cases q14 : l = [115, 113, 117, 101, 101, 122, 101]
 ·have d14 : decide (B l = ⟨#[115, 113, 117, 101, 101, 122, 101]⟩) = true := decide_eq_true (by rw [B_lit]; exact q14)
  simp (maxSteps:=4000000)(disch:=first|assumption|(simp only[dz];first|done|assumption|omega)|omega|apply_rules[Fr.refl,Fr.alloc,Fr.drew]|rfl) only [↓gd,gp,Nat.reduceAdd,Nat.reduceEqDiff, ↓hk38, d1, d2, d3, d4, d5, d6, d7, d8, d9, d10, d11, d12, d13, d14]
  rw [q14] at hK
  exact hK
 have d14 : decide (B l = ⟨#[115, 113, 117, 101, 101, 122, 101]⟩) = false := decide_eq_false (by rw [B_lit]; exact q14)
 by_cases q15 : l = [116, 111, 107, 101, 110]
 ·have d15 : decide (B l = ⟨#[116, 111, 107, 101, 110]⟩) = true := decide_eq_true (by rw [B_lit]; exact q15)
  simp (maxSteps:=4000000)(disch:=first|assumption|(simp only[dz];first|done|assumption|omega)|omega|apply_rules[Fr.refl,Fr.alloc,Fr.drew]|rfl) only [↓gd,gp,Nat.reduceAdd,Nat.reduceEqDiff, ↓hk38, d1, d2, d3, d4, d5, d6, d7, d8, d9, d10, d11, d12, d13, d14, d15]
  rw [q15] at hK
  exact hK
 have d15 : decide (B l = ⟨#[116, 111, 107, 101, 110]⟩) = false := decide_eq_false (by rw [B_lit]; exact q15)
 by_cases q16 : l = [106, 111, 105, 110]
 ·have d16 : decide (B l = ⟨#[106, 111, 105, 110]⟩) = true := decide_eq_true (by rw [B_lit]; exact q16)
  simp (maxSteps:=4000000)(disch:=first|assumption|(simp only[dz];first|done|assumption|omega)|omega|apply_rules[Fr.refl,Fr.alloc,Fr.drew]|rfl) only [↓gd,gp,Nat.reduceAdd,Nat.reduceEqDiff, ↓hk38, d1, d2, d3, d4, d5, d6, d7, d8, d9, d10, d11, d12, d13, d14, d15, d16]
  rw [q16] at hK
  exact hK
 have d16 : decide (B l = ⟨#[106, 111, 105, 110]⟩) = false := decide_eq_false (by rw [B_lit]; exact q16)
 have h0 : kindOf l = 0 := by
  unfold kindOf
  rw [find_no fun j f _ hf he => ?_]
  have := List.mem_of_getElem? hf
  simp only [formsL, List.mem_cons, List.not_mem_nil, or_false] at this
  subst he
  rcases this with rfl | rfl | rfl | rfl | rfl | rfl | rfl | rfl | rfl | rfl | rfl | rfl | rfl | rfl | rfl | rfl
  ·exact q1 rfl
  ·exact q2 rfl
  ·exact q3 rfl
  ·exact q4 rfl
  ·exact q5 rfl
  ·exact q6 rfl
  ·exact q7 rfl
  ·exact q8 rfl
  ·exact q9 rfl
  ·exact q10 rfl
  ·exact q11 rfl
  ·exact q12 rfl
  ·exact q13 rfl
  ·exact q14 rfl
  ·exact q15 rfl
  ·exact q16 rfl
 rw [h0] at hK
 simp (maxSteps:=4000000)(disch:=first|assumption|(simp only[dz];first|done|assumption|omega)|omega|apply_rules[Fr.refl,Fr.alloc,Fr.drew]|rfl) only [↓gd,gp,Nat.reduceAdd,Nat.reduceEqDiff, ↓hk38, d1, d2, d3, d4, d5, d6, d7, d8, d9, d10, d11, d12, d13, d14, d15, d16]
 exact hK
theorem find_kind {l : Bs} : (formsL.find? fun f => decide (f.word = l)) = none ∧ kindOf l = 0 ∨ ∃ f, (formsL.find? fun f => decide (f.word = l)) = some f ∧ kindOf l = f.kind ∧ f ∈ formsL := by
 unfold kindOf
 cases h : formsL.find? fun f => decide (f.word = l) with
 | none => exact .inl ⟨rfl, rfl⟩
 | some f => exact .inr ⟨f, rfl, rfl, List.mem_of_find?_eq_some h⟩
section
variable {s : Stp} {w0 x0 : Bs} {ws : List Bs} {W0 w : World} {e : Env} {rb sb : Nat} {wv : Value} {K : Value → World → Prop} {Q : Exit → Env → World → Prop}
set_option maxHeartbeats 8000000 in
theorem rcommit_spec (hQ : ∀ e w, Q .ret e w = retQ Tryd.prog [.cell 2 33, .tmp 3] K .ret e w) (e0 : e 0 = wv) (e2 : e 2 = .pointer (some ⟨rb, 0, none⟩)) (e4 : e 4 = .pointer (some ⟨sb, 0, none⟩))
  (hrb : w.heap[rb]? = some (.cells zeroCells.toArray 33 (0, 0))) (hsb : w.heap[sb]? = some (.cells (encStp (s, none, 0, 0)).toArray 33 (0, 0)))
  (n1 : sb ≠ rb) (hf : Fr [] W0 w) (h2 : W0.heap.size ≤ rb) (h3 : W0.heap.size ≤ sb) (hs0 : s.ws = [])
  (hw : SlOf 1 encB w wv (w0 :: x0 :: ws)) (hwo : offV wv sb) (hl : ∀ x ∈ ws, x.length ≤ 65536) (hn : ws.length ≤ 65537)
  (hK : ∀ x ok w', Fr [] W0 w' → ResS ((writesO ws).map fun y => { s with ws := y }) x ok w' → K (.tuple #[.agg (encStp x).toArray, .bool ok]) w') :
  W3 Tryd.prog 115 V21 c21_14 Q e w := by
 have cw := cur w
 have hrl := lt_of_get _ _ hrb
 have hsl := lt_of_get _ _ hsb
 obtain ⟨n, hn'⟩ : ∃ n, n = (w0 :: x0 :: ws).length := ⟨_, rfl⟩
 have hn2 : n = ws.length + 2 := by rw [hn']; rfl
 simp (maxSteps:=4000000)(disch:=first|assumption|(simp only[dz];first|done|assumption|omega)|omega|apply_rules[Fr.refl,Fr.alloc,Fr.drew]|rfl) only [↓gd,gp,Nat.reduceAdd,Nat.reduceEqDiff, ↓hk21]
 refine for_intro n 7 2 (fun i e w' => ∃ (done : List Wr) (sv : SlV), e 0 = wv ∧ e 2 = .pointer (some ⟨rb, 0, none⟩) ∧ e 4 = .pointer (some ⟨sb, 0, none⟩) ∧ w'.heap[rb]? = some (.cells zeroCells.toArray 33 (0, 0)) ∧ w'.heap[sb]? = some (.cells (encStp (s, sv)).toArray 33 (0, 0)) ∧ Own 3 60 w' (.slice sv.1 sv.2.1 sv.2.2) done.length (cellsOf encWr done) ∧ (∀ b, (Value.slice sv.1 sv.2.1 sv.2.2).ownBlock = some b → w.heap.size ≤ b) ∧ done.length + 2 = i ∧ writesO ws = (writesO (ws.drop (i - 2))).map (done ++ ·) ∧ Fr [sb] w w') ?_ (by omega) ?_ ?_
 ·simp (maxSteps:=4000000)(disch:=first|assumption|(simp only[dz];first|done|assumption|omega)|omega|apply_rules[Fr.refl,Fr.alloc,Fr.drew]|rfl) only [↓gsd,gs,gv,Nat.reduceAdd,Nat.reduceEqDiff]; rfl
 ·refine ⟨[], (none, 0, 0), ?_, ?_, ?_, hrb, hsb, Own.nil, (fun b hb => by simp [Value.ownBlock] at hb), rfl, by simp, Fr.refl _ _⟩
  ·simp (maxSteps:=4000000)(disch:=first|assumption|(simp only[dz];first|done|assumption|omega)|omega|apply_rules[Fr.refl,Fr.alloc,Fr.drew]|rfl) only [↓gsd,gs,gv,Nat.reduceAdd,Nat.reduceEqDiff, e0]
  ·simp (maxSteps:=4000000)(disch:=first|assumption|(simp only[dz];first|done|assumption|omega)|omega|apply_rules[Fr.refl,Fr.alloc,Fr.drew]|rfl) only [↓gsd,gs,gv,Nat.reduceAdd,Nat.reduceEqDiff, e2]
  ·simp (maxSteps:=4000000)(disch:=first|assumption|(simp only[dz];first|done|assumption|omega)|omega|apply_rules[Fr.refl,Fr.alloc,Fr.drew]|rfl) only [↓gsd,gs,gv,Nat.reduceAdd,Nat.reduceEqDiff, e4]
 rintro i e w1 kk hi e7 ⟨done, sv, e0, e2, e4, hrb1, hsb1, hown, hob, hdl, hwr, hf1⟩ hkk
 have cw1 := cur w1
 have hrl1 := lt_of_get _ _ hrb1
 have hsl1 := lt_of_get _ _ hsb1
 have hrb0 := hrb1
 have hsb0 := hsb1
 have hf01 : Fr [] W0 w1 := hf.trans hf1 (by intro x hx; simp at hx; subst hx; exact .inr h3)
 have hw1 := SlOf.fr hw hf1 (by intro b hb; simp at hb; subst hb; exact hwo)
 obtain ⟨va, vc, hv⟩ := hw.form
 rw [← hn'] at hv
 by_cases hil : i < n
 ·have d : decide ((i : Int) < (n : Int)) = true := decide_eq_true (by omega)
  obtain ⟨x, hx⟩ : ∃ x, ws[i - 2]? = some x := ⟨ws[i - 2]'(by omega), List.getElem?_eq_getElem (by omega)⟩
  have hx' : (w0 :: x0 :: ws)[i]? = some x := by
   have : i = (i - 2) + 1 + 1 := by omega
   rw [this, List.getElem?_cons_succ, List.getElem?_cons_succ]; exact hx
  obtain ⟨bb, off, cap, ob, hv1, hob1, _, _, hcell⟩ := hw1.read encB_len i x hx'
  rw [← hn'] at hv1
  have hc0 := fun orig K => hcell 0 (.string (B x)) orig K rfl
  simp only [Nat.add_zero, Nat.mul_one] at hc0
  have i0 : (0 : Int) ≤ (i : Int) := by omega
  have i1 : (i : Int) < (n : Int) := by omega
  have wr : IntKind.i64.wrap ((i : Int) + 1) = (i : Int) + 1 := wrap64 (by omega) (by omega)
  have hxl := hl x (List.mem_of_getElem? hx)
  simp (maxSteps:=4000000)(disch:=first|assumption|(simp only[dz];first|done|assumption|omega)|omega|apply_rules[Fr.refl,Fr.alloc,Fr.drew]|rfl) only [↓gd,gp,Nat.reduceAdd,Nat.reduceEqDiff, ↓hk21, e0, e7, e2, e4, hv1, d, i0, i1, Int.toNat_natCast, Nat.mul_one, hob1, hc0]
  refine rwrite_spec hxl fun y ok w2 hf2 hres => ?_
  have cw2 := cur w2
  have hrb2 := hf2.getN hrb1
  have hsb2 := hf2.getN hsb1
  have hrl2 := lt_of_get _ _ hrb2
  have hsl2 := lt_of_get _ _ hsb2
  have hown2 := Own.frN hown hf2
  have hf02 : Fr [] W0 w2 := hf01.trans' hf2
  unfold zeroCells at hrb2
  unfold encStp at hsb2
  rcases hres with ⟨hy, rfl⟩ | ⟨hy, rfl⟩
  ·have hsx := sl_new (e := 60) (w := w2.alloc (.cells (encWr y).toArray 60 (0, 0))) (encWr_len y)
   have hfx : Fr [] w2 ((w2.alloc (.cells (encWr y).toArray 60 (0, 0))).alloc (.cells (encWr y).toArray 60 (0, 0))) := ((Fr.refl _ _).alloc _).alloc _
   obtain ⟨v4, w4, hr4, hown4, hf4, hbk⟩ := ap31 (ty := 31) (Own.frN hown2 hfx) hsx (by rfl) (by omega)
   have cw4 := cur w4
   unfold encWr at hr4
   simp only [size_alloc] at hr4
   obtain ⟨a4, c4, hv4⟩ := hown4.sl.form
   rw [hv4] at hr4 hown4 hbk
   have hsb4 : w4.heap[sb]? = some (.cells (encStp (s, sv)).toArray 33 (0, 0)) := by
    rw [hf4.keep sb (by simp only [size_alloc]; omega) (off_blkL (own_off hown hsb0 (by decide)))]
    exact hfx.getN (hf2.getN hsb0)
   have hrb4 : w4.heap[rb]? = some (.cells zeroCells.toArray 33 (0, 0)) := by
    rw [hf4.keep rb (by simp only [size_alloc]; omega) (off_blkL (own_off hown hrb0 (by decide)))]
    exact hfx.getN (hf2.getN hrb0)
   have hsb40 := hsb4
   have hrb40 := hrb4
   have hsl4 := lt_of_get _ _ hsb4
   unfold encStp at hsb4
   simp (maxSteps:=4000000)(disch:=first|assumption|(simp only[dz];first|done|assumption|omega)|omega|apply_rules[Fr.refl,Fr.alloc,Fr.drew]|rfl) only [↓gd,gp,Nat.reduceAdd,Nat.reduceEqDiff, ↓hk21, encWr, e0, e7, e2, e4, hrb2, hsb2, hr4, hsb4, wr]
   have hcs : cellsOf encWr done ++ encWr y = cellsOf encWr (done ++ [y]) := by rw [cellsOf_append, cellsOf_one]
   have hle : w.heap.size ≤ w2.heap.size := Nat.le_trans hf1.size hf2.size
   refine hkk _ _ hil ?_ ⟨done ++ [y], (a4, done.length + 1, c4), ?_, ?_, ?_, ?_, get_setB_same _ _ _ hsl4, ?_, ?_, by simp only [List.length_append, List.length_singleton]; omega, ?_, ?_⟩
   ·simp (maxSteps:=4000000)(disch:=first|assumption|(simp only[dz];first|done|assumption|omega)|omega|apply_rules[Fr.refl,Fr.alloc,Fr.drew]|rfl) only [↓gsd,gs,gv,Nat.reduceAdd,Nat.reduceEqDiff]
   ·simp (maxSteps:=4000000)(disch:=first|assumption|(simp only[dz];first|done|assumption|omega)|omega|apply_rules[Fr.refl,Fr.alloc,Fr.drew]|rfl) only [↓gsd,gs,gv,Nat.reduceAdd,Nat.reduceEqDiff, e0, hv1]
   ·simp (maxSteps:=4000000)(disch:=first|assumption|(simp only[dz];first|done|assumption|omega)|omega|apply_rules[Fr.refl,Fr.alloc,Fr.drew]|rfl) only [↓gsd,gs,gv,Nat.reduceAdd,Nat.reduceEqDiff, e2]
   ·simp (maxSteps:=4000000)(disch:=first|assumption|(simp only[dz];first|done|assumption|omega)|omega|apply_rules[Fr.refl,Fr.alloc,Fr.drew]|rfl) only [↓gsd,gs,gv,Nat.reduceAdd,Nat.reduceEqDiff, e4]
   ·rw [get_setB_ne _ _ _ _ n1]; exact hrb40
   ·rw [List.length_append, List.length_singleton, ← hcs]
    exact hown4.fr (M := [sb]) ((Fr.refl _ _).setB _ _ (.inl (by simp))) (by intro b hb; simp at hb; subst hb; exact own_off hown4 hsb40 (by decide))
   ·exact own_fresh hbk hob (by simp only [size_alloc]; omega)
   ·rw [show i + 1 - 2 = (i - 2) + 1 by omega]; exact writes_on hwr hx hy
   ·refine (((hf1.trans' hf2).trans' hfx).trans hf4 fun z hz => .inr (blkL_ge hob z hz)).setB _ _ (.inl (by simp))
  ·simp (maxSteps:=4000000)(disch:=first|assumption|(simp only[dz];first|done|assumption|omega)|omega|apply_rules[Fr.refl,Fr.alloc,Fr.drew]|rfl) only [↓gd,gp,Nat.reduceAdd,Nat.reduceEqDiff, ↓hk21, encWr, e0, e7, e2, e4, hrb2, hsb2, hQ]
   refine hK (s, sv) _ _ ?_ (.inr ⟨by rw [writes_stop hwr hx hy]; rfl, rfl⟩)
   exact ((hf02.alloc _).setB _ _ (.inr h2))
 ·have d : decide ((i : Int) < (n : Int)) = false := decide_eq_false (by omega)
  have hil' : i - 2 = ws.length := by omega
  unfold zeroCells at hrb1
  unfold encStp at hsb1
  simp (maxSteps:=4000000)(disch:=first|assumption|(simp only[dz];first|done|assumption|omega)|omega|apply_rules[Fr.refl,Fr.alloc,Fr.drew]|rfl) only [↓gd,gp,Nat.reduceAdd,Nat.reduceEqDiff, ↓hk21, e0, e7, e2, e4, hv, d, hrb1, hsb1, hQ]
  refine hK ({ s with ws := done }, sv) _ _ (hf01.setB _ _ (.inr h2)) (.inl ⟨by rw [writes_end (hil' ▸ hwr)]; rfl, rfl, ?_⟩)
  exact hown.fr (M := [rb]) ((Fr.refl _ _).setB _ _ (.inl (by simp))) (by intro b hb; simp at hb; subst hb; exact own_off hown hrb0 (by decide))
end
end Go.Proofs.YtbbjnplellanaaaDoor
namespace Go.Proofs.YtbbjnplellanaaaDoor
open Go.VW
section
variable {w0 x0 : Bs} {r : List Bs} {W0 w : World} {e : Env} {rb sb : Nat} {wv : Value} {n : Int} {K : Value → World → Prop}
theorem restF_plain {f : Form} {s : Stp} {r : List Bs} (h1 : f.rf = 0) (h2 : f.kind ≠ 2) : restF f s r = if r = [] then some s else none := by
 unfold restF; rw [if_neg (by simp [h1]), if_pos h2]
theorem restF_commit {f : Form} {s : Stp} {r : List Bs} (h1 : f.rf = 0) (h2 : f.kind = 2) : restF f s r = (writesO r).map fun y => { s with ws := y } := by
 unfold restF; rw [if_neg (by simp [h1]), if_neg (by simp [h2])]
theorem restF_one {f : Form} {s : Stp} {r : List Bs} (h1 : f.rf ≠ 0) : restF f s r = oneR f.rf s r := by
 unfold restF; rw [if_pos h1]
set_option maxHeartbeats 8000000 in
theorem rtail2 (e0 : e 0 = wv) (e2 : e 2 = .pointer (some ⟨rb, 0, none⟩)) (e4 : e 4 = .pointer (some ⟨sb, 0, none⟩)) (e5 : e 5 = .int .i64 n)
  (hrb : w.heap[rb]? = some (.cells zeroCells.toArray 33 (0, 0))) (hsb : w.heap[sb]? = some (.cells (encStp (Stp.zero 2, none, 0, 0)).toArray 33 (0, 0)))
  (n1 : sb ≠ rb) (hf : Fr [] W0 w) (h2 : W0.heap.size ≤ rb) (h3 : W0.heap.size ≤ sb)
  (hw : SlOf 1 encB w wv (w0 :: x0 :: r)) (hwo : offV wv sb) (hl : ∀ x ∈ r, x.length ≤ 65536) (hn : r.length ≤ 65537)
  (hK : ∀ x ok w', Fr [] W0 w' → ResS (restF ⟨w0, 2, 1, 0⟩ (setN 1 n (Stp.zero 2)) r) x ok w' → K (.tuple #[.agg (encStp x).toArray, .bool ok]) w') :
  W3 Tryd.prog 115 V21 c21_7 (retQ Tryd.prog [.cell 2 33, .tmp 3] K) e w := by
 have cw := cur w
 have hrl := lt_of_get _ _ hrb
 have hsl := lt_of_get _ _ hsb
 have hrb0 := hrb
 unfold zeroCells at hrb
 unfold encStp Stp.zero at hsb
 have nil0 : ∀ w', Own 3 60 w' (.slice none 0 0) 0 (cellsOf encWr []) := fun w' => Own.nil
 obtain ⟨N, hN⟩ : ∃ N, N = (w0 :: x0 :: r).length := ⟨_, rfl⟩
 have hN2 : N = r.length + 2 := by rw [hN]; rfl
 obtain ⟨va, vc, hv⟩ := hw.form
 rw [← hN] at hv
 rw [restF_commit rfl rfl] at hK
 simp (maxSteps:=4000000)(disch:=first|assumption|(simp only[dz];first|done|assumption|omega)|omega|apply_rules[Fr.refl,Fr.alloc,Fr.drew]|rfl) only [↓gd,gp,Nat.reduceAdd,Nat.reduceEqDiff, ↓c21_9_s, ↓c21_15_s, ↓c21_21_s, ↓c21_25_s, ↓c21_28_s, ↓c21_27_s, ↓c21_26_s, ↓c21_24_s, ↓c21_23_s, ↓c21_22_s, ↓c21_20_s, ↓c21_30_s, ↓c21_29_s, ↓c21_19_s, ↓c21_18_s, ↓c21_17_s, ↓c21_16_s, ↓c21_35_s, ↓c21_38_s, ↓c21_39_s, ↓c21_37_s, ↓c21_36_s, ↓c21_34_s, ↓c21_42_s, ↓c21_41_s, ↓c21_40_s, ↓c21_33_s, ↓c21_32_s, ↓c21_45_s, ↓c21_44_s, ↓c21_43_s, ↓c21_31_s, ↓c21_13_s, ↓c21_12_s, ↓c21_11_s, ↓c21_10_s, ↓c21_8_s, ↓c21_50_s, ↓c21_53_s, ↓c21_56_s, ↓c21_57_s, ↓c21_55_s, ↓c21_62_s, ↓c21_61_s, ↓c21_60_s, ↓c21_59_s, ↓c21_58_s, ↓c21_54_s, ↓c21_52_s, ↓c21_67_s, ↓c21_66_s, ↓c21_65_s, ↓c21_64_s, ↓c21_63_s, ↓c21_51_s, ↓c21_49_s, ↓c21_76_s, ↓c21_75_s, ↓c21_74_s, ↓c21_73_s, ↓c21_72_s, ↓c21_71_s, ↓c21_70_s, ↓c21_69_s, ↓c21_68_s, ↓c21_48_s, ↓c21_47_s, ↓c21_46_s, ↓c21_7_s, ↓c21_79_s, ↓c21_78_s, ↓c21_77_s, ↓c21_6_s, ↓c21_5_s, ↓c21_82_s, ↓c21_81_s, ↓c21_80_s, ↓c21_4_s, ↓c21_85_s, ↓c21_84_s, ↓c21_83_s, ↓c21_3_s, ↓c21_88_s, ↓c21_87_s, ↓c21_86_s, ↓c21_2_s, ↓c21_1_s, ↓c21_s, ↓w3t_21, e0, e2, e4, e5, hsb, Int.reduceEq]
 obtain ⟨w4, hw4⟩ : ∃ w4, w4 = w.setB sb (.cells (encStp ((setN 1 n (Stp.zero 2)), none, 0, 0)).toArray 33 (0, 0)) := ⟨_, rfl⟩
 have hf4 : Fr [sb] w w4 := by rw [hw4]; exact (Fr.refl _ _).setB _ _ (.inl (by simp))
 show W3 _ _ _ _ _ _ (w.setB sb (.cells (encStp ((setN 1 n (Stp.zero 2)), none, 0, 0)).toArray 33 (0, 0)))
 rw [← hw4]
 exact rcommit_spec (fun _ _ => rfl) e0 e2 e4 (by rw [hw4, get_setB_ne _ _ _ _ n1]; exact hrb0) (by rw [hw4]; exact get_setB_same _ _ _ hsl) n1 (hf.trans hf4 (by intro z hz; simp at hz; subst hz; exact .inr h3)) h2 h3 rfl (hw.fr hf4 (by intro b hb; simp at hb; subst hb; exact hwo)) hwo hl hn hK
set_option maxHeartbeats 8000000 in
theorem rtail3 (e0 : e 0 = wv) (e2 : e 2 = .pointer (some ⟨rb, 0, none⟩)) (e4 : e 4 = .pointer (some ⟨sb, 0, none⟩)) (e5 : e 5 = .int .i64 n)
  (hrb : w.heap[rb]? = some (.cells zeroCells.toArray 33 (0, 0))) (hsb : w.heap[sb]? = some (.cells (encStp (Stp.zero 3, none, 0, 0)).toArray 33 (0, 0)))
  (n1 : sb ≠ rb) (hf : Fr [] W0 w) (h2 : W0.heap.size ≤ rb) (h3 : W0.heap.size ≤ sb)
  (hw : SlOf 1 encB w wv (w0 :: x0 :: r)) (hwo : offV wv sb) (hl : ∀ x ∈ r, x.length ≤ 65536) (hn : r.length ≤ 65537)
  (hK : ∀ x ok w', Fr [] W0 w' → ResS (restF ⟨w0, 3, 1, 0⟩ (setN 1 n (Stp.zero 3)) r) x ok w' → K (.tuple #[.agg (encStp x).toArray, .bool ok]) w') :
  W3 Tryd.prog 115 V21 c21_7 (retQ Tryd.prog [.cell 2 33, .tmp 3] K) e w := by
 have cw := cur w
 have hrl := lt_of_get _ _ hrb
 have hsl := lt_of_get _ _ hsb
 have hrb0 := hrb
 unfold zeroCells at hrb
 unfold encStp Stp.zero at hsb
 have nil0 : ∀ w', Own 3 60 w' (.slice none 0 0) 0 (cellsOf encWr []) := fun w' => Own.nil
 obtain ⟨N, hN⟩ : ∃ N, N = (w0 :: x0 :: r).length := ⟨_, rfl⟩
 have hN2 : N = r.length + 2 := by rw [hN]; rfl
 obtain ⟨va, vc, hv⟩ := hw.form
 rw [← hN] at hv
 rw [restF_plain rfl (by simp)] at hK
 by_cases hr : r = []
 ·have dl : decide ((N : Int) = 2) = true := decide_eq_true (by rw [hN2, hr]; rfl)
  rw [if_pos hr] at hK
  simp (maxSteps:=4000000)(disch:=first|assumption|(simp only[dz];first|done|assumption|omega)|omega|apply_rules[Fr.refl,Fr.alloc,Fr.drew]|rfl) only [↓gd,gp,Nat.reduceAdd,Nat.reduceEqDiff, ↓hk21, e0, e2, e4, e5, hrb, hsb, hv, Int.reduceEq, dl]
  exact hK ((setN 1 n (Stp.zero 3)), none, 0, 0) _ _ ((hf.setB _ _ (.inr h3)).setB _ _ (.inr h2)) (.inl ⟨rfl, rfl, nil0 _⟩)
 ·have dl : decide ((N : Int) = 2) = false := decide_eq_false (fun h => hr (List.eq_nil_of_length_eq_zero (by omega)))
  rw [if_neg hr] at hK
  simp (maxSteps:=4000000)(disch:=first|assumption|(simp only[dz];first|done|assumption|omega)|omega|apply_rules[Fr.refl,Fr.alloc,Fr.drew]|rfl) only [↓gd,gp,Nat.reduceAdd,Nat.reduceEqDiff, ↓hk21, e0, e2, e4, e5, hrb, hsb, hv, Int.reduceEq, dl]
  exact hK ((setN 1 n (Stp.zero 3)), none, 0, 0) _ _ ((hf.setB _ _ (.inr h3)).setB _ _ (.inr h2)) (.inr ⟨rfl, rfl⟩)
set_option maxHeartbeats 8000000 in
theorem rtail4 (e0 : e 0 = wv) (e2 : e 2 = .pointer (some ⟨rb, 0, none⟩)) (e4 : e 4 = .pointer (some ⟨sb, 0, none⟩)) (e5 : e 5 = .int .i64 n)
  (hrb : w.heap[rb]? = some (.cells zeroCells.toArray 33 (0, 0))) (hsb : w.heap[sb]? = some (.cells (encStp (Stp.zero 4, none, 0, 0)).toArray 33 (0, 0)))
  (n1 : sb ≠ rb) (hf : Fr [] W0 w) (h2 : W0.heap.size ≤ rb) (h3 : W0.heap.size ≤ sb)
  (hw : SlOf 1 encB w wv (w0 :: x0 :: r)) (hwo : offV wv sb) (hl : ∀ x ∈ r, x.length ≤ 65536) (hn : r.length ≤ 65537)
  (hK : ∀ x ok w', Fr [] W0 w' → ResS (restF ⟨w0, 4, 1, 0⟩ (setN 1 n (Stp.zero 4)) r) x ok w' → K (.tuple #[.agg (encStp x).toArray, .bool ok]) w') :
  W3 Tryd.prog 115 V21 c21_7 (retQ Tryd.prog [.cell 2 33, .tmp 3] K) e w := by
 have cw := cur w
 have hrl := lt_of_get _ _ hrb
 have hsl := lt_of_get _ _ hsb
 have hrb0 := hrb
 unfold zeroCells at hrb
 unfold encStp Stp.zero at hsb
 have nil0 : ∀ w', Own 3 60 w' (.slice none 0 0) 0 (cellsOf encWr []) := fun w' => Own.nil
 obtain ⟨N, hN⟩ : ∃ N, N = (w0 :: x0 :: r).length := ⟨_, rfl⟩
 have hN2 : N = r.length + 2 := by rw [hN]; rfl
 obtain ⟨va, vc, hv⟩ := hw.form
 rw [← hN] at hv
 rw [restF_plain rfl (by simp)] at hK
 by_cases hr : r = []
 ·have dl : decide ((N : Int) = 2) = true := decide_eq_true (by rw [hN2, hr]; rfl)
  rw [if_pos hr] at hK
  simp (maxSteps:=4000000)(disch:=first|assumption|(simp only[dz];first|done|assumption|omega)|omega|apply_rules[Fr.refl,Fr.alloc,Fr.drew]|rfl) only [↓gd,gp,Nat.reduceAdd,Nat.reduceEqDiff, ↓hk21, e0, e2, e4, e5, hrb, hsb, hv, Int.reduceEq, dl]
  exact hK ((setN 1 n (Stp.zero 4)), none, 0, 0) _ _ ((hf.setB _ _ (.inr h3)).setB _ _ (.inr h2)) (.inl ⟨rfl, rfl, nil0 _⟩)
 ·have dl : decide ((N : Int) = 2) = false := decide_eq_false (fun h => hr (List.eq_nil_of_length_eq_zero (by omega)))
  rw [if_neg hr] at hK
  simp (maxSteps:=4000000)(disch:=first|assumption|(simp only[dz];first|done|assumption|omega)|omega|apply_rules[Fr.refl,Fr.alloc,Fr.drew]|rfl) only [↓gd,gp,Nat.reduceAdd,Nat.reduceEqDiff, ↓hk21, e0, e2, e4, e5, hrb, hsb, hv, Int.reduceEq, dl]
  exact hK ((setN 1 n (Stp.zero 4)), none, 0, 0) _ _ ((hf.setB _ _ (.inr h3)).setB _ _ (.inr h2)) (.inr ⟨rfl, rfl⟩)
set_option maxHeartbeats 8000000 in
theorem rtail5 (e0 : e 0 = wv) (e2 : e 2 = .pointer (some ⟨rb, 0, none⟩)) (e4 : e 4 = .pointer (some ⟨sb, 0, none⟩)) (e5 : e 5 = .int .i64 n)
  (hrb : w.heap[rb]? = some (.cells zeroCells.toArray 33 (0, 0))) (hsb : w.heap[sb]? = some (.cells (encStp (Stp.zero 5, none, 0, 0)).toArray 33 (0, 0)))
  (n1 : sb ≠ rb) (hf : Fr [] W0 w) (h2 : W0.heap.size ≤ rb) (h3 : W0.heap.size ≤ sb)
  (hw : SlOf 1 encB w wv (w0 :: x0 :: r)) (hwo : offV wv sb) (hl : ∀ x ∈ r, x.length ≤ 65536) (hn : r.length ≤ 65537)
  (hK : ∀ x ok w', Fr [] W0 w' → ResS (restF ⟨w0, 5, 2, 1⟩ (setN 2 n (Stp.zero 5)) r) x ok w' → K (.tuple #[.agg (encStp x).toArray, .bool ok]) w') :
  W3 Tryd.prog 115 V21 c21_7 (retQ Tryd.prog [.cell 2 33, .tmp 3] K) e w := by
 have cw := cur w
 have hrl := lt_of_get _ _ hrb
 have hsl := lt_of_get _ _ hsb
 have hrb0 := hrb
 unfold zeroCells at hrb
 unfold encStp Stp.zero at hsb
 have nil0 : ∀ w', Own 3 60 w' (.slice none 0 0) 0 (cellsOf encWr []) := fun w' => Own.nil
 obtain ⟨N, hN⟩ : ∃ N, N = (w0 :: x0 :: r).length := ⟨_, rfl⟩
 have hN2 : N = r.length + 2 := by rw [hN]; rfl
 obtain ⟨va, vc, hv⟩ := hw.form
 rw [← hN] at hv
 rw [restF_one (by simp)] at hK
 by_cases h1 : r.length = 1
 ·obtain ⟨y, hy⟩ : ∃ y, r = [y] := List.length_eq_one_iff.1 h1
  have dl : decide ((N : Int) = 3) = true := decide_eq_true (by omega)
  obtain ⟨bb, off, cap, ob, hv1, hob1, hbl, _, hcell⟩ := hw.read encB_len 2 y (by rw [hy]; rfl)
  rw [← hN] at hv1
  have hbs : bb ≠ sb := hwo _ _ _ hv1
  have hc0 := fun orig K => hcell 0 (.string (B y)) orig K rfl
  simp only [Nat.add_zero, Nat.mul_one] at hc0
  have i1 : (2 : Int) < (N : Int) := by omega
  have i0 : (0 : Int) ≤ 2 := by decide
  have i2 : (2 : Int).toNat = 2 := rfl
  have hob2 : ∀ o, (w.setB sb o).heap[bb]? = some ob := fun o => by rw [get_setB_ne _ _ _ _ (Ne.symm hbs)]; exact hob1
  rw [hy] at hK
  simp (maxSteps:=4000000)(disch:=first|assumption|(simp only[dz];first|done|assumption|omega)|omega|apply_rules[Fr.refl,Fr.alloc,Fr.drew]|rfl) only [↓gd,gp,Nat.reduceAdd,Nat.reduceEqDiff, ↓hk21, e0, e2, e4, e5, hrb, hsb, hv1, Int.reduceEq, dl, i0, i1, i2, Nat.mul_one, hob2, hc0]
  exact hK (setR 1 y (setN 2 n (Stp.zero 5)), none, 0, 0) _ _ ((hf.setB _ _ (.inr h3)).setB _ _ (.inr h2)) (.inl ⟨rfl, rfl, nil0 _⟩)
 ·have dl : decide ((N : Int) = 3) = false := decide_eq_false (by omega)
  rw [oneR_not h1] at hK
  simp (maxSteps:=4000000)(disch:=first|assumption|(simp only[dz];first|done|assumption|omega)|omega|apply_rules[Fr.refl,Fr.alloc,Fr.drew]|rfl) only [↓gd,gp,Nat.reduceAdd,Nat.reduceEqDiff, ↓hk21, e0, e2, e4, e5, hrb, hsb, hv, Int.reduceEq, dl]
  exact hK ((setN 2 n (Stp.zero 5)), none, 0, 0) _ _ ((hf.setB _ _ (.inr h3)).setB _ _ (.inr h2)) (.inr ⟨rfl, rfl⟩)
set_option maxHeartbeats 8000000 in
theorem rtail6 (e0 : e 0 = wv) (e2 : e 2 = .pointer (some ⟨rb, 0, none⟩)) (e4 : e 4 = .pointer (some ⟨sb, 0, none⟩)) (e5 : e 5 = .int .i64 n)
  (hrb : w.heap[rb]? = some (.cells zeroCells.toArray 33 (0, 0))) (hsb : w.heap[sb]? = some (.cells (encStp (Stp.zero 6, none, 0, 0)).toArray 33 (0, 0)))
  (n1 : sb ≠ rb) (hf : Fr [] W0 w) (h2 : W0.heap.size ≤ rb) (h3 : W0.heap.size ≤ sb)
  (hw : SlOf 1 encB w wv (w0 :: x0 :: r)) (hwo : offV wv sb) (hl : ∀ x ∈ r, x.length ≤ 65536) (hn : r.length ≤ 65537)
  (hK : ∀ x ok w', Fr [] W0 w' → ResS (restF ⟨w0, 6, 2, 0⟩ (setN 2 n (Stp.zero 6)) r) x ok w' → K (.tuple #[.agg (encStp x).toArray, .bool ok]) w') :
  W3 Tryd.prog 115 V21 c21_7 (retQ Tryd.prog [.cell 2 33, .tmp 3] K) e w := by
 have cw := cur w
 have hrl := lt_of_get _ _ hrb
 have hsl := lt_of_get _ _ hsb
 have hrb0 := hrb
 unfold zeroCells at hrb
 unfold encStp Stp.zero at hsb
 have nil0 : ∀ w', Own 3 60 w' (.slice none 0 0) 0 (cellsOf encWr []) := fun w' => Own.nil
 obtain ⟨N, hN⟩ : ∃ N, N = (w0 :: x0 :: r).length := ⟨_, rfl⟩
 have hN2 : N = r.length + 2 := by rw [hN]; rfl
 obtain ⟨va, vc, hv⟩ := hw.form
 rw [← hN] at hv
 rw [restF_plain rfl (by simp)] at hK
 by_cases hr : r = []
 ·have dl : decide ((N : Int) = 2) = true := decide_eq_true (by rw [hN2, hr]; rfl)
  rw [if_pos hr] at hK
  simp (maxSteps:=4000000)(disch:=first|assumption|(simp only[dz];first|done|assumption|omega)|omega|apply_rules[Fr.refl,Fr.alloc,Fr.drew]|rfl) only [↓gd,gp,Nat.reduceAdd,Nat.reduceEqDiff, ↓hk21, e0, e2, e4, e5, hrb, hsb, hv, Int.reduceEq, dl]
  exact hK ((setN 2 n (Stp.zero 6)), none, 0, 0) _ _ ((hf.setB _ _ (.inr h3)).setB _ _ (.inr h2)) (.inl ⟨rfl, rfl, nil0 _⟩)
 ·have dl : decide ((N : Int) = 2) = false := decide_eq_false (fun h => hr (List.eq_nil_of_length_eq_zero (by omega)))
  rw [if_neg hr] at hK
  simp (maxSteps:=4000000)(disch:=first|assumption|(simp only[dz];first|done|assumption|omega)|omega|apply_rules[Fr.refl,Fr.alloc,Fr.drew]|rfl) only [↓gd,gp,Nat.reduceAdd,Nat.reduceEqDiff, ↓hk21, e0, e2, e4, e5, hrb, hsb, hv, Int.reduceEq, dl]
  exact hK ((setN 2 n (Stp.zero 6)), none, 0, 0) _ _ ((hf.setB _ _ (.inr h3)).setB _ _ (.inr h2)) (.inr ⟨rfl, rfl⟩)
set_option maxHeartbeats 8000000 in
theorem rtail7 (e0 : e 0 = wv) (e2 : e 2 = .pointer (some ⟨rb, 0, none⟩)) (e4 : e 4 = .pointer (some ⟨sb, 0, none⟩)) (e5 : e 5 = .int .i64 n)
  (hrb : w.heap[rb]? = some (.cells zeroCells.toArray 33 (0, 0))) (hsb : w.heap[sb]? = some (.cells (encStp (Stp.zero 7, none, 0, 0)).toArray 33 (0, 0)))
  (n1 : sb ≠ rb) (hf : Fr [] W0 w) (h2 : W0.heap.size ≤ rb) (h3 : W0.heap.size ≤ sb)
  (hw : SlOf 1 encB w wv (w0 :: x0 :: r)) (hwo : offV wv sb) (hl : ∀ x ∈ r, x.length ≤ 65536) (hn : r.length ≤ 65537)
  (hK : ∀ x ok w', Fr [] W0 w' → ResS (restF ⟨w0, 7, 2, 0⟩ (setN 2 n (Stp.zero 7)) r) x ok w' → K (.tuple #[.agg (encStp x).toArray, .bool ok]) w') :
  W3 Tryd.prog 115 V21 c21_7 (retQ Tryd.prog [.cell 2 33, .tmp 3] K) e w := by
 have cw := cur w
 have hrl := lt_of_get _ _ hrb
 have hsl := lt_of_get _ _ hsb
 have hrb0 := hrb
 unfold zeroCells at hrb
 unfold encStp Stp.zero at hsb
 have nil0 : ∀ w', Own 3 60 w' (.slice none 0 0) 0 (cellsOf encWr []) := fun w' => Own.nil
 obtain ⟨N, hN⟩ : ∃ N, N = (w0 :: x0 :: r).length := ⟨_, rfl⟩
 have hN2 : N = r.length + 2 := by rw [hN]; rfl
 obtain ⟨va, vc, hv⟩ := hw.form
 rw [← hN] at hv
 rw [restF_plain rfl (by simp)] at hK
 by_cases hr : r = []
 ·have dl : decide ((N : Int) = 2) = true := decide_eq_true (by rw [hN2, hr]; rfl)
  rw [if_pos hr] at hK
  simp (maxSteps:=4000000)(disch:=first|assumption|(simp only[dz];first|done|assumption|omega)|omega|apply_rules[Fr.refl,Fr.alloc,Fr.drew]|rfl) only [↓gd,gp,Nat.reduceAdd,Nat.reduceEqDiff, ↓hk21, e0, e2, e4, e5, hrb, hsb, hv, Int.reduceEq, dl]
  exact hK ((setN 2 n (Stp.zero 7)), none, 0, 0) _ _ ((hf.setB _ _ (.inr h3)).setB _ _ (.inr h2)) (.inl ⟨rfl, rfl, nil0 _⟩)
 ·have dl : decide ((N : Int) = 2) = false := decide_eq_false (fun h => hr (List.eq_nil_of_length_eq_zero (by omega)))
  rw [if_neg hr] at hK
  simp (maxSteps:=4000000)(disch:=first|assumption|(simp only[dz];first|done|assumption|omega)|omega|apply_rules[Fr.refl,Fr.alloc,Fr.drew]|rfl) only [↓gd,gp,Nat.reduceAdd,Nat.reduceEqDiff, ↓hk21, e0, e2, e4, e5, hrb, hsb, hv, Int.reduceEq, dl]
  exact hK ((setN 2 n (Stp.zero 7)), none, 0, 0) _ _ ((hf.setB _ _ (.inr h3)).setB _ _ (.inr h2)) (.inr ⟨rfl, rfl⟩)
set_option maxHeartbeats 8000000 in
theorem rtail8 (e0 : e 0 = wv) (e2 : e 2 = .pointer (some ⟨rb, 0, none⟩)) (e4 : e 4 = .pointer (some ⟨sb, 0, none⟩)) (e5 : e 5 = .int .i64 n)
  (hrb : w.heap[rb]? = some (.cells zeroCells.toArray 33 (0, 0))) (hsb : w.heap[sb]? = some (.cells (encStp (Stp.zero 8, none, 0, 0)).toArray 33 (0, 0)))
  (n1 : sb ≠ rb) (hf : Fr [] W0 w) (h2 : W0.heap.size ≤ rb) (h3 : W0.heap.size ≤ sb)
  (hw : SlOf 1 encB w wv (w0 :: x0 :: r)) (hwo : offV wv sb) (hl : ∀ x ∈ r, x.length ≤ 65536) (hn : r.length ≤ 65537)
  (hK : ∀ x ok w', Fr [] W0 w' → ResS (restF ⟨w0, 8, 3, 0⟩ (setN 3 n (Stp.zero 8)) r) x ok w' → K (.tuple #[.agg (encStp x).toArray, .bool ok]) w') :
  W3 Tryd.prog 115 V21 c21_7 (retQ Tryd.prog [.cell 2 33, .tmp 3] K) e w := by
 have cw := cur w
 have hrl := lt_of_get _ _ hrb
 have hsl := lt_of_get _ _ hsb
 have hrb0 := hrb
 unfold zeroCells at hrb
 unfold encStp Stp.zero at hsb
 have nil0 : ∀ w', Own 3 60 w' (.slice none 0 0) 0 (cellsOf encWr []) := fun w' => Own.nil
 obtain ⟨N, hN⟩ : ∃ N, N = (w0 :: x0 :: r).length := ⟨_, rfl⟩
 have hN2 : N = r.length + 2 := by rw [hN]; rfl
 obtain ⟨va, vc, hv⟩ := hw.form
 rw [← hN] at hv
 rw [restF_plain rfl (by simp)] at hK
 by_cases hr : r = []
 ·have dl : decide ((N : Int) = 2) = true := decide_eq_true (by rw [hN2, hr]; rfl)
  rw [if_pos hr] at hK
  simp (maxSteps:=4000000)(disch:=first|assumption|(simp only[dz];first|done|assumption|omega)|omega|apply_rules[Fr.refl,Fr.alloc,Fr.drew]|rfl) only [↓gd,gp,Nat.reduceAdd,Nat.reduceEqDiff, ↓hk21, e0, e2, e4, e5, hrb, hsb, hv, Int.reduceEq, dl]
  exact hK ((setN 3 n (Stp.zero 8)), none, 0, 0) _ _ ((hf.setB _ _ (.inr h3)).setB _ _ (.inr h2)) (.inl ⟨rfl, rfl, nil0 _⟩)
 ·have dl : decide ((N : Int) = 2) = false := decide_eq_false (fun h => hr (List.eq_nil_of_length_eq_zero (by omega)))
  rw [if_neg hr] at hK
  simp (maxSteps:=4000000)(disch:=first|assumption|(simp only[dz];first|done|assumption|omega)|omega|apply_rules[Fr.refl,Fr.alloc,Fr.drew]|rfl) only [↓gd,gp,Nat.reduceAdd,Nat.reduceEqDiff, ↓hk21, e0, e2, e4, e5, hrb, hsb, hv, Int.reduceEq, dl]
  exact hK ((setN 3 n (Stp.zero 8)), none, 0, 0) _ _ ((hf.setB _ _ (.inr h3)).setB _ _ (.inr h2)) (.inr ⟨rfl, rfl⟩)
set_option maxHeartbeats 8000000 in
theorem rtail9 (e0 : e 0 = wv) (e2 : e 2 = .pointer (some ⟨rb, 0, none⟩)) (e4 : e 4 = .pointer (some ⟨sb, 0, none⟩)) (e5 : e 5 = .int .i64 n)
  (hrb : w.heap[rb]? = some (.cells zeroCells.toArray 33 (0, 0))) (hsb : w.heap[sb]? = some (.cells (encStp (Stp.zero 9, none, 0, 0)).toArray 33 (0, 0)))
  (n1 : sb ≠ rb) (hf : Fr [] W0 w) (h2 : W0.heap.size ≤ rb) (h3 : W0.heap.size ≤ sb)
  (hw : SlOf 1 encB w wv (w0 :: x0 :: r)) (hwo : offV wv sb) (hl : ∀ x ∈ r, x.length ≤ 65536) (hn : r.length ≤ 65537)
  (hK : ∀ x ok w', Fr [] W0 w' → ResS (restF ⟨w0, 9, 3, 0⟩ (setN 3 n (Stp.zero 9)) r) x ok w' → K (.tuple #[.agg (encStp x).toArray, .bool ok]) w') :
  W3 Tryd.prog 115 V21 c21_7 (retQ Tryd.prog [.cell 2 33, .tmp 3] K) e w := by
 have cw := cur w
 have hrl := lt_of_get _ _ hrb
 have hsl := lt_of_get _ _ hsb
 have hrb0 := hrb
 unfold zeroCells at hrb
 unfold encStp Stp.zero at hsb
 have nil0 : ∀ w', Own 3 60 w' (.slice none 0 0) 0 (cellsOf encWr []) := fun w' => Own.nil
 obtain ⟨N, hN⟩ : ∃ N, N = (w0 :: x0 :: r).length := ⟨_, rfl⟩
 have hN2 : N = r.length + 2 := by rw [hN]; rfl
 obtain ⟨va, vc, hv⟩ := hw.form
 rw [← hN] at hv
 rw [restF_plain rfl (by simp)] at hK
 by_cases hr : r = []
 ·have dl : decide ((N : Int) = 2) = true := decide_eq_true (by rw [hN2, hr]; rfl)
  rw [if_pos hr] at hK
  simp (maxSteps:=4000000)(disch:=first|assumption|(simp only[dz];first|done|assumption|omega)|omega|apply_rules[Fr.refl,Fr.alloc,Fr.drew]|rfl) only [↓gd,gp,Nat.reduceAdd,Nat.reduceEqDiff, ↓hk21, e0, e2, e4, e5, hrb, hsb, hv, Int.reduceEq, dl]
  exact hK ((setN 3 n (Stp.zero 9)), none, 0, 0) _ _ ((hf.setB _ _ (.inr h3)).setB _ _ (.inr h2)) (.inl ⟨rfl, rfl, nil0 _⟩)
 ·have dl : decide ((N : Int) = 2) = false := decide_eq_false (fun h => hr (List.eq_nil_of_length_eq_zero (by omega)))
  rw [if_neg hr] at hK
  simp (maxSteps:=4000000)(disch:=first|assumption|(simp only[dz];first|done|assumption|omega)|omega|apply_rules[Fr.refl,Fr.alloc,Fr.drew]|rfl) only [↓gd,gp,Nat.reduceAdd,Nat.reduceEqDiff, ↓hk21, e0, e2, e4, e5, hrb, hsb, hv, Int.reduceEq, dl]
  exact hK ((setN 3 n (Stp.zero 9)), none, 0, 0) _ _ ((hf.setB _ _ (.inr h3)).setB _ _ (.inr h2)) (.inr ⟨rfl, rfl⟩)
set_option maxHeartbeats 8000000 in
theorem rtail10 (e0 : e 0 = wv) (e2 : e 2 = .pointer (some ⟨rb, 0, none⟩)) (e4 : e 4 = .pointer (some ⟨sb, 0, none⟩)) (e5 : e 5 = .int .i64 n)
  (hrb : w.heap[rb]? = some (.cells zeroCells.toArray 33 (0, 0))) (hsb : w.heap[sb]? = some (.cells (encStp (Stp.zero 10, none, 0, 0)).toArray 33 (0, 0)))
  (n1 : sb ≠ rb) (hf : Fr [] W0 w) (h2 : W0.heap.size ≤ rb) (h3 : W0.heap.size ≤ sb)
  (hw : SlOf 1 encB w wv (w0 :: x0 :: r)) (hwo : offV wv sb) (hl : ∀ x ∈ r, x.length ≤ 65536) (hn : r.length ≤ 65537)
  (hK : ∀ x ok w', Fr [] W0 w' → ResS (restF ⟨w0, 10, 3, 0⟩ (setN 3 n (Stp.zero 10)) r) x ok w' → K (.tuple #[.agg (encStp x).toArray, .bool ok]) w') :
  W3 Tryd.prog 115 V21 c21_7 (retQ Tryd.prog [.cell 2 33, .tmp 3] K) e w := by
 have cw := cur w
 have hrl := lt_of_get _ _ hrb
 have hsl := lt_of_get _ _ hsb
 have hrb0 := hrb
 unfold zeroCells at hrb
 unfold encStp Stp.zero at hsb
 have nil0 : ∀ w', Own 3 60 w' (.slice none 0 0) 0 (cellsOf encWr []) := fun w' => Own.nil
 obtain ⟨N, hN⟩ : ∃ N, N = (w0 :: x0 :: r).length := ⟨_, rfl⟩
 have hN2 : N = r.length + 2 := by rw [hN]; rfl
 obtain ⟨va, vc, hv⟩ := hw.form
 rw [← hN] at hv
 rw [restF_plain rfl (by simp)] at hK
 by_cases hr : r = []
 ·have dl : decide ((N : Int) = 2) = true := decide_eq_true (by rw [hN2, hr]; rfl)
  rw [if_pos hr] at hK
  simp (maxSteps:=4000000)(disch:=first|assumption|(simp only[dz];first|done|assumption|omega)|omega|apply_rules[Fr.refl,Fr.alloc,Fr.drew]|rfl) only [↓gd,gp,Nat.reduceAdd,Nat.reduceEqDiff, ↓hk21, e0, e2, e4, e5, hrb, hsb, hv, Int.reduceEq, dl]
  exact hK ((setN 3 n (Stp.zero 10)), none, 0, 0) _ _ ((hf.setB _ _ (.inr h3)).setB _ _ (.inr h2)) (.inl ⟨rfl, rfl, nil0 _⟩)
 ·have dl : decide ((N : Int) = 2) = false := decide_eq_false (fun h => hr (List.eq_nil_of_length_eq_zero (by omega)))
  rw [if_neg hr] at hK
  simp (maxSteps:=4000000)(disch:=first|assumption|(simp only[dz];first|done|assumption|omega)|omega|apply_rules[Fr.refl,Fr.alloc,Fr.drew]|rfl) only [↓gd,gp,Nat.reduceAdd,Nat.reduceEqDiff, ↓hk21, e0, e2, e4, e5, hrb, hsb, hv, Int.reduceEq, dl]
  exact hK ((setN 3 n (Stp.zero 10)), none, 0, 0) _ _ ((hf.setB _ _ (.inr h3)).setB _ _ (.inr h2)) (.inr ⟨rfl, rfl⟩)
set_option maxHeartbeats 8000000 in
theorem rtail11 (e0 : e 0 = wv) (e2 : e 2 = .pointer (some ⟨rb, 0, none⟩)) (e4 : e 4 = .pointer (some ⟨sb, 0, none⟩)) (e5 : e 5 = .int .i64 n)
  (hrb : w.heap[rb]? = some (.cells zeroCells.toArray 33 (0, 0))) (hsb : w.heap[sb]? = some (.cells (encStp (Stp.zero 11, none, 0, 0)).toArray 33 (0, 0)))
  (n1 : sb ≠ rb) (hf : Fr [] W0 w) (h2 : W0.heap.size ≤ rb) (h3 : W0.heap.size ≤ sb)
  (hw : SlOf 1 encB w wv (w0 :: x0 :: r)) (hwo : offV wv sb) (hl : ∀ x ∈ r, x.length ≤ 65536) (hn : r.length ≤ 65537)
  (hK : ∀ x ok w', Fr [] W0 w' → ResS (restF ⟨w0, 11, 4, 0⟩ (setN 4 n (Stp.zero 11)) r) x ok w' → K (.tuple #[.agg (encStp x).toArray, .bool ok]) w') :
  W3 Tryd.prog 115 V21 c21_7 (retQ Tryd.prog [.cell 2 33, .tmp 3] K) e w := by
 have cw := cur w
 have hrl := lt_of_get _ _ hrb
 have hsl := lt_of_get _ _ hsb
 have hrb0 := hrb
 unfold zeroCells at hrb
 unfold encStp Stp.zero at hsb
 have nil0 : ∀ w', Own 3 60 w' (.slice none 0 0) 0 (cellsOf encWr []) := fun w' => Own.nil
 obtain ⟨N, hN⟩ : ∃ N, N = (w0 :: x0 :: r).length := ⟨_, rfl⟩
 have hN2 : N = r.length + 2 := by rw [hN]; rfl
 obtain ⟨va, vc, hv⟩ := hw.form
 rw [← hN] at hv
 rw [restF_plain rfl (by simp)] at hK
 by_cases hr : r = []
 ·have dl : decide ((N : Int) = 2) = true := decide_eq_true (by rw [hN2, hr]; rfl)
  rw [if_pos hr] at hK
  simp (maxSteps:=4000000)(disch:=first|assumption|(simp only[dz];first|done|assumption|omega)|omega|apply_rules[Fr.refl,Fr.alloc,Fr.drew]|rfl) only [↓gd,gp,Nat.reduceAdd,Nat.reduceEqDiff, ↓hk21, e0, e2, e4, e5, hrb, hsb, hv, Int.reduceEq, dl]
  exact hK ((setN 4 n (Stp.zero 11)), none, 0, 0) _ _ ((hf.setB _ _ (.inr h3)).setB _ _ (.inr h2)) (.inl ⟨rfl, rfl, nil0 _⟩)
 ·have dl : decide ((N : Int) = 2) = false := decide_eq_false (fun h => hr (List.eq_nil_of_length_eq_zero (by omega)))
  rw [if_neg hr] at hK
  simp (maxSteps:=4000000)(disch:=first|assumption|(simp only[dz];first|done|assumption|omega)|omega|apply_rules[Fr.refl,Fr.alloc,Fr.drew]|rfl) only [↓gd,gp,Nat.reduceAdd,Nat.reduceEqDiff, ↓hk21, e0, e2, e4, e5, hrb, hsb, hv, Int.reduceEq, dl]
  exact hK ((setN 4 n (Stp.zero 11)), none, 0, 0) _ _ ((hf.setB _ _ (.inr h3)).setB _ _ (.inr h2)) (.inr ⟨rfl, rfl⟩)
set_option maxHeartbeats 8000000 in
theorem rtail12 (e0 : e 0 = wv) (e2 : e 2 = .pointer (some ⟨rb, 0, none⟩)) (e4 : e 4 = .pointer (some ⟨sb, 0, none⟩)) (e5 : e 5 = .int .i64 n)
  (hrb : w.heap[rb]? = some (.cells zeroCells.toArray 33 (0, 0))) (hsb : w.heap[sb]? = some (.cells (encStp (Stp.zero 12, none, 0, 0)).toArray 33 (0, 0)))
  (n1 : sb ≠ rb) (hf : Fr [] W0 w) (h2 : W0.heap.size ≤ rb) (h3 : W0.heap.size ≤ sb)
  (hw : SlOf 1 encB w wv (w0 :: x0 :: r)) (hwo : offV wv sb) (hl : ∀ x ∈ r, x.length ≤ 65536) (hn : r.length ≤ 65537)
  (hK : ∀ x ok w', Fr [] W0 w' → ResS (restF ⟨w0, 12, 4, 0⟩ (setN 4 n (Stp.zero 12)) r) x ok w' → K (.tuple #[.agg (encStp x).toArray, .bool ok]) w') :
  W3 Tryd.prog 115 V21 c21_7 (retQ Tryd.prog [.cell 2 33, .tmp 3] K) e w := by
 have cw := cur w
 have hrl := lt_of_get _ _ hrb
 have hsl := lt_of_get _ _ hsb
 have hrb0 := hrb
 unfold zeroCells at hrb
 unfold encStp Stp.zero at hsb
 have nil0 : ∀ w', Own 3 60 w' (.slice none 0 0) 0 (cellsOf encWr []) := fun w' => Own.nil
 obtain ⟨N, hN⟩ : ∃ N, N = (w0 :: x0 :: r).length := ⟨_, rfl⟩
 have hN2 : N = r.length + 2 := by rw [hN]; rfl
 obtain ⟨va, vc, hv⟩ := hw.form
 rw [← hN] at hv
 rw [restF_plain rfl (by simp)] at hK
 by_cases hr : r = []
 ·have dl : decide ((N : Int) = 2) = true := decide_eq_true (by rw [hN2, hr]; rfl)
  rw [if_pos hr] at hK
  simp (maxSteps:=4000000)(disch:=first|assumption|(simp only[dz];first|done|assumption|omega)|omega|apply_rules[Fr.refl,Fr.alloc,Fr.drew]|rfl) only [↓gd,gp,Nat.reduceAdd,Nat.reduceEqDiff, ↓hk21, e0, e2, e4, e5, hrb, hsb, hv, Int.reduceEq, dl]
  exact hK ((setN 4 n (Stp.zero 12)), none, 0, 0) _ _ ((hf.setB _ _ (.inr h3)).setB _ _ (.inr h2)) (.inl ⟨rfl, rfl, nil0 _⟩)
 ·have dl : decide ((N : Int) = 2) = false := decide_eq_false (fun h => hr (List.eq_nil_of_length_eq_zero (by omega)))
  rw [if_neg hr] at hK
  simp (maxSteps:=4000000)(disch:=first|assumption|(simp only[dz];first|done|assumption|omega)|omega|apply_rules[Fr.refl,Fr.alloc,Fr.drew]|rfl) only [↓gd,gp,Nat.reduceAdd,Nat.reduceEqDiff, ↓hk21, e0, e2, e4, e5, hrb, hsb, hv, Int.reduceEq, dl]
  exact hK ((setN 4 n (Stp.zero 12)), none, 0, 0) _ _ ((hf.setB _ _ (.inr h3)).setB _ _ (.inr h2)) (.inr ⟨rfl, rfl⟩)
set_option maxHeartbeats 8000000 in
theorem rtail13 (e0 : e 0 = wv) (e2 : e 2 = .pointer (some ⟨rb, 0, none⟩)) (e4 : e 4 = .pointer (some ⟨sb, 0, none⟩)) (e5 : e 5 = .int .i64 n)
  (hrb : w.heap[rb]? = some (.cells zeroCells.toArray 33 (0, 0))) (hsb : w.heap[sb]? = some (.cells (encStp (Stp.zero 13, none, 0, 0)).toArray 33 (0, 0)))
  (n1 : sb ≠ rb) (hf : Fr [] W0 w) (h2 : W0.heap.size ≤ rb) (h3 : W0.heap.size ≤ sb)
  (hw : SlOf 1 encB w wv (w0 :: x0 :: r)) (hwo : offV wv sb) (hl : ∀ x ∈ r, x.length ≤ 65536) (hn : r.length ≤ 65537)
  (hK : ∀ x ok w', Fr [] W0 w' → ResS (restF ⟨w0, 13, 4, 0⟩ (setN 4 n (Stp.zero 13)) r) x ok w' → K (.tuple #[.agg (encStp x).toArray, .bool ok]) w') :
  W3 Tryd.prog 115 V21 c21_7 (retQ Tryd.prog [.cell 2 33, .tmp 3] K) e w := by
 have cw := cur w
 have hrl := lt_of_get _ _ hrb
 have hsl := lt_of_get _ _ hsb
 have hrb0 := hrb
 unfold zeroCells at hrb
 unfold encStp Stp.zero at hsb
 have nil0 : ∀ w', Own 3 60 w' (.slice none 0 0) 0 (cellsOf encWr []) := fun w' => Own.nil
 obtain ⟨N, hN⟩ : ∃ N, N = (w0 :: x0 :: r).length := ⟨_, rfl⟩
 have hN2 : N = r.length + 2 := by rw [hN]; rfl
 obtain ⟨va, vc, hv⟩ := hw.form
 rw [← hN] at hv
 rw [restF_plain rfl (by simp)] at hK
 by_cases hr : r = []
 ·have dl : decide ((N : Int) = 2) = true := decide_eq_true (by rw [hN2, hr]; rfl)
  rw [if_pos hr] at hK
  simp (maxSteps:=4000000)(disch:=first|assumption|(simp only[dz];first|done|assumption|omega)|omega|apply_rules[Fr.refl,Fr.alloc,Fr.drew]|rfl) only [↓gd,gp,Nat.reduceAdd,Nat.reduceEqDiff, ↓hk21, e0, e2, e4, e5, hrb, hsb, hv, Int.reduceEq, dl]
  exact hK ((setN 4 n (Stp.zero 13)), none, 0, 0) _ _ ((hf.setB _ _ (.inr h3)).setB _ _ (.inr h2)) (.inl ⟨rfl, rfl, nil0 _⟩)
 ·have dl : decide ((N : Int) = 2) = false := decide_eq_false (fun h => hr (List.eq_nil_of_length_eq_zero (by omega)))
  rw [if_neg hr] at hK
  simp (maxSteps:=4000000)(disch:=first|assumption|(simp only[dz];first|done|assumption|omega)|omega|apply_rules[Fr.refl,Fr.alloc,Fr.drew]|rfl) only [↓gd,gp,Nat.reduceAdd,Nat.reduceEqDiff, ↓hk21, e0, e2, e4, e5, hrb, hsb, hv, Int.reduceEq, dl]
  exact hK ((setN 4 n (Stp.zero 13)), none, 0, 0) _ _ ((hf.setB _ _ (.inr h3)).setB _ _ (.inr h2)) (.inr ⟨rfl, rfl⟩)
set_option maxHeartbeats 8000000 in
theorem rtail14 (e0 : e 0 = wv) (e2 : e 2 = .pointer (some ⟨rb, 0, none⟩)) (e4 : e 4 = .pointer (some ⟨sb, 0, none⟩)) (e5 : e 5 = .int .i64 n)
  (hrb : w.heap[rb]? = some (.cells zeroCells.toArray 33 (0, 0))) (hsb : w.heap[sb]? = some (.cells (encStp (Stp.zero 14, none, 0, 0)).toArray 33 (0, 0)))
  (n1 : sb ≠ rb) (hf : Fr [] W0 w) (h2 : W0.heap.size ≤ rb) (h3 : W0.heap.size ≤ sb)
  (hw : SlOf 1 encB w wv (w0 :: x0 :: r)) (hwo : offV wv sb) (hl : ∀ x ∈ r, x.length ≤ 65536) (hn : r.length ≤ 65537)
  (hK : ∀ x ok w', Fr [] W0 w' → ResS (restF ⟨w0, 14, 4, 0⟩ (setN 4 n (Stp.zero 14)) r) x ok w' → K (.tuple #[.agg (encStp x).toArray, .bool ok]) w') :
  W3 Tryd.prog 115 V21 c21_7 (retQ Tryd.prog [.cell 2 33, .tmp 3] K) e w := by
 have cw := cur w
 have hrl := lt_of_get _ _ hrb
 have hsl := lt_of_get _ _ hsb
 have hrb0 := hrb
 unfold zeroCells at hrb
 unfold encStp Stp.zero at hsb
 have nil0 : ∀ w', Own 3 60 w' (.slice none 0 0) 0 (cellsOf encWr []) := fun w' => Own.nil
 obtain ⟨N, hN⟩ : ∃ N, N = (w0 :: x0 :: r).length := ⟨_, rfl⟩
 have hN2 : N = r.length + 2 := by rw [hN]; rfl
 obtain ⟨va, vc, hv⟩ := hw.form
 rw [← hN] at hv
 rw [restF_plain rfl (by simp)] at hK
 by_cases hr : r = []
 ·have dl : decide ((N : Int) = 2) = true := decide_eq_true (by rw [hN2, hr]; rfl)
  rw [if_pos hr] at hK
  simp (maxSteps:=4000000)(disch:=first|assumption|(simp only[dz];first|done|assumption|omega)|omega|apply_rules[Fr.refl,Fr.alloc,Fr.drew]|rfl) only [↓gd,gp,Nat.reduceAdd,Nat.reduceEqDiff, ↓hk21, e0, e2, e4, e5, hrb, hsb, hv, Int.reduceEq, dl]
  exact hK ((setN 4 n (Stp.zero 14)), none, 0, 0) _ _ ((hf.setB _ _ (.inr h3)).setB _ _ (.inr h2)) (.inl ⟨rfl, rfl, nil0 _⟩)
 ·have dl : decide ((N : Int) = 2) = false := decide_eq_false (fun h => hr (List.eq_nil_of_length_eq_zero (by omega)))
  rw [if_neg hr] at hK
  simp (maxSteps:=4000000)(disch:=first|assumption|(simp only[dz];first|done|assumption|omega)|omega|apply_rules[Fr.refl,Fr.alloc,Fr.drew]|rfl) only [↓gd,gp,Nat.reduceAdd,Nat.reduceEqDiff, ↓hk21, e0, e2, e4, e5, hrb, hsb, hv, Int.reduceEq, dl]
  exact hK ((setN 4 n (Stp.zero 14)), none, 0, 0) _ _ ((hf.setB _ _ (.inr h3)).setB _ _ (.inr h2)) (.inr ⟨rfl, rfl⟩)
set_option maxHeartbeats 8000000 in
theorem rtail15 (e0 : e 0 = wv) (e2 : e 2 = .pointer (some ⟨rb, 0, none⟩)) (e4 : e 4 = .pointer (some ⟨sb, 0, none⟩)) (e5 : e 5 = .int .i64 n)
  (hrb : w.heap[rb]? = some (.cells zeroCells.toArray 33 (0, 0))) (hsb : w.heap[sb]? = some (.cells (encStp (Stp.zero 15, none, 0, 0)).toArray 33 (0, 0)))
  (n1 : sb ≠ rb) (hf : Fr [] W0 w) (h2 : W0.heap.size ≤ rb) (h3 : W0.heap.size ≤ sb)
  (hw : SlOf 1 encB w wv (w0 :: x0 :: r)) (hwo : offV wv sb) (hl : ∀ x ∈ r, x.length ≤ 65536) (hn : r.length ≤ 65537)
  (hK : ∀ x ok w', Fr [] W0 w' → ResS (restF ⟨w0, 15, 1, 0⟩ (setN 1 n (Stp.zero 15)) r) x ok w' → K (.tuple #[.agg (encStp x).toArray, .bool ok]) w') :
  W3 Tryd.prog 115 V21 c21_7 (retQ Tryd.prog [.cell 2 33, .tmp 3] K) e w := by
 have cw := cur w
 have hrl := lt_of_get _ _ hrb
 have hsl := lt_of_get _ _ hsb
 have hrb0 := hrb
 unfold zeroCells at hrb
 unfold encStp Stp.zero at hsb
 have nil0 : ∀ w', Own 3 60 w' (.slice none 0 0) 0 (cellsOf encWr []) := fun w' => Own.nil
 obtain ⟨N, hN⟩ : ∃ N, N = (w0 :: x0 :: r).length := ⟨_, rfl⟩
 have hN2 : N = r.length + 2 := by rw [hN]; rfl
 obtain ⟨va, vc, hv⟩ := hw.form
 rw [← hN] at hv
 rw [restF_plain rfl (by simp)] at hK
 by_cases hr : r = []
 ·have dl : decide ((N : Int) = 2) = true := decide_eq_true (by rw [hN2, hr]; rfl)
  rw [if_pos hr] at hK
  simp (maxSteps:=4000000)(disch:=first|assumption|(simp only[dz];first|done|assumption|omega)|omega|apply_rules[Fr.refl,Fr.alloc,Fr.drew]|rfl) only [↓gd,gp,Nat.reduceAdd,Nat.reduceEqDiff, ↓hk21, e0, e2, e4, e5, hrb, hsb, hv, Int.reduceEq, dl]
  exact hK ((setN 1 n (Stp.zero 15)), none, 0, 0) _ _ ((hf.setB _ _ (.inr h3)).setB _ _ (.inr h2)) (.inl ⟨rfl, rfl, nil0 _⟩)
 ·have dl : decide ((N : Int) = 2) = false := decide_eq_false (fun h => hr (List.eq_nil_of_length_eq_zero (by omega)))
  rw [if_neg hr] at hK
  simp (maxSteps:=4000000)(disch:=first|assumption|(simp only[dz];first|done|assumption|omega)|omega|apply_rules[Fr.refl,Fr.alloc,Fr.drew]|rfl) only [↓gd,gp,Nat.reduceAdd,Nat.reduceEqDiff, ↓hk21, e0, e2, e4, e5, hrb, hsb, hv, Int.reduceEq, dl]
  exact hK ((setN 1 n (Stp.zero 15)), none, 0, 0) _ _ ((hf.setB _ _ (.inr h3)).setB _ _ (.inr h2)) (.inr ⟨rfl, rfl⟩)
set_option maxHeartbeats 8000000 in
theorem rtail16 (e0 : e 0 = wv) (e2 : e 2 = .pointer (some ⟨rb, 0, none⟩)) (e4 : e 4 = .pointer (some ⟨sb, 0, none⟩)) (e5 : e 5 = .int .i64 n)
  (hrb : w.heap[rb]? = some (.cells zeroCells.toArray 33 (0, 0))) (hsb : w.heap[sb]? = some (.cells (encStp (Stp.zero 16, none, 0, 0)).toArray 33 (0, 0)))
  (n1 : sb ≠ rb) (hf : Fr [] W0 w) (h2 : W0.heap.size ≤ rb) (h3 : W0.heap.size ≤ sb)
  (hw : SlOf 1 encB w wv (w0 :: x0 :: r)) (hwo : offV wv sb) (hl : ∀ x ∈ r, x.length ≤ 65536) (hn : r.length ≤ 65537)
  (hK : ∀ x ok w', Fr [] W0 w' → ResS (restF ⟨w0, 16, 1, 2⟩ (setN 1 n (Stp.zero 16)) r) x ok w' → K (.tuple #[.agg (encStp x).toArray, .bool ok]) w') :
  W3 Tryd.prog 115 V21 c21_7 (retQ Tryd.prog [.cell 2 33, .tmp 3] K) e w := by
 have cw := cur w
 have hrl := lt_of_get _ _ hrb
 have hsl := lt_of_get _ _ hsb
 have hrb0 := hrb
 unfold zeroCells at hrb
 unfold encStp Stp.zero at hsb
 have nil0 : ∀ w', Own 3 60 w' (.slice none 0 0) 0 (cellsOf encWr []) := fun w' => Own.nil
 obtain ⟨N, hN⟩ : ∃ N, N = (w0 :: x0 :: r).length := ⟨_, rfl⟩
 have hN2 : N = r.length + 2 := by rw [hN]; rfl
 obtain ⟨va, vc, hv⟩ := hw.form
 rw [← hN] at hv
 rw [restF_one (by simp)] at hK
 by_cases h1 : r.length = 1
 ·obtain ⟨y, hy⟩ : ∃ y, r = [y] := List.length_eq_one_iff.1 h1
  have dl : decide ((N : Int) = 3) = true := decide_eq_true (by omega)
  obtain ⟨bb, off, cap, ob, hv1, hob1, hbl, _, hcell⟩ := hw.read encB_len 2 y (by rw [hy]; rfl)
  rw [← hN] at hv1
  have hbs : bb ≠ sb := hwo _ _ _ hv1
  have hc0 := fun orig K => hcell 0 (.string (B y)) orig K rfl
  simp only [Nat.add_zero, Nat.mul_one] at hc0
  have i1 : (2 : Int) < (N : Int) := by omega
  have i0 : (0 : Int) ≤ 2 := by decide
  have i2 : (2 : Int).toNat = 2 := rfl
  have hob2 : ∀ o, (w.setB sb o).heap[bb]? = some ob := fun o => by rw [get_setB_ne _ _ _ _ (Ne.symm hbs)]; exact hob1
  rw [hy] at hK
  simp (maxSteps:=4000000)(disch:=first|assumption|(simp only[dz];first|done|assumption|omega)|omega|apply_rules[Fr.refl,Fr.alloc,Fr.drew]|rfl) only [↓gd,gp,Nat.reduceAdd,Nat.reduceEqDiff, ↓hk21, e0, e2, e4, e5, hrb, hsb, hv1, Int.reduceEq, dl, i0, i1, i2, Nat.mul_one, hob2, hc0]
  exact hK (setR 2 y (setN 1 n (Stp.zero 16)), none, 0, 0) _ _ ((hf.setB _ _ (.inr h3)).setB _ _ (.inr h2)) (.inl ⟨rfl, rfl, nil0 _⟩)
 ·have dl : decide ((N : Int) = 3) = false := decide_eq_false (by omega)
  rw [oneR_not h1] at hK
  simp (maxSteps:=4000000)(disch:=first|assumption|(simp only[dz];first|done|assumption|omega)|omega|apply_rules[Fr.refl,Fr.alloc,Fr.drew]|rfl) only [↓gd,gp,Nat.reduceAdd,Nat.reduceEqDiff, ↓hk21, e0, e2, e4, e5, hrb, hsb, hv, Int.reduceEq, dl]
  exact hK ((setN 1 n (Stp.zero 16)), none, 0, 0) _ _ ((hf.setB _ _ (.inr h3)).setB _ _ (.inr h2)) (.inr ⟨rfl, rfl⟩)
end
end Go.Proofs.YtbbjnplellanaaaDoor
namespace Go.Proofs.YtbbjnplellanaaaDoor
open Go.VW
set_option maxHeartbeats 16000000 in
theorem rstep_spec {w0 : Bs} {r : List Bs} {w : World} {wv : Value} {K : Value → World → Prop} (hw : SlOf 1 encB w wv (w0 :: r)) (hl : ∀ x ∈ r, x.length ≤ 65536) (hn : r.length ≤ 65536)
  (hK : ∀ x ok w', Fr [] w w' → ResS (stepO (w0 :: r)) x ok w' → K (.tuple #[.agg (encStp x).toArray, .bool ok]) w') : CallsN Tryd.prog 21 [wv] w K := by
 have cw := cur w
 obtain ⟨a, c, hv⟩ := hw.form
 obtain ⟨L, hL⟩ : ∃ L, L = (w0 :: r).length := ⟨_, rfl⟩
 have hL1 : L = r.length + 1 := by rw [hL]; rfl
 rw [← hL] at hv
 obtain ⟨bb, off, cap, ob, hv1, hob1, hbl, _, hcell⟩ := hw.read encB_len 0 w0 rfl
 rw [← hL] at hv1
 have hc0 := fun orig K => hcell 0 (.string (B w0)) orig K rfl
 simp only [Nat.add_zero, Nat.zero_mul, Nat.mul_one] at hc0
 have i1 : (0 : Int) < (L : Int) := by omega
 obtain ⟨wA, hwA⟩ : ∃ wA, wA = w.alloc (.cells zeroCells.toArray 33 (0, 0)) := ⟨_, rfl⟩
 have e0 : (⟨#[]⟩ : ByteArray) = B [] := rfl
 refine call21 ?_
 simp (maxSteps:=4000000)(disch:=first|assumption|(simp only[dz];first|done|assumption|omega)|omega|apply_rules[Fr.refl,Fr.alloc,Fr.drew]|rfl) only [↓gd,gp,Nat.reduceAdd,Nat.reduceEqDiff, ↓hk21, hv1, Int.le_refl, i1, Int.toNat_zero, Nat.zero_mul, Nat.add_zero, hob1, hc0]
 refine rkind_spec ?_
 obtain ⟨k, hk⟩ : ∃ k, k = kindOf w0 := ⟨_, rfl⟩
 rw [← hk]
 obtain ⟨wB, hwB⟩ : ∃ wB, wB = (w.alloc (.cells zeroCells.toArray 33 (0, 0))).alloc (.cells (encStp (Stp.zero k, none, 0, 0)).toArray 33 (0, 0)) := ⟨_, rfl⟩
 have hfB : Fr [] w wB := by rw [hwB]; exact ((Fr.refl _ _).alloc _).alloc _
 have g1 : wB.heap[w.heap.size]? = some (.cells zeroCells.toArray 33 (0, 0)) := by
  rw [hwB, get_alloc_old _ _ _ (by simp only [size_alloc]; omega)]; exact get_alloc_new _ _
 have g2 : wB.heap[w.heap.size + 1]? = some (.cells (encStp (Stp.zero k, none, 0, 0)).toArray 33 (0, 0)) := by
  have := get_alloc_new (w.alloc (.cells zeroCells.toArray 33 (0, 0))) (.cells (encStp (Stp.zero k, none, 0, 0)).toArray 33 (0, 0))
  rw [size_alloc] at this; rw [hwB]; exact this
 have cwB := cur wB
 have cwA : Cur (w.alloc (.cells ([.int .i64 0, .int .i64 0, .int .i64 0, .int .i64 0, .int .i64 0, .string ⟨#[]⟩, .slice none 0 0, .string ⟨#[]⟩] : List Value).toArray 33 (0, 0))) := cur _
 simp (maxSteps:=4000000)(disch:=first|assumption|(simp only[dz];first|done|assumption|omega)|omega|apply_rules[Fr.refl,Fr.alloc,Fr.drew]|rfl) only [↓gd,gp,Nat.reduceAdd,Nat.reduceEqDiff, ↓c21_9_s, ↓c21_15_s, ↓c21_21_s, ↓c21_25_s, ↓c21_28_s, ↓c21_27_s, ↓c21_26_s, ↓c21_24_s, ↓c21_23_s, ↓c21_22_s, ↓c21_20_s, ↓c21_30_s, ↓c21_29_s, ↓c21_19_s, ↓c21_18_s, ↓c21_17_s, ↓c21_16_s, ↓c21_14_s, ↓c21_35_s, ↓c21_38_s, ↓c21_39_s, ↓c21_37_s, ↓c21_36_s, ↓c21_34_s, ↓c21_42_s, ↓c21_41_s, ↓c21_40_s, ↓c21_33_s, ↓c21_32_s, ↓c21_45_s, ↓c21_44_s, ↓c21_43_s, ↓c21_31_s, ↓c21_13_s, ↓c21_12_s, ↓c21_11_s, ↓c21_10_s, ↓c21_8_s, ↓c21_50_s, ↓c21_53_s, ↓c21_56_s, ↓c21_57_s, ↓c21_55_s, ↓c21_62_s, ↓c21_61_s, ↓c21_60_s, ↓c21_59_s, ↓c21_58_s, ↓c21_54_s, ↓c21_52_s, ↓c21_67_s, ↓c21_66_s, ↓c21_65_s, ↓c21_64_s, ↓c21_63_s, ↓c21_51_s, ↓c21_49_s, ↓c21_76_s, ↓c21_75_s, ↓c21_74_s, ↓c21_73_s, ↓c21_72_s, ↓c21_71_s, ↓c21_70_s, ↓c21_69_s, ↓c21_68_s, ↓c21_48_s, ↓c21_47_s, ↓c21_46_s, ↓c21_7_s, ↓c21_79_s, ↓c21_78_s, ↓c21_77_s, ↓c21_6_s, ↓c21_5_s, ↓c21_82_s, ↓c21_81_s, ↓c21_80_s, ↓c21_4_s, ↓c21_85_s, ↓c21_84_s, ↓c21_83_s, ↓c21_3_s, ↓c21_88_s, ↓c21_87_s, ↓c21_86_s, ↓c21_1_s, ↓c21_s, ↓w3t_21]
 show W3 _ _ _ _ _ _ ((w.alloc (.cells zeroCells.toArray 33 (0, 0))).alloc (.cells (encStp (Stp.zero k, none, 0, 0)).toArray 33 (0, 0)))
 rw [← hwB]
 have g1' := g1
 have g2' := g2
 unfold zeroCells at g1'
 unfold encStp Stp.zero at g2'
 have hl1 := lt_of_get _ _ g1
 have hl2 := lt_of_get _ _ g2
 have nil0 : ∀ w', Own 3 60 w' (.slice none 0 0) 0 (cellsOf encWr []) := fun w' => Own.nil
 have fr2 : ∀ {w' : World} (h : Fr [] w w') (o : Obj), Fr [] w (w'.setB w.heap.size o) := fun h o => h.setB _ _ (.inr (Nat.le_refl _))
 rw [stepO_cons] at hK
 rcases find_kind (l := w0) with ⟨hfd, hk0⟩ | ⟨f, hfd, hkf, hmem⟩
 ·rw [hfd] at hK
  have hk' : k = 0 := by omega
  have d : decide ((k : Int) = 0) = true := decide_eq_true (by omega)
  simp (maxSteps:=4000000)(disch:=first|assumption|(simp only[dz];first|done|assumption|omega)|omega|apply_rules[Fr.refl,Fr.alloc,Fr.drew]|rfl) only [↓gd,gp,Nat.reduceAdd,Nat.reduceEqDiff, ↓hk21, g1', g2', d]
  exact hK (Stp.zero k, none, 0, 0) _ _ (fr2 hfB _) (.inr ⟨rfl, rfl⟩)
 rw [hfd] at hK
 simp only [Option.bind_some] at hK
 have hk' : k = f.kind := by omega
 subst hk'
 have hk1 : f.kind ≠ 0 := by
  simp only [formsL, List.mem_cons, List.not_mem_nil, or_false] at hmem
  rcases hmem with rfl | rfl | rfl | rfl | rfl | rfl | rfl | rfl | rfl | rfl | rfl | rfl | rfl | rfl | rfl | rfl <;> simp
 have d0 : decide ((f.kind : Int) = 0) = false := decide_eq_false (by omega)
 by_cases h1 : f.kind = 1
 ·have hf1 : f.nf = 0 ∧ f.rf = 0 := by
   simp only [formsL, List.mem_cons, List.not_mem_nil, or_false] at hmem
   rcases hmem with rfl | rfl | rfl | rfl | rfl | rfl | rfl | rfl | rfl | rfl | rfl | rfl | rfl | rfl | rfl | rfl <;> simp at h1 ⊢
  have d1 : decide ((f.kind : Int) = 1) = true := decide_eq_true (by omega)
  unfold stepF at hK
  rw [if_pos hf1.1, restF_plain hf1.2 (by omega)] at hK
  by_cases hr : r = []
  ·have dl : decide ((L : Int) = 1) = true := decide_eq_true (by rw [hL1, hr]; rfl)
   rw [if_pos hr] at hK
   simp (maxSteps:=4000000)(disch:=first|assumption|(simp only[dz];first|done|assumption|omega)|omega|apply_rules[Fr.refl,Fr.alloc,Fr.drew]|rfl) only [↓gd,gp,Nat.reduceAdd,Nat.reduceEqDiff, ↓hk21, g1', g2', d0, d1, dl]
   exact hK (Stp.zero f.kind, none, 0, 0) _ _ (fr2 hfB _) (.inl ⟨rfl, rfl, nil0 _⟩)
  ·have dl : decide ((L : Int) = 1) = false := decide_eq_false (fun h => hr (List.eq_nil_of_length_eq_zero (by omega)))
   rw [if_neg hr] at hK
   simp (maxSteps:=4000000)(disch:=first|assumption|(simp only[dz];first|done|assumption|omega)|omega|apply_rules[Fr.refl,Fr.alloc,Fr.drew]|rfl) only [↓gd,gp,Nat.reduceAdd,Nat.reduceEqDiff, ↓hk21, g1', g2', d0, d1, dl]
   exact hK (Stp.zero f.kind, none, 0, 0) _ _ (fr2 hfB _) (.inr ⟨rfl, rfl⟩)
 have hnf : f.nf ≠ 0 := by
  simp only [formsL, List.mem_cons, List.not_mem_nil, or_false] at hmem
  rcases hmem with rfl | rfl | rfl | rfl | rfl | rfl | rfl | rfl | rfl | rfl | rfl | rfl | rfl | rfl | rfl | rfl <;> simp at h1 ⊢
 have d1 : decide ((f.kind : Int) = 1) = false := decide_eq_false (by omega)
 unfold stepF at hK
 rw [if_neg hnf] at hK
 cases r with
 | nil =>
   have dl : decide ((L : Int) < 2) = true := decide_eq_true (by rw [hL1]; decide)
   simp (maxSteps:=4000000)(disch:=first|assumption|(simp only[dz];first|done|assumption|omega)|omega|apply_rules[Fr.refl,Fr.alloc,Fr.drew]|rfl) only [↓gd,gp,Nat.reduceAdd,Nat.reduceEqDiff, ↓hk21, g1', g2', d0, d1, dl]
   exact hK (Stp.zero f.kind, none, 0, 0) _ _ (fr2 hfB _) (.inr ⟨rfl, rfl⟩)
 | cons x r =>
   have hL2 : L = r.length + 2 := by rw [hL1]; rfl
   have dl : decide ((L : Int) < 2) = false := decide_eq_false (by omega)
   have hwB' := hw.frN hfB
   obtain ⟨b2, off2, cap2, ob2, hv2, hob2, hbl2, _, hcell2⟩ := hwB'.read encB_len 1 x rfl
   rw [← hL] at hv2
   have hc2 := fun orig K => hcell2 0 (.string (B x)) orig K rfl
   simp only [Nat.add_zero, Nat.one_mul, Nat.mul_one] at hc2
   have i2 : (1 : Int) < (L : Int) := by omega
   have i0 : (0 : Int) ≤ 1 := by decide
   have t1 : (1 : Int).toNat = 1 := rfl
   have hvv : (Value.slice (some ⟨bb, off, none⟩) L cap) = .slice (some ⟨b2, off2, none⟩) L cap2 := hv1.symm.trans hv2
   simp only [numR] at hK
   simp (maxSteps:=4000000)(disch:=first|assumption|(simp only[dz];first|done|assumption|omega)|omega|apply_rules[Fr.refl,Fr.alloc,Fr.drew]|rfl) only [↓gd,gp,Nat.reduceAdd,Nat.reduceEqDiff, ↓hk21, g1', g2', d0, d1, dl, hvv, i0, i2, t1, Nat.mul_one, hob2, hc2]
   refine rnumber_spec ?_
   unfold numRes
   cases hq : numO x with
   | none =>
     rw [hq] at hK
     simp (maxSteps:=4000000)(disch:=first|assumption|(simp only[dz];first|done|assumption|omega)|omega|apply_rules[Fr.refl,Fr.alloc,Fr.drew]|rfl) only [↓gd,gp,Nat.reduceAdd,Nat.reduceEqDiff, ↓hk21, g1', g2']
     exact hK (Stp.zero f.kind, none, 0, 0) _ _ (fr2 hfB _) (.inr ⟨rfl, rfl⟩)
   | some n =>
     rw [hq] at hK
     simp only [Option.bind_some] at hK
     simp (maxSteps:=4000000)(disch:=first|assumption|(simp only[dz];first|done|assumption|omega)|omega|apply_rules[Fr.refl,Fr.alloc,Fr.drew]|rfl) only [↓gd,gp,Nat.reduceAdd,Nat.reduceEqDiff, ↓c21_9_s, ↓c21_15_s, ↓c21_21_s, ↓c21_25_s, ↓c21_28_s, ↓c21_27_s, ↓c21_26_s, ↓c21_24_s, ↓c21_23_s, ↓c21_22_s, ↓c21_20_s, ↓c21_30_s, ↓c21_29_s, ↓c21_19_s, ↓c21_18_s, ↓c21_17_s, ↓c21_16_s, ↓c21_14_s, ↓c21_35_s, ↓c21_38_s, ↓c21_39_s, ↓c21_37_s, ↓c21_36_s, ↓c21_34_s, ↓c21_42_s, ↓c21_41_s, ↓c21_40_s, ↓c21_33_s, ↓c21_32_s, ↓c21_45_s, ↓c21_44_s, ↓c21_43_s, ↓c21_31_s, ↓c21_13_s, ↓c21_12_s, ↓c21_11_s, ↓c21_10_s, ↓c21_8_s, ↓c21_50_s, ↓c21_53_s, ↓c21_56_s, ↓c21_57_s, ↓c21_55_s, ↓c21_62_s, ↓c21_61_s, ↓c21_60_s, ↓c21_59_s, ↓c21_58_s, ↓c21_54_s, ↓c21_52_s, ↓c21_67_s, ↓c21_66_s, ↓c21_65_s, ↓c21_64_s, ↓c21_63_s, ↓c21_51_s, ↓c21_49_s, ↓c21_76_s, ↓c21_75_s, ↓c21_74_s, ↓c21_73_s, ↓c21_72_s, ↓c21_71_s, ↓c21_70_s, ↓c21_69_s, ↓c21_68_s, ↓c21_48_s, ↓c21_47_s, ↓c21_46_s, ↓c21_79_s, ↓c21_78_s, ↓c21_77_s, ↓c21_6_s, ↓c21_5_s, ↓c21_82_s, ↓c21_81_s, ↓c21_80_s, ↓c21_4_s, ↓c21_85_s, ↓c21_84_s, ↓c21_83_s, ↓c21_3_s, ↓c21_88_s, ↓c21_87_s, ↓c21_86_s, ↓c21_2_s, ↓c21_1_s, ↓c21_s, ↓w3t_21, g1', g2']
     have hof := offV_fresh hw (by simp) (b := w.heap.size + 1) (by omega)
     have hl' : ∀ y ∈ r, y.length ≤ 65536 := fun y hy => hl y (List.mem_cons_of_mem _ hy)
     have hn' : r.length ≤ 65537 := by simp only [List.length_cons] at hn; omega
     clear hfd hkf hk
     simp only [formsL, List.mem_cons, List.not_mem_nil, or_false] at hmem
     rcases hmem with rfl | rfl | rfl | rfl | rfl | rfl | rfl | rfl | rfl | rfl | rfl | rfl | rfl | rfl | rfl | rfl
     ·exact absurd rfl h1
     ·exact rtail2 (w0 := w0) (x0 := x) (r := r) (W0 := w) (w := wB) (rb := w.heap.size) (sb := w.heap.size + 1) (wv := wv) (n := n) (by rw [hv2]; rfl) rfl rfl rfl g1 g2 (by omega) hfB (by omega) (by omega) hwB' hof hl' hn' hK
     ·exact rtail3 (w0 := w0) (x0 := x) (r := r) (W0 := w) (w := wB) (rb := w.heap.size) (sb := w.heap.size + 1) (wv := wv) (n := n) (by rw [hv2]; rfl) rfl rfl rfl g1 g2 (by omega) hfB (by omega) (by omega) hwB' hof hl' hn' hK
     ·exact rtail4 (w0 := w0) (x0 := x) (r := r) (W0 := w) (w := wB) (rb := w.heap.size) (sb := w.heap.size + 1) (wv := wv) (n := n) (by rw [hv2]; rfl) rfl rfl rfl g1 g2 (by omega) hfB (by omega) (by omega) hwB' hof hl' hn' hK
     ·exact rtail5 (w0 := w0) (x0 := x) (r := r) (W0 := w) (w := wB) (rb := w.heap.size) (sb := w.heap.size + 1) (wv := wv) (n := n) (by rw [hv2]; rfl) rfl rfl rfl g1 g2 (by omega) hfB (by omega) (by omega) hwB' hof hl' hn' hK
     ·exact rtail6 (w0 := w0) (x0 := x) (r := r) (W0 := w) (w := wB) (rb := w.heap.size) (sb := w.heap.size + 1) (wv := wv) (n := n) (by rw [hv2]; rfl) rfl rfl rfl g1 g2 (by omega) hfB (by omega) (by omega) hwB' hof hl' hn' hK
     ·exact rtail7 (w0 := w0) (x0 := x) (r := r) (W0 := w) (w := wB) (rb := w.heap.size) (sb := w.heap.size + 1) (wv := wv) (n := n) (by rw [hv2]; rfl) rfl rfl rfl g1 g2 (by omega) hfB (by omega) (by omega) hwB' hof hl' hn' hK
     ·exact rtail8 (w0 := w0) (x0 := x) (r := r) (W0 := w) (w := wB) (rb := w.heap.size) (sb := w.heap.size + 1) (wv := wv) (n := n) (by rw [hv2]; rfl) rfl rfl rfl g1 g2 (by omega) hfB (by omega) (by omega) hwB' hof hl' hn' hK
     ·exact rtail9 (w0 := w0) (x0 := x) (r := r) (W0 := w) (w := wB) (rb := w.heap.size) (sb := w.heap.size + 1) (wv := wv) (n := n) (by rw [hv2]; rfl) rfl rfl rfl g1 g2 (by omega) hfB (by omega) (by omega) hwB' hof hl' hn' hK
     ·exact rtail10 (w0 := w0) (x0 := x) (r := r) (W0 := w) (w := wB) (rb := w.heap.size) (sb := w.heap.size + 1) (wv := wv) (n := n) (by rw [hv2]; rfl) rfl rfl rfl g1 g2 (by omega) hfB (by omega) (by omega) hwB' hof hl' hn' hK
     ·exact rtail11 (w0 := w0) (x0 := x) (r := r) (W0 := w) (w := wB) (rb := w.heap.size) (sb := w.heap.size + 1) (wv := wv) (n := n) (by rw [hv2]; rfl) rfl rfl rfl g1 g2 (by omega) hfB (by omega) (by omega) hwB' hof hl' hn' hK
     ·exact rtail12 (w0 := w0) (x0 := x) (r := r) (W0 := w) (w := wB) (rb := w.heap.size) (sb := w.heap.size + 1) (wv := wv) (n := n) (by rw [hv2]; rfl) rfl rfl rfl g1 g2 (by omega) hfB (by omega) (by omega) hwB' hof hl' hn' hK
     ·exact rtail13 (w0 := w0) (x0 := x) (r := r) (W0 := w) (w := wB) (rb := w.heap.size) (sb := w.heap.size + 1) (wv := wv) (n := n) (by rw [hv2]; rfl) rfl rfl rfl g1 g2 (by omega) hfB (by omega) (by omega) hwB' hof hl' hn' hK
     ·exact rtail14 (w0 := w0) (x0 := x) (r := r) (W0 := w) (w := wB) (rb := w.heap.size) (sb := w.heap.size + 1) (wv := wv) (n := n) (by rw [hv2]; rfl) rfl rfl rfl g1 g2 (by omega) hfB (by omega) (by omega) hwB' hof hl' hn' hK
     ·exact rtail15 (w0 := w0) (x0 := x) (r := r) (W0 := w) (w := wB) (rb := w.heap.size) (sb := w.heap.size + 1) (wv := wv) (n := n) (by rw [hv2]; rfl) rfl rfl rfl g1 g2 (by omega) hfB (by omega) (by omega) hwB' hof hl' hn' hK
     ·exact rtail16 (w0 := w0) (x0 := x) (r := r) (W0 := w) (w := wB) (rb := w.heap.size) (sb := w.heap.size + 1) (wv := wv) (n := n) (by rw [hv2]; rfl) rfl rfl rfl g1 g2 (by omega) hfB (by omega) (by omega) hwB' hof hl' hn' hK
end Go.Proofs.YtbbjnplellanaaaDoor
