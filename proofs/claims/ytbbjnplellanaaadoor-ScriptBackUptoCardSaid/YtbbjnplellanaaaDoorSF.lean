/- Forms and steps, as the program reads them. A step's line, as the program reads it. -/
import Derived.Test.YtbbjnplellanaaaDoorSD
set_option linter.unusedVariables false
set_option linter.unusedSimpArgs false
set_option maxRecDepth 10000
namespace Go.Proofs.YtbbjnplellanaaaDoor
open Go.VW
def nfV : Nat → Value
 | 1 => .func (.func 27) #[] #[]
 | 2 => .func (.func 28) #[] #[]
 | 3 => .func (.func 29) #[] #[]
 | 4 => .func (.func 30) #[] #[]
 | _ => .nilFunc
def rfV : Nat → Value
 | 1 => .func (.func 31) #[] #[]
 | 2 => .func (.func 32) #[] #[]
 | _ => .nilFunc
def encForm (f : Form) : List Value := [.string (B f.word), .int .i64 f.kind, nfV f.nf, rfV f.rf]
theorem encForm_len (f : Form) : (encForm f).length = 4 := rfl
theorem xcF1 (caps : Array Value) (args : List Value) (w : World) (K : Value → World → Prop) : nx Tryd.prog (xcall (.func (.func 27) #[] caps) args) w K = CallsN Tryd.prog 27 (args ++ caps.toList) w K := nx_xcall Tryd.call27 caps args w K
theorem xcF2 (caps : Array Value) (args : List Value) (w : World) (K : Value → World → Prop) : nx Tryd.prog (xcall (.func (.func 28) #[] caps) args) w K = CallsN Tryd.prog 28 (args ++ caps.toList) w K := nx_xcall Tryd.call28 caps args w K
theorem xcF3 (caps : Array Value) (args : List Value) (w : World) (K : Value → World → Prop) : nx Tryd.prog (xcall (.func (.func 29) #[] caps) args) w K = CallsN Tryd.prog 29 (args ++ caps.toList) w K := nx_xcall Tryd.call29 caps args w K
theorem xcF4 (caps : Array Value) (args : List Value) (w : World) (K : Value → World → Prop) : nx Tryd.prog (xcall (.func (.func 30) #[] caps) args) w K = CallsN Tryd.prog 30 (args ++ caps.toList) w K := nx_xcall Tryd.call30 caps args w K
theorem xcF5 (caps : Array Value) (args : List Value) (w : World) (K : Value → World → Prop) : nx Tryd.prog (xcall (.func (.func 31) #[] caps) args) w K = CallsN Tryd.prog 31 (args ++ caps.toList) w K := nx_xcall Tryd.call31 caps args w K
theorem xcF6 (caps : Array Value) (args : List Value) (w : World) (K : Value → World → Prop) : nx Tryd.prog (xcall (.func (.func 32) #[] caps) args) w K = CallsN Tryd.prog 32 (args ++ caps.toList) w K := nx_xcall Tryd.call32 caps args w K
theorem ne50 (x y : Operand) (f : Fn) (a c : Array Value) (w : World) : (xbin .neq 50 x y (.func f a c) .nilFunc).run Tryd.prog w = .ok (.bool true) w := run_nef Tryd.runUnderlying50 x y f a c w
theorem ne50n (x y : Operand) (w : World) : (xbin .neq 50 x y .nilFunc .nilFunc).run Tryd.prog w = .ok (.bool false) w := run_nenf Tryd.runUnderlying50 x y w
theorem ne51 (x y : Operand) (f : Fn) (a c : Array Value) (w : World) : (xbin .neq 51 x y (.func f a c) .nilFunc).run Tryd.prog w = .ok (.bool true) w := run_nef Tryd.runUnderlying51 x y f a c w
theorem ne51n (x y : Operand) (w : World) : (xbin .neq 51 x y .nilFunc .nilFunc).run Tryd.prog w = .ok (.bool false) w := run_nenf Tryd.runUnderlying51 x y w
section
variable {b : Nat} {w : World} {K : Value → World → Prop}
theorem f1_spec (hK : K (.pointer (some ⟨b, 1, none⟩)) w) : CallsN Tryd.prog 27 [.pointer (some ⟨b, 0, none⟩)] w K := by
 have cw := cur w
 refine call27 ?_
 simp (maxSteps:=4000000)(disch:=first|assumption|(simp only[dz];first|done|assumption|omega)|omega|apply_rules[Fr.refl,Fr.alloc,Fr.drew]|rfl) only [↓gd,gp,Nat.reduceAdd,Nat.reduceEqDiff, ↓hk27]
 exact hK
theorem f2_spec (hK : K (.pointer (some ⟨b, 2, none⟩)) w) : CallsN Tryd.prog 28 [.pointer (some ⟨b, 0, none⟩)] w K := by
 have cw := cur w
 refine call28 ?_
 simp (maxSteps:=4000000)(disch:=first|assumption|(simp only[dz];first|done|assumption|omega)|omega|apply_rules[Fr.refl,Fr.alloc,Fr.drew]|rfl) only [↓gd,gp,Nat.reduceAdd,Nat.reduceEqDiff, ↓hk28]
 exact hK
theorem f3_spec (hK : K (.pointer (some ⟨b, 4, none⟩)) w) : CallsN Tryd.prog 29 [.pointer (some ⟨b, 0, none⟩)] w K := by
 have cw := cur w
 refine call29 ?_
 simp (maxSteps:=4000000)(disch:=first|assumption|(simp only[dz];first|done|assumption|omega)|omega|apply_rules[Fr.refl,Fr.alloc,Fr.drew]|rfl) only [↓gd,gp,Nat.reduceAdd,Nat.reduceEqDiff, ↓hk29]
 exact hK
theorem f4_spec (hK : K (.pointer (some ⟨b, 3, none⟩)) w) : CallsN Tryd.prog 30 [.pointer (some ⟨b, 0, none⟩)] w K := by
 have cw := cur w
 refine call30 ?_
 simp (maxSteps:=4000000)(disch:=first|assumption|(simp only[dz];first|done|assumption|omega)|omega|apply_rules[Fr.refl,Fr.alloc,Fr.drew]|rfl) only [↓gd,gp,Nat.reduceAdd,Nat.reduceEqDiff, ↓hk30]
 exact hK
theorem f5_spec (hK : K (.pointer (some ⟨b, 5, none⟩)) w) : CallsN Tryd.prog 31 [.pointer (some ⟨b, 0, none⟩)] w K := by
 have cw := cur w
 refine call31 ?_
 simp (maxSteps:=4000000)(disch:=first|assumption|(simp only[dz];first|done|assumption|omega)|omega|apply_rules[Fr.refl,Fr.alloc,Fr.drew]|rfl) only [↓gd,gp,Nat.reduceAdd,Nat.reduceEqDiff, ↓hk31]
 exact hK
theorem f6_spec (hK : K (.pointer (some ⟨b, 7, none⟩)) w) : CallsN Tryd.prog 32 [.pointer (some ⟨b, 0, none⟩)] w K := by
 have cw := cur w
 refine call32 ?_
 simp (maxSteps:=4000000)(disch:=first|assumption|(simp only[dz];first|done|assumption|omega)|omega|apply_rules[Fr.refl,Fr.alloc,Fr.drew]|rfl) only [↓gd,gp,Nat.reduceAdd,Nat.reduceEqDiff, ↓hk32]
 exact hK
end
set_option maxHeartbeats 4000000 in
theorem forms_spec {w : World} {K : Value → World → Prop} (hK : ∀ v w', SlOf 4 encForm w' v formsL → Fr [] w w' → K v w') : CallsN Tryd.prog 15 [] w K := by
 have cw := cur w
 refine call15 ?_
 simp (maxSteps:=4000000)(disch:=first|assumption|(simp only[dz];first|done|assumption|omega)|omega|apply_rules[Fr.refl,Fr.alloc,Fr.drew]|rfl) only [↓gd,gp,Nat.reduceAdd,Nat.reduceEqDiff, ↓hk15]
 refine hK _ _ ⟨rfl, .inr ⟨_, 0, _, _, _, _, rfl, get_alloc_new _ _, rfl⟩⟩ ((Fr.refl _ _).alloc _)
end Go.Proofs.YtbbjnplellanaaaDoor
namespace Go.Proofs.YtbbjnplellanaaaDoor
open Go.VW
/-- What comes of a line that is to be a step. -/
def ResS (o : Option Stp) (x : Stp × SlV) (ok : Bool) (w : World) : Prop := (o = some x.1 ∧ ok = true ∧ Own 3 60 w (.slice x.2.1 x.2.2.1 x.2.2.2) x.1.ws.length (cellsOf encWr x.1.ws)) ∨ (o = none ∧ ok = false)
theorem writes_on {ws : List Bs} {done : List Wr} {i : Nat} {x : Bs} {y : Wr} (h : writesO ws = (writesO (ws.drop i)).map (done ++ ·)) (hx : ws[i]? = some x) (hy : writeO x = some y) : writesO ws = (writesO (ws.drop (i + 1))).map ((done ++ [y]) ++ ·) := by
 have hi := (List.getElem?_eq_some_iff.1 hx)
 have : ws.drop i = x :: ws.drop (i + 1) := by rw [List.drop_eq_getElem_cons hi.1, hi.2]
 rw [h, this, writesO, hy, Option.bind_some, Option.map_map]
 congr 1; funext z; simp
theorem writes_stop {ws : List Bs} {done : List Wr} {i : Nat} {x : Bs} (h : writesO ws = (writesO (ws.drop i)).map (done ++ ·)) (hx : ws[i]? = some x) (hy : writeO x = none) : writesO ws = none := by
 have hi := (List.getElem?_eq_some_iff.1 hx)
 have : ws.drop i = x :: ws.drop (i + 1) := by rw [List.drop_eq_getElem_cons hi.1, hi.2]
 rw [h, this, writesO, hy]; rfl
theorem writes_end {ws : List Bs} {done : List Wr} (h : writesO ws = (writesO (ws.drop ws.length)).map (done ++ ·)) : writesO ws = some done := by
 rw [h, List.drop_length, writesO]; simp
def zeroCells : List Value := [.int .i64 0, .int .i64 0, .int .i64 0, .int .i64 0, .int .i64 0, .string ⟨#[]⟩, .slice none 0 0, .string ⟨#[]⟩]
theorem sl_new {k : Nat} {e : TypeId} {w : World} {cs : List Value} (h : cs.length = k) : Sl k (w.alloc (.cells cs.toArray e (0, 0))) (.slice (some ⟨w.heap.size, 0, none⟩) 1 1) 1 cs :=
 ⟨by omega, .inr ⟨_, 0, _, _, _, _, rfl, get_alloc_new _ _, by simp only [List.drop_zero, List.toList_toArray, Nat.one_mul]; rw [← h]; exact List.take_length⟩⟩
theorem own_fresh {v v' : Value} {w : World} {C : Nat} (hb : v'.ownBlock = v.ownBlock ∨ ∃ b, v'.ownBlock = some b ∧ w.heap.size ≤ b) (hv : ∀ b, v.ownBlock = some b → C ≤ b) (hs : C ≤ w.heap.size) : ∀ b, v'.ownBlock = some b → C ≤ b := by
 intro b hbb
 rcases hb with h | ⟨c, h1, h2⟩
 ·exact hv b (h ▸ hbb)
 ·rw [h1] at hbb; cases hbb; omega
theorem blkL_ge {v : Value} {C : Nat} (hv : ∀ b, v.ownBlock = some b → C ≤ b) : ∀ x ∈ blkL v, C ≤ x := by
 intro x hx
 unfold blkL at hx
 split at hx
 ·rename_i b hb; simp at hx; subst hx; exact hv _ hb
 ·simp at hx
theorem own_off {k n : Nat} {e t : TypeId} {w : World} {v : Value} {cs : List Value} {b : Nat} {c : Array Value} {fr : Nat × Nat} (h : Own k e w v n cs) (hb : w.heap[b]? = some (.cells c t fr)) (he : e ≠ t) : v.ownBlock ≠ some b := by
 intro hv
 rcases h.2 with ⟨rfl, _⟩ | ⟨g, cap, cur, rfl, _, hg, _⟩
 ·simp [Value.ownBlock] at hv
 ·simp only [Value.ownBlock, Option.some.injEq] at hv
  subst hv; rw [hg] at hb; cases hb; exact he rfl
theorem off_blkL {v : Value} {b : Nat} (h : v.ownBlock ≠ some b) : b ∉ blkL v := by
 intro hm
 unfold blkL at hm
 split at hm
 ·rename_i c hc; simp at hm; subst hm; exact h hc
 ·simp at hm
section
variable {f : Form} {s : Stp} {ws : List Bs} {W0 w : World} {e : Env} {fb rb sb : Nat} {wv : Value} {K : Value → World → Prop}
set_option maxHeartbeats 8000000 in
/-- The writes of a commit. -/
theorem commit_spec (e1 : e 1 = wv) (e4 : e 4 = .pointer (some ⟨rb, 0, none⟩)) (e6 : e 6 = .pointer (some ⟨sb, 0, none⟩))
  (hrb : w.heap[rb]? = some (.cells zeroCells.toArray 33 (0, 0))) (hsb : w.heap[sb]? = some (.cells (encStp (s, none, 0, 0)).toArray 33 (0, 0)))
  (n1 : sb ≠ rb) (hf : Fr [] W0 w) (h2 : W0.heap.size ≤ rb) (h3 : W0.heap.size ≤ sb) (hs0 : s.ws = [])
  (hw : SlOf 1 encB w wv ws) (hwo : offV wv sb) (hm : MaxL W0) (hl : ∀ x ∈ ws, x.length ≤ 65536) (hn : ws.length ≤ 65537)
  (hK : ∀ x ok w', Fr [] W0 w' → ResS ((writesO ws).map fun y => { s with ws := y }) x ok w' → K (.tuple #[.agg (encStp x).toArray, .bool ok]) w') :
  W3 Tryd.prog 86 V18 c18_6 (retQ Tryd.prog [.cell 4 33, .tmp 5] K) e w := by
 have cw := cur w
 obtain ⟨a, c, hv⟩ := hw.form
 have hrl := lt_of_get _ _ hrb
 have hsl := lt_of_get _ _ hsb
 simp (maxSteps:=4000000)(disch:=first|assumption|(simp only[dz];first|done|assumption|omega)|omega|apply_rules[Fr.refl,Fr.alloc,Fr.drew]|rfl) only [↓gd,gp,Nat.reduceAdd,Nat.reduceEqDiff, ↓hk18, e1, hv]
 rw [← hv]
 refine for_intro ws.length 66 0 (fun i e w' => ∃ (done : List Wr) (sv : SlV), e 64 = wv ∧ e 65 = .int .i64 ws.length ∧ e 4 = .pointer (some ⟨rb, 0, none⟩) ∧ e 6 = .pointer (some ⟨sb, 0, none⟩) ∧ w'.heap[rb]? = some (.cells zeroCells.toArray 33 (0, 0)) ∧ w'.heap[sb]? = some (.cells (encStp (s, sv)).toArray 33 (0, 0)) ∧ Own 3 60 w' (.slice sv.1 sv.2.1 sv.2.2) done.length (cellsOf encWr done) ∧ (∀ b, (Value.slice sv.1 sv.2.1 sv.2.2).ownBlock = some b → w.heap.size ≤ b) ∧ done.length = i ∧ writesO ws = (writesO (ws.drop i)).map (done ++ ·) ∧ Fr [sb] w w') ?_ (Nat.zero_le _) ?_ ?_
 ·simp (maxSteps:=4000000)(disch:=first|assumption|(simp only[dz];first|done|assumption|omega)|omega|apply_rules[Fr.refl,Fr.alloc,Fr.drew]|rfl) only [↓gsd,gs,gv,Nat.reduceAdd,Nat.reduceEqDiff]; rfl
 ·refine ⟨[], (none, 0, 0), ?_, ?_, ?_, ?_, hrb, hsb, Own.nil, (fun b hb => by simp [Value.ownBlock] at hb), rfl, by simp, Fr.refl _ _⟩
  ·simp (maxSteps:=4000000)(disch:=first|assumption|(simp only[dz];first|done|assumption|omega)|omega|apply_rules[Fr.refl,Fr.alloc,Fr.drew]|rfl) only [↓gsd,gs,gv,Nat.reduceAdd,Nat.reduceEqDiff]
  ·simp (maxSteps:=4000000)(disch:=first|assumption|(simp only[dz];first|done|assumption|omega)|omega|apply_rules[Fr.refl,Fr.alloc,Fr.drew]|rfl) only [↓gsd,gs,gv,Nat.reduceAdd,Nat.reduceEqDiff]
  ·simp (maxSteps:=4000000)(disch:=first|assumption|(simp only[dz];first|done|assumption|omega)|omega|apply_rules[Fr.refl,Fr.alloc,Fr.drew]|rfl) only [↓gsd,gs,gv,Nat.reduceAdd,Nat.reduceEqDiff, e4]
  ·simp (maxSteps:=4000000)(disch:=first|assumption|(simp only[dz];first|done|assumption|omega)|omega|apply_rules[Fr.refl,Fr.alloc,Fr.drew]|rfl) only [↓gsd,gs,gv,Nat.reduceAdd,Nat.reduceEqDiff, e6]
 rintro i e w1 kk hi e66 ⟨done, sv, e64, e65, e4, e6, hrb1, hsb1, hown, hob, hdl, hwr, hf1⟩ hkk
 have cw1 := cur w1
 have hrl1 := lt_of_get _ _ hrb1
 have hsl1 := lt_of_get _ _ hsb1
 have hf01 : Fr [] W0 w1 := hf.trans hf1 (by intro x hx; simp at hx; subst hx; exact .inr h3)
 have hrb0 := hrb1
 have hsb0 := hsb1
 by_cases hil : i < ws.length
 ·have d : decide ((i : Int) < (ws.length : Int)) = true := decide_eq_true (by omega)
  obtain ⟨x, hx⟩ : ∃ x, ws[i]? = some x := ⟨ws[i], List.getElem?_eq_getElem hil⟩
  obtain ⟨bb, off, cap, ob, hv1, hob1, _, _, hcell⟩ := (SlOf.fr hw hf1 (by intro b hb; simp at hb; subst hb; exact hwo)).read encB_len i x hx
  have hc0 := fun orig K => hcell 0 (.string (B x)) orig K rfl
  simp only [Nat.add_zero, Nat.mul_one] at hc0
  have i0 : (0 : Int) ≤ (i : Int) := by omega
  have i1 : (i : Int) < (ws.length : Int) := by omega
  have wr : IntKind.i64.wrap ((i : Int) + 1) = (i : Int) + 1 := wrap64 (by omega) (by omega)
  have hxl := hl x (List.mem_of_getElem? hx)
  simp (maxSteps:=4000000)(disch:=first|assumption|(simp only[dz];first|done|assumption|omega)|omega|apply_rules[Fr.refl,Fr.alloc,Fr.drew]|rfl) only [↓gd,gp,Nat.reduceAdd,Nat.reduceEqDiff, ↓hk18, e64, e65, e66, e4, e6, hv1, d, i0, i1, Int.toNat_natCast, Nat.mul_one, hob1, hc0]
  refine write_spec (hm.fr hf01) (by omega) fun y ok w2 hf2 hres => ?_
  have cw2 := cur w2
  have hrb2 := hf2.getN hrb1
  have hsb2 := hf2.getN hsb1
  have hrl2 := lt_of_get _ _ hrb2
  have hsl2 := lt_of_get _ _ hsb2
  have hown2 := Own.frN hown hf2
  have hf02 : Fr [] W0 w2 := hf01.trans' hf2
  unfold zeroCells at hrb2
  unfold encStp at hsb2
  rcases hres with ⟨hy, rfl⟩ | ⟨hy, rfl⟩
  ·have hsx := sl_new (e := 60) (w := w2.alloc (.cells (encWr y).toArray 60 (0, 0))) (encWr_len y)
   have hfx : Fr [] w2 ((w2.alloc (.cells (encWr y).toArray 60 (0, 0))).alloc (.cells (encWr y).toArray 60 (0, 0))) := ((Fr.refl _ _).alloc _).alloc _
   obtain ⟨v4, w4, hr4, hown4, hf4, hbk⟩ := ap31 (ty := 31) (Own.frN hown2 hfx) hsx (by rfl) (by omega)
   have cw4 := cur w4
   unfold encWr at hr4
   simp only [size_alloc] at hr4
   obtain ⟨a4, c4, hv4⟩ := hown4.sl.form
   rw [hv4] at hr4 hown4 hbk
   have hsb4 : w4.heap[sb]? = some (.cells (encStp (s, sv)).toArray 33 (0, 0)) := by
    rw [hf4.keep sb (by simp only [size_alloc]; omega) (off_blkL (own_off hown hsb0 (by decide)))]
    exact hfx.getN (hf2.getN hsb0)
   have hrb4 : w4.heap[rb]? = some (.cells zeroCells.toArray 33 (0, 0)) := by
    rw [hf4.keep rb (by simp only [size_alloc]; omega) (off_blkL (own_off hown hrb0 (by decide)))]
    exact hfx.getN (hf2.getN hrb0)
   have hsb40 := hsb4
   have hrb40 := hrb4
   have hsl4 := lt_of_get _ _ hsb4
   unfold encStp at hsb4
   simp (maxSteps:=4000000)(disch:=first|assumption|(simp only[dz];first|done|assumption|omega)|omega|apply_rules[Fr.refl,Fr.alloc,Fr.drew]|rfl) only [↓gd,gp,Nat.reduceAdd,Nat.reduceEqDiff, ↓hk18, encWr, e64, e65, e66, e4, e6, hrb2, hsb2, hr4, hsb4, wr]
   have hcs : cellsOf encWr done ++ encWr y = cellsOf encWr (done ++ [y]) := by rw [cellsOf_append, cellsOf_one]
   have hle : w.heap.size ≤ w2.heap.size := Nat.le_trans hf1.size hf2.size
   refine hkk _ _ hil ?_ ⟨done ++ [y], (a4, done.length + 1, c4), ?_, ?_, ?_, ?_, ?_, get_setB_same _ _ _ hsl4, ?_, ?_, by simp [hdl], writes_on hwr hx hy, ?_⟩
   ·simp (maxSteps:=4000000)(disch:=first|assumption|(simp only[dz];first|done|assumption|omega)|omega|apply_rules[Fr.refl,Fr.alloc,Fr.drew]|rfl) only [↓gsd,gs,gv,Nat.reduceAdd,Nat.reduceEqDiff]
   ·simp (maxSteps:=4000000)(disch:=first|assumption|(simp only[dz];first|done|assumption|omega)|omega|apply_rules[Fr.refl,Fr.alloc,Fr.drew]|rfl) only [↓gsd,gs,gv,Nat.reduceAdd,Nat.reduceEqDiff, e64]
   ·simp (maxSteps:=4000000)(disch:=first|assumption|(simp only[dz];first|done|assumption|omega)|omega|apply_rules[Fr.refl,Fr.alloc,Fr.drew]|rfl) only [↓gsd,gs,gv,Nat.reduceAdd,Nat.reduceEqDiff, e65]
   ·simp (maxSteps:=4000000)(disch:=first|assumption|(simp only[dz];first|done|assumption|omega)|omega|apply_rules[Fr.refl,Fr.alloc,Fr.drew]|rfl) only [↓gsd,gs,gv,Nat.reduceAdd,Nat.reduceEqDiff, e4]
   ·simp (maxSteps:=4000000)(disch:=first|assumption|(simp only[dz];first|done|assumption|omega)|omega|apply_rules[Fr.refl,Fr.alloc,Fr.drew]|rfl) only [↓gsd,gs,gv,Nat.reduceAdd,Nat.reduceEqDiff, e6]
   ·rw [get_setB_ne _ _ _ _ n1]; exact hrb40
   ·rw [List.length_append, List.length_singleton, ← hcs]
    exact hown4.fr (M := [sb]) ((Fr.refl _ _).setB _ _ (.inl (by simp))) (by intro b hb; simp at hb; subst hb; exact own_off hown4 hsb40 (by decide))
   ·exact own_fresh hbk hob (by simp only [size_alloc]; omega)
   ·refine (((hf1.trans' hf2).trans' hfx).trans hf4 fun z hz => .inr (blkL_ge hob z hz)).setB _ _ (.inl (by simp))
  ·simp (maxSteps:=4000000)(disch:=first|assumption|(simp only[dz];first|done|assumption|omega)|omega|apply_rules[Fr.refl,Fr.alloc,Fr.drew]|rfl) only [↓gd,gp,Nat.reduceAdd,Nat.reduceEqDiff, ↓hk18, encWr, e64, e65, e66, e4, e6, hrb2, hsb2]
   refine hK (s, sv) _ _ ?_ (.inr ⟨by rw [writes_stop hwr hx hy]; rfl, rfl⟩)
   exact ((hf02.alloc _).setB _ _ (.inr h2))
 ·have d : decide ((i : Int) < (ws.length : Int)) = false := decide_eq_false (by omega)
  have hil' : i = ws.length := by omega
  unfold zeroCells at hrb1
  unfold encStp at hsb1
  simp (maxSteps:=4000000)(disch:=first|assumption|(simp only[dz];first|done|assumption|omega)|omega|apply_rules[Fr.refl,Fr.alloc,Fr.drew]|rfl) only [↓gd,gp,Nat.reduceAdd,Nat.reduceEqDiff, ↓hk18, e64, e65, e66, e4, e6, d, hrb1, hsb1]
  refine hK ({ s with ws := done }, sv) _ _ (hf01.setB _ _ (.inr h2)) (.inl ⟨by rw [writes_end (hil' ▸ hwr)]; rfl, rfl, ?_⟩)
  exact hown.fr (M := [rb]) ((Fr.refl _ _).setB _ _ (.inl (by simp))) (by intro b hb; simp at hb; subst hb; exact own_off hown hrb0 (by decide))
end
end Go.Proofs.YtbbjnplellanaaaDoor
