/- Text, as the program makes it. -/
import Derived.Test.YtbbjnplellanaaaDoorPN
import Derived.Test.YtbbjnplellanaaaDoorTG
set_option linter.unusedVariables false
set_option linter.unusedSimpArgs false
set_option maxRecDepth 100000
namespace Go.Proofs.YtbbjnplellanaaaDoor
open Go.VW
def lineS (s : Stp) : Option Bs := if 1 ≤ s.kind ∧ s.kind ≤ 16 then (formsL[(s.kind - 1).toNat]?).bind fun f => lineF f s else none
def textGo : List Stp → Nat → Bs → Bs × Int × Int
 | [], _, out => if 65536 < out.length then ([], 0, 2) else (out, 0, 0)
 | s :: r, i, out => match lineS s with
   | none => ([], (i : Int) + 1, 60)
   | some l => textGo r (i + 1) (if out.length ≤ 65536 then out ++ (l ++ [10]) else out)
def textL (ss : List Stp) : Bs × Int × Int := textGo ss 0 []
abbrev IsB (C b : Nat) (l : Bs) (w : World) : Prop := Lib.IsBuilderF 63 5 C b (Lib.byteCells l) w
theorem ownF_fr {C n : Nat} {e : TypeId} {w w' : World} {v : Value} {cs : List Value} (h : w.ownsRowF C e 1 v n cs) (hf : Fr [] w w') : w'.ownsRowF C e 1 v n cs := by
 refine ⟨h.1, ?_⟩
 rcases h.2 with h0 | ⟨g, cap, cur, fz, hv, hb, hg, rest⟩
 ·exact .inl h0
 ·exact .inr ⟨g, cap, cur, fz, hv, hb, hf.getN hg, rest⟩
theorem isB_fr {C b : Nat} {l : Bs} {w w' : World} (h : IsB C b l w) (hf : Fr [] w w') : IsB C b l w' := by
 rcases h with ⟨h1, v, hb, ho, hn⟩ | ⟨h1, v, hb, ho, hn⟩
 ·exact .inl ⟨h1, v, hf.getN hb, ownF_fr ho hf, hn⟩
 ·exact .inr ⟨h1, v, hf.getN hb, ownF_fr ho hf, hn⟩
theorem isB_new {C b : Nat} {w : World} (hC : C ≤ b) (hb : w.heap[b]? = some (.cells ([.pointer none, .slice none 0 0] : List Value).toArray 63 (0, 0))) : IsB C b [] w :=
 .inl ⟨hC, .slice none 0 0, hb, World.ownsRowF_of (World.ownsRow_nil w C 5 1), by simp [Value.ownBlock]⟩
theorem isB_cell {C b : Nat} {l : Bs} {w : World} (h : IsB C b l w) : ∃ c, w.heap[b]? = some (.cells c 63 (0, 0)) := by
 rcases h with ⟨h1, v, hb, _⟩ | ⟨h1, v, hb, _⟩ <;> exact ⟨_, hb⟩
theorem blen_spec {C b : Nat} {l : Bs} {w : World} {K : Value → World → Prop} (h : IsB C b l w) (hK : K (.int .i64 l.length) w) : CallsN Tryd.prog 23 [.pointer (some ⟨b, 0, none⟩)] w K := by
 have hc := Any.Builder_Len_f lenC C b (Lib.byteCells l) w h
 refine CallsN.of (hc.mono fun e w' he => ?_)
 obtain ⟨rfl, rfl⟩ := he
 have : (Lib.byteCells l).length = l.length := by simp [Lib.byteCells]
 rw [this]
 exact ⟨_, rfl, hK⟩
theorem strCells_B (l : Bs) : Lib.strCells (B l) = Lib.byteCells l := by unfold Lib.strCells; rw [B_list]; rfl
theorem bwrite_spec {W0 : World} {b : Nat} {l m : Bs} {w : World} {K : Value → World → Prop} (h : IsB W0.heap.size b l w) (hf : Fr [] W0 w) (hl : l.length + m.length ≤ 140737488355328)
  (hK : ∀ v w', IsB W0.heap.size b (l ++ m) w' → Fr [] W0 w' → (∀ (k : Nat) (c : Array Value) (t : TypeId) (fr : Nat × Nat), w.heap[k]? = some (Obj.cells c t fr) → t ≠ 63 → t ≠ 5 → w'.heap[k]? = some (Obj.cells c t fr)) → K v w') : CallsN Tryd.prog 24 [.pointer (some ⟨b, 0, none⟩), .string (B m)] w K := by
 have hc := Any.Builder_WriteString_k writeC builderX W0.heap.size b (Lib.byteCells l) (B m) w h (by rw [B_size]; simpa [Lib.byteCells] using hl) hf.size
 refine CallsN.of (hc.mono fun e w' he => ?_)
 obtain ⟨rfl, h1, h2, h3⟩ := he
 obtain ⟨cb, hcb⟩ := isB_cell h
 refine ⟨_, rfl, hK _ _ ?_ ?_ ?_⟩
 ·rw [strCells_B] at h1
  have : Lib.byteCells (l ++ m) = Lib.byteCells l ++ Lib.byteCells m := by simp [Lib.byteCells]
  unfold IsB
  rw [this]; exact .inr h1
 ·exact Fr.of_below (hf.below.trans h2)
 ·intro k c t fr hk ht1 ht2
  refine h3 k _ hk (fun he => ?_) (fun c' fz he => ?_)
  ·cases he; rw [hcb] at hk; cases hk; exact ht1 rfl
  ·cases he; exact ht2 rfl
theorem strX : Go.Proofs.Builder.Extra Tryd.prog stringC_ren := {
 sizeBuilder := by kernel_rfl
 liesBuilder := by kernel_rfl
 t5 := Tryd.underlying5
 a5 := Tryd.isAgg5
 z5 := Tryd.sizeOf5
 v5 := Tryd.zeroValue5
 infoByte := by kernel_rfl
 cellsByte := by kernel_rfl
 sizeByte := by kernel_rfl
 neB5 := by decide }
theorem bstring_spec {W0 : World} {b : Nat} {l : Bs} {w : World} {K : Value → World → Prop} (h : IsB W0.heap.size b l w) (hf : Fr [] W0 w) (hK : ∀ w', Fr [] W0 w' → K (.string (B l)) w') : CallsN Tryd.prog 25 [.pointer (some ⟨b, 0, none⟩)] w K := by
 have hc := Any.Builder_String_any_k stringC strX W0.heap.size b l w h hf.size
 refine CallsN.of (hc.mono fun e w' he => ?_)
 obtain ⟨rfl, h1, h2, h3⟩ := he
 exact ⟨_, rfl, hK _ (Fr.of_below (hf.below.trans h2))⟩
set_option maxHeartbeats 4000000 in
theorem forms_at {w : World} {K : Value → World → Prop} (hK : ∀ g w', w.heap.size ≤ g → w'.heap[g]? = some (.cells (cellsOf encForm formsL).toArray 53 (0, 0)) → Fr [] w w' → K (.slice (some ⟨g, 0, none⟩) 16 16) w') : CallsN Tryd.prog 15 [] w K := by
 have cw := cur w
 refine call15 ?_
 simp (maxSteps:=4000000)(disch:=first|assumption|(simp only[dz];first|done|assumption|omega)|omega|apply_rules[Fr.refl,Fr.alloc,Fr.drew]|rfl) only [↓gd,gp,Nat.reduceAdd,Nat.reduceEqDiff, ↓hk15]
 refine hK _ _ (Nat.le_refl _) (get_alloc_new _ _) ((Fr.refl _ _).alloc _)
theorem forms_sl {w : World} {g : Nat} (h : w.heap[g]? = some (.cells (cellsOf encForm formsL).toArray 53 (0, 0))) : SlOf 4 encForm w (.slice (some ⟨g, 0, none⟩) 16 16) formsL := ⟨rfl, .inr ⟨_, 0, _, _, _, _, rfl, h, rfl⟩⟩
theorem tgo_on {ss : List Stp} {i : Nat} {s : Stp} {l out : Bs} {R : Bs × Int × Int} (h : textGo (ss.drop i) i out = R) (hs : ss[i]? = some s) (hl : lineS s = some l) : textGo (ss.drop (i + 1)) (i + 1) (if out.length ≤ 65536 then out ++ (l ++ [10]) else out) = R := by
 have hi := (List.getElem?_eq_some_iff.1 hs)
 have : ss.drop i = s :: ss.drop (i + 1) := by rw [List.drop_eq_getElem_cons hi.1, hi.2]
 rw [this, textGo, hl] at h; exact h
theorem tgo_bad {ss : List Stp} {i : Nat} {s : Stp} {out : Bs} {R : Bs × Int × Int} (h : textGo (ss.drop i) i out = R) (hs : ss[i]? = some s) (hl : lineS s = none) : R = ([], (i : Int) + 1, 60) := by
 have hi := (List.getElem?_eq_some_iff.1 hs)
 have : ss.drop i = s :: ss.drop (i + 1) := by rw [List.drop_eq_getElem_cons hi.1, hi.2]
 rw [this, textGo, hl] at h; exact h.symm
theorem tgo_end {ss : List Stp} {out : Bs} {R : Bs × Int × Int} (h : textGo (ss.drop ss.length) ss.length out = R) : R = if 65536 < out.length then ([], 0, 2) else (out, 0, 0) := by
 rw [List.drop_length, textGo] at h; exact h.symm
theorem wrsO_len : ∀ (ws : List Wr) (l : Bs), (∀ x ∈ ws, x.key.length ≤ 2097152 ∧ x.data.length ≤ 2097152) → wrsO ws = some l → l.length ≤ ws.length * 4194306
 | [], l, _, h => by simp [wrsO] at h; subst h; simp
 | x :: r, l, hx, h => by
   rw [wrsO] at h
   split at h
   ·obtain ⟨m, hm, rfl⟩ := Option.map_eq_some_iff.1 h
    have := wrsO_len r m (fun y hy => hx y (List.mem_cons_of_mem _ hy)) hm
    have := wTxt_len x (hx x (by simp)).1 (hx x (by simp)).2
    rw [List.length_append, List.length_cons, Nat.add_mul]; omega
   ·cases h
theorem lineF_len {f : Form} {s : Stp} {l : Bs} (hf : Fits s) (hw : f.word.length ≤ 100) (h : lineF f s = some l) : l.length ≤ 10000000000000 := by
 unfold lineF at h
 obtain ⟨a, ha, h⟩ := Option.bind_eq_some_iff.1 h
 obtain ⟨b, hb, rfl⟩ := Option.map_eq_some_iff.1 h
 have h1 : a.length ≤ 30 := by
  unfold numT at ha
  split at ha
  ·cases ha; simp
  ·split at ha
   ·rename_i hn
    cases ha
    have := Lib.itoa_length_le (s.getN f.nf) (by omega) (by omega)
    simp only [List.length_cons]; omega
   ·cases ha
 have h2 : b.length ≤ 9000000000000 := by
  unfold restT at hb
  split at hb
  ·split at hb
   ·cases hb
    have : (s.getR f.rf).length ≤ 2097152 := by
     unfold Stp.getR
     split
     ·exact hf.key
     ·exact hf.text
     ·simp
    simp only [List.length_cons]; omega
   ·cases hb
  ·split at hb
   ·cases hb; simp
   ·have := wrsO_len s.ws b hf.wk hb
    have h3 : s.ws.length * 4194306 ≤ 8796097216512 := Nat.mul_le_mul_right 4194306 hf.ws
    exact Nat.le_trans this (Nat.le_trans h3 (by decide))
 simp only [List.length_append]; omega
theorem form_at {k : Nat} (h : k < 16) : ∃ f, formsL[k]? = some f ∧ f.nf ≤ 4 ∧ f.rf ≤ 2 ∧ f.word.length ≤ 100 := by
 have hl : formsL.length = 16 := rfl
 refine ⟨formsL[k], List.getElem?_eq_getElem (by omega), ?_⟩
 have hm : formsL[k] ∈ formsL := List.getElem_mem (by omega)
 have hb := forms_bd hm
 refine ⟨hb.1, hb.2, ?_⟩
 generalize formsL[k] = f at hm
 simp only [formsL, List.mem_cons, List.not_mem_nil, or_false] at hm
 rcases hm with rfl | rfl | rfl | rfl | rfl | rfl | rfl | rfl | rfl | rfl | rfl | rfl | rfl | rfl | rfl | rfl <;> decide
set_option maxHeartbeats 16000000 in
theorem text_spec {w : World} {v : Value} {rows : List (Stp × SlV)} {K : Value → World → Prop} (hv : RowsAt w v rows) (hft : ∀ x ∈ rows, Fits x.1) (hn : rows.length ≤ 4000000000) (ht : TabP w)
  (hK : ∀ w', Fr [] w w' → K (.tuple #[.string (B (textL (rows.map Prod.fst)).1), .int .i64 (textL (rows.map Prod.fst)).2.1, .int .i64 (textL (rows.map Prod.fst)).2.2]) w') : CallsN Tryd.prog 12 [v] w K := by
 have cw := cur w
 obtain ⟨va, vc, hvv⟩ := hv.1.form
 refine call12 ?_
 simp (maxSteps:=4000000)(disch:=first|assumption|(simp only[dz];first|done|assumption|omega)|omega|apply_rules[Fr.refl,Fr.alloc,Fr.drew]|rfl) only [↓gd,gp,Nat.reduceAdd,Nat.reduceEqDiff, ↓hk12]
 refine forms_at fun fg wF hfg hfb hfF => ?_
 have cwF := cur wF
 have hf0 : Fr [] w wF := ((Fr.refl _ _).alloc _).trans' hfF
 have hbB : IsB w.heap.size w.heap.size [] wF := isB_fr (isB_new (Nat.le_refl _) (get_alloc_new w (.cells ([.pointer none, .slice none 0 0] : List Value).toArray 63 (0, 0)))) hfF
 simp (maxSteps:=4000000)(disch:=first|assumption|(simp only[dz];first|done|assumption|omega)|omega|apply_rules[Fr.refl,Fr.alloc,Fr.drew]|rfl) only [↓gd,gp,Nat.reduceAdd,Nat.reduceEqDiff, ↓hk12, hvv]
 rw [← hvv]
 obtain ⟨R, hR⟩ : ∃ R, R = textL (rows.map Prod.fst) := ⟨_, rfl⟩
 rw [← hR] at hK
 have hlm : (rows.map Prod.fst).length = rows.length := by simp
 refine for_intro rows.length 14 0 (fun i e' w' => ∃ out : Bs, e' 12 = v ∧ e' 13 = .int .i64 rows.length ∧ e' 5 = .pointer (some ⟨w.heap.size, 0, none⟩) ∧ e' 6 = .slice (some ⟨fg, 0, none⟩) 16 16 ∧ IsB w.heap.size w.heap.size out w' ∧ out.length ≤ 65536 + 10000000000001 ∧ w'.heap[fg]? = some (.cells (cellsOf encForm formsL).toArray 53 (0, 0)) ∧ textGo ((rows.map Prod.fst).drop i) i out = R ∧ Fr [] w w') ?_ (Nat.zero_le _) ?_ ?_
 ·simp (maxSteps:=4000000)(disch:=first|assumption|(simp only[dz];first|done|assumption|omega)|omega|apply_rules[Fr.refl,Fr.alloc,Fr.drew]|rfl) only [↓gsd,gs,gv,Nat.reduceAdd,Nat.reduceEqDiff]; rfl
 ·refine ⟨[], ?_, ?_, ?_, ?_, hbB, Nat.zero_le _, hfb, by rw [hR]; rfl, hf0⟩
  ·simp (maxSteps:=4000000)(disch:=first|assumption|(simp only[dz];first|done|assumption|omega)|omega|apply_rules[Fr.refl,Fr.alloc,Fr.drew]|rfl) only [↓gsd,gs,gv,Nat.reduceAdd,Nat.reduceEqDiff]
  ·simp (maxSteps:=4000000)(disch:=first|assumption|(simp only[dz];first|done|assumption|omega)|omega|apply_rules[Fr.refl,Fr.alloc,Fr.drew]|rfl) only [↓gsd,gs,gv,Nat.reduceAdd,Nat.reduceEqDiff]
  ·simp (maxSteps:=4000000)(disch:=first|assumption|(simp only[dz];first|done|assumption|omega)|omega|apply_rules[Fr.refl,Fr.alloc,Fr.drew]|rfl) only [↓gsd,gs,gv,Nat.reduceAdd,Nat.reduceEqDiff]
  ·simp (maxSteps:=4000000)(disch:=first|assumption|(simp only[dz];first|done|assumption|omega)|omega|apply_rules[Fr.refl,Fr.alloc,Fr.drew]|rfl) only [↓gsd,gs,gv,Nat.reduceAdd,Nat.reduceEqDiff]
 rintro i e1 w1 kk hi e14 ⟨out, e12, e13, e5, e6, hB, hol, hfb1, hgo, hf1⟩ hkk
 have cw1 := cur w1
 by_cases hil : i < rows.length
 ·have d : decide ((i : Int) < (rows.length : Int)) = true := decide_eq_true (by omega)
  obtain ⟨x, hx⟩ : ∃ x, rows[i]? = some x := ⟨rows[i], List.getElem?_eq_getElem hil⟩
  have hxm : (rows.map Prod.fst)[i]? = some x.1 := by rw [List.getElem?_map, hx]; rfl
  obtain ⟨bb, off, cap, ob, hv1, hob1, _, hrow, _⟩ := (hv.1.frN hf1).read encStp_len i x hx
  have i0 : (0 : Int) ≤ (i : Int) := by omega
  have i1 : (i : Int) < (rows.length : Int) := by omega
  have wr : IntKind.i64.wrap ((i : Int) + 1) = (i : Int) + 1 := wrap64 (by omega) (by omega)
  have hxf := hft x (List.mem_of_getElem? hx)
  have hxw := hv.2 x (List.mem_of_getElem? hx)
  unfold encStp at hrow
  by_cases q0 : x.1.kind < 1
  ·have d0 : decide (x.1.kind < 1) = true := decide_eq_true q0
   simp (maxSteps:=4000000)(disch:=first|assumption|(simp only[dz];first|done|assumption|omega)|omega|apply_rules[Fr.refl,Fr.alloc,Fr.drew]|rfl) only [↓gd,gp,Nat.reduceAdd,Nat.reduceEqDiff, ↓hk12, e12, e13, e14, hv1, d, i0, i1, Int.toNat_natCast, hob1, hrow, d0, wr]
   have := tgo_bad hgo hxm (by unfold lineS; rw [if_neg (by omega)])
   rw [this] at hK
   exact hK _ (hf1.alloc _)
  have d0 : decide (x.1.kind < 1) = false := decide_eq_false q0
  by_cases q1 : 16 < x.1.kind
  ·have d1 : decide ((16 : Int) < x.1.kind) = true := decide_eq_true q1
   simp (maxSteps:=4000000)(disch:=first|assumption|(simp only[dz];first|done|assumption|omega)|omega|apply_rules[Fr.refl,Fr.alloc,Fr.drew]|rfl) only [↓gd,gp,Nat.reduceAdd,Nat.reduceEqDiff, ↓hk12, e12, e13, e14, hv1, d, i0, i1, Int.toNat_natCast, hob1, hrow, d0, d1, wr]
   have := tgo_bad hgo hxm (by unfold lineS; rw [if_neg (by omega)])
   rw [this] at hK
   exact hK _ (hf1.alloc _)
  have d1 : decide ((16 : Int) < x.1.kind) = false := decide_eq_false q1
  obtain ⟨f, hfk, hnf, hrf, hwl⟩ := form_at (k := (x.1.kind - 1).toNat) (by omega)
  have hls : lineS x.1 = lineF f x.1 := by unfold lineS; rw [if_pos (by omega), hfk]; rfl
  have hw8 : w1.alloc (.cells (encStp x).toArray 33 (0, 0)) = w1.alloc (.cells (encStp x).toArray 33 (0, 0)) := rfl
  obtain ⟨w2, hw2⟩ : ∃ w2, w2 = (w1.alloc (.cells (encStp x).toArray 33 (0, 0))).drew := ⟨_, rfl⟩
  have hf2 : Fr [] w1 w2 := by rw [hw2]; exact ((Fr.refl _ _).alloc _).drew
  have hf02 := hf1.trans' hf2
  obtain ⟨b2, off2, cap2, ob2, hv2, hob2, hbl2, hrow2, _⟩ := (forms_sl hfb1).read encForm_len _ f hfk
  simp only [Value.slice.injEq, Option.some.injEq, Addr.mk.injEq, and_true] at hv2
  obtain ⟨⟨rfl, rfl⟩, _, rfl⟩ := hv2
  have wk : IntKind.i64.wrap (x.1.kind - 1) = x.1.kind - 1 := wrap64 (by omega) (by omega)
  have j0 : (0 : Int) ≤ x.1.kind - 1 := by omega
  have j1 : x.1.kind - 1 < ((16 : Nat) : Int) := by omega
  have hline := @line_spec f x.1 w2 x.2 (fun v w' => ∃ t ok, v = .tuple #[.string (B t), .bool ok] ∧ Fr [] w2 w' ∧ ResL (lineF f x.1) t ok) hnf hrf hwl (hxw.frN hf02) hxf (ht.fr hf02) (fun t ok w' h1 h2 => ⟨t, ok, rfl, h1, h2⟩)
  rw [hw2] at hline
  unfold encForm at hrow2
  simp only [Nat.zero_add] at hrow2
  unfold encForm encStp at hline
  simp (maxSteps:=4000000)(disch:=first|assumption|(simp only[dz];first|done|assumption|omega)|omega|apply_rules[Fr.refl,Fr.alloc,Fr.drew]|rfl) only [↓gd,gp,Nat.reduceAdd,Nat.reduceEqDiff, ↓hk12, e12, e13, e14, e6, hv1, d, i0, i1, Int.toNat_natCast, hob1, hrow, d0, d1, wk, j0, j1, hob2, hrow2]
  refine hline.mono ?_
  rintro v3 w3 ⟨t, ok, rfl, hf3, hres⟩
  have cw3 := cur w3
  have hf3' : Fr [] w2 w3 := by rw [hw2]; exact hf3
  have hf13 := hf2.trans' hf3'
  have hf03 := hf1.trans' hf13
  rcases hres with ⟨hlt, rfl⟩ | ⟨hlt, rfl⟩
  ·have hB3 := isB_fr hB hf13
   have htl := lineF_len hxf hwl hlt
   have hgo' := tgo_on hgo hxm (hls.trans hlt)
   simp (maxSteps:=4000000)(disch:=first|assumption|(simp only[dz];first|done|assumption|omega)|omega|apply_rules[Fr.refl,Fr.alloc,Fr.drew]|rfl) only [↓gd,gp,Nat.reduceAdd,Nat.reduceEqDiff, ↓hk12, e5]
   refine blen_spec hB3 ?_
   by_cases q : out.length ≤ 65536
   ·have dq : decide ((out.length : Int) ≤ 65536) = true := decide_eq_true (by omega)
    rw [if_pos q] at hgo'
    have a1 := fun x' y' w => add9r x' y' t [10] (by simp only [List.length_cons, List.length_nil]; omega) w
    simp (maxSteps:=4000000)(disch:=first|assumption|(simp only[dz];first|done|assumption|omega)|omega|apply_rules[Fr.refl,Fr.alloc,Fr.drew]|rfl) only [↓gd,gp,Nat.reduceAdd,Nat.reduceEqDiff, ↓hk12, dq, a1, e5]
    refine bwrite_spec hB3 hf03 (by simp only [List.length_append, List.length_cons, List.length_nil]; omega) fun v4 w4 hB4 hf4 hkp => ?_
    have cw4 := cur w4
    simp (maxSteps:=4000000)(disch:=first|assumption|(simp only[dz];first|done|assumption|omega)|omega|apply_rules[Fr.refl,Fr.alloc,Fr.drew]|rfl) only [↓gd,gp,Nat.reduceAdd,Nat.reduceEqDiff, ↓hk12, e14, wr]
    refine hkk _ _ hil ?_ ⟨out ++ (t ++ [10]), ?_, ?_, ?_, ?_, hB4, by simp only [List.length_append, List.length_cons, List.length_nil]; omega, hkp _ _ _ _ (hf13.getN hfb1) (by decide) (by decide), hgo', hf4⟩
    ·simp (maxSteps:=4000000)(disch:=first|assumption|(simp only[dz];first|done|assumption|omega)|omega|apply_rules[Fr.refl,Fr.alloc,Fr.drew]|rfl) only [↓gsd,gs,gv,Nat.reduceAdd,Nat.reduceEqDiff]
    ·simp (maxSteps:=4000000)(disch:=first|assumption|(simp only[dz];first|done|assumption|omega)|omega|apply_rules[Fr.refl,Fr.alloc,Fr.drew]|rfl) only [↓gsd,gs,gv,Nat.reduceAdd,Nat.reduceEqDiff, e12, hv1]
    ·simp (maxSteps:=4000000)(disch:=first|assumption|(simp only[dz];first|done|assumption|omega)|omega|apply_rules[Fr.refl,Fr.alloc,Fr.drew]|rfl) only [↓gsd,gs,gv,Nat.reduceAdd,Nat.reduceEqDiff, e13]
    ·simp (maxSteps:=4000000)(disch:=first|assumption|(simp only[dz];first|done|assumption|omega)|omega|apply_rules[Fr.refl,Fr.alloc,Fr.drew]|rfl) only [↓gsd,gs,gv,Nat.reduceAdd,Nat.reduceEqDiff, e5]
    ·simp (maxSteps:=4000000)(disch:=first|assumption|(simp only[dz];first|done|assumption|omega)|omega|apply_rules[Fr.refl,Fr.alloc,Fr.drew]|rfl) only [↓gsd,gs,gv,Nat.reduceAdd,Nat.reduceEqDiff, e6]
   ·have dq : decide ((out.length : Int) ≤ 65536) = false := decide_eq_false (by omega)
    rw [if_neg q] at hgo'
    simp (maxSteps:=4000000)(disch:=first|assumption|(simp only[dz];first|done|assumption|omega)|omega|apply_rules[Fr.refl,Fr.alloc,Fr.drew]|rfl) only [↓gd,gp,Nat.reduceAdd,Nat.reduceEqDiff, ↓hk12, dq, e14, wr]
    refine hkk _ _ hil ?_ ⟨out, ?_, ?_, ?_, ?_, hB3, hol, hf13.getN hfb1, hgo', hf03⟩
    ·simp (maxSteps:=4000000)(disch:=first|assumption|(simp only[dz];first|done|assumption|omega)|omega|apply_rules[Fr.refl,Fr.alloc,Fr.drew]|rfl) only [↓gsd,gs,gv,Nat.reduceAdd,Nat.reduceEqDiff]
    ·simp (maxSteps:=4000000)(disch:=first|assumption|(simp only[dz];first|done|assumption|omega)|omega|apply_rules[Fr.refl,Fr.alloc,Fr.drew]|rfl) only [↓gsd,gs,gv,Nat.reduceAdd,Nat.reduceEqDiff, e12, hv1]
    ·simp (maxSteps:=4000000)(disch:=first|assumption|(simp only[dz];first|done|assumption|omega)|omega|apply_rules[Fr.refl,Fr.alloc,Fr.drew]|rfl) only [↓gsd,gs,gv,Nat.reduceAdd,Nat.reduceEqDiff, e13]
    ·simp (maxSteps:=4000000)(disch:=first|assumption|(simp only[dz];first|done|assumption|omega)|omega|apply_rules[Fr.refl,Fr.alloc,Fr.drew]|rfl) only [↓gsd,gs,gv,Nat.reduceAdd,Nat.reduceEqDiff, e5]
    ·simp (maxSteps:=4000000)(disch:=first|assumption|(simp only[dz];first|done|assumption|omega)|omega|apply_rules[Fr.refl,Fr.alloc,Fr.drew]|rfl) only [↓gsd,gs,gv,Nat.reduceAdd,Nat.reduceEqDiff, e6]
  ·have := tgo_bad hgo hxm (hls.trans hlt)
   rw [this] at hK
   simp (maxSteps:=4000000)(disch:=first|assumption|(simp only[dz];first|done|assumption|omega)|omega|apply_rules[Fr.refl,Fr.alloc,Fr.drew]|rfl) only [↓gd,gp,Nat.reduceAdd,Nat.reduceEqDiff, ↓hk12, wr]
   exact hK _ hf03
 ·have d : decide ((i : Int) < (rows.length : Int)) = false := decide_eq_false (by omega)
  have hi' : i = rows.length := by omega
  rw [hi', ← hlm] at hgo
  have hE := tgo_end hgo
  simp (maxSteps:=4000000)(disch:=first|assumption|(simp only[dz];first|done|assumption|omega)|omega|apply_rules[Fr.refl,Fr.alloc,Fr.drew]|rfl) only [↓gd,gp,Nat.reduceAdd,Nat.reduceEqDiff, ↓hk12, e12, e13, e14, e5, d]
  refine blen_spec hB ?_
  by_cases q : 65536 < out.length
  ·have dq : decide ((65536 : Int) < (out.length : Int)) = true := decide_eq_true (by omega)
   rw [if_pos q] at hE
   rw [hE] at hK
   simp (maxSteps:=4000000)(disch:=first|assumption|(simp only[dz];first|done|assumption|omega)|omega|apply_rules[Fr.refl,Fr.alloc,Fr.drew]|rfl) only [↓gd,gp,Nat.reduceAdd,Nat.reduceEqDiff, ↓hk12, dq]
   exact hK _ hf1
  ·have dq : decide ((65536 : Int) < (out.length : Int)) = false := decide_eq_false (by omega)
   rw [if_neg q] at hE
   rw [hE] at hK
   simp (maxSteps:=4000000)(disch:=first|assumption|(simp only[dz];first|done|assumption|omega)|omega|apply_rules[Fr.refl,Fr.alloc,Fr.drew]|rfl) only [↓gd,gp,Nat.reduceAdd,Nat.reduceEqDiff, ↓hk12, dq, e5]
   refine bstring_spec hB hf1 fun w2 hf2 => ?_
   exact hK _ hf2
end Go.Proofs.YtbbjnplellanaaaDoor
