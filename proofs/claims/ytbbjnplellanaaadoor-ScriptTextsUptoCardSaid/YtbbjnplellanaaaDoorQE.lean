/- The reference's Text; the law ScriptTexts walked. -/
import Derived.Test.YtbbjnplellanaaaDoorQD
import Derived.Test.YtbbjnplellanaaaDoorPR
set_option linter.unusedVariables false
set_option linter.unusedSimpArgs false
set_option maxRecDepth 100000
namespace Go.Proofs.YtbbjnplellanaaaDoor
open Go.VW
/-- Bytes that are the call's own. -/
structure BytAt (C : Nat) (w : World) (v : Value) (l : Bs) : Prop where
 own : Own 1 5 w v l.length (cellsOf encU l)
 ge : ∀ b, v.ownBlock = some b → C ≤ b
theorem BytAt.fr {C : Nat} {w w' : World} {v : Value} {l : Bs} (h : BytAt C w v l) (hf : Fr [] w w') : BytAt C w' v l := ⟨Own.frN h.own hf, h.ge⟩
theorem cellsU_str (l : Bs) : cellsOf encU l = Lib.strCells (B l) := by rw [cellsU, Lib.strCells, B_list]
theorem byt_str {W0 w : World} {v : Value} {l m : Bs} (h : BytAt W0.heap.size w v l) (hf : Fr [] W0 w) (hl : l.length + m.length ≤ 140737488355328) :
  ∃ v' w', (Builtin.append_ #[43, 9] 43 #[v, .string (B m)]).run Tryd.prog w = .ok v' w' ∧ BytAt W0.heap.size w' v' (l ++ m) ∧ Fr [] W0 w' := by
 have ho : w.ownsRow W0.heap.size 5 1 v l.length (cellsOf encU l) := by
  refine ⟨h.own.1, ?_⟩
  rcases h.own.2 with h0 | ⟨g, cap, cur, hv, hb, rest⟩
  ·exact .inl h0
  ·exact .inr ⟨g, cap, cur, hv, h.ge g (by rw [hv]; rfl), rest⟩
 obtain ⟨v', w', hr, ho', hg, _⟩ := Lib.run_append_own_string (P := Tryd.prog) w W0.heap.size 43 9 43 5 ((Tryd.prog.info? 5).get (by kernel_rfl)) Tryd.underlying43 Tryd.underlying9 (by kernel_rfl) (by kernel_rfl) (by kernel_rfl) (by kernel_rfl) v l.length _ ho (B m) (by rw [B_size]; unfold maxLen; omega) (by rw [B_size]; exact hl) hf.size
 refine ⟨v', w', hr, ⟨?_, ?_⟩, ?_⟩
 ·have := own_mono ho'
  rw [B_size, cellsU_str, strCells_B, strCells_B] at this
  rw [List.length_append, cellsU_str, strCells_B]
  have e : Lib.byteCells (l ++ m) = Lib.byteCells l ++ Lib.byteCells m := by simp [Lib.byteCells]
  rw [e]; exact this
 ·intro b hb
  rcases ho'.2 with ⟨rfl, _⟩ | ⟨g, cap, cur, hv, hb', _⟩
  ·simp [Value.ownBlock] at hb
  ·rw [hv] at hb; simp only [Value.ownBlock, Option.some.injEq] at hb; subst hb; exact hb'
 ·have hfr : Fr (blkL v) w w' := ⟨hg.os, hg.tape, hg.output, hg.size, fun b hb hn => hg.block b hb fun e => hn (by simp [blkL, ← e])⟩
  exact hf.trans hfr fun x hx => .inr (h.ge _ (mem_blkL hx))
theorem byt_one {W0 w : World} {a : Option Addr} {n c : Nat} {l : Bs} (b : UInt8) (h : BytAt W0.heap.size w (.slice a n c) l) (hf : Fr [] W0 w) (hl : l.length + 1 ≤ 140737488355328) :
  ∃ v' w', (Builtin.append_ #[43, 43] 43 #[.slice a n c, .slice (some ⟨w.heap.size, 0, none⟩) 1 1]).run Tryd.prog (w.alloc (.cells ([.int .u8 b.toNat] : List Value).toArray 5 (0, 0))) = .ok v' w' ∧ BytAt W0.heap.size w' v' (l ++ [b]) ∧ Fr [] W0 w' := by
 have hsx := sl_new (e := 5) (w := w) (encU_len b)
 have hfx : Fr [] w (w.alloc (.cells (encU b).toArray 5 (0, 0))) := (Fr.refl _ _).alloc _
 obtain ⟨v4, w4, hr4, hown4, hf4, hbk⟩ := ap43 (ty := 43) (Own.frN h.own hfx) hsx (by rfl) (by omega)
 refine ⟨v4, w4, hr4, ⟨?_, ?_⟩, (hf.trans' hfx).trans hf4 fun z hz => .inr (h.ge _ (mem_blkL hz))⟩
 ·rw [List.length_append, List.length_singleton, cellsOf_append, cellsOf_one]; exact hown4
 ·exact own_fresh hbk h.ge (by simp only [size_alloc]; have := hf.size; omega)
theorem cvBytes {C : Nat} {w : World} {v : Value} {l : Bs} (h : BytAt C w v l) : (convert 43 9 v).run Tryd.prog w = .ok (.string (B l)) w := by
 rcases h.own.2 with ⟨rfl, h0⟩ | ⟨g, cap, cur, hv, _⟩
 ·have hl : l = [] := List.eq_nil_of_length_eq_zero h0
  subst hl
  rw [run_convert_bytes_string w 43 9 5 none 0 0 Tryd.underlying43 Tryd.underlying5 Tryd.underlying9]
  rfl
 ·have := h.own
  rw [hv] at this ⊢
  exact cvU this rfl
set_option maxHeartbeats 16000000 in
theorem rtext_spec {w : World} {v : Value} {rows : List (Stp × SlV)} {K : Value → World → Prop} (hv : RowsAt w v rows) (hft : ∀ x ∈ rows, Fits x.1) (hn : rows.length ≤ 4000000000)
  (hK : ∀ w', Fr [] w w' → K (.tuple #[.string (B (textL (rows.map Prod.fst)).1), .int .i64 (textL (rows.map Prod.fst)).2.1, .int .i64 (textL (rows.map Prod.fst)).2.2]) w') : CallsN Tryd.prog 13 [v] w K := by
 have cw := cur w
 obtain ⟨va, vc, hvv⟩ := hv.1.form
 refine call13 ?_
 simp (maxSteps:=4000000)(disch:=first|assumption|(simp only[dz];first|done|assumption|omega)|omega|apply_rules[Fr.refl,Fr.alloc,Fr.drew]|rfl) only [↓gd,gp,Nat.reduceAdd,Nat.reduceEqDiff, ↓hk13]
 obtain ⟨R, hR⟩ : ∃ R, R = textL (rows.map Prod.fst) := ⟨_, rfl⟩
 rw [← hR] at hK
 have hlm : (rows.map Prod.fst).length = rows.length := by simp
 refine for_intro rows.length 6 0 (fun i e' w' => ∃ (out : Bs) (ov : Value), e' 0 = v ∧ e' 5 = ov ∧ BytAt w.heap.size w' ov out ∧ out.length ≤ 65536 + 10000000000001 ∧ textGo ((rows.map Prod.fst).drop i) i out = R ∧ Fr [] w w') ?_ (Nat.zero_le _) ?_ ?_
 ·simp (maxSteps:=4000000)(disch:=first|assumption|(simp only[dz];first|done|assumption|omega)|omega|apply_rules[Fr.refl,Fr.alloc,Fr.drew]|rfl) only [↓gsd,gs,gv,Nat.reduceAdd,Nat.reduceEqDiff]; rfl
 ·refine ⟨[], .slice none 0 0, ?_, ?_, ⟨Own.nil, fun b hb => by simp [Value.ownBlock] at hb⟩, Nat.zero_le _, by rw [hR]; rfl, Fr.refl _ _⟩
  ·simp (maxSteps:=4000000)(disch:=first|assumption|(simp only[dz];first|done|assumption|omega)|omega|apply_rules[Fr.refl,Fr.alloc,Fr.drew]|rfl) only [↓gsd,gs,gv,Nat.reduceAdd,Nat.reduceEqDiff]
  ·simp (maxSteps:=4000000)(disch:=first|assumption|(simp only[dz];first|done|assumption|omega)|omega|apply_rules[Fr.refl,Fr.alloc,Fr.drew]|rfl) only [↓gsd,gs,gv,Nat.reduceAdd,Nat.reduceEqDiff]
 rintro i e1 w1 kk hi e6 ⟨out, ov, e0, e5, hB, hol, hgo, hf1⟩ hkk
 have cw1 := cur w1
 by_cases hil : i < rows.length
 ·have d : decide ((i : Int) < (rows.length : Int)) = true := decide_eq_true (by omega)
  obtain ⟨x, hx⟩ : ∃ x, rows[i]? = some x := ⟨rows[i], List.getElem?_eq_getElem hil⟩
  have hxm : (rows.map Prod.fst)[i]? = some x.1 := by rw [List.getElem?_map, hx]; rfl
  obtain ⟨bb, off, cap, ob, hv1, hob1, _, hrow, _⟩ := (hv.1.frN hf1).read encStp_len i x hx
  have i0 : (0 : Int) ≤ (i : Int) := by omega
  have i1 : (i : Int) < (rows.length : Int) := by omega
  have wr : IntKind.i64.wrap ((i : Int) + 1) = (i : Int) + 1 := wrap64 (by omega) (by omega)
  have hxf := hft x (List.mem_of_getElem? hx)
  have hxw := hv.2 x (List.mem_of_getElem? hx)
  simp (maxSteps:=4000000)(disch:=first|assumption|(simp only[dz];first|done|assumption|omega)|omega|apply_rules[Fr.refl,Fr.alloc,Fr.drew]|rfl) only [↓gd,gp,Nat.reduceAdd,Nat.reduceEqDiff, ↓hk13, e0, e6, hv1, d, i0, i1, Int.toNat_natCast, hob1, hrow]
  refine rline_spec (s := x.1) (sv := x.2) (hxw.frN hf1) hxf fun t ok w3 hf3 hres => ?_
  have cw3 := cur w3
  have hf03 := hf1.trans' hf3
  have hB3 := hB.fr hf3
  rcases hres with ⟨hlt, rfl⟩ | ⟨hlt, rfl⟩
  ·have htl : t.length ≤ 10000000000000 := by
    unfold lineS at hlt
    split at hlt
    ·rename_i hr
     obtain ⟨f, hfk, hnf, hrf, hwl⟩ := form_at (k := (x.1.kind - 1).toNat) (by omega)
     rw [hfk] at hlt
     exact lineF_len hxf hwl hlt
    ·cases hlt
   have hgo' := tgo_on hgo hxm hlt
   obtain ⟨oa, oc, hov⟩ := hB3.own.sl.form
   by_cases q : out.length ≤ 65536
   ·have dq : decide ((out.length : Int) ≤ 65536) = true := decide_eq_true (by omega)
    rw [if_pos q] at hgo'
    obtain ⟨v4, w4, hr4, hB4, hf4⟩ := byt_str (m := t) hB3 hf03 (by omega)
    have cw4 := cur w4
    obtain ⟨oa4, oc4, hov4⟩ := hB4.own.sl.form
    rw [hov4] at hB4 hr4
    obtain ⟨v5, w5, hr5, hB5, hf5⟩ := byt_one 10 hB4 hf4 (by simp only [List.length_append]; omega)
    have e10 : (((10 : UInt8).toNat : Nat) : Int) = 10 := rfl
    rw [e10] at hr5
    have cw5 := cur w5
    rw [hov] at hr4
    simp (maxSteps:=4000000)(disch:=first|assumption|(simp only[dz];first|done|assumption|omega)|omega|apply_rules[Fr.refl,Fr.alloc,Fr.drew]|rfl) only [↓gd,gp,Nat.reduceAdd,Nat.reduceEqDiff, ↓hk13, e5, e6, hov, dq, hr4, hr5, wr]
    refine hkk _ _ hil ?_ ⟨out ++ (t ++ [10]), v5, ?_, ?_, by rw [← List.append_assoc]; exact hB5, by simp only [List.length_append, List.length_cons, List.length_nil]; omega, hgo', hf5⟩
    ·simp (maxSteps:=4000000)(disch:=first|assumption|(simp only[dz];first|done|assumption|omega)|omega|apply_rules[Fr.refl,Fr.alloc,Fr.drew]|rfl) only [↓gsd,gs,gv,Nat.reduceAdd,Nat.reduceEqDiff]
    ·simp (maxSteps:=4000000)(disch:=first|assumption|(simp only[dz];first|done|assumption|omega)|omega|apply_rules[Fr.refl,Fr.alloc,Fr.drew]|rfl) only [↓gsd,gs,gv,Nat.reduceAdd,Nat.reduceEqDiff, e0, hv1]
    ·simp (maxSteps:=4000000)(disch:=first|assumption|(simp only[dz];first|done|assumption|omega)|omega|apply_rules[Fr.refl,Fr.alloc,Fr.drew]|rfl) only [↓gsd,gs,gv,Nat.reduceAdd,Nat.reduceEqDiff]
   ·have dq : decide ((out.length : Int) ≤ 65536) = false := decide_eq_false (by omega)
    rw [if_neg q] at hgo'
    simp (maxSteps:=4000000)(disch:=first|assumption|(simp only[dz];first|done|assumption|omega)|omega|apply_rules[Fr.refl,Fr.alloc,Fr.drew]|rfl) only [↓gd,gp,Nat.reduceAdd,Nat.reduceEqDiff, ↓hk13, e5, e6, hov, dq, wr]
    refine hkk _ _ hil ?_ ⟨out, ov, ?_, ?_, hB3, hol, hgo', hf03⟩
    ·simp (maxSteps:=4000000)(disch:=first|assumption|(simp only[dz];first|done|assumption|omega)|omega|apply_rules[Fr.refl,Fr.alloc,Fr.drew]|rfl) only [↓gsd,gs,gv,Nat.reduceAdd,Nat.reduceEqDiff]
    ·simp (maxSteps:=4000000)(disch:=first|assumption|(simp only[dz];first|done|assumption|omega)|omega|apply_rules[Fr.refl,Fr.alloc,Fr.drew]|rfl) only [↓gsd,gs,gv,Nat.reduceAdd,Nat.reduceEqDiff, e0, hv1]
    ·simp (maxSteps:=4000000)(disch:=first|assumption|(simp only[dz];first|done|assumption|omega)|omega|apply_rules[Fr.refl,Fr.alloc,Fr.drew]|rfl) only [↓gsd,gs,gv,Nat.reduceAdd,Nat.reduceEqDiff, e5, hov]
  ·have := tgo_bad hgo hxm hlt
   rw [this] at hK
   simp (maxSteps:=4000000)(disch:=first|assumption|(simp only[dz];first|done|assumption|omega)|omega|apply_rules[Fr.refl,Fr.alloc,Fr.drew]|rfl) only [↓gd,gp,Nat.reduceAdd,Nat.reduceEqDiff, ↓hk13, e6, wr]
   exact hK _ hf03
 ·have d : decide ((i : Int) < (rows.length : Int)) = false := decide_eq_false (by omega)
  have hi' : i = rows.length := by omega
  rw [hi', ← hlm] at hgo
  have hE := tgo_end hgo
  obtain ⟨oa, oc, hov⟩ := hB.own.sl.form
  have hcv := cvBytes hB
  rw [hov] at hcv
  by_cases q : 65536 < out.length
  ·have dq : decide ((65536 : Int) < (out.length : Int)) = true := decide_eq_true (by omega)
   rw [if_pos q] at hE
   rw [hE] at hK
   simp (maxSteps:=4000000)(disch:=first|assumption|(simp only[dz];first|done|assumption|omega)|omega|apply_rules[Fr.refl,Fr.alloc,Fr.drew]|rfl) only [↓gd,gp,Nat.reduceAdd,Nat.reduceEqDiff, ↓hk13, e0, e5, e6, hvv, hov, d, dq]
   exact hK _ hf1
  ·have dq : decide ((65536 : Int) < (out.length : Int)) = false := decide_eq_false (by omega)
   rw [if_neg q] at hE
   rw [hE] at hK
   simp (maxSteps:=4000000)(disch:=first|assumption|(simp only[dz];first|done|assumption|omega)|omega|apply_rules[Fr.refl,Fr.alloc,Fr.drew]|rfl) only [↓gd,gp,Nat.reduceAdd,Nat.reduceEqDiff, ↓hk13, e0, e5, e6, hvv, hov, d, dq, hcv]
   exact hK _ hf1
end Go.Proofs.YtbbjnplellanaaaDoor
