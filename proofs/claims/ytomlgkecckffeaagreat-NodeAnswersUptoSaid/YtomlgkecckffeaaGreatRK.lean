/- NodeAnswers: the script. The config, a pin and a script among the arguments, opened. What the rows share: arguments that are only read. -/
import Derived.Test.YtomlgkecckffeaaGreatYA
import Derived.Test.YtomlgkecckffeaaGreatVJ
import Derived.Test.YtomlgkecckffeaaGreatCI
import Derived.Test.YtomlgkecckffeaaGreatRows
import Derived.WalkKit
import Derived.ProofKit
import Derived.OpenShut
import Derived.ChangeMaps5
import Derived.ReadAgain
set_option linter.unusedVariables false
set_option linter.unusedSimpArgs false
set_option maxRecDepth 10000
namespace Go.Proofs.YtomlgkecckffeaaGreat
open Go.VW
structure OpsAt (w : World) (v : Value) (os : List Op12) : Prop where
 sl : SlOf 12 encOp12 w v os
 len : os.length ≤ 2000000
 ok : ∀ o ∈ os, ∃ ks, o.ok w ks ∧ ks.length ≤ 2000000
theorem OpsAt.frN {w w' : World} {v : Value} {os : List Op12} (h : OpsAt w v os) (hf : Fr [] w w') : OpsAt w' v os :=
 ⟨h.sl.frN hf, h.len, fun o ho => by obtain ⟨ks, k1, k2⟩ := h.ok o ho; exact ⟨ks, ⟨k1.sl.frN hf, k1.len, k1.k0, k1.k1⟩, k2⟩⟩
structure NodeIn (W w : World) (a : Lay) (c : Cfg) (inc : Int) (M : Mem) (i : Int) : Prop where
 at_ : NodeAt w a c inc M
 ok : MOK c M i
 ge : ∀ y ∈ a.all, W.heap.size ≤ y
 fr : Fr [] W w
theorem NodeIn.frN {W w w' : World} {a : Lay} {c : Cfg} {inc : Int} {M : Mem} {i : Int} (h : NodeIn W w a c inc M i) (hf : Fr [] w w') : NodeIn W w' a c inc M i := ⟨h.at_.frN hf, h.ok, h.ge, h.fr.trans' hf⟩
section
variable {W w : World} {a : Lay} {c : Cfg} {inc : Int} {M : Mem} {i : Int} {K : Value → World → Prop}
theorem fill_in (h : NodeIn W w a c inc M i) (hc : CfgOK c) (hi : i ≤ 4611686018427387904) {f : Ent} {read : Int} (hK : ∀ w' S', NodeIn W w' { a with S := S' } c inc (M.fill c f read).1 (i + 1) → K (.bool (M.fill c f read).2) w') :
  CallsN Tryz.prog 18 [.pointer (some ⟨a.nb, 0, none⟩), .agg (encFct f).toArray, .int .i64 read] w K := by
 have hb0 := hc.b0
 have hb1 := hc.b1
 exact fill_spec h.at_ h.ok.ti.tok (by omega) fun w' S' h' hS' hf' => hK w' S' ⟨h', h.ok.fill hc hi f read, all_ge h.ge hS' h.fr.size, h.fr.trans hf' fun y hy => .inr (h.ge y hy)⟩
theorem apply_in (h : NodeIn W w a c inc M i) (hc : CfgOK c) {x : KRec} (hs : SlOf 1 encS w (.slice x.r.a x.r.l x.r.c) x.ks) (hsl : x.ks.length ≤ 4000000000000)
  (hK : ∀ w' S' x', x'.r.n = x.r.n → x'.ks = x.ks → NodeIn W w' { a with S := S' } c inc (M.apply x.r.n x').1 i → K (.bool (M.apply x.r.n x').2) w') :
  CallsN Tryz.prog 20 [.pointer (some ⟨a.nb, 0, none⟩), .agg (encR x.r).toArray] w K := by
 have hb0 := hc.b0
 have hb1 := hc.b1
 exact apply_spec h.at_ h.ok.ti (by omega) h.ok.wf hs hsl fun w' S' x' q1 q2 h' hT' hg' hS' hf' => hK w' S' x' q1 q2 ⟨h', ⟨by rw [(apply_ins _ _ _).1]; exact hT', hg', by rw [(apply_ins _ _ _).1]; exact h.ok.i0, by rw [(apply_ins _ _ _).1]; exact h.ok.i1⟩, all_ge h.ge hS' h.fr.size, h.fr.trans hf' fun y hy => .inr (h.ge y hy)⟩
theorem new_in {c : Cfg} (hK : ∀ a w', NodeIn w w' a c.held 1 (Mem.zero c.held true 0) 0 → K (.pointer (some ⟨a.nb, 0, none⟩)) w') : CallsN Tryz.prog 15 [.agg (encCfg c).toArray] w K :=
 newN_spec fun a w' hf hge h => hK a w' ⟨h, MOK.zero _ _ _, hge, hf⟩
theorem view_in (h : NodeIn W w a c inc M i) (hc : CfgOK c) (hK : ∀ vw ve w', Own 1 2 w' vw M.g.ws.length ((sortI (M.g.ws.map (·.1))).map (Value.int .i64)) → Own 8 52 w' ve M.T.list.length (cellsOf encEnt M.T.list) → (∀ b, vw.ownBlock = some b → w.heap.size ≤ b) → (∀ b, ve.ownBlock = some b → w.heap.size ≤ b) → (∀ b, ve.ownBlock = some b → vw.ownBlock ≠ some b) → NodeIn W w' a c inc M i → Fr [] w w' → K (.agg (viewV M inc vw ve).toArray) w') :
  CallsN Tryz.prog 23 [.pointer (some ⟨a.nb, 0, none⟩)] w K := by
 have hb0 := hc.b0
 have hb1 := hc.b1
 exact view_spec h.at_ h.ok.ti.tok (by omega) h.ok.wf fun vw ve w' q1 q2 q3 q4 q5 hf => hK vw ve w' q1 q2 q3 q4 q5 (h.frN hf) hf
end
set_option maxHeartbeats 32000000 in
theorem ans_script {W w : World} {a : Lay} {c : Cfg} {M : Mem} {v : Value} {os : List Op12} {e : Env} {k : Env → World → Prop} {Q : Exit → Env → World → Prop} (h : NodeIn W w a c 1 M 0) (hc : CfgOK c) (hs : OpsAt W v os)
  (e1 : e 1 = v) (e9 : e 9 = .pointer (some ⟨a.nb, 0, none⟩))
  (hK : ∀ e' w' S' M', NodeIn W w' { a with S := S' } c 1 M' os.length → e' 2 = e 2 → e' 7 = e 7 → e' 9 = e 9 → k e' w') :
  W3 Tryz.prog 154 V4 c4_37 (seqQ k Q) e w := by
 have cw := cur w
 rw [e9] at hK
 obtain ⟨va, vc, hv⟩ := hs.sl.form
 simp (maxSteps:=9^7)(disch:=first|assumption|(simp only[dz];first|done|assumption|omega)|omega|apply_rules[Fr.refl,Fr.alloc,Fr.drew]|rfl) only [↓gd,gp,Nat.reduceAdd,Nat.reduceEqDiff, ↓hk4]
 refine for_intro os.length 10 0 (fun i e1 w' => ∃ S M', e1 1 = v ∧ e1 2 = e 2 ∧ e1 7 = e 7 ∧ e1 9 = .pointer (some ⟨a.nb, 0, none⟩) ∧ NodeIn W w' { a with S := S } c 1 M' i) ?_ (Nat.zero_le _) ?_ ?_
 ·simp (maxSteps:=9^7)(disch:=first|assumption|(simp only[dz];first|done|assumption|omega)|omega|apply_rules[Fr.refl,Fr.alloc,Fr.drew]|rfl) only [↓gsd,gs,gv,Nat.reduceAdd,Nat.reduceEqDiff, Int.natCast_zero]
 ·refine ⟨a.S, M, ?_⟩
  simp (maxSteps:=9^7)(disch:=first|assumption|(simp only[dz];first|done|assumption|omega)|omega|apply_rules[Fr.refl,Fr.alloc,Fr.drew]|rfl) only [↓gsd,gs,gv,Nat.reduceAdd,Nat.reduceEqDiff, e1, e9, Int.natCast_zero]
  exact h
 rintro i e2 w1 kk hi eS ⟨S, M1, r1, r2, r7, r9, h1⟩ hkk
 have cw1 := cur w1
 have hs1 := hs.frN h1.fr
 have hll := hs.len
 by_cases hil : i < os.length
 ·have d1 : decide ((i : Int) < (os.length : Int)) = true := decide_eq_true (by omega)
  obtain ⟨o, ho⟩ : ∃ o, os[i]? = some o := ⟨os[i], List.getElem?_eq_getElem hil⟩
  obtain ⟨ks, hok, hkl⟩ := hs1.ok o (List.mem_of_getElem? ho)
  obtain ⟨b1, o1, p1, ob1, hv1, hb1, hbl1, hr1, _⟩ := hs1.sl.read encOp12_len i o ho
  have i0 : (0 : Int) ≤ (i : Int) := by omega
  have i1 : (i : Int) < (os.length : Int) := by omega
  have wi : IntKind.i64.wrap ((i : Int) + 1) = (i : Int) + 1 := wrap64 (by omega) (by omega)
  rw [hv1] at r1
  unfold encOp12 at hr1
  simp (maxSteps:=9^7)(disch:=first|assumption|(simp only[dz];first|done|assumption|omega)|omega|apply_rules[Fr.refl,Fr.alloc,Fr.drew]|rfl) only [↓gd,gp,Nat.reduceAdd,Nat.reduceEqDiff, ↓hk4, r1, r9, eS, d1, i0, i1, Int.toNat_natCast, Nat.mul_one, hb1, hr1, run_rem]
  generalize hW : World.alloc w1 _ = w2
  have hf2 : Fr [] w1 w2 := by rw [← hW]; exact fr_
  clear hW
  have cw2 := cur w2
  have h2 := h1.frN hf2
  cases hpar : decide (o.k.tmod 2 = 0) with
  | true =>
    simp (maxSteps:=9^7)(disch:=first|assumption|(simp only[dz];first|done|assumption|omega)|omega|apply_rules[Fr.refl,Fr.alloc,Fr.drew]|rfl) only [↓gd,gp,Nat.reduceAdd,Nat.reduceEqDiff, ↓hk4]
    refine fill_in (f := o.f) h2 hc (by omega) fun w3 S3 h3 => ?_
    have cw3 := cur w3
    simp (maxSteps:=9^7)(disch:=first|assumption|(simp only[dz];first|done|assumption|omega)|omega|apply_rules[Fr.refl,Fr.alloc,Fr.drew]|rfl) only [↓gd,gp,Nat.reduceAdd,Nat.reduceEqDiff, ↓hk4, r1, r9, eS, wi]
    refine hkk _ _ hil rfl ⟨S3, (M1.fill c o.f o.n).1, ?_⟩
    simp (maxSteps:=9^7)(disch:=first|assumption|(simp only[dz];first|done|assumption|omega)|omega|apply_rules[Fr.refl,Fr.alloc,Fr.drew]|rfl) only [↓gsd,gs,gv,Nat.reduceAdd,Nat.reduceEqDiff, r1, r2, r7, r9, ← hv1]
    exact h3
  | false =>
    simp (maxSteps:=9^7)(disch:=first|assumption|(simp only[dz];first|done|assumption|omega)|omega|apply_rules[Fr.refl,Fr.alloc,Fr.drew]|rfl) only [↓gd,gp,Nat.reduceAdd,Nat.reduceEqDiff, ↓hk4]
    refine apply_in (x := ⟨⟨o.n, o.ka, o.kl, o.kc⟩, ks⟩) h2 hc (hok.sl.frN hf2) (by show ks.length ≤ _; omega) fun w3 S3 x' q1 q2 h3 => ?_
    have cw3 := cur w3
    simp (maxSteps:=9^7)(disch:=first|assumption|(simp only[dz];first|done|assumption|omega)|omega|apply_rules[Fr.refl,Fr.alloc,Fr.drew]|rfl) only [↓gd,gp,Nat.reduceAdd,Nat.reduceEqDiff, ↓hk4, r1, r9, eS, wi]
    refine hkk _ _ hil rfl ⟨S3, (M1.apply o.n x').1, ?_⟩
    simp (maxSteps:=9^7)(disch:=first|assumption|(simp only[dz];first|done|assumption|omega)|omega|apply_rules[Fr.refl,Fr.alloc,Fr.drew]|rfl) only [↓gsd,gs,gv,Nat.reduceAdd,Nat.reduceEqDiff, r1, r2, r7, r9, ← hv1]
    exact ⟨h3.at_, h3.ok.mono (by omega), h3.ge, h3.fr⟩
 ·have d1 : decide ((i : Int) < (os.length : Int)) = false := decide_eq_false (by omega)
  have : i = os.length := by omega
  subst this
  rw [hv] at r1
  simp (maxSteps:=9^7)(disch:=first|assumption|(simp only[dz];first|done|assumption|omega)|omega|apply_rules[Fr.refl,Fr.alloc,Fr.drew]|rfl) only [↓gd,gp,Nat.reduceAdd,Nat.reduceEqDiff, ↓hk4, r1, r9, eS, d1]
  exact hK _ w1 S M1 h1 r2 r7 r9
theorem ncoCfg : Tryz.prog.cellsOf 25 = 8 := by kernel_rfl
theorem u_cfg : ∃ fs, Tryz.prog.underlying 25 = some (.struct fs) ∧ ∃ f0 f1 f2 f3 f4 f5 f6 f7, fs[0]? = some f0 ∧ fs[1]? = some f1 ∧ fs[2]? = some f2 ∧ fs[3]? = some f3 ∧ fs[4]? = some f4 ∧ fs[5]? = some f5 ∧ fs[6]? = some f6 ∧ fs[7]? = some f7 ∧ (f0.type = 3 ∧ f0.offset = 0) ∧ (f1.type = 3 ∧ f1.offset = 1) ∧ (f2.type = 3 ∧ f2.offset = 2) ∧ (f3.type = 3 ∧ f3.offset = 3) ∧ (f4.type = 3 ∧ f4.offset = 4) ∧ (f5.type = 3 ∧ f5.offset = 5) ∧ (f6.type = 3 ∧ f6.offset = 6) ∧ (f7.type = 3 ∧ f7.offset = 7) ∧ fs.size = 8 :=
 ⟨_, und_of (Tryz.runUnderlying25 default), _, _, _, _, _, _, _, _, rfl, rfl, rfl, rfl, rfl, rfl, rfl, rfl, ⟨rfl, rfl⟩, ⟨rfl, rfl⟩, ⟨rfl, rfl⟩, ⟨rfl, rfl⟩, ⟨rfl, rfl⟩, ⟨rfl, rfl⟩, ⟨rfl, rfl⟩, ⟨rfl, rfl⟩, rfl⟩
theorem un_tOps12 : Tryz.prog.underlying 46 = some (.slice 50) := by kernel_rfl
def encPin (p : Int × Int) : List Value := [.int .i64 p.1, .int .i64 p.2]
section
variable {H : Type} {ec : TypeId × Value → H} {w : World} {base : Nat} {spare : Nat → Bool} {held : Bool}
theorem open_cfg {n : Nat} {cs : List Value} {x : DataW H × List MemPlace} (h : DataW.trod ec Tryz.prog w base spare held n 25 cs = some x) : ∃ c : Cfg, cs = encCfg c ∧ True := by
 obtain ⟨fs, hu, f0, f1, f2, f3, f4, f5, f6, f7, e0, e1, e2, e3, e4, e5, e6, e7, ⟨t0, o0⟩, ⟨t1, o1⟩, ⟨t2, o2⟩, ⟨t3, o3⟩, ⟨t4, o4⟩, ⟨t5, o5⟩, ⟨t6, o6⟩, ⟨t7, o7⟩, hs⟩ := u_cfg
 obtain ⟨xs, m, rfl, rfl, hl, hxl, hx⟩ := DataW.trod_struct hu h
 rw [ncoCfg] at hl
 have h0 := hx 0 f0 e0
 rw [t0, o0, nco3, List.getElem?_eq_getElem (by omega)] at h0
 have h1 := hx 1 f1 e1
 rw [t1, o1, nco3, List.getElem?_eq_getElem (by omega)] at h1
 have h2 := hx 2 f2 e2
 rw [t2, o2, nco3, List.getElem?_eq_getElem (by omega)] at h2
 have h3 := hx 3 f3 e3
 rw [t3, o3, nco3, List.getElem?_eq_getElem (by omega)] at h3
 have h4 := hx 4 f4 e4
 rw [t4, o4, nco3, List.getElem?_eq_getElem (by omega)] at h4
 have h5 := hx 5 f5 e5
 rw [t5, o5, nco3, List.getElem?_eq_getElem (by omega)] at h5
 have h6 := hx 6 f6 e6
 rw [t6, o6, nco3, List.getElem?_eq_getElem (by omega)] at h6
 have h7 := hx 7 f7 e7
 rw [t7, o7, nco3, List.getElem?_eq_getElem (by omega)] at h7
 obtain ⟨a0, g0, _⟩ := DataW.trod_int nun3 h0
 obtain ⟨a1, g1, _⟩ := DataW.trod_int nun3 h1
 obtain ⟨a2, g2, _⟩ := DataW.trod_int nun3 h2
 obtain ⟨a3, g3, _⟩ := DataW.trod_int nun3 h3
 obtain ⟨a4, g4, _⟩ := DataW.trod_int nun3 h4
 obtain ⟨a5, g5, _⟩ := DataW.trod_int nun3 h5
 obtain ⟨a6, g6, _⟩ := DataW.trod_int nun3 h6
 obtain ⟨a7, g7, _⟩ := DataW.trod_int nun3 h7
 obtain ⟨c0, c1, c2, c3, c4, c5, c6, c7, rfl⟩ : ∃ c0 c1 c2 c3 c4 c5 c6 c7, cs = [c0, c1, c2, c3, c4, c5, c6, c7] := by
  match cs, hl with
  | [c0, c1, c2, c3, c4, c5, c6, c7], _ => exact ⟨c0, c1, c2, c3, c4, c5, c6, c7, rfl⟩
 simp at g0 g1 g2 g3 g4 g5 g6 g7
 exact ⟨⟨a0, a1, a2, a3, a4, a5, a6, a7⟩, by rw [g0, g1, g2, g3, g4, g5, g6, g7]; rfl, trivial⟩
theorem open_pinP {n : Nat} {cs : List Value} {x : DataW H × List MemPlace} (h : DataW.trod ec Tryz.prog w base spare held n 48 cs = some x) : ∃ p : Int × Int, cs = encPin p ∧ True := by
 obtain ⟨a, b, e⟩ := open_pin h
 exact ⟨(a, b), e, trivial⟩
theorem bulk_mem {d : DataW H} {l : List (DataW H)} (h : d ∈ l) : Rows.uptoBulk d ≤ Rows.uptoBulkAll l := by
 induction l with
 | nil => cases h
 | cons x r ih =>
   simp only [Rows.uptoBulkAll]
   rcases List.mem_cons.1 h with rfl | h
   ·omega
   ·have := ih h; omega
theorem open_op12B {n : Nat} {cs : List Value} {x : DataW H × List MemPlace} (h : DataW.trod ec Tryz.prog w base spare held n 50 cs = some x) : ∃ o : Op12, cs = encOp12 o ∧ ∃ ks, o.ok w ks ∧ ks.length ≤ Rows.uptoBulk x.1 := by
 obtain ⟨o, e, ks, hok⟩ := open_op12 h
 refine ⟨o, e, ks, hok, ?_⟩
 obtain ⟨fs, hu, f0, f1, f2, f3, f4, f5, f6, e0, e1, e2, e3, e4, e5, e6, ⟨t0, o0⟩, ⟨t1, o1⟩, ⟨t2, o2⟩, ⟨t3, o3⟩, ⟨t4, o4⟩, ⟨t5, o5⟩, ⟨t6, o6⟩, hs⟩ := u_op12
 obtain ⟨xs, m, rfl, rfl, hl, hxl, hx⟩ := DataW.trod_struct hu h
 have h5 := hx 5 f5 e5
 rw [t5, o5, ncoStrs, List.getElem?_eq_getElem (by omega)] at h5
 rw [e] at h5
 have h5' : DataW.trod ec Tryz.prog w base spare held m 22 [.slice o.ka o.kl o.kc] = some (xs[5]'(by omega)) := h5
 have hb := bulk_slice nunStrs h5'
 obtain ⟨_, _, hf⟩ := hok.sl.form
 have hkl : o.kl = ks.length := by simp only [Value.slice.injEq] at hf; exact hf.2.1
 simp only [Rows.uptoBulk]
 have hm : (xs[5]'(by omega)).1 ∈ xs.map (·.1) := List.mem_map.2 ⟨_, List.getElem_mem _, rfl⟩
 have := bulk_mem hm
 omega
theorem open_ops12 {n : Nat} {cs : List Value} {x : DataW H × List MemPlace} (h : DataW.trod ec Tryz.prog w base spare held n 46 cs = some x) :
  ∃ v os, cs = [v] ∧ SlOf 12 encOp12 w v os ∧ os.length ≤ Rows.uptoBulk x.1 ∧ ∀ o ∈ os, ∃ ks, o.ok w ks ∧ ks.length ≤ Rows.uptoBulk x.1 := by
 obtain ⟨v, xs, h1, h2, h3, h4⟩ := open_slOfD (enc := encOp12) (fun d o => ∃ ks, o.ok w ks ∧ ks.length ≤ Rows.uptoBulk d) un_tOps12 ncoOp12 (by decide) encOp12_len (fun n cs y hy => open_op12B hy) h
 refine ⟨v, xs, h1, h2, ?_, fun o ho => ?_⟩
 ·rcases h4 with ⟨_, e⟩ | ⟨els, sp, e, hl, _⟩
  ·simp [e]
  ·rw [e]
   have := bulk_len els
   simp only [Rows.uptoBulk]; omega
 ·obtain ⟨i, hi⟩ := List.getElem?_of_mem ho
  rcases h4 with ⟨_, e⟩ | ⟨els, sp, e, hl, hR⟩
  ·rw [e] at hi; simp at hi
  ·obtain ⟨d, hd, ks, hok, hks⟩ := hR i o hi
   have := bulk_mem hd
   exact ⟨ks, hok, by rw [e]; simp only [Rows.uptoBulk]; omega⟩
theorem opsAt {v : Value} {os : List Op12} {N : Nat} (h1 : SlOf 12 encOp12 w v os) (h2 : os.length ≤ N) (h3 : ∀ o ∈ os, ∃ ks, o.ok w ks ∧ ks.length ≤ N) (hN : N ≤ 1048576) : OpsAt w v os :=
 ⟨h1, by omega, fun o ho => by obtain ⟨ks, q1, q2⟩ := h3 o ho; exact ⟨ks, q1, by omega⟩⟩
end
open Go.ChangeShapes Go.WideShapes Go.ChangeAt Go.RowKit Go.VW
set_option linter.unusedVariables false
theorem own : ownKnob Tryz.prog.godebug = none := by kernel_rfl
theorem kids : Kids Tryz.prog (· < Tryz.prog.types.size) := kids_rows (by kernel_rfl) (by kernel_rfl)
theorem full : ∀ t e, t < Tryz.prog.types.size → Tryz.prog.underlying t = some (.slice e) → 0 < Tryz.prog.cellsOf e := slices_full_of Tryz.prog (by kernel_rfl)
theorem Fr.kept {w w' : World} (h : Fr [] w w') (may : MemPlace → Prop) : w.keptBut w' may := by
 refine ⟨h.os, h.output, fun i hi => ?_⟩
 rw [h.keepN i hi]
 cases hc : w.heap[i]? with
 | none => rfl
 | some o => cases o <;> simp
section
variable {H : Type} {enc : TypeId × Value → H} {P : Program}
theorem trodAll_carry {W W' : World} {sp : Nat → Bool} : ∀ {ts : List TypeId} {vs : List Value} {ds : List (DataW H)} {ps : List MemPlace}, DataW.TrodAll enc P W 0 sp true ts vs ds ps → (∀ p ∈ ps, W.sameAt W' p) → DataW.TrodAll enc P W' 0 sp true ts vs ds ps
 | [], [], [], _, h, _ => h
 | _ :: _, _ :: _, _ :: _, _, ⟨p, q, ⟨n, h1⟩, h2, e⟩, hs =>
   ⟨p, q, ⟨n, DataW.trod_carry n _ _ _ h1 fun x hx => hs x (by rw [e]; exact List.mem_append_left _ hx)⟩, trodAll_carry h2 (fun x hx => hs x (by rw [e]; exact List.mem_append_right _ hx)), e⟩
theorem post_fr {f : Func} {s : ChangeSpec} {apart fresh handsOn again : Bool} {W W' : World} {args : Array Value} {v : Value} {ds gs : List (DataW H)} {before pa pv : List MemPlace}
  (hW : DataW.Whole enc P f.params.toList s.vars apart W args.toList ds gs before)
  (hres : ∀ (b : Nat) (sp : Nat → Bool) (hd : Bool), DataW.TrodAll enc P W' b sp hd f.resultTypes.toList (v.resultList f.resultTypes.size) (s.fn H (ds ++ gs)).results [])
  (hargs : ∀ sp : Nat → Bool, (∀ p ∈ before, sp p.block = true) → DataW.TrodAll enc P W' 0 sp true f.params.toList args.toList (s.fn H (ds ++ gs)).args pa)
  (hvars : ∀ sp : Nat → Bool, (∀ p ∈ before, sp p.block = true) → DataW.TrodVars enc P W' sp s.vars (s.fn H (ds ++ gs)).vars pv)
  (hps : before = pa ++ pv) (hf : Fr [] W W')
  (hok : ∀ (j : Nat) (t : TypeId) (r : Value), f.resultTypes[j]? = some t → (v.resultList f.resultTypes.size)[j]? = some r → Value.okWide P W' .any 0 t r) :
  s.post enc P f apart fresh handsOn again W args v W' := by
 have hold : ∀ p ∈ before, (fun b => decide (b < W.heap.size)) p.block = true := fun p hp => by simpa using hW.lt p hp
 refine ⟨ds, gs, before, [], pa, pv, hW, hres _ _ _, hargs _ hold, hvars _ hold, World.keptBut_mono (fun p hp => ⟨hp, ?_⟩) (Fr.kept hf _), fun _ => ?_⟩
 ·rw [hps, List.mem_append] at hp
  exact Or.inr hp
 ·have hlt := hW.lt
  obtain ⟨_, _, _, _, _, hz, hn⟩ := hW
  refine ⟨hok, _, _, ([] ++ pa) ++ pv, ⟨[] ++ pa, pv, trodAll_append (hargs _ (fun _ _ => rfl)) (hres _ _ _), hvars _ (fun _ _ => rfl), rfl, ?_, ?_⟩, ?_⟩
  ·intro b off hp
   have hb : MemPlace.cell b off ∈ before := by rw [hps]; simpa using hp
   have h1 := hz b off hb
   have h2 := hlt _ hb
   unfold World.frozen? at h1 ⊢
   rw [hf.keepN b h2]; exact h1
  ·intro ha
   have := hn ha
   rw [hps] at this
   simpa using this
  ·intro p hp _
   rw [hps]
   simpa using hp
end
end Go.Proofs.YtomlgkecckffeaaGreat
