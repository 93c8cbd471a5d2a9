/- NodeAnswers: the script. The config, a pin and a script among the arguments, opened. What the rows share: arguments that are only read. What a node's table never gets more of: rows, hot entries. The bounds of a node hold behind each call. -/
import Derived.Test.YtomlgkecckffeaaGreatYA
import Derived.Test.YtomlgkecckffeaaGreatVJ
import Derived.Test.YtomlgkecckffeaaGreatCI
import Derived.Test.YtomlgkecckffeaaGreatRows
import Derived.WalkKit
import Derived.ProofKit
import Derived.OpenShut
import Derived.ChangeMaps5
import Derived.ReadAgain
import Derived.Test.YtomlgkecckffeaaGreatXA
set_option linter.unusedVariables false
set_option linter.unusedSimpArgs false
set_option maxRecDepth 10000
namespace Go.Proofs.YtomlgkecckffeaaGreat
open Go.VW
structure OpsAt (w : World) (v : Value) (os : List Op12) : Prop where
 sl : SlOf 12 encOp12 w v os
 len : os.length ≤ 2000000
 ok : ∀ o ∈ os, ∃ ks, o.ok w ks ∧ ks.length ≤ 2000000
theorem OpsAt.frN {w w' : World} {v : Value} {os : List Op12} (h : OpsAt w v os) (hf : Fr [] w w') : OpsAt w' v os :=
 ⟨h.sl.frN hf, h.len, fun o ho => by obtain ⟨ks, k1, k2⟩ := h.ok o ho; exact ⟨ks, ⟨k1.sl.frN hf, k1.len, k1.k0, k1.k1⟩, k2⟩⟩
structure NodeIn (W w : World) (a : Lay) (c : Cfg) (inc : Int) (M : Mem) (i : Int) : Prop where
 at_ : NodeAt w a c inc M
 ok : MOK c M i
 ge : ∀ y ∈ a.all, W.heap.size ≤ y
 fr : Fr [] W w
theorem NodeIn.frN {W w w' : World} {a : Lay} {c : Cfg} {inc : Int} {M : Mem} {i : Int} (h : NodeIn W w a c inc M i) (hf : Fr [] w w') : NodeIn W w' a c inc M i := ⟨h.at_.frN hf, h.ok, h.ge, h.fr.trans' hf⟩
section
variable {W w : World} {a : Lay} {c : Cfg} {inc : Int} {M : Mem} {i : Int} {K : Value → World → Prop}
theorem fill_in (h : NodeIn W w a c inc M i) (hc : CfgOK c) (hi : i ≤ 4611686018427387904) {f : Ent} {read : Int} (hK : ∀ w' S', NodeIn W w' { a with S := S' } c inc (M.fill c f read).1 (i + 1) → K (.bool (M.fill c f read).2) w') :
  CallsN Tryz.prog 18 [.pointer (some ⟨a.nb, 0, none⟩), .agg (encFct f).toArray, .int .i64 read] w K := by
 have hb0 := hc.b0
 have hb1 := hc.b1
 exact fill_spec h.at_ h.ok.ti.tok (by omega) fun w' S' h' hS' hf' => hK w' S' ⟨h', h.ok.fill hc hi f read, all_ge h.ge hS' h.fr.size, h.fr.trans hf' fun y hy => .inr (h.ge y hy)⟩
theorem look_in (h : NodeIn W w a c inc M i) (hc : CfgOK c) {k : ByteArray} {lo hi : Int} (hK : ∀ w' S', NodeIn W w' { a with S := S' } c inc (M.look c k lo hi).1 i → K (.tuple (lookV (M.look c k lo hi).2 M.g.at_).toArray) w') :
  CallsN Tryz.prog 25 [.pointer (some ⟨a.nb, 0, none⟩), .string k, .agg ([.int .i64 lo, .int .i64 hi] : List Value).toArray] w K := by
 have hb0 := hc.b0
 have hb1 := hc.b1
 have hp := hc.p1
 exact look_spec h.at_ h.ok.ti.tok (by omega) h.ok.ti.nd (by omega) fun w' S' h' hS' hf' => hK w' S' ⟨h', h.ok.look hc k lo hi, all_ge h.ge hS' h.fr.size, h.fr.trans hf' fun y hy => .inr (h.ge y hy)⟩
theorem apply_in (h : NodeIn W w a c inc M i) (hc : CfgOK c) {x : KRec} (hs : SlOf 1 encS w (.slice x.r.a x.r.l x.r.c) x.ks) (hsl : x.ks.length ≤ 4000000000000)
  (hK : ∀ w' S' x', x'.r.n = x.r.n → x'.ks = x.ks → NodeIn W w' { a with S := S' } c inc (M.apply x.r.n x').1 i → K (.bool (M.apply x.r.n x').2) w') :
  CallsN Tryz.prog 20 [.pointer (some ⟨a.nb, 0, none⟩), .agg (encR x.r).toArray] w K := by
 have hb0 := hc.b0
 have hb1 := hc.b1
 exact apply_spec h.at_ h.ok.ti (by omega) h.ok.wf hs hsl fun w' S' x' q1 q2 h' hT' hg' hS' hf' => hK w' S' x' q1 q2 ⟨h', ⟨by rw [(apply_ins _ _ _).1]; exact hT', hg', by rw [(apply_ins _ _ _).1]; exact h.ok.i0, by rw [(apply_ins _ _ _).1]; exact h.ok.i1⟩, all_ge h.ge hS' h.fr.size, h.fr.trans hf' fun y hy => .inr (h.ge y hy)⟩
theorem new_in {c : Cfg} (hK : ∀ a w', NodeIn w w' a c.held 1 (Mem.zero c.held true 0) 0 → K (.pointer (some ⟨a.nb, 0, none⟩)) w') : CallsN Tryz.prog 15 [.agg (encCfg c).toArray] w K :=
 newN_spec fun a w' hf hge h => hK a w' ⟨h, MOK.zero _ _ _, hge, hf⟩
theorem view_in (h : NodeIn W w a c inc M i) (hc : CfgOK c) (hK : ∀ vw ve w', Own 1 2 w' vw M.g.ws.length ((sortI (M.g.ws.map (·.1))).map (Value.int .i64)) → Own 8 52 w' ve M.T.list.length (cellsOf encEnt M.T.list) → (∀ b, vw.ownBlock = some b → w.heap.size ≤ b) → (∀ b, ve.ownBlock = some b → w.heap.size ≤ b) → (∀ b, ve.ownBlock = some b → vw.ownBlock ≠ some b) → NodeIn W w' a c inc M i → Fr [] w w' → K (.agg (viewV M inc vw ve).toArray) w') :
  CallsN Tryz.prog 23 [.pointer (some ⟨a.nb, 0, none⟩)] w K := by
 have hb0 := hc.b0
 have hb1 := hc.b1
 exact view_spec h.at_ h.ok.ti.tok (by omega) h.ok.wf fun vw ve w' q1 q2 q3 q4 q5 hf => hK vw ve w' q1 q2 q3 q4 q5 (h.frN hf) hf
end
theorem ncoCfg : Tryz.prog.cellsOf 25 = 8 := by kernel_rfl
theorem u_cfg : ∃ fs, Tryz.prog.underlying 25 = some (.struct fs) ∧ ∃ f0 f1 f2 f3 f4 f5 f6 f7, fs[0]? = some f0 ∧ fs[1]? = some f1 ∧ fs[2]? = some f2 ∧ fs[3]? = some f3 ∧ fs[4]? = some f4 ∧ fs[5]? = some f5 ∧ fs[6]? = some f6 ∧ fs[7]? = some f7 ∧ (f0.type = 3 ∧ f0.offset = 0) ∧ (f1.type = 3 ∧ f1.offset = 1) ∧ (f2.type = 3 ∧ f2.offset = 2) ∧ (f3.type = 3 ∧ f3.offset = 3) ∧ (f4.type = 3 ∧ f4.offset = 4) ∧ (f5.type = 3 ∧ f5.offset = 5) ∧ (f6.type = 3 ∧ f6.offset = 6) ∧ (f7.type = 3 ∧ f7.offset = 7) ∧ fs.size = 8 :=
 ⟨_, und_of (Tryz.runUnderlying25 default), _, _, _, _, _, _, _, _, rfl, rfl, rfl, rfl, rfl, rfl, rfl, rfl, ⟨rfl, rfl⟩, ⟨rfl, rfl⟩, ⟨rfl, rfl⟩, ⟨rfl, rfl⟩, ⟨rfl, rfl⟩, ⟨rfl, rfl⟩, ⟨rfl, rfl⟩, ⟨rfl, rfl⟩, rfl⟩
theorem un_tOps12 : Tryz.prog.underlying 46 = some (.slice 50) := by kernel_rfl
section
variable {H : Type} {ec : TypeId × Value → H} {w : World} {base : Nat} {spare : Nat → Bool} {held : Bool}
theorem open_cfg {n : Nat} {cs : List Value} {x : DataW H × List MemPlace} (h : DataW.trod ec Tryz.prog w base spare held n 25 cs = some x) : ∃ c : Cfg, cs = encCfg c ∧ True := by
 obtain ⟨fs, hu, f0, f1, f2, f3, f4, f5, f6, f7, e0, e1, e2, e3, e4, e5, e6, e7, ⟨t0, o0⟩, ⟨t1, o1⟩, ⟨t2, o2⟩, ⟨t3, o3⟩, ⟨t4, o4⟩, ⟨t5, o5⟩, ⟨t6, o6⟩, ⟨t7, o7⟩, hs⟩ := u_cfg
 obtain ⟨xs, m, rfl, rfl, hl, hxl, hx⟩ := DataW.trod_struct hu h
 rw [ncoCfg] at hl
 have h0 := hx 0 f0 e0
 rw [t0, o0, nco3, List.getElem?_eq_getElem (by omega)] at h0
 have h1 := hx 1 f1 e1
 rw [t1, o1, nco3, List.getElem?_eq_getElem (by omega)] at h1
 have h2 := hx 2 f2 e2
 rw [t2, o2, nco3, List.getElem?_eq_getElem (by omega)] at h2
 have h3 := hx 3 f3 e3
 rw [t3, o3, nco3, List.getElem?_eq_getElem (by omega)] at h3
 have h4 := hx 4 f4 e4
 rw [t4, o4, nco3, List.getElem?_eq_getElem (by omega)] at h4
 have h5 := hx 5 f5 e5
 rw [t5, o5, nco3, List.getElem?_eq_getElem (by omega)] at h5
 have h6 := hx 6 f6 e6
 rw [t6, o6, nco3, List.getElem?_eq_getElem (by omega)] at h6
 have h7 := hx 7 f7 e7
 rw [t7, o7, nco3, List.getElem?_eq_getElem (by omega)] at h7
 obtain ⟨a0, g0, _⟩ := DataW.trod_int nun3 h0
 obtain ⟨a1, g1, _⟩ := DataW.trod_int nun3 h1
 obtain ⟨a2, g2, _⟩ := DataW.trod_int nun3 h2
 obtain ⟨a3, g3, _⟩ := DataW.trod_int nun3 h3
 obtain ⟨a4, g4, _⟩ := DataW.trod_int nun3 h4
 obtain ⟨a5, g5, _⟩ := DataW.trod_int nun3 h5
 obtain ⟨a6, g6, _⟩ := DataW.trod_int nun3 h6
 obtain ⟨a7, g7, _⟩ := DataW.trod_int nun3 h7
 obtain ⟨c0, c1, c2, c3, c4, c5, c6, c7, rfl⟩ : ∃ c0 c1 c2 c3 c4 c5 c6 c7, cs = [c0, c1, c2, c3, c4, c5, c6, c7] := by
  match cs, hl with
  | [c0, c1, c2, c3, c4, c5, c6, c7], _ => exact ⟨c0, c1, c2, c3, c4, c5, c6, c7, rfl⟩
 simp at g0 g1 g2 g3 g4 g5 g6 g7
 exact ⟨⟨a0, a1, a2, a3, a4, a5, a6, a7⟩, by rw [g0, g1, g2, g3, g4, g5, g6, g7]; rfl, trivial⟩
theorem bulk_mem {d : DataW H} {l : List (DataW H)} (h : d ∈ l) : Rows.uptoBulk d ≤ Rows.uptoBulkAll l := by
 induction l with
 | nil => cases h
 | cons x r ih =>
   simp only [Rows.uptoBulkAll]
   rcases List.mem_cons.1 h with rfl | h
   ·omega
   ·have := ih h; omega
theorem open_op12B {n : Nat} {cs : List Value} {x : DataW H × List MemPlace} (h : DataW.trod ec Tryz.prog w base spare held n 50 cs = some x) : ∃ o : Op12, cs = encOp12 o ∧ ∃ ks, o.ok w ks ∧ ks.length ≤ Rows.uptoBulk x.1 := by
 obtain ⟨o, e, ks, hok⟩ := open_op12 h
 refine ⟨o, e, ks, hok, ?_⟩
 obtain ⟨fs, hu, f0, f1, f2, f3, f4, f5, f6, e0, e1, e2, e3, e4, e5, e6, ⟨t0, o0⟩, ⟨t1, o1⟩, ⟨t2, o2⟩, ⟨t3, o3⟩, ⟨t4, o4⟩, ⟨t5, o5⟩, ⟨t6, o6⟩, hs⟩ := u_op12
 obtain ⟨xs, m, rfl, rfl, hl, hxl, hx⟩ := DataW.trod_struct hu h
 have h5 := hx 5 f5 e5
 rw [t5, o5, ncoStrs, List.getElem?_eq_getElem (by omega)] at h5
 rw [e] at h5
 have h5' : DataW.trod ec Tryz.prog w base spare held m 22 [.slice o.ka o.kl o.kc] = some (xs[5]'(by omega)) := h5
 have hb := bulk_slice nunStrs h5'
 obtain ⟨_, _, hf⟩ := hok.sl.form
 have hkl : o.kl = ks.length := by simp only [Value.slice.injEq] at hf; exact hf.2.1
 simp only [Rows.uptoBulk]
 have hm : (xs[5]'(by omega)).1 ∈ xs.map (·.1) := List.mem_map.2 ⟨_, List.getElem_mem _, rfl⟩
 have := bulk_mem hm
 omega
theorem open_ops12 {n : Nat} {cs : List Value} {x : DataW H × List MemPlace} (h : DataW.trod ec Tryz.prog w base spare held n 46 cs = some x) :
  ∃ v os, cs = [v] ∧ SlOf 12 encOp12 w v os ∧ os.length ≤ Rows.uptoBulk x.1 ∧ ∀ o ∈ os, ∃ ks, o.ok w ks ∧ ks.length ≤ Rows.uptoBulk x.1 := by
 obtain ⟨v, xs, h1, h2, h3, h4⟩ := open_slOfD (enc := encOp12) (fun d o => ∃ ks, o.ok w ks ∧ ks.length ≤ Rows.uptoBulk d) un_tOps12 ncoOp12 (by decide) encOp12_len (fun n cs y hy => open_op12B hy) h
 refine ⟨v, xs, h1, h2, ?_, fun o ho => ?_⟩
 ·rcases h4 with ⟨_, e⟩ | ⟨els, sp, e, hl, _⟩
  ·simp [e]
  ·rw [e]
   have := bulk_len els
   simp only [Rows.uptoBulk]; omega
 ·obtain ⟨i, hi⟩ := List.getElem?_of_mem ho
  rcases h4 with ⟨_, e⟩ | ⟨els, sp, e, hl, hR⟩
  ·rw [e] at hi; simp at hi
  ·obtain ⟨d, hd, ks, hok, hks⟩ := hR i o hi
   have := bulk_mem hd
   exact ⟨ks, hok, by rw [e]; simp only [Rows.uptoBulk]; omega⟩
theorem opsAt {v : Value} {os : List Op12} {N : Nat} (h1 : SlOf 12 encOp12 w v os) (h2 : os.length ≤ N) (h3 : ∀ o ∈ os, ∃ ks, o.ok w ks ∧ ks.length ≤ N) (hN : N ≤ 1048576) : OpsAt w v os :=
 ⟨h1, by omega, fun o ho => by obtain ⟨ks, q1, q2⟩ := h3 o ho; exact ⟨ks, q1, by omega⟩⟩
end
open Go.ChangeShapes Go.WideShapes Go.ChangeAt Go.RowKit Go.VW
set_option linter.unusedVariables false
theorem own : ownKnob Tryz.prog.godebug = none := by kernel_rfl
theorem kids : Kids Tryz.prog (· < Tryz.prog.types.size) := kids_rows (by kernel_rfl) (by kernel_rfl)
theorem full : ∀ t e, t < Tryz.prog.types.size → Tryz.prog.underlying t = some (.slice e) → 0 < Tryz.prog.cellsOf e := slices_full_of Tryz.prog (by kernel_rfl)
theorem Fr.kept {w w' : World} (h : Fr [] w w') (may : MemPlace → Prop) : w.keptBut w' may := by
 refine ⟨h.os, h.output, fun i hi => ?_⟩
 rw [h.keepN i hi]
 cases hc : w.heap[i]? with
 | none => rfl
 | some o => cases o <;> simp
section
variable {H : Type} {enc : TypeId × Value → H} {P : Program}
theorem trodAll_carry {W W' : World} {sp : Nat → Bool} : ∀ {ts : List TypeId} {vs : List Value} {ds : List (DataW H)} {ps : List MemPlace}, DataW.TrodAll enc P W 0 sp true ts vs ds ps → (∀ p ∈ ps, W.sameAt W' p) → DataW.TrodAll enc P W' 0 sp true ts vs ds ps
 | [], [], [], _, h, _ => h
 | _ :: _, _ :: _, _ :: _, _, ⟨p, q, ⟨n, h1⟩, h2, e⟩, hs =>
   ⟨p, q, ⟨n, DataW.trod_carry n _ _ _ h1 fun x hx => hs x (by rw [e]; exact List.mem_append_left _ hx)⟩, trodAll_carry h2 (fun x hx => hs x (by rw [e]; exact List.mem_append_right _ hx)), e⟩
theorem post_fr {f : Func} {s : ChangeSpec} {apart fresh handsOn again : Bool} {W W' : World} {args : Array Value} {v : Value} {ds gs : List (DataW H)} {before pa pv : List MemPlace}
  (hW : DataW.Whole enc P f.params.toList s.vars apart W args.toList ds gs before)
  (hres : ∀ (b : Nat) (sp : Nat → Bool) (hd : Bool), DataW.TrodAll enc P W' b sp hd f.resultTypes.toList (v.resultList f.resultTypes.size) (s.fn H (ds ++ gs)).results [])
  (hargs : ∀ sp : Nat → Bool, (∀ p ∈ before, sp p.block = true) → DataW.TrodAll enc P W' 0 sp true f.params.toList args.toList (s.fn H (ds ++ gs)).args pa)
  (hvars : ∀ sp : Nat → Bool, (∀ p ∈ before, sp p.block = true) → DataW.TrodVars enc P W' sp s.vars (s.fn H (ds ++ gs)).vars pv)
  (hps : before = pa ++ pv) (hf : Fr [] W W')
  (hok : ∀ (j : Nat) (t : TypeId) (r : Value), f.resultTypes[j]? = some t → (v.resultList f.resultTypes.size)[j]? = some r → Value.okWide P W' .any 0 t r) :
  s.post enc P f apart fresh handsOn again W args v W' := by
 have hold : ∀ p ∈ before, (fun b => decide (b < W.heap.size)) p.block = true := fun p hp => by simpa using hW.lt p hp
 refine ⟨ds, gs, before, [], pa, pv, hW, hres _ _ _, hargs _ hold, hvars _ hold, World.keptBut_mono (fun p hp => ⟨hp, ?_⟩) (Fr.kept hf _), fun _ => ?_⟩
 ·rw [hps, List.mem_append] at hp
  exact Or.inr hp
 ·have hlt := hW.lt
  obtain ⟨_, _, _, _, _, hz, hn⟩ := hW
  refine ⟨hok, _, _, ([] ++ pa) ++ pv, ⟨[] ++ pa, pv, trodAll_append (hargs _ (fun _ _ => rfl)) (hres _ _ _), hvars _ (fun _ _ => rfl), rfl, ?_, ?_⟩, ?_⟩
  ·intro b off hp
   have hb : MemPlace.cell b off ∈ before := by rw [hps]; simpa using hp
   have h1 := hz b off hb
   have h2 := hlt _ hb
   unfold World.frozen? at h1 ⊢
   rw [hf.keepN b h2]; exact h1
  ·intro ha
   have := hn ha
   rw [hps] at this
   simpa using this
  ·intro p hp _
   rw [hps]
   simpa using hp
end
def hotN (e : Ent) : Nat := if e.hot = true then 1 else 0
structure Less (T' T : Tab) : Prop where
 row : ∀ k, (T'.row k).length ≤ (T.row k).length
 hot : sumR hotN T'.rows ≤ sumR hotN T.rows
theorem Less.refl (T : Tab) : Less T T := ⟨fun _ => Nat.le_refl _, Nat.le_refl _⟩
theorem Less.trans {T1 T2 T3 : Tab} (h : Less T1 T2) (h' : Less T2 T3) : Less T1 T3 := ⟨fun k => Nat.le_trans (h.row k) (h'.row k), Nat.le_trans h.hot h'.hot⟩
theorem delE_len (l : Ents) (lo : Int) : (delE l lo).length + (if hasE l lo = true then 1 else 0) = l.length := by
 unfold delE
 split
 ·rename_i h
  have : idxE l lo < l.length := by
   unfold hasE at h
   cases q : l[idxE l lo]? with
   | none => rw [q] at h; cases h
   | some e => exact (List.getElem?_eq_some_iff.1 q).1
  unfold delL
  rw [List.length_append, List.length_take, List.length_drop]
  omega
 ·rfl
theorem Less.drop {T : Tab} {B : Nat} (h : TOK T B) (k : ByteArray) (lo : Int) : Less (T.drop k lo) T := by
 refine ⟨fun k' => ?_, ?_⟩
 ·rw [drop_row h.nd]
  split
  ·rename_i q
   have := delE_len (T.row k) lo
   rw [← q]; omega
  ·exact Nat.le_refl _
 ·cases q : getE (T.row k) lo with
  | none => rw [drop_none q]; exact Nat.le_refl _
  | some e => have := sumR_drop hotN q; omega
theorem putE_len (l : Ents) (e : Ent) : (putE l e).length = (delE l e.lo).length + 1 := by
 unfold putE; exact insL_len _ _ _
theorem put_len_row {T : Tab} {B : Nat} (h : TOK T B) {e : Ent} (hg : goodE e = true) (k : ByteArray) : ((T.putR e).row k).length + (if e.key = k ∧ (T.at e.key e.lo).isSome = true then 1 else 0) = (T.row k).length + (if e.key = k then 1 else 0) := by
 have hp : T.putR e = T.put e := by unfold Tab.putR; rw [if_pos hg]
 rw [hp, put_row h.nd]
 by_cases q : e.key = k
 ·rw [if_pos q, putE_len]
  have h1 := delE_len (T.row e.key) e.lo
  have h2 := getE_has (T.row e.key) e.lo
  have h3 : (T.at e.key e.lo).isSome = hasE (T.row e.key) e.lo := h2
  rw [h3]
  rw [if_pos q]
  subst q
  simp only [true_and]
  omega
 ·rw [if_neg q, if_neg q, if_neg (fun q' => q q'.1)]
theorem put_sum {T : Tab} {B : Nat} (h : TOK T B) {e y : Ent} (hg : goodE e = true) (hy : T.at e.key e.lo = some y) (f : Ent → Nat) : sumR f (T.putR e).rows + f y = sumR f T.rows + f e := by
 have hp : T.putR e = T.put e := by unfold Tab.putR; rw [if_pos hg]
 rw [hp]
 have h1 := sumR_put f (e := e) h.nd
 have h2 := sumR_drop f (T := T) (k := e.key) (lo := e.lo) hy
 omega
theorem put_sum_new {T : Tab} {B : Nat} (h : TOK T B) {e : Ent} (hg : goodE e = true) (hy : T.at e.key e.lo = none) (f : Ent → Nat) : sumR f (T.putR e).rows = sumR f T.rows + f e := by
 have hp : T.putR e = T.put e := by unfold Tab.putR; rw [if_pos hg]
 rw [hp]
 have h1 := sumR_put f (e := e) h.nd
 rw [drop_none hy] at h1
 exact h1
theorem Less.put {T : Tab} {B : Nat} (h : TOK T B) {e y : Ent} (hg : goodE e = true) (hy : T.at e.key e.lo = some y) (hh : e.hot = y.hot) : Less (T.putR e) T := by
 refine ⟨fun k => ?_, ?_⟩
 ·have := put_len_row h hg k
  rw [hy] at this
  simp only [Option.isSome_some, and_true] at this
  omega
 ·have := put_sum h hg hy hotN
  unfold hotN at *
  rw [hh] at this
  omega
theorem Less.closeStep {T : Tab} {B : Nat} {n : Int} (h : TI T B n) {e : Ent} (he : T.at e.key e.lo = some e) (at_ : Ent → Option Int) : Less (closeStep at_ T e) T := by
 have hg := (list_row h.tok (h.tok.at_list.1 he).1).2
 unfold Go.Proofs.YtomlgkecckffeaaGreat.closeStep
 by_cases q : e.hi ≠ openI
 ·rw [if_pos q]; exact Less.refl _
 rw [if_neg q]
 cases ha : at_ e with
 | none => exact Less.refl _
 | some m =>
   simp only
   cases hc : closeE e m with
   | none => exact Less.drop h.tok _ _
   | some f =>
     unfold closeE at hc
     rw [if_neg q] at hc
     split at hc
     ·cases hc
     ·cases hc
      exact Less.put h.tok (e := { e with hi := min m 1099511627777 }) (goodE_hi hg (by omega) (by omega)) he rfl
section
variable {B : Nat} {n : Int} (hB : B ≤ 1000000000) (P : Tab → Prop) (hP : ∀ T e at_, P T → TI T B n → T.at e.key e.lo = some e → P (closeStep at_ T e))
include hB hP
theorem closeL_ind (at_ : Ent → Option Int) : ∀ {l : Ents} {T : Tab}, TI T B n → PlaceND l → (∀ x ∈ l, T.at x.key x.lo = some x) → P T → P (closeL at_ T l) ∧ TI (closeL at_ T l) B n
 | [], T, h, _, _, hp => ⟨hp, h⟩
 | e :: l, T, h, hpl, ha, hp => by
   obtain ⟨p1, p2⟩ := List.pairwise_cons.1 hpl
   have he := ha e (List.mem_cons_self ..)
   obtain ⟨h1, h2⟩ := h.closeStep hB he at_
   exact closeL_ind (T := Go.Proofs.YtomlgkecckffeaaGreat.closeStep at_ T e) at_ h1 p2 (fun x hx => by rw [h2, if_neg (p1 x hx)]; exact ha x (List.mem_cons_of_mem _ hx)) (hP T e at_ hp h he)
theorem givT_ind {M : Mem} {x : KRec} : ∀ (ks : List ByteArray) {T : Tab}, TI T B n → P T → P (givT M x T ks) ∧ TI (givT M x T ks) B n
 | [], T, h, hp => ⟨hp, h⟩
 | k :: ks, T, h, hp => by
   obtain ⟨p1, p2⟩ := closeL_ind hB P hP (atN x.r.n) h (h.tok.placeR k) (fun x hx => h.tok.mem_at hx) hp
   exact givT_ind (M := M) (x := x) (T := closeL (atN x.r.n) T (T.row k)) ks p2 p1
theorem giv_ind : ∀ (out : List KRec) {M : Mem}, TI M.T B n → P M.T → P (out.foldl Mem.given M).T ∧ TI (out.foldl Mem.given M).T B n
 | [], M, h, hp => ⟨hp, h⟩
 | x :: out, M, h, hp => by
   obtain ⟨p1, p2⟩ := givT_ind hB P hP (M := M) (x := x) x.ks h hp
   exact giv_ind out (M := M.given x) p2 p1
theorem over_ind {M : Mem} (o : Bool) (h : TI M.T B n) (hp : P M.T) : P (M.over o).T ∧ TI (M.over o).T B n := by
 unfold Mem.over
 split
 ·exact closeL_ind hB P hP _ h h.placeL (fun x hx => (list_row h.tok hx).1) hp
 ·exact ⟨hp, h⟩
theorem apply_ind {M : Mem} (m : Int) (x : KRec) (h : TI M.T B n) (hp : P M.T) : P (M.apply m x).1.T ∧ TI (M.apply m x).1.T B n := by
 cases ql : M.live with
 | false => unfold Mem.apply; rw [if_pos ql]; exact ⟨hp, h⟩
 | true =>
   rw [apply_live ql]
   obtain ⟨p1, p2⟩ := giv_ind hB P hP (M.g.put m x).1.1 (M := { M with g := (M.g.put m x).2 }) h hp
   exact over_ind hB P hP _ p2 p1
end
theorem apply_less {M : Mem} {B : Nat} {n : Int} (hB : B ≤ 1000000000) (h : TI M.T B n) (m : Int) (x : KRec) : Less (M.apply m x).1.T M.T :=
 (apply_ind hB (fun T => Less T M.T) (fun T e at_ hp hT he => (Less.closeStep hT he at_).trans hp) m x h (Less.refl _)).1
theorem evict_less {among : Tab → Ents} {over : Tab → Bool} {ins : Int} {B : Nat} {n : Int} (hB : B ≤ 1000000000) {T : Tab} (h : TI T B n) (m : Nat) : Less (evictF among over ins m T) T :=
 (evictF_ind (among := among) (over := over) (ins := ins) (fun T' => TI T' B n ∧ Less T' T) (fun T' x hp _ _ _ => ⟨hp.1.drop hB _ _, (Less.drop hp.1.tok _ _).trans hp.2⟩) m T ⟨h, Less.refl _⟩).2
structure BOK (c : Cfg) (M : Mem) : Prop where
 rows : ∀ k, ((M.T.row k).length : Int) ≤ c.spans
 hot : (sumR hotN M.T.rows : Int) ≤ c.prot
 most : (M.g.most : Int) ≤ c.gap
theorem BOK.less {c : Cfg} {M M' : Mem} (h : BOK c M) (hl : Less M'.T M.T) (hm : M'.g.most = M.g.most) : BOK c M' :=
 ⟨fun k => by have := hl.row k; have := h.rows k; omega, by have := hl.hot; have := h.hot; omega, by rw [hm]; exact h.most⟩
theorem put_most {α : Type} (g : GS α) (n : Int) (v : α) : (g.put n v).2.most = g.most := by
 unfold GS.put
 split
 ·rfl
 ·split
  ·rfl
  ·split <;> rfl
theorem BOK.apply {c : Cfg} (hc : CfgOK c) {M : Mem} {i : Int} (h : BOK c M) (hM : MOK c M i) (n : Int) (x : KRec) : BOK c (M.apply n x).1 := by
 have hb0 := hc.b0
 have hb1 := hc.b1
 refine h.less (apply_less (by omega) hM.ti n x) ?_
 cases ql : M.live with
 | false => unfold Mem.apply; rw [if_pos ql]
 | true =>
   rw [apply_live ql]
   simp only
   rw [(Mem.over_g _ _).1, (foldG _ _).1]
   exact put_most _ _ _
theorem BOK.fill {c : Cfg} (hc : CfgOK c) {M : Mem} {i : Int} (h : BOK c M) (hM : MOK c M i) (hi : i ≤ 4611686018427387904) (f : Ent) (read : Int) : BOK c (M.fill c f read).1 := by
 have hb0 := hc.b0
 have hb1 := hc.b1
 have hi0 := hM.i0
 have hi1 := hM.i1
 have wi : wr1 M.ins = M.ins + 1 := wrap64 (by omega) (by omega)
 unfold Mem.fill
 split
 ·exact h
 rename_i q
 split
 ·exact h
 have hgf0 : goodE f = true := by
  cases hg : goodE f with
  | true => rfl
  | false => exact absurd (.inl hg) q
 have hs := settle_good (M := M) hgf0 read
 generalize M.settle f read = f' at hs
 unfold Mem.lay
 cases hg : getE (M.T.row f'.key) f'.lo with
 | some e =>
   simp only
   cases hm : mergeE e f' M.g.at_ with
   | none => exact h
   | some m =>
     simp only
     have hgf : goodE f' = true := by
      rcases hs with q | rfl
      ·exact q
      ·rw [row_empty hM.ti.tok] at hg; cases hg
     have hat : M.T.at f'.key f'.lo = some e := hg
     obtain ⟨hel, hek, helo⟩ := hM.ti.tok.at_list.1 hat
     obtain ⟨r1, r2⟩ := list_row hM.ti.tok hel
     have hmh : m.hi = e.hi ∨ m.hi = f'.hi := by
      unfold mergeE at hm
      split at hm
      ·cases hm; exact mergeC_or _ _ _
      ·cases hm
     have hg2 : goodE { e with hi := m.hi } = true := by
      rcases hmh with q | q
      ·rw [q]; exact r2
      ·rw [q]; exact goodE_as r2 hgf helo.symm
     exact h.less (M' := { M with T := M.T.putR { e with hi := m.hi } }) (Less.put hM.ti.tok hg2 r1 rfl) rfl
 | none =>
   simp only
   split
   ·exact h
   rename_i hcost
   simp only [wi]
   rcases hs with hgf | rfl
   ·have hat : M.T.at f'.key f'.lo = none := hg
    have h1 := hM.ti.new (e := { f' with hot := false, stamp := wr1 M.stamps, ins := M.ins + 1 }) (by omega) hgf hat (by show M.ins < M.ins + 1; omega)
    have hcn : costN { f' with hot := false, stamp := wr1 M.stamps, ins := M.ins + 1 } = costN f' := rfl
    have hle := costN_le hgf
    have hce := costE_eq hgf
    rw [hcn] at h1
    have hE : (M.T.putR { f' with hot := false, stamp := wr1 M.stamps, ins := M.ins + 1 }).at f'.key f'.lo = some { f' with hot := false, stamp := wr1 M.stamps, ins := M.ins + 1 } := by
     have := at_put hM.ti.tok (e := { f' with hot := false, stamp := wr1 M.stamps, ins := M.ins + 1 }) (k := f'.key) (lo := f'.lo) hgf (h1.tok.sort _)
     rw [if_pos ⟨rfl, rfl⟩] at this
     exact this
    have hrow1 : ∀ k, k ≠ f'.key → ((M.T.putR { f' with hot := false, stamp := wr1 M.stamps, ins := M.ins + 1 }).row k).length = (M.T.row k).length := fun k hk => by
     have := put_len_row hM.ti.tok (e := { f' with hot := false, stamp := wr1 M.stamps, ins := M.ins + 1 }) hgf k
     rw [if_neg (fun q => hk q.1.symm), if_neg (fun q => hk q.symm)] at this
     exact this
    have hhot1 : sumR hotN (M.T.putR { f' with hot := false, stamp := wr1 M.stamps, ins := M.ins + 1 }).rows = sumR hotN M.T.rows := by
     have := put_sum_new hM.ti.tok (e := { f' with hot := false, stamp := wr1 M.stamps, ins := M.ins + 1 }) hgf hat hotN
     have h0 : hotN { f' with hot := false, stamp := wr1 M.stamps, ins := M.ins + 1 } = 0 := rfl
     omega
    have hEi : ({ f' with hot := false, stamp := wr1 M.stamps, ins := M.ins + 1 } : Ent).ins = M.ins + 1 := rfl
    generalize ({ f' with hot := false, stamp := wr1 M.stamps, ins := M.ins + 1 } : Ent) = E at *
    obtain ⟨_, hEk, hEl⟩ := h1.tok.at_list.1 hE
    rw [← hEk] at hE hrow1
    rw [← hEl] at hE
    rw [← hEk, ← hEi]
    obtain ⟨t1, t2, t3⟩ := evict_row hc h1 (by omega) hE
    have l1 := evict_less (among := fun T => T.row E.key) (over := overK c E.key) (ins := E.ins) (B := c.bytes.toNat + costN f') (by omega) h1 (M.T.putR E).list.length
    generalize evictF (fun T => T.row E.key) (overK c E.key) E.ins (M.T.putR E).list.length (M.T.putR E) = T2 at t1 t2 t3 l1 ⊢
    have l2 := evict_less (among := Tab.list) (over := overB c) (ins := E.ins) (B := c.bytes.toNat + costN f') (by omega) t1 T2.list.length
    refine ⟨fun k => ?_, ?_, h.most⟩
    ·have q1 := l2.row k
     have q2 := l1.row k
     by_cases q : k = E.key
     ·subst q
      show (((evictF Tab.list (overB c) E.ins T2.list.length T2).row E.key).length : Int) ≤ c.spans
      omega
     ·have q3 := hrow1 k q
      have q4 := h.rows k
      show (((evictF Tab.list (overB c) E.ins T2.list.length T2).row k).length : Int) ≤ c.spans
      omega
    ·have q1 := l2.hot
     have q2 := l1.hot
     have q4 := h.hot
     show ((sumR hotN (evictF Tab.list (overB c) E.ins T2.list.length T2).rows : Nat) : Int) ≤ c.prot
     omega
   ·have e1 : M.T.putR { entZ with hot := false, stamp := wr1 M.stamps, ins := M.ins + 1 } = M.T := by
     unfold Tab.putR
     rw [if_neg]
     have : goodE { entZ with hot := false, stamp := wr1 M.stamps, ins := M.ins + 1 } = goodE entZ := rfl
     rw [this, good_entZ]; simp
    rw [e1]
    have e2 : overK c entZ.key M.T = false := decide_eq_false (by
     show ¬ c.spans < ((M.T.row ⟨#[]⟩).length : Int)
     rw [row_empty hM.ti.tok]
     have := hc.s0
     simp; omega)
    rw [evictF_sub e2]
    have e3 : overB c M.T = false := decide_eq_false (by
     have := hM.ti.tok.bytes
     have := hM.ti.tok.le
     omega)
    rw [evictF_sub e3]
    exact ⟨h.rows, h.hot, h.most⟩
theorem hot_len (l : Ents) : ((oldIdx l).filter (hotI l)).length = sumE hotN l := by
 have h1 : ((oldIdx l).filter (hotI l)).Perm ((List.range l.length).filter (hotI l)) := (List.mergeSort_perm _ _).filter _
 rw [h1.length_eq]
 have key : ∀ n, n ≤ l.length → ((List.range n).filter (hotI l)).length = sumE hotN (l.take n) := by
  intro n
  induction n with
  | zero => intro _; rfl
  | succ n ih =>
    intro hn
    have hg : l[n]? = some (l[n]'(by omega)) := List.getElem?_eq_getElem _
    rw [List.range_succ, List.filter_append, List.length_append, ih (by omega), List.take_add_one, hg]
    show _ + _ = sumE hotN (l.take n ++ [l[n]'(by omega)])
    rw [sumE_app, sumE_cons, sumE_nil]
    have h3 : hotI l n = (l[n]'(by omega)).hot := by
     unfold hotI
     rw [hg]; rfl
    unfold hotN
    cases hx : (l[n]'(by omega)).hot with
    | true => rw [hx] at h3; simp [h3]
    | false => rw [hx] at h3; simp [h3]
 have := key l.length (Nat.le_refl _)
 rw [List.take_length] at this
 exact this
theorem dem_hot {B : Nat} {n : Int} (hB : B ≤ 1000000000) {all : Ents} (hp : PlaceND all) : ∀ (D : List Nat) {M : Mem}, TI M.T B n → D.Nodup → (∀ i ∈ D, ∃ x, all[i]? = some x ∧ x.hot = true ∧ M.T.at x.key x.lo = some x) →
  sumR hotN (D.foldl (demStep all) M).T.rows + D.length = sumR hotN M.T.rows ∧ (∀ k, ((D.foldl (demStep all) M).T.row k).length = (M.T.row k).length)
 | [], M, _, _, _ => ⟨rfl, fun _ => rfl⟩
 | i :: D, M, h, hn, ha => by
   rw [List.nodup_cons] at hn
   obtain ⟨x, hx, hxh, hxa⟩ := ha i (List.mem_cons_self ..)
   have hg := (list_row h.tok (h.tok.at_list.1 hxa).1).2
   have hd : demStep all M i = M.putS x false := by unfold demStep; rw [hx]; rfl
   have hg' : goodE { x with hot := false, stamp := wr1 M.stamps } = true := hg
   have h1 : TI (M.putS x false).T B n := (h.putS hB hg ⟨x, hxa, rfl, rfl⟩ false _).1
   have hs := put_sum h.tok (e := { x with hot := false, stamp := wr1 M.stamps }) hg' hxa hotN
   have hr := fun k => put_len_row h.tok (e := { x with hot := false, stamp := wr1 M.stamps }) hg' k
   have ht : (M.T.at x.key x.lo).isSome = true := by rw [hxa]; rfl
   rw [List.foldl_cons, hd]
   obtain ⟨i1, i2⟩ := dem_hot hB hp D (M := M.putS x false) h1 hn.2 fun j hj => by
    obtain ⟨y, hy, hyh, hya⟩ := ha j (List.mem_cons_of_mem _ hj)
    refine ⟨y, hy, hyh, ?_⟩
    have hij : i ≠ j := fun e => hn.1 (e ▸ hj)
    have hne : ¬ (x.key = y.key ∧ x.lo = y.lo) := by
     obtain ⟨g1, g2⟩ := List.getElem?_eq_some_iff.1 hx
     obtain ⟨g3, g4⟩ := List.getElem?_eq_some_iff.1 hy
     rcases Nat.lt_or_gt_of_ne hij with q | q
     ·have := List.pairwise_iff_getElem.1 hp i j g1 g3 q
      rw [g2, g4] at this; exact this
     ·have := List.pairwise_iff_getElem.1 hp j i g3 g1 q
      rw [g2, g4] at this
      exact fun q' => this ⟨q'.1.symm, q'.2.symm⟩
    show (M.T.putR { x with hot := false, stamp := wr1 M.stamps }).at y.key y.lo = some y
    rw [at_put h.tok hg' (h1.tok.sort _), if_neg hne]
    exact hya
   have e1 : (M.putS x false).T = M.T.putR { x with hot := false, stamp := wr1 M.stamps } := rfl
   have h0 : hotN { x with hot := false, stamp := wr1 M.stamps } = 0 := rfl
   have h2 : hotN x = 1 := by unfold hotN; rw [if_pos hxh]
   refine ⟨?_, fun k => ?_⟩
   ·rw [e1] at i1
    simp only [List.length_cons]
    omega
   ·have q1 := i2 k
    have q2 := hr k
    rw [e1] at q1
    have : (if ({ x with hot := false, stamp := wr1 M.stamps } : Ent).key = k ∧ (M.T.at ({ x with hot := false, stamp := wr1 M.stamps } : Ent).key ({ x with hot := false, stamp := wr1 M.stamps } : Ent).lo).isSome = true then 1 else 0) = (if ({ x with hot := false, stamp := wr1 M.stamps } : Ent).key = k then 1 else 0) := by
     show (if x.key = k ∧ (M.T.at x.key x.lo).isSome = true then 1 else 0) = (if x.key = k then 1 else 0)
     rw [ht]; simp
    rw [this] at q2
    omega
theorem BOK.look {c : Cfg} (hc : CfgOK c) {M : Mem} {i : Int} (h : BOK c M) (hM : MOK c M i) (k : ByteArray) (lo hi : Int) : BOK c (M.look c k lo hi).1 := by
 have hb0 := hc.b0
 have hb1 := hc.b1
 have hp0 := hc.p0
 unfold Mem.look
 cases hf : findE (M.T.row k) M.g.at_ lo hi with
 | none => exact h
 | some e =>
   simp only
   have he := find_at hM.ti.tok hf
   have hg := (list_row hM.ti.tok (hM.ti.tok.at_list.1 he).1).2
   have h1 : TI (M.putS e true).T c.bytes.toNat M.ins := (hM.ti.putS (by omega) hg ⟨e, he, rfl, rfl⟩ true _).1
   have hr := fun k => put_len_row hM.ti.tok (e := { e with hot := true, stamp := wr1 M.stamps }) hg k
   have ht : (M.T.at e.key e.lo).isSome = true := by rw [he]; rfl
   have hr1 : ∀ k, ((M.putS e true).T.row k).length = (M.T.row k).length := fun k => by
    have q2 := hr k
    have : (if ({ e with hot := true, stamp := wr1 M.stamps } : Ent).key = k ∧ (M.T.at ({ e with hot := true, stamp := wr1 M.stamps } : Ent).key ({ e with hot := true, stamp := wr1 M.stamps } : Ent).lo).isSome = true then 1 else 0) = (if ({ e with hot := true, stamp := wr1 M.stamps } : Ent).key = k then 1 else 0) := by
     show (if e.key = k ∧ (M.T.at e.key e.lo).isSome = true then 1 else 0) = (if e.key = k then 1 else 0)
     rw [ht]; simp
    rw [this] at q2
    show ((M.T.putR { e with hot := true, stamp := wr1 M.stamps }).row k).length = _
    omega
   have hsum := sumE_list hotN h1.tok.nd
   have hlen := hot_len (M.putS e true).T.list
   have hpl := h1.placeL
   have hD : (demL (M.putS e true).T.list c.prot).Nodup := by
    unfold demL
    refine (List.take_sublist _ _).nodup ?_
    refine (List.filter_sublist).nodup ?_
    exact (List.mergeSort_perm _ _).nodup_iff.2 List.nodup_range
   have hDm : ∀ i ∈ demL (M.putS e true).T.list c.prot, ∃ x, (M.putS e true).T.list[i]? = some x ∧ x.hot = true ∧ (M.putS e true).T.at x.key x.lo = some x := fun i hi => by
    have q1 := List.mem_of_mem_take hi
    obtain ⟨q2, q3⟩ := List.mem_filter.1 q1
    have q4 : i ∈ List.range (M.putS e true).T.list.length := (List.mergeSort_perm _ _).mem_iff.1 q2
    have q5 : i < (M.putS e true).T.list.length := by simpa using q4
    have q6 : (M.putS e true).T.list[i]? = some ((M.putS e true).T.list[i]'q5) := List.getElem?_eq_getElem q5
    unfold hotI at q3
    rw [q6] at q3
    exact ⟨_, q6, q3, (list_row h1.tok (List.mem_of_getElem? q6)).1⟩
   have hDl : (demL (M.putS e true).T.list c.prot).length = min (demN c.prot (sumE hotN (M.putS e true).T.list)) (sumE hotN (M.putS e true).T.list) := by
    unfold demL
    rw [List.length_take, hlen]
   obtain ⟨i1, i2⟩ := dem_hot (B := c.bytes.toNat) (n := M.ins) (by omega) hpl _ h1 hD hDm
   rw [hDl] at i1
   refine ⟨fun k => ?_, ?_, ?_⟩
   ·have q1 := i2 k
    have q2 := hr1 k
    have q3 := h.rows k
    show (((((demL (M.putS e true).T.list c.prot).foldl (demStep (M.putS e true).T.list) (M.putS e true)).T.row k).length : Nat) : Int) ≤ _
    omega
   ·show ((sumR hotN ((demL (M.putS e true).T.list c.prot).foldl (demStep (M.putS e true).T.list) (M.putS e true)).T.rows : Nat) : Int) ≤ c.prot
    rw [hsum] at i1
    unfold demN at i1
    omega
   ·rw [(M.use_keep c e).1]; exact h.most
theorem BOK.zero (c : Cfg) (live : Bool) (x : Int) : BOK c.held (Mem.zero c.held live x) := by
 refine ⟨fun k => ?_, ?_, ?_⟩
 ·have := (held_ok c).s0
  show ((0 : Nat) : Int) ≤ _
  omega
 ·have := (held_ok c).p0
  show ((0 : Nat) : Int) ≤ _
  omega
 ·show (((min (max c.held.gap 0) 256).toNat : Nat) : Int) ≤ c.held.gap
  have : 0 ≤ c.held.gap := by simp only [Cfg.held, hld]; omega
  omega
end Go.Proofs.YtomlgkecckffeaaGreat
