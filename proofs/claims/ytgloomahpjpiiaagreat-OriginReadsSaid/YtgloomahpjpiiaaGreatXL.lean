/- OriginReads walked; its arguments opened. -/
import Derived.Test.YtgloomahpjpiiaaGreatXJ
import Derived.Test.YtgloomahpjpiiaaGreatPE
import Derived.Test.YtgloomahpjpiiaaGreatOP
set_option linter.unusedVariables false
set_option linter.unusedSimpArgs false
set_option maxRecDepth 10000
namespace Go.Proofs.YtgloomahpjpiiaaGreat.Or
open Go.VW
theorem coCfg : Tryz.prog.cellsOf 23 = 8 := by kernel_rfl
theorem u_cfg : ∃ fs, Tryz.prog.underlying 23 = some (.struct fs) ∧ ∃ f0 f1 f2 f3 f4 f5 f6 f7, fs[0]? = some f0 ∧ fs[1]? = some f1 ∧ fs[2]? = some f2 ∧ fs[3]? = some f3 ∧ fs[4]? = some f4 ∧ fs[5]? = some f5 ∧ fs[6]? = some f6 ∧ fs[7]? = some f7 ∧ (f0.type = 3 ∧ f0.offset = 0) ∧ (f1.type = 3 ∧ f1.offset = 1) ∧ (f2.type = 3 ∧ f2.offset = 2) ∧ (f3.type = 3 ∧ f3.offset = 3) ∧ (f4.type = 3 ∧ f4.offset = 4) ∧ (f5.type = 3 ∧ f5.offset = 5) ∧ (f6.type = 3 ∧ f6.offset = 6) ∧ (f7.type = 3 ∧ f7.offset = 7) ∧ fs.size = 8 :=
 ⟨_, und_of (Tryz.runUnderlying23 default), _, _, _, _, _, _, _, _, rfl, rfl, rfl, rfl, rfl, rfl, rfl, rfl, ⟨rfl, rfl⟩, ⟨rfl, rfl⟩, ⟨rfl, rfl⟩, ⟨rfl, rfl⟩, ⟨rfl, rfl⟩, ⟨rfl, rfl⟩, ⟨rfl, rfl⟩, ⟨rfl, rfl⟩, rfl⟩
section
variable {H : Type} {ec : TypeId × Value → H} {w : World} {base : Nat} {spare : Nat → Bool} {held : Bool}
theorem open_cfg {n : Nat} {cs : List Value} {x : DataW H × List MemPlace} (h : DataW.trod ec Tryz.prog w base spare held n 23 cs = some x) : ∃ c : Cfg, cs = encCfg c ∧ True := by
 obtain ⟨fs, hu, f0, f1, f2, f3, f4, f5, f6, f7, e0, e1, e2, e3, e4, e5, e6, e7, ⟨t0, o0⟩, ⟨t1, o1⟩, ⟨t2, o2⟩, ⟨t3, o3⟩, ⟨t4, o4⟩, ⟨t5, o5⟩, ⟨t6, o6⟩, ⟨t7, o7⟩, hs⟩ := u_cfg
 obtain ⟨xs, m, rfl, rfl, hl, hxl, hx⟩ := DataW.trod_struct hu h
 rw [coCfg] at hl
 have h0 := hx 0 f0 e0
 rw [t0, o0, co3, List.getElem?_eq_getElem (by omega)] at h0
 have h1 := hx 1 f1 e1
 rw [t1, o1, co3, List.getElem?_eq_getElem (by omega)] at h1
 have h2 := hx 2 f2 e2
 rw [t2, o2, co3, List.getElem?_eq_getElem (by omega)] at h2
 have h3 := hx 3 f3 e3
 rw [t3, o3, co3, List.getElem?_eq_getElem (by omega)] at h3
 have h4 := hx 4 f4 e4
 rw [t4, o4, co3, List.getElem?_eq_getElem (by omega)] at h4
 have h5 := hx 5 f5 e5
 rw [t5, o5, co3, List.getElem?_eq_getElem (by omega)] at h5
 have h6 := hx 6 f6 e6
 rw [t6, o6, co3, List.getElem?_eq_getElem (by omega)] at h6
 have h7 := hx 7 f7 e7
 rw [t7, o7, co3, List.getElem?_eq_getElem (by omega)] at h7
 obtain ⟨a0, g0, _⟩ := DataW.trod_int un3 h0
 obtain ⟨a1, g1, _⟩ := DataW.trod_int un3 h1
 obtain ⟨a2, g2, _⟩ := DataW.trod_int un3 h2
 obtain ⟨a3, g3, _⟩ := DataW.trod_int un3 h3
 obtain ⟨a4, g4, _⟩ := DataW.trod_int un3 h4
 obtain ⟨a5, g5, _⟩ := DataW.trod_int un3 h5
 obtain ⟨a6, g6, _⟩ := DataW.trod_int un3 h6
 obtain ⟨a7, g7, _⟩ := DataW.trod_int un3 h7
 obtain ⟨c0, c1, c2, c3, c4, c5, c6, c7, rfl⟩ : ∃ c0 c1 c2 c3 c4 c5 c6 c7, cs = [c0, c1, c2, c3, c4, c5, c6, c7] := by
  match cs, hl with
  | [c0, c1, c2, c3, c4, c5, c6, c7], _ => exact ⟨c0, c1, c2, c3, c4, c5, c6, c7, rfl⟩
 simp at g0 g1 g2 g3 g4 g5 g6 g7
 exact ⟨⟨a0, a1, a2, a3, a4, a5, a6, a7⟩, by rw [g0, g1, g2, g3, g4, g5, g6, g7]; rfl, trivial⟩
theorem open_msgs {n : Nat} {cs : List Value} {x : DataW H × List MemPlace} (h : DataW.trod ec Tryz.prog w base spare held n 24 cs = some x) :
  ∃ v ms, cs = [v] ∧ SlOf 16 encMsg w v ms ∧ ms.length ≤ maxLen ∧ ∀ (i : Nat) m, ms[i]? = some m → ∃ ws ks, MsgAt w m ws ks :=
 open_slOf (enc := encMsg) (fun _ m => ∃ ws ks, MsgAt w m ws ks) unMs cotMsg (by decide) encMsg_len (fun n cs y hy => by
  obtain ⟨m, ws, ks, e, hm⟩ := open_msg hy
  exact ⟨m, e, fun _ => ⟨ws, ks, hm⟩⟩) h
end
theorem oldest_eqR {st : St.St} {own : List (List St.Wr)} (h : St.HistX st own) (key : ByteArray) : st.oldest key = St.oldL st.most (St.allP (St.past own) key) := by
 rw [St.all_hv key own h.chk]
 unfold St.St.oldest St.oldL
 rw [h.rows key]
 by_cases hq : st.most < (St.hv own key).length
 ·simp only [hq, decide_true, if_true]
  unfold St.keptL
  rw [List.head?_drop]
 ·simp [hq]
theorem fact_eq {M : Option (List Nat)} {w0 : World} (x y : Operand) (x0 : ByteArray) (x1 : Bool) (x2 : ByteArray) (x3 x4 : Int) (K : Value → Prop) : takeP Tryz.prog (FrX M w0) (xv (xbin .eql 57 x y (.agg #[.string x0, .bool x1, .string x2, .int .i64 x3, .int .i64 x4]) (.agg #[.string x0, .bool x1, .string x2, .int .i64 x3, .int .i64 x4]))) K = K (.bool true) := by
 have := takeP_xv (M := M) (w0 := w0) (eqX (xs := #[.string x0, .bool x1, .string x2, .int .i64 x3, .int .i64 x4]) (ys := #[.string x0, .bool x1, .string x2, .int .i64 x3, .int .i64 x4]) (by kernel_rfl) (eqS (d := 9999) Tryz.runUnderlying57 (by kernel_rfl) (eqF_cons (by decide) (part1 Tryz.isAgg9 rfl) (part1 Tryz.isAgg9 rfl) (eqv_string Tryz.runUnderlying9 x0 x0) (eqF_cons (by decide) (partN (l := [.bool x1, .string x2]) Tryz.isAgg35 Tryz.sizeOf35 rfl) (partN (l := [.bool x1, .string x2]) Tryz.isAgg35 Tryz.sizeOf35 rfl) (eqS (d := 9998) Tryz.runUnderlying35 (by kernel_rfl) (eqF_cons (by decide) (part1 Tryz.isAgg4 rfl) (part1 Tryz.isAgg4 rfl) (eqv_bool Tryz.runUnderlying4 x1 x1) (eqF_cons (by decide) (part1 Tryz.isAgg9 rfl) (part1 Tryz.isAgg9 rfl) (eqv_string Tryz.runUnderlying9 x2 x2) eqF_nil))) (eqF_cons (by decide) (part1 Tryz.isAgg2 rfl) (part1 Tryz.isAgg2 rfl) (eqv_int Tryz.runUnderlying2 _ x3 x3) (eqF_cons (by decide) (part1 Tryz.isAgg2 rfl) (part1 Tryz.isAgg2 rfl) (eqv_int Tryz.runUnderlying2 _ x4 x4) eqF_nil))))) x y) K
 simp only [decide_true, Bool.and_self] at this
 exact this
theorem read_oR {w : World} {a : Ad} {Wr Rd : List Nat} {o : Ori} {key : ByteArray} {c : Int} {K : Value → World → Prop} (h : OrAt w a Wr Rd o)
  (hK : ∀ w', Fr [] w w' → K (.tuple ([.agg (St.encFact (o.st.read key c).1).toArray, .int .i64 (o.st.read key c).2] : List Value).toArray) w') : CallsN Tryz.prog 16 [.pointer (some ⟨a.ob, 0, none⟩), .string key, .int .i64 c] w K := by
 have cw := cur w
 have hd := h.hd
 have l1 := lt_of_get _ _ hd
 refine call16 ?_
 simp (maxSteps:=4000000)(disch:=first|assumption|(simp only[dz];first|done|assumption|omega)|omega|apply_rules[Fr.refl,Fr.alloc,Fr.drew]|rfl) only [↓gd,gp,Nat.reduceAdd,Nat.reduceEqDiff, ↓hk16, hd]
 generalize hW : World.alloc w _ = w1
 have hf1 : Fr [] w w1 := by rw [← hW]; (repeat (first | exact Fr.refl _ _ | assumption | with_reducible apply Fr.alloc | with_reducible apply Fr.drew | with_reducible refine Fr.setB ?_ _ _ (.inr (by first | omega | (simp only [gz]; omega))) | with_reducible refine Fr.setB ?_ _ _ (.inl (by first | assumption | simp)) | with_reducible refine Fr.trans' ?_ (by assumption)))
 have hz1 : w1.heap.size = w.heap.size + 1 := by rw [← hW]; simp only [gz]
 have g1 : w1.heap[w.heap.size]? = some (.cells (St.encFact St.fact0).toArray 57 (0, 0)) := by rw [← hW]; exact get_alloc_new _ _
 clear hW
 have cw1 := cur w1
 have hd1 := hf1.getN hd
 try simp (maxSteps:=4000000)(disch:=first|assumption|(simp only[dz];first|done|assumption|omega)|omega|apply_rules[Fr.refl,Fr.alloc,Fr.drew]|rfl) only [↓gd,gp,Nat.reduceAdd,Nat.reduceEqDiff, ↓hk16, hd1]
 refine St.read_spec (h.frN hf1).st h.wf fun w2 hf2 => ?_
 have cw2 := cur w2
 have hz2 := hf2.size
 have g2 := hf2.getN g1
 have l2 := lt_of_get _ _ g2
 unfold St.encFact St.fact0 at g2
 unfold St.encFact at hK ⊢
 simp (maxSteps:=4000000)(disch:=first|assumption|(simp only[dz];first|done|assumption|omega)|omega|apply_rules[Fr.refl,Fr.alloc,Fr.drew]|rfl) only [↓gd,gp,Nat.reduceAdd,Nat.reduceEqDiff, ↓hk16, g2]
 exact hK _ (by first | exact (hf1.trans' hf2).setB _ _ (.inr (Nat.le_refl _)) | (repeat (first | exact Fr.refl _ _ | assumption | with_reducible apply Fr.alloc | with_reducible apply Fr.drew | with_reducible refine Fr.setB ?_ _ _ (.inr (by first | omega | (simp only [gz]; omega))) | with_reducible refine Fr.setB ?_ _ _ (.inl (by first | assumption | simp)) | with_reducible refine Fr.trans' ?_ (by assumption))))
theorem oldest_oR {w : World} {a : Ad} {Wr Rd : List Nat} {o : Ori} {key : ByteArray} {K : Value → World → Prop} (h : OrAt w a Wr Rd o) (hK : K (.int .i64 (o.st.oldest key)) w) : CallsN Tryz.prog 18 [.pointer (some ⟨a.ob, 0, none⟩), .string key] w K := by
 have cw := cur w
 have hd := h.hd
 refine call18 ?_
 simp (maxSteps:=4000000)(disch:=first|assumption|(simp only[dz];first|done|assumption|omega)|omega|apply_rules[Fr.refl,Fr.alloc,Fr.drew]|rfl) only [↓gd,gp,Nat.reduceAdd,Nat.reduceEqDiff, ↓hk18, hd]
 exact St.oldest_spec h.st h.wf hK
set_option maxHeartbeats 64000000 in
theorem reads15 {w : World} {c : Cfg} {sv : Value} {ms : List Msg} {key : ByteArray} {n most : Int} {K : Value → World → Prop} (hl : SlOf 16 encMsg w sv ms) (hm : ∀ (i : Nat) m, ms[i]? = some m → ∃ ws ks, MsgAt w m ws ks) (hml : ms.length ≤ maxLen) (hK : ∀ w', Fr [] w w' → K (.bool true) w') :
  CallsN Tryz.prog 4 [.agg (encCfg c).toArray, sv, .string key, .int .i64 n, .int .i64 most] w K := by
 have cw := cur w
 simp only [maxLen] at hml
 obtain ⟨la, lc, hlv⟩ := hl.form
 refine call4 ?_
 have hce : ∀ c : Cfg, (encCfg c).toArray = #[.int .i64 c.nodes, .int .i64 c.bytes, .int .i64 c.spans, .int .i64 c.gap, .int .i64 c.recent, .int .i64 c.vers, .int .i64 c.prot, .int .i64 c.retr] := fun _ => rfl
 rw [hce]
 simp (maxSteps:=4000000)(disch:=first|assumption|(simp only[dz];first|done|assumption|omega)|omega|apply_rules[Fr.refl,Fr.alloc,Fr.drew]|rfl) only [↓gd,gp,Nat.reduceAdd,Nat.reduceEqDiff, ↓hk4]
 generalize hW : World.alloc w _ = w1
 have hf1 : Fr [] w w1 := by rw [← hW]; (repeat (first | exact Fr.refl _ _ | assumption | with_reducible apply Fr.alloc | with_reducible apply Fr.drew | with_reducible refine Fr.setB ?_ _ _ (.inr (by first | omega | (simp only [gz]; omega))) | with_reducible refine Fr.setB ?_ _ _ (.inl (by first | assumption | simp)) | with_reducible refine Fr.trans' ?_ (by assumption)))
 obtain ⟨cb, hcb⟩ : ∃ cb, cb = w.heap.size := ⟨_, rfl⟩
 rw [← hcb]
 have gc : w1.heap[cb]? = some (.cells (encCfg c).toArray 23 (0, 0)) := by rw [← hW, hcb]; exact get_alloc_new _ _
 clear hW
 have cw1 := cur w1
 rw [hce] at gc
 refine fixed_spec fun w2 hf2 => ?_
 have cw2 := cur w2
 have gc2 := hf2.getN gc
 simp (maxSteps:=4000000)(disch:=first|assumption|(simp only[dz];first|done|assumption|omega)|omega|apply_rules[Fr.refl,Fr.alloc,Fr.drew]|rfl) only [↓gd,gp,Nat.reduceAdd,Nat.reduceEqDiff, ↓hk4, gc2]
 rw [← hce]
 have hfd : Fr [] w2 w2.drew := Fr.drew (Fr.refl _ _)
 have gc2d := hfd.getN gc2
 generalize World.drew w2 = w2d at *
 have cw2d := cur w2d
 refine onew_spec (c := c) fun a w3 hf3 h3 hy => ?_
 have cw3 := cur w3
 have gc3 := hf3.getN gc2d
 simp (maxSteps:=4000000)(disch:=first|assumption|(simp only[dz];first|done|assumption|omega)|omega|apply_rules[Fr.refl,Fr.alloc,Fr.drew]|rfl) only [↓gd,gp,Nat.reduceAdd,Nat.reduceEqDiff, ↓hk4, gc3, eq_true (hfd.trans' hf3)]
 refine r15new (c := c) fun rb w4 hf4 hrb h4 => ?_
 have cw4 := cur w4
 simp (maxSteps:=4000000)(disch:=first|assumption|(simp only[dz];first|done|assumption|omega)|omega|apply_rules[Fr.refl,Fr.alloc,Fr.drew]|rfl) only [↓gd,gp,Nat.reduceAdd,Nat.reduceEqDiff, ↓hk4, eq_true hf4]
 have hF2 := (hf1.trans' hf2).trans' hfd
 have hB : Both15 w w4 a rb (Ori.new c) [] (List.replicate 64 req0) [a.lb] [] (.slice none 0 0) (.slice none 0 0) [] := both_new (hF2.trans' hf3) h3 (fun x hx => by have := hy x hx; have := hF2.size; omega) hf4 hrb h4
 refine for_intro ms.length 13 0 (fun i e w' => e 1 = sv ∧ e 2 = .string key ∧ e 3 = .int .i64 n ∧ e 4 = .int .i64 most ∧ e 11 = .pointer (some ⟨a.ob, 0, none⟩) ∧ e 12 = .pointer (some ⟨rb, 0, none⟩) ∧ ∃ o own Q Wr Rd v vl Rr, Both15 w w' a rb o own Q Wr Rd v vl Rr) ?_ (Nat.zero_le _) ?_ ?_
 ·simp (maxSteps:=4000000)(disch:=first|assumption|(simp only[dz];first|done|assumption|omega)|omega|apply_rules[Fr.refl,Fr.alloc,Fr.drew]|rfl) only [↓gsd,gs,gv,Nat.reduceAdd,Nat.reduceEqDiff]; rfl
 ·simp (maxSteps:=4000000)(disch:=first|assumption|(simp only[dz];first|done|assumption|omega)|omega|apply_rules[Fr.refl,Fr.alloc,Fr.drew]|rfl) only [↓gsd,gs,gv,Nat.reduceAdd,Nat.reduceEqDiff]
  exact ⟨_, _, _, _, _, _, _, _, hB⟩
 rintro i e w5 kk hi e13 ⟨e1, e2, e3, e4, e11, e12, o, own, Q, Wr, Rd, v, vl, Rr, hB5⟩ hk
 have cw5 := cur w5
 by_cases hil : i < ms.length
 ·have d : decide ((i : Int) < (ms.length : Int)) = true := decide_eq_true (by omega)
  have i0 : (0 : Int) ≤ (i : Int) := by omega
  have i1 : (i : Int) < (ms.length : Int) := by omega
  have wr : IntKind.i64.wrap ((i : Int) + 1) = (i : Int) + 1 := wrap64 (by omega) (by omega)
  obtain ⟨m, hmi⟩ : ∃ m, ms[i]? = some m := ⟨ms[i], List.getElem?_eq_getElem hil⟩
  obtain ⟨ws, ks, hMA⟩ := hm i m hmi
  obtain ⟨bm, om, cm, obm, hv2, hobm, _, hrow, _⟩ := hl.read encMsg_len i m hmi
  have hob5 := hB5.ran.fr.getN hobm
  simp (maxSteps:=4000000)(disch:=first|assumption|(simp only[dz];first|done|assumption|omega)|omega|apply_rules[Fr.refl,Fr.alloc,Fr.drew]|rfl) only [↓gd,gp,Nat.reduceAdd,Nat.reduceEqDiff, ↓hk4, e1, e11, e12, e13, hv2, d, i0, i1, Int.toNat_natCast, hob5, hrow]
  refine handle_spec hB5.ran.at_ (hMA.frN hB5.ran.fr) (offOld (w := w) hMA hB5.ran.y) (by have := hB5.rel.ns; omega) fun vo w6 Wr6 Rd6 h6 s6 a6 => ?_
  have cw6 := cur w6
  have hM6 := hB5.mid h6 s6
  have hob6 := hM6.ran.fr.getN hobm
  simp (maxSteps:=4000000)(disch:=first|assumption|(simp only[dz];first|done|assumption|omega)|omega|apply_rules[Fr.refl,Fr.alloc,Fr.drew]|rfl) only [↓gd,gp,Nat.reduceAdd,Nat.reduceEqDiff, ↓hk4, e1, e11, e12, e13, hv2, d, i0, i1, Int.toNat_natCast, hob6, hrow]
  have hap : ∀ x ∈ rb :: (blkL v ++ blkL vl), w.heap.size ≤ x ∧ x < w5.heap.size := fun x hx => by
   have hx' : x ∈ rbs rb v vl Rr := by
    simp only [rbs, List.mem_cons, List.mem_append] at hx ⊢
    rcases hx with e | e | e
    ·exact .inl e
    ·exact .inr (.inl e)
    ·exact .inr (.inr (.inl e))
   exact ⟨(hB5.ap x hx').1, hB5.ref.lts x hx'⟩
  refine r15handle hM6.ref (hMA.frN hM6.ran.fr) (offRef hMA (fun x hx => (hap x hx).1)) hB5.rel.ns hB5.rel.small hB5.rel.hx.chk fun vb v' vl' Rr' w7 q1 q2 q3 q4 => ?_
  have cw7 := cur w7
  obtain ⟨hM7, hF7⟩ := hM6.ref_step q1 q3 q4
  obtain ⟨hreq, hrel⟩ := handle_rel hB5.rel m ws ks
  have hcf : (o.handle m ws ks).2.cfg = o.cfg := handle_cfg o m ws ks
  have hM7' : Mid15 w w7 a rb (o.handle m ws ks).2.cfg (o.handle m ws ks).2 (rh o.cfg own Q m ws ks).2.1 (rh o.cfg own Q m ws ks).2.2 Wr6 Rd6 v' vl' Rr' := by rw [hcf]; exact hM7
  have hB8 := hM7'.both hrel
  simp (maxSteps:=4000000)(disch:=first|assumption|(simp only[dz];first|done|assumption|omega)|omega|apply_rules[Fr.refl,Fr.alloc,Fr.drew]|rfl) only [↓gd,gp,Nat.reduceAdd,Nat.reduceEqDiff, ↓hk4, e13, wr]
  refine hk _ _ hil rfl ?_
  simp (maxSteps:=4000000)(disch:=first|assumption|(simp only[dz];first|done|assumption|omega)|omega|apply_rules[Fr.refl,Fr.alloc,Fr.drew]|rfl) only [↓gsd,gs,gv,Nat.reduceAdd,Nat.reduceEqDiff, e1, e2, e3, e4, e11, e12, hv2]
  exact ⟨_, _, _, _, _, _, _, _, hB8⟩
 ·have d : decide ((i : Int) < (ms.length : Int)) = false := decide_eq_false (by omega)
  have hsm := hB5.rel.small
  have hp8 := St.past_len8 own hB5.rel.hx.chk
  have hvs := hB5.rel.vs
  have hm1 : 1 ≤ o.st.most := by rw [hB5.rel.most]; omega
  have hre := St.read_eq hB5.rel.hx hm1 key n
  rw [hB5.rel.most] at hre
  have hoe := oldest_eqR hB5.rel.hx key
  rw [hB5.rel.most] at hoe
  simp (maxSteps:=4000000)(disch:=first|assumption|(simp only[dz];first|done|assumption|omega)|omega|apply_rules[Fr.refl,Fr.alloc,Fr.drew]|rfl) only [↓gd,gp,Nat.reduceAdd,Nat.reduceEqDiff, ↓hk4, e1, e2, e3, e4, e11, e12, e13, hlv, d]
  refine read_oR hB5.ran.at_ fun w6 hf6 => ?_
  have cw6 := cur w6
  rw [hre]
  generalize hfe : St.rread o.cfg.vers.toNat own key n = fe
  obtain ⟨f, er⟩ := fe
  unfold St.encFact
  simp (maxSteps:=4000000)(disch:=first|assumption|(simp only[dz];first|done|assumption|omega)|omega|apply_rules[Fr.refl,Fr.alloc,Fr.drew]|rfl) only [↓gd,gp,Nat.reduceAdd,Nat.reduceEqDiff, ↓hk4, e1, e2, e3, e4, e11, e12]
  generalize hW : World.alloc w6 _ = w7
  have hf7 : Fr [] w6 w7 := by rw [← hW]; (repeat (first | exact Fr.refl _ _ | assumption | with_reducible apply Fr.alloc | with_reducible apply Fr.drew | with_reducible refine Fr.setB ?_ _ _ (.inr (by first | omega | (simp only [gz]; omega))) | with_reducible refine Fr.setB ?_ _ _ (.inl (by first | assumption | simp)) | with_reducible refine Fr.trans' ?_ (by assumption)))
  obtain ⟨fb, hfb⟩ : ∃ fb, fb = w6.heap.size := ⟨_, rfl⟩
  rw [← hfb]
  have g7 : w7.heap[fb]? = some (.cells (St.encFact f).toArray 57 (0, 0)) := by rw [← hW, hfb]; exact get_alloc_new _ _
  clear hW
  have cw7 := cur w7
  unfold St.encFact at g7
  have hB7 := (hB5.frN hf6).frN hf7
  refine St.r5read hB7.ref.st (by omega) (by omega) (by omega) fun w8 hf8 => ?_
  have cw8 := cur w8
  rw [hfe]
  unfold St.encFact
  simp (maxSteps:=4000000)(disch:=first|assumption|(simp only[dz];first|done|assumption|omega)|omega|apply_rules[Fr.refl,Fr.alloc,Fr.drew]|rfl) only [↓gd,gp,Nat.reduceAdd,Nat.reduceEqDiff, ↓hk4, e1, e2, e3, e4, e11, e12]
  generalize hW : World.alloc w8 _ = w9
  have hf9 : Fr [] w8 w9 := by rw [← hW]; (repeat (first | exact Fr.refl _ _ | assumption | with_reducible apply Fr.alloc | with_reducible apply Fr.drew | with_reducible refine Fr.setB ?_ _ _ (.inr (by first | omega | (simp only [gz]; omega))) | with_reducible refine Fr.setB ?_ _ _ (.inl (by first | assumption | simp)) | with_reducible refine Fr.trans' ?_ (by assumption)))
  clear hW
  have cw9 := cur w9
  have g9 := (hf8.trans' hf9).getN g7
  have hfd9 : Fr [] w9 w9.drew := Fr.drew (Fr.refl _ _)
  have g9d := hfd9.getN g9
  have hB9 := ((hB7.frN hf8).frN hf9).frN hfd9
  generalize World.drew w9 = w9d at *
  have cw9d := cur w9d
  have t6 : decide (er = er) = true := decide_eq_true rfl
  simp (maxSteps:=4000000)(disch:=first|assumption|(simp only[dz];first|done|assumption|omega)|omega|apply_rules[Fr.refl,Fr.alloc,Fr.drew]|rfl) only [↓gd,gp,Nat.reduceAdd,Nat.reduceEqDiff, ↓hk4, e1, e2, e3, e4, e11, e12, g9, g9d, fact_eq, t6]
  refine oldest_oR hB9.ran.at_ ?_
  rw [hoe]
  refine St.r5oldest hB9.ref.st (by omega) (by omega) (by omega) fun w10 hf10 => ?_
  have cw10 := cur w10
  have hB10 := hB9.frN hf10
  have t7 : decide (St.oldL 8 (St.allP (St.past own) key) = St.oldL 8 (St.allP (St.past own) key)) = true := decide_eq_true rfl
  simp (maxSteps:=4000000)(disch:=first|assumption|(simp only[dz];first|done|assumption|omega)|omega|apply_rules[Fr.refl,Fr.alloc,Fr.drew]|rfl) only [↓gd,gp,Nat.reduceAdd,Nat.reduceEqDiff, ↓hk4, e1, e2, e3, e4, e11, e12, t7]
  refine records_o hB10.ran.at_ fun va w11 hr11 hf11 => ?_
  have cw11 := cur w11
  have hB11 := hB10.frN hf11
  refine Sm.rfrom_log (X := preL o.cfg v o.cfg.vers own.length Q) (L := own.map keysW) hB11.ref.log hB11.ref.lg (by simp; omega) fun vb w12 hr12 hf12 => ?_
  have cw12 := cur w12
  rw [hB5.rel.L] at hr11
  refine Sm.sameAll_true (hr11.frN hf12) hr12 (by unfold Sm.fromL; rw [List.length_take, List.length_drop, Sm.recsL_len, List.length_map]; omega) (own8 hB5.rel) fun w13 hf13 => ?_
  have cw13 := cur w13
  exact hK _ ((hB11.ran.fr.trans' hf12).trans' hf13)
end Go.Proofs.YtgloomahpjpiiaaGreat.Or
