/- A node: the closures of Apply, and what is behind its loop. A node: records are given out. -/
import Derived.Test.YtomlgkecckffeaaGreatWA
set_option linter.unusedVariables false
set_option linter.unusedSimpArgs false
set_option maxRecDepth 10000
namespace Go.Proofs.YtomlgkecckffeaaGreat
open Go.VW
theorem drain_mem {α : Type} : ∀ (f : Nat) (a : Int) (ws : List (Int × α)), (∀ y ∈ (drain f a ws).1, ∃ p ∈ ws, p.2 = y) ∧ ∀ p ∈ (drain f a ws).2.2, p ∈ ws
 | 0, a, ws => ⟨fun y hy => by simp [drain] at hy, fun p hp => hp⟩
 | f + 1, a, ws => by
   unfold drain
   cases h : aget ws (a + 1) with
   | none => exact ⟨fun y hy => by simp at hy, fun p hp => hp⟩
   | some v =>
     obtain ⟨i1, i2⟩ := drain_mem f (a + 1) (adel ws (a + 1))
     refine ⟨fun y hy => ?_, fun p hp => adel_mem _ _ (i2 p hp)⟩
     simp only [List.mem_cons] at hy
     rcases hy with rfl | hy
     ·exact ⟨_, aget_mem _ _ h, rfl⟩
     ·obtain ⟨p, q1, q2⟩ := i1 y hy
      exact ⟨p, adel_mem _ _ q1, q2⟩
theorem put_mem {α : Type} (g : GS α) (n : Int) (v : α) : (∀ y ∈ (g.put n v).1.1, y = v ∨ ∃ p ∈ g.ws, p.2 = y) ∧ ∀ p ∈ (g.put n v).2.ws, p ∈ g.ws ∨ p = (n, v) := by
 unfold GS.put
 split
 ·exact ⟨fun y hy => by simp at hy, fun p hp => .inl hp⟩
 ·split
  ·obtain ⟨i1, i2⟩ := drain_mem g.ws.length n g.ws
   refine ⟨fun y hy => ?_, fun p hp => .inl (i2 p hp)⟩
   simp only [List.mem_cons] at hy
   exact hy.imp id (i1 y)
  ·split
   ·exact ⟨fun y hy => by simp at hy, fun p hp => by simp at hp⟩
   ·refine ⟨fun y hy => by simp at hy, fun p hp => ?_⟩
    rcases List.mem_append.1 hp with q | q
    ·exact .inl q
    ·exact .inr (by simpa using q)
section
variable {w w' : World} {a : Lay} {c : Cfg} {inc : Int} {M : Mem}
theorem NodeAt.gapS (h : NodeAt w a c inc M) {g' : GS KRec} (hg : GapAt 179 krV w' a.gb a.gm g') (hf : Fr [a.gb, a.gm] w w') (hk : ∀ p ∈ g'.ws, p.2.r.n = p.1 ∧ KeyAt w' a.all p.2) : NodeAt w' a c inc { M with g := g' } := by
 obtain ⟨n1, n2, n3, n4, n5, n6, n7, n8, n9, n10, n11, n12, n13, n14, n15⟩ := h.ne
 obtain ⟨o1, o2, o3, o4, o5, o6⟩ := h.off
 refine ⟨hf.get h.head (by simp; exact ⟨n2, n3⟩), hf.get h.mem (by simp; exact ⟨n6, n7⟩), h.tab.fr hf (by simp; exact ⟨o3, o4⟩), hg, h.rcn.fr hf (by simp; exact ⟨fun e => n11 e.symm, fun e => n13 e.symm⟩) (by simp; exact ⟨fun e => n12 e.symm, fun e => n14 e.symm⟩), h.nd, h.ap, hk⟩
theorem NodeAt.rcnS (h : NodeAt w a c inc M) {R' : Rcn} (hR : RcnAt w' a.rb a.rr R') (hf : Fr [a.rb, a.rr] w w') : NodeAt w' a c inc { M with R := R' } := by
 obtain ⟨n1, n2, n3, n4, n5, n6, n7, n8, n9, n10, n11, n12, n13, n14, n15⟩ := h.ne
 obtain ⟨o1, o2, o3, o4, o5, o6⟩ := h.off
 obtain ⟨s0, s1, s2, s3, s4, s5, s6⟩ := sub_all (a := a)
 refine ⟨hf.get h.head (by simp; exact ⟨n4, n5⟩), hf.get h.mem (by simp; exact ⟨n8, n9⟩), h.tab.fr hf (by simp; exact ⟨o5, o6⟩), h.gap.fr hf (by simp; exact ⟨n11, n12⟩) (by simp; exact ⟨n13, n14⟩), hR, h.nd, h.ap, fun p hp => ⟨(h.keys p hp).1, (h.keys p hp).2.mono hf (fun y hy => ?_) fun y hy => .inl hy⟩⟩
 simp at hy; rcases hy with rfl | rfl
 ·exact .inl s5
 ·exact .inl s6
theorem end_n {p : Nat} {r : Rec} (h0 : w.heap[p]? = some (.cells (encR r).toArray 38 (0, 0))) (n0 : p ∉ a.S) : EndAt w a c inc M (.func (.func 66) #[] #[.pointer (some ⟨p, 0, none⟩)]) (fun e => (r.n, decide (e.lo < r.n))) := by
 intro w1 S T e K h hf hK
 rw [nx_xcall Tryz.call66]
 have ha : [Value.agg (encEnt e).toArray] ++ (#[Value.pointer (some ⟨p, 0, none⟩)] : Array Value).toList = [.agg (encEnt e).toArray, .pointer (some ⟨p, 0, none⟩)] := rfl
 rw [ha]
 have cw1 := cur w1
 have g0 := hf.get h0 n0
 have l0 := lt_of_get _ _ g0
 unfold encR at g0
 unfold encEnt
 refine call66 ?_
 simp (maxSteps:=9^7)(disch:=first|assumption|(simp only[dz];first|done|assumption|omega)|omega|apply_rules[Fr.refl,Fr.alloc,Fr.drew]|rfl) only [↓gd,gp,Nat.reduceAdd,Nat.reduceEqDiff, ↓hk66, g0]
 exact hK _ fr_
theorem end_at {p : Nat} (h0 : w.heap[p]? = some (.cells ([.pointer (some ⟨a.nb, 0, none⟩)] : List Value).toArray 26 (0, 0))) (n0 : p ∉ a.S) : EndAt w a c inc M (.func (.func 69) #[] #[.pointer (some ⟨p, 0, none⟩)]) (fun e => (wr1 M.g.at_, true)) := by
 intro w1 S T e K h hf hK
 rw [nx_xcall Tryz.call69]
 have ha : [Value.agg (encEnt e).toArray] ++ (#[Value.pointer (some ⟨p, 0, none⟩)] : Array Value).toList = [.agg (encEnt e).toArray, .pointer (some ⟨p, 0, none⟩)] := rfl
 rw [ha]
 have cw1 := cur w1
 have g0 := hf.get h0 n0
 have l0 := lt_of_get _ _ g0
 have hd := h.hd
 have hm := h.mm
 simp only at hd hm
 have l1 := lt_of_get _ _ hd
 have l2 := lt_of_get _ _ hm
 obtain ⟨x, hx⟩ : ∃ x, x = IntKind.i64.wrap (M.g.at_ + 1) := ⟨_, rfl⟩
 have hx' : wr1 M.g.at_ = x := hx.symm
 rw [hx'] at hK
 unfold encEnt
 refine call69 ?_
 simp (maxSteps:=9^7)(disch:=first|assumption|(simp only[dz];first|done|assumption|omega)|omega|apply_rules[Fr.refl,Fr.alloc,Fr.drew]|rfl) only [↓gd,gp,Nat.reduceAdd,Nat.reduceEqDiff, ↓hk69, g0, hd, hm]
 have hat : ∀ (w' : World) (K' : Value → World → Prop), Fr [] w1 w' → K' (.int .i64 M.g.at_) w' → CallsN Tryz.prog 70 [.pointer (some ⟨a.gb, 0, none⟩)] w' K' := fun w' K' hf hk => atR (h.frN hf).gap hk
 refine hat _ _ fr_ ?_
 simp (maxSteps:=9^7)(disch:=first|assumption|(simp only[dz];first|done|assumption|omega)|omega|apply_rules[Fr.refl,Fr.alloc,Fr.drew]|rfl) only [↓gd,gp,Nat.reduceAdd,Nat.reduceEqDiff, ↓hk69, ← hx]
 exact hK _ fr_
theorem endO_n (n : Int) : endO (fun e => (n, decide (e.lo < n))) = atN n := by
 funext e
 unfold endO atN
 simp only [decide_eq_true_eq]
def Mem.over (M : Mem) (over : Bool) : Mem := if over = true then { M with T := closeL (fun _ => some (wr1 M.g.at_)) M.T M.T.list } else M
set_option maxHeartbeats 16000000 in
theorem apply_end {p B : Nat} {n : Int} {calm over : Bool} {e : Env} {K : Value → World → Prop} (h : NodeAt w a c inc M) (hT : TI M.T B n) (hB : B ≤ 100000000) (hg : M.g.WF) (h0 : w.heap[p]? = some (.cells ([.pointer (some ⟨a.nb, 0, none⟩)] : List Value).toArray 26 (0, 0))) (n0 : p ∉ a.S)
  (e2 : e 2 = .pointer (some ⟨p, 0, none⟩)) (e5 : e 5 = .bool calm) (e7 : e 7 = .bool over)
  (hK : ∀ w' S', NodeAt w' { a with S := S' } c inc (M.over over) → TI (M.over over).T B n → (∀ x ∈ S', x ∈ a.S ∨ w.heap.size ≤ x) → Fr a.S w w' → K (.bool (over || (calm && decide (0 < M.g.ws.length)))) w') :
  W3 Tryz.prog 120 V20 c20_6 (retQ Tryz.prog [.tmp 4] K) e w := by
 have cw := cur w
 have hd := h.hd
 have hm := h.mm
 have l0 := lt_of_get _ _ h0
 have l1 := lt_of_get _ _ hd
 have l2 := lt_of_get _ _ hm
 unfold Mem.over at hK
 cases over with
 | false =>
   rw [if_neg (by simp)] at hK
   cases calm with
   | false =>
     simp (maxSteps:=9^7)(disch:=first|assumption|(simp only[dz];first|done|assumption|omega)|omega|apply_rules[Fr.refl,Fr.alloc,Fr.drew]|rfl) only [↓gd,gp,Nat.reduceAdd,Nat.reduceEqDiff, ↓hk20, e2, e5, e7]
     exact hK _ a.S h hT (fun x hx => .inl hx) (Fr.refl _ _)
   | true =>
     simp (maxSteps:=9^7)(disch:=first|assumption|(simp only[dz];first|done|assumption|omega)|omega|apply_rules[Fr.refl,Fr.alloc,Fr.drew]|rfl) only [↓gd,gp,Nat.reduceAdd,Nat.reduceEqDiff, ↓hk20, e2, e5, e7, h0, hd, hm]
     refine waitsR h.gap hg fun vo w1 ho hf _ => ?_
     have cw1 := cur w1
     obtain ⟨va, vc, hv⟩ := (sl_ints ho).form
     have hln : (sortI (M.g.ws.map (·.1))).length = M.g.ws.length := by have := ho.1; simpa using this
     rw [hln] at hv
     have dd : decide ((0 : Int) < (M.g.ws.length : Int)) = decide (0 < M.g.ws.length) := by
      by_cases q : 0 < M.g.ws.length
      ·rw [decide_eq_true q, decide_eq_true (by omega)]
      ·rw [decide_eq_false q, decide_eq_false (by omega)]
     simp (maxSteps:=9^7)(disch:=first|assumption|(simp only[dz];first|done|assumption|omega)|omega|apply_rules[Fr.refl,Fr.alloc,Fr.drew]|rfl) only [↓gd,gp,Nat.reduceAdd,Nat.reduceEqDiff, ↓hk20, e2, e5, e7, hv, dd]
     have := hK w1 a.S (h.frN hf) hT (fun x hx => .inl hx) ((Fr.refl a.S w).trans hf (by simp))
     simp only [Bool.false_or, Bool.true_and] at this
     exact this
 | true =>
   rw [if_pos rfl] at hK
   simp (maxSteps:=9^7)(disch:=first|assumption|(simp only[dz];first|done|assumption|omega)|omega|apply_rules[Fr.refl,Fr.alloc,Fr.drew]|rfl) only [↓gd,gp,Nat.reduceAdd,Nat.reduceEqDiff, ↓hk20, takeP_mkF, e2, e5, e7, h0, hd, hm]
   have hlen := hT.tok.list_len
   refine all_all (h.frN (w' := w.drew) fr_).tab hT.tok (by omega) fun v w1 hs ho hb hf1 => ?_
   have cw1 := cur w1
   have hf1' : Fr [] w w1 := Fr.trans' fr_ hf1
   refine ⟨.inl hf1', ?_⟩
   have h1 := h.frN hf1'
   refine closeAll_spec (l := M.T.list) (n := n) (B := B) h1 hT hB hs (fun x m cc q => ?_) hT.placeL (fun x hx => (list_row hT.tok hx).1) (by omega) (end_at (hf1'.getN h0) n0) fun w2 S2 h2 hT2 hS2 hf2 => ?_
   ·have hq := own_off ho x m cc q
    have h3 := hb _ hq
    rw [size_drew] at h3
    exact ⟨ho.lt hq, fun hm => by have := h.lt _ (sub_all.1 _ hm); omega⟩
   have cw2 := cur w2
   have hz1 := hf1'.size
   try simp (maxSteps:=9^7)(disch:=first|assumption|(simp only[dz];first|done|assumption|omega)|omega|apply_rules[Fr.refl,Fr.alloc,Fr.drew]|rfl) only [↓gd,gp,Nat.reduceAdd,Nat.reduceEqDiff, ↓hk20, e2, e5, e7]
   exact hK w2 S2 h2 hT2 (fun x hx => (hS2 x hx).imp id fun q => by omega) (((Fr.refl a.S w).trans hf1' (by simp)).trans hf2 fun x hx => .inl hx)
end
def givT (M : Mem) (x : KRec) (T : Tab) (ks : List ByteArray) : Tab := ks.foldl (fun T k => closeL (atN x.r.n) T (T.row k)) T
set_option maxHeartbeats 32000000 in
theorem apply_loop {w : World} {a : Lay} {c : Cfg} {inc : Int} {M : Mem} {p B : Nat} {n : Int} {vo : Value} {out : List KRec} {e : Env} {k : Env → World → Prop} {Q : Exit → Env → World → Prop} (h : NodeAt w a c inc M) (hT : TI M.T B n) (hB : B ≤ 100000000)
  (hs : SlOf 2 encKR w vo out) (hoff : ∀ x m cc, vo = .slice (some x) m cc → x.block < w.heap.size ∧ x.block ∉ a.all) (hkeys : ∀ y ∈ out, KeyAt w a.all y) (hlen : out.length ≤ 1000000000)
  (h0 : w.heap[p]? = some (.cells ([.pointer (some ⟨a.nb, 0, none⟩)] : List Value).toArray 26 (0, 0))) (n0 : p ∉ a.all) (e2 : e 2 = .pointer (some ⟨p, 0, none⟩)) (e6 : e 6 = vo)
  (hK : ∀ e' w' S', NodeAt w' { a with S := S' } c inc (out.foldl Mem.given M) → TI (out.foldl Mem.given M).T B n → (∀ x ∈ S', x ∈ a.S ∨ w.heap.size ≤ x) → Fr (a.rb :: a.rr :: a.S) w w' → e' 2 = e 2 → e' 5 = e 5 → e' 7 = e 7 → k e' w') :
  W3 Tryz.prog 120 V20 c20_11 (seqQ k Q) e w := by
 have cw := cur w
 obtain ⟨va, vc, hv⟩ := hs.form
 rw [e2] at hK
 have l0 := lt_of_get _ _ h0
 simp (maxSteps:=9^7)(disch:=first|assumption|(simp only[dz];first|done|assumption|omega)|omega|apply_rules[Fr.refl,Fr.alloc,Fr.drew]|rfl) only [↓gd,gp,Nat.reduceAdd,Nat.reduceEqDiff, ↓hk20, e6, hv]
 rw [← hv]
 refine for_intro out.length 55 0 (fun i e1 w' => ∃ S, e1 2 = .pointer (some ⟨p, 0, none⟩) ∧ e1 5 = e 5 ∧ e1 7 = e 7 ∧ e1 53 = vo ∧ e1 54 = .int .i64 out.length ∧ NodeAt w' { a with S := S } c inc ((out.take i).foldl Mem.given M) ∧ TI ((out.take i).foldl Mem.given M).T B n ∧
  (∀ x ∈ S, x ∈ a.S ∨ w.heap.size ≤ x) ∧ Fr (a.rb :: a.rr :: a.S) w w') ?_ (Nat.zero_le _) ?_ ?_
 ·simp (maxSteps:=9^7)(disch:=first|assumption|(simp only[dz];first|done|assumption|omega)|omega|apply_rules[Fr.refl,Fr.alloc,Fr.drew]|rfl) only [↓gsd,gs,gv,Nat.reduceAdd,Nat.reduceEqDiff, Int.natCast_zero]
 ·refine ⟨a.S, ?_⟩
  simp (maxSteps:=9^7)(disch:=first|assumption|(simp only[dz];first|done|assumption|omega)|omega|apply_rules[Fr.refl,Fr.alloc,Fr.drew]|rfl) only [↓gsd,gs,gv,Nat.reduceAdd,Nat.reduceEqDiff, e2, hv]
  exact ⟨h, hT, fun x hx => .inl hx, Fr.refl _ _⟩
 rintro i e1 w1 kk hi eS ⟨S, r2, r5, r7, r53, r54, h1, hT1, hS1, hF1⟩ hkk
 have cw1 := cur w1
 have hz1 := hF1.size
 obtain ⟨s0, s1, s2, s3, s4, s5, s6⟩ := sub_all (a := a)
 have hMall : ∀ y ∈ a.rb :: a.rr :: a.S, y ∈ a.all := fun y hy => by
  simp only [List.mem_cons] at hy
  rcases hy with rfl | rfl | q
  ·exact s5
  ·exact s6
  ·exact s0 y q
 have hs1 : SlOf 2 encKR w1 vo out := hs.fr hF1 fun b hb x m cc q => (fun e => (hoff x m cc q).2 (hMall _ (e ▸ hb)))
 have h01 := hF1.get h0 fun q => n0 (hMall p q)
 by_cases hil : i < out.length
 ·have d1 : decide ((i : Int) < (out.length : Int)) = true := decide_eq_true (by omega)
  obtain ⟨y, hy⟩ : ∃ y, out[i]? = some y := ⟨out[i], List.getElem?_eq_getElem hil⟩
  obtain ⟨b1, o1, p1, ob1, hv1, hb1, hbl1, hr1, _⟩ := hs1.read encKR_len i y hy
  have i0 : (0 : Int) ≤ (i : Int) := by omega
  have i1 : (i : Int) < (out.length : Int) := by omega
  have wi : IntKind.i64.wrap ((i : Int) + 1) = (i : Int) + 1 := wrap64 (by omega) (by omega)
  have hstep : (out.take (i + 1)).foldl Mem.given M = Mem.given ((out.take i).foldl Mem.given M) y := by rw [List.take_add_one, hy, List.foldl_append]; rfl
  generalize hMi : (out.take i).foldl Mem.given M = Mi at h1 hT1 hstep
  unfold encKR encR at hr1
  simp (maxSteps:=9^7)(disch:=first|assumption|(simp only[dz];first|done|assumption|omega)|omega|apply_rules[Fr.refl,Fr.alloc,Fr.drew]|rfl) only [↓gd,gp,Nat.reduceAdd,Nat.reduceEqDiff, ↓hk20, r2, r53, r54, eS, hv1, d1, i0, i1, Int.toNat_natCast, Nat.mul_one, hb1, hr1]
  generalize hW : World.alloc w1 _ = w2
  have hf2 : Fr [] w1 w2 := by rw [← hW]; exact fr_
  have hz2e : w2.heap.size = w1.heap.size + 1 := by rw [← hW]; simp only [gz]
  have g9 : w2.heap[w1.heap.size]? = some (.cells (encR y.r).toArray 38 (0, 0)) := by rw [← hW]; exact get_alloc_new _ _
  clear hW
  have cw2 := cur w2
  have h2 := h1.frN hf2
  have h02 := hf2.getN h01
  have hF2 := hF1.trans' hf2
  have hk2 : KeyAt w2 (Lay.all { a with S := S }) y := (hkeys y (List.mem_of_getElem? hy)).mono hF2 (fun z hz => .inl (hMall z hz)) fun z hz => by
   unfold Lay.all at hz ⊢
   rcases List.mem_append.1 hz with q | q
   ·exact .inl (List.mem_append_left _ q)
   ·exact (hS1 z q).imp (fun q => List.mem_append_right _ q) id
  obtain ⟨ka, kc, hkf⟩ := hk2.sl.form
  have hkl := hk2.len
  have hkl' : y.r.l = y.ks.length := by simp only [Value.slice.injEq] at hkf; exact hkf.2.1
  have g9u := g9
  unfold encR at g9u
  have l9 := lt_of_get _ _ g9
  have l9' : w1.heap.size < w2.heap.size := l9
  simp (maxSteps:=9^7)(disch:=first|assumption|(simp only[dz];first|done|assumption|omega)|omega|apply_rules[Fr.refl,Fr.alloc,Fr.drew]|rfl) only [↓gd,gp,Nat.reduceAdd,Nat.reduceEqDiff, ↓hk20, r2, r53, r54, eS, g9u, hkl']
  refine for_intro y.ks.length 62 0 (fun j e3 w' => ∃ S' T, e3 2 = .pointer (some ⟨p, 0, none⟩) ∧ e3 5 = e 5 ∧ e3 7 = e 7 ∧ e3 53 = vo ∧ e3 54 = .int .i64 out.length ∧ e3 55 = .int .i64 i ∧ e3 9 = .pointer (some ⟨w1.heap.size, 0, none⟩) ∧ e3 60 = .slice y.r.a y.r.l y.r.c ∧ e3 61 = .int .i64 y.ks.length ∧
   NodeAt w' { a with S := S' } c inc { Mi with T := T } ∧ T = givT Mi y Mi.T (y.ks.take j) ∧ TI T B n ∧ (∀ x ∈ S', x ∈ S ∨ w2.heap.size ≤ x) ∧ Fr S w2 w') ?_ (Nat.zero_le _) ?_ ?_
  ·simp (maxSteps:=9^7)(disch:=first|assumption|(simp only[dz];first|done|assumption|omega)|omega|apply_rules[Fr.refl,Fr.alloc,Fr.drew]|rfl) only [↓gsd,gs,gv,Nat.reduceAdd,Nat.reduceEqDiff, Int.natCast_zero]
  ·refine ⟨S, Mi.T, ?_⟩
   simp (maxSteps:=9^7)(disch:=first|assumption|(simp only[dz];first|done|assumption|omega)|omega|apply_rules[Fr.refl,Fr.alloc,Fr.drew]|rfl) only [↓gsd,gs,gv,Nat.reduceAdd,Nat.reduceEqDiff, r2, r5, r7, r53, r54, eS, hkl']
   exact ⟨h2, rfl, hT1, fun x hx => .inl hx, Fr.refl _ _⟩
  rintro j e3 w3 kk3 hj eJ ⟨S', T, t2, t5, t7, t53, t54, t55, t9, t60, t61, h3, hTe, hT3, hS3, hF3⟩ hkk3
  have cw3 := cur w3
  have hz3 := hF3.size
  have sS0 := (sub_all (a := { a with S := S })).1
  have hlt1 := h1.lt
  have hp9S : w1.heap.size ∉ S := fun q => by have := hlt1 _ (sS0 _ q); omega
  have hpS : p ∉ S := fun q => by
   rcases hS1 p q with q | q
   ·exact n0 (s0 p q)
   ·omega
  have g93 := hF3.get g9 hp9S
  have g93u := g93
  unfold encR at g93u
  have h03 := hF3.get h02 hpS
  have hk3 : SlOf 1 encS w3 (.slice y.r.a y.r.l y.r.c) y.ks := hk2.sl.fr hF3 fun b hb x m cc q => by
   simp only [Value.slice.injEq] at q
   exact fun e' => (hk2.blk x q.1).2 (sS0 _ (e' ▸ hb))
  have hd3 := h3.hd
  have hm3 := h3.mm
  simp only at hd3 hm3
  have m1 := lt_of_get _ _ hd3
  have m2 := lt_of_get _ _ hm3
  have m3 := lt_of_get _ _ h03
  have m9 := lt_of_get _ _ g93
  by_cases hjl : j < y.ks.length
  ·have d2 : decide ((j : Int) < (y.ks.length : Int)) = true := decide_eq_true (by omega)
   obtain ⟨ky, hky⟩ : ∃ x, y.ks[j]? = some x := ⟨y.ks[j], List.getElem?_eq_getElem hjl⟩
   obtain ⟨b2, o2, p2, ob2, hv2, hb2, hbl2, _, hc2⟩ := hk3.read (fun _ => rfl) j ky hky
   have q0 := fun orig K => hc2 0 (.string ky) orig K rfl
   simp only [Nat.add_zero, Nat.mul_one] at q0
   have j0 : (0 : Int) ≤ (j : Int) := by omega
   have j1 : (j : Int) < (y.ks.length : Int) := by omega
   have wj : IntKind.i64.wrap ((j : Int) + 1) = (j : Int) + 1 := wrap64 (by omega) (by omega)
   have htk : y.ks.take (j + 1) = y.ks.take j ++ [ky] := by rw [List.take_add_one, hky]; rfl
   rw [hv2] at t60
   simp only [Value.slice.injEq] at hv2
   obtain ⟨v2a, v2l, v2c⟩ := hv2
   have hrl := hT3.tok.row_len ky
   simp (maxSteps:=9^7)(disch:=first|assumption|(simp only[dz];first|done|assumption|omega)|omega|apply_rules[Fr.refl,Fr.alloc,Fr.drew]|rfl) only [↓gd,gp,Nat.reduceAdd,Nat.reduceEqDiff, ↓hk20, takeP_mkF, t2, t53, t54, t55, t9, t60, t61, eJ, d2, j0, j1, Int.toNat_natCast, Nat.mul_one, hb2, q0, h03, hd3, hm3]
   have hw4 : ∀ x ∈ S', x ∈ S ∨ w2.heap.size ≤ x := hS3
   have hp9S' : w1.heap.size ∉ S' := fun q => (hS3 _ q).elim hp9S fun q => by omega
   refine of_spec (h3.frN (w' := w3.drew) fr_).tab hT3.tok.wf (by omega) fun v w4 ho hf4 hb4 => ?_
   have cw4 := cur w4
   have hf4' : Fr [] w3 w4 := Fr.trans' fr_ hf4
   have hz4 := hf4'.size
   refine ⟨.inl hf4', ?_⟩
   have h4 := h3.frN hf4'
   refine closeAll_spec (a := { a with S := S' }) (M := { Mi with T := T }) (n := n) (B := B) (l := T.row ky) (F := fun e => (y.r.n, decide (e.lo < y.r.n))) h4 hT3 hB ho.sl (fun x m cc q => ?_) (hT3.tok.placeR ky) (fun x hx => hT3.tok.mem_at hx) (by omega) (end_n (r := y.r) (hf4'.getN g93) hp9S') fun w5 S5 h5 hT5 hS5 hf5 => ?_
   ·have hq := own_off ho x m cc q
    have h6 := hb4 _ hq
    rw [size_drew] at h6
    refine ⟨ho.lt hq, fun hm => ?_⟩
    have := h3.lt _ ((sub_all (a := { a with S := S' })).1 _ hm)
    omega
   have cw5 := cur w5
   rw [endO_n] at h5 hT5
   have hz5 := hf5.size
   simp (maxSteps:=9^7)(disch:=first|assumption|(simp only[dz];first|done|assumption|omega)|omega|apply_rules[Fr.refl,Fr.alloc,Fr.drew]|rfl) only [↓gd,gp,Nat.reduceAdd,Nat.reduceEqDiff, ↓hk20, t2, t53, t54, t55, t9, t60, t61, eJ, wj]
   refine hkk3 _ _ hjl rfl ⟨S5, closeL (atN y.r.n) T (T.row ky), ?_⟩
   simp (maxSteps:=9^7)(disch:=first|assumption|(simp only[dz];first|done|assumption|omega)|omega|apply_rules[Fr.refl,Fr.alloc,Fr.drew]|rfl) only [↓gsd,gs,gv,Nat.reduceAdd,Nat.reduceEqDiff, t2, t5, t7, t53, t54, t55, t9, t60, t61]
   rw [← v2a, ← v2l, ← v2c]
   refine ⟨rfl, h5, ?_, hT5, fun x hx => ?_, (hF3.trans' hf4').trans hf5 fun x hx => hS3 x hx⟩
   ·rw [htk, hTe]; unfold givT; rw [List.foldl_append]; rfl
   ·rcases hS5 x hx with q | q
    ·exact hS3 x q
    ·exact .inr (by omega)
  ·have d2 : decide ((j : Int) < (y.ks.length : Int)) = false := decide_eq_false (by omega)
   rw [List.take_of_length_le (by omega)] at hTe
   subst hTe
   simp (maxSteps:=9^7)(disch:=first|assumption|(simp only[dz];first|done|assumption|omega)|omega|apply_rules[Fr.refl,Fr.alloc,Fr.drew]|rfl) only [↓gd,gp,Nat.reduceAdd,Nat.reduceEqDiff, ↓hk20, t2, t53, t54, t55, t9, t60, t61, eJ, d2, h03, hd3, hm3, g93u]
   have offR : ∀ z, z ∈ a.fix → offV (.slice y.r.a y.r.l y.r.c) z := fun z hz x m cc q e' => by
    simp only [Value.slice.injEq] at q
    exact (hk2.blk x q.1).2 (e' ▸ List.mem_append_left _ hz)
   have h3d := h3.frN (w' := w3.drew) fr_
   refine note_spec (ks := y.ks) h3d.rcn (hk3.frN fr_) (offR _ (by simp [Lay.fix])) (offR _ (by simp [Lay.fix])) (by omega) fun w4 hf4 hR4 => ?_
   have cw4 := cur w4
   have h4 := h3d.rcnS hR4 hf4
   simp (maxSteps:=9^7)(disch:=first|assumption|(simp only[dz];first|done|assumption|omega)|omega|apply_rules[Fr.refl,Fr.alloc,Fr.drew]|rfl) only [↓gd,gp,Nat.reduceAdd,Nat.reduceEqDiff, ↓hk20, t2, t53, t54, t55, wi]
   refine hkk _ _ hil rfl ⟨S', ?_⟩
   rw [hstep]
   simp (maxSteps:=9^7)(disch:=first|assumption|(simp only[dz];first|done|assumption|omega)|omega|apply_rules[Fr.refl,Fr.alloc,Fr.drew]|rfl) only [↓gsd,gs,gv,Nat.reduceAdd,Nat.reduceEqDiff, t2, t5, t7, t53, t54]
   refine ⟨h4, hT3, fun x hx => ?_, ((hF2.trans hF3 fun x hx => ?_).trans' (fr_ : Fr [] w3 w3.drew)).trans hf4 fun x hx => ?_⟩
   ·rcases hS3 x hx with q | q
    ·exact hS1 x q
    ·exact .inr (by omega)
   ·rcases hS1 x hx with q | q
    ·exact .inl (List.mem_cons_of_mem _ (List.mem_cons_of_mem _ q))
    ·exact .inr q
   ·simp only [List.mem_cons, List.not_mem_nil, or_false] at hx
    rcases hx with rfl | rfl
    ·exact .inl (List.mem_cons_self ..)
    ·exact .inl (List.mem_cons_of_mem _ (List.mem_cons_self ..))
 ·have d1 : decide ((i : Int) < (out.length : Int)) = false := decide_eq_false (by omega)
  rw [List.take_of_length_le (by omega)] at h1 hT1
  simp (maxSteps:=9^7)(disch:=first|assumption|(simp only[dz];first|done|assumption|omega)|omega|apply_rules[Fr.refl,Fr.alloc,Fr.drew]|rfl) only [↓gd,gp,Nat.reduceAdd,Nat.reduceEqDiff, ↓hk20, r2, r53, r54, eS, d1]
  exact hK _ w1 S h1 hT1 hS1 hF1 r2 r5 r7
end Go.Proofs.YtomlgkecckffeaaGreat
