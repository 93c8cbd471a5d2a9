/- StoreClones: the first loop; what was handed in is written over. -/
import Derived.Test.YtenokheiindfkaaU1
import Derived.Test.YtenokheiindfkaaB6
import Derived.Test.YtenokheiindfkaaS7
set_option linter.unusedVariables false
set_option linter.unusedSimpArgs false
set_option maxRecDepth 10000
namespace Go.Proofs.Ytenokheiindfkaa
open Go.VW
theorem cut_high {t e : TypeId} {k : Nat} (hu : ∀ w, (underlying t).run Try.prog w = .ok (.slice e) w) (hs : ∀ w, (sizeOf e).run Try.prog w = .ok k w) (a : Addr) (n c h : Nat) (hh : h ≤ c) (hc : 0 < c) (ha : a.add 0 = a) (w : World) :
    (Instr.sliceAt t (.slice (some a) n c) none (some (.int .i64 (h : Int))) none).run Try.prog w = .ok (.slice (some a) h c) w := by
  have h0 : ¬ c = 0 := by omega
  simp [Instr.sliceAt, Sem.run_bind, hu, Instr.slice, Instr.sliceBounds, Instr.sliceBound, asIntOf, hh, hs, h0, ha]
theorem own_lastN {α : Type} {k : Nat} {e : TypeId} {enc : α → List Value} (hk : ∀ x, (enc x).length = k) {w : World} {v : Value} {xs : List α} {x : α} (h : Own k e w v (xs.length + 1) (cellsOf enc (xs ++ [x]))) : ∃ g cap, v = .slice (some ⟨g, 0, none⟩) (xs.length + 1) cap ∧ xs.length + 1 ≤ cap ∧ SlOf k enc w (.slice (some ⟨g, 0, none⟩) xs.length cap) xs := by
  rcases h.2 with ⟨_, h0⟩ | ⟨g, cap, cur', rfl, hb0, hgx, hnc, hcm, hcs, htk⟩
  · omega
  · refine ⟨g, cap, rfl, hnc, cellsOf_length hk xs, .inr ⟨g, 0, cap, cur', e, (0, 0), rfl, hgx, ?_⟩⟩
    rw [List.drop_zero]
    have hl := cellsOf_length hk xs
    have h2 : (cur'.toList.take ((xs.length + 1) * k)).take (xs.length * k) = cellsOf enc xs := by
      rw [htk, cellsOf_append, List.take_append_of_le_length (by omega), List.take_of_length_le (by omega)]
    rw [List.take_take, Nat.add_mul, Nat.min_eq_left (by omega)] at h2
    exact h2
abbrev wSpare : Wr := ⟨⟨#[115, 112, 97, 114, 101]⟩, true, ⟨#[114, 111, 111, 109]⟩⟩
abbrev wOver : Wr := ⟨⟨#[111, 118, 101, 114]⟩, true, ⟨#[119, 114, 105, 116, 116, 101, 110]⟩⟩
theorem sl_lit1 {w : World} (x : Wr) : SlOf 3 encWr (w.alloc (.cells (encWr x).toArray 44 (0, 0))) (.slice (some ⟨w.heap.size, 0, none⟩) 1 1) [x] :=
  ⟨rfl, .inr ⟨w.heap.size, 0, 1, _, 44, (0, 0), rfl, get_alloc_new _ _, rfl⟩⟩
set_option maxHeartbeats 32000000 in
theorem clonesA {w0 w : World} {b bm rb : Nat} {sa sb : Value} {ops : List Op5} {e : Env} {Q : Exit → Env → World → Prop} (hB : Both5 w0 w b bm rb []) (h : SlOf 4 encOp5 w0 sa ops) (ho : ∀ o ∈ ops, ∃ ws, o.ok w0 ws ∧ ws.length ≤ 1048576) (hl : ops.length ≤ 1048576)
    (e1 : e 1 = sa) (e2 : e 2 = sb) (e7 : e 7 = .pointer (some ⟨b, 0, none⟩)) (e8 : e 8 = .pointer (some ⟨rb, 0, none⟩))
    (hQ : ∀ (e' : Env) (w' : World) (own : List (List Wr)), e' 2 = sb → e' 7 = .pointer (some ⟨b, 0, none⟩) → e' 8 = .pointer (some ⟨rb, 0, none⟩) → own.length ≤ ops.length → Both5 w0 w' b bm rb own → Q .normal e' w') : W3 Try.prog 216 V13 c13_60 Q e w := by
  have cw := cur w
  obtain ⟨oa, oc, hsa⟩ := h.form
  simp (maxSteps := 4000000) (disch := (first | assumption | exact List.not_mem_nil | exact Fr.refl _ _ | ((repeat (first | assumption | apply cur_alloc | apply cur_setB | apply cur_drew | apply cur_drewN)); done) | omega | (simp only [gz, Value.cells, oneC]; first | done | omega) | ((simp only [List.mem_cons, List.not_mem_nil, or_false, gz]); omega) | rfl)) only [↓gsd, gs, ev, Nat.reduceAdd, Nat.reduceEqDiff, oneC, Value.cells, Option.isNone, gt, ↓hk13, e1, e2, e7, e8]
  refine loop_intro (fun e w' => ∃ (i : Nat) (own : List (List Wr)), i ≤ ops.length ∧ e 1 = sa ∧ e 2 = sb ∧ e 7 = .pointer (some ⟨b, 0, none⟩) ∧ e 8 = .pointer (some ⟨rb, 0, none⟩) ∧ e 9 = .int .i64 i ∧ own.length ≤ i ∧ Both5 w0 w' b bm rb own) (fun e _ => ops.length - (numOf (e 9)).toNat) ?_ ?_
  · refine ⟨0, [], Nat.zero_le _, ?_⟩
    simp (maxSteps := 4000000) (disch := (first | assumption | exact List.not_mem_nil | exact Fr.refl _ _ | ((repeat (first | assumption | apply cur_alloc | apply cur_setB | apply cur_drew | apply cur_drewN)); done) | omega | (simp only [gz, Value.cells, oneC]; first | done | omega) | ((simp only [List.mem_cons, List.not_mem_nil, or_false, gz]); omega) | rfl)) only [↓gsd, gs, ev, Nat.reduceAdd, Nat.reduceEqDiff, oneC, Value.cells, Option.isNone, e1, e2, e7, e8, Int.natCast_zero]
    exact ⟨Nat.le_refl _, hB⟩
  rintro e w4 k ⟨i, own, hi, e1, e2, e7, e8, e9, hLi, hB⟩ hk
  have cw4 := cur w4
  by_cases hil : i < ops.length
  case neg =>
    have d : decide ((i : Int) < (ops.length : Int)) = false := decide_eq_false (by omega)
    simp (maxSteps := 4000000) (disch := (first | assumption | exact List.not_mem_nil | exact Fr.refl _ _ | ((repeat (first | assumption | apply cur_alloc | apply cur_setB | apply cur_drew | apply cur_drewN)); done) | omega | (simp only [gz, Value.cells, oneC]; first | done | omega) | ((simp only [List.mem_cons, List.not_mem_nil, or_false, gz]); omega) | rfl)) only [↓gsd, gs, ev, Nat.reduceAdd, Nat.reduceEqDiff, oneC, Value.cells, Option.isNone, gt, ↓hk13, e1, e2, e7, e8, e9, hsa, d]
    exact hQ _ _ own (by simp (maxSteps := 4000000) (disch := (first | assumption | exact List.not_mem_nil | exact Fr.refl _ _ | ((repeat (first | assumption | apply cur_alloc | apply cur_setB | apply cur_drew | apply cur_drewN)); done) | omega | (simp only [gz, Value.cells, oneC]; first | done | omega) | ((simp only [List.mem_cons, List.not_mem_nil, or_false, gz]); omega) | rfl)) only [↓gsd, gs, ev, Nat.reduceAdd, Nat.reduceEqDiff, oneC, Value.cells, Option.isNone, e2]) (by simp (maxSteps := 4000000) (disch := (first | assumption | exact List.not_mem_nil | exact Fr.refl _ _ | ((repeat (first | assumption | apply cur_alloc | apply cur_setB | apply cur_drew | apply cur_drewN)); done) | omega | (simp only [gz, Value.cells, oneC]; first | done | omega) | ((simp only [List.mem_cons, List.not_mem_nil, or_false, gz]); omega) | rfl)) only [↓gsd, gs, ev, Nat.reduceAdd, Nat.reduceEqDiff, oneC, Value.cells, Option.isNone, e7]) (by simp (maxSteps := 4000000) (disch := (first | assumption | exact List.not_mem_nil | exact Fr.refl _ _ | ((repeat (first | assumption | apply cur_alloc | apply cur_setB | apply cur_drew | apply cur_drewN)); done) | omega | (simp only [gz, Value.cells, oneC]; first | done | omega) | ((simp only [List.mem_cons, List.not_mem_nil, or_false, gz]); omega) | rfl)) only [↓gsd, gs, ev, Nat.reduceAdd, Nat.reduceEqDiff, oneC, Value.cells, Option.isNone, e8]) (by omega) hB
  have d : decide ((i : Int) < (ops.length : Int)) = true := decide_eq_true (by omega)
  obtain ⟨o, hoi⟩ : ∃ o, ops[i]? = some o := ⟨ops[i], List.getElem?_eq_getElem hil⟩
  obtain ⟨ws, hok, hws⟩ := ho o (List.mem_of_getElem? hoi)
  have i0 : (0 : Int) ≤ (i : Int) := by omega
  have i1 : (i : Int) < (ops.length : Int) := by omega
  have i3 : ((i : Int) + 1).toNat = i + 1 := by omega
  obtain ⟨ka, kc, hkv⟩ := hok.sl.form
  obtain ⟨⟨st, v, h1, hwf, hx, h2, hv0⟩, hb0, hbm0, hrb0, hfr⟩ := id hB
  have hz0 := hfr.size
  obtain ⟨p1, p2, p3, p4⟩ := apart5 h1 h2
  have hl1 := h1.lt
  have hl2 := h2.lt
  have hm1 := hwf.m1
  have hm2 := hwf.m2
  have hpl := past_len8 own hx.chk
  -- what is read of the script, in every later world
  have hread : ∀ w', Fr [] w0 w' → ∃ bb off cap ob, sa = .slice (some ⟨bb, off, none⟩) ops.length cap ∧ w'.heap[bb]? = some ob ∧ bb < w'.heap.size ∧ ∀ orig K, ldV orig (some ob) (off + i * 4 + 1) K = K (.slice ka ws.length kc) := fun w' hf' => by
    obtain ⟨bb, off, cap, ob, hv1, hob, hlt, _, hc⟩ := (h.frN hf').read encOp5_len i o hoi
    exact ⟨bb, off, cap, ob, hv1, hob, hlt, fun orig K => hc 1 _ orig K (by rw [← hkv]; rfl)⟩
  obtain ⟨bb, off, cap, ob, hv1, hob4, hbb4, hkey⟩ := hread w4 hfr
  have hkeep : ∀ w', Fr [] w0 w' → w'.heap[bb]? = some ob ∧ bb < w'.heap.size := fun w' hf' => by
    have hb0 : bb < w0.heap.size := by
      obtain ⟨bb', off', cap', hv', hlt'⟩ := Sl.lt h (by omega)
      rw [hv1] at hv'
      simp only [Value.slice.injEq, Option.some.injEq, Addr.mk.injEq] at hv'
      rw [hv'.1.1]; exact hlt'
    have e1 := hf'.keepN bb hb0
    have e2 := hfr.keepN bb hb0
    rw [e1, ← e2]
    exact ⟨hob4, Nat.lt_of_lt_of_le hb0 hf'.size⟩
  have hsk := hok.sl
  rw [hkv] at hsk
  -- the list of one's own
  have hz : Own 3 44 (w4.alloc (.cells #[] 44)) (.slice (some ⟨w4.heap.size, 0, none⟩) 0 0) 0 [] := Own.new0 w4
  have hfA : Fr [] w4 (w4.alloc (.cells #[] 44)) := (Fr.refl _ _).alloc _
  obtain ⟨v5, w5, hr5, hown5, hf5, hbk5⟩ := ap40 (ty := 40) hz ((hsk.frN hfr).frN hfA) (cells_oneC (enc := encWr) (fun _ => rfl) ws) (by omega)
  have cw5 := cur w5
  have hz5 := hf5.size
  rw [size_alloc] at hz5
  have hf45 : Fr [] w4 w5 := hfA.trans hf5 fun x hx => by have := mem_blkL.1 hx; simp only [Value.ownBlock, Option.some.injEq] at this; exact .inr (by omega)
  have hb5 : ∀ b, v5.ownBlock = some b → w4.heap.size ≤ b := fun b hb => by
    rcases hbk5 with h | ⟨b', h, h'⟩
    · rw [h] at hb; simp only [Value.ownBlock, Option.some.injEq] at hb; omega
    · rw [h] at hb; cases hb; rw [size_alloc] at h'; omega
  simp only [List.nil_append, Nat.zero_add] at hown5
  simp (maxSteps := 4000000) (disch := (first | assumption | exact List.not_mem_nil | exact Fr.refl _ _ | ((repeat (first | assumption | apply cur_alloc | apply cur_setB | apply cur_drew | apply cur_drewN)); done) | omega | (simp only [gz, Value.cells, oneC]; first | done | omega) | ((simp only [List.mem_cons, List.not_mem_nil, or_false, gz]); omega) | rfl)) only [↓gsd, gs, ev, Nat.reduceAdd, Nat.reduceEqDiff, oneC, Value.cells, Option.isNone, gt, ↓hk13, e1, e2, e7, e8, e9, hv1, d, i0, i1, Int.toNat_natCast, hob4, hkey, hr5]
  refine put_spec fun w5' hf5' => ?_
  have cw5' := cur w5'
  have hz5' := hf5'.size
  unfold encWr
  simp (maxSteps := 4000000) (disch := (first | assumption | exact List.not_mem_nil | exact Fr.refl _ _ | ((repeat (first | assumption | apply cur_alloc | apply cur_setB | apply cur_drew | apply cur_drewN)); done) | omega | (simp only [gz, Value.cells, oneC]; first | done | omega) | ((simp only [List.mem_cons, List.not_mem_nil, or_false, gz]); omega) | rfl)) only [↓gsd, gs, ev, Nat.reduceAdd, Nat.reduceEqDiff, oneC, Value.cells, Option.isNone, gt, ↓hk13, e1, e2, e7, e8, e9]
  generalize hW : World.alloc w5' _ = w6
  have hf6 : Fr [] w5 w6 := by rw [← hW]; exact hf5'.alloc _
  have hz6 : w6.heap.size = w5'.heap.size + 1 := by rw [← hW]; simp only [gz]
  have hsl6 : SlOf 3 encWr w6 (.slice (some ⟨w5'.heap.size, 0, none⟩) 1 1) [wSpare] := by rw [← hW]; exact sl_lit1 (w := w5') wSpare
  clear hW
  have cw6 := cur w6
  obtain ⟨v7, w7, hr7, hown7, hf7, hbk7⟩ := ap40 (ty := 40) (Go.Proofs.Ytenokheiindfkaa.Own.frN hown5 hf6) hsl6 (cells_oneC (enc := encWr) (fun _ => rfl) [wSpare]) (by simp; omega)
  have cw7 := cur w7
  have hz7 := hf7.size
  have hf47 : Fr [] w4 w7 := (hf45.trans' hf6).trans hf7 fun x hx => .inr (hb5 x (mem_blkL.1 hx))
  have hb7 : ∀ b, v7.ownBlock = some b → w4.heap.size ≤ b := fun b hb => by
    rcases hbk7 with h | ⟨b', h, h'⟩
    · exact hb5 b (h ▸ hb)
    · rw [h] at hb; cases hb; omega
  rw [← cellsOf_append] at hown7
  simp only [List.length_cons, List.length_nil, Nat.zero_add] at hown7
  obtain ⟨g, cap7, hv7, hcap7, hsl7⟩ := own_lastN encWr_len hown7
  have hg4 : w4.heap.size ≤ g := hb7 g (by rw [hv7]; rfl)
  have hg7 : g < w7.heap.size := hown7.lt (by rw [hv7]; rfl)
  have hF7 : Fr [] w0 w7 := hfr.trans' hf47
  obtain ⟨hob7, hbb7⟩ := hkeep w7 hF7
  have hcut := cut_high Try.runUnderlying40 Try.sizeOf44 ⟨g, 0, none⟩ (ws.length + 1) cap7 ws.length (by omega) (by omega) rfl
  rw [hv7] at hr7
  simp (maxSteps := 4000000) (disch := (first | assumption | exact List.not_mem_nil | exact Fr.refl _ _ | ((repeat (first | assumption | apply cur_alloc | apply cur_setB | apply cur_drew | apply cur_drewN)); done) | omega | (simp only [gz, Value.cells, oneC]; first | done | omega) | ((simp only [List.mem_cons, List.not_mem_nil, or_false, gz]); omega) | rfl)) only [↓gsd, gs, ev, Nat.reduceAdd, Nat.reduceEqDiff, oneC, Value.cells, Option.isNone, gt, ↓hk13, e1, e2, e7, e8, e9, hv1, d, i0, i1, Int.toNat_natCast, hr7, hob7, hkey, hcut]
  have hz47 := hf47.size
  refine commit_spec (h1.frN hf47) hwf (fun w' hf' => hsl7.fr hf' fun x hx => by simp at hx; intro a n c hs; cases hs; simp; rcases hx with rfl | rfl <;> omega) fun w8 hf8 h1' => ?_
  have cw8 := cur w8
  have hz8 := hf8.size
  have hF8 : Fr [] w0 w8 := hF7.trans hf8 fun x hx => by simp at hx; rcases hx with rfl | rfl; exact .inr hb0; exact .inr hbm0
  obtain ⟨hob8, hbb8⟩ := hkeep w8 hF8
  have hown8 : Own 3 44 w8 v7 (ws.length + 1) (cellsOf encWr (ws ++ [wSpare])) := hown7.fr hf8 fun x hx e => by rw [hv7] at e; simp only [Value.ownBlock, Option.some.injEq] at e; subst e; simp at hx; rcases hx with h | h <;> omega
  simp (maxSteps := 4000000) (disch := (first | assumption | exact List.not_mem_nil | exact Fr.refl _ _ | ((repeat (first | assumption | apply cur_alloc | apply cur_setB | apply cur_drew | apply cur_drewN)); done) | omega | (simp only [gz, Value.cells, oneC]; first | done | omega) | ((simp only [List.mem_cons, List.not_mem_nil, or_false, gz]); omega) | rfl)) only [↓gsd, gs, ev, Nat.reduceAdd, Nat.reduceEqDiff, oneC, Value.cells, Option.isNone, gt, ↓hk13, e1, e2, e7, e8, e9, hv1, i0, i1, Int.toNat_natCast, hob8, hkey]
  have h2' : R5At w8 rb v st.most own := (h2.frN hf47).fr hf8 (by simp; exact ⟨p1, p2⟩) (fun g hg => by simp; exact ⟨fun e => p3 (e ▸ hg), fun e => p4 (e ▸ hg)⟩)
  refine r5commit h2' (fun w' hf' => hsk.frN (hF8.trans hf' fun x hx => by
    rcases List.mem_cons.1 hx with rfl | hx
    · exact .inr hrb0
    · exact .inr (hv0 x (mem_blkL.1 hx)))) (by omega) (by omega) (by omega) fun v' w9 h2'' hv' hf9 => ?_
  have cw9 := cur w9
  have hz9 := hf9.size
  have hgR : g ∉ rb :: blkL v := fun hm => by
    rcases List.mem_cons.1 hm with e | hm
    · omega
    · have := hl2.2 g (mem_blkL.1 hm); omega
  have hown9 : Own 3 44 w9 v7 (ws.length + 1) (cellsOf encWr (ws ++ [wSpare])) := hown8.fr hf9 fun x hx e => by rw [hv7] at e; simp only [Value.ownBlock, Option.some.injEq] at e; subst e; exact hgR hx
  have h1'' : StoreAt w9 b bm (st.commit ws).2 := h1'.fr hf9 (by
    intro hm
    rcases List.mem_cons.1 hm with e | hm
    · exact p1 e.symm
    · exact p3 (mem_blkL.1 hm)) (by
    intro hm
    rcases List.mem_cons.1 hm with e | hm
    · exact p2 e.symm
    · exact p4 (mem_blkL.1 hm)) (fun x hx cs fr hc => by
    rcases List.mem_cons.1 hx with rfl | hx
    · rw [h2'.head] at hc
      simp only [Option.some.injEq, Obj.cells.injEq] at hc
      have := hc.2.1
      revert this; decide
    · exact own_blk h2'.own (by decide) x hx cs fr hc)
  have hwf' := hwf.commit ws
  have hF9 : Fr [] w0 w9 := hF8.trans hf9 fun x hx => by
    rcases List.mem_cons.1 hx with rfl | hx
    · exact .inr hrb0
    · exact .inr (hv0 x (mem_blkL.1 hx))
  have hv0' : ∀ g, v'.ownBlock = some g → w0.heap.size ≤ g := fun g hg => by
    rcases hv' g hg with q | q
    · exact hv0 g q
    · omega
  have hlast := hx.last
  -- the answers are the same
  obtain ⟨own', hB9, hlen', an, ae, hA, hA'⟩ : ∃ own', Both5 w0 w9 b bm rb own' ∧ own'.length ≤ own.length + 1 ∧ ∃ an ae, (st.commit ws).1 = (an, ae) ∧ (rcommit own ws).1 = (an, ae) := by
    by_cases hc : chk ws = 0
    · have hl40 : ¬ 1099511627776 ≤ st.last := by rw [hlast]; omega
      have ec : st.commit ws = ((st.last + 1, 0), ⟨ws.foldl (put st.most (st.last + 1)) st.rows, st.most, st.last + 1⟩) := by simp only [St.commit, hc, ne_eq, not_true_eq_false, if_false, hl40]
      have er : rcommit own ws = (((own.length : Int) + 1, 0), own ++ [ws]) := by unfold rcommit; rw [if_neg (by simp [hc])]
      have hx' := hx.commit hm1 hc (by omega)
      rw [ec] at h1'' hwf' hx' ⊢
      rw [er] at h2'' ⊢
      exact ⟨own ++ [ws], ⟨⟨_, v', h1'', hwf', hx', h2'', hv0'⟩, hb0, hbm0, hrb0, hF9⟩, by simp, (own.length : Int) + 1, 0, by rw [hlast], rfl⟩
    · have ec : st.commit ws = ((0, chk ws), st) := by simp [St.commit, hc]
      have er : rcommit own ws = ((0, chk ws), own) := by unfold rcommit; rw [if_pos hc]
      rw [ec] at h1'' hwf' ⊢
      rw [er] at h2'' ⊢
      exact ⟨own, ⟨⟨_, v', h1'', hwf', hx, h2'', hv0'⟩, hb0, hbm0, hrb0, hF9⟩, by omega, 0, chk ws, rfl, rfl⟩
  have hgB : ∀ w', Fr [g] w9 w' → Both5 w0 w' b bm rb own' := fun w' hf' => by
    obtain ⟨⟨st', v'', k1, k2, k3, k4, k5⟩, _⟩ := hB9
    have q1 := k1.lt
    have q4 := k4.lt
    have hgb : g ≠ b := by omega
    have hgm : g ≠ bm := by omega
    have hgr : g ≠ rb := by omega
    obtain ⟨gx, cp, cur', hgx⟩ : ∃ (gx : Unit) (cp : Nat) (cur' : Array Value), w9.heap[g]? = some (.cells cur' 44 (0, 0)) := by
      rcases hown9.2 with ⟨_, q⟩ | ⟨g', cap', cur', hvx, _, hgx, _⟩
      · omega
      · rw [hv7] at hvx
        simp only [Value.slice.injEq, Option.some.injEq, Addr.mk.injEq] at hvx
        rw [← hvx.1.1] at hgx
        exact ⟨(), 0, cur', hgx⟩
    refine ⟨⟨st', v'', k1.fr hf' (by simp; exact fun e => hgb e.symm) (by simp; exact fun e => hgm e.symm) (fun x hx cs fr hc => ?_), k2, k3, k4.fr hf' (by simp; exact fun e => hgr e.symm) (fun y hy e => ?_), k5⟩, hb0, hbm0, hrb0, hF9.trans hf' fun x hx => by simp at hx; subst hx; exact .inr (by omega)⟩
    · simp at hx; subst hx
      rw [hgx] at hc
      simp only [Option.some.injEq, Obj.cells.injEq] at hc
      have := hc.2.1
      revert this; decide
    · simp at e; subst e
      exact own_head k4.own hgx (by decide) hy
  rw [hA, hA']
  obtain ⟨hob9, hbb9⟩ := hkeep w9 hF9
  obtain ⟨b9, off9, cap9, o9, hv9, ho9, hlt9, _, hc9⟩ := (show SlOf 3 encWr w9 v7 (ws ++ [wSpare]) from by have := hown9.sl; unfold SlOf; simpa using this).read encWr_len ws.length wSpare (List.getElem?_concat_length ..)
  have hc9' := fun orig K => hc9 0 (.string wSpare.key) orig K rfl
  simp only [Nat.add_zero] at hc9'
  have hv9' := hv9
  rw [hv7] at hv9'
  simp only [Value.slice.injEq, Option.some.injEq, Addr.mk.injEq] at hv9'
  obtain ⟨⟨rfl, rfl, _⟩, _, rfl⟩ := hv9'
  simp only [Nat.zero_add] at hc9'
  have n0 : (0 : Int) ≤ (ws.length : Int) := by omega
  have n1 : (ws.length : Int) < ((ws.length + 1 : Nat) : Int) := by omega
  have d1 : decide (an = an) = true := decide_eq_true rfl
  have d2 : decide (ae = ae) = true := decide_eq_true rfl
  have dS : decide (wSpare.key = wSpare.key) = true := decide_eq_true rfl
  simp (maxSteps := 4000000) (disch := (first | assumption | exact List.not_mem_nil | exact Fr.refl _ _ | ((repeat (first | assumption | apply cur_alloc | apply cur_setB | apply cur_drew | apply cur_drewN)); done) | omega | (simp only [gz, Value.cells, oneC]; first | done | omega) | ((simp only [List.mem_cons, List.not_mem_nil, or_false, gz]); omega) | rfl)) only [↓gsd, gs, ev, Nat.reduceAdd, Nat.reduceEqDiff, oneC, Value.cells, Option.isNone, gt, ↓hk13, e1, e2, e7, e8, e9, hv1, i0, i1, Int.toNat_natCast, hob9, hkey, d1, d2, n0, n1, ho9, hc9', dS]
  refine loop_intro (fun e w' => ∃ (j : Nat) (ws' : List Wr), j ≤ ws.length + 1 ∧ e 1 = sa ∧ e 2 = sb ∧ e 7 = .pointer (some ⟨b, 0, none⟩) ∧ e 8 = .pointer (some ⟨rb, 0, none⟩) ∧ e 9 = .int .i64 i ∧ e 10 = .slice (some ⟨g, 0, none⟩) (ws.length + 1) cap7 ∧ e 15 = .int .i64 j ∧
      ws'.length = ws.length + 1 ∧ Own 3 44 w' (.slice (some ⟨g, 0, none⟩) (ws.length + 1) cap7) (ws.length + 1) (cellsOf encWr ws') ∧ Fr [g] w9 w') (fun e _ => ws.length + 1 - (numOf (e 15)).toNat) ?_ ?_
  · refine ⟨0, ws ++ [wSpare], Nat.zero_le _, ?_⟩
    simp (maxSteps := 4000000) (disch := (first | assumption | exact List.not_mem_nil | exact Fr.refl _ _ | ((repeat (first | assumption | apply cur_alloc | apply cur_setB | apply cur_drew | apply cur_drewN)); done) | omega | (simp only [gz, Value.cells, oneC]; first | done | omega) | ((simp only [List.mem_cons, List.not_mem_nil, or_false, gz]); omega) | rfl)) only [↓gsd, gs, ev, Nat.reduceAdd, Nat.reduceEqDiff, oneC, Value.cells, Option.isNone, e1, e2, e7, e8, e9, hv1, Int.natCast_zero]
    exact ⟨by simp, by rw [hv7] at hown9; exact hown9, Fr.refl _ _⟩
  have E9 := e9
  rintro e wa k' ⟨j, ws', hj, e1, e2, e7, e8, e9, e10, e15, hws', hownj, hfa⟩ hk'
  have cwa := cur wa
  have hza := hfa.size
  by_cases hjl : j < ws.length + 1
  · have dj : decide ((j : Int) < ((ws.length + 1 : Nat) : Int)) = true := decide_eq_true (by omega)
    have j0 : (0 : Int) ≤ (j : Int) := by omega
    have j1 : (j : Int) < ((ws.length + 1 : Nat) : Int) := by omega
    have j3 : ((j : Int) + 1).toNat = j + 1 := by omega
    simp (maxSteps := 4000000) (disch := (first | assumption | exact List.not_mem_nil | exact Fr.refl _ _ | ((repeat (first | assumption | apply cur_alloc | apply cur_setB | apply cur_drew | apply cur_drewN)); done) | omega | (simp only [gz, Value.cells, oneC]; first | done | omega) | ((simp only [List.mem_cons, List.not_mem_nil, or_false, gz]); omega) | rfl)) only [↓gsd, gs, ev, Nat.reduceAdd, Nat.reduceEqDiff, oneC, Value.cells, Option.isNone, gt, ↓hk13, e1, e2, e7, e8, e9, e10, e15, dj]
    refine put_spec fun wb hfb => ?_
    have cwb := cur wb
    have hzb := hfb.size
    have hownj' := Go.Proofs.Ytenokheiindfkaa.Own.frN hownj hfb
    obtain ⟨oo, oo', ho, hlto, hst, hown'⟩ := own_storeN encWr_len (fun _ => rfl) hownj' hws' hjl wOver
    have hst' := fun orig K => hst orig K
    unfold encWr at hst'
    unfold encWr
    simp (maxSteps := 4000000) (disch := (first | assumption | exact List.not_mem_nil | exact Fr.refl _ _ | ((repeat (first | assumption | apply cur_alloc | apply cur_setB | apply cur_drew | apply cur_drewN)); done) | omega | (simp only [gz, Value.cells, oneC]; first | done | omega) | ((simp only [List.mem_cons, List.not_mem_nil, or_false, gz]); omega) | rfl)) only [↓gsd, gs, ev, Nat.reduceAdd, Nat.reduceEqDiff, oneC, Value.cells, Option.isNone, gt, ↓hk13, e1, e2, e7, e8, e9, e10, e15, j0, j1, Int.toNat_natCast, ho, hst']
    refine hk' _ _ ⟨j + 1, ws'.set j wOver, by omega, ?_⟩ ?_
    · simp (maxSteps := 4000000) (disch := (first | assumption | exact List.not_mem_nil | exact Fr.refl _ _ | ((repeat (first | assumption | apply cur_alloc | apply cur_setB | apply cur_drew | apply cur_drewN)); done) | omega | (simp only [gz, Value.cells, oneC]; first | done | omega) | ((simp only [List.mem_cons, List.not_mem_nil, or_false, gz]); omega) | rfl)) only [↓gsd, gs, ev, Nat.reduceAdd, Nat.reduceEqDiff, oneC, Value.cells, Option.isNone, e1, e2, e7, e8, e9, e10, e15, Int.natCast_add j 1, Int.natCast_one]
      exact ⟨by simp [hws'], hown', (hfa.trans' hfb).setB _ _ (.inl (by simp))⟩
    · simp (maxSteps := 4000000) (disch := (first | assumption | exact List.not_mem_nil | exact Fr.refl _ _ | ((repeat (first | assumption | apply cur_alloc | apply cur_setB | apply cur_drew | apply cur_drewN)); done) | omega | (simp only [gz, Value.cells, oneC]; first | done | omega) | ((simp only [List.mem_cons, List.not_mem_nil, or_false, gz]); omega) | rfl)) only [↓gsd, gs, ev, Nat.reduceAdd, Nat.reduceEqDiff, oneC, Value.cells, Option.isNone, e15, numOf, Int.toNat_natCast, j3]; omega
  · have dj : decide ((j : Int) < ((ws.length + 1 : Nat) : Int)) = false := decide_eq_false (by omega)
    simp (maxSteps := 4000000) (disch := (first | assumption | exact List.not_mem_nil | exact Fr.refl _ _ | ((repeat (first | assumption | apply cur_alloc | apply cur_setB | apply cur_drew | apply cur_drewN)); done) | omega | (simp only [gz, Value.cells, oneC]; first | done | omega) | ((simp only [List.mem_cons, List.not_mem_nil, or_false, gz]); omega) | rfl)) only [↓gsd, gs, ev, Nat.reduceAdd, Nat.reduceEqDiff, oneC, Value.cells, Option.isNone, gt, ↓hk13, e1, e2, e7, e8, e9, e10, e15, dj]
    refine hk _ _ ⟨i + 1, own', by omega, ?_⟩ ?_
    · simp (maxSteps := 4000000) (disch := (first | assumption | exact List.not_mem_nil | exact Fr.refl _ _ | ((repeat (first | assumption | apply cur_alloc | apply cur_setB | apply cur_drew | apply cur_drewN)); done) | omega | (simp only [gz, Value.cells, oneC]; first | done | omega) | ((simp only [List.mem_cons, List.not_mem_nil, or_false, gz]); omega) | rfl)) only [↓gsd, gs, ev, Nat.reduceAdd, Nat.reduceEqDiff, oneC, Value.cells, Option.isNone, e1, e2, e7, e8, e9, Int.natCast_add i 1, Int.natCast_one]
      exact ⟨by omega, hgB _ hfa⟩
    · simp (maxSteps := 4000000) (disch := (first | assumption | exact List.not_mem_nil | exact Fr.refl _ _ | ((repeat (first | assumption | apply cur_alloc | apply cur_setB | apply cur_drew | apply cur_drewN)); done) | omega | (simp only [gz, Value.cells, oneC]; first | done | omega) | ((simp only [List.mem_cons, List.not_mem_nil, or_false, gz]); omega) | rfl)) only [↓gsd, gs, ev, Nat.reduceAdd, Nat.reduceEqDiff, oneC, Value.cells, Option.isNone, e9, E9, numOf, Int.toNat_natCast, i3]; omega
end Go.Proofs.Ytenokheiindfkaa
