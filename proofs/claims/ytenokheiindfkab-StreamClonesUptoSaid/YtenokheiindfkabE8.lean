/- StreamClones: the first loop. -/
import Derived.Test.YtenokheiindfkabE7
set_option linter.unusedVariables false
set_option linter.unusedSimpArgs false
set_option maxRecDepth 10000
namespace Go.Proofs.Ytenokheiindfkab
open Go.VW
theorem own_last {w : World} {v : Value} {ks : Ks} {x : ByteArray} (h : Own 1 9 w v (ks.length + 1) (cellsOf encS (ks ++ [x]))) : ∃ g cap, v = .slice (some ⟨g, 0, none⟩) (ks.length + 1) cap ∧ ks.length + 1 ≤ cap ∧ SlOf 1 encS w (.slice (some ⟨g, 0, none⟩) ks.length cap) ks := by
  have hs := h.sl
  rcases h.2 with ⟨_, h0⟩ | ⟨g, cap, cur', rfl, hb0, hgx, hnc, hcm, hcs, htk⟩
  · omega
  · refine ⟨g, cap, rfl, hnc, cellsOf_length encS_len ks, .inr ⟨g, 0, cap, cur', 9, (0, 0), rfl, hgx, ?_⟩⟩
    have h1 : cur'.toList.take ((ks.length + 1) * 1) = cellsOf encS (ks ++ [x]) := by simpa using htk
    rw [List.drop_zero]
    have h2 : (cur'.toList.take ((ks.length + 1) * 1)).take (ks.length * 1) = cellsOf encS ks := by
      rw [h1, cellsOf_append]
      have hl := cellsOf_length encS_len ks
      rw [List.take_append_of_le_length (by omega), List.take_of_length_le (by omega)]
    rw [List.take_take] at h2
    rw [← h2]
    congr 1
    omega
theorem sep_app {s0 s s2 : Nat} {W1 R1 W2 R2 W1' R1' W2' R2' : List Nat} (lt1 : ∀ x, x ∈ W1 ∨ x ∈ R1 → x < s) (lt2 : ∀ x, x ∈ W2 ∨ x ∈ R2 → x < s) (lt1' : ∀ x, x ∈ W1' ∨ x ∈ R1' → x < s2) (h3 : ∀ x ∈ W1, s0 ≤ x ∧ x ∉ W2 ∧ x ∉ R2) (h4 : ∀ x ∈ W2, s0 ≤ x ∧ x ∉ R1)
    (hW1 : ∀ x ∈ W1', x ∈ W1 ∨ s ≤ x) (hR1 : ∀ x ∈ R1', x ∈ R1 ∨ s ≤ x) (hW2 : ∀ x ∈ W2', x ∈ W2 ∨ s2 ≤ x) (hR2 : ∀ x ∈ R2', x ∈ R2 ∨ s2 ≤ x) (h0 : s0 ≤ s) (h2 : s ≤ s2) :
    (∀ x ∈ W2, x ∉ W1' ∧ x ∉ R1') ∧ (∀ x ∈ W1', s0 ≤ x ∧ x ∉ W2' ∧ x ∉ R2') ∧ ∀ x ∈ W2', s0 ≤ x ∧ x ∉ R1' := by
  refine ⟨fun x hx => ⟨fun hm => ?_, fun hm => ?_⟩, fun x hx => ⟨?_, fun hm => ?_, fun hm => ?_⟩, fun x hx => ⟨?_, fun hm => ?_⟩⟩
  · rcases hW1 x hm with g | g
    · exact (h3 x g).2.1 hx
    · have := lt2 x (.inl hx); omega
  · rcases hR1 x hm with g | g
    · exact (h4 x hx).2 g
    · have := lt2 x (.inl hx); omega
  · rcases hW1 x hx with g | g
    · exact (h3 x g).1
    · omega
  · rcases hW2 x hm with g | g
    · rcases hW1 x hx with g' | g'
      · exact (h3 x g').2.1 g
      · have := lt2 x (.inl g); omega
    · have := lt1' x (.inl hx); omega
  · rcases hR2 x hm with g | g
    · rcases hW1 x hx with g' | g'
      · exact (h3 x g').2.2 g
      · have := lt2 x (.inr g); omega
    · have := lt1' x (.inl hx); omega
  · rcases hW2 x hx with g | g
    · exact (h4 x g).1
    · omega
  · rcases hR1 x hm with g | g
    · rcases hW2 x hx with g' | g'
      · exact (h4 x g').2 g
      · have := lt1 x (.inr g); omega
    · rcases hW2 x hx with g' | g'
      · have := lt2 x (.inl g'); omega
      · have := lt1' x (.inr hm); omega
set_option maxHeartbeats 32000000 in
theorem clonesA {w0 w : World} {lb rb : Nat} {sa sb : Value} {ops : List Op6} {e : Env} {Q : Exit → Env → World → Prop} (hB : Both w0 w lb rb []) (h : SlOf 5 encOp6 w0 sa ops) (ho : ∀ o ∈ ops, ∃ ks, o.ok w0 ks ∧ ks.length ≤ 1048576) (hl : ops.length ≤ 1048576)
    (e0 : e 0 = sa) (e1 : e 1 = sb) (e5 : e 5 = .pointer (some ⟨lb, 0, none⟩)) (e6 : e 6 = .pointer (some ⟨rb, 0, none⟩))
    (hQ : ∀ (e' : Env) (w' : World) (L : List Ks), e' 1 = sb → e' 5 = .pointer (some ⟨lb, 0, none⟩) → e' 6 = .pointer (some ⟨rb, 0, none⟩) → L.length ≤ ops.length → Both w0 w' lb rb L → Q .normal e' w') : W3 Try.prog 170 V6 c6_46 Q e w := by
  have cw := cur w
  obtain ⟨oa, oc, hsa⟩ := h.form
  simp (maxSteps := 4000000) (disch := (first | assumption | exact List.not_mem_nil | exact Fr.refl _ _ | ((repeat (first | assumption | apply cur_alloc | apply cur_setB | apply cur_drew | apply cur_drewN)); done) | omega | (simp only [gz, Value.cells, oneC]; first | done | omega) | ((simp only [List.mem_cons, List.not_mem_nil, or_false, gz]); omega) | rfl)) only [↓gsd, gs, ev, Nat.reduceAdd, Nat.reduceEqDiff, oneC, Value.cells, Option.isNone, gt, ↓hk6, e0, e1, e5, e6]
  refine loop_intro (fun e w' => ∃ (i : Nat) (L : List Ks), i ≤ ops.length ∧ e 0 = sa ∧ e 1 = sb ∧ e 5 = .pointer (some ⟨lb, 0, none⟩) ∧ e 6 = .pointer (some ⟨rb, 0, none⟩) ∧ e 7 = .int .i64 i ∧ L.length ≤ i ∧ Both w0 w' lb rb L) (fun e _ => ops.length - (numOf (e 7)).toNat) ?_ ?_
  · refine ⟨0, [], Nat.zero_le _, ?_⟩
    simp (maxSteps := 4000000) (disch := (first | assumption | exact List.not_mem_nil | exact Fr.refl _ _ | ((repeat (first | assumption | apply cur_alloc | apply cur_setB | apply cur_drew | apply cur_drewN)); done) | omega | (simp only [gz, Value.cells, oneC]; first | done | omega) | ((simp only [List.mem_cons, List.not_mem_nil, or_false, gz]); omega) | rfl)) only [↓gsd, gs, ev, Nat.reduceAdd, Nat.reduceEqDiff, oneC, Value.cells, Option.isNone, e0, e1, e5, e6, Int.natCast_zero]
    exact ⟨Nat.le_refl _, hB⟩
  rintro e w4 k ⟨i, L, hi, e0, e1, e5, e6, e7, hLi, hB⟩ hk
  have cw4 := cur w4
  by_cases hil : i < ops.length
  case neg =>
    have d : decide ((i : Int) < (ops.length : Int)) = false := decide_eq_false (by omega)
    simp (maxSteps := 4000000) (disch := (first | assumption | exact List.not_mem_nil | exact Fr.refl _ _ | ((repeat (first | assumption | apply cur_alloc | apply cur_setB | apply cur_drew | apply cur_drewN)); done) | omega | (simp only [gz, Value.cells, oneC]; first | done | omega) | ((simp only [List.mem_cons, List.not_mem_nil, or_false, gz]); omega) | rfl)) only [↓gsd, gs, ev, Nat.reduceAdd, Nat.reduceEqDiff, oneC, Value.cells, Option.isNone, gt, ↓hk6, e0, e1, e5, e6, e7, hsa, d]
    exact hQ _ _ L (by simp (maxSteps := 4000000) (disch := (first | assumption | exact List.not_mem_nil | exact Fr.refl _ _ | ((repeat (first | assumption | apply cur_alloc | apply cur_setB | apply cur_drew | apply cur_drewN)); done) | omega | (simp only [gz, Value.cells, oneC]; first | done | omega) | ((simp only [List.mem_cons, List.not_mem_nil, or_false, gz]); omega) | rfl)) only [↓gsd, gs, ev, Nat.reduceAdd, Nat.reduceEqDiff, oneC, Value.cells, Option.isNone, e1]) (by simp (maxSteps := 4000000) (disch := (first | assumption | exact List.not_mem_nil | exact Fr.refl _ _ | ((repeat (first | assumption | apply cur_alloc | apply cur_setB | apply cur_drew | apply cur_drewN)); done) | omega | (simp only [gz, Value.cells, oneC]; first | done | omega) | ((simp only [List.mem_cons, List.not_mem_nil, or_false, gz]); omega) | rfl)) only [↓gsd, gs, ev, Nat.reduceAdd, Nat.reduceEqDiff, oneC, Value.cells, Option.isNone, e5]) (by simp (maxSteps := 4000000) (disch := (first | assumption | exact List.not_mem_nil | exact Fr.refl _ _ | ((repeat (first | assumption | apply cur_alloc | apply cur_setB | apply cur_drew | apply cur_drewN)); done) | omega | (simp only [gz, Value.cells, oneC]; first | done | omega) | ((simp only [List.mem_cons, List.not_mem_nil, or_false, gz]); omega) | rfl)) only [↓gsd, gs, ev, Nat.reduceAdd, Nat.reduceEqDiff, oneC, Value.cells, Option.isNone, e6]) (by omega) hB
  have d : decide ((i : Int) < (ops.length : Int)) = true := decide_eq_true (by omega)
  obtain ⟨o, hoi⟩ : ∃ o, ops[i]? = some o := ⟨ops[i], List.getElem?_eq_getElem hil⟩
  obtain ⟨ks, hok, hks⟩ := ho o (List.mem_of_getElem? hoi)
  have i0 : (0 : Int) ≤ (i : Int) := by omega
  have i1 : (i : Int) < (ops.length : Int) := by omega
  have i3 : ((i : Int) + 1).toNat = i + 1 := by omega
  obtain ⟨ka, kc, hkv⟩ := hok.keys.form
  obtain ⟨⟨W1, R1, W2, R2, h1, h2, h3, h4⟩, hfr⟩ := hB
  have hz0 := hfr.size
  -- what is read of the script, in every later world
  have hread : ∀ w', Fr [] w0 w' → ∃ bb off cap ob, sa = .slice (some ⟨bb, off, none⟩) ops.length cap ∧ w'.heap[bb]? = some ob ∧ bb < w'.heap.size ∧ ∀ orig K, ldV orig (some ob) (off + i * 5 + 1) K = K (.slice ka ks.length kc) := fun w' hf' => by
    obtain ⟨bb, off, cap, ob, hv1, hob, hlt, _, hc⟩ := (h.frN hf').read encOp6_len i o hoi
    exact ⟨bb, off, cap, ob, hv1, hob, hlt, fun orig K => hc 1 _ orig K (by rw [← hkv]; rfl)⟩
  obtain ⟨bb, off, cap, ob, hv1, hob4, hbb4, hkey⟩ := hread w4 hfr
  have hkeep : ∀ w', Fr [] w0 w' → w'.heap[bb]? = some ob ∧ bb < w'.heap.size := fun w' hf' => by
    have hb0 : bb < w0.heap.size := by
      obtain ⟨bb', off', cap', hv', hlt'⟩ := Sl.lt h (by omega)
      rw [hv1] at hv'
      simp only [Value.slice.injEq, Option.some.injEq, Addr.mk.injEq] at hv'
      rw [hv'.1.1]; exact hlt'
    have e1 := hf'.keepN bb hb0
    have e2 := hfr.keepN bb hb0
    rw [e1, ← e2]
    exact ⟨hob4, Nat.lt_of_lt_of_le hb0 hf'.size⟩
  have hsk := hok.keys
  rw [hkv] at hsk
  -- the list of one's own
  have hz : Own 1 9 (w4.alloc (.cells #[] 9)) (.slice (some ⟨w4.heap.size, 0, none⟩) 0 0) 0 [] := Own.new0 w4
  have hfA : Fr [] w4 (w4.alloc (.cells #[] 9)) := (Fr.refl _ _).alloc _
  obtain ⟨v5, w5, hr5, hown5, hf5, hbk5⟩ := ap30 (ty := 30) hz ((hsk.frN hfr).frN hfA) (cells_oneC (enc := encS) (fun _ => rfl) ks) (by omega)
  have cw5 := cur w5
  have hz5 := hf5.size
  rw [size_alloc] at hz5
  have hf45 : Fr [] w4 w5 := hfA.trans hf5 fun x hx => by have := mem_blkL.1 hx; simp only [Value.ownBlock, Option.some.injEq] at this; exact .inr (by omega)
  have hb5 : ∀ b, v5.ownBlock = some b → w4.heap.size ≤ b := fun b hb => by
    rcases hbk5 with h | ⟨b', h, h'⟩
    · rw [h] at hb; simp only [Value.ownBlock, Option.some.injEq] at hb; omega
    · rw [h] at hb; cases hb; rw [size_alloc] at h'; omega
  simp only [List.nil_append, Nat.zero_add] at hown5
  simp (maxSteps := 4000000) (disch := (first | assumption | exact List.not_mem_nil | exact Fr.refl _ _ | ((repeat (first | assumption | apply cur_alloc | apply cur_setB | apply cur_drew | apply cur_drewN)); done) | omega | (simp only [gz, Value.cells, oneC]; first | done | omega) | ((simp only [List.mem_cons, List.not_mem_nil, or_false, gz]); omega) | rfl)) only [↓gsd, gs, ev, Nat.reduceAdd, Nat.reduceEqDiff, oneC, Value.cells, Option.isNone, gt, ↓hk6, e0, e1, e5, e6, e7, hv1, d, i0, i1, Int.toNat_natCast, hob4, hkey, hr5]
  generalize hW : World.alloc w5 _ = w6
  have hf6 : Fr [] w5 w6 := by rw [← hW]; (repeat (first | exact Fr.refl _ _ | assumption | with_reducible apply Fr.alloc | with_reducible apply Fr.drew | with_reducible refine Fr.setB ?_ _ _ (.inr (by first | omega | (simp only [gz]; omega))) | with_reducible refine Fr.setB ?_ _ _ (.inl (by first | assumption | simp)) | with_reducible refine Fr.trans' ?_ (by assumption)))
  have hz6 : w6.heap.size = w5.heap.size + 1 := by rw [← hW]; simp only [gz]
  have hsl6 : SlOf 1 encS w6 (.slice (some ⟨w5.heap.size, 0, none⟩) 1 1) [sSpare] := by rw [← hW]; exact sl_lit (w := w5) [sSpare]
  clear hW
  have cw6 := cur w6
  obtain ⟨v7, w7, hr7, hown7, hf7, hbk7⟩ := ap30 (ty := 30) (Go.Proofs.Ytenokheiindfkab.Own.frN hown5 hf6) hsl6 (cells_oneC (enc := encS) (fun _ => rfl) [sSpare]) (by simp; omega)
  have cw7 := cur w7
  have hz7 := hf7.size
  have hf47 : Fr [] w4 w7 := (hf45.trans' hf6).trans hf7 fun x hx => .inr (hb5 x (mem_blkL.1 hx))
  have hb7 : ∀ b, v7.ownBlock = some b → w4.heap.size ≤ b := fun b hb => by
    rcases hbk7 with h | ⟨b', h, h'⟩
    · exact hb5 b (h ▸ hb)
    · rw [h] at hb; cases hb; omega
  rw [← cellsOf_append] at hown7
  simp only [List.length_cons, List.length_nil, Nat.zero_add] at hown7
  obtain ⟨g, cap7, hv7, hcap7, hsl7⟩ := own_last hown7
  have hg4 : w4.heap.size ≤ g := hb7 g (by rw [hv7]; rfl)
  have hg7 : g < w7.heap.size := hown7.lt (by rw [hv7]; rfl)
  have hF7 : Fr [] w0 w7 := hfr.trans' hf47
  obtain ⟨hob7, hbb7⟩ := hkeep w7 hF7
  have hcut := cut_high Try.runUnderlying30 Try.sizeOf9 ⟨g, 0, none⟩ (ks.length + 1) cap7 ks.length (by omega) (by omega) rfl
  rw [hv7] at hr7
  simp (maxSteps := 4000000) (disch := (first | assumption | exact List.not_mem_nil | exact Fr.refl _ _ | ((repeat (first | assumption | apply cur_alloc | apply cur_setB | apply cur_drew | apply cur_drewN)); done) | omega | (simp only [gz, Value.cells, oneC]; first | done | omega) | ((simp only [List.mem_cons, List.not_mem_nil, or_false, gz]); omega) | rfl)) only [↓gsd, gs, ev, Nat.reduceAdd, Nat.reduceEqDiff, oneC, Value.cells, Option.isNone, gt, ↓hk6, e0, e1, e5, e6, e7, hv1, d, i0, i1, Int.toNat_natCast, hr7, hob7, hkey, hcut]
  refine append_log (h1.frN hf47) hsl7 (by omega) fun w8 W1' R1' h1' hf8 hW1 hR1 => ?_
  have cw8 := cur w8
  have hz8 := hf8.size
  have hz47 := hf47.size
  have hl1 := h1.lt
  have hl2 := h2.lt
  have hgW1 : g ∉ W1 := fun hm => by have := hl1 g (.inl hm); omega
  have hgW2 : g ∉ W2 := fun hm => by have := hl2 g (.inl hm); omega
  have hF8 : Fr [] w0 w8 := hF7.trans hf8 fun x hx => .inr (h3 x hx).1
  obtain ⟨hob8, hbb8⟩ := hkeep w8 hF8
  have hown8 : Own 1 9 w8 v7 (ks.length + 1) (cellsOf encS (ks ++ [sSpare])) := hown7.fr hf8 fun b hb e => by rw [hv7] at e; simp only [Value.ownBlock, Option.some.injEq] at e; subst e; exact hgW1 hb
  simp (maxSteps := 4000000) (disch := (first | assumption | exact List.not_mem_nil | exact Fr.refl _ _ | ((repeat (first | assumption | apply cur_alloc | apply cur_setB | apply cur_drew | apply cur_drewN)); done) | omega | (simp only [gz, Value.cells, oneC]; first | done | omega) | ((simp only [List.mem_cons, List.not_mem_nil, or_false, gz]); omega) | rfl)) only [↓gsd, gs, ev, Nat.reduceAdd, Nat.reduceEqDiff, oneC, Value.cells, Option.isNone, gt, ↓hk6, e0, e1, e5, e6, e7, hv1, i0, i1, Int.toNat_natCast, hob8, hkey]
  have hr7' := (h2.frN hf47).fr hf8 fun x hx => (h3 x hx).2
  refine rappend_log hr7' (hsk.frN hF8) (by omega) (by omega) fun w9 W2' R2' h2' hf9 hW2 hR2 => ?_
  have cw9 := cur w9
  have hz9 := hf9.size
  rw [rappL_eq (by omega)] at h2' ⊢
  obtain ⟨s1, s2, s3⟩ := sep_app (s0 := w0.heap.size) (s := w4.heap.size) (s2 := w8.heap.size) hl1 hl2 h1'.lt h3 h4 (fun x hx => (hW1 x hx).imp id fun h => by omega) (fun x hx => (hR1 x hx).imp id fun h => by omega) hW2 hR2 hz0 (by omega)
  have hF9 : Fr [] w0 w9 := hF8.trans hf9 fun x hx => .inr (h4 x hx).1
  obtain ⟨hob9, hbb9⟩ := hkeep w9 hF9
  have hown9 : Own 1 9 w9 v7 (ks.length + 1) (cellsOf encS (ks ++ [sSpare])) := hown8.fr hf9 fun b hb e => by rw [hv7] at e; simp only [Value.ownBlock, Option.some.injEq] at e; subst e; exact hgW2 hb
  have h1'' := h1'.fr hf9 s1
  have hg' : g ∉ W1' ∧ g ∉ R1' ∧ g ∉ W2' ∧ g ∉ R2' := by
    refine ⟨fun hm => ?_, fun hm => ?_, fun hm => ?_, fun hm => ?_⟩
    · rcases hW1 g hm with q | q
      · exact hgW1 q
      · omega
    · rcases hR1 g hm with q | q
      · have := hl1 g (.inr q); omega
      · omega
    · rcases hW2 g hm with q | q
      · exact hgW2 q
      · omega
    · rcases hR2 g hm with q | q
      · have := hl2 g (.inr q); omega
      · omega
  obtain ⟨b9, off9, cap9, o9, hv9, ho9, hlt9, _, hc9⟩ := (show SlOf 1 encS w9 v7 (ks ++ [sSpare]) from by have := hown9.sl; unfold SlOf; simpa using this).read encS_len ks.length sSpare (List.getElem?_concat_length ..)
  have hc9' := fun orig K => hc9 0 (.string sSpare) orig K rfl
  simp only [Nat.mul_one, Nat.add_zero] at hc9'
  have hv9' := hv9
  rw [hv7] at hv9'
  simp only [Value.slice.injEq, Option.some.injEq, Addr.mk.injEq] at hv9'
  obtain ⟨⟨rfl, rfl, _⟩, _, rfl⟩ := hv9'
  simp only [Nat.zero_add] at hc9'
  have n0 : (0 : Int) ≤ (ks.length : Int) := by omega
  have n1 : (ks.length : Int) < ((ks.length + 1 : Nat) : Int) := by omega
  have d1 : decide ((appL L ks).1.1 = (appL L ks).1.1) = true := decide_eq_true rfl
  have d2 : decide ((appL L ks).1.2 = (appL L ks).1.2) = true := decide_eq_true rfl
  have dS : decide (sSpare = sSpare) = true := decide_eq_true rfl
  have hlen : (appL L ks).2.length ≤ L.length + 1 := by
    rcases appL_cases L ks with ⟨_, q2, _⟩ | ⟨_, _, _, _, q5⟩
    · rw [q2]; omega
    · rw [q5]; simp
  simp (maxSteps := 4000000) (disch := (first | assumption | exact List.not_mem_nil | exact Fr.refl _ _ | ((repeat (first | assumption | apply cur_alloc | apply cur_setB | apply cur_drew | apply cur_drewN)); done) | omega | (simp only [gz, Value.cells, oneC]; first | done | omega) | ((simp only [List.mem_cons, List.not_mem_nil, or_false, gz]); omega) | rfl)) only [↓gsd, gs, ev, Nat.reduceAdd, Nat.reduceEqDiff, oneC, Value.cells, Option.isNone, gt, ↓hk6, e0, e1, e5, e6, e7, hv1, i0, i1, Int.toNat_natCast, hob9, hkey, d1, d2, n0, n1, Nat.mul_one, ho9, hc9', dS]
  refine loop_intro (fun e w' => ∃ (j : Nat) (ks' : Ks), j ≤ ks.length + 1 ∧ e 0 = sa ∧ e 1 = sb ∧ e 5 = .pointer (some ⟨lb, 0, none⟩) ∧ e 6 = .pointer (some ⟨rb, 0, none⟩) ∧ e 7 = .int .i64 i ∧ e 8 = .slice (some ⟨g, 0, none⟩) (ks.length + 1) cap7 ∧ e 13 = .int .i64 j ∧
      ks'.length = ks.length + 1 ∧ Own 1 9 w' (.slice (some ⟨g, 0, none⟩) (ks.length + 1) cap7) (ks.length + 1) (cellsOf encS ks') ∧ Fr [g] w9 w') (fun e _ => ks.length + 1 - (numOf (e 13)).toNat) ?_ ?_
  · refine ⟨0, ks ++ [sSpare], Nat.zero_le _, ?_⟩
    simp (maxSteps := 4000000) (disch := (first | assumption | exact List.not_mem_nil | exact Fr.refl _ _ | ((repeat (first | assumption | apply cur_alloc | apply cur_setB | apply cur_drew | apply cur_drewN)); done) | omega | (simp only [gz, Value.cells, oneC]; first | done | omega) | ((simp only [List.mem_cons, List.not_mem_nil, or_false, gz]); omega) | rfl)) only [↓gsd, gs, ev, Nat.reduceAdd, Nat.reduceEqDiff, oneC, Value.cells, Option.isNone, e0, e1, e5, e6, e7, hv1, Int.natCast_zero]
    exact ⟨by simp, by rw [hv7] at hown9; exact hown9, Fr.refl _ _⟩
  have E7 := e7
  rintro e wa k' ⟨j, ks', hj, e0, e1, e5, e6, e7, e8, e13, hks', hownj, hfa⟩ hk'
  have cwa := cur wa
  have hza := hfa.size
  by_cases hjl : j < ks.length + 1
  · have dj : decide ((j : Int) < ((ks.length + 1 : Nat) : Int)) = true := decide_eq_true (by omega)
    have j0 : (0 : Int) ≤ (j : Int) := by omega
    have j1 : (j : Int) < ((ks.length + 1 : Nat) : Int) := by omega
    have j3 : ((j : Int) + 1).toNat = j + 1 := by omega
    obtain ⟨oo, oo', ho, hlto, hst, hown', _⟩ := own_store hownj hks' hjl ⟨#[111, 118, 101, 114]⟩
    simp (maxSteps := 4000000) (disch := (first | assumption | exact List.not_mem_nil | exact Fr.refl _ _ | ((repeat (first | assumption | apply cur_alloc | apply cur_setB | apply cur_drew | apply cur_drewN)); done) | omega | (simp only [gz, Value.cells, oneC]; first | done | omega) | ((simp only [List.mem_cons, List.not_mem_nil, or_false, gz]); omega) | rfl)) only [↓gsd, gs, ev, Nat.reduceAdd, Nat.reduceEqDiff, oneC, Value.cells, Option.isNone, gt, ↓hk6, e0, e1, e5, e6, e7, e8, e13, dj, j0, j1, Int.toNat_natCast, Nat.mul_one, ho, hst]
    refine hk' _ _ ⟨j + 1, ks'.set j ⟨#[111, 118, 101, 114]⟩, by omega, ?_⟩ ?_
    · simp (maxSteps := 4000000) (disch := (first | assumption | exact List.not_mem_nil | exact Fr.refl _ _ | ((repeat (first | assumption | apply cur_alloc | apply cur_setB | apply cur_drew | apply cur_drewN)); done) | omega | (simp only [gz, Value.cells, oneC]; first | done | omega) | ((simp only [List.mem_cons, List.not_mem_nil, or_false, gz]); omega) | rfl)) only [↓gsd, gs, ev, Nat.reduceAdd, Nat.reduceEqDiff, oneC, Value.cells, Option.isNone, e0, e1, e5, e6, e7, e8, e13, Int.natCast_add j 1, Int.natCast_one]
      exact ⟨by simp [hks'], hown', hfa.setB _ _ (.inl (by simp))⟩
    · simp (maxSteps := 4000000) (disch := (first | assumption | exact List.not_mem_nil | exact Fr.refl _ _ | ((repeat (first | assumption | apply cur_alloc | apply cur_setB | apply cur_drew | apply cur_drewN)); done) | omega | (simp only [gz, Value.cells, oneC]; first | done | omega) | ((simp only [List.mem_cons, List.not_mem_nil, or_false, gz]); omega) | rfl)) only [↓gsd, gs, ev, Nat.reduceAdd, Nat.reduceEqDiff, oneC, Value.cells, Option.isNone, e13, numOf, Int.toNat_natCast, j3]; omega
  · have dj : decide ((j : Int) < ((ks.length + 1 : Nat) : Int)) = false := decide_eq_false (by omega)
    simp (maxSteps := 4000000) (disch := (first | assumption | exact List.not_mem_nil | exact Fr.refl _ _ | ((repeat (first | assumption | apply cur_alloc | apply cur_setB | apply cur_drew | apply cur_drewN)); done) | omega | (simp only [gz, Value.cells, oneC]; first | done | omega) | ((simp only [List.mem_cons, List.not_mem_nil, or_false, gz]); omega) | rfl)) only [↓gsd, gs, ev, Nat.reduceAdd, Nat.reduceEqDiff, oneC, Value.cells, Option.isNone, gt, ↓hk6, e0, e1, e5, e6, e7, e8, e13, dj]
    refine hk _ _ ⟨i + 1, (appL L ks).2, by omega, ?_⟩ ?_
    · simp (maxSteps := 4000000) (disch := (first | assumption | exact List.not_mem_nil | exact Fr.refl _ _ | ((repeat (first | assumption | apply cur_alloc | apply cur_setB | apply cur_drew | apply cur_drewN)); done) | omega | (simp only [gz, Value.cells, oneC]; first | done | omega) | ((simp only [List.mem_cons, List.not_mem_nil, or_false, gz]); omega) | rfl)) only [↓gsd, gs, ev, Nat.reduceAdd, Nat.reduceEqDiff, oneC, Value.cells, Option.isNone, e0, e1, e5, e6, e7, Int.natCast_add i 1, Int.natCast_one]
      refine ⟨by omega, ⟨W1', R1', W2', R2', h1''.fr hfa fun x hx => ?_, h2'.fr hfa fun x hx => ?_, s2, s3⟩, hF9.trans hfa fun x hx => ?_⟩
      · simp at hx; subst hx; exact ⟨hg'.1, hg'.2.1⟩
      · simp at hx; subst hx; exact ⟨hg'.2.2.1, hg'.2.2.2⟩
      · simp at hx; subst hx; right; omega
    · simp (maxSteps := 4000000) (disch := (first | assumption | exact List.not_mem_nil | exact Fr.refl _ _ | ((repeat (first | assumption | apply cur_alloc | apply cur_setB | apply cur_drew | apply cur_drewN)); done) | omega | (simp only [gz, Value.cells, oneC]; first | done | omega) | ((simp only [List.mem_cons, List.not_mem_nil, or_false, gz]); omega) | rfl)) only [↓gsd, gs, ev, Nat.reduceAdd, Nat.reduceEqDiff, oneC, Value.cells, Option.isNone, e7, E7, numOf, Int.toNat_natCast, i3]; omega
end Go.Proofs.Ytenokheiindfkab
