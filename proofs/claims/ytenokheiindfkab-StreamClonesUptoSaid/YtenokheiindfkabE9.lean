/- StreamClones: the records that were answered are written over. -/
import Derived.Test.YtenokheiindfkabE8
set_option linter.unusedVariables false
set_option linter.unusedSimpArgs false
set_option maxRecDepth 10000
namespace Go.Proofs.Ytenokheiindfkab
open Go.VW
theorem cellsOf_rc_set : ∀ (rs : List Rc) (i : Nat) (r r' : Rc), rs[i]? = some r → r'.n = r.n → (cellsOf encRc rs).set (i * 2 + 1) (.slice r'.a r'.l r'.c) = cellsOf encRc (rs.set i r')
  | [], i, r, r', h, _ => by simp at h
  | x :: rs, 0, r, r', h, hn => by
    simp at h; subst h
    simp [cellsOf, encRc, hn]
  | x :: rs, i + 1, r, r', h, hn => by
    have ih := cellsOf_rc_set rs i r r' (by simpa using h) hn
    have e : (i + 1) * 2 + 1 = (i * 2 + 1) + 1 + 1 := by omega
    simp only [cellsOf, List.flatMap_cons, List.set_cons_succ] at ih ⊢
    rw [e]
    simp only [encRc, List.cons_append, List.nil_append, List.set_cons_succ]
    rw [ih]
/-- A record's keys are replaced in a list of records. -/
theorem rcs_store {w : World} {v : Value} {rs : List Rc} (h : Own 2 47 w v rs.length (cellsOf encRc rs)) {i : Nat} {r r' : Rc} (hi : rs[i]? = some r) (hn : r'.n = r.n) :
    ∃ g cap, v = .slice (some ⟨g, 0, none⟩) rs.length cap ∧ ∃ o o' : Obj, w.heap[g]? = some o ∧ g < w.heap.size ∧ (∀ orig K, stV orig 1 (some o) (i * 2 + 1) [.slice r'.a r'.l r'.c] K = K o') ∧ Own 2 47 (w.setB g o') v (rs.set i r').length (cellsOf encRc (rs.set i r')) := by
  have hil := (List.getElem?_eq_some_iff.1 hi).1
  rcases h.2 with ⟨_, h0⟩ | ⟨g, cap, cur', rfl, hb0, hgx, hnc, hcm, hcs, htk⟩
  · have := cellsOf_length encRc_len rs
    omega
  · obtain ⟨D, hD⟩ : ∃ D, D = cur'.toList := ⟨_, rfl⟩
    have hDl : D.length = cap * 2 := by rw [hD]; simpa using hcs
    have hgl := lt_of_get _ _ hgx
    have hgo : w.heap[g]? = some (Obj.cells D.toArray 47 (0, 0)) := by rw [hD]; simpa using hgx
    refine ⟨g, cap, rfl, .cells D.toArray 47 (0, 0), .cells (D.set (i * 2 + 1) (.slice r'.a r'.l r'.c)).toArray 47 (0, 0), hgo, hgl, fun orig K => stV_set _ D _ _ _ _ (by omega) rfl, ?_⟩
    refine ⟨by rw [cellsOf_length encRc_len], .inr ⟨g, cap, (D.set (i * 2 + 1) (.slice r'.a r'.l r'.c)).toArray, by simp, hb0, get_setB_same _ _ _ hgl, by simpa using hnc, hcm, by simp; omega, ?_⟩⟩
    have ht : D.take (rs.length * 2) = cellsOf encRc rs := by rw [hD]; simpa using htk
    rw [← cellsOf_rc_set rs i r r' hi hn, ← ht]
    simp [List.take_set]
set_option maxHeartbeats 32000000 in
theorem clonesB {wB w : World} {lb rb : Nat} {sb vall : Value} {xs : List (Int × Ks)} {rs : List Rc} {e : Env} {Q : Exit → Env → World → Prop} (h : RcsD w wB.heap.size vall xs rs) (hfB : Fr [] wB w) (hl : rs.length ≤ 1048576) (hx8 : ∀ x ∈ xs, x.2.length ≤ 8)
    (e1 : e 1 = sb) (e5 : e 5 = .pointer (some ⟨lb, 0, none⟩)) (e6 : e 6 = .pointer (some ⟨rb, 0, none⟩)) (e14 : e 14 = vall)
    (hQ : ∀ (e' : Env) (w' : World), e' 1 = sb → e' 5 = .pointer (some ⟨lb, 0, none⟩) → e' 6 = .pointer (some ⟨rb, 0, none⟩) → Fr [] wB w' → Q .normal e' w') : W3 Try.prog 170 V6 c6_25 Q e w := by
  have cw := cur w
  obtain ⟨va, vc, hva⟩ := h.own.sl.form
  simp (maxSteps := 4000000) (disch := (first | assumption | exact List.not_mem_nil | exact Fr.refl _ _ | ((repeat (first | assumption | apply cur_alloc | apply cur_setB | apply cur_drew | apply cur_drewN)); done) | omega | (simp only [gz, Value.cells, oneC]; first | done | omega) | ((simp only [List.mem_cons, List.not_mem_nil, or_false, gz]); omega) | rfl)) only [↓gsd, gs, ev, Nat.reduceAdd, Nat.reduceEqDiff, oneC, Value.cells, Option.isNone, gt, ↓hk6, e1, e5, e6, e14]
  refine loop_intro (fun e w' => ∃ (i : Nat) (rs' : List Rc), i ≤ rs.length ∧ e 1 = sb ∧ e 5 = .pointer (some ⟨lb, 0, none⟩) ∧ e 6 = .pointer (some ⟨rb, 0, none⟩) ∧ e 14 = vall ∧ e 15 = .int .i64 i ∧
      rs'.length = rs.length ∧ Own 2 47 w' vall rs'.length (cellsOf encRc rs') ∧ (∀ (j : Nat) r x, i ≤ j → rs[j]? = some r → xs[j]? = some x → rs'[j]? = some r ∧ Own 1 9 w' r.kv x.2.length (cellsOf encS x.2)) ∧ Fr [] wB w') (fun e _ => rs.length - (numOf (e 15)).toNat) ?_ ?_
  · refine ⟨0, rs, Nat.zero_le _, ?_⟩
    simp (maxSteps := 4000000) (disch := (first | assumption | exact List.not_mem_nil | exact Fr.refl _ _ | ((repeat (first | assumption | apply cur_alloc | apply cur_setB | apply cur_drew | apply cur_drewN)); done) | omega | (simp only [gz, Value.cells, oneC]; first | done | omega) | ((simp only [List.mem_cons, List.not_mem_nil, or_false, gz]); omega) | rfl)) only [↓gsd, gs, ev, Nat.reduceAdd, Nat.reduceEqDiff, oneC, Value.cells, Option.isNone, e1, e5, e6, e14, Int.natCast_zero]
    exact ⟨h.own, fun j r x _ hr hx => ⟨hr, (h.at_ j r x hr hx).2.1⟩, hfB⟩
  rintro e w1 k ⟨i, rs', hi, e1, e5, e6, e14, e15, hrl, hown, hat, hf⟩ hk
  have cw1 := cur w1
  have hz1 := hf.size
  by_cases hil : i < rs.length
  case neg =>
    have d : decide ((i : Int) < (rs.length : Int)) = false := decide_eq_false (by omega)
    simp (maxSteps := 4000000) (disch := (first | assumption | exact List.not_mem_nil | exact Fr.refl _ _ | ((repeat (first | assumption | apply cur_alloc | apply cur_setB | apply cur_drew | apply cur_drewN)); done) | omega | (simp only [gz, Value.cells, oneC]; first | done | omega) | ((simp only [List.mem_cons, List.not_mem_nil, or_false, gz]); omega) | rfl)) only [↓gsd, gs, ev, Nat.reduceAdd, Nat.reduceEqDiff, oneC, Value.cells, Option.isNone, gt, ↓hk6, e1, e5, e6, e14, e15, hva, d]
    exact hQ _ _ (by simp (maxSteps := 4000000) (disch := (first | assumption | exact List.not_mem_nil | exact Fr.refl _ _ | ((repeat (first | assumption | apply cur_alloc | apply cur_setB | apply cur_drew | apply cur_drewN)); done) | omega | (simp only [gz, Value.cells, oneC]; first | done | omega) | ((simp only [List.mem_cons, List.not_mem_nil, or_false, gz]); omega) | rfl)) only [↓gsd, gs, ev, Nat.reduceAdd, Nat.reduceEqDiff, oneC, Value.cells, Option.isNone, e1]) (by simp (maxSteps := 4000000) (disch := (first | assumption | exact List.not_mem_nil | exact Fr.refl _ _ | ((repeat (first | assumption | apply cur_alloc | apply cur_setB | apply cur_drew | apply cur_drewN)); done) | omega | (simp only [gz, Value.cells, oneC]; first | done | omega) | ((simp only [List.mem_cons, List.not_mem_nil, or_false, gz]); omega) | rfl)) only [↓gsd, gs, ev, Nat.reduceAdd, Nat.reduceEqDiff, oneC, Value.cells, Option.isNone, e5]) (by simp (maxSteps := 4000000) (disch := (first | assumption | exact List.not_mem_nil | exact Fr.refl _ _ | ((repeat (first | assumption | apply cur_alloc | apply cur_setB | apply cur_drew | apply cur_drewN)); done) | omega | (simp only [gz, Value.cells, oneC]; first | done | omega) | ((simp only [List.mem_cons, List.not_mem_nil, or_false, gz]); omega) | rfl)) only [↓gsd, gs, ev, Nat.reduceAdd, Nat.reduceEqDiff, oneC, Value.cells, Option.isNone, e6]) hf
  have d : decide ((i : Int) < (rs.length : Int)) = true := decide_eq_true (by omega)
  have i0 : (0 : Int) ≤ (i : Int) := by omega
  have i1 : (i : Int) < (rs.length : Int) := by omega
  have i3 : ((i : Int) + 1).toNat = i + 1 := by omega
  obtain ⟨r, hr⟩ : ∃ r, rs[i]? = some r := ⟨rs[i], List.getElem?_eq_getElem hil⟩
  obtain ⟨x, hx⟩ : ∃ x, xs[i]? = some x := ⟨xs[i]'(by have := h.len; omega), List.getElem?_eq_getElem (by have := h.len; omega)⟩
  have hx8' := hx8 x (List.mem_of_getElem? hx)
  obtain ⟨hri, hkown⟩ := hat i r x (Nat.le_refl _) hr hx
  have hkB := (h.at_ i r x hr hx).2.2
  obtain ⟨ka, kc, hkv⟩ := hkown.sl.form
  obtain ⟨rn, ra, rl, rc⟩ := r
  simp only [Rc.kv, Value.slice.injEq] at hkv
  obtain ⟨rfl, rfl, rfl⟩ := hkv
  simp only [Rc.kv] at hkown hkB
  obtain ⟨N, hN⟩ : ∃ N, N = x.2.length := ⟨_, rfl⟩
  rw [← hN] at hri hkown hkB hr hx8'
  -- one record's keys, read in any later world
  have hread : ∀ w', Own 2 47 w' vall rs'.length (cellsOf encRc rs') → ∃ bb off cap ob, vall = .slice (some ⟨bb, off, none⟩) rs.length cap ∧ w'.heap[bb]? = some ob ∧ bb < w'.heap.size ∧ ∀ orig K, ldV orig (some ob) (off + i * 2 + 1) K = K (.slice ra N rc) := fun w' ho => by
    obtain ⟨bb, off, cap, ob, hv1, hob, hlt, _, hc⟩ := (show SlOf 2 encRc w' vall rs' from ho.sl).read encRc_len i _ hri
    exact ⟨bb, off, cap, ob, by rw [← hrl]; exact hv1, hob, hlt, fun orig K => hc 1 _ orig K rfl⟩
  have hne : ∀ b, Value.ownBlock (.slice ra N rc) = some b → vall.ownBlock ≠ some b := own_ne hkown hown (by decide)
  simp (maxSteps := 4000000) (disch := (first | assumption | exact List.not_mem_nil | exact Fr.refl _ _ | ((repeat (first | assumption | apply cur_alloc | apply cur_setB | apply cur_drew | apply cur_drewN)); done) | omega | (simp only [gz, Value.cells, oneC]; first | done | omega) | ((simp only [List.mem_cons, List.not_mem_nil, or_false, gz]); omega) | rfl)) only [↓gsd, gs, ev, Nat.reduceAdd, Nat.reduceEqDiff, oneC, Value.cells, Option.isNone, gt, ↓o6_0_eq, ↓o6_3_eq, ↓o6_16_eq, ↓o6_25_eq, ↓o6_33_eq, ↓c6_9_s, ↓o6_28_eq, ↓o6_30_eq, ↓c6_15_s, ↓o6_31_eq, ↓o6_32_eq, ↓c6_19_s, ↓c6_18_s, ↓c6_17_s, ↓c6_16_s, ↓c6_14_s, ↓o6_29_eq, ↓c6_21_s, ↓c6_20_s, ↓c6_13_s, ↓c6_12_s, ↓c6_11_s, ↓c6_10_s, ↓c6_8_s, ↓o6_26_eq, ↓o6_27_eq, ↓c6_24_s, ↓c6_23_s, ↓c6_22_s, ↓c6_7_s, ↓c6_6_s, ↓o6_17_eq, ↓o6_19_eq, ↓c6_30_s, ↓o6_24_eq, ↓o6_20_eq, ↓o6_22_eq, ↓c6_39_s, ↓o6_23_eq, ↓c6_41_s, ↓c6_40_s, ↓c6_38_s, ↓o6_21_eq, ↓c6_43_s, ↓c6_42_s, ↓c6_37_s, ↓c6_36_s, ↓c6_35_s, ↓c6_34_s, ↓c6_32_s, ↓c6_31_s, ↓c6_29_s, ↓o6_18_eq, ↓c6_45_s, ↓c6_44_s, ↓c6_28_s, ↓c6_27_s, ↓c6_26_s, ↓c6_25_s, ↓c6_5_s, ↓c6_4_s, ↓o6_4_eq, ↓o6_6_eq, ↓c6_51_s, ↓o6_7_eq, ↓o6_8_eq, ↓o6_9_eq, ↓o6_12_eq, ↓o6_14_eq, ↓c6_62_s, ↓o6_15_eq, ↓c6_64_s, ↓c6_63_s, ↓c6_61_s, ↓o6_13_eq, ↓c6_66_s, ↓c6_65_s, ↓c6_60_s, ↓c6_59_s, ↓c6_58_s, ↓c6_57_s, ↓o6_10_eq, ↓o6_11_eq, ↓c6_69_s, ↓c6_68_s, ↓c6_67_s, ↓c6_56_s, ↓c6_55_s, ↓c6_54_s, ↓c6_53_s, ↓c6_52_s, ↓c6_50_s, ↓o6_5_eq, ↓c6_71_s, ↓c6_70_s, ↓c6_49_s, ↓c6_48_s, ↓c6_47_s, ↓c6_46_s, ↓c6_3_s, ↓c6_2_s, ↓o6_1_eq, ↓o6_2_eq, ↓c6_74_s, ↓c6_73_s, ↓c6_72_s, ↓c6_1_s, ↓c6_s, e1, e5, e6, e14, e15, hva, d]
  have E15 := e15
  have hEnd : ∀ (e : Env) (w2 : World) (ks' : Ks), e 1 = sb → e 5 = .pointer (some ⟨lb, 0, none⟩) → e 6 = .pointer (some ⟨rb, 0, none⟩) → e 14 = vall → e 15 = .int .i64 i → ks'.length = N → Own 1 9 w2 (.slice ra N rc) N (cellsOf encS ks') → Fr (blkL (.slice ra N rc)) w1 w2 →
      W3 Try.prog 170 V6 c6_33 (blockQ 5 (seqQ (fun e w => W3 Try.prog 170 V6 c6_30 (seqQ k (blockQ 4 Q)) e w) (seqQ k (blockQ 4 Q)))) e w2 := by
    intro e w2 ks' e1 e5 e6 e14 e15 hks' hown2 hf2
    have cw2 := cur w2
    have hz2 := hf2.size
    have hall2 : Own 2 47 w2 vall rs'.length (cellsOf encRc rs') := hown.fr hf2 fun b hb e => hne b (mem_blkL.1 hb) e
    obtain ⟨bb, off, cap, ob, hv1, hob, hbb, hkey⟩ := hread w2 hall2
    simp (maxSteps := 4000000) (disch := (first | assumption | exact List.not_mem_nil | exact Fr.refl _ _ | ((repeat (first | assumption | apply cur_alloc | apply cur_setB | apply cur_drew | apply cur_drewN)); done) | omega | (simp only [gz, Value.cells, oneC]; first | done | omega) | ((simp only [List.mem_cons, List.not_mem_nil, or_false, gz]); omega) | rfl)) only [↓gsd, gs, ev, Nat.reduceAdd, Nat.reduceEqDiff, oneC, Value.cells, Option.isNone, gt, ↓hk6, e1, e5, e6, e14, e15, hv1, i0, i1, Int.toNat_natCast, hob, hkey]
    generalize hW : World.alloc w2 _ = w3
    have hf3 : Fr [] w2 w3 := by rw [← hW]; (repeat (first | exact Fr.refl _ _ | assumption | with_reducible apply Fr.alloc | with_reducible apply Fr.drew | with_reducible refine Fr.setB ?_ _ _ (.inr (by first | omega | (simp only [gz]; omega))) | with_reducible refine Fr.setB ?_ _ _ (.inl (by first | assumption | simp)) | with_reducible refine Fr.trans' ?_ (by assumption)))
    have hz3 : w3.heap.size = w2.heap.size + 1 := by rw [← hW]; simp only [gz]
    have hsl3 : SlOf 1 encS w3 (.slice (some ⟨w2.heap.size, 0, none⟩) 1 1) [⟨#[109, 111, 114, 101]⟩] := by rw [← hW]; exact sl_lit (w := w2) [⟨#[109, 111, 114, 101]⟩]
    clear hW
    have cw3 := cur w3
    obtain ⟨v4, w4, hr4, hown4, hf4, hbk4⟩ := ap30 (ty := 30) (Go.Proofs.Ytenokheiindfkab.Own.frN hown2 hf3) hsl3 (cells_oneC (enc := encS) (fun _ => rfl) [⟨#[109, 111, 114, 101]⟩]) (by simp; omega)
    have cw4 := cur w4
    have hz4 := hf4.size
    obtain ⟨a4, c4, hv4⟩ := hown4.sl.form
    simp only [List.length_cons, List.length_nil, Nat.zero_add] at hv4
    have hall4 : Own 2 47 w4 vall rs'.length (cellsOf encRc rs') := (Go.Proofs.Ytenokheiindfkab.Own.frN hall2 hf3).fr hf4 fun b hb e => hne b (mem_blkL.1 hb) e
    obtain ⟨g, capg, hvg, og, og', hog, hlg, hst, hall5⟩ := rcs_store (r' := ⟨rn, a4, N + 1, c4⟩) hall4 hri rfl
    have hvg' := hvg
    rw [hv1] at hvg'
    simp only [Value.slice.injEq, Option.some.injEq, Addr.mk.injEq] at hvg'
    obtain ⟨⟨rfl, rfl, _⟩, _, rfl⟩ := hvg'
    rw [hv4] at hr4
    simp (maxSteps := 4000000) (disch := (first | assumption | exact List.not_mem_nil | exact Fr.refl _ _ | ((repeat (first | assumption | apply cur_alloc | apply cur_setB | apply cur_drew | apply cur_drewN)); done) | omega | (simp only [gz, Value.cells, oneC]; first | done | omega) | ((simp only [List.mem_cons, List.not_mem_nil, or_false, gz]); omega) | rfl)) only [↓gsd, gs, ev, Nat.reduceAdd, Nat.reduceEqDiff, oneC, Value.cells, Option.isNone, gt, ↓hk6, e1, e5, e6, e14, e15, hv1, i0, i1, Int.toNat_natCast, hr4, hog, hst]
    have hgB : wB.heap.size ≤ bb := h.blk bb (by rw [hv1]; rfl)
    have hsB : ∀ y ∈ blkL (.slice ra N rc), y ∈ ([] : List Nat) ∨ wB.heap.size ≤ y := fun y hy => .inr (hkB y (mem_blkL.1 hy))
    have hF : Fr [] wB (w4.setB bb og') := (((hf.trans hf2 hsB).trans' hf3).trans hf4 hsB).setB _ _ (.inr hgB)
    refine hk _ _ ⟨i + 1, rs'.set i ⟨rn, a4, N + 1, c4⟩, by omega, ?_⟩ ?_
    · simp (maxSteps := 4000000) (disch := (first | assumption | exact List.not_mem_nil | exact Fr.refl _ _ | ((repeat (first | assumption | apply cur_alloc | apply cur_setB | apply cur_drew | apply cur_drewN)); done) | omega | (simp only [gz, Value.cells, oneC]; first | done | omega) | ((simp only [List.mem_cons, List.not_mem_nil, or_false, gz]); omega) | rfl)) only [↓gsd, gs, ev, Nat.reduceAdd, Nat.reduceEqDiff, oneC, Value.cells, Option.isNone, e1, e5, e6, e14, e15, Int.natCast_add i 1, Int.natCast_one]
      refine ⟨by simp [hrl], hall5, fun j r' x' hij hr' hx' => ?_, hF⟩
      obtain ⟨t1, t2⟩ := hat j r' x' (by omega) hr' hx'
      refine ⟨by rw [List.getElem?_set_ne (by omega)]; exact t1, ?_⟩
      have hap : ∀ b, Value.ownBlock (.slice ra N rc) = some b → r'.kv.ownBlock ≠ some b := h.apart i j _ r' (by omega) hr hr'
      have q1 := t2.fr hf2 fun b hb => hap b (mem_blkL.1 hb)
      have q2 := (Go.Proofs.Ytenokheiindfkab.Own.frN q1 hf3).fr hf4 fun b hb => hap b (mem_blkL.1 hb)
      exact q2.fr (M := [bb]) ((Fr.refl _ _).setB _ _ (.inl (by simp))) (by
        intro y hy e; simp at hy; subst hy
        exact own_ne q2 hall4 (by decide) y e (by rw [hv1]; rfl))
    · simp (maxSteps := 4000000) (disch := (first | assumption | exact List.not_mem_nil | exact Fr.refl _ _ | ((repeat (first | assumption | apply cur_alloc | apply cur_setB | apply cur_drew | apply cur_drewN)); done) | omega | (simp only [gz, Value.cells, oneC]; first | done | omega) | ((simp only [List.mem_cons, List.not_mem_nil, or_false, gz]); omega) | rfl)) only [↓gsd, gs, ev, Nat.reduceAdd, Nat.reduceEqDiff, oneC, Value.cells, Option.isNone, E15, e15, numOf, Int.toNat_natCast, i3]; omega
  refine loop_intro (fun e w' => ∃ (j : Nat) (ks' : Ks), j ≤ N ∧ e 1 = sb ∧ e 5 = .pointer (some ⟨lb, 0, none⟩) ∧ e 6 = .pointer (some ⟨rb, 0, none⟩) ∧ e 14 = vall ∧ e 15 = .int .i64 i ∧ e 16 = .int .i64 j ∧
      ks'.length = N ∧ Own 1 9 w' (.slice ra N rc) N (cellsOf encS ks') ∧ Fr (blkL (.slice ra N rc)) w1 w') (fun e _ => N - (numOf (e 16)).toNat) ?_ ?_
  · refine ⟨0, x.2, Nat.zero_le _, ?_⟩
    simp (maxSteps := 4000000) (disch := (first | assumption | exact List.not_mem_nil | exact Fr.refl _ _ | ((repeat (first | assumption | apply cur_alloc | apply cur_setB | apply cur_drew | apply cur_drewN)); done) | omega | (simp only [gz, Value.cells, oneC]; first | done | omega) | ((simp only [List.mem_cons, List.not_mem_nil, or_false, gz]); omega) | rfl)) only [↓gsd, gs, ev, Nat.reduceAdd, Nat.reduceEqDiff, oneC, Value.cells, Option.isNone, e1, e5, e6, e14, e15, Int.natCast_zero]
    exact ⟨hN.symm, hkown, Fr.refl _ _⟩
  rintro e w2 k' ⟨j, ks', hj, e1, e5, e6, e14, e15, e16, hks', hkown2, hf2⟩ hk'
  have cw2 := cur w2
  have hz2 := hf2.size
  have hall2 : Own 2 47 w2 vall rs'.length (cellsOf encRc rs') := hown.fr hf2 fun b hb e => hne b (mem_blkL.1 hb) e
  obtain ⟨bb, off, cap, ob, hv1, hob, hbb, hkey⟩ := hread w2 hall2
  by_cases hjl : j < N
  · have dj : decide ((j : Int) < (N : Int)) = true := decide_eq_true (by omega)
    have j0 : (0 : Int) ≤ (j : Int) := by omega
    have j1 : (j : Int) < (N : Int) := by omega
    have j3 : ((j : Int) + 1).toNat = j + 1 := by omega
    rcases hkown2.2 with ⟨h0, _⟩ | ⟨g, capk, cur', hgv, _⟩
    · simp only [Value.slice.injEq] at h0; omega
    simp only [Value.slice.injEq] at hgv
    obtain ⟨rfl, _, rfl⟩ := hgv
    obtain ⟨oo, oo', ho, hlto, hst, hown', _⟩ := own_store hkown2 hks' hjl ⟨#[109, 97, 114, 107]⟩
    simp (maxSteps := 4000000) (disch := (first | assumption | exact List.not_mem_nil | exact Fr.refl _ _ | ((repeat (first | assumption | apply cur_alloc | apply cur_setB | apply cur_drew | apply cur_drewN)); done) | omega | (simp only [gz, Value.cells, oneC]; first | done | omega) | ((simp only [List.mem_cons, List.not_mem_nil, or_false, gz]); omega) | rfl)) only [↓gsd, gs, ev, Nat.reduceAdd, Nat.reduceEqDiff, oneC, Value.cells, Option.isNone, gt, ↓hk6, e1, e5, e6, e14, e15, e16, hv1, i0, i1, Int.toNat_natCast, hob, hkey, dj, j0, j1, Nat.mul_one, ho, hst]
    refine hk' _ _ ⟨j + 1, ks'.set j ⟨#[109, 97, 114, 107]⟩, by omega, ?_⟩ ?_
    · simp (maxSteps := 4000000) (disch := (first | assumption | exact List.not_mem_nil | exact Fr.refl _ _ | ((repeat (first | assumption | apply cur_alloc | apply cur_setB | apply cur_drew | apply cur_drewN)); done) | omega | (simp only [gz, Value.cells, oneC]; first | done | omega) | ((simp only [List.mem_cons, List.not_mem_nil, or_false, gz]); omega) | rfl)) only [↓gsd, gs, ev, Nat.reduceAdd, Nat.reduceEqDiff, oneC, Value.cells, Option.isNone, e1, e5, e6, e14, e15, e16, Int.natCast_add j 1, Int.natCast_one]
      exact ⟨by simp [hks'], hown', hf2.setB _ _ (.inl (by simp [blkL, Value.ownBlock]))⟩
    · simp (maxSteps := 4000000) (disch := (first | assumption | exact List.not_mem_nil | exact Fr.refl _ _ | ((repeat (first | assumption | apply cur_alloc | apply cur_setB | apply cur_drew | apply cur_drewN)); done) | omega | (simp only [gz, Value.cells, oneC]; first | done | omega) | ((simp only [List.mem_cons, List.not_mem_nil, or_false, gz]); omega) | rfl)) only [↓gsd, gs, ev, Nat.reduceAdd, Nat.reduceEqDiff, oneC, Value.cells, Option.isNone, e16, numOf, Int.toNat_natCast, j3]; omega
  · have dj : decide ((j : Int) < (N : Int)) = false := decide_eq_false (by omega)
    simp (maxSteps := 4000000) (disch := (first | assumption | exact List.not_mem_nil | exact Fr.refl _ _ | ((repeat (first | assumption | apply cur_alloc | apply cur_setB | apply cur_drew | apply cur_drewN)); done) | omega | (simp only [gz, Value.cells, oneC]; first | done | omega) | ((simp only [List.mem_cons, List.not_mem_nil, or_false, gz]); omega) | rfl)) only [↓gsd, gs, ev, Nat.reduceAdd, Nat.reduceEqDiff, oneC, Value.cells, Option.isNone, gt, ↓o6_0_eq, ↓o6_3_eq, ↓o6_16_eq, ↓o6_25_eq, ↓o6_33_eq, ↓c6_9_s, ↓o6_28_eq, ↓o6_30_eq, ↓c6_15_s, ↓o6_31_eq, ↓o6_32_eq, ↓c6_19_s, ↓c6_18_s, ↓c6_17_s, ↓c6_16_s, ↓c6_14_s, ↓o6_29_eq, ↓c6_21_s, ↓c6_20_s, ↓c6_13_s, ↓c6_12_s, ↓c6_11_s, ↓c6_10_s, ↓c6_8_s, ↓o6_26_eq, ↓o6_27_eq, ↓c6_24_s, ↓c6_23_s, ↓c6_22_s, ↓c6_7_s, ↓c6_6_s, ↓o6_17_eq, ↓o6_19_eq, ↓c6_30_s, ↓o6_24_eq, ↓o6_20_eq, ↓o6_22_eq, ↓c6_39_s, ↓o6_23_eq, ↓c6_41_s, ↓c6_40_s, ↓c6_38_s, ↓o6_21_eq, ↓c6_43_s, ↓c6_42_s, ↓c6_37_s, ↓c6_36_s, ↓c6_35_s, ↓c6_34_s, ↓c6_32_s, ↓c6_31_s, ↓c6_29_s, ↓o6_18_eq, ↓c6_45_s, ↓c6_44_s, ↓c6_28_s, ↓c6_27_s, ↓c6_26_s, ↓c6_25_s, ↓c6_5_s, ↓c6_4_s, ↓o6_4_eq, ↓o6_6_eq, ↓c6_51_s, ↓o6_7_eq, ↓o6_8_eq, ↓o6_9_eq, ↓o6_12_eq, ↓o6_14_eq, ↓c6_62_s, ↓o6_15_eq, ↓c6_64_s, ↓c6_63_s, ↓c6_61_s, ↓o6_13_eq, ↓c6_66_s, ↓c6_65_s, ↓c6_60_s, ↓c6_59_s, ↓c6_58_s, ↓c6_57_s, ↓o6_10_eq, ↓o6_11_eq, ↓c6_69_s, ↓c6_68_s, ↓c6_67_s, ↓c6_56_s, ↓c6_55_s, ↓c6_54_s, ↓c6_53_s, ↓c6_52_s, ↓c6_50_s, ↓o6_5_eq, ↓c6_71_s, ↓c6_70_s, ↓c6_49_s, ↓c6_48_s, ↓c6_47_s, ↓c6_46_s, ↓c6_3_s, ↓c6_2_s, ↓o6_1_eq, ↓o6_2_eq, ↓c6_74_s, ↓c6_73_s, ↓c6_72_s, ↓c6_1_s, ↓c6_s, e1, e5, e6, e14, e15, e16, hv1, i0, i1, Int.toNat_natCast, hob, hkey, dj]
    exact hEnd _ _ ks' (by simp (maxSteps := 4000000) (disch := (first | assumption | exact List.not_mem_nil | exact Fr.refl _ _ | ((repeat (first | assumption | apply cur_alloc | apply cur_setB | apply cur_drew | apply cur_drewN)); done) | omega | (simp only [gz, Value.cells, oneC]; first | done | omega) | ((simp only [List.mem_cons, List.not_mem_nil, or_false, gz]); omega) | rfl)) only [↓gsd, gs, ev, Nat.reduceAdd, Nat.reduceEqDiff, oneC, Value.cells, Option.isNone, e1]) (by simp (maxSteps := 4000000) (disch := (first | assumption | exact List.not_mem_nil | exact Fr.refl _ _ | ((repeat (first | assumption | apply cur_alloc | apply cur_setB | apply cur_drew | apply cur_drewN)); done) | omega | (simp only [gz, Value.cells, oneC]; first | done | omega) | ((simp only [List.mem_cons, List.not_mem_nil, or_false, gz]); omega) | rfl)) only [↓gsd, gs, ev, Nat.reduceAdd, Nat.reduceEqDiff, oneC, Value.cells, Option.isNone, e5]) (by simp (maxSteps := 4000000) (disch := (first | assumption | exact List.not_mem_nil | exact Fr.refl _ _ | ((repeat (first | assumption | apply cur_alloc | apply cur_setB | apply cur_drew | apply cur_drewN)); done) | omega | (simp only [gz, Value.cells, oneC]; first | done | omega) | ((simp only [List.mem_cons, List.not_mem_nil, or_false, gz]); omega) | rfl)) only [↓gsd, gs, ev, Nat.reduceAdd, Nat.reduceEqDiff, oneC, Value.cells, Option.isNone, e6]) (by simp (maxSteps := 4000000) (disch := (first | assumption | exact List.not_mem_nil | exact Fr.refl _ _ | ((repeat (first | assumption | apply cur_alloc | apply cur_setB | apply cur_drew | apply cur_drewN)); done) | omega | (simp only [gz, Value.cells, oneC]; first | done | omega) | ((simp only [List.mem_cons, List.not_mem_nil, or_false, gz]); omega) | rfl)) only [↓gsd, gs, ev, Nat.reduceAdd, Nat.reduceEqDiff, oneC, Value.cells, Option.isNone, e14]) (by simp (maxSteps := 4000000) (disch := (first | assumption | exact List.not_mem_nil | exact Fr.refl _ _ | ((repeat (first | assumption | apply cur_alloc | apply cur_setB | apply cur_drew | apply cur_drewN)); done) | omega | (simp only [gz, Value.cells, oneC]; first | done | omega) | ((simp only [List.mem_cons, List.not_mem_nil, or_false, gz]); omega) | rfl)) only [↓gsd, gs, ev, Nat.reduceAdd, Nat.reduceEqDiff, oneC, Value.cells, Option.isNone, e15]) hks' hkown2 hf2
end Go.Proofs.Ytenokheiindfkab
