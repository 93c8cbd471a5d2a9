/- OriginOnce walked. -/
import Derived.Test.YtgloomahpjpiiaaOX
set_option linter.unusedVariables false
set_option linter.unusedSimpArgs false
set_option maxRecDepth 10000
namespace Go.Proofs.Ytgloomahpjpiiaa.Or
open Go.VW
set_option maxHeartbeats 64000000 in
theorem once_spec {w : World} {lv ov : Value} {ms : List Msg} {ls : List (List St.Wr)} {us : List Int} {K : Value → World → Prop} (hl : SlOf 16 encMsg w lv ms) (hll : ls.length = ms.length)
    (hls : ∀ (i : Nat) m ws, ms[i]? = some m → ls[i]? = some ws → SlOf 3 St.encWr w m.wv ws ∧ m.wl = ws.length ∧ ws.length ≤ 9223372036854775807)
    (ho : SlOf 1 encU w ov us) (hu : ∀ u ∈ us, 0 ≤ u ∧ u < 256) (hml : ms.length ≤ 9223372036854775807) (hol : us.length ≤ 9223372036854775807) (hK : ∀ w', Fr [] w w' → K (.bool true) w') : CallsN Try.prog 3 [lv, ov] w K := by
  have cw := cur w
  obtain ⟨la, lc, hlv⟩ := hl.form
  obtain ⟨oa, oc, hov⟩ := ho.form
  refine call3 ?_
  simp (maxSteps:=4000000)(disch:=first|assumption|(simp only[dz,Value.cells,oneC];first|done|assumption|omega)|omega|(repeat(first|assumption|exact Fr.refl _ _|with_reducible apply Fr.alloc|with_reducible apply Fr.drew);done)|rfl) only [↓gsd, gs, ev, Nat.reduceAdd, Nat.reduceEqDiff, oneC, Value.cells, Option.isNone, gt, ↓stays_f, ↓stays_fr, stays_xv, true_or, or_true, frT_self, frT_drew, frT_drew0, frT_alloc, ↓hk3]
  refine fixed_spec fun w1 hf1 => ?_
  have cw1 := cur w1
  simp (maxSteps:=4000000)(disch:=first|assumption|(simp only[dz,Value.cells,oneC];first|done|assumption|omega)|omega|(repeat(first|assumption|exact Fr.refl _ _|with_reducible apply Fr.alloc|with_reducible apply Fr.drew);done)|rfl) only [↓gsd, gs, ev, Nat.reduceAdd, Nat.reduceEqDiff, oneC, Value.cells, Option.isNone, gt, ↓stays_f, ↓stays_fr, stays_xv, true_or, or_true, frT_self, frT_drew, frT_drew0, frT_alloc, ↓hk3]
  refine onew_spec (c := ⟨1, 0, 0, 0, 0, 64, 0, 0⟩) fun a w2 hf2 h2 hy => ?_
  have cw2 := cur w2
  have y2 : Young w a [a.lb] := ⟨fun x hx => Nat.le_trans hf1.size (hy x (by rcases hx with r | r | r | r <;> simp [r])), fun x hx => Nat.le_trans hf1.size (hy x (by simp at hx; simp [hx]))⟩
  have hF2 := hf1.trans' hf2
  by_cases hbig : 64 < ms.length
  · have d : decide ((64 : Int) < (ms.length : Int)) = true := decide_eq_true (by omega)
    simp (maxSteps:=4000000)(disch:=first|assumption|(simp only[dz,Value.cells,oneC];first|done|assumption|omega)|omega|(repeat(first|assumption|exact Fr.refl _ _|with_reducible apply Fr.alloc|with_reducible apply Fr.drew);done)|rfl) only [↓gsd, gs, ev, Nat.reduceAdd, Nat.reduceEqDiff, oneC, Value.cells, Option.isNone, gt, ↓stays_f, ↓stays_fr, stays_xv, true_or, or_true, frT_self, frT_drew, frT_drew0, frT_alloc, ↓hk3, hlv, d]
    exact hK _ hF2
  have d : decide ((64 : Int) < (ms.length : Int)) = false := decide_eq_false (by omega)
  have r6 := fun w => (mkB w).1
  have r7 := fun w => (mkI w).1
  have r8 := fun w => (mkE w).1
  simp (maxSteps:=4000000)(disch:=first|assumption|(simp only[dz,Value.cells,oneC];first|done|assumption|omega)|omega|(repeat(first|assumption|exact Fr.refl _ _|with_reducible apply Fr.alloc|with_reducible apply Fr.drew);done)|rfl) only [↓gsd, gs, ev, Nat.reduceAdd, Nat.reduceEqDiff, oneC, Value.cells, Option.isNone, gt, ↓stays_f, ↓stays_fr, stays_xv, true_or, or_true, frT_self, frT_drew, frT_drew0, frT_alloc, ↓hk3, hlv, hov, d, r6, r7, r8]
  generalize hW : World.alloc (World.alloc (World.alloc w2 _) _) _ = w3
  have hf3 : Fr [] w2 w3 := by rw [← hW]; (repeat (first | exact Fr.refl _ _ | assumption | with_reducible apply Fr.alloc | with_reducible apply Fr.drew | with_reducible refine Fr.setB ?_ _ _ (.inr (by first | omega | (simp only [gz]; omega))) | with_reducible refine Fr.setB ?_ _ _ (.inl (by first | assumption | simp)) | with_reducible refine Fr.trans' ?_ (by assumption)))
  have hz3 : w3.heap.size = w2.heap.size + 3 := by rw [← hW]; simp only [gz]
  have o6 : VW.Own 1 4 w3 (sl64 w2.heap.size) 64 (cellsOf encB (List.replicate 64 false)) := by
    rw [← hW]; exact VW.Own.frN (mkB w2).2 (by (repeat (first | exact Fr.refl _ _ | assumption | with_reducible apply Fr.alloc | with_reducible apply Fr.drew | with_reducible refine Fr.setB ?_ _ _ (.inr (by first | omega | (simp only [gz]; omega))) | with_reducible refine Fr.setB ?_ _ _ (.inl (by first | assumption | simp)) | with_reducible refine Fr.trans' ?_ (by assumption))))
  have o7 : VW.Own 1 2 w3 (sl64 (w2.heap.size + 1)) 64 (cellsOf encI (List.replicate 64 0)) := by
    rw [← hW]
    have := (mkI (w2.alloc (.cells (List.replicate 64 (Value.bool false)).toArray 4))).2
    rw [size_alloc] at this
    exact VW.Own.frN this (by (repeat (first | exact Fr.refl _ _ | assumption | with_reducible apply Fr.alloc | with_reducible apply Fr.drew | with_reducible refine Fr.setB ?_ _ _ (.inr (by first | omega | (simp only [gz]; omega))) | with_reducible refine Fr.setB ?_ _ _ (.inl (by first | assumption | simp)) | with_reducible refine Fr.trans' ?_ (by assumption))))
  have o8 : VW.Own 1 36 w3 (sl64 (w2.heap.size + 1 + 1)) 64 (cellsOf encI (List.replicate 64 0)) := by
    rw [← hW]
    have := (mkE ((w2.alloc (.cells (List.replicate 64 (Value.bool false)).toArray 4)).alloc (.cells (List.replicate 64 (Value.int .i64 0)).toArray 2))).2
    rw [size_alloc, size_alloc] at this
    exact this
  clear hW
  have hM3 : OnceM w w3 a w2.heap.size (w2.heap.size + 1) (w2.heap.size + 1 + 1) (Ori.new ⟨1, 0, 0, 0, 0, 64, 0, 0⟩) (List.replicate 64 false) (List.replicate 64 0) (List.replicate 64 0) [a.lb] [] :=
    ⟨h2.frN hf3, o6, o7, o8, h2.fresh (Nat.le_refl _) (by omega), h2.fresh (by omega) (by omega), h2.fresh (by omega) (by omega), by omega, by omega, by omega, y2, hF2.size, by have := hF2.size; omega, by have := hF2.size; omega, hF2.trans' hf3⟩
  generalize w2.heap.size + 1 + 1 = b8 at *
  generalize w2.heap.size + 1 = b7 at *
  generalize w2.heap.size = b6 at *
  refine for_intro us.length 10 0 (fun i e w' => e 0 = lv ∧ e 1 = ov ∧ e 5 = .pointer (some ⟨a.ob, 0, none⟩) ∧ e 6 = sl64 b6 ∧ e 7 = sl64 b7 ∧ e 8 = sl64 b8 ∧
    ∃ all o sn ns es Wr Rd, e 9 = .int .i64 all ∧ OnceM w w' a b6 b7 b8 o sn ns es Wr Rd ∧ OnceI ls o sn ns es all) ?_ (Nat.zero_le _) ?_ ?_
  · simp (maxSteps:=4000000)(disch:=first|assumption|(simp only[dz,Value.cells,oneC];first|done|assumption|omega)|omega|(repeat(first|assumption|exact Fr.refl _ _|with_reducible apply Fr.alloc|with_reducible apply Fr.drew);done)|rfl) only [↓gsd, gs, ev, Nat.reduceAdd, Nat.reduceEqDiff, oneC, Value.cells, Option.isNone]; rfl
  · simp (maxSteps:=4000000)(disch:=first|assumption|(simp only[dz,Value.cells,oneC];first|done|assumption|omega)|omega|(repeat(first|assumption|exact Fr.refl _ _|with_reducible apply Fr.alloc|with_reducible apply Fr.drew);done)|rfl) only [↓gsd, gs, ev, Nat.reduceAdd, Nat.reduceEqDiff, oneC, Value.cells, Option.isNone]
    exact ⟨hlv.symm, hov.symm, 0, _, _, _, _, _, _, rfl, hM3, once_new ls⟩
  rintro i e w4 kk hi e10 ⟨e0, e1, e5, e6, e7, e8, all, o, sn, ns, es, Wr, Rd, e9, hM, hI⟩ hk
  have cw4 := cur w4
  have fin : ∀ (K' : Value → World → Prop), (∀ w', Fr [] w w' → K' (.bool true) w') → True := fun _ _ => trivial
  have fin : (o.st.last = all ∧ (o.L.length : Int) = all ∧ all ≤ 64) := ⟨hI.last, hI.len, by have := hI.cnt; omega⟩
  have tail : ∀ e' : Env, e' 5 = .pointer (some ⟨a.ob, 0, none⟩) → e' 9 = .int .i64 all → W3 Try.prog 189 V3 c3_9 (retQ Try.prog [ResultVar.tmp 4] K) e' w4 := fun e' e5 e9 => by
    simp (maxSteps:=4000000)(disch:=first|assumption|(simp only[dz,Value.cells,oneC];first|done|assumption|omega)|omega|(repeat(first|assumption|exact Fr.refl _ _|with_reducible apply Fr.alloc|with_reducible apply Fr.drew);done)|rfl) only [↓gsd, gs, ev, Nat.reduceAdd, Nat.reduceEqDiff, oneC, Value.cells, Option.isNone, gt, ↓stays_f, ↓stays_fr, stays_xv, true_or, or_true, frT_self, frT_drew, frT_drew0, frT_alloc, ↓hk3, e5, e9]
    refine last_o hM.at_ ?_
    have d1 : decide (o.st.last = all) = true := decide_eq_true hI.last
    simp (maxSteps:=4000000)(disch:=first|assumption|(simp only[dz,Value.cells,oneC];first|done|assumption|omega)|omega|(repeat(first|assumption|exact Fr.refl _ _|with_reducible apply Fr.alloc|with_reducible apply Fr.drew);done)|rfl) only [↓gsd, gs, ev, Nat.reduceAdd, Nat.reduceEqDiff, oneC, Value.cells, Option.isNone, gt, ↓stays_f, ↓stays_fr, stays_xv, true_or, or_true, frT_self, frT_drew, frT_drew0, frT_alloc, ↓hk3, e5, e9, d1]
    refine records_o hM.at_ fun v w5 hr hf5 => ?_
    have cw5 := cur w5
    obtain ⟨ra, rc, hv⟩ := hr.form
    have hlen : (((Sm.fromL o.L 1 1048576).length : Nat) : Int) = all := by
      unfold Sm.fromL
      rw [List.length_take, List.length_drop, Sm.recsL_len]
      have := fin.2.1
      have := fin.2.2
      have e1 : ((1 : Int) - 1).toNat = 0 := rfl
      have e2 : (1048576 : Int).toNat = 1048576 := rfl
      rw [e1, e2]
      omega
    have d2 : decide ((((Sm.fromL o.L 1 1048576).length : Nat) : Int) = all) = true := decide_eq_true hlen
    simp (maxSteps:=4000000)(disch:=first|assumption|(simp only[dz,Value.cells,oneC];first|done|assumption|omega)|omega|(repeat(first|assumption|exact Fr.refl _ _|with_reducible apply Fr.alloc|with_reducible apply Fr.drew);done)|rfl) only [↓gsd, gs, ev, Nat.reduceAdd, Nat.reduceEqDiff, oneC, Value.cells, Option.isNone, gt, ↓stays_f, ↓stays_fr, stays_xv, true_or, or_true, frT_self, frT_drew, frT_drew0, frT_alloc, ↓hk3, e5, e9, d1, hv, d2]
    exact hK _ (hM.fr.trans' hf5)
  by_cases hil : i < us.length
  · have d : decide ((i : Int) < (us.length : Int)) = true := decide_eq_true (by omega)
    by_cases hm0 : 0 < ms.length
    · have d0 : decide ((0 : Int) < (ms.length : Int)) = true := decide_eq_true (by omega)
      have i0 : (0 : Int) ≤ (i : Int) := by omega
      have i1 : (i : Int) < (us.length : Int) := by omega
      have wr : IntKind.i64.wrap ((i : Int) + 1) = (i : Int) + 1 := wrap64 (by omega) (by omega)
      obtain ⟨u, hui⟩ : ∃ u, us[i]? = some u := ⟨us[i], List.getElem?_eq_getElem hil⟩
      obtain ⟨hu0, hu1⟩ := hu u (List.mem_of_getElem? hui)
      obtain ⟨bo, oo, co, ob, hv1, hob, _, _, hcell⟩ := (ho.frN hM.fr).read encU_len i u hui
      have hc0 := fun orig K => hcell 0 (.int .u8 u) orig K rfl
      simp only [Nat.add_zero, Nat.mul_one] at hc0
      have wu : IntKind.i64.wrap u = u := wrap64 (by omega) (by omega)
      have hne : ((ms.length : Nat) : Int) ≠ 0 := by omega
      have hmod := mod_nat hu0 hm0
      obtain ⟨k, hk'⟩ : ∃ k, k = u.toNat % ms.length := ⟨_, rfl⟩
      have hkl : k < ms.length := by rw [hk']; exact Nat.mod_lt _ hm0
      rw [← hk'] at hmod
      obtain ⟨m, hmk⟩ : ∃ m, ms[k]? = some m := ⟨ms[k], List.getElem?_eq_getElem hkl⟩
      obtain ⟨ws, hwk⟩ : ∃ ws, ls[k]? = some ws := ⟨ls[k]'(by omega), List.getElem?_eq_getElem (by omega)⟩
      obtain ⟨hsw, hwl, hw63⟩ := hls k m ws hmk hwk
      obtain ⟨bm, om, cm, obm, hv2, hobm, _, _, hcm⟩ := (hl.frN hM.fr).read encMsg_len k m hmk
      obtain ⟨wa, wc, hwv⟩ : ∃ wa wc, m.wv = .slice wa ws.length wc := ⟨m.wa, m.wc, by rw [Msg.wv, hwl]⟩
      have hcw := fun orig K => hcm 14 m.wv orig K rfl
      rw [hwv] at hcw hsw
      have k0 : (0 : Int) ≤ (k : Int) := by omega
      have k1 : (k : Int) < (ms.length : Int) := by omega
      simp (maxSteps:=4000000)(disch:=first|assumption|(simp only[dz,Value.cells,oneC];first|done|assumption|omega)|omega|(repeat(first|assumption|exact Fr.refl _ _|with_reducible apply Fr.alloc|with_reducible apply Fr.drew);done)|rfl) only [↓gsd, gs, ev, Nat.reduceAdd, Nat.reduceEqDiff, oneC, Value.cells, Option.isNone, gt, ↓stays_f, ↓stays_fr, stays_xv, true_or, or_true, frT_self, frT_drew, frT_drew0, frT_alloc, ↓hk3, e0, e1, e10, hv1, hv2, d, d0, i0, i1, Int.toNat_natCast, Nat.mul_one, hob, hc0, wu, run_rem _ _ _ _ _ _ _ hne, hmod, k0, k1, hobm, hcw]
      refine cmt_spec (s := k) (q := 1) (a := wa) (l := ws.length) (c := wc) fun w5 hf5 => ?_
      have cw5 := cur w5
      obtain ⟨M, hMd⟩ : ∃ M, M = cmtM k 1 wa ws.length wc := ⟨_, rfl⟩
      rw [← hMd]
      have hme : (encMsg M).toArray = #[.int .i64 M.kind, .int .i64 M.node, .int .i64 M.inc, .int .i64 M.ses, .int .i64 M.tx, .int .i64 M.seq, .string M.key, .int .i64 M.plo, .int .i64 M.phi, .bool M.vh, .string M.vd, .bool M.hit, .int .i64 M.err, .int .i64 M.n, .slice M.wa M.wl M.wc, .slice M.ka M.kl M.kc] := rfl
      rw [hme]
      simp (maxSteps:=4000000)(disch:=first|assumption|(simp only[dz,Value.cells,oneC];first|done|assumption|omega)|omega|(repeat(first|assumption|exact Fr.refl _ _|with_reducible apply Fr.alloc|with_reducible apply Fr.drew);done)|rfl) only [↓gsd, gs, ev, Nat.reduceAdd, Nat.reduceEqDiff, oneC, Value.cells, Option.isNone, gt, ↓stays_f, ↓stays_fr, stays_xv, true_or, or_true, frT_self, frT_drew, frT_drew0, frT_alloc, ↓c3_9_s, ↓c3_15_s, ↓c3_25_s, ↓c3_24_s, ↓c3_23_s, ↓c3_31_s, ↓c3_30_s, ↓c3_29_s, ↓c3_28_s, ↓c3_27_s, ↓c3_26_s, ↓c3_22_s, ↓c3_34_s, ↓c3_33_s, ↓c3_32_s, ↓c3_21_s, ↓c3_40_s, ↓c3_39_s, ↓c3_38_s, ↓c3_37_s, ↓c3_36_s, ↓c3_35_s, ↓c3_19_s, ↓c3_18_s, ↓c3_17_s, ↓c3_16_s, ↓c3_14_s, ↓c3_42_s, ↓c3_41_s, ↓c3_13_s, ↓c3_12_s, ↓c3_11_s, ↓c3_10_s, ↓c3_8_s, ↓c3_7_s, ↓c3_6_s, ↓c3_5_s, ↓c3_4_s, ↓c3_45_s, ↓c3_44_s, ↓c3_43_s, ↓c3_3_s, ↓c3_2_s, ↓c3_48_s, ↓c3_47_s, ↓c3_46_s, ↓c3_1_s, ↓c3_s, ↓w3t_3, e5]
      generalize hW : World.alloc w5 _ = w6
      have hf6 : Fr [] w5 w6 := by rw [← hW]; (repeat (first | exact Fr.refl _ _ | assumption | with_reducible apply Fr.alloc | with_reducible apply Fr.drew | with_reducible refine Fr.setB ?_ _ _ (.inr (by first | omega | (simp only [gz]; omega))) | with_reducible refine Fr.setB ?_ _ _ (.inl (by first | assumption | simp)) | with_reducible refine Fr.trans' ?_ (by assumption)))
      have hz6 : w6.heap.size = w5.heap.size + 1 := by rw [← hW]; simp only [gz]
      have g6 : w6.heap[w5.heap.size]? = some (.cells (encMsg M).toArray 40 (0, 0)) := by rw [← hW]; exact get_alloc_new _ _
      clear hW
      have cw6 := cur w6
      have hM6 := (hM.frN hf5).frN hf6
      rw [← hme]
      have k64 : k < 64 := by omega
      have hMA : MsgAt w6 M ws [] := by
        rw [hMd]
        exact ⟨hsw.frN hM6.fr, Sl.nil, hw63, by decide⟩
      have hoff : ws ≠ [] → ∀ x, x = a.sb ∨ x = a.sm ∨ x = a.qb → offV M.wv x := fun hne x hx a' n' c' e => by
        have hpos : 0 < ws.length := by cases ws with
          | nil => exact absurd rfl hne
          | cons _ _ => simp
        obtain ⟨bb, of', cap', hb1, hb2⟩ := hsw.lt hpos
        have e' : M.wv = .slice wa ws.length wc := by rw [hMd]; rfl
        rw [e', hb1] at e
        simp only [Value.slice.injEq, Option.some.injEq] at e
        rw [← e.1]
        have := hM.y.1 x (by rcases hx with r | r | r <;> simp [r])
        show bb ≠ x
        omega
      refine handle_spec hM6.at_ hMA hoff (by rw [hI.cfg]; decide) fun vo w7 Wr7 Rd7 h7 s7 a7 => ?_
      have cw7 := cur w7
      have kM : KeepO w6 a Wr Rd w5.heap.size := (hM.frN hf5).at_.fresh (Nat.le_refl _) (by omega)
      have g7 := s7.fr.get g6 kM.toKeep.notin
      have hmx : (encMsg M).toArray = #[.int .i64 1, .int .i64 0, .int .i64 0, .int .i64 k, .int .i64 0, .int .i64 1, .string ⟨#[]⟩, .int .i64 0, .int .i64 0, .bool false, .string ⟨#[]⟩, .bool false, .int .i64 0, .int .i64 0, .slice wa ws.length wc, .slice none 0 0] := by rw [hMd]; rfl
      rw [hmx] at g7
      have n0 : ((0 : Nat) : Int) = 0 := rfl
      have n1 : ((1 : Nat) : Int) = 1 := rfl
      have n2 : ((2 : Nat) : Int) = 2 := rfl
      have t0 : (0 : Int).toNat = 0 := rfl
      have d10 : decide ((1 : Int) = 0) = false := rfl
      have d20 : decide ((2 : Int) = 0) = false := rfl
      have d21 : decide ((2 : Int) = 1) = false := rfl
      have z0 : (0 : Int) ≤ 0 := by decide
      have z1 : (0 : Int) < 1 := by decide
      have z2 : (0 : Int) < 2 := by decide
      have k1' : (k : Int) < ((64 : Nat) : Int) := by omega
      have hb6 := hM6.k6.lt
      have hb7 := hM6.k7.lt
      have hb8 := hM6.k8.lt
      -- behind the stores
      have fin3 : ∀ {o' : Ori} {all' : Int} {e' : Env} {w8 : World} {bb off cap : Nat} {obx : Obj} {n er : Int} {nn : Nat}, Fr [] w7 w8 → OrAt w7 a Wr7 Rd7 o' → 0 < nn → vo = .slice (some ⟨bb, off, none⟩) nn cap → w7.heap[bb]? = some obx →
          (∀ orig K, ldV orig (some obx) (off + 13) K = K (.int .i64 n)) → (∀ orig K, ldV orig (some obx) (off + 12) K = K (.int .i64 er)) → OnceI ls o' (sn.set k true) (ns.set k n) (es.set k er) all' →
          e' 0 = lv → e' 1 = ov → e' 5 = .pointer (some ⟨a.ob, 0, none⟩) → e' 6 = sl64 b6 → e' 7 = sl64 b7 → e' 8 = sl64 b8 → e' 9 = .int .i64 all' → e' 10 = .int .i64 i → e' 11 = .int .i64 k → e' 13 = vo →
          W3 Try.prog 189 V3 c3_23 (blockQ 1 (seqQ (W3 Try.prog 189 V3 c3_15 (seqQ kk (blockQ 0 (seqQ (W3 Try.prog 189 V3 c3_9 (retQ Try.prog [ResultVar.tmp 4] K)) (retQ Try.prog [ResultVar.tmp 4] K))))) (seqQ kk (blockQ 0 (seqQ (W3 Try.prog 189 V3 c3_9 (retQ Try.prog [ResultVar.tmp 4] K)) (retQ Try.prog [ResultVar.tmp 4] K)))))) e' w8 := by
        intro o' all' e' w8 bb off cap obx n er nn hfw hA hnn hvo hob' rn re hI' q0 q1 q5 q6 q7 q8 q9 q10 q11 q13
        have hbb : w6.heap.size ≤ bb := (a7.blk bb (by rw [hvo]; rfl)).1
        have hM7 := (hM6.mid hA s7).frN hfw
        refine once_store hM7.o6 hM7.o7 hM7.o8 hI.l1 hI.l2 hI.l3 k64 hM7.d67 hM7.d68 hM7.d78 (by omega) (by omega) (hfw.getN hob') hnn rn re q6 q7 q8 q11 (by rw [q13, hvo]) fun e2 w8 he p6 p7 p8 hf8 => ?_
        obtain ⟨he0, he1, he5, he6, he7, he8, he9, he10⟩ := he
        have cw8 := cur w8
        simp (maxSteps:=4000000)(disch:=first|assumption|(simp only[dz,Value.cells,oneC];first|done|assumption|omega)|omega|(repeat(first|assumption|exact Fr.refl _ _|with_reducible apply Fr.alloc|with_reducible apply Fr.drew);done)|rfl) only [↓gsd, gs, ev, Nat.reduceAdd, Nat.reduceEqDiff, oneC, Value.cells, Option.isNone, gt, ↓stays_f, ↓stays_fr, stays_xv, true_or, or_true, frT_self, frT_drew, frT_drew0, frT_alloc, ↓hk3, he10, q10, wr]
        refine hk _ _ hil (by simp (maxSteps:=4000000)(disch:=first|assumption|(simp only[dz,Value.cells,oneC];first|done|assumption|omega)|omega|(repeat(first|assumption|exact Fr.refl _ _|with_reducible apply Fr.alloc|with_reducible apply Fr.drew);done)|rfl) only [↓gsd, gs, ev, Nat.reduceAdd, Nat.reduceEqDiff, oneC, Value.cells, Option.isNone]) ?_
        simp (maxSteps:=4000000)(disch:=first|assumption|(simp only[dz,Value.cells,oneC];first|done|assumption|omega)|omega|(repeat(first|assumption|exact Fr.refl _ _|with_reducible apply Fr.alloc|with_reducible apply Fr.drew);done)|rfl) only [↓gsd, gs, ev, Nat.reduceAdd, Nat.reduceEqDiff, oneC, Value.cells, Option.isNone, he0, he1, he5, he6, he7, he8, he9, q0, q1, q5, q6, q7, q8, q9]
        exact ⟨_, _, _, _, _, _, _, rfl, hM7.stored p6 p7 p8 hf8, hI'⟩
      rcases once_step hI k64 hwk wa wc with ⟨st, s1, s2⟩ | ⟨n, er, s1, s2, s3, st⟩ | ⟨s1, x, o', st, hI'⟩ | ⟨s1, er, o', her, st, hI'⟩
      · rw [← hMd] at st
        rw [st] at h7 a7
        have hM7 := hM6.mid h7 s7
        obtain ⟨va, vc, hvo⟩ := a7.form
        obtain ⟨x6, hx6, rd6⟩ := own_read hM7.o6 hI.l1 encB_len s1 (v := .bool false) rfl
        by_cases h0 : 0 < ws.length
        · have dd0 : decide ((0 : Int) < (ws.length : Int)) = true := decide_eq_true (by omega)
          by_cases h9 : ws.length < 9
          · have dd9 : decide ((ws.length : Int) < 9) = true := decide_eq_true (by omega)
            simp (maxSteps:=4000000)(disch:=first|assumption|(simp only[dz,Value.cells,oneC];first|done|assumption|omega)|omega|(repeat(first|assumption|exact Fr.refl _ _|with_reducible apply Fr.alloc|with_reducible apply Fr.drew);done)|rfl) only [↓gsd, gs, ev, Nat.reduceAdd, Nat.reduceEqDiff, oneC, Value.cells, Option.isNone, gt, ↓stays_f, ↓stays_fr, stays_xv, true_or, or_true, frT_self, frT_drew, frT_drew0, frT_alloc, ↓hk3, hvo, List.length_nil, n0, e6, k0, k1', Int.toNat_natCast, Nat.mul_one, hx6, rd6, g7, dd0, dd9]
            refine plain_spec (hsw.frN hM7.fr) hw63 fun w8 hf8 => ?_
            have cw8 := cur w8
            rw [plain_bad s2 h0 h9]
            simp (maxSteps:=4000000)(disch:=first|assumption|(simp only[dz,Value.cells,oneC];first|done|assumption|omega)|omega|(repeat(first|assumption|exact Fr.refl _ _|with_reducible apply Fr.alloc|with_reducible apply Fr.drew);done)|rfl) only [↓gsd, gs, ev, Nat.reduceAdd, Nat.reduceEqDiff, oneC, Value.cells, Option.isNone, gt, ↓stays_f, ↓stays_fr, stays_xv, true_or, or_true, frT_self, frT_drew, frT_drew0, frT_alloc, ↓hk3, e10, wr]
            refine hk _ _ hil (by simp (maxSteps:=4000000)(disch:=first|assumption|(simp only[dz,Value.cells,oneC];first|done|assumption|omega)|omega|(repeat(first|assumption|exact Fr.refl _ _|with_reducible apply Fr.alloc|with_reducible apply Fr.drew);done)|rfl) only [↓gsd, gs, ev, Nat.reduceAdd, Nat.reduceEqDiff, oneC, Value.cells, Option.isNone]) ?_
            simp (maxSteps:=4000000)(disch:=first|assumption|(simp only[dz,Value.cells,oneC];first|done|assumption|omega)|omega|(repeat(first|assumption|exact Fr.refl _ _|with_reducible apply Fr.alloc|with_reducible apply Fr.drew);done)|rfl) only [↓gsd, gs, ev, Nat.reduceAdd, Nat.reduceEqDiff, oneC, Value.cells, Option.isNone, e0, e1, e5, e6, e7, e8, e9, hv1, hv2]
            exact ⟨_, _, _, _, _, _, _, rfl, hM7.frN hf8, hI⟩
          · have dd9 : decide ((ws.length : Int) < 9) = false := decide_eq_false (by omega)
            simp (maxSteps:=4000000)(disch:=first|assumption|(simp only[dz,Value.cells,oneC];first|done|assumption|omega)|omega|(repeat(first|assumption|exact Fr.refl _ _|with_reducible apply Fr.alloc|with_reducible apply Fr.drew);done)|rfl) only [↓gsd, gs, ev, Nat.reduceAdd, Nat.reduceEqDiff, oneC, Value.cells, Option.isNone, gt, ↓stays_f, ↓stays_fr, stays_xv, true_or, or_true, frT_self, frT_drew, frT_drew0, frT_alloc, ↓hk3, hvo, List.length_nil, n0, e6, e10, wr, k0, k1', Int.toNat_natCast, Nat.mul_one, hx6, rd6, g7, dd0, dd9]
            refine hk _ _ hil (by simp (maxSteps:=4000000)(disch:=first|assumption|(simp only[dz,Value.cells,oneC];first|done|assumption|omega)|omega|(repeat(first|assumption|exact Fr.refl _ _|with_reducible apply Fr.alloc|with_reducible apply Fr.drew);done)|rfl) only [↓gsd, gs, ev, Nat.reduceAdd, Nat.reduceEqDiff, oneC, Value.cells, Option.isNone]) ?_
            simp (maxSteps:=4000000)(disch:=first|assumption|(simp only[dz,Value.cells,oneC];first|done|assumption|omega)|omega|(repeat(first|assumption|exact Fr.refl _ _|with_reducible apply Fr.alloc|with_reducible apply Fr.drew);done)|rfl) only [↓gsd, gs, ev, Nat.reduceAdd, Nat.reduceEqDiff, oneC, Value.cells, Option.isNone, e0, e1, e5, e6, e7, e8, e9, hv1, hv2]
            exact ⟨_, _, _, _, _, _, _, rfl, hM7, hI⟩
        · have dd0 : decide ((0 : Int) < (ws.length : Int)) = false := decide_eq_false (by omega)
          simp (maxSteps:=4000000)(disch:=first|assumption|(simp only[dz,Value.cells,oneC];first|done|assumption|omega)|omega|(repeat(first|assumption|exact Fr.refl _ _|with_reducible apply Fr.alloc|with_reducible apply Fr.drew);done)|rfl) only [↓gsd, gs, ev, Nat.reduceAdd, Nat.reduceEqDiff, oneC, Value.cells, Option.isNone, gt, ↓stays_f, ↓stays_fr, stays_xv, true_or, or_true, frT_self, frT_drew, frT_drew0, frT_alloc, ↓hk3, hvo, List.length_nil, n0, e6, e10, wr, k0, k1', Int.toNat_natCast, Nat.mul_one, hx6, rd6, g7, dd0]
          refine hk _ _ hil (by simp (maxSteps:=4000000)(disch:=first|assumption|(simp only[dz,Value.cells,oneC];first|done|assumption|omega)|omega|(repeat(first|assumption|exact Fr.refl _ _|with_reducible apply Fr.alloc|with_reducible apply Fr.drew);done)|rfl) only [↓gsd, gs, ev, Nat.reduceAdd, Nat.reduceEqDiff, oneC, Value.cells, Option.isNone]) ?_
          simp (maxSteps:=4000000)(disch:=first|assumption|(simp only[dz,Value.cells,oneC];first|done|assumption|omega)|omega|(repeat(first|assumption|exact Fr.refl _ _|with_reducible apply Fr.alloc|with_reducible apply Fr.drew);done)|rfl) only [↓gsd, gs, ev, Nat.reduceAdd, Nat.reduceEqDiff, oneC, Value.cells, Option.isNone, e0, e1, e5, e6, e7, e8, e9, hv1, hv2]
          exact ⟨_, _, _, _, _, _, _, rfl, hM7, hI⟩
      · rw [← hMd] at st
        rw [st] at h7 a7
        have hM7 := hM6.mid h7 s7
        have hkA := AnsAt.keep hM6.at_ a7
        obtain ⟨m', bb, off, cap, obx, ia, hvo, hob', ltb, _, rr⟩ := hkA.read 0 _ rfl
        rw [hMd] at ia
        have enc := ack_enc ia
        have r0 := fun orig K => rr 0 (.int .i64 2) orig K (by rw [enc]; rfl)
        have r3 := fun orig K => rr 3 (.int .i64 k) orig K (by rw [enc]; rfl)
        have r5 := fun orig K => rr 5 (.int .i64 1) orig K (by rw [enc]; rfl)
        have r12 := fun orig K => rr 12 (.int .i64 er) orig K (by rw [enc]; rfl)
        have r13 := fun orig K => rr 13 (.int .i64 n) orig K (by rw [enc]; rfl)
        simp only [Nat.zero_mul, Nat.add_zero] at r0 r3 r5 r12 r13
        simp only [List.length_cons, List.length_nil, Nat.zero_add] at hvo
        obtain ⟨x6, hx6, rd6⟩ := own_read hM7.o6 hI.l1 encB_len s1 (v := .bool true) rfl
        obtain ⟨x7, hx7, rd7⟩ := own_read hM7.o7 hI.l2 encI_len s2 (v := .int .i64 n) rfl
        obtain ⟨x8, hx8, rd8⟩ := own_read hM7.o8 hI.l3 encI_len s3 (v := .int .i64 er) rfl
        simp (maxSteps:=4000000)(disch:=first|assumption|(simp only[dz,Value.cells,oneC];first|done|assumption|omega)|omega|(repeat(first|assumption|exact Fr.refl _ _|with_reducible apply Fr.alloc|with_reducible apply Fr.drew);done)|rfl) only [↓gsd, gs, ev, Nat.reduceAdd, Nat.reduceEqDiff, oneC, Value.cells, Option.isNone, gt, ↓stays_f, ↓stays_fr, stays_xv, true_or, or_true, frT_self, frT_drew, frT_drew0, frT_alloc, ↓c3_9_s, ↓c3_15_s, ↓c3_25_s, ↓c3_24_s, ↓c3_31_s, ↓c3_30_s, ↓c3_29_s, ↓c3_28_s, ↓c3_27_s, ↓c3_26_s, ↓c3_22_s, ↓c3_34_s, ↓c3_33_s, ↓c3_32_s, ↓c3_21_s, ↓c3_40_s, ↓c3_39_s, ↓c3_38_s, ↓c3_37_s, ↓c3_36_s, ↓c3_35_s, ↓c3_20_s, ↓c3_19_s, ↓c3_18_s, ↓c3_17_s, ↓c3_16_s, ↓c3_14_s, ↓c3_42_s, ↓c3_41_s, ↓c3_13_s, ↓c3_12_s, ↓c3_11_s, ↓c3_10_s, ↓c3_8_s, ↓c3_7_s, ↓c3_6_s, ↓c3_5_s, ↓c3_4_s, ↓c3_45_s, ↓c3_44_s, ↓c3_43_s, ↓c3_3_s, ↓c3_2_s, ↓c3_48_s, ↓c3_47_s, ↓c3_46_s, ↓c3_1_s, ↓c3_s, ↓w3t_3, hvo, n0, n1, n2, t0, z0, z1, z2, e6, e7, e8, k0, k1', Int.toNat_natCast, Nat.mul_one, Nat.zero_mul, Nat.add_zero, hx6, rd6, hx7, rd7, hx8, rd8, hob', r0, r3, r5, r12, r13, d10, d20, d21]
        refine fin3 (all' := all) (n := n) (er := er) (by (repeat (first | exact Fr.refl _ _ | assumption | with_reducible apply Fr.alloc | with_reducible apply Fr.drew | with_reducible refine Fr.setB ?_ _ _ (.inr (by first | omega | (simp only [gz]; omega))) | with_reducible refine Fr.setB ?_ _ _ (.inl (by first | assumption | simp)) | with_reducible refine Fr.trans' ?_ (by assumption)))) h7 (by decide) hvo hob' r13 r12 ?_ (by simp (maxSteps:=4000000)(disch:=first|assumption|(simp only[dz,Value.cells,oneC];first|done|assumption|omega)|omega|(repeat(first|assumption|exact Fr.refl _ _|with_reducible apply Fr.alloc|with_reducible apply Fr.drew);done)|rfl) only [↓gsd, gs, ev, Nat.reduceAdd, Nat.reduceEqDiff, oneC, Value.cells, Option.isNone, e0]) (by simp (maxSteps:=4000000)(disch:=first|assumption|(simp only[dz,Value.cells,oneC];first|done|assumption|omega)|omega|(repeat(first|assumption|exact Fr.refl _ _|with_reducible apply Fr.alloc|with_reducible apply Fr.drew);done)|rfl) only [↓gsd, gs, ev, Nat.reduceAdd, Nat.reduceEqDiff, oneC, Value.cells, Option.isNone, e1]) (by simp (maxSteps:=4000000)(disch:=first|assumption|(simp only[dz,Value.cells,oneC];first|done|assumption|omega)|omega|(repeat(first|assumption|exact Fr.refl _ _|with_reducible apply Fr.alloc|with_reducible apply Fr.drew);done)|rfl) only [↓gsd, gs, ev, Nat.reduceAdd, Nat.reduceEqDiff, oneC, Value.cells, Option.isNone, e5]) (by simp (maxSteps:=4000000)(disch:=first|assumption|(simp only[dz,Value.cells,oneC];first|done|assumption|omega)|omega|(repeat(first|assumption|exact Fr.refl _ _|with_reducible apply Fr.alloc|with_reducible apply Fr.drew);done)|rfl) only [↓gsd, gs, ev, Nat.reduceAdd, Nat.reduceEqDiff, oneC, Value.cells, Option.isNone, e6]) (by simp (maxSteps:=4000000)(disch:=first|assumption|(simp only[dz,Value.cells,oneC];first|done|assumption|omega)|omega|(repeat(first|assumption|exact Fr.refl _ _|with_reducible apply Fr.alloc|with_reducible apply Fr.drew);done)|rfl) only [↓gsd, gs, ev, Nat.reduceAdd, Nat.reduceEqDiff, oneC, Value.cells, Option.isNone, e7]) (by simp (maxSteps:=4000000)(disch:=first|assumption|(simp only[dz,Value.cells,oneC];first|done|assumption|omega)|omega|(repeat(first|assumption|exact Fr.refl _ _|with_reducible apply Fr.alloc|with_reducible apply Fr.drew);done)|rfl) only [↓gsd, gs, ev, Nat.reduceAdd, Nat.reduceEqDiff, oneC, Value.cells, Option.isNone, e8]) (by simp (maxSteps:=4000000)(disch:=first|assumption|(simp only[dz,Value.cells,oneC];first|done|assumption|omega)|omega|(repeat(first|assumption|exact Fr.refl _ _|with_reducible apply Fr.alloc|with_reducible apply Fr.drew);done)|rfl) only [↓gsd, gs, ev, Nat.reduceAdd, Nat.reduceEqDiff, oneC, Value.cells, Option.isNone, e9]) (by simp (maxSteps:=4000000)(disch:=first|assumption|(simp only[dz,Value.cells,oneC];first|done|assumption|omega)|omega|(repeat(first|assumption|exact Fr.refl _ _|with_reducible apply Fr.alloc|with_reducible apply Fr.drew);done)|rfl) only [↓gsd, gs, ev, Nat.reduceAdd, Nat.reduceEqDiff, oneC, Value.cells, Option.isNone, e10]) (by simp (maxSteps:=4000000)(disch:=first|assumption|(simp only[dz,Value.cells,oneC];first|done|assumption|omega)|omega|(repeat(first|assumption|exact Fr.refl _ _|with_reducible apply Fr.alloc|with_reducible apply Fr.drew);done)|rfl) only [↓gsd, gs, ev, Nat.reduceAdd, Nat.reduceEqDiff, oneC, Value.cells, Option.isNone]) (by simp (maxSteps:=4000000)(disch:=first|assumption|(simp only[dz,Value.cells,oneC];first|done|assumption|omega)|omega|(repeat(first|assumption|exact Fr.refl _ _|with_reducible apply Fr.alloc|with_reducible apply Fr.drew);done)|rfl) only [↓gsd, gs, ev, Nat.reduceAdd, Nat.reduceEqDiff, oneC, Value.cells, Option.isNone, hvo])
        rw [set_same s1, set_same s2, set_same s3]
        exact hI
      · rw [← hMd] at st
        rw [st] at h7 a7
        have hM7 := hM6.mid h7 s7
        have hkA := AnsAt.keep hM6.at_ a7
        obtain ⟨m', bb, off, cap, obx, ia, hvo, hob', ltb, _, rr⟩ := hkA.read 0 _ rfl
        rw [hMd] at ia
        have enc := ack_enc ia
        have r0 := fun orig K => rr 0 (.int .i64 2) orig K (by rw [enc]; rfl)
        have r3 := fun orig K => rr 3 (.int .i64 k) orig K (by rw [enc]; rfl)
        have r5 := fun orig K => rr 5 (.int .i64 1) orig K (by rw [enc]; rfl)
        have r12 := fun orig K => rr 12 (.int .i64 0) orig K (by rw [enc]; rfl)
        have r13 := fun orig K => rr 13 (.int .i64 (all + 1)) orig K (by rw [enc]; rfl)
        simp only [Nat.zero_mul, Nat.add_zero] at r0 r3 r5 r12 r13
        simp only [List.length_cons, List.length_nil, Nat.zero_add, Nat.reduceAdd] at hvo
        obtain ⟨x6, hx6, rd6⟩ := own_read hM7.o6 hI.l1 encB_len s1 (v := .bool false) rfl
        have wa1 : IntKind.i64.wrap (all + 1) = all + 1 := by
          have hl := hI.last
          have hw := h7.wf.l0
          refine wrap64 ?_ ?_
          · have := hI.nn
            omega
          · omega
        simp (maxSteps:=4000000)(disch:=first|assumption|(simp only[dz,Value.cells,oneC];first|done|assumption|omega)|omega|(repeat(first|assumption|exact Fr.refl _ _|with_reducible apply Fr.alloc|with_reducible apply Fr.drew);done)|rfl) only [↓gsd, gs, ev, Nat.reduceAdd, Nat.reduceEqDiff, oneC, Value.cells, Option.isNone, gt, ↓stays_f, ↓stays_fr, stays_xv, true_or, or_true, frT_self, frT_drew, frT_drew0, frT_alloc, ↓c3_9_s, ↓c3_15_s, ↓c3_25_s, ↓c3_24_s, ↓c3_31_s, ↓c3_30_s, ↓c3_29_s, ↓c3_28_s, ↓c3_27_s, ↓c3_26_s, ↓c3_22_s, ↓c3_34_s, ↓c3_33_s, ↓c3_32_s, ↓c3_21_s, ↓c3_40_s, ↓c3_39_s, ↓c3_38_s, ↓c3_37_s, ↓c3_36_s, ↓c3_35_s, ↓c3_20_s, ↓c3_19_s, ↓c3_18_s, ↓c3_17_s, ↓c3_16_s, ↓c3_14_s, ↓c3_42_s, ↓c3_41_s, ↓c3_13_s, ↓c3_12_s, ↓c3_11_s, ↓c3_10_s, ↓c3_8_s, ↓c3_7_s, ↓c3_6_s, ↓c3_5_s, ↓c3_4_s, ↓c3_45_s, ↓c3_44_s, ↓c3_43_s, ↓c3_3_s, ↓c3_2_s, ↓c3_48_s, ↓c3_47_s, ↓c3_46_s, ↓c3_1_s, ↓c3_s, ↓w3t_3, hvo, n0, n1, n2, t0, z0, z1, z2, d10, d20, d21, e6, e7, e8, k0, k1', Int.toNat_natCast, Nat.mul_one, Nat.zero_mul, Nat.add_zero, hx6, rd6, hob', r0, r3, r5, r12, r13, e9, wa1]
        exact fin3 (n := all + 1) (er := 0) (by (repeat (first | exact Fr.refl _ _ | assumption | with_reducible apply Fr.alloc | with_reducible apply Fr.drew | with_reducible refine Fr.setB ?_ _ _ (.inr (by first | omega | (simp only [gz]; omega))) | with_reducible refine Fr.setB ?_ _ _ (.inl (by first | assumption | simp)) | with_reducible refine Fr.trans' ?_ (by assumption)))) h7 (by decide) hvo hob' r13 r12 hI' (by simp (maxSteps:=4000000)(disch:=first|assumption|(simp only[dz,Value.cells,oneC];first|done|assumption|omega)|omega|(repeat(first|assumption|exact Fr.refl _ _|with_reducible apply Fr.alloc|with_reducible apply Fr.drew);done)|rfl) only [↓gsd, gs, ev, Nat.reduceAdd, Nat.reduceEqDiff, oneC, Value.cells, Option.isNone, e0]) (by simp (maxSteps:=4000000)(disch:=first|assumption|(simp only[dz,Value.cells,oneC];first|done|assumption|omega)|omega|(repeat(first|assumption|exact Fr.refl _ _|with_reducible apply Fr.alloc|with_reducible apply Fr.drew);done)|rfl) only [↓gsd, gs, ev, Nat.reduceAdd, Nat.reduceEqDiff, oneC, Value.cells, Option.isNone, e1]) (by simp (maxSteps:=4000000)(disch:=first|assumption|(simp only[dz,Value.cells,oneC];first|done|assumption|omega)|omega|(repeat(first|assumption|exact Fr.refl _ _|with_reducible apply Fr.alloc|with_reducible apply Fr.drew);done)|rfl) only [↓gsd, gs, ev, Nat.reduceAdd, Nat.reduceEqDiff, oneC, Value.cells, Option.isNone, e5]) (by simp (maxSteps:=4000000)(disch:=first|assumption|(simp only[dz,Value.cells,oneC];first|done|assumption|omega)|omega|(repeat(first|assumption|exact Fr.refl _ _|with_reducible apply Fr.alloc|with_reducible apply Fr.drew);done)|rfl) only [↓gsd, gs, ev, Nat.reduceAdd, Nat.reduceEqDiff, oneC, Value.cells, Option.isNone, e6]) (by simp (maxSteps:=4000000)(disch:=first|assumption|(simp only[dz,Value.cells,oneC];first|done|assumption|omega)|omega|(repeat(first|assumption|exact Fr.refl _ _|with_reducible apply Fr.alloc|with_reducible apply Fr.drew);done)|rfl) only [↓gsd, gs, ev, Nat.reduceAdd, Nat.reduceEqDiff, oneC, Value.cells, Option.isNone, e7]) (by simp (maxSteps:=4000000)(disch:=first|assumption|(simp only[dz,Value.cells,oneC];first|done|assumption|omega)|omega|(repeat(first|assumption|exact Fr.refl _ _|with_reducible apply Fr.alloc|with_reducible apply Fr.drew);done)|rfl) only [↓gsd, gs, ev, Nat.reduceAdd, Nat.reduceEqDiff, oneC, Value.cells, Option.isNone, e8]) (by simp (maxSteps:=4000000)(disch:=first|assumption|(simp only[dz,Value.cells,oneC];first|done|assumption|omega)|omega|(repeat(first|assumption|exact Fr.refl _ _|with_reducible apply Fr.alloc|with_reducible apply Fr.drew);done)|rfl) only [↓gsd, gs, ev, Nat.reduceAdd, Nat.reduceEqDiff, oneC, Value.cells, Option.isNone, e9, wa1]) (by simp (maxSteps:=4000000)(disch:=first|assumption|(simp only[dz,Value.cells,oneC];first|done|assumption|omega)|omega|(repeat(first|assumption|exact Fr.refl _ _|with_reducible apply Fr.alloc|with_reducible apply Fr.drew);done)|rfl) only [↓gsd, gs, ev, Nat.reduceAdd, Nat.reduceEqDiff, oneC, Value.cells, Option.isNone, e10]) (by simp (maxSteps:=4000000)(disch:=first|assumption|(simp only[dz,Value.cells,oneC];first|done|assumption|omega)|omega|(repeat(first|assumption|exact Fr.refl _ _|with_reducible apply Fr.alloc|with_reducible apply Fr.drew);done)|rfl) only [↓gsd, gs, ev, Nat.reduceAdd, Nat.reduceEqDiff, oneC, Value.cells, Option.isNone]) (by simp (maxSteps:=4000000)(disch:=first|assumption|(simp only[dz,Value.cells,oneC];first|done|assumption|omega)|omega|(repeat(first|assumption|exact Fr.refl _ _|with_reducible apply Fr.alloc|with_reducible apply Fr.drew);done)|rfl) only [↓gsd, gs, ev, Nat.reduceAdd, Nat.reduceEqDiff, oneC, Value.cells, Option.isNone, hvo])
      · rw [← hMd] at st
        rw [st] at h7 a7
        have hM7 := hM6.mid h7 s7
        have hkA := AnsAt.keep hM6.at_ a7
        obtain ⟨m', bb, off, cap, obx, ia, hvo, hob', ltb, _, rr⟩ := hkA.read 0 _ rfl
        rw [hMd] at ia
        have enc := ack_enc ia
        have r0 := fun orig K => rr 0 (.int .i64 2) orig K (by rw [enc]; rfl)
        have r3 := fun orig K => rr 3 (.int .i64 k) orig K (by rw [enc]; rfl)
        have r5 := fun orig K => rr 5 (.int .i64 1) orig K (by rw [enc]; rfl)
        have r12 := fun orig K => rr 12 (.int .i64 er) orig K (by rw [enc]; rfl)
        have r13 := fun orig K => rr 13 (.int .i64 (0)) orig K (by rw [enc]; rfl)
        simp only [Nat.zero_mul, Nat.add_zero] at r0 r3 r5 r12 r13
        simp only [List.length_cons, List.length_nil, Nat.zero_add, Nat.reduceAdd] at hvo
        obtain ⟨x6, hx6, rd6⟩ := own_read hM7.o6 hI.l1 encB_len s1 (v := .bool false) rfl
        have de : decide (er = 0) = false := decide_eq_false her
        simp (maxSteps:=4000000)(disch:=first|assumption|(simp only[dz,Value.cells,oneC];first|done|assumption|omega)|omega|(repeat(first|assumption|exact Fr.refl _ _|with_reducible apply Fr.alloc|with_reducible apply Fr.drew);done)|rfl) only [↓gsd, gs, ev, Nat.reduceAdd, Nat.reduceEqDiff, oneC, Value.cells, Option.isNone, gt, ↓stays_f, ↓stays_fr, stays_xv, true_or, or_true, frT_self, frT_drew, frT_drew0, frT_alloc, ↓c3_9_s, ↓c3_15_s, ↓c3_25_s, ↓c3_24_s, ↓c3_31_s, ↓c3_30_s, ↓c3_29_s, ↓c3_28_s, ↓c3_27_s, ↓c3_26_s, ↓c3_22_s, ↓c3_34_s, ↓c3_33_s, ↓c3_32_s, ↓c3_21_s, ↓c3_40_s, ↓c3_39_s, ↓c3_38_s, ↓c3_37_s, ↓c3_36_s, ↓c3_35_s, ↓c3_20_s, ↓c3_19_s, ↓c3_18_s, ↓c3_17_s, ↓c3_16_s, ↓c3_14_s, ↓c3_42_s, ↓c3_41_s, ↓c3_13_s, ↓c3_12_s, ↓c3_11_s, ↓c3_10_s, ↓c3_8_s, ↓c3_7_s, ↓c3_6_s, ↓c3_5_s, ↓c3_4_s, ↓c3_45_s, ↓c3_44_s, ↓c3_43_s, ↓c3_3_s, ↓c3_2_s, ↓c3_48_s, ↓c3_47_s, ↓c3_46_s, ↓c3_1_s, ↓c3_s, ↓w3t_3, hvo, n0, n1, n2, t0, z0, z1, z2, d10, d20, d21, e6, e7, e8, k0, k1', Int.toNat_natCast, Nat.mul_one, Nat.zero_mul, Nat.add_zero, hx6, rd6, hob', r0, r3, r5, r12, r13, de]
        exact fin3 (n := 0) (er := er) (by (repeat (first | exact Fr.refl _ _ | assumption | with_reducible apply Fr.alloc | with_reducible apply Fr.drew | with_reducible refine Fr.setB ?_ _ _ (.inr (by first | omega | (simp only [gz]; omega))) | with_reducible refine Fr.setB ?_ _ _ (.inl (by first | assumption | simp)) | with_reducible refine Fr.trans' ?_ (by assumption)))) h7 (by decide) hvo hob' r13 r12 hI' (by simp (maxSteps:=4000000)(disch:=first|assumption|(simp only[dz,Value.cells,oneC];first|done|assumption|omega)|omega|(repeat(first|assumption|exact Fr.refl _ _|with_reducible apply Fr.alloc|with_reducible apply Fr.drew);done)|rfl) only [↓gsd, gs, ev, Nat.reduceAdd, Nat.reduceEqDiff, oneC, Value.cells, Option.isNone, e0]) (by simp (maxSteps:=4000000)(disch:=first|assumption|(simp only[dz,Value.cells,oneC];first|done|assumption|omega)|omega|(repeat(first|assumption|exact Fr.refl _ _|with_reducible apply Fr.alloc|with_reducible apply Fr.drew);done)|rfl) only [↓gsd, gs, ev, Nat.reduceAdd, Nat.reduceEqDiff, oneC, Value.cells, Option.isNone, e1]) (by simp (maxSteps:=4000000)(disch:=first|assumption|(simp only[dz,Value.cells,oneC];first|done|assumption|omega)|omega|(repeat(first|assumption|exact Fr.refl _ _|with_reducible apply Fr.alloc|with_reducible apply Fr.drew);done)|rfl) only [↓gsd, gs, ev, Nat.reduceAdd, Nat.reduceEqDiff, oneC, Value.cells, Option.isNone, e5]) (by simp (maxSteps:=4000000)(disch:=first|assumption|(simp only[dz,Value.cells,oneC];first|done|assumption|omega)|omega|(repeat(first|assumption|exact Fr.refl _ _|with_reducible apply Fr.alloc|with_reducible apply Fr.drew);done)|rfl) only [↓gsd, gs, ev, Nat.reduceAdd, Nat.reduceEqDiff, oneC, Value.cells, Option.isNone, e6]) (by simp (maxSteps:=4000000)(disch:=first|assumption|(simp only[dz,Value.cells,oneC];first|done|assumption|omega)|omega|(repeat(first|assumption|exact Fr.refl _ _|with_reducible apply Fr.alloc|with_reducible apply Fr.drew);done)|rfl) only [↓gsd, gs, ev, Nat.reduceAdd, Nat.reduceEqDiff, oneC, Value.cells, Option.isNone, e7]) (by simp (maxSteps:=4000000)(disch:=first|assumption|(simp only[dz,Value.cells,oneC];first|done|assumption|omega)|omega|(repeat(first|assumption|exact Fr.refl _ _|with_reducible apply Fr.alloc|with_reducible apply Fr.drew);done)|rfl) only [↓gsd, gs, ev, Nat.reduceAdd, Nat.reduceEqDiff, oneC, Value.cells, Option.isNone, e8]) (by simp (maxSteps:=4000000)(disch:=first|assumption|(simp only[dz,Value.cells,oneC];first|done|assumption|omega)|omega|(repeat(first|assumption|exact Fr.refl _ _|with_reducible apply Fr.alloc|with_reducible apply Fr.drew);done)|rfl) only [↓gsd, gs, ev, Nat.reduceAdd, Nat.reduceEqDiff, oneC, Value.cells, Option.isNone, e9]) (by simp (maxSteps:=4000000)(disch:=first|assumption|(simp only[dz,Value.cells,oneC];first|done|assumption|omega)|omega|(repeat(first|assumption|exact Fr.refl _ _|with_reducible apply Fr.alloc|with_reducible apply Fr.drew);done)|rfl) only [↓gsd, gs, ev, Nat.reduceAdd, Nat.reduceEqDiff, oneC, Value.cells, Option.isNone, e10]) (by simp (maxSteps:=4000000)(disch:=first|assumption|(simp only[dz,Value.cells,oneC];first|done|assumption|omega)|omega|(repeat(first|assumption|exact Fr.refl _ _|with_reducible apply Fr.alloc|with_reducible apply Fr.drew);done)|rfl) only [↓gsd, gs, ev, Nat.reduceAdd, Nat.reduceEqDiff, oneC, Value.cells, Option.isNone]) (by simp (maxSteps:=4000000)(disch:=first|assumption|(simp only[dz,Value.cells,oneC];first|done|assumption|omega)|omega|(repeat(first|assumption|exact Fr.refl _ _|with_reducible apply Fr.alloc|with_reducible apply Fr.drew);done)|rfl) only [↓gsd, gs, ev, Nat.reduceAdd, Nat.reduceEqDiff, oneC, Value.cells, Option.isNone, hvo])
    · have d0 : decide ((0 : Int) < (ms.length : Int)) = false := decide_eq_false (by omega)
      simp (maxSteps:=4000000)(disch:=first|assumption|(simp only[dz,Value.cells,oneC];first|done|assumption|omega)|omega|(repeat(first|assumption|exact Fr.refl _ _|with_reducible apply Fr.alloc|with_reducible apply Fr.drew);done)|rfl) only [↓gsd, gs, ev, Nat.reduceAdd, Nat.reduceEqDiff, oneC, Value.cells, Option.isNone, gt, ↓stays_f, ↓stays_fr, stays_xv, true_or, or_true, frT_self, frT_drew, frT_drew0, frT_alloc, ↓c3_15_s, ↓c3_25_s, ↓c3_24_s, ↓c3_23_s, ↓c3_31_s, ↓c3_30_s, ↓c3_29_s, ↓c3_28_s, ↓c3_27_s, ↓c3_26_s, ↓c3_22_s, ↓c3_34_s, ↓c3_33_s, ↓c3_32_s, ↓c3_21_s, ↓c3_40_s, ↓c3_39_s, ↓c3_38_s, ↓c3_37_s, ↓c3_36_s, ↓c3_35_s, ↓c3_20_s, ↓c3_19_s, ↓c3_18_s, ↓c3_17_s, ↓c3_16_s, ↓c3_14_s, ↓c3_42_s, ↓c3_41_s, ↓c3_13_s, ↓c3_12_s, ↓c3_11_s, ↓c3_10_s, ↓c3_8_s, ↓c3_7_s, ↓c3_6_s, ↓c3_5_s, ↓c3_4_s, ↓c3_45_s, ↓c3_44_s, ↓c3_43_s, ↓c3_3_s, ↓c3_2_s, ↓c3_48_s, ↓c3_47_s, ↓c3_46_s, ↓c3_1_s, ↓c3_s, ↓w3t_3, e0, e1, e10, hlv, hov, d, d0]
      exact tail _ (by simp (maxSteps:=4000000)(disch:=first|assumption|(simp only[dz,Value.cells,oneC];first|done|assumption|omega)|omega|(repeat(first|assumption|exact Fr.refl _ _|with_reducible apply Fr.alloc|with_reducible apply Fr.drew);done)|rfl) only [↓gsd, gs, ev, Nat.reduceAdd, Nat.reduceEqDiff, oneC, Value.cells, Option.isNone, e5]) (by simp (maxSteps:=4000000)(disch:=first|assumption|(simp only[dz,Value.cells,oneC];first|done|assumption|omega)|omega|(repeat(first|assumption|exact Fr.refl _ _|with_reducible apply Fr.alloc|with_reducible apply Fr.drew);done)|rfl) only [↓gsd, gs, ev, Nat.reduceAdd, Nat.reduceEqDiff, oneC, Value.cells, Option.isNone, e9])
  · have d : decide ((i : Int) < (us.length : Int)) = false := decide_eq_false (by omega)
    simp (maxSteps:=4000000)(disch:=first|assumption|(simp only[dz,Value.cells,oneC];first|done|assumption|omega)|omega|(repeat(first|assumption|exact Fr.refl _ _|with_reducible apply Fr.alloc|with_reducible apply Fr.drew);done)|rfl) only [↓gsd, gs, ev, Nat.reduceAdd, Nat.reduceEqDiff, oneC, Value.cells, Option.isNone, gt, ↓stays_f, ↓stays_fr, stays_xv, true_or, or_true, frT_self, frT_drew, frT_drew0, frT_alloc, ↓c3_15_s, ↓c3_25_s, ↓c3_24_s, ↓c3_23_s, ↓c3_31_s, ↓c3_30_s, ↓c3_29_s, ↓c3_28_s, ↓c3_27_s, ↓c3_26_s, ↓c3_22_s, ↓c3_34_s, ↓c3_33_s, ↓c3_32_s, ↓c3_21_s, ↓c3_40_s, ↓c3_39_s, ↓c3_38_s, ↓c3_37_s, ↓c3_36_s, ↓c3_35_s, ↓c3_20_s, ↓c3_19_s, ↓c3_18_s, ↓c3_17_s, ↓c3_16_s, ↓c3_14_s, ↓c3_42_s, ↓c3_41_s, ↓c3_13_s, ↓c3_12_s, ↓c3_11_s, ↓c3_10_s, ↓c3_8_s, ↓c3_7_s, ↓c3_6_s, ↓c3_5_s, ↓c3_4_s, ↓c3_45_s, ↓c3_44_s, ↓c3_43_s, ↓c3_3_s, ↓c3_2_s, ↓c3_48_s, ↓c3_47_s, ↓c3_46_s, ↓c3_1_s, ↓c3_s, ↓w3t_3, e0, e1, e10, hlv, hov, d]
    exact tail _ (by simp (maxSteps:=4000000)(disch:=first|assumption|(simp only[dz,Value.cells,oneC];first|done|assumption|omega)|omega|(repeat(first|assumption|exact Fr.refl _ _|with_reducible apply Fr.alloc|with_reducible apply Fr.drew);done)|rfl) only [↓gsd, gs, ev, Nat.reduceAdd, Nat.reduceEqDiff, oneC, Value.cells, Option.isNone, e5]) (by simp (maxSteps:=4000000)(disch:=first|assumption|(simp only[dz,Value.cells,oneC];first|done|assumption|omega)|omega|(repeat(first|assumption|exact Fr.refl _ _|with_reducible apply Fr.alloc|with_reducible apply Fr.drew);done)|rfl) only [↓gsd, gs, ev, Nat.reduceAdd, Nat.reduceEqDiff, oneC, Value.cells, Option.isNone, e9])
end Go.Proofs.Ytgloomahpjpiiaa.Or
