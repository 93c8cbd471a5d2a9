/- NodeSqueezes, walked. -/
import Derived.Test.YtomlgkecckffeaaGreatYD
set_option linter.unusedVariables false
set_option linter.unusedSimpArgs false
set_option maxRecDepth 10000
namespace Go.Proofs.YtomlgkecckffeaaGreat
open Go.VW
set_option maxHeartbeats 32000000 in
theorem sq_script {W w : World} {a : Lay} {c : Cfg} {M : Mem} {v : Value} {os : List Op12} {e : Env} {k : Env → World → Prop} {Q : Exit → Env → World → Prop} (h : NodeIn W w a c 1 M 0) (hc : CfgOK c) (hs : OpsAt W v os)
  (e1 : e 1 = v) (e5 : e 5 = .pointer (some ⟨a.nb, 0, none⟩))
  (hK : ∀ e' w' S' M', NodeIn W w' { a with S := S' } c 1 M' os.length → e' 5 = e 5 → k e' w') :
  W3 Tryz.prog 154 V7 c7_28 (seqQ k Q) e w := by
 have cw := cur w
 rw [e5] at hK
 obtain ⟨va, vc, hv⟩ := hs.sl.form
 simp (maxSteps:=9^7)(disch:=first|assumption|(simp only[dz];first|done|assumption|omega)|omega|apply_rules[Fr.refl,Fr.alloc,Fr.drew]|rfl) only [↓gd,gp,Nat.reduceAdd,Nat.reduceEqDiff, ↓hk7]
 refine for_intro os.length 6 0 (fun i e1 w' => ∃ S M', e1 1 = v ∧ e1 5 = .pointer (some ⟨a.nb, 0, none⟩) ∧ NodeIn W w' { a with S := S } c 1 M' i) ?_ (Nat.zero_le _) ?_ ?_
 ·simp (maxSteps:=9^7)(disch:=first|assumption|(simp only[dz];first|done|assumption|omega)|omega|apply_rules[Fr.refl,Fr.alloc,Fr.drew]|rfl) only [↓gsd,gs,gv,Nat.reduceAdd,Nat.reduceEqDiff, Int.natCast_zero]
 ·refine ⟨a.S, M, ?_⟩
  simp (maxSteps:=9^7)(disch:=first|assumption|(simp only[dz];first|done|assumption|omega)|omega|apply_rules[Fr.refl,Fr.alloc,Fr.drew]|rfl) only [↓gsd,gs,gv,Nat.reduceAdd,Nat.reduceEqDiff, e1, e5, Int.natCast_zero]
  exact h
 rintro i e2 w1 kk hi eS ⟨S, M1, r1, r5, h1⟩ hkk
 have cw1 := cur w1
 have hs1 := hs.frN h1.fr
 have hll := hs.len
 by_cases hil : i < os.length
 ·have d1 : decide ((i : Int) < (os.length : Int)) = true := decide_eq_true (by omega)
  obtain ⟨o, ho⟩ : ∃ o, os[i]? = some o := ⟨os[i], List.getElem?_eq_getElem hil⟩
  obtain ⟨ks, hok, hkl⟩ := hs1.ok o (List.mem_of_getElem? ho)
  obtain ⟨b1, o1, p1, ob1, hv1, hb1, hbl1, hr1, _⟩ := hs1.sl.read encOp12_len i o ho
  have i0 : (0 : Int) ≤ (i : Int) := by omega
  have i1 : (i : Int) < (os.length : Int) := by omega
  have wi : IntKind.i64.wrap ((i : Int) + 1) = (i : Int) + 1 := wrap64 (by omega) (by omega)
  have fin : ∀ (e' : Env) (w' : World) (S' : List Nat) (M' : Mem), NodeIn W w' { a with S := S' } c 1 M' ((i : Int) + 1) → e' 1 = v → e' 5 = .pointer (some ⟨a.nb, 0, none⟩) → e' 6 = .int .i64 ((i : Int) + 1) → kk e' w' := fun e' w' S' M' q1 q2 q3 q4 => hkk e' w' hil q4 ⟨S', M', q2, q3, q1⟩
  rw [hv1] at r1
  unfold encOp12 at hr1
  simp (maxSteps:=9^7)(disch:=first|assumption|(simp only[dz];first|done|assumption|omega)|omega|apply_rules[Fr.refl,Fr.alloc,Fr.drew]|rfl) only [↓gd,gp,Nat.reduceAdd,Nat.reduceEqDiff, ↓hk7, r1, r5, eS, d1, i0, i1, Int.toNat_natCast, Nat.mul_one, hb1, hr1, run_rem]
  generalize hW : World.alloc w1 _ = w2
  have hf2 : Fr [] w1 w2 := by rw [← hW]; exact fr_
  clear hW
  have cw2 := cur w2
  have h2 := h1.frN hf2
  cases p0 : decide (o.k.tmod 3 = 0) with
  | true =>
    simp (maxSteps:=9^7)(disch:=first|assumption|(simp only[dz];first|done|assumption|omega)|omega|apply_rules[Fr.refl,Fr.alloc,Fr.drew]|rfl) only [↓gd,gp,Nat.reduceAdd,Nat.reduceEqDiff, ↓hk7]
    refine look_in h2 hc fun w3 S3 h3 => ?_
    have cw3 := cur w3
    simp (maxSteps:=9^7)(disch:=first|assumption|(simp only[dz];first|done|assumption|omega)|omega|apply_rules[Fr.refl,Fr.alloc,Fr.drew]|rfl) only [↓gd,gp,Nat.reduceAdd,Nat.reduceEqDiff, ↓hk7, r1, r5, eS, wi]
    exact fin _ _ S3 _ ⟨h3.at_, h3.ok.mono (by omega), h3.ge, h3.fr⟩ (by simp (maxSteps:=9^7)(disch:=first|assumption|(simp only[dz];first|done|assumption|omega)|omega|apply_rules[Fr.refl,Fr.alloc,Fr.drew]|rfl) only [↓gsd,gs,gv,Nat.reduceAdd,Nat.reduceEqDiff, r1, hv1]) r5 rfl
  | false =>
    simp (maxSteps:=9^7)(disch:=first|assumption|(simp only[dz];first|done|assumption|omega)|omega|apply_rules[Fr.refl,Fr.alloc,Fr.drew]|rfl) only [↓gd,gp,Nat.reduceAdd,Nat.reduceEqDiff, ↓hk7]
    cases p1 : decide (o.k.tmod 3 = 1) with
    | true =>
      simp (maxSteps:=9^7)(disch:=first|assumption|(simp only[dz];first|done|assumption|omega)|omega|apply_rules[Fr.refl,Fr.alloc,Fr.drew]|rfl) only [↓gd,gp,Nat.reduceAdd,Nat.reduceEqDiff, ↓hk7]
      refine fill_in (f := o.f) h2 hc (by omega) fun w3 S3 h3 => ?_
      have cw3 := cur w3
      simp (maxSteps:=9^7)(disch:=first|assumption|(simp only[dz];first|done|assumption|omega)|omega|apply_rules[Fr.refl,Fr.alloc,Fr.drew]|rfl) only [↓gd,gp,Nat.reduceAdd,Nat.reduceEqDiff, ↓hk7, r1, r5, eS, wi]
      exact fin _ _ S3 _ h3 (by simp (maxSteps:=9^7)(disch:=first|assumption|(simp only[dz];first|done|assumption|omega)|omega|apply_rules[Fr.refl,Fr.alloc,Fr.drew]|rfl) only [↓gsd,gs,gv,Nat.reduceAdd,Nat.reduceEqDiff, r1, hv1]) r5 rfl
    | false =>
      simp (maxSteps:=9^7)(disch:=first|assumption|(simp only[dz];first|done|assumption|omega)|omega|apply_rules[Fr.refl,Fr.alloc,Fr.drew]|rfl) only [↓gd,gp,Nat.reduceAdd,Nat.reduceEqDiff, ↓hk7]
      cases p2 : decide (o.k.tmod 3 = 2) with
      | true =>
        simp (maxSteps:=9^7)(disch:=first|assumption|(simp only[dz];first|done|assumption|omega)|omega|apply_rules[Fr.refl,Fr.alloc,Fr.drew]|rfl) only [↓gd,gp,Nat.reduceAdd,Nat.reduceEqDiff, ↓hk7]
        refine apply_in (x := ⟨⟨o.n, o.ka, o.kl, o.kc⟩, ks⟩) h2 hc (hok.sl.frN hf2) (by show ks.length ≤ _; omega) fun w3 S3 x' q1 q2 h3 => ?_
        have cw3 := cur w3
        simp (maxSteps:=9^7)(disch:=first|assumption|(simp only[dz];first|done|assumption|omega)|omega|apply_rules[Fr.refl,Fr.alloc,Fr.drew]|rfl) only [↓gd,gp,Nat.reduceAdd,Nat.reduceEqDiff, ↓hk7, r1, r5, eS, wi]
        exact fin _ _ S3 _ ⟨h3.at_, h3.ok.mono (by omega), h3.ge, h3.fr⟩ (by simp (maxSteps:=9^7)(disch:=first|assumption|(simp only[dz];first|done|assumption|omega)|omega|apply_rules[Fr.refl,Fr.alloc,Fr.drew]|rfl) only [↓gsd,gs,gv,Nat.reduceAdd,Nat.reduceEqDiff, r1, hv1]) r5 rfl
      | false =>
        simp (maxSteps:=9^7)(disch:=first|assumption|(simp only[dz];first|done|assumption|omega)|omega|apply_rules[Fr.refl,Fr.alloc,Fr.drew]|rfl) only [↓gd,gp,Nat.reduceAdd,Nat.reduceEqDiff, ↓hk7, r1, r5, eS, wi]
        exact fin _ _ S _ ⟨h2.at_, h2.ok.mono (by omega), h2.ge, h2.fr⟩ (by simp (maxSteps:=9^7)(disch:=first|assumption|(simp only[dz];first|done|assumption|omega)|omega|apply_rules[Fr.refl,Fr.alloc,Fr.drew]|rfl) only [↓gsd,gs,gv,Nat.reduceAdd,Nat.reduceEqDiff, r1, hv1]) r5 rfl
 ·have d1 : decide ((i : Int) < (os.length : Int)) = false := decide_eq_false (by omega)
  have : i = os.length := by omega
  subst this
  rw [hv] at r1
  simp (maxSteps:=9^7)(disch:=first|assumption|(simp only[dz];first|done|assumption|omega)|omega|apply_rules[Fr.refl,Fr.alloc,Fr.drew]|rfl) only [↓gd,gp,Nat.reduceAdd,Nat.reduceEqDiff, ↓hk7, r1, r5, eS, d1]
  exact hK _ w1 S M1 h1 r5
theorem squeeze_g (M : Mem) : M.squeeze.1.g = M.g := by
 unfold Mem.squeeze; split <;> rfl
theorem squeeze_nilL {M : Mem} (h : M.T.list = []) : M.squeeze = (M, none) := by
 unfold Mem.squeeze
 rw [h]; rfl
theorem tent_ne (x y : Operand) {M : Option (List Nat)} {w0 : World} (K : Value → Prop) (e f : Ent) : takeP Tryz.prog (FrX M w0) (xv (xbin .neq 52 x y (.agg (encEnt e).toArray) (.agg (encEnt f).toArray))) K = K (.bool !(eqEB e f)) := takeP_xv (fun w => ent_ne x y w e f) K
set_option maxHeartbeats 32000000 in
theorem squeezes_spec {w : World} {c : Cfg} {v : Value} {os : List Op12} {K : Value → World → Prop} (hs : OpsAt w v os) (hK : ∀ w', Fr [] w w' → K (.bool true) w') :
  CallsN Tryz.prog 7 [.agg (encCfg c).toArray, v] w K := by
 have cw := cur w
 refine call7 ?_
 unfold encCfg
 simp (maxSteps:=9^7)(disch:=first|assumption|(simp only[dz];first|done|assumption|omega)|omega|apply_rules[Fr.refl,Fr.alloc,Fr.drew]|rfl) only [↓gd,gp,Nat.reduceAdd,Nat.reduceEqDiff, ↓hk7]
 generalize hW : World.alloc w _ = w1
 have hf1 : Fr [] w w1 := by rw [← hW]; exact fr_
 have g2 : w1.heap[w.heap.size]? = some (.cells (encCfg c).toArray 25 (0, 0)) := by rw [← hW]; exact get_alloc_new _ _
 clear hW
 have cw1 := cur w1
 have hs1 := hs.frN hf1
 refine fixed_spec fun w2 hf2 => ?_
 have cw2 := cur w2
 have g22 := hf2.getN g2
 have k2 := lt_of_get _ _ g22
 unfold encCfg at g22
 simp (maxSteps:=9^7)(disch:=first|assumption|(simp only[dz];first|done|assumption|omega)|omega|apply_rules[Fr.refl,Fr.alloc,Fr.drew]|rfl) only [↓gd,gp,Nat.reduceAdd,Nat.reduceEqDiff, ↓hk7, g22]
 refine new_in (c := c) fun a0 w3 h3 => ?_
 have cw3 := cur w3
 have h3 := h3.base hf2
 have hc := held_ok c
 have hb0 := hc.b0
 have hb1 := hc.b1
 simp (maxSteps:=9^7)(disch:=first|assumption|(simp only[dz];first|done|assumption|omega)|omega|apply_rules[Fr.refl,Fr.alloc,Fr.drew]|rfl) only [↓gd,gp,Nat.reduceAdd,Nat.reduceEqDiff, ↓c7_11_s, ↓c7_10_s, ↓c7_9_s, ↓c7_17_s, ↓c7_22_s, ↓c7_21_s, ↓c7_20_s, ↓c7_19_s, ↓c7_18_s, ↓c7_16_s, ↓c7_24_s, ↓c7_23_s, ↓c7_15_s, ↓c7_14_s, ↓c7_13_s, ↓c7_12_s, ↓c7_8_s, ↓c7_27_s, ↓c7_26_s, ↓c7_25_s, ↓c7_7_s, ↓c7_6_s, ↓c7_5_s, ↓c7_33_s, ↓c7_40_s, ↓c7_43_s, ↓c7_46_s, ↓c7_45_s, ↓c7_44_s, ↓c7_42_s, ↓c7_41_s, ↓c7_39_s, ↓c7_38_s, ↓c7_37_s, ↓c7_36_s, ↓c7_35_s, ↓c7_34_s, ↓c7_32_s, ↓c7_48_s, ↓c7_47_s, ↓c7_31_s, ↓c7_30_s, ↓c7_29_s, ↓c7_4_s, ↓c7_51_s, ↓c7_50_s, ↓c7_49_s, ↓c7_3_s, ↓c7_2_s, ↓c7_54_s, ↓c7_53_s, ↓c7_52_s, ↓c7_1_s, ↓c7_s, ↓w3t_7]
 refine sq_script h3 hc hs1 rfl rfl fun e4 w4 S4 M4 h4 r5 => ?_
 have cw4 := cur w4
 have r5 : e4 5 = .pointer (some ⟨a0.nb, 0, none⟩) := r5
 generalize hay : ({ a0 with S := S4 } : Lay) = a at h4
 have hnb : a0.nb = a.nb := by rw [← hay]
 rw [hnb] at r5
 clear hay hnb
 simp (maxSteps:=9^7)(disch:=first|assumption|(simp only[dz];first|done|assumption|omega)|omega|apply_rules[Fr.refl,Fr.alloc,Fr.drew]|rfl) only [↓gd,gp,Nat.reduceAdd,Nat.reduceEqDiff, ↓hk7, r5]
 refine view_in h4 hc fun vw ve w5 how hoe hbw hbe hbne h5 hf5 => ?_
 have cw5 := cur w5
 have hz5 := hf5.size
 obtain ⟨wa, wc, hvw⟩ := (sl_ints how).form
 have hse5 : SlOf 8 encEnt w5 ve M4.T.list := hoe.sl
 obtain ⟨xa, xc, hve⟩ := hse5.form
 have hln : (sortI (M4.g.ws.map (·.1))).length = M4.g.ws.length := by have := how.1; simpa using this
 rw [hln] at hvw
 unfold viewV
 rw [hvw, hve]
 simp (maxSteps:=9^7)(disch:=first|assumption|(simp only[dz];first|done|assumption|omega)|omega|apply_rules[Fr.refl,Fr.alloc,Fr.drew]|rfl) only [↓gd,gp,Nat.reduceAdd,Nat.reduceEqDiff, ↓c7_11_s, ↓c7_10_s, ↓c7_9_s, ↓c7_17_s, ↓c7_22_s, ↓c7_21_s, ↓c7_20_s, ↓c7_19_s, ↓c7_18_s, ↓c7_16_s, ↓c7_24_s, ↓c7_23_s, ↓c7_15_s, ↓c7_14_s, ↓c7_13_s, ↓c7_12_s, ↓c7_8_s, ↓c7_27_s, ↓c7_26_s, ↓c7_25_s, ↓c7_7_s, ↓c7_5_s, ↓c7_33_s, ↓c7_40_s, ↓c7_43_s, ↓c7_46_s, ↓c7_45_s, ↓c7_44_s, ↓c7_42_s, ↓c7_41_s, ↓c7_39_s, ↓c7_38_s, ↓c7_37_s, ↓c7_36_s, ↓c7_35_s, ↓c7_34_s, ↓c7_32_s, ↓c7_48_s, ↓c7_47_s, ↓c7_31_s, ↓c7_30_s, ↓c7_29_s, ↓c7_28_s, ↓c7_4_s, ↓c7_51_s, ↓c7_50_s, ↓c7_49_s, ↓c7_3_s, ↓c7_2_s, ↓c7_54_s, ↓c7_53_s, ↓c7_52_s, ↓c7_1_s, ↓c7_s, ↓w3t_7]
 rw [← hvw, ← hve]
 generalize hW : World.alloc w5 _ = w6
 have hf6 : Fr [] w5 w6 := by rw [← hW]; exact fr_
 have g8 : w6.heap[w5.heap.size]? = some (.cells (viewV M4 1 vw ve).toArray 43 (0, 0)) := by rw [← hW]; exact get_alloc_new _ _
 clear hW
 have cw6 := cur w6
 have hz6 := hf6.size
 have h6 := h5.frN hf6
 have hse6 := hse5.frN hf6
 have tok := h4.ok.ti.tok
 have hllen := tok.list_len
 have l8 := lt_of_get _ _ g8
 unfold viewV at g8
 have g8o := g8
 rw [hve, hvw] at g8
 simp (maxSteps:=9^7)(disch:=first|assumption|(simp only[dz];first|done|assumption|omega)|omega|apply_rules[Fr.refl,Fr.alloc,Fr.drew]|rfl) only [↓gd,gp,Nat.reduceAdd,Nat.reduceEqDiff, ↓hk7, g8]
 rw [← hve]
 refine order_spec hse6 (by omega) (fun x m cc q => by have := hoe.lt (own_off hoe x m cc q); omega) fun w7 L v9 hf7 hp hso hs9 hb9 => ?_
 have cw7 := cur w7
 have hz7 := hf7.size
 have hL : L.length = M4.T.list.length := by rw [hp.length_eq, List.length_range]
 obtain ⟨ya, yc, hv9⟩ := hs9.form
 have g87 := hf7.getN g8
 have l87 := lt_of_get _ _ g87
 have dl : decide ((L.length : Int) = (M4.T.list.length : Int)) = true := decide_eq_true (by omega)
 simp (maxSteps:=9^7)(disch:=first|assumption|(simp only[dz];first|done|assumption|omega)|omega|apply_rules[Fr.refl,Fr.alloc,Fr.drew]|rfl) only [↓gd,gp,Nat.reduceAdd,Nat.reduceEqDiff, ↓hk7, hv9, g87, dl]
 rw [← hv9]
 have hnd := h4.ok.ti.nd.list tok
 have h7 := h6.frN hf7
 have hlt4 := h4.at_.lt
 have n8 : w5.heap.size ∉ a.all := fun hm => by have := hlt4 _ hm; omega
 have nve : ∀ b ∈ a.all, offV ve b := fun b hb x m cc q e' => by
  have h8 := hbe _ (own_off hoe x m cc q)
  have := hlt4 _ hb
  rw [e'] at h8
  omega
 have n9 : ∀ b ∈ a.all, offV v9 b := fun b hb x m cc q e' => by
  have h8 := hb9 x m cc q
  have := hlt4 _ hb
  rw [e'] at h8
  omega
 have hse7 := hse6.frN hf7
 have g87o := hf7.getN g8o
 refine for_intro L.length 10 0 (fun k e1 w' => ∃ M, e1 5 = .pointer (some ⟨a.nb, 0, none⟩) ∧ e1 8 = .pointer (some ⟨w5.heap.size, 0, none⟩) ∧ e1 9 = v9 ∧ NodeIn w1 w' a c.held 1 M os.length ∧ M.g = M4.g ∧ LeftAt M4.T.list L k M.T ∧ Fr a.all w7 w') ?_ (Nat.zero_le _) ?_ ?_
 ·simp (maxSteps:=9^7)(disch:=first|assumption|(simp only[dz];first|done|assumption|omega)|omega|apply_rules[Fr.refl,Fr.alloc,Fr.drew]|rfl) only [↓gsd,gs,gv,Nat.reduceAdd,Nat.reduceEqDiff, Int.natCast_zero]
 ·refine ⟨M4, ?_⟩
  simp (maxSteps:=9^7)(disch:=first|assumption|(simp only[dz];first|done|assumption|omega)|omega|apply_rules[Fr.refl,Fr.alloc,Fr.drew]|rfl) only [↓gsd,gs,gv,Nat.reduceAdd,Nat.reduceEqDiff, r5, hv9]
  exact ⟨h7, left_zero hp, Fr.refl _ _⟩
 rintro k e1 w8 kk hkle eS ⟨M, t5, t8, t9, h8, hMg, hleft, hF8⟩ hkk
 have cw8 := cur w8
 have hz8 := hF8.size
 have hse8 : SlOf 8 encEnt w8 ve M4.T.list := hse7.fr hF8 nve
 have hs98 : SlOf 1 encN w8 v9 L := hs9.fr hF8 n9
 have g88 := hF8.get g87o n8
 have l88 := lt_of_get _ _ g88
 by_cases hil : k < L.length
 ·have d1 : decide ((k : Int) < (L.length : Int)) = true := decide_eq_true (by omega)
  obtain ⟨i, hi⟩ : ∃ i, L[k]? = some i := ⟨L[k], List.getElem?_eq_getElem hil⟩
  have hiL : i < M4.T.list.length := by simpa using hp.mem_iff.1 (List.mem_of_getElem? hi)
  obtain ⟨x, hx⟩ : ∃ x, M4.T.list[i]? = some x := ⟨_, List.getElem?_eq_getElem hiL⟩
  obtain ⟨hsq, hleft'⟩ := squeeze_next hc h8.ok hnd hp hso hleft hi hx
  have i0 : (0 : Int) ≤ (k : Int) := by omega
  have i1 : (k : Int) < (L.length : Int) := by omega
  have j0 : (0 : Int) ≤ (i : Int) := by omega
  have j1 : (i : Int) < (M4.T.list.length : Int) := by omega
  have d2 : decide ((i : Int) < 0) = false := decide_eq_false (by omega)
  have d3 : decide ((M4.T.list.length : Int) ≤ (i : Int)) = false := decide_eq_false (by omega)
  have wi : IntKind.i64.wrap ((k : Int) + 1) = (k : Int) + 1 := wrap64 (by omega) (by omega)
  rw [hv9] at t9
  simp (maxSteps:=9^7)(disch:=first|assumption|(simp only[dz];first|done|assumption|omega)|omega|apply_rules[Fr.refl,Fr.alloc,Fr.drew]|rfl) only [↓gd,gp,Nat.reduceAdd,Nat.reduceEqDiff, ↓hk7, t5, t8, t9, eS, d1]
  refine squeeze_spec h8.at_ h8.ok.ti.tok (by omega) fun w9 h9 hf9 => ?_
  have cw9 := cur w9
  have hz9 := hf9.size
  rw [hsq]
  have hse9 : SlOf 8 encEnt w9 ve M4.T.list := hse8.fr hf9 nve
  have hs99 : SlOf 1 encN w9 v9 L := hs98.fr hf9 n9
  have g89 := hf9.get g88 n8
  have hok9 := h8.ok.squeeze hc
  unfold encEnt
  simp (maxSteps:=9^7)(disch:=first|assumption|(simp only[dz];first|done|assumption|omega)|omega|apply_rules[Fr.refl,Fr.alloc,Fr.drew]|rfl) only [↓gd,gp,Nat.reduceAdd,Nat.reduceEqDiff, ↓c7_11_s, ↓c7_10_s, ↓c7_9_s, ↓c7_17_s, ↓c7_22_s, ↓c7_21_s, ↓c7_19_s, ↓c7_18_s, ↓c7_16_s, ↓c7_24_s, ↓c7_23_s, ↓c7_15_s, ↓c7_14_s, ↓c7_13_s, ↓c7_12_s, ↓c7_8_s, ↓c7_27_s, ↓c7_26_s, ↓c7_25_s, ↓c7_7_s, ↓c7_6_s, ↓c7_5_s, ↓c7_33_s, ↓c7_40_s, ↓c7_43_s, ↓c7_46_s, ↓c7_45_s, ↓c7_44_s, ↓c7_42_s, ↓c7_41_s, ↓c7_39_s, ↓c7_38_s, ↓c7_37_s, ↓c7_36_s, ↓c7_35_s, ↓c7_34_s, ↓c7_32_s, ↓c7_48_s, ↓c7_47_s, ↓c7_31_s, ↓c7_30_s, ↓c7_29_s, ↓c7_28_s, ↓c7_4_s, ↓c7_51_s, ↓c7_50_s, ↓c7_49_s, ↓c7_3_s, ↓c7_2_s, ↓c7_54_s, ↓c7_53_s, ↓c7_52_s, ↓c7_1_s, ↓c7_s, ↓w3t_7]
  generalize hW : World.alloc w9 _ = w10
  have hf10 : Fr [] w9 w10 := by rw [← hW]; exact fr_
  have g11 : w10.heap[w9.heap.size]? = some (.cells (encEnt x).toArray 52 (0, 0)) := by rw [← hW]; exact get_alloc_new _ _
  clear hW
  have cw10 := cur w10
  have g810 := hf10.getN g89
  have l810 := lt_of_get _ _ g810
  have l11 := lt_of_get _ _ g11
  obtain ⟨b1, o1, p1, ob1, hv1, hb1, hbl1, hr1, _⟩ := (hse9.frN hf10).read encEnt_len i x hx
  obtain ⟨b2, o2, p2, ob2, hv2, hb2, hbl2, _, hc2⟩ := (hs99.frN hf10).read (fun _ => rfl) k i hi
  have q0 := fun orig K => hc2 0 (.int .i64 (i : Int)) orig K rfl
  simp only [Nat.add_zero, Nat.mul_one] at q0
  rw [hv1, hvw] at g810
  rw [← hv9, hv2] at t9
  have hE := fun x1 y1 (M : Option (List Nat)) (w0 : World) (K : Value → Prop) => tent_ne x1 y1 (M := M) (w0 := w0) K x x
  rw [eqEB_iff.2 rfl] at hE
  unfold encEnt at hE hr1 g11
  simp (maxSteps:=9^7)(disch:=first|assumption|(simp only[dz];first|done|assumption|omega)|omega|apply_rules[Fr.refl,Fr.alloc,Fr.drew]|rfl) only [↓gd,gp,Nat.reduceAdd,Nat.reduceEqDiff, ↓hk7, t5, t8, t9, eS, i0, i1, j0, j1, d2, d3, Int.toNat_natCast, Nat.mul_one, hb1, hr1, hb2, q0, g810, g11, hE, wi]
  refine hkk _ _ hil rfl ⟨M.squeeze.1, ?_⟩
  simp (maxSteps:=9^7)(disch:=first|assumption|(simp only[dz];first|done|assumption|omega)|omega|apply_rules[Fr.refl,Fr.alloc,Fr.drew]|rfl) only [↓gsd,gs,gv,Nat.reduceAdd,Nat.reduceEqDiff, t5, t8, t9, ← hv2]
  have hF : Fr [] w9 w10.drew := hf10.trans' fr_
  exact ⟨⟨h9.frN hF, hok9, h8.ge, (h8.fr.trans hf9 fun y hy => .inr (h8.ge y hy)).trans' hF⟩, (squeeze_g M).trans hMg, hleft', (hF8.trans hf9 fun y hy => .inl hy).trans' hF⟩
 ·have d1 : decide ((k : Int) < (L.length : Int)) = false := decide_eq_false (by omega)
  have : k = L.length := by omega
  subst this
  have hnil := left_end hleft
  rw [hv9] at t9
  simp (maxSteps:=9^7)(disch:=first|assumption|(simp only[dz];first|done|assumption|omega)|omega|apply_rules[Fr.refl,Fr.alloc,Fr.drew]|rfl) only [↓gd,gp,Nat.reduceAdd,Nat.reduceEqDiff, ↓hk7, t5, t8, t9, eS, d1]
  refine squeeze_spec h8.at_ h8.ok.ti.tok (by omega) fun w9 h9 hf9 => ?_
  have cw9 := cur w9
  rw [squeeze_nilL hnil] at h9 ⊢
  unfold encEnt
  have g89 := hf9.get g88 n8
  simp (maxSteps:=9^7)(disch:=first|assumption|(simp only[dz];first|done|assumption|omega)|omega|apply_rules[Fr.refl,Fr.alloc,Fr.drew]|rfl) only [↓gd,gp,Nat.reduceAdd,Nat.reduceEqDiff, ↓c7_11_s, ↓c7_9_s, ↓c7_17_s, ↓c7_22_s, ↓c7_21_s, ↓c7_20_s, ↓c7_19_s, ↓c7_18_s, ↓c7_16_s, ↓c7_24_s, ↓c7_23_s, ↓c7_15_s, ↓c7_14_s, ↓c7_13_s, ↓c7_12_s, ↓c7_8_s, ↓c7_27_s, ↓c7_26_s, ↓c7_25_s, ↓c7_7_s, ↓c7_6_s, ↓c7_5_s, ↓c7_33_s, ↓c7_40_s, ↓c7_43_s, ↓c7_46_s, ↓c7_45_s, ↓c7_44_s, ↓c7_42_s, ↓c7_41_s, ↓c7_39_s, ↓c7_38_s, ↓c7_37_s, ↓c7_36_s, ↓c7_35_s, ↓c7_34_s, ↓c7_32_s, ↓c7_48_s, ↓c7_47_s, ↓c7_31_s, ↓c7_30_s, ↓c7_29_s, ↓c7_28_s, ↓c7_4_s, ↓c7_51_s, ↓c7_50_s, ↓c7_49_s, ↓c7_3_s, ↓c7_2_s, ↓c7_54_s, ↓c7_53_s, ↓c7_52_s, ↓c7_1_s, ↓c7_s, ↓w3t_7]
  generalize hW : World.alloc w9 _ = w10
  have hf10 : Fr [] w9 w10 := by rw [← hW]; exact fr_
  have g13 : w10.heap[w9.heap.size]? = some (.cells (encEnt entZ).toArray 52 (0, 0)) := by rw [← hW]; exact get_alloc_new _ _
  clear hW
  have cw10 := cur w10
  have h10 := h9.frN hf10
  simp (maxSteps:=9^7)(disch:=first|assumption|(simp only[dz];first|done|assumption|omega)|omega|apply_rules[Fr.refl,Fr.alloc,Fr.drew]|rfl) only [↓gd,gp,Nat.reduceAdd,Nat.reduceEqDiff, ↓hk7, t5, t8, t9]
  refine view_spec h10 h8.ok.ti.tok (by omega) h8.ok.wf fun vw' ve' w11 how' hoe' _ _ _ hf11 => ?_
  have cw11 := cur w11
  obtain ⟨wa', wc', hvw'⟩ := (sl_ints how').form
  have hln' : (sortI (M.g.ws.map (·.1))).length = M.g.ws.length := by have := how'.1; simpa using this
  obtain ⟨xa', xc', hve'⟩ := (show SlOf 8 encEnt w11 ve' M.T.list from hoe'.sl).form
  rw [hln', hMg] at hvw'
  rw [hnil, List.length_nil] at hve'
  have hby : M.T.bytes = 0 := by
   have h1 := h8.ok.ti.tok.bytes
   rw [← sumE_list _ h8.ok.ti.tok.nd, hnil] at h1
   exact h1
  unfold viewV
  rw [hvw', hve', hby, hMg]
  simp (maxSteps:=9^7)(disch:=first|assumption|(simp only[dz];first|done|assumption|omega)|omega|apply_rules[Fr.refl,Fr.alloc,Fr.drew]|rfl) only [↓gd,gp,Nat.reduceAdd,Nat.reduceEqDiff, ↓c7_10_s, ↓c7_9_s, ↓c7_17_s, ↓c7_22_s, ↓c7_21_s, ↓c7_20_s, ↓c7_19_s, ↓c7_18_s, ↓c7_16_s, ↓c7_24_s, ↓c7_23_s, ↓c7_15_s, ↓c7_14_s, ↓c7_13_s, ↓c7_12_s, ↓c7_8_s, ↓c7_27_s, ↓c7_26_s, ↓c7_25_s, ↓c7_7_s, ↓c7_6_s, ↓c7_5_s, ↓c7_33_s, ↓c7_40_s, ↓c7_43_s, ↓c7_46_s, ↓c7_45_s, ↓c7_44_s, ↓c7_42_s, ↓c7_41_s, ↓c7_39_s, ↓c7_38_s, ↓c7_37_s, ↓c7_36_s, ↓c7_35_s, ↓c7_34_s, ↓c7_32_s, ↓c7_48_s, ↓c7_47_s, ↓c7_31_s, ↓c7_30_s, ↓c7_29_s, ↓c7_28_s, ↓c7_4_s, ↓c7_51_s, ↓c7_50_s, ↓c7_49_s, ↓c7_3_s, ↓c7_2_s, ↓c7_54_s, ↓c7_53_s, ↓c7_52_s, ↓c7_1_s, ↓c7_s, ↓w3t_7]
  generalize hW : World.alloc w11 _ = w12
  have hf12 : Fr [] w11 w12 := by rw [← hW]; exact fr_
  have g15 : w12.heap[w11.heap.size]? = some (.cells ([.bool true, .bool M.live, .int .i64 1, .int .i64 M4.g.at_, .int .i64 M.R.since, .slice wa' M4.g.ws.length wc', .int .i64 0, .slice xa' 0 xc'] : List Value).toArray 43 (0, 0)) := by rw [← hW]; exact get_alloc_new _ _
  clear hW
  have cw12 := cur w12
  have hF : Fr [] w10 w12 := hf11.trans' hf12
  have g1312 := hF.getN g13
  have g812 := (hf10.trans' hF).getN g89
  have kE : eqEB entZ entZ = true := eqEB_iff.2 rfl
  have hE := fun x y w => ent_eq x y w entZ entZ
  rw [kE] at hE
  rw [hvw] at g812
  unfold encEnt at hE g1312
  have d0 : decide ((0 : Int) = 0) = true := by decide
  have d2 : decide (M4.g.at_ = M4.g.at_) = true := decide_eq_true rfl
  have d3 : decide ((M4.g.ws.length : Int) = (M4.g.ws.length : Int)) = true := decide_eq_true rfl
  simp (maxSteps:=9^7)(disch:=first|assumption|(simp only[dz];first|done|assumption|omega)|omega|apply_rules[Fr.refl,Fr.alloc,Fr.drew]|rfl) only [↓gd,gp,Nat.reduceAdd,Nat.reduceEqDiff, ↓hk7, t5, t8, t9, g1312, g812, g15, hE, d0, d2, d3, Int.natCast_zero]
  exact hK _ ((hf1.trans' (h8.fr.trans hf9 fun y hy => .inr (h8.ge y hy))).trans' (hf10.trans' hF))
end Go.Proofs.YtomlgkecckffeaaGreat
