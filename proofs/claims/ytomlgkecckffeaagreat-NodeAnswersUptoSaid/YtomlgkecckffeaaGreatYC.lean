/- NodeAnswers: its end. NodeAnswers, walked. -/
import Derived.Test.YtomlgkecckffeaaGreatRK
set_option linter.unusedVariables false
set_option linter.unusedSimpArgs false
set_option maxRecDepth 10000
namespace Go.Proofs.YtomlgkecckffeaaGreat
open Go.VW
theorem NodeIn.base {V W w : World} {a : Lay} {c : Cfg} {inc : Int} {M : Mem} {i : Int} (h : NodeIn W w a c inc M i) (hf : Fr [] V W) : NodeIn V w a c inc M i := ⟨h.at_, h.ok, fun y hy => Nat.le_trans hf.size (h.ge y hy), hf.trans' h.fr⟩
set_option maxHeartbeats 32000000 in
theorem ans_end {V W w : World} {a : Lay} {c : Cfg} {M : Mem} {i : Int} {p7 p12 : Nat} {vw ve : Value} {k : ByteArray} {lo hi : Int} {e : Env} {K : Value → World → Prop} (h : NodeIn W w a c 1 M i) (hc : CfgOK c)
  (g7 : w.heap[p7]? = some (.cells ([.int .i64 lo, .int .i64 hi] : List Value).toArray 48 (0, 0))) (g12 : w.heap[p12]? = some (.cells (viewV M 1 vw ve).toArray 43 (0, 0))) (ho12 : p12 ∉ a.all) (hse : SlOf 8 encEnt w ve M.T.list) (hoe : ∀ x m cc, ve = .slice (some x) m cc → x.block ∉ a.all)
  (e2 : e 2 = .string k) (e7 : e 7 = .pointer (some ⟨p7, 0, none⟩)) (e9 : e 9 = .pointer (some ⟨a.nb, 0, none⟩)) (e12 : e 12 = .pointer (some ⟨p12, 0, none⟩)) (e13 : e 13 = .int .i64 (vicV (lastIx (wants k M.g.at_ lo hi) M.T.list M.T.list.length)))
  (hV : Fr [] V W) (hK : ∀ w', Fr [] V w' → K (.bool true) w') : W3 Tryz.prog 154 V4 c4_8 (retQ Tryz.prog [.tmp 8] K) e w := by
 have cw := cur w
 have k7 := lt_of_get _ _ g7
 have hb0 := hc.b0
 have hb1 := hc.b1
 have hp1 := hc.p1
 have ha0 := h.ok.wf.a0
 have ha1 := h.ok.wf.a1
 have wa : IntKind.i64.wrap (M.g.at_ + 1) = M.g.at_ + 1 := wrap64 (by omega) (by omega)
 have hfind := wants_find h.ok.ti.tok (k := k) (lo := lo) (hi := hi) ha0 ha1
 have hllen := h.ok.ti.tok.list_len
 obtain ⟨xa, xc, hve⟩ := hse.form
 simp (maxSteps:=9^7)(disch:=first|assumption|(simp only[dz];first|done|assumption|omega)|omega|apply_rules[Fr.refl,Fr.alloc,Fr.drew]|rfl) only [↓gd,gp,Nat.reduceAdd,Nat.reduceEqDiff, ↓hk4, e2, e7, e9, g7]
 refine look_spec h.at_ h.ok.ti.tok (by omega) h.ok.ti.nd (by omega) fun w1 S1 h1 hS1 hf1 => ?_
 have cw1 := cur w1
 have hok1 := h.ok.look hc k lo hi
 have g121 := hf1.get g12 ho12
 have hse1 : SlOf 8 encEnt w1 ve M.T.list := hse.fr hf1 fun b hb x m cc q => (fun e' => hoe x m cc q (e' ▸ hb))
 have F1 : Fr [] V w1 := (hV.trans' h.fr).trans hf1 fun y hy => .inr (Nat.le_trans hV.size (h.ge y hy))
 have k12 := lt_of_get _ _ g121
 unfold Mem.look at h1 hok1 ⊢
 cases hb : lastIx (wants k M.g.at_ lo hi) M.T.list M.T.list.length with
 | none =>
   have hn := lastIx_none (Nat.le_refl _) hb
   rw [List.take_length] at hn
   rw [hn] at hfind
   rw [← hfind] at h1 hok1 ⊢
   simp only [List.getLast?_nil] at h1 hok1 ⊢
   rw [hb] at e13
   unfold vicV at e13
   unfold lookV
   simp (maxSteps:=9^7)(disch:=first|assumption|(simp only[dz];first|done|assumption|omega)|omega|apply_rules[Fr.refl,Fr.alloc,Fr.drew]|rfl) only [↓gd,gp,Nat.reduceAdd,Nat.reduceEqDiff, ↓c4_12_s, ↓c4_15_s, ↓c4_14_s, ↓c4_13_s, ↓c4_11_s, ↓c4_10_s, ↓c4_18_s, ↓c4_17_s, ↓c4_16_s, ↓c4_8_s, ↓c4_24_s, ↓c4_31_s, ↓c4_30_s, ↓c4_29_s, ↓c4_34_s, ↓c4_33_s, ↓c4_32_s, ↓c4_28_s, ↓c4_27_s, ↓c4_26_s, ↓c4_25_s, ↓c4_23_s, ↓c4_36_s, ↓c4_35_s, ↓c4_22_s, ↓c4_21_s, ↓c4_20_s, ↓c4_19_s, ↓c4_7_s, ↓c4_6_s, ↓c4_5_s, ↓c4_42_s, ↓c4_47_s, ↓c4_48_s, ↓c4_46_s, ↓c4_45_s, ↓c4_44_s, ↓c4_43_s, ↓c4_41_s, ↓c4_50_s, ↓c4_49_s, ↓c4_40_s, ↓c4_39_s, ↓c4_38_s, ↓c4_37_s, ↓c4_4_s, ↓c4_53_s, ↓c4_52_s, ↓c4_51_s, ↓c4_3_s, ↓c4_2_s, ↓c4_56_s, ↓c4_55_s, ↓c4_54_s, ↓c4_1_s, ↓c4_s, ↓w3t_4]
   generalize hW : World.setB _ _ _ = w2
   have hf2 : Fr [] w1 w2 := by rw [← hW]; exact fr_
   have x17 : w2.heap[w1.heap.size]? = some (.cells ([.bool false, .string ⟨#[]⟩] : List Value).toArray 31 (0, 0)) := by rw [← hW]; simp (maxSteps:=9^7)(disch:=first|assumption|(simp only[dz];first|done|assumption|omega)|omega|apply_rules[Fr.refl,Fr.alloc,Fr.drew]|rfl) only [↓gsd,gs,gv,Nat.reduceAdd,Nat.reduceEqDiff]
   have x18 : w2.heap[w1.heap.size + 1]? = some (.cells ([.int .i64 0, .int .i64 0] : List Value).toArray 48 (0, 0)) := by rw [← hW]; simp (maxSteps:=9^7)(disch:=first|assumption|(simp only[dz];first|done|assumption|omega)|omega|apply_rules[Fr.refl,Fr.alloc,Fr.drew]|rfl) only [↓gsd,gs,gv,Nat.reduceAdd,Nat.reduceEqDiff]
   clear hW
   have cw2 := cur w2
   have z17 := lt_of_get _ _ x17
   have z18 := lt_of_get _ _ x18
   have h2 := h1.frN hf2
   have d1 : decide ((-1 : Int) < 0) = true := rfl
   have ke : (decide (false = false) && (decide ((⟨#[]⟩ : ByteArray) = ⟨#[]⟩) && true)) = true := by decide
   have kp : (decide ((0 : Int) = 0) && (decide ((0 : Int) = 0) && true)) = true := by decide
   have g122 := hf2.getN g121
   have k122 := lt_of_get _ _ g122
   unfold viewV at g122
   rw [hve] at g122
   simp (maxSteps:=9^7)(disch:=first|assumption|(simp only[dz];first|done|assumption|omega)|omega|apply_rules[Fr.refl,Fr.alloc,Fr.drew]|rfl) only [↓gd,gp,Nat.reduceAdd,Nat.reduceEqDiff, ↓hk4, e9, e12, e13, d1, x17, x18, g122, tval_eq, tpin_eq, ke, kp]
   refine view_spec (a := { a with S := S1 }) (h2.frN (w' := w2.drew) fr_) hok1.ti.tok (by omega) hok1.wf fun vw' ve' w3 how hoe' _ _ _ hf3 => ?_
   have cw3 := cur w3
   have hf23 : Fr [] w2 w3 := Fr.trans' fr_ hf3
   obtain ⟨ya, yc, hve'⟩ := (show SlOf 8 encEnt w3 ve' M.T.list from hoe'.sl).form
   have g123 := hf23.getN g122
   unfold viewV
   have k123 := lt_of_get _ _ g123
   have d2 : decide ((M.T.list.length : Int) = (M.T.list.length : Int)) = true := decide_eq_true rfl
   simp (maxSteps:=9^7)(disch:=first|assumption|(simp only[dz];first|done|assumption|omega)|omega|apply_rules[Fr.refl,Fr.alloc,Fr.drew]|rfl) only [↓gd,gp,Nat.reduceAdd,Nat.reduceEqDiff, ↓hk4, e9, e12, e13, hve', g123, d2, eq_true hf23]
   exact hK _ ((F1.trans' hf2).trans' hf23)
 | some b =>
   obtain ⟨hbl, x, hx, hwx, hgl⟩ := lastIx_some (Nat.le_refl _) hb
   rw [List.take_length] at hgl
   rw [hgl] at hfind
   rw [← hfind] at h1 hok1 ⊢
   simp only at h1 hok1 ⊢
   rw [hb] at e13
   unfold vicV at e13
   unfold wants at hwx
   rw [Bool.and_eq_true, decide_eq_true_eq, decide_eq_true_eq] at hwx
   have hxg := (list_row h.ok.ti.tok (List.mem_of_getElem? hx)).2
   obtain ⟨_, _, g1, _, _⟩ := goodE_facts hxg
   have hkn := known_met g1 ha0 ha1 hwx.2
   have hlv : lookV (some x) M.g.at_ = [.agg #[.bool x.has, .string x.data], .agg #[.int .i64 x.lo, .int .i64 (endE x M.g.at_)], .bool true] := by
    show [_, Value.agg #[.int .i64 (knownE x M.g.at_).1, .int .i64 (knownE x M.g.at_).2], _] = _
    rw [hkn]
   rw [hlv]
   simp (maxSteps:=9^7)(disch:=first|assumption|(simp only[dz];first|done|assumption|omega)|omega|apply_rules[Fr.refl,Fr.alloc,Fr.drew]|rfl) only [↓gd,gp,Nat.reduceAdd,Nat.reduceEqDiff, ↓c4_12_s, ↓c4_15_s, ↓c4_14_s, ↓c4_13_s, ↓c4_11_s, ↓c4_10_s, ↓c4_18_s, ↓c4_17_s, ↓c4_16_s, ↓c4_8_s, ↓c4_24_s, ↓c4_31_s, ↓c4_30_s, ↓c4_29_s, ↓c4_34_s, ↓c4_33_s, ↓c4_32_s, ↓c4_28_s, ↓c4_27_s, ↓c4_26_s, ↓c4_25_s, ↓c4_23_s, ↓c4_36_s, ↓c4_35_s, ↓c4_22_s, ↓c4_21_s, ↓c4_20_s, ↓c4_19_s, ↓c4_7_s, ↓c4_6_s, ↓c4_5_s, ↓c4_42_s, ↓c4_47_s, ↓c4_48_s, ↓c4_46_s, ↓c4_45_s, ↓c4_44_s, ↓c4_43_s, ↓c4_41_s, ↓c4_50_s, ↓c4_49_s, ↓c4_40_s, ↓c4_39_s, ↓c4_38_s, ↓c4_37_s, ↓c4_4_s, ↓c4_53_s, ↓c4_52_s, ↓c4_51_s, ↓c4_3_s, ↓c4_2_s, ↓c4_56_s, ↓c4_55_s, ↓c4_54_s, ↓c4_1_s, ↓c4_s, ↓w3t_4]
   generalize hW : World.setB _ _ _ = w2
   have hf2 : Fr [] w1 w2 := by rw [← hW]; exact fr_
   have x17 : w2.heap[w1.heap.size]? = some (.cells ([.bool x.has, .string x.data] : List Value).toArray 31 (0, 0)) := by rw [← hW]; simp (maxSteps:=9^7)(disch:=first|assumption|(simp only[dz];first|done|assumption|omega)|omega|apply_rules[Fr.refl,Fr.alloc,Fr.drew]|rfl) only [↓gsd,gs,gv,Nat.reduceAdd,Nat.reduceEqDiff]
   have x18 : w2.heap[w1.heap.size + 1]? = some (.cells ([.int .i64 x.lo, .int .i64 (endE x M.g.at_)] : List Value).toArray 48 (0, 0)) := by rw [← hW]; simp (maxSteps:=9^7)(disch:=first|assumption|(simp only[dz];first|done|assumption|omega)|omega|apply_rules[Fr.refl,Fr.alloc,Fr.drew]|rfl) only [↓gsd,gs,gv,Nat.reduceAdd,Nat.reduceEqDiff]
   clear hW
   have cw2 := cur w2
   have z17 := lt_of_get _ _ x17
   have z18 := lt_of_get _ _ x18
   have hse2 := hse1.frN hf2
   obtain ⟨b1, o1, p1, ob1, hv1, hb1, hbl1, hr1, hc1, hn1⟩ := SlOf.readS hse2 encEnt_len b x hx
   have q5 := fun orig K => hn1 0 5 orig K (by omega)
   simp only [Nat.add_zero] at q5
   unfold encEnt at q5
   simp only [List.drop_zero, List.take_succ_cons, List.take_zero] at q5
   have i0 : (0 : Int) ≤ (b : Int) := by omega
   have i1 : (b : Int) < (M.T.list.length : Int) := by omega
   have d1 : decide ((b : Int) < 0) = false := decide_eq_false (by omega)
   have g122 := hf2.getN g121
   have k122 := lt_of_get _ _ g122
   unfold viewV at g122
   rw [hv1] at g122
   have ke : (decide (x.has = x.has) && (decide (x.data = x.data) && true)) = true := by simp
   by_cases q1 : x.hi = 4611686018427387904
   ·have dq : decide (x.hi = 4611686018427387904) = true := decide_eq_true q1
    have hee : endE x M.g.at_ = M.g.at_ + 1 := by unfold endE; rw [if_pos q1]
    rw [hee] at x18
    have kp : (decide (x.lo = x.lo) && (decide (M.g.at_ + 1 = M.g.at_ + 1) && true)) = true := by simp
    simp (maxSteps:=9^7)(disch:=first|assumption|(simp only[dz];first|done|assumption|omega)|omega|apply_rules[Fr.refl,Fr.alloc,Fr.drew]|rfl) only [↓gd,gp,Nat.reduceAdd,Nat.reduceEqDiff, ↓hk4, e9, e12, e13, d1, g122, i0, i1, Int.toNat_natCast, Nat.mul_one, hb1, q5, dq, wa, x17, x18, val_eq, pin_eq, ke, kp]
    exact hK _ ((F1.trans' hf2).trans' fr_)
   ·have dq : decide (x.hi = 4611686018427387904) = false := decide_eq_false q1
    have hee : endE x M.g.at_ = x.hi := by unfold endE; rw [if_neg q1]
    rw [hee] at x18
    have kp : (decide (x.lo = x.lo) && (decide (x.hi = x.hi) && true)) = true := by simp
    simp (maxSteps:=9^7)(disch:=first|assumption|(simp only[dz];first|done|assumption|omega)|omega|apply_rules[Fr.refl,Fr.alloc,Fr.drew]|rfl) only [↓gd,gp,Nat.reduceAdd,Nat.reduceEqDiff, ↓hk4, e9, e12, e13, d1, g122, i0, i1, Int.toNat_natCast, Nat.mul_one, hb1, q5, dq, wa, x17, x18, val_eq, pin_eq, ke, kp]
    exact hK _ ((F1.trans' hf2).trans' fr_)
set_option maxHeartbeats 32000000 in
theorem answers_spec {w : World} {c : Cfg} {v : Value} {os : List Op12} {k : ByteArray} {lo hi : Int} {K : Value → World → Prop} (hs : OpsAt w v os) (hK : ∀ w', Fr [] w w' → K (.bool true) w') :
  CallsN Tryz.prog 4 [.agg (encCfg c).toArray, v, .string k, .agg ([.int .i64 lo, .int .i64 hi] : List Value).toArray] w K := by
 have cw := cur w
 refine call4 ?_
 unfold encCfg
 simp (maxSteps:=9^7)(disch:=first|assumption|(simp only[dz];first|done|assumption|omega)|omega|apply_rules[Fr.refl,Fr.alloc,Fr.drew]|rfl) only [↓gd,gp,Nat.reduceAdd,Nat.reduceEqDiff, ↓hk4]
 generalize hW : World.alloc (World.alloc w _) _ = w1
 have hf1 : Fr [] w w1 := by rw [← hW]; exact fr_
 have hz1 : w1.heap.size = w.heap.size + 1 + 1 := by rw [← hW]; simp only [gz]
 have g4 : w1.heap[w.heap.size]? = some (.cells (encCfg c).toArray 25 (0, 0)) := by rw [← hW]; simp (maxSteps:=9^7)(disch:=first|assumption|(simp only[dz];first|done|assumption|omega)|omega|apply_rules[Fr.refl,Fr.alloc,Fr.drew]|rfl) only [↓gsd,gs,gv,Nat.reduceAdd,Nat.reduceEqDiff] <;> rfl
 have g7 : w1.heap[w.heap.size + 1]? = some (.cells ([.int .i64 lo, .int .i64 hi] : List Value).toArray 48 (0, 0)) := by rw [← hW]; simp (maxSteps:=9^7)(disch:=first|assumption|(simp only[dz];first|done|assumption|omega)|omega|apply_rules[Fr.refl,Fr.alloc,Fr.drew]|rfl) only [↓gsd,gs,gv,Nat.reduceAdd,Nat.reduceEqDiff] <;> rfl
 clear hW
 have cw1 := cur w1
 have hs1 := hs.frN hf1
 refine fixed_spec fun w2 hf2 => ?_
 have cw2 := cur w2
 have g42 := hf2.getN g4
 have k4 := lt_of_get _ _ g42
 unfold encCfg at g42
 simp (maxSteps:=9^7)(disch:=first|assumption|(simp only[dz];first|done|assumption|omega)|omega|apply_rules[Fr.refl,Fr.alloc,Fr.drew]|rfl) only [↓gd,gp,Nat.reduceAdd,Nat.reduceEqDiff, ↓hk4, g42]
 refine new_in (c := c) fun a w3 h3 => ?_
 have cw3 := cur w3
 have h3 := h3.base hf2
 have hc := held_ok c
 simp (maxSteps:=9^7)(disch:=first|assumption|(simp only[dz];first|done|assumption|omega)|omega|apply_rules[Fr.refl,Fr.alloc,Fr.drew]|rfl) only [↓gd,gp,Nat.reduceAdd,Nat.reduceEqDiff, ↓c4_12_s, ↓c4_15_s, ↓c4_14_s, ↓c4_13_s, ↓c4_11_s, ↓c4_10_s, ↓c4_18_s, ↓c4_17_s, ↓c4_16_s, ↓c4_9_s, ↓c4_8_s, ↓c4_24_s, ↓c4_31_s, ↓c4_30_s, ↓c4_29_s, ↓c4_34_s, ↓c4_33_s, ↓c4_32_s, ↓c4_28_s, ↓c4_27_s, ↓c4_26_s, ↓c4_25_s, ↓c4_23_s, ↓c4_36_s, ↓c4_35_s, ↓c4_22_s, ↓c4_21_s, ↓c4_20_s, ↓c4_19_s, ↓c4_7_s, ↓c4_6_s, ↓c4_5_s, ↓c4_42_s, ↓c4_47_s, ↓c4_48_s, ↓c4_46_s, ↓c4_45_s, ↓c4_44_s, ↓c4_43_s, ↓c4_41_s, ↓c4_50_s, ↓c4_49_s, ↓c4_40_s, ↓c4_39_s, ↓c4_38_s, ↓c4_4_s, ↓c4_53_s, ↓c4_52_s, ↓c4_51_s, ↓c4_3_s, ↓c4_2_s, ↓c4_56_s, ↓c4_55_s, ↓c4_54_s, ↓c4_1_s, ↓c4_s, ↓w3t_4]
 refine ans_script h3 hc hs1 rfl rfl fun e4 w4 S4 M4 h4 r2 r7 r9 => ?_
 have cw4 := cur w4
 have r2 : e4 2 = .string k := r2
 have r7 : e4 7 = .pointer (some ⟨w.heap.size + 1, 0, none⟩) := r7
 have r9 : e4 9 = .pointer (some ⟨a.nb, 0, none⟩) := r9
 simp (maxSteps:=9^7)(disch:=first|assumption|(simp only[dz];first|done|assumption|omega)|omega|apply_rules[Fr.refl,Fr.alloc,Fr.drew]|rfl) only [↓gd,gp,Nat.reduceAdd,Nat.reduceEqDiff, ↓hk4, r9]
 refine view_in (a := { a with S := S4 }) h4 hc fun vw ve w5 how hoe hbw hbe hbne h5 hf5 => ?_
 have cw5 := cur w5
 obtain ⟨wa, wc, hvw⟩ := (sl_ints how).form
 obtain ⟨xa, xc, hve⟩ := (show SlOf 8 encEnt w5 ve M4.T.list from hoe.sl).form
 unfold viewV
 rw [hvw, hve]
 simp (maxSteps:=9^7)(disch:=first|assumption|(simp only[dz];first|done|assumption|omega)|omega|apply_rules[Fr.refl,Fr.alloc,Fr.drew]|rfl) only [↓gd,gp,Nat.reduceAdd,Nat.reduceEqDiff, ↓c4_12_s, ↓c4_15_s, ↓c4_14_s, ↓c4_13_s, ↓c4_11_s, ↓c4_10_s, ↓c4_18_s, ↓c4_17_s, ↓c4_16_s, ↓c4_9_s, ↓c4_8_s, ↓c4_24_s, ↓c4_31_s, ↓c4_30_s, ↓c4_29_s, ↓c4_34_s, ↓c4_33_s, ↓c4_32_s, ↓c4_28_s, ↓c4_27_s, ↓c4_26_s, ↓c4_25_s, ↓c4_23_s, ↓c4_36_s, ↓c4_35_s, ↓c4_22_s, ↓c4_21_s, ↓c4_20_s, ↓c4_19_s, ↓c4_7_s, ↓c4_5_s, ↓c4_42_s, ↓c4_47_s, ↓c4_48_s, ↓c4_46_s, ↓c4_45_s, ↓c4_44_s, ↓c4_43_s, ↓c4_41_s, ↓c4_50_s, ↓c4_49_s, ↓c4_40_s, ↓c4_39_s, ↓c4_38_s, ↓c4_37_s, ↓c4_4_s, ↓c4_53_s, ↓c4_52_s, ↓c4_51_s, ↓c4_3_s, ↓c4_2_s, ↓c4_56_s, ↓c4_55_s, ↓c4_54_s, ↓c4_1_s, ↓c4_s, ↓w3t_4]
 rw [← hvw, ← hve]
 generalize hW : World.alloc w5 _ = w6
 have hf6 : Fr [] w5 w6 := by rw [← hW]; exact fr_
 have g12 : w6.heap[w5.heap.size]? = some (.cells (viewV M4 1 vw ve).toArray 43 (0, 0)) := by rw [← hW]; exact get_alloc_new _ _
 clear hW
 have cw6 := cur w6
 have h6 := h5.frN hf6
 have hse : SlOf 8 encEnt w6 ve M4.T.list := SlOf.frN hoe.sl hf6
 have hll := h6.ok.ti.tok.list_len
 have hb1 := hc.b1
 have ha0 := h6.ok.wf.a0
 have ha1 := h6.ok.wf.a1
 generalize hl : M4.T.list = l at hse hll hve hoe
 unfold viewV at g12
 simp (maxSteps:=9^7)(disch:=first|assumption|(simp only[dz];first|done|assumption|omega)|omega|apply_rules[Fr.refl,Fr.alloc,Fr.drew]|rfl) only [↓gd,gp,Nat.reduceAdd,Nat.reduceEqDiff, ↓c4_12_s, ↓c4_15_s, ↓c4_14_s, ↓c4_13_s, ↓c4_11_s, ↓c4_10_s, ↓c4_18_s, ↓c4_17_s, ↓c4_16_s, ↓c4_9_s, ↓c4_24_s, ↓c4_31_s, ↓c4_30_s, ↓c4_29_s, ↓c4_34_s, ↓c4_33_s, ↓c4_32_s, ↓c4_28_s, ↓c4_27_s, ↓c4_26_s, ↓c4_25_s, ↓c4_23_s, ↓c4_36_s, ↓c4_35_s, ↓c4_22_s, ↓c4_21_s, ↓c4_20_s, ↓c4_19_s, ↓c4_7_s, ↓c4_6_s, ↓c4_5_s, ↓c4_42_s, ↓c4_47_s, ↓c4_48_s, ↓c4_46_s, ↓c4_45_s, ↓c4_44_s, ↓c4_43_s, ↓c4_41_s, ↓c4_50_s, ↓c4_49_s, ↓c4_40_s, ↓c4_39_s, ↓c4_38_s, ↓c4_37_s, ↓c4_4_s, ↓c4_53_s, ↓c4_52_s, ↓c4_51_s, ↓c4_3_s, ↓c4_2_s, ↓c4_56_s, ↓c4_55_s, ↓c4_54_s, ↓c4_1_s, ↓c4_s, ↓w3t_4]
 refine for_intro l.length 14 0 (fun i e1 w' => e1 2 = .string k ∧ e1 7 = .pointer (some ⟨w.heap.size + 1, 0, none⟩) ∧ e1 9 = .pointer (some ⟨a.nb, 0, none⟩) ∧ e1 12 = .pointer (some ⟨w5.heap.size, 0, none⟩) ∧ e1 13 = .int .i64 (vicV (lastIx (wants k M4.g.at_ lo hi) l i)) ∧ Fr [] w6 w') ?_ (Nat.zero_le _) ?_ ?_
 ·simp (maxSteps:=9^7)(disch:=first|assumption|(simp only[dz];first|done|assumption|omega)|omega|apply_rules[Fr.refl,Fr.alloc,Fr.drew]|rfl) only [↓gsd,gs,gv,Nat.reduceAdd,Nat.reduceEqDiff, Int.natCast_zero]
 ·simp (maxSteps:=9^7)(disch:=first|assumption|(simp only[dz];first|done|assumption|omega)|omega|apply_rules[Fr.refl,Fr.alloc,Fr.drew]|rfl) only [↓gsd,gs,gv,Nat.reduceAdd,Nat.reduceEqDiff, r2, r7, r9]
  exact ⟨rfl, Fr.refl _ _⟩
 rintro i e1 w7 kk hile eS ⟨t2, t7, t9, t12, t13, hf7⟩ hkk
 have cw7 := cur w7
 have hse7 := hse.frN hf7
 have h7 := h6.frN hf7
 have g127 := hf7.getN g12
 have g127o := hf7.getN g12
 have g77 := h7.fr.getN g7
 have k12 := lt_of_get _ _ g127
 have k7 := lt_of_get _ _ g77
 by_cases hil : i < l.length
 ·have d1 : decide ((i : Int) < (l.length : Int)) = true := decide_eq_true (by omega)
  obtain ⟨x, hx⟩ : ∃ x, l[i]? = some x := ⟨l[i], List.getElem?_eq_getElem hil⟩
  obtain ⟨b1, o1, p1, ob1, hv1, hb1, hbl1, hr1, hc1, hn1⟩ := SlOf.readS hse7 encEnt_len i x hx
  have q5 := fun orig K => hn1 0 5 orig K (by omega)
  simp only [Nat.add_zero] at q5
  have i0 : (0 : Int) ≤ (i : Int) := by omega
  have i1 : (i : Int) < (l.length : Int) := by omega
  have wi : IntKind.i64.wrap ((i : Int) + 1) = (i : Int) + 1 := wrap64 (by omega) (by omega)
  have wa : IntKind.i64.wrap (M4.g.at_ + 1) = M4.g.at_ + 1 := wrap64 (by omega) (by omega)
  have hstep : lastIx (wants k M4.g.at_ lo hi) l (i + 1) = if wants k M4.g.at_ lo hi x = true then some i else lastIx (wants k M4.g.at_ lo hi) l i := by
   show (if (l[i]?).any _ = true then _ else _) = _
   rw [hx]; rfl
  rw [hv1] at g127
  unfold encEnt at q5
  simp only [List.drop_zero, List.take_succ_cons, List.take_zero] at q5
  have fin : ∀ (e' : Env) (w' : World), e' 2 = .string k → e' 7 = .pointer (some ⟨w.heap.size + 1, 0, none⟩) → e' 9 = .pointer (some ⟨a.nb, 0, none⟩) → e' 12 = .pointer (some ⟨w5.heap.size, 0, none⟩) → e' 14 = .int .i64 ((i : Int) + 1) → e' 13 = .int .i64 (vicV (if wants k M4.g.at_ lo hi x = true then some i else lastIx (wants k M4.g.at_ lo hi) l i)) → Fr [] w6 w' → kk e' w' := fun e' w' z2 z7 z9 z12 z14 z13 hf => hkk e' w' hil z14 ⟨z2, z7, z9, z12, by rw [hstep]; exact z13, hf⟩
  have hwx : wants k M4.g.at_ lo hi x = (decide (x.key = k) && decide (max x.lo lo < min (endE x M4.g.at_) hi)) := rfl
  rw [hwx] at fin
  by_cases q1 : x.hi = 4611686018427387904
  ·have dq : decide (x.hi = 4611686018427387904) = true := decide_eq_true q1
   have hee : endE x M4.g.at_ = M4.g.at_ + 1 := by unfold endE; rw [if_pos q1]
   rw [hee] at fin
   cases q2 : decide (x.key = k) with
   | false =>
     rw [q2] at fin
     simp only [Bool.false_and, Bool.false_eq_true, if_false] at fin
     simp (maxSteps:=9^7)(disch:=first|assumption|(simp only[dz];first|done|assumption|omega)|omega|apply_rules[Fr.refl,Fr.alloc,Fr.drew]|rfl) only [↓gd,gp,Nat.reduceAdd,Nat.reduceEqDiff, ↓hk4, t2, t7, t9, t12, t13, eS, d1, g127, g77, i0, i1, Int.toNat_natCast, Nat.mul_one, hb1, q5, dq, wa, q2, wi]
     exact fin _ _ t2 t7 t9 t12 rfl t13 (hf7.trans' fr_)
   | true =>
     rw [q2] at fin
     simp only [Bool.true_and] at fin
     cases q3 : decide (max x.lo lo < min (M4.g.at_ + 1) hi) with
     | false =>
       rw [q3] at fin
       simp only [Bool.false_eq_true, if_false] at fin
       simp (maxSteps:=9^7)(disch:=first|assumption|(simp only[dz];first|done|assumption|omega)|omega|apply_rules[Fr.refl,Fr.alloc,Fr.drew]|rfl) only [↓gd,gp,Nat.reduceAdd,Nat.reduceEqDiff, ↓hk4, t2, t7, t9, t12, t13, eS, d1, g127, g77, i0, i1, Int.toNat_natCast, Nat.mul_one, hb1, q5, dq, wa, q2, wi, q3]
       exact fin _ _ t2 t7 t9 t12 rfl t13 (hf7.trans' fr_)
     | true =>
       rw [q3] at fin
       simp only [if_true, vicV] at fin
       simp (maxSteps:=9^7)(disch:=first|assumption|(simp only[dz];first|done|assumption|omega)|omega|apply_rules[Fr.refl,Fr.alloc,Fr.drew]|rfl) only [↓gd,gp,Nat.reduceAdd,Nat.reduceEqDiff, ↓hk4, t2, t7, t9, t12, t13, eS, d1, g127, g77, i0, i1, Int.toNat_natCast, Nat.mul_one, hb1, q5, dq, wa, q2, wi, q3]
       exact fin _ _ t2 t7 t9 t12 rfl rfl (hf7.trans' fr_)
  ·have dq : decide (x.hi = 4611686018427387904) = false := decide_eq_false q1
   have hee : endE x M4.g.at_ = x.hi := by unfold endE; rw [if_neg q1]
   rw [hee] at fin
   cases q2 : decide (x.key = k) with
   | false =>
     rw [q2] at fin
     simp only [Bool.false_and, Bool.false_eq_true, if_false] at fin
     simp (maxSteps:=9^7)(disch:=first|assumption|(simp only[dz];first|done|assumption|omega)|omega|apply_rules[Fr.refl,Fr.alloc,Fr.drew]|rfl) only [↓gd,gp,Nat.reduceAdd,Nat.reduceEqDiff, ↓hk4, t2, t7, t9, t12, t13, eS, d1, g127, g77, i0, i1, Int.toNat_natCast, Nat.mul_one, hb1, q5, dq, wa, q2, wi]
     exact fin _ _ t2 t7 t9 t12 rfl t13 (hf7.trans' fr_)
   | true =>
     rw [q2] at fin
     simp only [Bool.true_and] at fin
     cases q3 : decide (max x.lo lo < min (x.hi) hi) with
     | false =>
       rw [q3] at fin
       simp only [Bool.false_eq_true, if_false] at fin
       simp (maxSteps:=9^7)(disch:=first|assumption|(simp only[dz];first|done|assumption|omega)|omega|apply_rules[Fr.refl,Fr.alloc,Fr.drew]|rfl) only [↓gd,gp,Nat.reduceAdd,Nat.reduceEqDiff, ↓hk4, t2, t7, t9, t12, t13, eS, d1, g127, g77, i0, i1, Int.toNat_natCast, Nat.mul_one, hb1, q5, dq, wa, q2, wi, q3]
       exact fin _ _ t2 t7 t9 t12 rfl t13 (hf7.trans' fr_)
     | true =>
       rw [q3] at fin
       simp only [if_true, vicV] at fin
       simp (maxSteps:=9^7)(disch:=first|assumption|(simp only[dz];first|done|assumption|omega)|omega|apply_rules[Fr.refl,Fr.alloc,Fr.drew]|rfl) only [↓gd,gp,Nat.reduceAdd,Nat.reduceEqDiff, ↓hk4, t2, t7, t9, t12, t13, eS, d1, g127, g77, i0, i1, Int.toNat_natCast, Nat.mul_one, hb1, q5, dq, wa, q2, wi, q3]
       exact fin _ _ t2 t7 t9 t12 rfl rfl (hf7.trans' fr_)
 ·have d1 : decide ((i : Int) < (l.length : Int)) = false := decide_eq_false (by omega)
  have hii : i = l.length := by omega
  subst hii
  rw [hve] at g127
  simp (maxSteps:=9^7)(disch:=first|assumption|(simp only[dz];first|done|assumption|omega)|omega|apply_rules[Fr.refl,Fr.alloc,Fr.drew]|rfl) only [↓gd,gp,Nat.reduceAdd,Nat.reduceEqDiff, ↓c4_12_s, ↓c4_15_s, ↓c4_14_s, ↓c4_13_s, ↓c4_11_s, ↓c4_10_s, ↓c4_18_s, ↓c4_17_s, ↓c4_16_s, ↓c4_9_s, ↓c4_24_s, ↓c4_31_s, ↓c4_30_s, ↓c4_29_s, ↓c4_34_s, ↓c4_33_s, ↓c4_32_s, ↓c4_28_s, ↓c4_27_s, ↓c4_26_s, ↓c4_25_s, ↓c4_23_s, ↓c4_36_s, ↓c4_35_s, ↓c4_22_s, ↓c4_21_s, ↓c4_20_s, ↓c4_19_s, ↓c4_7_s, ↓c4_6_s, ↓c4_5_s, ↓c4_42_s, ↓c4_47_s, ↓c4_48_s, ↓c4_46_s, ↓c4_45_s, ↓c4_44_s, ↓c4_43_s, ↓c4_41_s, ↓c4_50_s, ↓c4_49_s, ↓c4_40_s, ↓c4_39_s, ↓c4_38_s, ↓c4_37_s, ↓c4_4_s, ↓c4_53_s, ↓c4_52_s, ↓c4_51_s, ↓c4_3_s, ↓c4_2_s, ↓c4_56_s, ↓c4_55_s, ↓c4_54_s, ↓c4_1_s, ↓c4_s, ↓w3t_4, t2, t7, t9, t12, t13, eS, d1, g127]
  refine ans_end (a := { a with S := S4 }) (e := _) h7 hc g77 (vw := vw) (ve := ve) (g12 := g127o) (p12 := w5.heap.size) ?_ (by rw [hl]; exact hse7) ?_ t2 t7 t9 t12 (by rw [hl]; simp (maxSteps:=9^7)(disch:=first|assumption|(simp only[dz];first|done|assumption|omega)|omega|apply_rules[Fr.refl,Fr.alloc,Fr.drew]|rfl) only [↓gsd,gs,gv,Nat.reduceAdd,Nat.reduceEqDiff, t13]) hf1 hK
  ·intro hm
   have := h4.at_.lt _ hm
   have := hf5.size
   omega
  ·intro y m cc q hm
   have h8 := hbe _ (own_off hoe y m cc q)
   have := h4.at_.lt _ hm
   omega
end Go.Proofs.YtomlgkecckffeaaGreat
