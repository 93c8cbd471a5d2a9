/- NodeStays, walked. -/
import Derived.Test.YtomlgkecckffeaaGreatYQ
set_option linter.unusedVariables false
set_option linter.unusedSimpArgs false
set_option maxRecDepth 10000
namespace Go.Proofs.YtomlgkecckffeaaGreat
open Go.VW
theorem sum_le {l : List (List ByteArray)} (h : ∀ ks ∈ l, ks.length ≤ 2000000) : (l.map List.length).sum ≤ 2000000 * l.length := by
 induction l with
 | nil => exact Nat.le_refl _
 | cons a l ih =>
   have h1 := h a (List.mem_cons_self ..)
   have h2 := ih fun ks hk => h ks (List.mem_cons_of_mem _ hk)
   simp only [List.map_cons, List.sum_cons, List.length_cons]
   omega
theorem cnt_le {past : List (List ByteArray)} (h : ∀ ks ∈ past, ks.length ≤ 2000000) (read i : Nat) : cntL past read i ≤ 2000000 * past.length := by
 unfold cntL
 refine Nat.le_trans (sum_le fun ks hk => h ks (List.mem_of_mem_take (List.mem_of_mem_drop hk))) (Nat.mul_le_mul_left _ ?_)
 rw [List.length_drop, List.length_take]
 omega
set_option maxHeartbeats 32000000 in
theorem stays_spec {w : World} {v : Value} {vs : List Value} {past : List (List ByteArray)} {key : ByteArray} {rc r aa cc : Int} {K : Value → World → Prop} (hp : PastAt w v vs past) (hrc : 0 ≤ rc ∧ rc ≤ 255) (hr : 0 ≤ r ∧ r ≤ 255) (ha : 0 ≤ aa ∧ aa ≤ 255) (hcc : 0 ≤ cc ∧ cc ≤ 255)
  (hK : ∀ w', Fr [] w w' → K (.bool true) w') : CallsN Tryz.prog 5 [.int .u8 rc, .agg #[v], .string key, .int .u8 r, .int .u8 aa, .int .u8 cc] w K := by
 have cw := cur w
 obtain ⟨va, vc, hv⟩ := hp.sl.form
 rw [← hp.len] at hv
 have hkl : (0 : Int) ≤ (key.size : Int) := by omega
 refine call5 ?_
 rw [hv]
 simp (disch:=first|assumption|(simp only[dz];first|done|assumption|omega)|omega) only [↓gd,gp,Nat.reduceAdd,Nat.reduceEqDiff, ↓hk5]
 rw [← hv]
 generalize hW : World.alloc w _ = w1
 have hf1 : Fr [] w w1 := by rw [← hW]; exact fr_
 have g7 : w1.heap[w.heap.size]? = some (.cells ([v] : List Value).toArray 58 (0, 0)) := by rw [← hW]; exact get_alloc_new _ _
 clear hW
 have cw1 := cur w1
 have hp1 := hp.frN hf1
 refine fixed_spec fun w2 hf2 => ?_
 have cw2 := cur w2
 have g72 := hf2.getN g7
 rw [hv] at g72
 have k7 := lt_of_get _ _ g72
 have two : ∀ (K' : Value → World → Prop), (∀ w', Fr [] w2 w' → K' (.bool true) w') → CallsN Tryz.prog 14 [] w2 K' := fun K' hk => fixed_spec hk
 by_cases q1 : 200 < past.length
 ·have d1 : decide ((200 : Int) < (past.length : Int)) = true := decide_eq_true (by omega)
  simp (disch:=first|assumption|(simp only[dz];first|done|assumption|omega)|omega) only [↓gd,gp,Nat.reduceAdd,Nat.reduceEqDiff, ↓hk5, g72, d1]
  refine two _ fun w3 hf3 => ?_
  have cw3 := cur w3
  try simp (disch:=first|assumption|(simp only[dz];first|done|assumption|omega)|omega) only [↓gd,gp,Nat.reduceAdd,Nat.reduceEqDiff, ↓hk5]
  exact hK _ ((hf1.trans' hf2).trans' hf3)
 have d1 : decide ((200 : Int) < (past.length : Int)) = false := decide_eq_false (by omega)
 by_cases q2 : key.size < 1
 ·have d2 : decide ((key.size : Int) < 1) = true := decide_eq_true (by omega)
  simp (disch:=first|assumption|(simp only[dz];first|done|assumption|omega)|omega) only [↓gd,gp,Nat.reduceAdd,Nat.reduceEqDiff, ↓hk5, g72, d1, d2]
  refine two _ fun w3 hf3 => ?_
  have cw3 := cur w3
  try simp (disch:=first|assumption|(simp only[dz];first|done|assumption|omega)|omega) only [↓gd,gp,Nat.reduceAdd,Nat.reduceEqDiff, ↓hk5]
  exact hK _ ((hf1.trans' hf2).trans' hf3)
 have d2 : decide ((key.size : Int) < 1) = false := decide_eq_false (by omega)
 by_cases q3 : 32 < key.size
 ·have d3 : decide ((32 : Int) < (key.size : Int)) = true := decide_eq_true (by omega)
  simp (disch:=first|assumption|(simp only[dz];first|done|assumption|omega)|omega) only [↓gd,gp,Nat.reduceAdd,Nat.reduceEqDiff, ↓hk5, g72, d1, d2, d3]
  refine two _ fun w3 hf3 => ?_
  have cw3 := cur w3
  try simp (disch:=first|assumption|(simp only[dz];first|done|assumption|omega)|omega) only [↓gd,gp,Nat.reduceAdd,Nat.reduceEqDiff, ↓hk5]
  exact hK _ ((hf1.trans' hf2).trans' hf3)
 have d3 : decide ((32 : Int) < (key.size : Int)) = false := decide_eq_false (by omega)
 have z1 : IntKind.i64.wrap r = r := wrap64 (by omega) (by omega)
 have z2 : IntKind.i64.wrap ((past.length : Int) + 1) = (past.length : Int) + 1 := wrap64 (by omega) (by omega)
 have zn1 : (past.length : Int) + 1 ≠ 0 := by omega
 obtain ⟨read, hread, hrl⟩ : ∃ read : Nat, r.tmod ((past.length : Int) + 1) = (read : Int) ∧ read ≤ past.length := by
  rw [Int.tmod_eq_emod_of_nonneg hr.1]
  have h1 := Int.emod_lt_of_pos r (show (0 : Int) < (past.length : Int) + 1 by omega)
  have h2 := Int.emod_nonneg r (show (past.length : Int) + 1 ≠ 0 by omega)
  exact ⟨(r % ((past.length : Int) + 1)).toNat, by omega, by omega⟩
 have z3 : IntKind.i64.wrap aa = aa := wrap64 (by omega) (by omega)
 have z4 : IntKind.i64.wrap ((past.length : Int) - read) = (past.length : Int) - read := wrap64 (by omega) (by omega)
 have z5 : IntKind.i64.wrap ((past.length : Int) - read + 1) = (past.length : Int) - read + 1 := wrap64 (by omega) (by omega)
 have zn2 : (past.length : Int) - read + 1 ≠ 0 := by omega
 obtain ⟨at_, hat0, hra, hat⟩ : ∃ at_ : Nat, (read : Int) + aa.tmod ((past.length : Int) - read + 1) = (at_ : Int) ∧ read ≤ at_ ∧ at_ ≤ past.length := by
  rw [Int.tmod_eq_emod_of_nonneg ha.1]
  have h1 := Int.emod_lt_of_pos aa (show (0 : Int) < (past.length : Int) - read + 1 by omega)
  have h2 := Int.emod_nonneg aa zn2
  exact ⟨((read : Int) + aa % ((past.length : Int) - read + 1)).toNat, by omega, by omega, by omega⟩
 have z6 : IntKind.i64.wrap ((read : Int) + aa.tmod ((past.length : Int) - read + 1)) = (at_ : Int) := by rw [hat0]; exact wrap64 (by omega) (by omega)
 simp (disch:=first|assumption|(simp only[dz];first|done|assumption|omega)|omega) only [↓gd,gp,Nat.reduceAdd,Nat.reduceEqDiff, ↓hk5, g72, d1, d2, d3, z1, z2, z3, z4, z5, z6, run_rem _ _ _ _ _ _ _ zn1, run_rem _ _ _ _ _ _ _ zn2, hread]
 have hcb := cnt_le hp.bound read
 refine for_intro at_ 17 read (fun i e1 w' => e1 0 = .int .u8 rc ∧ e1 2 = .string key ∧ e1 5 = .int .u8 cc ∧ e1 7 = .pointer (some ⟨w.heap.size, 0, none⟩) ∧ e1 13 = .int .i64 past.length ∧ e1 14 = .int .i64 read ∧ e1 15 = .int .i64 at_ ∧ e1 16 = .int .i64 (cntL past read i : Nat) ∧ read ≤ i ∧ w' = w2) ?_ hra ?_ ?_
 ·simp (disch:=first|assumption|(simp only[dz];first|done|assumption|omega)|omega) only [↓gsd,gs,gv,Nat.reduceAdd,Nat.reduceEqDiff]
 ·rw [cnt_old (Nat.le_refl read)]
  simp (disch:=first|assumption|(simp only[dz];first|done|assumption|omega)|omega) only [↓gsd,gs,gv,Nat.reduceAdd,Nat.reduceEqDiff, Int.natCast_zero]
  exact Nat.le_refl _
 rintro i e1 w3 kk hile eS ⟨e0, e2, e5, e7, e13, e14, e15, e16, hri, hw3⟩ hkk
 subst hw3
 have cw3 := cur w3
 by_cases hil : i < at_
 ·have d4 : decide ((i : Int) < (at_ : Int)) = true := decide_eq_true (by omega)
  have hpa := hp1.frN hf2
  obtain ⟨ks, hks⟩ : ∃ ks, past[i]? = some ks := ⟨past[i]'(by omega), List.getElem?_eq_getElem _⟩
  obtain ⟨vk, hvk⟩ : ∃ vk, vs[i]? = some vk := ⟨vs[i]'(by have := hp.len; omega), List.getElem?_eq_getElem _⟩
  have hsk := hpa.row i vk ks hvk hks
  have hkb := hp.bound ks (List.mem_of_getElem? hks)
  obtain ⟨ka, kc, hkf⟩ := hsk.form
  obtain ⟨b2, o2, p2, ob2, hv2, hb2, hbl2, _, hc2⟩ := hpa.sl.read (fun _ => rfl) i vk hvk
  have q5 := fun orig K => hc2 0 vk orig K rfl
  simp only [Nat.add_zero, Nat.mul_one] at q5
  have hil2 : i < vs.length := by have := hp.len; omega
  have i0 : (0 : Int) ≤ (i : Int) := by omega
  have i1 : (i : Int) < (vs.length : Int) := by omega
  have wi : IntKind.i64.wrap ((i : Int) + 1) = (i : Int) + 1 := wrap64 (by omega) (by omega)
  have hcn := cnt_next hri hks
  have h1 := hcb i
  have h2 := hcb (i + 1)
  have wc : IntKind.i64.wrap (((cntL past read i : Nat) : Int) + (ks.length : Int)) = ((cntL past read (i + 1) : Nat) : Int) := by rw [wrap64 (by omega) (by omega)]; omega
  rw [← hv, hv2] at g72
  rw [hkf] at q5
  simp (disch:=first|assumption|(simp only[dz];first|done|assumption|omega)|omega) only [↓gd,gp,Nat.reduceAdd,Nat.reduceEqDiff, ↓hk5, e0, e2, e5, e7, e13, e14, e15, e16, eS, d4, g72, i0, i1, Int.toNat_natCast, Nat.mul_one, hb2, q5, wc, wi]
  refine hkk _ _ hil rfl ?_
  simp (disch:=first|assumption|(simp only[dz];first|done|assumption|omega)|omega) only [↓gsd,gs,gv,Nat.reduceAdd,Nat.reduceEqDiff, e0, e2, e5, e7, e13, e14, e15]
  exact Nat.le_succ_of_le hri
 ·have d4 : decide ((i : Int) < (at_ : Int)) = false := decide_eq_false (by omega)
  have : i = at_ := by omega
  subst this
  have z7 : IntKind.i64.wrap rc = rc := wrap64 (by omega) (by omega)
  have hret : ∀ w', Fr [] w3 w' → K (.bool true) w' := fun w' hf => hK w' ((hf1.trans' hf2).trans' hf)
  have rest : ∀ (e' : Env), (read < i → (cntL past read i : Int) < rc) → e' 0 = .int .u8 rc → e' 2 = .string key → e' 5 = .int .u8 cc → e' 7 = .pointer (some ⟨w.heap.size, 0, none⟩) → e' 13 = .int .i64 past.length → e' 14 = .int .i64 read → e' 15 = .int .i64 i → (truthTo past key read i).hi = openI → ∀ w', Fr [] w3 w' → W3 Tryz.prog 192 V5 c5_8 (retQ Tryz.prog [.tmp 12] K) e' w' := by
   intro e' hcnt t0 t2 t5 t7 t13 t14 t15 hop w4 hf4
   have cw4 := cur w4
   simp (disch:=first|assumption|(simp only[dz];first|done|assumption|omega)|omega) only [↓gd,gp,Nat.reduceAdd,Nat.reduceEqDiff, ↓hk5, t0, z7]
   refine new_in (c := ⟨1, 1000, 1, 1, rc, 0, 0, 0⟩) fun a w5 h5 => ?_
   have cw5 := cur w5
   have h5 := h5.base ((hf2.trans' hf4))
   have hc := held_ok ⟨1, 1000, 1, 1, rc, 0, 0, 0⟩
   have hpre : Pre (Mem.zero (Cfg.held ⟨1, 1000, 1, 1, rc, 0, 0, 0⟩) true 0) past key read rc.toNat 0 := by
    refine ⟨⟨rfl, rfl, rfl⟩, fun k => rfl, ?_, ?_, rfl⟩
    ·rw [cnt_old (Nat.zero_le _)]
     exact RP.zero _ 0 key _ (by omega)
    ·show (min (max (hld rc 0 1024) 0) 1024).toNat = rc.toNat
     unfold hld; omega
   simp (disch:=first|assumption|(simp only[dz];first|done|assumption|omega)|omega) only [↓gd,gp,Nat.reduceAdd,Nat.reduceEqDiff, ↓c5_14_s, ↓c5_20_s, ↓c5_26_s, ↓c5_29_s, ↓c5_28_s, ↓c5_27_s, ↓c5_25_s, ↓c5_32_s, ↓c5_31_s, ↓c5_30_s, ↓c5_24_s, ↓c5_23_s, ↓c5_22_s, ↓c5_21_s, ↓c5_19_s, ↓c5_34_s, ↓c5_33_s, ↓c5_18_s, ↓c5_17_s, ↓c5_16_s, ↓c5_15_s, ↓c5_13_s, ↓c5_37_s, ↓c5_36_s, ↓c5_35_s, ↓c5_12_s, ↓c5_11_s, ↓c5_43_s, ↓c5_45_s, ↓c5_44_s, ↓c5_42_s, ↓c5_47_s, ↓c5_46_s, ↓c5_41_s, ↓c5_40_s, ↓c5_39_s, ↓c5_10_s, ↓c5_50_s, ↓c5_49_s, ↓c5_48_s, ↓c5_9_s, ↓c5_8_s, ↓c5_53_s, ↓c5_52_s, ↓c5_51_s, ↓c5_7_s, ↓c5_59_s, ↓c5_61_s, ↓c5_60_s, ↓c5_58_s, ↓c5_63_s, ↓c5_62_s, ↓c5_57_s, ↓c5_56_s, ↓c5_55_s, ↓c5_54_s, ↓c5_6_s, ↓c5_5_s, ↓c5_4_s, ↓c5_3_s, ↓c5_2_s, ↓c5_66_s, ↓c5_65_s, ↓c5_64_s, ↓c5_1_s, ↓c5_s, ↓w3t_5]
   refine stays_apply (past := past) (key := key) (read := read) (cap := rc.toNat) (at_ := i) (p7 := w.heap.size) h5 hc hp1 g7 hat hpre (fun q => by have := hcnt q; omega) (fun j ks h1 h2 h3 => truth_absent (by omega) hop j ks (by omega) h2 h3) ?_ ?_ ?_ fun e6 w6 S6 M6 h6 hpre6 y2 y5 y7 y13 y14 y15 y18 => ?_
   ·exact t7
   ·exact t15
   ·rfl
   have cw6 := cur w6
   have s2 : e6 2 = .string key := y2.trans t2
   have s5 : e6 5 = .int .u8 cc := y5.trans t5
   have s7 : e6 7 = .pointer (some ⟨w.heap.size, 0, none⟩) := y7.trans t7
   have s13 : e6 13 = .int .i64 past.length := y13.trans t13
   have s14 : e6 14 = .int .i64 read := y14.trans t14
   have s15 : e6 15 = .int .i64 i := y15.trans t15
   have s18 : e6 18 = .pointer (some ⟨a.nb, 0, none⟩) := y18
   have g76 := h6.fr.getN g7
   simp (disch:=first|assumption|(simp only[dz];first|done|assumption|omega)|omega) only [↓gd,gp,Nat.reduceAdd,Nat.reduceEqDiff, ↓hk5, s2, s7, s14, s15, g76]
   refine truth_spec (past := past) (key := key) (c := (read : Int)) (read := read) (hp1.frN h6.fr) hrl fun w7 hf7 => ?_
   have cw7 := cur w7
   have hz7 := hf7.size
   have hop0 := truth_open (past := past) (key := key) (c := (read : Int)) (i := read) (Int.le_refl _)
   have hfk := hop0.key
   obtain ⟨f, hf⟩ : ∃ f, f = truthTo past key read read := ⟨_, rfl⟩
   rw [← hf] at hop0 hfk ⊢
   unfold encFct
   simp (disch:=first|assumption|(simp only[dz];first|done|assumption|omega)|omega) only [↓gd,gp,Nat.reduceAdd,Nat.reduceEqDiff, ↓c5_14_s, ↓c5_20_s, ↓c5_26_s, ↓c5_29_s, ↓c5_28_s, ↓c5_27_s, ↓c5_25_s, ↓c5_32_s, ↓c5_31_s, ↓c5_30_s, ↓c5_24_s, ↓c5_23_s, ↓c5_22_s, ↓c5_21_s, ↓c5_19_s, ↓c5_34_s, ↓c5_33_s, ↓c5_18_s, ↓c5_17_s, ↓c5_16_s, ↓c5_15_s, ↓c5_13_s, ↓c5_37_s, ↓c5_36_s, ↓c5_35_s, ↓c5_11_s, ↓c5_43_s, ↓c5_45_s, ↓c5_44_s, ↓c5_42_s, ↓c5_47_s, ↓c5_46_s, ↓c5_41_s, ↓c5_40_s, ↓c5_39_s, ↓c5_38_s, ↓c5_10_s, ↓c5_50_s, ↓c5_49_s, ↓c5_48_s, ↓c5_9_s, ↓c5_8_s, ↓c5_53_s, ↓c5_52_s, ↓c5_51_s, ↓c5_7_s, ↓c5_59_s, ↓c5_61_s, ↓c5_60_s, ↓c5_58_s, ↓c5_63_s, ↓c5_62_s, ↓c5_57_s, ↓c5_56_s, ↓c5_55_s, ↓c5_54_s, ↓c5_6_s, ↓c5_5_s, ↓c5_4_s, ↓c5_3_s, ↓c5_2_s, ↓c5_66_s, ↓c5_65_s, ↓c5_64_s, ↓c5_1_s, ↓c5_s, ↓w3t_5]
   generalize hW : World.alloc w7 _ = w8
   have hf8 : Fr [] w7 w8 := by rw [← hW]; exact fr_
   have hz8 : w8.heap.size = w7.heap.size + 1 := by rw [← hW]; simp only [gz]
   have g20 : w8.heap[w7.heap.size]? = some (.cells (encFct f).toArray 34 (0, 0)) := by rw [← hW]; exact get_alloc_new _ _
   clear hW
   have cw8 := cur w8
   have h8 := (h6.frN hf7).frN hf8
   have g20u := g20
   unfold encFct at g20u
   have hgood := open_good hop0 (by omega) (by omega) (by omega)
   have hb0 := hc.b0
   have hb1 := hc.b1
   have hlast := hpre6.last
   have hrp := hpre6.rp
   rw [← hfk] at hrp
   obtain ⟨o1, o2, o3, o4, o5⟩ := fill_one hc (read := (read : Int)) h8.ok (by omega) hpre6.seq.live hpre6.emp hrp (by rw [hlast]; omega) hgood hop0.hi hop0.lo1 (by omega) (by show 320 ≤ hld 1000 0 1048576; decide)
   have n20 : w7.heap.size ∉ Lay.all { a with S := S6 } := fun hm => by have := (h6.frN hf7).at_.lt _ hm; omega
   simp (disch:=first|assumption|(simp only[dz];first|done|assumption|omega)|omega) only [↓gd,gp,Nat.reduceAdd,Nat.reduceEqDiff, ↓c5_14_s, ↓c5_20_s, ↓c5_26_s, ↓c5_29_s, ↓c5_28_s, ↓c5_27_s, ↓c5_25_s, ↓c5_32_s, ↓c5_31_s, ↓c5_30_s, ↓c5_24_s, ↓c5_23_s, ↓c5_22_s, ↓c5_21_s, ↓c5_19_s, ↓c5_34_s, ↓c5_33_s, ↓c5_18_s, ↓c5_17_s, ↓c5_16_s, ↓c5_15_s, ↓c5_37_s, ↓c5_36_s, ↓c5_35_s, ↓c5_12_s, ↓c5_11_s, ↓c5_43_s, ↓c5_45_s, ↓c5_44_s, ↓c5_42_s, ↓c5_47_s, ↓c5_46_s, ↓c5_41_s, ↓c5_40_s, ↓c5_39_s, ↓c5_38_s, ↓c5_10_s, ↓c5_50_s, ↓c5_49_s, ↓c5_48_s, ↓c5_9_s, ↓c5_8_s, ↓c5_53_s, ↓c5_52_s, ↓c5_51_s, ↓c5_7_s, ↓c5_59_s, ↓c5_61_s, ↓c5_60_s, ↓c5_58_s, ↓c5_63_s, ↓c5_62_s, ↓c5_57_s, ↓c5_56_s, ↓c5_55_s, ↓c5_54_s, ↓c5_6_s, ↓c5_5_s, ↓c5_4_s, ↓c5_3_s, ↓c5_2_s, ↓c5_66_s, ↓c5_65_s, ↓c5_64_s, ↓c5_1_s, ↓c5_s, ↓w3t_5, s14, s18, g20u]
   refine fill_spec (a := { a with S := S6 }) (f := f) (read := (read : Int)) h8.at_ h8.ok.ti.tok (by omega) fun w9 S9 h9 hS9 hf9 => ?_
   have cw9 := cur w9
   have hz9 := hf9.size
   rw [o1]
   have h9N : NodeIn w1 w9 { a with S := S9 } (Cfg.held ⟨1, 1000, 1, 1, rc, 0, 0, 0⟩) 1 (M6.fill (Cfg.held ⟨1, 1000, 1, 1, rc, 0, 0, 0⟩) f read).1 1 := ⟨h9, h8.ok.fill hc (by omega) f read, all_ge h8.ge hS9 h8.fr.size, h8.fr.trans hf9 fun y hy => .inr (h8.ge y hy)⟩
   have g209 := hf9.get g20 n20
   have n209 : w7.heap.size ∉ Lay.all { a with S := S9 } := fun hm => by
    unfold Lay.all at hm
    rcases List.mem_append.1 hm with q | q
    ·exact n20 (List.mem_append_left _ q)
    ·rcases hS9 _ q with q' | q'
     ·exact n20 (List.mem_append_right _ q')
     ·omega
   have hpost : Post (M6.fill (Cfg.held ⟨1, 1000, 1, 1, rc, 0, 0, 0⟩) f read).1 past f read i := ⟨⟨o3, by rw [o4]; exact hpre6.seq.at_, by rw [o4]; exact hpre6.seq.ws⟩, fun _ => o2⟩
   simp (disch:=first|assumption|(simp only[dz];first|done|assumption|omega)|omega) only [↓gd,gp,Nat.reduceAdd,Nat.reduceEqDiff, ↓c5_14_s, ↓c5_20_s, ↓c5_26_s, ↓c5_29_s, ↓c5_28_s, ↓c5_27_s, ↓c5_25_s, ↓c5_32_s, ↓c5_31_s, ↓c5_30_s, ↓c5_24_s, ↓c5_23_s, ↓c5_22_s, ↓c5_21_s, ↓c5_19_s, ↓c5_34_s, ↓c5_33_s, ↓c5_18_s, ↓c5_17_s, ↓c5_16_s, ↓c5_15_s, ↓c5_37_s, ↓c5_36_s, ↓c5_35_s, ↓c5_12_s, ↓c5_11_s, ↓c5_43_s, ↓c5_45_s, ↓c5_44_s, ↓c5_42_s, ↓c5_47_s, ↓c5_46_s, ↓c5_41_s, ↓c5_40_s, ↓c5_39_s, ↓c5_38_s, ↓c5_10_s, ↓c5_50_s, ↓c5_49_s, ↓c5_48_s, ↓c5_9_s, ↓c5_8_s, ↓c5_53_s, ↓c5_52_s, ↓c5_51_s, ↓c5_7_s, ↓c5_59_s, ↓c5_61_s, ↓c5_60_s, ↓c5_58_s, ↓c5_63_s, ↓c5_62_s, ↓c5_57_s, ↓c5_56_s, ↓c5_55_s, ↓c5_54_s, ↓c5_6_s, ↓c5_5_s, ↓c5_4_s, ↓c5_3_s, ↓c5_2_s, ↓c5_66_s, ↓c5_65_s, ↓c5_64_s, ↓c5_1_s, ↓c5_s, ↓w3t_5]
   rw [← hfk] at s2 hop0
   refine stays_end (past := past) (f := f) (read := read) (at_ := i) (p7 := w.heap.size) (p20 := w7.heap.size) (cc := cc) h9N hc hp1 g7 hat hri hpost hop0 hcc g209 n209 (by have := h6.fr.size; omega) ?_ ?_ ?_ ?_ ?_ ?_ ?_ ?_ fun w' hf' => hK w' (hf1.trans' hf')
   ·exact s2
   ·exact s5
   ·exact s7
   ·exact s13
   ·exact s14
   ·exact s15
   ·exact s18
   ·rfl
  by_cases q4 : read < i
  ·have d5 : decide ((read : Int) < (i : Int)) = true := decide_eq_true (by omega)
   by_cases q5 : rc ≤ ((cntL past read i : Nat) : Int)
   ·have d6 : decide (rc ≤ ((cntL past read i : Nat) : Int)) = true := decide_eq_true q5
    simp (disch:=first|assumption|(simp only[dz];first|done|assumption|omega)|omega) only [↓gd,gp,Nat.reduceAdd,Nat.reduceEqDiff, ↓c5_14_s, ↓c5_20_s, ↓c5_26_s, ↓c5_29_s, ↓c5_28_s, ↓c5_27_s, ↓c5_25_s, ↓c5_32_s, ↓c5_31_s, ↓c5_30_s, ↓c5_24_s, ↓c5_23_s, ↓c5_22_s, ↓c5_21_s, ↓c5_19_s, ↓c5_34_s, ↓c5_33_s, ↓c5_18_s, ↓c5_17_s, ↓c5_16_s, ↓c5_15_s, ↓c5_13_s, ↓c5_37_s, ↓c5_36_s, ↓c5_35_s, ↓c5_12_s, ↓c5_11_s, ↓c5_43_s, ↓c5_45_s, ↓c5_44_s, ↓c5_42_s, ↓c5_47_s, ↓c5_46_s, ↓c5_41_s, ↓c5_40_s, ↓c5_39_s, ↓c5_38_s, ↓c5_10_s, ↓c5_50_s, ↓c5_49_s, ↓c5_48_s, ↓c5_9_s, ↓c5_53_s, ↓c5_52_s, ↓c5_51_s, ↓c5_7_s, ↓c5_59_s, ↓c5_61_s, ↓c5_60_s, ↓c5_58_s, ↓c5_63_s, ↓c5_62_s, ↓c5_57_s, ↓c5_56_s, ↓c5_55_s, ↓c5_54_s, ↓c5_6_s, ↓c5_5_s, ↓c5_4_s, ↓c5_3_s, ↓c5_2_s, ↓c5_66_s, ↓c5_65_s, ↓c5_64_s, ↓c5_1_s, ↓c5_s, ↓w3t_5, e0, e2, e5, e7, e13, e14, e15, e16, eS, d4, d5, d6, z7]
    exact hret _ (Fr.refl _ _)
   ·have d6 : decide (rc ≤ ((cntL past read i : Nat) : Int)) = false := decide_eq_false q5
    simp (disch:=first|assumption|(simp only[dz];first|done|assumption|omega)|omega) only [↓gd,gp,Nat.reduceAdd,Nat.reduceEqDiff, ↓c5_14_s, ↓c5_20_s, ↓c5_26_s, ↓c5_29_s, ↓c5_28_s, ↓c5_27_s, ↓c5_25_s, ↓c5_32_s, ↓c5_31_s, ↓c5_30_s, ↓c5_24_s, ↓c5_23_s, ↓c5_22_s, ↓c5_21_s, ↓c5_19_s, ↓c5_34_s, ↓c5_33_s, ↓c5_18_s, ↓c5_17_s, ↓c5_16_s, ↓c5_15_s, ↓c5_13_s, ↓c5_37_s, ↓c5_36_s, ↓c5_35_s, ↓c5_12_s, ↓c5_11_s, ↓c5_43_s, ↓c5_45_s, ↓c5_44_s, ↓c5_42_s, ↓c5_47_s, ↓c5_46_s, ↓c5_41_s, ↓c5_40_s, ↓c5_39_s, ↓c5_38_s, ↓c5_10_s, ↓c5_50_s, ↓c5_49_s, ↓c5_48_s, ↓c5_9_s, ↓c5_53_s, ↓c5_52_s, ↓c5_51_s, ↓c5_7_s, ↓c5_59_s, ↓c5_61_s, ↓c5_60_s, ↓c5_58_s, ↓c5_63_s, ↓c5_62_s, ↓c5_57_s, ↓c5_56_s, ↓c5_55_s, ↓c5_54_s, ↓c5_6_s, ↓c5_5_s, ↓c5_4_s, ↓c5_3_s, ↓c5_2_s, ↓c5_66_s, ↓c5_65_s, ↓c5_64_s, ↓c5_1_s, ↓c5_s, ↓w3t_5, e0, e2, e5, e7, e13, e14, e15, e16, eS, d4, d5, d6, z7, g72]
    rw [← hv]
    refine truth_spec (past := past) (key := key) (c := (read : Int)) (read := i) (hp1.frN hf2) hat fun w4 hf4 => ?_
    have cw4 := cur w4
    unfold encFct
    cases dop : decide ((truthTo past key read i).hi = 4611686018427387904) with
    | false =>
      simp (disch:=first|assumption|(simp only[dz];first|done|assumption|omega)|omega) only [↓gd,gp,Nat.reduceAdd,Nat.reduceEqDiff, ↓c5_14_s, ↓c5_20_s, ↓c5_26_s, ↓c5_29_s, ↓c5_28_s, ↓c5_27_s, ↓c5_25_s, ↓c5_32_s, ↓c5_31_s, ↓c5_30_s, ↓c5_24_s, ↓c5_23_s, ↓c5_22_s, ↓c5_21_s, ↓c5_19_s, ↓c5_34_s, ↓c5_33_s, ↓c5_18_s, ↓c5_17_s, ↓c5_16_s, ↓c5_15_s, ↓c5_13_s, ↓c5_37_s, ↓c5_36_s, ↓c5_35_s, ↓c5_12_s, ↓c5_11_s, ↓c5_43_s, ↓c5_45_s, ↓c5_44_s, ↓c5_42_s, ↓c5_47_s, ↓c5_46_s, ↓c5_41_s, ↓c5_40_s, ↓c5_39_s, ↓c5_38_s, ↓c5_10_s, ↓c5_50_s, ↓c5_49_s, ↓c5_48_s, ↓c5_9_s, ↓c5_53_s, ↓c5_52_s, ↓c5_51_s, ↓c5_7_s, ↓c5_59_s, ↓c5_61_s, ↓c5_60_s, ↓c5_58_s, ↓c5_63_s, ↓c5_62_s, ↓c5_57_s, ↓c5_56_s, ↓c5_55_s, ↓c5_54_s, ↓c5_6_s, ↓c5_5_s, ↓c5_4_s, ↓c5_3_s, ↓c5_2_s, ↓c5_66_s, ↓c5_65_s, ↓c5_64_s, ↓c5_1_s, ↓c5_s, ↓w3t_5, dop]
      exact hret _ hf4
    | true =>
      simp (disch:=first|assumption|(simp only[dz];first|done|assumption|omega)|omega) only [↓gd,gp,Nat.reduceAdd,Nat.reduceEqDiff, ↓c5_14_s, ↓c5_20_s, ↓c5_26_s, ↓c5_29_s, ↓c5_28_s, ↓c5_27_s, ↓c5_25_s, ↓c5_32_s, ↓c5_31_s, ↓c5_30_s, ↓c5_24_s, ↓c5_23_s, ↓c5_22_s, ↓c5_21_s, ↓c5_19_s, ↓c5_34_s, ↓c5_33_s, ↓c5_18_s, ↓c5_17_s, ↓c5_16_s, ↓c5_15_s, ↓c5_13_s, ↓c5_37_s, ↓c5_36_s, ↓c5_35_s, ↓c5_12_s, ↓c5_11_s, ↓c5_43_s, ↓c5_45_s, ↓c5_44_s, ↓c5_42_s, ↓c5_47_s, ↓c5_46_s, ↓c5_41_s, ↓c5_40_s, ↓c5_39_s, ↓c5_38_s, ↓c5_10_s, ↓c5_50_s, ↓c5_49_s, ↓c5_48_s, ↓c5_9_s, ↓c5_53_s, ↓c5_52_s, ↓c5_51_s, ↓c5_7_s, ↓c5_59_s, ↓c5_61_s, ↓c5_60_s, ↓c5_58_s, ↓c5_63_s, ↓c5_62_s, ↓c5_57_s, ↓c5_56_s, ↓c5_55_s, ↓c5_54_s, ↓c5_6_s, ↓c5_5_s, ↓c5_4_s, ↓c5_3_s, ↓c5_2_s, ↓c5_66_s, ↓c5_65_s, ↓c5_64_s, ↓c5_1_s, ↓c5_s, ↓w3t_5, dop]
      refine rest _ (fun _ => by omega) ?_ ?_ ?_ ?_ ?_ ?_ ?_ (of_decide_eq_true dop) _ hf4
      ·exact e0
      ·exact e2
      ·exact e5
      ·exact e7
      ·exact e13
      ·exact e14
      ·exact e15
  ·have d5 : decide ((read : Int) < (i : Int)) = false := decide_eq_false (by omega)
   simp (disch:=first|assumption|(simp only[dz];first|done|assumption|omega)|omega) only [↓gd,gp,Nat.reduceAdd,Nat.reduceEqDiff, ↓c5_14_s, ↓c5_20_s, ↓c5_26_s, ↓c5_29_s, ↓c5_28_s, ↓c5_27_s, ↓c5_25_s, ↓c5_32_s, ↓c5_31_s, ↓c5_30_s, ↓c5_24_s, ↓c5_23_s, ↓c5_22_s, ↓c5_21_s, ↓c5_19_s, ↓c5_34_s, ↓c5_33_s, ↓c5_18_s, ↓c5_17_s, ↓c5_16_s, ↓c5_15_s, ↓c5_13_s, ↓c5_37_s, ↓c5_36_s, ↓c5_35_s, ↓c5_12_s, ↓c5_11_s, ↓c5_43_s, ↓c5_45_s, ↓c5_44_s, ↓c5_42_s, ↓c5_47_s, ↓c5_46_s, ↓c5_41_s, ↓c5_40_s, ↓c5_39_s, ↓c5_38_s, ↓c5_10_s, ↓c5_50_s, ↓c5_49_s, ↓c5_48_s, ↓c5_9_s, ↓c5_53_s, ↓c5_52_s, ↓c5_51_s, ↓c5_7_s, ↓c5_59_s, ↓c5_61_s, ↓c5_60_s, ↓c5_58_s, ↓c5_63_s, ↓c5_62_s, ↓c5_57_s, ↓c5_56_s, ↓c5_55_s, ↓c5_54_s, ↓c5_6_s, ↓c5_5_s, ↓c5_4_s, ↓c5_3_s, ↓c5_2_s, ↓c5_66_s, ↓c5_65_s, ↓c5_64_s, ↓c5_1_s, ↓c5_s, ↓w3t_5, e0, e2, e5, e7, e13, e14, e15, e16, eS, d4, d5, z7, g72]
   rw [← hv]
   refine truth_spec (past := past) (key := key) (c := (read : Int)) (read := i) (hp1.frN hf2) hat fun w4 hf4 => ?_
   have cw4 := cur w4
   unfold encFct
   cases dop : decide ((truthTo past key read i).hi = 4611686018427387904) with
   | false =>
     simp (disch:=first|assumption|(simp only[dz];first|done|assumption|omega)|omega) only [↓gd,gp,Nat.reduceAdd,Nat.reduceEqDiff, ↓c5_14_s, ↓c5_20_s, ↓c5_26_s, ↓c5_29_s, ↓c5_28_s, ↓c5_27_s, ↓c5_25_s, ↓c5_32_s, ↓c5_31_s, ↓c5_30_s, ↓c5_24_s, ↓c5_23_s, ↓c5_22_s, ↓c5_21_s, ↓c5_19_s, ↓c5_34_s, ↓c5_33_s, ↓c5_18_s, ↓c5_17_s, ↓c5_16_s, ↓c5_15_s, ↓c5_13_s, ↓c5_37_s, ↓c5_36_s, ↓c5_35_s, ↓c5_12_s, ↓c5_11_s, ↓c5_43_s, ↓c5_45_s, ↓c5_44_s, ↓c5_42_s, ↓c5_47_s, ↓c5_46_s, ↓c5_41_s, ↓c5_40_s, ↓c5_39_s, ↓c5_38_s, ↓c5_10_s, ↓c5_50_s, ↓c5_49_s, ↓c5_48_s, ↓c5_9_s, ↓c5_53_s, ↓c5_52_s, ↓c5_51_s, ↓c5_7_s, ↓c5_59_s, ↓c5_61_s, ↓c5_60_s, ↓c5_58_s, ↓c5_63_s, ↓c5_62_s, ↓c5_57_s, ↓c5_56_s, ↓c5_55_s, ↓c5_54_s, ↓c5_6_s, ↓c5_5_s, ↓c5_4_s, ↓c5_3_s, ↓c5_2_s, ↓c5_66_s, ↓c5_65_s, ↓c5_64_s, ↓c5_1_s, ↓c5_s, ↓w3t_5, dop]
     exact hret _ hf4
   | true =>
     simp (disch:=first|assumption|(simp only[dz];first|done|assumption|omega)|omega) only [↓gd,gp,Nat.reduceAdd,Nat.reduceEqDiff, ↓c5_14_s, ↓c5_20_s, ↓c5_26_s, ↓c5_29_s, ↓c5_28_s, ↓c5_27_s, ↓c5_25_s, ↓c5_32_s, ↓c5_31_s, ↓c5_30_s, ↓c5_24_s, ↓c5_23_s, ↓c5_22_s, ↓c5_21_s, ↓c5_19_s, ↓c5_34_s, ↓c5_33_s, ↓c5_18_s, ↓c5_17_s, ↓c5_16_s, ↓c5_15_s, ↓c5_13_s, ↓c5_37_s, ↓c5_36_s, ↓c5_35_s, ↓c5_12_s, ↓c5_11_s, ↓c5_43_s, ↓c5_45_s, ↓c5_44_s, ↓c5_42_s, ↓c5_47_s, ↓c5_46_s, ↓c5_41_s, ↓c5_40_s, ↓c5_39_s, ↓c5_38_s, ↓c5_10_s, ↓c5_50_s, ↓c5_49_s, ↓c5_48_s, ↓c5_9_s, ↓c5_53_s, ↓c5_52_s, ↓c5_51_s, ↓c5_7_s, ↓c5_59_s, ↓c5_61_s, ↓c5_60_s, ↓c5_58_s, ↓c5_63_s, ↓c5_62_s, ↓c5_57_s, ↓c5_56_s, ↓c5_55_s, ↓c5_54_s, ↓c5_6_s, ↓c5_5_s, ↓c5_4_s, ↓c5_3_s, ↓c5_2_s, ↓c5_66_s, ↓c5_65_s, ↓c5_64_s, ↓c5_1_s, ↓c5_s, ↓w3t_5, dop]
     refine rest _ (fun q => absurd q q4) ?_ ?_ ?_ ?_ ?_ ?_ ?_ (of_decide_eq_true dop) _ hf4
     ·exact e0
     ·exact e2
     ·exact e5
     ·exact e7
     ·exact e13
     ·exact e14
     ·exact e15
end Go.Proofs.YtomlgkecckffeaaGreat
