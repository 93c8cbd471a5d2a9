/- NodeBounds: runs of a key; the walk. -/
import Derived.Test.YtomlgkecckffeaaGreatYD
set_option linter.unusedVariables false
set_option linter.unusedSimpArgs false
set_option maxRecDepth 10000
namespace Go.Proofs.YtomlgkecckffeaaGreat
open Go.VW
def runTo (l : Ents) : Nat → Nat
 | 0 => 0
 | i + 1 => if 0 < i ∧ (l[i - 1]?.map (·.key)) ≠ (l[i]?.map (·.key)) then 1 else runTo l i + 1
theorem runTo_spec {l : Ents} : ∀ {i : Nat}, i ≤ l.length → runTo l i ≤ i ∧ ∀ j, i - runTo l i ≤ j → j < i → (l[j]?.map (·.key)) = (l[i - 1]?.map (·.key))
 | 0, _ => ⟨Nat.le_refl _, fun j h1 h2 => by omega⟩
 | i + 1, hi => by
   obtain ⟨i1, i2⟩ := runTo_spec (l := l) (i := i) (by omega)
   unfold runTo
   split
   ·refine ⟨by omega, fun j h1 h2 => ?_⟩
    have : j = i := by omega
    subst this; rfl
   ·rename_i q
    refine ⟨by omega, fun j h1 h2 => ?_⟩
    by_cases hj : j = i
    ·subst hj; rfl
    ·rw [i2 j (by omega) (by omega)]
     exact Classical.byContradiction fun q' => q ⟨by omega, q'⟩
theorem runTo_le {T : Tab} {B : Nat} (h : TOK T B) {i : Nat} (hi : i < T.list.length) : runTo T.list (i + 1) ≤ (T.row (T.list[i]'hi).key).length := by
 obtain ⟨i1, i2⟩ := runTo_spec (l := T.list) (i := i + 1) (by omega)
 rw [← list_filter h]
 have hsub : ((T.list.take (i + 1)).drop (i + 1 - runTo T.list (i + 1))).Sublist T.list := (List.drop_sublist _ _).trans (List.take_sublist _ _)
 have h1 := (hsub.filter (fun e => decide (e.key = (T.list[i]'hi).key))).length_le
 have h2 : ((T.list.take (i + 1)).drop (i + 1 - runTo T.list (i + 1))).filter (fun e => decide (e.key = (T.list[i]'hi).key)) = (T.list.take (i + 1)).drop (i + 1 - runTo T.list (i + 1)) := by
  rw [List.filter_eq_self]
  intro e he
  obtain ⟨j, hj⟩ := List.getElem?_of_mem he
  rw [List.getElem?_drop, List.getElem?_take] at hj
  split at hj
  ·rename_i hlt
   have := i2 (i + 1 - runTo T.list (i + 1) + j) (by omega) hlt
   rw [hj, show i + 1 - 1 = i by omega, List.getElem?_eq_getElem hi] at this
   simpa using this
  ·cases hj
 rw [h2, List.length_drop, List.length_take] at h1
 omega
theorem start_in {W w : World} {a : Lay} {c : Cfg} {inc : Int} {M : Mem} {j i n : Int} {K : Value → World → Prop} (h : NodeIn W w a c inc M j)
  (hK : ∀ w' a', a'.nb = a.nb → NodeIn W w' a' c inc (M.start c inc i n).1 j → K (.bool (M.start c inc i n).2) w') : CallsN Tryz.prog 27 [.pointer (some ⟨a.nb, 0, none⟩), .int .i64 i, .int .i64 n] w K :=
 start_spec h.at_ fun w' a' q1 h' q2 hf => hK w' a' q1 ⟨h', h.ok.start i n, fun y hy => (q2 y hy).elim (h.ge y) fun q => Nat.le_trans h.fr.size q, h.fr.trans hf fun y hy => .inr (h.ge y hy)⟩
theorem SlOf.readA {α : Type} {k : Nat} {enc : α → List Value} {w : World} {v : Value} {xs : List α} (h : SlOf k enc w v xs) (hk : ∀ x, (enc x).length = k) (h0 : 0 < xs.length) :
  ∃ b off cap o, v = .slice (some ⟨b, off, none⟩) xs.length cap ∧ w.heap[b]? = some o ∧ b < w.heap.size ∧ ∀ i x, xs[i]? = some x → (∀ orig K, ldnV orig k (some o) (off + i * k) K = K (.agg (enc x).toArray)) ∧
    (∀ j y orig K, (enc x)[j]? = some y → ldV orig (some o) (off + i * k + j) K = K y) := by
 obtain ⟨b, off, cap, o, e1, e2, e3, _⟩ := h.read hk 0 xs[0] (List.getElem?_eq_getElem h0)
 refine ⟨b, off, cap, o, e1, e2, e3, fun i x hx => ?_⟩
 obtain ⟨b', off', cap', o', f1, f2, f3, f4, f5⟩ := h.read hk i x hx
 rw [e1] at f1
 simp only [Value.slice.injEq, Option.some.injEq, Addr.mk.injEq, and_true, true_and] at f1
 obtain ⟨⟨rfl, rfl⟩, rfl⟩ := f1
 rw [e2] at f2
 cases f2
 exact ⟨f4, f5⟩
theorem hot_le {l : Ents} {i : Nat} : sumE hotN (l.take i) ≤ l.length := by
 have : sumE hotN (l.take i) ≤ sumE (fun _ => 1) (l.take i) := sumE_le fun e _ => by unfold hotN; split <;> omega
 rw [sumE_one, List.length_take] at this
 omega
theorem sumE_take_le (f : Ent → Nat) {l : Ents} (i : Nat) : sumE f (l.take i) ≤ sumE f l := by
 have := congrArg (sumE f) (List.take_append_drop i l)
 rw [sumE_app] at this
 omega
set_option maxHeartbeats 32000000 in
theorem bounds_round {W w : World} {a : Lay} {c : Cfg} {M : Mem} {i : Int} {p2 : Nat} {e : Env} {k : Env → World → Prop} {Q : Exit → Env → World → Prop} (h : NodeIn W w a c.held 1 M i) (hB : BOK c.held M) (g2 : w.heap[p2]? = some (.cells (encCfg c).toArray 25 (0, 0)))
  (e2 : e 2 = .pointer (some ⟨p2, 0, none⟩)) (e5 : e 5 = .pointer (some ⟨a.nb, 0, none⟩)) (hK : ∀ e' w', Fr [] w w' → e' 1 = e 1 → e' 2 = e 2 → e' 5 = e 5 → e' 6 = e 6 → k e' w') :
  W3 Tryz.prog 155 V6 c6_15 (blockQ 1 (seqQ k Q)) e w := by
 have cw := cur w
 have hc := held_ok c
 have hb0 := hc.b0
 have hb1 := hc.b1
 have tok := h.ok.ti.tok
 have hsum := sumE_list costN tok.nd
 have hle := tok.le
 have hbytes := tok.bytes
 have hhot := sumE_list hotN tok.nd
 have hB2 := hB.hot
 have hrow := fun (i : Nat) (hi : i < M.T.list.length) => runTo_le tok hi
 have hBr := hB.rows
 have hws := h.ok.wf.len
 have hmost := hB.most
 have hllen := tok.list_len
 rw [e2, e5] at hK
 simp (maxSteps:=9^7)(disch:=first|assumption|(simp only[dz];first|done|assumption|omega)|omega|apply_rules[Fr.refl,Fr.alloc,Fr.drew]|rfl) only [↓gd,gp,Nat.reduceAdd,Nat.reduceEqDiff, ↓hk6, e2, e5]
 refine view_in h hc fun vw ve w5 how hoe hbw hbe hbne h5 hf5 => ?_
 have cw5 := cur w5
 obtain ⟨wa, wc, hvw⟩ := (sl_ints how).form
 have hse5 : SlOf 8 encEnt w5 ve M.T.list := hoe.sl
 obtain ⟨xa, xc, hve⟩ := hse5.form
 have hln : (sortI (M.g.ws.map (·.1))).length = M.g.ws.length := by have := how.1; simpa using this
 rw [hln] at hvw
 unfold viewV
 rw [hvw, hve]
 simp (maxSteps:=9^7)(disch:=first|assumption|(simp only[dz];first|done|assumption|omega)|omega|apply_rules[Fr.refl,Fr.alloc,Fr.drew]|rfl) only [↓gd,gp,Nat.reduceAdd,Nat.reduceEqDiff, ↓c6_5_s, ↓c6_11_s, ↓c6_20_s, ↓c6_19_s, ↓c6_18_s, ↓c6_26_s, ↓c6_35_s, ↓c6_34_s, ↓c6_33_s, ↓c6_38_s, ↓c6_37_s, ↓c6_36_s, ↓c6_32_s, ↓c6_41_s, ↓c6_40_s, ↓c6_39_s, ↓c6_31_s, ↓c6_30_s, ↓c6_29_s, ↓c6_28_s, ↓c6_27_s, ↓c6_25_s, ↓c6_43_s, ↓c6_42_s, ↓c6_24_s, ↓c6_23_s, ↓c6_22_s, ↓c6_21_s, ↓c6_17_s, ↓c6_15_s, ↓c6_48_s, ↓c6_51_s, ↓c6_54_s, ↓c6_57_s, ↓c6_56_s, ↓c6_55_s, ↓c6_53_s, ↓c6_52_s, ↓c6_50_s, ↓c6_49_s, ↓c6_47_s, ↓c6_46_s, ↓c6_45_s, ↓c6_44_s, ↓c6_14_s, ↓c6_13_s, ↓c6_12_s, ↓c6_10_s, ↓c6_59_s, ↓c6_58_s, ↓c6_9_s, ↓c6_8_s, ↓c6_7_s, ↓c6_6_s, ↓c6_4_s, ↓c6_62_s, ↓c6_61_s, ↓c6_60_s, ↓c6_3_s, ↓c6_2_s, ↓c6_65_s, ↓c6_64_s, ↓c6_63_s, ↓c6_1_s, ↓c6_s, ↓w3t_6]
 rw [← hvw, ← hve]
 generalize hW : World.alloc w5 _ = w6
 have hf6 : Fr [] w5 w6 := by rw [← hW]; exact fr_
 have g8 : w6.heap[w5.heap.size]? = some (.cells (viewV M 1 vw ve).toArray 43 (0, 0)) := by rw [← hW]; exact get_alloc_new _ _
 clear hW
 have cw6 := cur w6
 have hse : SlOf 8 encEnt w6 ve M.T.list := hse5.frN hf6
 have g26 := (hf5.trans' hf6).getN g2
 unfold viewV at g8
 unfold encCfg at g26
 have hF6 := hf5.trans' hf6
 generalize hl : M.T.list = l at hse hve hllen hsum hhot hrow
 clear hse5 hoe
 simp (maxSteps:=9^7)(disch:=first|assumption|(simp only[dz];first|done|assumption|omega)|omega|apply_rules[Fr.refl,Fr.alloc,Fr.drew]|rfl) only [↓gd,gp,Nat.reduceAdd,Nat.reduceEqDiff, ↓hk6]
 refine for_intro l.length 12 0 (fun j e1 w' => e1 1 = e 1 ∧ e1 2 = .pointer (some ⟨p2, 0, none⟩) ∧ e1 5 = .pointer (some ⟨a.nb, 0, none⟩) ∧ e1 6 = e 6 ∧ e1 8 = .pointer (some ⟨w5.heap.size, 0, none⟩) ∧ e1 9 = .int .i64 (sumE costN (l.take j) : Nat) ∧ e1 10 = .int .i64 (runTo l j : Nat) ∧ e1 11 = .int .i64 (sumE hotN (l.take j) : Nat) ∧ Fr [] w6 w') ?_ (Nat.zero_le _) ?_ ?_
 ·simp (maxSteps:=9^7)(disch:=first|assumption|(simp only[dz];first|done|assumption|omega)|omega|apply_rules[Fr.refl,Fr.alloc,Fr.drew]|rfl) only [↓gsd,gs,gv,Nat.reduceAdd,Nat.reduceEqDiff, Int.natCast_zero]
 ·simp (maxSteps:=9^7)(disch:=first|assumption|(simp only[dz];first|done|assumption|omega)|omega|apply_rules[Fr.refl,Fr.alloc,Fr.drew]|rfl) only [↓gsd,gs,gv,Nat.reduceAdd,Nat.reduceEqDiff, e2, e5]
  exact ⟨rfl, rfl, rfl, Fr.refl _ _⟩
 rintro j e1 w7 kk hile eS ⟨t1, t2, t5, t6, t8, t9, t10, t11, hf7⟩ hkk
 have cw7 := cur w7
 have hse7 := hse.frN hf7
 have g87 := hf7.getN g8
 have g27 := hf7.getN g26
 have k8 := lt_of_get _ _ g87
 have k2 := lt_of_get _ _ g27
 by_cases hil : j < l.length
 ·have d1 : decide ((j : Int) < (l.length : Int)) = true := decide_eq_true (by omega)
  obtain ⟨x, hx⟩ : ∃ x, l[j]? = some x := ⟨l[j], List.getElem?_eq_getElem hil⟩
  obtain ⟨b1, o1, p1, ob1, hv1, hb1, hbl1, hrd⟩ := SlOf.readA hse7 encEnt_len (by omega)
  obtain ⟨hr1, hc1⟩ := hrd j x hx
  have i0 : (0 : Int) ≤ (j : Int) := by omega
  have i1 : (j : Int) < (l.length : Int) := by omega
  have wi : IntKind.i64.wrap ((j : Int) + 1) = (j : Int) + 1 := wrap64 (by omega) (by omega)
  rw [hv1] at g87
  have hxm : x ∈ l := List.mem_of_getElem? hx
  have hxm' : x ∈ M.T.list := by rw [hl]; exact hxm
  obtain ⟨zk, zd, _⟩ := goodE_facts (list_row tok hxm').2
  have htk : l.take (j + 1) = l.take j ++ [x] := by rw [List.take_add_one, hx]; rfl
  have hsc : sumE costN (l.take (j + 1)) = sumE costN (l.take j) + costN x := by rw [htk, sumE_app, sumE_cons, sumE_nil]; rfl
  have hsh : sumE hotN (l.take (j + 1)) = sumE hotN (l.take j) + hotN x := by rw [htk, sumE_app, sumE_cons, sumE_nil]; rfl
  have hs1 := sumE_take_le costN (l := l) (j + 1)
  have hs2 := hot_le (l := l) (i := j + 1)
  have hcx : costN x = 32 + x.key.size + x.data.size := rfl
  have z1 : IntKind.i64.wrap (32 + (x.key.size : Int)) = 32 + (x.key.size : Int) := wrap64 (by omega) (by omega)
  have z2 : IntKind.i64.wrap (32 + (x.key.size : Int) + (x.data.size : Int)) = 32 + (x.key.size : Int) + (x.data.size : Int) := wrap64 (by omega) (by omega)
  have z3 : IntKind.i64.wrap (((sumE costN (l.take j) : Nat) : Int) + (32 + (x.key.size : Int) + (x.data.size : Int))) = ((sumE costN (l.take (j + 1)) : Nat) : Int) := by rw [wrap64 (by omega) (by omega)]; omega
  have hrl := (runTo_spec (l := l) (i := j) (by omega)).1
  have z4 : IntKind.i64.wrap (((runTo l j : Nat) : Int) + 1) = ((runTo l j : Nat) : Int) + 1 := wrap64 (by omega) (by omega)
  have z5 : IntKind.i64.wrap (((sumE hotN (l.take j) : Nat) : Int) + 1) = ((sumE hotN (l.take j) : Nat) : Int) + 1 := wrap64 (by omega) (by omega)
  have hR : ((runTo l (j + 1) : Nat) : Int) ≤ max c.spans 1 ∧ ((runTo l (j + 1) : Nat) : Int) ≤ 64 := by
   have q1 := hrow j hil
   have q2 := hBr (l[j]'hil).key
   simp only [Cfg.held, hld] at q2
   omega
  have hrs : runTo l (j + 1) = if 0 < j ∧ (l[j - 1]?.map (·.key)) ≠ (l[j]?.map (·.key)) then 1 else runTo l j + 1 := rfl
  unfold encEnt at hr1
  by_cases hj0 : 0 < j
  ·have d0 : decide ((0 : Int) < (j : Int)) = true := decide_eq_true (by omega)
   obtain ⟨y, hy⟩ : ∃ y, l[j - 1]? = some y := ⟨l[j - 1], List.getElem?_eq_getElem (by omega)⟩
   obtain ⟨_, hcy⟩ := hrd (j - 1) y hy
   have q0 := fun orig K => hcy 0 (.string y.key) orig K rfl
   simp only [Nat.add_zero] at q0
   have z6 : IntKind.i64.wrap ((j : Int) - 1) = (j : Int) - 1 := wrap64 (by omega) (by omega)
   have i2 : (0 : Int) ≤ (j : Int) - 1 := by omega
   have i3 : (j : Int) - 1 < (l.length : Int) := by omega
   have i4 : ((j : Int) - 1).toNat = j - 1 := by omega
   rw [hy, hx] at hrs
   simp only [Option.map_some, ne_eq, Option.some.injEq] at hrs
   cases d3 : decide (y.key = x.key) with
   | true =>
     have hR1 : runTo l (j + 1) = runTo l j + 1 := by rw [hrs, if_neg (fun q => q.2 (of_decide_eq_true d3))]
     rw [hR1] at hR
     have c6 : decide (max c.spans 1 < ((runTo l j : Nat) : Int) + 1) = false := decide_eq_false (by omega)
     have c7 : decide ((64 : Int) < ((runTo l j : Nat) : Int) + 1) = false := decide_eq_false (by omega)
     cases hh : x.hot with
     | false =>
       have hh0 : hotN x = 0 := by unfold hotN; rw [hh]; rfl
       simp (maxSteps:=9^7)(disch:=first|assumption|(simp only[dz];first|done|assumption|omega)|omega|apply_rules[Fr.refl,Fr.alloc,Fr.drew]|rfl) only [↓gd,gp,Nat.reduceAdd,Nat.reduceEqDiff, ↓hk6, t1, t2, t5, t6, t8, t9, t10, t11, eS, d1, i0, i1, Int.toNat_natCast, Nat.mul_one, hb1, hr1, g87, g27, z1, z2, z3, z4, wi, hh, c6, c7, d0, q0, z6, i2, i3, i4, d3]
       refine hkk _ _ hil rfl ?_
       rw [hR1, hsh, hh0]
       simp (maxSteps:=9^7)(disch:=first|assumption|(simp only[dz];first|done|assumption|omega)|omega|apply_rules[Fr.refl,Fr.alloc,Fr.drew]|rfl) only [↓gsd,gs,gv,Nat.reduceAdd,Nat.reduceEqDiff, t1, t2, t5, t6, t8, t9, t10, t11, Int.natCast_add, Int.natCast_one, Int.natCast_zero, Int.add_zero]
       exact hf7.trans' fr_
     | true =>
       have hh0 : hotN x = 1 := by unfold hotN; rw [hh]; rfl
       simp (maxSteps:=9^7)(disch:=first|assumption|(simp only[dz];first|done|assumption|omega)|omega|apply_rules[Fr.refl,Fr.alloc,Fr.drew]|rfl) only [↓gd,gp,Nat.reduceAdd,Nat.reduceEqDiff, ↓hk6, t1, t2, t5, t6, t8, t9, t10, t11, eS, d1, i0, i1, Int.toNat_natCast, Nat.mul_one, hb1, hr1, g87, g27, z1, z2, z3, z4, wi, hh, c6, c7, z5, d0, q0, z6, i2, i3, i4, d3]
       refine hkk _ _ hil rfl ?_
       rw [hR1, hsh, hh0]
       simp (maxSteps:=9^7)(disch:=first|assumption|(simp only[dz];first|done|assumption|omega)|omega|apply_rules[Fr.refl,Fr.alloc,Fr.drew]|rfl) only [↓gsd,gs,gv,Nat.reduceAdd,Nat.reduceEqDiff, t1, t2, t5, t6, t8, t9, t10, t11, Int.natCast_add, Int.natCast_one, Int.natCast_zero, Int.add_zero]
       exact hf7.trans' fr_
   | false =>
     have hR1 : runTo l (j + 1) = 1 := by rw [hrs, if_pos ⟨hj0, of_decide_eq_false d3⟩]
     have c6 : decide (max c.spans 1 < 1) = false := decide_eq_false (by omega)
     have c7 : decide ((64 : Int) < 1) = false := rfl
     cases hh : x.hot with
     | false =>
       have hh0 : hotN x = 0 := by unfold hotN; rw [hh]; rfl
       simp (maxSteps:=9^7)(disch:=first|assumption|(simp only[dz];first|done|assumption|omega)|omega|apply_rules[Fr.refl,Fr.alloc,Fr.drew]|rfl) only [↓gd,gp,Nat.reduceAdd,Nat.reduceEqDiff, ↓hk6, t1, t2, t5, t6, t8, t9, t10, t11, eS, d1, i0, i1, Int.toNat_natCast, Nat.mul_one, hb1, hr1, g87, g27, z1, z2, z3, z4, wi, hh, c6, c7, d0, q0, z6, i2, i3, i4, d3]
       refine hkk _ _ hil rfl ?_
       rw [hR1, hsh, hh0]
       simp (maxSteps:=9^7)(disch:=first|assumption|(simp only[dz];first|done|assumption|omega)|omega|apply_rules[Fr.refl,Fr.alloc,Fr.drew]|rfl) only [↓gsd,gs,gv,Nat.reduceAdd,Nat.reduceEqDiff, t1, t2, t5, t6, t8, t9, t10, t11, Int.natCast_add, Int.natCast_one, Int.natCast_zero, Int.add_zero]
       exact hf7.trans' fr_
     | true =>
       have hh0 : hotN x = 1 := by unfold hotN; rw [hh]; rfl
       simp (maxSteps:=9^7)(disch:=first|assumption|(simp only[dz];first|done|assumption|omega)|omega|apply_rules[Fr.refl,Fr.alloc,Fr.drew]|rfl) only [↓gd,gp,Nat.reduceAdd,Nat.reduceEqDiff, ↓hk6, t1, t2, t5, t6, t8, t9, t10, t11, eS, d1, i0, i1, Int.toNat_natCast, Nat.mul_one, hb1, hr1, g87, g27, z1, z2, z3, z4, wi, hh, c6, c7, z5, d0, q0, z6, i2, i3, i4, d3]
       refine hkk _ _ hil rfl ?_
       rw [hR1, hsh, hh0]
       simp (maxSteps:=9^7)(disch:=first|assumption|(simp only[dz];first|done|assumption|omega)|omega|apply_rules[Fr.refl,Fr.alloc,Fr.drew]|rfl) only [↓gsd,gs,gv,Nat.reduceAdd,Nat.reduceEqDiff, t1, t2, t5, t6, t8, t9, t10, t11, Int.natCast_add, Int.natCast_one, Int.natCast_zero, Int.add_zero]
       exact hf7.trans' fr_
  ·have d0 : decide ((0 : Int) < (j : Int)) = false := decide_eq_false (by omega)
   have hR1 : runTo l (j + 1) = runTo l j + 1 := by rw [hrs, if_neg (fun q => hj0 q.1)]
   rw [hR1] at hR
   have c6 : decide (max c.spans 1 < ((runTo l j : Nat) : Int) + 1) = false := decide_eq_false (by omega)
   have c7 : decide ((64 : Int) < ((runTo l j : Nat) : Int) + 1) = false := decide_eq_false (by omega)
   cases hh : x.hot with
   | false =>
     have hh0 : hotN x = 0 := by unfold hotN; rw [hh]; rfl
     simp (maxSteps:=9^7)(disch:=first|assumption|(simp only[dz];first|done|assumption|omega)|omega|apply_rules[Fr.refl,Fr.alloc,Fr.drew]|rfl) only [↓gd,gp,Nat.reduceAdd,Nat.reduceEqDiff, ↓hk6, t1, t2, t5, t6, t8, t9, t10, t11, eS, d1, i0, i1, Int.toNat_natCast, Nat.mul_one, hb1, hr1, g87, g27, z1, z2, z3, z4, wi, hh, c6, c7, d0]
     refine hkk _ _ hil rfl ?_
     rw [hR1, hsh, hh0]
     simp (maxSteps:=9^7)(disch:=first|assumption|(simp only[dz];first|done|assumption|omega)|omega|apply_rules[Fr.refl,Fr.alloc,Fr.drew]|rfl) only [↓gsd,gs,gv,Nat.reduceAdd,Nat.reduceEqDiff, t1, t2, t5, t6, t8, t9, t10, t11, Int.natCast_add, Int.natCast_one, Int.natCast_zero, Int.add_zero]
     exact hf7.trans' fr_
   | true =>
     have hh0 : hotN x = 1 := by unfold hotN; rw [hh]; rfl
     simp (maxSteps:=9^7)(disch:=first|assumption|(simp only[dz];first|done|assumption|omega)|omega|apply_rules[Fr.refl,Fr.alloc,Fr.drew]|rfl) only [↓gd,gp,Nat.reduceAdd,Nat.reduceEqDiff, ↓hk6, t1, t2, t5, t6, t8, t9, t10, t11, eS, d1, i0, i1, Int.toNat_natCast, Nat.mul_one, hb1, hr1, g87, g27, z1, z2, z3, z4, wi, hh, c6, c7, z5, d0]
     refine hkk _ _ hil rfl ?_
     rw [hR1, hsh, hh0]
     simp (maxSteps:=9^7)(disch:=first|assumption|(simp only[dz];first|done|assumption|omega)|omega|apply_rules[Fr.refl,Fr.alloc,Fr.drew]|rfl) only [↓gsd,gs,gv,Nat.reduceAdd,Nat.reduceEqDiff, t1, t2, t5, t6, t8, t9, t10, t11, Int.natCast_add, Int.natCast_one, Int.natCast_zero, Int.add_zero]
     exact hf7.trans' fr_
 ·have d1 : decide ((j : Int) < (l.length : Int)) = false := decide_eq_false (by omega)
  have hjl : j = l.length := by omega
  subst hjl
  rw [List.take_length] at t9 t11
  rw [hve, hvw] at g87
  have c1 : decide (M.T.bytes = ((sumE costN l : Nat) : Int)) = true := decide_eq_true (by omega)
  have c2 : decide (max c.bytes 0 < ((sumE costN l : Nat) : Int)) = false := decide_eq_false (by simp only [Cfg.held, hld] at hle hb1 hb0; omega)
  have c3 : decide ((1048576 : Int) < ((sumE costN l : Nat) : Int)) = false := decide_eq_false (by omega)
  have c4 : decide (max c.gap 0 < (M.g.ws.length : Int)) = false := decide_eq_false (by simp only [Cfg.held, hld] at hmost; omega)
  have c5 : decide (max c.prot 0 < ((sumE hotN l : Nat) : Int)) = false := decide_eq_false (by simp only [Cfg.held, hld] at hB2; omega)
  simp (maxSteps:=9^7)(disch:=first|assumption|(simp only[dz];first|done|assumption|omega)|omega|apply_rules[Fr.refl,Fr.alloc,Fr.drew]|rfl) only [↓gd,gp,Nat.reduceAdd,Nat.reduceEqDiff, ↓hk6, t2, t5, t8, t9, t10, t11, eS, d1, g87, g27, c1, c2, c3, c4, c5]
  exact hK _ _ (hF6.trans' hf7) t1 t2 t5 t6
set_option maxHeartbeats 32000000 in
theorem bounds_spec {w : World} {c : Cfg} {v : Value} {os : List Op12} {K : Value → World → Prop} (hs : OpsAt w v os) (hK : ∀ w', Fr [] w w' → K (.bool true) w') :
  CallsN Tryz.prog 6 [.agg (encCfg c).toArray, v] w K := by
 have cw := cur w
 refine call6 ?_
 unfold encCfg
 simp (maxSteps:=9^7)(disch:=first|assumption|(simp only[dz];first|done|assumption|omega)|omega|apply_rules[Fr.refl,Fr.alloc,Fr.drew]|rfl) only [↓gd,gp,Nat.reduceAdd,Nat.reduceEqDiff, ↓hk6]
 generalize hW : World.alloc w _ = w1
 have hf1 : Fr [] w w1 := by rw [← hW]; exact fr_
 have g2 : w1.heap[w.heap.size]? = some (.cells (encCfg c).toArray 25 (0, 0)) := by rw [← hW]; exact get_alloc_new _ _
 clear hW
 have cw1 := cur w1
 have hs1 := hs.frN hf1
 refine fixed_spec fun w2 hf2 => ?_
 have cw2 := cur w2
 have g22 := hf2.getN g2
 have k2 := lt_of_get _ _ g22
 unfold encCfg at g2 g22
 simp (maxSteps:=9^7)(disch:=first|assumption|(simp only[dz];first|done|assumption|omega)|omega|apply_rules[Fr.refl,Fr.alloc,Fr.drew]|rfl) only [↓gd,gp,Nat.reduceAdd,Nat.reduceEqDiff, ↓hk6, g22]
 refine new_in (c := c) fun a w3 h3 => ?_
 have cw3 := cur w3
 have h3 := h3.base hf2
 have hc := held_ok c
 obtain ⟨va, vc, hv⟩ := hs.sl.form
 simp (maxSteps:=9^7)(disch:=first|assumption|(simp only[dz];first|done|assumption|omega)|omega|apply_rules[Fr.refl,Fr.alloc,Fr.drew]|rfl) only [↓gd,gp,Nat.reduceAdd,Nat.reduceEqDiff, ↓hk6]
 refine for_intro os.length 6 0 (fun i e1 w' => ∃ a' M', e1 1 = v ∧ e1 2 = .pointer (some ⟨w.heap.size, 0, none⟩) ∧ e1 5 = .pointer (some ⟨a.nb, 0, none⟩) ∧ a'.nb = a.nb ∧ NodeIn w1 w' a' c.held 1 M' i ∧ BOK c.held M') ?_ (Nat.zero_le _) ?_ ?_
 ·simp (maxSteps:=9^7)(disch:=first|assumption|(simp only[dz];first|done|assumption|omega)|omega|apply_rules[Fr.refl,Fr.alloc,Fr.drew]|rfl) only [↓gsd,gs,gv,Nat.reduceAdd,Nat.reduceEqDiff, Int.natCast_zero]
 ·refine ⟨a, Mem.zero c.held true 0, ?_⟩
  simp (maxSteps:=9^7)(disch:=first|assumption|(simp only[dz];first|done|assumption|omega)|omega|apply_rules[Fr.refl,Fr.alloc,Fr.drew]|rfl) only [↓gsd,gs,gv,Nat.reduceAdd,Nat.reduceEqDiff, Int.natCast_zero]
  exact ⟨h3, BOK.zero c true 0⟩
 rintro i e2 w4 kk hile eS ⟨a', M4, r1, r2, r5, hnb, h4, hB4⟩ hkk
 have cw4 := cur w4
 have hs4 := hs1.frN h4.fr
 have hll := hs.len
 have g24 := h4.fr.getN g2
 have k4 := lt_of_get _ _ g24
 by_cases hil : i < os.length
 ·have d1 : decide ((i : Int) < (os.length : Int)) = true := decide_eq_true (by omega)
  obtain ⟨o, ho⟩ : ∃ o, os[i]? = some o := ⟨os[i], List.getElem?_eq_getElem hil⟩
  obtain ⟨ks, hok, hkl⟩ := hs4.ok o (List.mem_of_getElem? ho)
  obtain ⟨b1, o1, p1, ob1, hv1, hb1, hbl1, hr1, _⟩ := hs4.sl.read encOp12_len i o ho
  have i0 : (0 : Int) ≤ (i : Int) := by omega
  have i1 : (i : Int) < (os.length : Int) := by omega
  have wi : IntKind.i64.wrap ((i : Int) + 1) = (i : Int) + 1 := wrap64 (by omega) (by omega)
  rw [hv1] at r1
  unfold encOp12 at hr1
  simp (maxSteps:=9^7)(disch:=first|assumption|(simp only[dz];first|done|assumption|omega)|omega|apply_rules[Fr.refl,Fr.alloc,Fr.drew]|rfl) only [↓gd,gp,Nat.reduceAdd,Nat.reduceEqDiff, ↓c6_5_s, ↓c6_11_s, ↓c6_20_s, ↓c6_19_s, ↓c6_18_s, ↓c6_26_s, ↓c6_35_s, ↓c6_34_s, ↓c6_33_s, ↓c6_38_s, ↓c6_37_s, ↓c6_36_s, ↓c6_32_s, ↓c6_41_s, ↓c6_40_s, ↓c6_39_s, ↓c6_31_s, ↓c6_30_s, ↓c6_29_s, ↓c6_28_s, ↓c6_27_s, ↓c6_25_s, ↓c6_43_s, ↓c6_42_s, ↓c6_24_s, ↓c6_23_s, ↓c6_22_s, ↓c6_21_s, ↓c6_17_s, ↓c6_16_s, ↓c6_48_s, ↓c6_51_s, ↓c6_54_s, ↓c6_57_s, ↓c6_56_s, ↓c6_55_s, ↓c6_53_s, ↓c6_52_s, ↓c6_50_s, ↓c6_49_s, ↓c6_47_s, ↓c6_46_s, ↓c6_45_s, ↓c6_44_s, ↓c6_14_s, ↓c6_13_s, ↓c6_12_s, ↓c6_10_s, ↓c6_59_s, ↓c6_58_s, ↓c6_9_s, ↓c6_8_s, ↓c6_7_s, ↓c6_6_s, ↓c6_4_s, ↓c6_62_s, ↓c6_61_s, ↓c6_60_s, ↓c6_3_s, ↓c6_2_s, ↓c6_65_s, ↓c6_64_s, ↓c6_63_s, ↓c6_1_s, ↓c6_s, ↓w3t_6, r1, r2, r5, eS, d1, i0, i1, Int.toNat_natCast, Nat.mul_one, hb1, hr1, run_rem]
  generalize hW : World.alloc w4 _ = w5
  have hf5 : Fr [] w4 w5 := by rw [← hW]; exact fr_
  clear hW
  have cw5 := cur w5
  have h5 := h4.frN hf5
  have fin : ∀ (e' : Env) (w' : World) (a2 : Lay) (M2 : Mem), a2.nb = a.nb → NodeIn w1 w' a2 c.held 1 M2 ((i : Int) + 1) → BOK c.held M2 → e' 1 = v → e' 2 = .pointer (some ⟨w.heap.size, 0, none⟩) → e' 5 = .pointer (some ⟨a.nb, 0, none⟩) → e' 6 = .int .i64 i →
    W3 Tryz.prog 155 V6 c6_15 (blockQ 1 (seqQ (W3 Tryz.prog 155 V6 c6_11 (seqQ kk (blockQ 0 (seqQ (W3 Tryz.prog 155 V6 c6_5 (retQ Tryz.prog [.tmp 4] K)) (retQ Tryz.prog [.tmp 4] K))))) (seqQ kk (blockQ 0 (seqQ (W3 Tryz.prog 155 V6 c6_5 (retQ Tryz.prog [.tmp 4] K)) (retQ Tryz.prog [.tmp 4] K)))))) e' w' := by
   intro e' w' a2 M2 q1 q2 q3 q4 q5 q6 q7
   refine bounds_round q2 q3 (q2.fr.getN g2) q5 (by rw [q1]; exact q6) fun e3 w3 hf x1 x2 x5 x6 => ?_
   have cw3 := cur w3
   rw [q7] at x6
   simp (maxSteps:=9^7)(disch:=first|assumption|(simp only[dz];first|done|assumption|omega)|omega|apply_rules[Fr.refl,Fr.alloc,Fr.drew]|rfl) only [↓gd,gp,Nat.reduceAdd,Nat.reduceEqDiff, ↓hk6, x6, wi]
   refine hkk _ _ hil rfl ⟨a2, M2, ?_⟩
   simp (maxSteps:=9^7)(disch:=first|assumption|(simp only[dz];first|done|assumption|omega)|omega|apply_rules[Fr.refl,Fr.alloc,Fr.drew]|rfl) only [↓gsd,gs,gv,Nat.reduceAdd,Nat.reduceEqDiff, x1, x2, x5, q4, q5, q6, q1]
   exact ⟨q2.frN hf, q3⟩
  rw [← hnb] at r5
  cases p0 : decide (o.k.tmod 4 = 0) with
  | true =>
    simp (maxSteps:=9^7)(disch:=first|assumption|(simp only[dz];first|done|assumption|omega)|omega|apply_rules[Fr.refl,Fr.alloc,Fr.drew]|rfl) only [↓gd,gp,Nat.reduceAdd,Nat.reduceEqDiff, ↓c6_5_s, ↓c6_11_s, ↓c6_20_s, ↓c6_19_s, ↓c6_18_s, ↓c6_26_s, ↓c6_35_s, ↓c6_34_s, ↓c6_33_s, ↓c6_38_s, ↓c6_37_s, ↓c6_36_s, ↓c6_32_s, ↓c6_41_s, ↓c6_40_s, ↓c6_39_s, ↓c6_31_s, ↓c6_30_s, ↓c6_29_s, ↓c6_28_s, ↓c6_27_s, ↓c6_25_s, ↓c6_43_s, ↓c6_42_s, ↓c6_24_s, ↓c6_23_s, ↓c6_22_s, ↓c6_21_s, ↓c6_17_s, ↓c6_16_s, ↓c6_48_s, ↓c6_51_s, ↓c6_54_s, ↓c6_57_s, ↓c6_56_s, ↓c6_55_s, ↓c6_53_s, ↓c6_52_s, ↓c6_50_s, ↓c6_49_s, ↓c6_47_s, ↓c6_46_s, ↓c6_45_s, ↓c6_44_s, ↓c6_14_s, ↓c6_13_s, ↓c6_12_s, ↓c6_10_s, ↓c6_59_s, ↓c6_58_s, ↓c6_9_s, ↓c6_8_s, ↓c6_7_s, ↓c6_6_s, ↓c6_4_s, ↓c6_62_s, ↓c6_61_s, ↓c6_60_s, ↓c6_3_s, ↓c6_2_s, ↓c6_65_s, ↓c6_64_s, ↓c6_63_s, ↓c6_1_s, ↓c6_s, ↓w3t_6]
    rw [← hnb]
    refine look_in h5 hc fun w6 S6 h6 => ?_
    exact fin _ _ { a' with S := S6 } _ hnb ⟨h6.at_, h6.ok.mono (by omega), h6.ge, h6.fr⟩ (hB4.look hc h4.ok _ _ _) (by simp (maxSteps:=9^7)(disch:=first|assumption|(simp only[dz];first|done|assumption|omega)|omega|apply_rules[Fr.refl,Fr.alloc,Fr.drew]|rfl) only [↓gsd,gs,gv,Nat.reduceAdd,Nat.reduceEqDiff, r1, hv1]) r2 (by rw [← hnb]; simp (maxSteps:=9^7)(disch:=first|assumption|(simp only[dz];first|done|assumption|omega)|omega|apply_rules[Fr.refl,Fr.alloc,Fr.drew]|rfl) only [↓gsd,gs,gv,Nat.reduceAdd,Nat.reduceEqDiff, r5]) eS
  | false =>
    simp (maxSteps:=9^7)(disch:=first|assumption|(simp only[dz];first|done|assumption|omega)|omega|apply_rules[Fr.refl,Fr.alloc,Fr.drew]|rfl) only [↓gd,gp,Nat.reduceAdd,Nat.reduceEqDiff, ↓c6_5_s, ↓c6_11_s, ↓c6_20_s, ↓c6_19_s, ↓c6_18_s, ↓c6_26_s, ↓c6_35_s, ↓c6_34_s, ↓c6_33_s, ↓c6_38_s, ↓c6_37_s, ↓c6_36_s, ↓c6_32_s, ↓c6_41_s, ↓c6_40_s, ↓c6_39_s, ↓c6_31_s, ↓c6_30_s, ↓c6_29_s, ↓c6_28_s, ↓c6_27_s, ↓c6_25_s, ↓c6_43_s, ↓c6_42_s, ↓c6_24_s, ↓c6_23_s, ↓c6_22_s, ↓c6_21_s, ↓c6_17_s, ↓c6_16_s, ↓c6_48_s, ↓c6_51_s, ↓c6_54_s, ↓c6_57_s, ↓c6_56_s, ↓c6_55_s, ↓c6_53_s, ↓c6_52_s, ↓c6_50_s, ↓c6_49_s, ↓c6_47_s, ↓c6_46_s, ↓c6_45_s, ↓c6_44_s, ↓c6_14_s, ↓c6_13_s, ↓c6_12_s, ↓c6_10_s, ↓c6_59_s, ↓c6_58_s, ↓c6_9_s, ↓c6_8_s, ↓c6_7_s, ↓c6_6_s, ↓c6_4_s, ↓c6_62_s, ↓c6_61_s, ↓c6_60_s, ↓c6_3_s, ↓c6_2_s, ↓c6_65_s, ↓c6_64_s, ↓c6_63_s, ↓c6_1_s, ↓c6_s, ↓w3t_6]
    cases p1 : decide (o.k.tmod 4 = 1) with
    | true =>
      simp (maxSteps:=9^7)(disch:=first|assumption|(simp only[dz];first|done|assumption|omega)|omega|apply_rules[Fr.refl,Fr.alloc,Fr.drew]|rfl) only [↓gd,gp,Nat.reduceAdd,Nat.reduceEqDiff, ↓c6_5_s, ↓c6_11_s, ↓c6_20_s, ↓c6_19_s, ↓c6_18_s, ↓c6_26_s, ↓c6_35_s, ↓c6_34_s, ↓c6_33_s, ↓c6_38_s, ↓c6_37_s, ↓c6_36_s, ↓c6_32_s, ↓c6_41_s, ↓c6_40_s, ↓c6_39_s, ↓c6_31_s, ↓c6_30_s, ↓c6_29_s, ↓c6_28_s, ↓c6_27_s, ↓c6_25_s, ↓c6_43_s, ↓c6_42_s, ↓c6_24_s, ↓c6_23_s, ↓c6_22_s, ↓c6_21_s, ↓c6_17_s, ↓c6_16_s, ↓c6_48_s, ↓c6_51_s, ↓c6_54_s, ↓c6_57_s, ↓c6_56_s, ↓c6_55_s, ↓c6_53_s, ↓c6_52_s, ↓c6_50_s, ↓c6_49_s, ↓c6_47_s, ↓c6_46_s, ↓c6_45_s, ↓c6_44_s, ↓c6_14_s, ↓c6_13_s, ↓c6_12_s, ↓c6_10_s, ↓c6_59_s, ↓c6_58_s, ↓c6_9_s, ↓c6_8_s, ↓c6_7_s, ↓c6_6_s, ↓c6_4_s, ↓c6_62_s, ↓c6_61_s, ↓c6_60_s, ↓c6_3_s, ↓c6_2_s, ↓c6_65_s, ↓c6_64_s, ↓c6_63_s, ↓c6_1_s, ↓c6_s, ↓w3t_6]
      rw [← hnb]
      refine fill_in (f := o.f) h5 hc (by omega) fun w6 S6 h6 => ?_
      exact fin _ _ { a' with S := S6 } _ hnb h6 (hB4.fill hc h4.ok (by omega) _ _) (by simp (maxSteps:=9^7)(disch:=first|assumption|(simp only[dz];first|done|assumption|omega)|omega|apply_rules[Fr.refl,Fr.alloc,Fr.drew]|rfl) only [↓gsd,gs,gv,Nat.reduceAdd,Nat.reduceEqDiff, r1, hv1]) r2 (by rw [← hnb]; simp (maxSteps:=9^7)(disch:=first|assumption|(simp only[dz];first|done|assumption|omega)|omega|apply_rules[Fr.refl,Fr.alloc,Fr.drew]|rfl) only [↓gsd,gs,gv,Nat.reduceAdd,Nat.reduceEqDiff, r5]) eS
    | false =>
      simp (maxSteps:=9^7)(disch:=first|assumption|(simp only[dz];first|done|assumption|omega)|omega|apply_rules[Fr.refl,Fr.alloc,Fr.drew]|rfl) only [↓gd,gp,Nat.reduceAdd,Nat.reduceEqDiff, ↓c6_5_s, ↓c6_11_s, ↓c6_20_s, ↓c6_19_s, ↓c6_18_s, ↓c6_26_s, ↓c6_35_s, ↓c6_34_s, ↓c6_33_s, ↓c6_38_s, ↓c6_37_s, ↓c6_36_s, ↓c6_32_s, ↓c6_41_s, ↓c6_40_s, ↓c6_39_s, ↓c6_31_s, ↓c6_30_s, ↓c6_29_s, ↓c6_28_s, ↓c6_27_s, ↓c6_25_s, ↓c6_43_s, ↓c6_42_s, ↓c6_24_s, ↓c6_23_s, ↓c6_22_s, ↓c6_21_s, ↓c6_17_s, ↓c6_16_s, ↓c6_48_s, ↓c6_51_s, ↓c6_54_s, ↓c6_57_s, ↓c6_56_s, ↓c6_55_s, ↓c6_53_s, ↓c6_52_s, ↓c6_50_s, ↓c6_49_s, ↓c6_47_s, ↓c6_46_s, ↓c6_45_s, ↓c6_44_s, ↓c6_14_s, ↓c6_13_s, ↓c6_12_s, ↓c6_10_s, ↓c6_59_s, ↓c6_58_s, ↓c6_9_s, ↓c6_8_s, ↓c6_7_s, ↓c6_6_s, ↓c6_4_s, ↓c6_62_s, ↓c6_61_s, ↓c6_60_s, ↓c6_3_s, ↓c6_2_s, ↓c6_65_s, ↓c6_64_s, ↓c6_63_s, ↓c6_1_s, ↓c6_s, ↓w3t_6]
      cases p2 : decide (o.k.tmod 4 = 2) with
      | true =>
        simp (maxSteps:=9^7)(disch:=first|assumption|(simp only[dz];first|done|assumption|omega)|omega|apply_rules[Fr.refl,Fr.alloc,Fr.drew]|rfl) only [↓gd,gp,Nat.reduceAdd,Nat.reduceEqDiff, ↓c6_5_s, ↓c6_11_s, ↓c6_20_s, ↓c6_19_s, ↓c6_18_s, ↓c6_26_s, ↓c6_35_s, ↓c6_34_s, ↓c6_33_s, ↓c6_38_s, ↓c6_37_s, ↓c6_36_s, ↓c6_32_s, ↓c6_41_s, ↓c6_40_s, ↓c6_39_s, ↓c6_31_s, ↓c6_30_s, ↓c6_29_s, ↓c6_28_s, ↓c6_27_s, ↓c6_25_s, ↓c6_43_s, ↓c6_42_s, ↓c6_24_s, ↓c6_23_s, ↓c6_22_s, ↓c6_21_s, ↓c6_17_s, ↓c6_16_s, ↓c6_48_s, ↓c6_51_s, ↓c6_54_s, ↓c6_57_s, ↓c6_56_s, ↓c6_55_s, ↓c6_53_s, ↓c6_52_s, ↓c6_50_s, ↓c6_49_s, ↓c6_47_s, ↓c6_46_s, ↓c6_45_s, ↓c6_44_s, ↓c6_14_s, ↓c6_13_s, ↓c6_12_s, ↓c6_10_s, ↓c6_59_s, ↓c6_58_s, ↓c6_9_s, ↓c6_8_s, ↓c6_7_s, ↓c6_6_s, ↓c6_4_s, ↓c6_62_s, ↓c6_61_s, ↓c6_60_s, ↓c6_3_s, ↓c6_2_s, ↓c6_65_s, ↓c6_64_s, ↓c6_63_s, ↓c6_1_s, ↓c6_s, ↓w3t_6]
        rw [← hnb]
        refine apply_in (x := ⟨⟨o.n, o.ka, o.kl, o.kc⟩, ks⟩) h5 hc (hok.sl.frN hf5) (by show ks.length ≤ _; omega) fun w6 S6 x' _ _ h6 => ?_
        exact fin _ _ { a' with S := S6 } _ hnb ⟨h6.at_, h6.ok.mono (by omega), h6.ge, h6.fr⟩ (hB4.apply hc h4.ok _ _) (by simp (maxSteps:=9^7)(disch:=first|assumption|(simp only[dz];first|done|assumption|omega)|omega|apply_rules[Fr.refl,Fr.alloc,Fr.drew]|rfl) only [↓gsd,gs,gv,Nat.reduceAdd,Nat.reduceEqDiff, r1, hv1]) r2 (by rw [← hnb]; simp (maxSteps:=9^7)(disch:=first|assumption|(simp only[dz];first|done|assumption|omega)|omega|apply_rules[Fr.refl,Fr.alloc,Fr.drew]|rfl) only [↓gsd,gs,gv,Nat.reduceAdd,Nat.reduceEqDiff, r5]) eS
      | false =>
        simp (maxSteps:=9^7)(disch:=first|assumption|(simp only[dz];first|done|assumption|omega)|omega|apply_rules[Fr.refl,Fr.alloc,Fr.drew]|rfl) only [↓gd,gp,Nat.reduceAdd,Nat.reduceEqDiff, ↓c6_5_s, ↓c6_11_s, ↓c6_20_s, ↓c6_19_s, ↓c6_18_s, ↓c6_26_s, ↓c6_35_s, ↓c6_34_s, ↓c6_33_s, ↓c6_38_s, ↓c6_37_s, ↓c6_36_s, ↓c6_32_s, ↓c6_41_s, ↓c6_40_s, ↓c6_39_s, ↓c6_31_s, ↓c6_30_s, ↓c6_29_s, ↓c6_28_s, ↓c6_27_s, ↓c6_25_s, ↓c6_43_s, ↓c6_42_s, ↓c6_24_s, ↓c6_23_s, ↓c6_22_s, ↓c6_21_s, ↓c6_17_s, ↓c6_16_s, ↓c6_48_s, ↓c6_51_s, ↓c6_54_s, ↓c6_57_s, ↓c6_56_s, ↓c6_55_s, ↓c6_53_s, ↓c6_52_s, ↓c6_50_s, ↓c6_49_s, ↓c6_47_s, ↓c6_46_s, ↓c6_45_s, ↓c6_44_s, ↓c6_14_s, ↓c6_13_s, ↓c6_12_s, ↓c6_10_s, ↓c6_59_s, ↓c6_58_s, ↓c6_9_s, ↓c6_8_s, ↓c6_7_s, ↓c6_6_s, ↓c6_4_s, ↓c6_62_s, ↓c6_61_s, ↓c6_60_s, ↓c6_3_s, ↓c6_2_s, ↓c6_65_s, ↓c6_64_s, ↓c6_63_s, ↓c6_1_s, ↓c6_s, ↓w3t_6]
        cases p3 : decide (o.k.tmod 4 = 3) with
        | true =>
          simp (maxSteps:=9^7)(disch:=first|assumption|(simp only[dz];first|done|assumption|omega)|omega|apply_rules[Fr.refl,Fr.alloc,Fr.drew]|rfl) only [↓gd,gp,Nat.reduceAdd,Nat.reduceEqDiff, ↓c6_5_s, ↓c6_11_s, ↓c6_20_s, ↓c6_19_s, ↓c6_18_s, ↓c6_26_s, ↓c6_35_s, ↓c6_34_s, ↓c6_33_s, ↓c6_38_s, ↓c6_37_s, ↓c6_36_s, ↓c6_32_s, ↓c6_41_s, ↓c6_40_s, ↓c6_39_s, ↓c6_31_s, ↓c6_30_s, ↓c6_29_s, ↓c6_28_s, ↓c6_27_s, ↓c6_25_s, ↓c6_43_s, ↓c6_42_s, ↓c6_24_s, ↓c6_23_s, ↓c6_22_s, ↓c6_21_s, ↓c6_17_s, ↓c6_16_s, ↓c6_48_s, ↓c6_51_s, ↓c6_54_s, ↓c6_57_s, ↓c6_56_s, ↓c6_55_s, ↓c6_53_s, ↓c6_52_s, ↓c6_50_s, ↓c6_49_s, ↓c6_47_s, ↓c6_46_s, ↓c6_45_s, ↓c6_44_s, ↓c6_14_s, ↓c6_13_s, ↓c6_12_s, ↓c6_10_s, ↓c6_59_s, ↓c6_58_s, ↓c6_9_s, ↓c6_8_s, ↓c6_7_s, ↓c6_6_s, ↓c6_4_s, ↓c6_62_s, ↓c6_61_s, ↓c6_60_s, ↓c6_3_s, ↓c6_2_s, ↓c6_65_s, ↓c6_64_s, ↓c6_63_s, ↓c6_1_s, ↓c6_s, ↓w3t_6]
          rw [← hnb]
          refine start_in h5 fun w6 a6 q6 h6 => ?_
          exact fin _ _ _ _ (q6.trans hnb) ⟨h6.at_, h6.ok.mono (by omega), h6.ge, h6.fr⟩ (hB4.start _ _) (by simp (maxSteps:=9^7)(disch:=first|assumption|(simp only[dz];first|done|assumption|omega)|omega|apply_rules[Fr.refl,Fr.alloc,Fr.drew]|rfl) only [↓gsd,gs,gv,Nat.reduceAdd,Nat.reduceEqDiff, r1, hv1]) r2 (by rw [← hnb]; simp (maxSteps:=9^7)(disch:=first|assumption|(simp only[dz];first|done|assumption|omega)|omega|apply_rules[Fr.refl,Fr.alloc,Fr.drew]|rfl) only [↓gsd,gs,gv,Nat.reduceAdd,Nat.reduceEqDiff, r5]) eS
        | false =>
          simp (maxSteps:=9^7)(disch:=first|assumption|(simp only[dz];first|done|assumption|omega)|omega|apply_rules[Fr.refl,Fr.alloc,Fr.drew]|rfl) only [↓gd,gp,Nat.reduceAdd,Nat.reduceEqDiff, ↓c6_5_s, ↓c6_11_s, ↓c6_20_s, ↓c6_19_s, ↓c6_18_s, ↓c6_26_s, ↓c6_35_s, ↓c6_34_s, ↓c6_33_s, ↓c6_38_s, ↓c6_37_s, ↓c6_36_s, ↓c6_32_s, ↓c6_41_s, ↓c6_40_s, ↓c6_39_s, ↓c6_31_s, ↓c6_30_s, ↓c6_29_s, ↓c6_28_s, ↓c6_27_s, ↓c6_25_s, ↓c6_43_s, ↓c6_42_s, ↓c6_24_s, ↓c6_23_s, ↓c6_22_s, ↓c6_21_s, ↓c6_17_s, ↓c6_16_s, ↓c6_48_s, ↓c6_51_s, ↓c6_54_s, ↓c6_57_s, ↓c6_56_s, ↓c6_55_s, ↓c6_53_s, ↓c6_52_s, ↓c6_50_s, ↓c6_49_s, ↓c6_47_s, ↓c6_46_s, ↓c6_45_s, ↓c6_44_s, ↓c6_14_s, ↓c6_13_s, ↓c6_12_s, ↓c6_10_s, ↓c6_59_s, ↓c6_58_s, ↓c6_9_s, ↓c6_8_s, ↓c6_7_s, ↓c6_6_s, ↓c6_4_s, ↓c6_62_s, ↓c6_61_s, ↓c6_60_s, ↓c6_3_s, ↓c6_2_s, ↓c6_65_s, ↓c6_64_s, ↓c6_63_s, ↓c6_1_s, ↓c6_s, ↓w3t_6]
          exact fin _ _ _ _ hnb ⟨h5.at_, h5.ok.mono (by omega), h5.ge, h5.fr⟩ hB4 (by simp (maxSteps:=9^7)(disch:=first|assumption|(simp only[dz];first|done|assumption|omega)|omega|apply_rules[Fr.refl,Fr.alloc,Fr.drew]|rfl) only [↓gsd,gs,gv,Nat.reduceAdd,Nat.reduceEqDiff, r1, hv1]) r2 (by rw [← hnb]; simp (maxSteps:=9^7)(disch:=first|assumption|(simp only[dz];first|done|assumption|omega)|omega|apply_rules[Fr.refl,Fr.alloc,Fr.drew]|rfl) only [↓gsd,gs,gv,Nat.reduceAdd,Nat.reduceEqDiff, r5]) eS
 ·have d1 : decide ((i : Int) < (os.length : Int)) = false := decide_eq_false (by omega)
  rw [hv] at r1
  simp (maxSteps:=9^7)(disch:=first|assumption|(simp only[dz];first|done|assumption|omega)|omega|apply_rules[Fr.refl,Fr.alloc,Fr.drew]|rfl) only [↓gd,gp,Nat.reduceAdd,Nat.reduceEqDiff, ↓hk6, r1, r2, r5, eS, d1]
  exact hK _ (hf1.trans' h4.fr)
end Go.Proofs.YtomlgkecckffeaaGreat
