/- A history's truth, walked. A history among the arguments, opened. What the rows share: arguments that are only read. NodeStays: the marks, the truth, the one entry. -/
import Derived.Test.YtomlgkecckffeaaGreatYD
import Derived.Test.YtomlgkecckffeaaGreatVK
import Derived.Test.YtomlgkecckffeaaGreatCI
import Derived.Test.YtomlgkecckffeaaGreatRows
import Derived.WalkKit
import Derived.ProofKit
import Derived.OpenShut
import Derived.ChangeMaps5
import Derived.ReadAgain
set_option linter.unusedVariables false
set_option linter.unusedSimpArgs false
set_option maxRecDepth 10000
namespace Go.Proofs.YtomlgkecckffeaaGreat
open Go.VW
structure PastAt (w : World) (v : Value) (vs : List Value) (past : List (List ByteArray)) : Prop where
 sl : SlOf 1 (fun v : Value => [v]) w v vs
 len : past.length = vs.length
 row : ∀ (i : Nat) v ks, vs[i]? = some v → past[i]? = some ks → SlOf 1 encS w v ks
 bound : ∀ ks ∈ past, ks.length ≤ 2000000
 le : past.length ≤ 2000000
theorem PastAt.frN {w w' : World} {v : Value} {vs : List Value} {past : List (List ByteArray)} (h : PastAt w v vs past) (hf : Fr [] w w') : PastAt w' v vs past := ⟨h.sl.frN hf, h.len, fun i v ks h1 h2 => (h.row i v ks h1 h2).frN hf, h.bound, h.le⟩
def nameB (n : Int) : ByteArray := ⟨#[UInt8.ofNat (IntKind.u8.wrap n).toNat]⟩
def truthK (key : ByteArray) (c : Int) (i : Nat) (f : Ent) (k : ByteArray) : Ent :=
 if k ≠ key then f else if (i : Int) < c then { f with lo := (i : Int) + 1, has := true, data := nameB ((i : Int) + 1) } else if f.hi = openI then { f with hi := (i : Int) + 1 } else f
def truthTo (past : List (List ByteArray)) (key : ByteArray) (c : Int) : Nat → Ent
 | 0 => ⟨key, false, ⟨#[]⟩, 0, openI, false, 0, 0⟩
 | i + 1 => ((past[i]?).getD []).foldl (truthK key c i) (truthTo past key c i)
theorem u8_wrap (n : Int) : 0 ≤ IntKind.u8.wrap n ∧ IntKind.u8.wrap n ≤ 255 := by
 have e1 : (2 : Int) ^ IntKind.u8.bits = 256 := by decide
 simp only [IntKind.wrap, e1, IntKind.signed, Bool.false_and, Bool.false_eq_true, if_false]
 omega
theorem u8_back (n : Int) : (((UInt8.ofNat (IntKind.u8.wrap n).toNat).toNat : Nat) : Int) = IntKind.u8.wrap n := by
 have h := u8_wrap n
 have e : (UInt8.ofNat (IntKind.u8.wrap n).toNat).toNat = (IntKind.u8.wrap n).toNat := by
  show (IntKind.u8.wrap n).toNat % 256 = _
  omega
 rw [e]; omega
theorem cvOne (b : UInt8) (w : World) : (convert 199 9 (.slice (some ⟨w.heap.size, 0, none⟩) 1 1)).run Tryz.prog (w.alloc (.cells ([.int .u8 b.toNat] : List Value).toArray 5)) = .ok (.string ⟨#[b]⟩) (w.alloc (.cells ([.int .u8 b.toNat] : List Value).toArray 5)) := by
 refine run_convert_bytes_back _ 199 9 5 ⟨w.heap.size, 0, none⟩ 1 [b] Tryz.underlying199 Tryz.underlying5 Tryz.underlying9 fun j hj => ?_
 have hj0 : j = 0 := by simpa using hj
 subst hj0
 have hg := get_alloc_new w (.cells ([.int .u8 b.toNat] : List Value).toArray 5)
 simp only [add_at, World.cell?, hg]
 rfl
theorem name_spec {n : Int} {w : World} {K : Value → World → Prop} (hK : ∀ w', Fr [] w w' → K (.string (nameB n)) w') : CallsN Tryz.prog 83 [.int .i64 n] w K := by
 have cw := cur w
 have hc := cvOne (UInt8.ofNat (IntKind.u8.wrap n).toNat) w
 rw [u8_back] at hc
 refine call83 ?_
 simp (disch:=first|assumption|(simp only[dz];first|done|assumption|omega)|omega) only [↓gd,gp,Nat.reduceAdd,Nat.reduceEqDiff, ↓hk83, hc]
 exact hK _ fr_
set_option maxHeartbeats 16000000 in
theorem truth_spec {w : World} {v : Value} {vs : List Value} {past : List (List ByteArray)} {key : ByteArray} {c : Int} {read : Nat} {K : Value → World → Prop} (h : PastAt w v vs past) (hr : read ≤ past.length) (hK : ∀ w', Fr [] w w' → K (.agg (encFct (truthTo past key c read)).toArray) w') :
  CallsN Tryz.prog 26 [v, .string key, .int .i64 c, .int .i64 read] w K := by
 have cw := cur w
 obtain ⟨va, vc, hv⟩ := h.sl.form
 have hle := h.le
 refine call26 ?_
 simp (disch:=first|assumption|(simp only[dz];first|done|assumption|omega)|omega) only [↓gd,gp,Nat.reduceAdd,Nat.reduceEqDiff, ↓c26_3_s, ↓c26_9_s, ↓c26_16_s, ↓c26_22_s, ↓c26_21_s, ↓c26_25_s, ↓c26_24_s, ↓c26_23_s, ↓c26_20_s, ↓c26_19_s, ↓c26_27_s, ↓c26_26_s, ↓c26_18_s, ↓c26_17_s, ↓c26_15_s, ↓c26_29_s, ↓c26_28_s, ↓c26_14_s, ↓c26_13_s, ↓c26_12_s, ↓c26_11_s, ↓c26_10_s, ↓c26_8_s, ↓c26_31_s, ↓c26_30_s, ↓c26_7_s, ↓c26_6_s, ↓c26_5_s, ↓c26_4_s, ↓c26_1_s, ↓c26_s, ↓w3t_26]
 generalize hW : World.alloc (World.alloc w _) _ = w1
 have hf1 : Fr [] w w1 := by rw [← hW]; exact fr_
 have g8 : w1.heap[w.heap.size]? = some (.cells (encFct entZ).toArray 34 (0, 0)) := by rw [← hW]; simp (disch:=first|assumption|(simp only[dz];first|done|assumption|omega)|omega) only [↓gsd,gs,gv,Nat.reduceAdd,Nat.reduceEqDiff] <;> rfl
 have g9 : w1.heap[w.heap.size + 1]? = some (.cells (encFct (truthTo past key c 0)).toArray 34 (0, 0)) := by rw [← hW]; simp (disch:=first|assumption|(simp only[dz];first|done|assumption|omega)|omega) only [↓gsd,gs,gv,Nat.reduceAdd,Nat.reduceEqDiff] <;> rfl
 have hz1 : w1.heap.size = w.heap.size + 1 + 1 := by rw [← hW]; simp only [gz]
 clear hW
 have cw1 := cur w1
 have h1 := h.frN hf1
 simp (disch:=first|assumption|(simp only[dz];first|done|assumption|omega)|omega) only [↓gd,gp,Nat.reduceAdd,Nat.reduceEqDiff, ↓hk26]
 refine for_intro read 10 0 (fun i e w' => e 0 = v ∧ e 1 = .string key ∧ e 2 = .int .i64 c ∧ e 3 = .int .i64 read ∧ e 8 = .pointer (some ⟨w.heap.size, 0, none⟩) ∧ e 9 = .pointer (some ⟨w.heap.size + 1, 0, none⟩) ∧ w'.heap[w.heap.size + 1]? = some (.cells (encFct (truthTo past key c i)).toArray 34 (0, 0)) ∧ Fr [w.heap.size + 1] w1 w') ?_ (Nat.zero_le _) ?_ ?_
 ·simp (disch:=first|assumption|(simp only[dz];first|done|assumption|omega)|omega) only [↓gsd,gs,gv,Nat.reduceAdd,Nat.reduceEqDiff, Int.natCast_zero]
 ·simp (disch:=first|assumption|(simp only[dz];first|done|assumption|omega)|omega) only [↓gsd,gs,gv,Nat.reduceAdd,Nat.reduceEqDiff]
  exact ⟨g9, Fr.refl _ _⟩
 rintro i e w2 kk hi eS ⟨e0, e1, e2, e3, e8, e9, g92, hf2⟩ hkk
 have cw2 := cur w2
 have hz2 := hf2.size
 have g82 := hf2.get g8 (by simp)
 have l8 := lt_of_get _ _ g82
 have l9 := lt_of_get _ _ g92
 have hF2 : Fr [] w w2 := hf1.trans hf2 fun y hy => by simp at hy; omega
 have h2 := h.frN hF2
 by_cases hil : i < read
 ·have d1 : decide ((i : Int) < (read : Int)) = true := decide_eq_true (by omega)
  obtain ⟨ks, hks⟩ : ∃ ks, past[i]? = some ks := ⟨past[i]'(by omega), List.getElem?_eq_getElem _⟩
  obtain ⟨vk, hvk⟩ : ∃ vk, vs[i]? = some vk := ⟨vs[i]'(by have := h.len; omega), List.getElem?_eq_getElem _⟩
  have hsk := h2.row i vk ks hvk hks
  have hkb := h.bound ks (List.mem_of_getElem? hks)
  obtain ⟨ka, kc, hkf⟩ := hsk.form
  obtain ⟨b1, o1, p1, ob1, hv1, hb1, hbl1, _, hc1⟩ := h2.sl.read (fun _ => rfl) i vk hvk
  have q0 := fun orig K => hc1 0 vk orig K rfl
  simp only [Nat.add_zero, Nat.mul_one] at q0
  have hil2 : i < vs.length := by have := h.len; omega
  have i0 : (0 : Int) ≤ (i : Int) := by omega
  have i1 : (i : Int) < (vs.length : Int) := by omega
  have wi : IntKind.i64.wrap ((i : Int) + 1) = (i : Int) + 1 := wrap64 (by omega) (by omega)
  have hst : truthTo past key c (i + 1) = ks.foldl (truthK key c i) (truthTo past key c i) := by show ((past[i]?).getD []).foldl _ _ = _; rw [hks]; rfl
  simp (disch:=first|assumption|(simp only[dz];first|done|assumption|omega)|omega) only [↓gd,gp,Nat.reduceAdd,Nat.reduceEqDiff, ↓hk26, e0, e1, e2, e3, e8, e9, eS, d1]
  refine for_intro ks.length 11 0 (fun j e4 w' => e4 0 = v ∧ e4 1 = .string key ∧ e4 2 = .int .i64 c ∧ e4 3 = .int .i64 read ∧ e4 8 = .pointer (some ⟨w.heap.size, 0, none⟩) ∧ e4 9 = .pointer (some ⟨w.heap.size + 1, 0, none⟩) ∧ e4 10 = .int .i64 i ∧ w'.heap[w.heap.size + 1]? = some (.cells (encFct ((ks.take j).foldl (truthK key c i) (truthTo past key c i))).toArray 34 (0, 0)) ∧ Fr [w.heap.size + 1] w2 w') ?_ (Nat.zero_le _) ?_ ?_
  ·simp (disch:=first|assumption|(simp only[dz];first|done|assumption|omega)|omega) only [↓gsd,gs,gv,Nat.reduceAdd,Nat.reduceEqDiff, Int.natCast_zero]
  ·simp (disch:=first|assumption|(simp only[dz];first|done|assumption|omega)|omega) only [↓gsd,gs,gv,Nat.reduceAdd,Nat.reduceEqDiff, e0, e1, e2, e3, e8, e9, eS]
   exact ⟨g92, Fr.refl _ _⟩
  rintro j e4 w3 kk3 hj eJ ⟨t0, t1, t2, t3, t8, t9, t10, g93, hf3⟩ hkk3
  have cw3 := cur w3
  have hz3 := hf3.size
  have l93 := lt_of_get _ _ g93
  have F3 : Fr [] w w3 := hF2.trans hf3 fun y hy => by simp at hy; omega
  have h3 := h.frN F3
  have g83 := hf3.get g82 (by simp)
  have l83 := lt_of_get _ _ g83
  have hsk3 := h3.row i vk ks hvk hks
  obtain ⟨b2, o2, p2, ob2, hv2, hb2, hbl2, _, hc2⟩ := h3.sl.read (fun _ => rfl) i vk hvk
  have q2 := fun orig K => hc2 0 vk orig K rfl
  simp only [Nat.add_zero, Nat.mul_one] at q2
  rw [hv2] at t0
  rw [hkf] at q2
  by_cases hjl : j < ks.length
  ·have d2 : decide ((j : Int) < (ks.length : Int)) = true := decide_eq_true (by omega)
   obtain ⟨k, hk⟩ : ∃ k, ks[j]? = some k := ⟨ks[j], List.getElem?_eq_getElem hjl⟩
   obtain ⟨b3, o3, p3, ob3, hv3, hb3, hbl3, _, hc3⟩ := hsk3.read (fun _ => rfl) j k hk
   have q3 := fun orig K => hc3 0 (.string k) orig K rfl
   simp only [Nat.add_zero, Nat.mul_one] at q3
   rw [hkf] at hv3
   simp only [Value.slice.injEq] at hv3
   obtain ⟨v3a, _, v3c⟩ := hv3
   have j0 : (0 : Int) ≤ (j : Int) := by omega
   have j1 : (j : Int) < (ks.length : Int) := by omega
   have wj : IntKind.i64.wrap ((j : Int) + 1) = (j : Int) + 1 := wrap64 (by omega) (by omega)
   have hfs : (ks.take (j + 1)).foldl (truthK key c i) (truthTo past key c i) = truthK key c i ((ks.take j).foldl (truthK key c i) (truthTo past key c i)) k := by rw [List.take_add_one, hk, List.foldl_append]; rfl
   have fin : ∀ (e' : Env) (w' : World), e' 0 = v → e' 1 = .string key → e' 2 = .int .i64 c → e' 3 = .int .i64 read → e' 8 = .pointer (some ⟨w.heap.size, 0, none⟩) → e' 9 = .pointer (some ⟨w.heap.size + 1, 0, none⟩) → e' 10 = .int .i64 i → e' 11 = .int .i64 ((j : Int) + 1) → w'.heap[w.heap.size + 1]? = some (.cells (encFct (truthK key c i ((ks.take j).foldl (truthK key c i) (truthTo past key c i)) k)).toArray 34 (0, 0)) → Fr [w.heap.size + 1] w2 w' → kk3 e' w' :=
    fun e' w' z0 z1 z2 z3 z8 z9 z10 z11 hz hfr => hkk3 e' w' hjl z11 ⟨z0, z1, z2, z3, z8, z9, z10, by rw [hfs]; exact hz, hfr⟩
   generalize (ks.take j).foldl (truthK key c i) (truthTo past key c i) = f at g93 fin
   unfold truthK at fin
   unfold encFct at g93
   rw [v3a] at q2
   cases d3 : decide (k = key) with
   | false =>
     rw [if_pos (of_decide_eq_false d3)] at fin
     simp (disch:=first|assumption|(simp only[dz];first|done|assumption|omega)|omega) only [↓gd,gp,Nat.reduceAdd,Nat.reduceEqDiff, ↓hk26, t0, t1, t2, t3, t8, t9, t10, eJ, i0, i1, j0, j1, Int.toNat_natCast, Nat.mul_one, hb2, q2, hb3, q3, d2, d3, wj]
     exact fin _ _ (by simp (disch:=first|assumption|(simp only[dz];first|done|assumption|omega)|omega) only [↓gsd,gs,gv,Nat.reduceAdd,Nat.reduceEqDiff, t0, ← hv2]) t1 t2 t3 t8 t9 t10 rfl g93 hf3
   | true =>
     have hke : ¬ (k ≠ key) := fun q => q (of_decide_eq_true d3)
     rw [if_neg hke] at fin
     by_cases q4 : (i : Int) < c
     ·have d4 : decide ((i : Int) < c) = true := decide_eq_true q4
      rw [if_pos q4] at fin
      simp (disch:=first|assumption|(simp only[dz];first|done|assumption|omega)|omega) only [↓gd,gp,Nat.reduceAdd,Nat.reduceEqDiff, ↓hk26, t0, t1, t2, t3, t8, t9, t10, eJ, i0, i1, j0, j1, Int.toNat_natCast, Nat.mul_one, hb2, q2, hb3, q3, d2, d3, d4, wi, wj, g93]
      generalize hW : World.setB w3 _ _ = w4
      have hf4 : Fr [w.heap.size + 1] w3 w4 := by rw [← hW]; exact fr_
      have g94 : w4.heap[w.heap.size + 1]? = some (.cells (encFct { f with lo := (i : Int) + 1 }).toArray 34 (0, 0)) := by rw [← hW]; exact get_setB_same _ _ _ l93
      clear hW
      have cw4 := cur w4
      refine name_spec fun w5 hf5 => ?_
      have cw5 := cur w5
      refine text_spec fun w6 hf6 => ?_
      have cw6 := cur w6
      have g96 := (hf5.trans' hf6).getN g94
      have l96 := lt_of_get _ _ g96
      unfold encFct at g96
      simp (disch:=first|assumption|(simp only[dz];first|done|assumption|omega)|omega) only [↓gd,gp,Nat.reduceAdd,Nat.reduceEqDiff, ↓hk26, t0, t1, t2, t3, t8, t9, t10, eJ, wj, g96]
      exact fin _ _ (by simp (disch:=first|assumption|(simp only[dz];first|done|assumption|omega)|omega) only [↓gsd,gs,gv,Nat.reduceAdd,Nat.reduceEqDiff, t0, ← hv2]) t1 t2 t3 t8 t9 t10 rfl (get_setB_same _ _ _ l96) ((hf3.trans hf4 fun y hy => .inl hy).trans' (hf5.trans' hf6) |>.trans (M' := [w.heap.size + 1]) fr_ fun y hy => .inl hy)
     ·have d4 : decide ((i : Int) < c) = false := decide_eq_false q4
      rw [if_neg q4] at fin
      by_cases q5 : f.hi = 4611686018427387904
      ·have d5 : decide (f.hi = 4611686018427387904) = true := decide_eq_true q5
       rw [if_pos q5] at fin
       simp (disch:=first|assumption|(simp only[dz];first|done|assumption|omega)|omega) only [↓gd,gp,Nat.reduceAdd,Nat.reduceEqDiff, ↓hk26, t0, t1, t2, t3, t8, t9, t10, eJ, i0, i1, j0, j1, Int.toNat_natCast, Nat.mul_one, hb2, q2, hb3, q3, d2, d3, d4, d5, wi, wj, g93]
       exact fin _ _ (by simp (disch:=first|assumption|(simp only[dz];first|done|assumption|omega)|omega) only [↓gsd,gs,gv,Nat.reduceAdd,Nat.reduceEqDiff, t0, ← hv2]) t1 t2 t3 t8 t9 t10 rfl (get_setB_same _ _ _ l93) (hf3.trans (M' := [w.heap.size + 1]) fr_ fun y hy => .inl hy)
      ·have d5 : decide (f.hi = 4611686018427387904) = false := decide_eq_false q5
       rw [if_neg q5] at fin
       simp (disch:=first|assumption|(simp only[dz];first|done|assumption|omega)|omega) only [↓gd,gp,Nat.reduceAdd,Nat.reduceEqDiff, ↓hk26, t0, t1, t2, t3, t8, t9, t10, eJ, i0, i1, j0, j1, Int.toNat_natCast, Nat.mul_one, hb2, q2, hb3, q3, d2, d3, d4, d5, wi, wj, g93]
       exact fin _ _ (by simp (disch:=first|assumption|(simp only[dz];first|done|assumption|omega)|omega) only [↓gsd,gs,gv,Nat.reduceAdd,Nat.reduceEqDiff, t0, ← hv2]) t1 t2 t3 t8 t9 t10 rfl g93 hf3
  ·have d2 : decide ((j : Int) < (ks.length : Int)) = false := decide_eq_false (by omega)
   rw [List.take_of_length_le (by omega), ← hst] at g93
   simp (disch:=first|assumption|(simp only[dz];first|done|assumption|omega)|omega) only [↓gd,gp,Nat.reduceAdd,Nat.reduceEqDiff, ↓hk26, t0, t1, t2, t3, t8, t9, t10, eJ, i0, i1, Int.toNat_natCast, Nat.mul_one, hb2, q2, d2, wi]
   refine hkk _ _ hil rfl ?_
   simp (disch:=first|assumption|(simp only[dz];first|done|assumption|omega)|omega) only [↓gsd,gs,gv,Nat.reduceAdd,Nat.reduceEqDiff, t0, t1, t2, t3, t8, t9, t10, ← hv2]
   exact ⟨g93, hf2.trans hf3 fun y hy => .inl hy⟩
 ·have d1 : decide ((i : Int) < (read : Int)) = false := decide_eq_false (by omega)
  have : i = read := by omega
  subst this
  have g92o := g92
  have n1 : w.heap.size ≠ w.heap.size + 1 := by omega
  unfold encFct at g92 g82 hK
  simp (disch:=first|assumption|(simp only[dz];first|done|assumption|omega)|omega) only [↓gd,gp,Nat.reduceAdd,Nat.reduceEqDiff, ↓hk26, e0, e1, e2, e3, e8, e9, eS, d1, g92, g82, n1]
  exact hK _ (hF2.trans (M' := [w.heap.size]) fr_ fun y hy => by simp at hy; omega)
theorem nun56 : Tryz.prog.underlying 56 = some (.slice 22) := by kernel_rfl
theorem nco22 : Tryz.prog.cellsOf 22 = 1 := by kernel_rfl
theorem nco56 : Tryz.prog.cellsOf 56 = 1 := by kernel_rfl
theorem nco58 : Tryz.prog.cellsOf 58 = 1 := by kernel_rfl
theorem u_past : ∃ fs, Tryz.prog.underlying 58 = some (.struct fs) ∧ ∃ f0, fs[0]? = some f0 ∧ (f0.type = 56 ∧ f0.offset = 0) ∧ fs.size = 1 :=
 ⟨_, und_of (Tryz.runUnderlying58 default), _, rfl, ⟨rfl, rfl⟩, rfl⟩
def encP1 (v : Value) : List Value := [v]
structure PastB (w : World) (v : Value) (N : Nat) (vs : List Value) (past : List (List ByteArray)) : Prop where
 sl : SlOf 1 (fun v : Value => [v]) w v vs
 len : past.length = vs.length
 row : ∀ (i : Nat) v ks, vs[i]? = some v → past[i]? = some ks → SlOf 1 encS w v ks
 bound : ∀ ks ∈ past, ks.length ≤ N
 le : past.length ≤ N
theorem PastB.at_ {w : World} {v : Value} {N : Nat} {vs : List Value} {past : List (List ByteArray)} (h : PastB w v N vs past) (hN : N ≤ 1048576) : PastAt w v vs past :=
 ⟨h.sl, h.len, h.row, fun ks hk => by have := h.bound ks hk; omega, by have := h.le; omega⟩
section
variable {H : Type} {ec : TypeId × Value → H} {w : World} {base : Nat} {spare : Nat → Bool} {held : Bool}
theorem open_keysB {n : Nat} {cs : List Value} {x : DataW H × List MemPlace} (h : DataW.trod ec Tryz.prog w base spare held n 22 cs = some x) : ∃ v ks, cs = [v] ∧ SlOf 1 encS w v ks ∧ ks.length ≤ Rows.uptoBulk x.1 := by
 obtain ⟨v, ks, e, hs, hm⟩ := open_keys h
 subst e
 obtain ⟨a, c, hf⟩ := hs.form
 rw [hf] at h
 exact ⟨v, ks, rfl, hs, bulk_slice nunStrs h⟩
theorem open_past {n : Nat} {cs : List Value} {x : DataW H × List MemPlace} (h : DataW.trod ec Tryz.prog w base spare held n 58 cs = some x) : ∃ v : Value, cs = encP1 v ∧ ∃ vs past, PastB w v (Rows.uptoBulk x.1) vs past := by
 obtain ⟨fs, hu, f0, e0, ⟨t0, o0⟩, hs⟩ := u_past
 obtain ⟨xs, m, rfl, rfl, hl, hxl, hx⟩ := DataW.trod_struct hu h
 rw [nco58] at hl
 have h0 := hx 0 f0 e0
 rw [t0, o0, nco56, List.getElem?_eq_getElem (by omega)] at h0
 obtain ⟨v, vs, e1, hsl, hm, h4⟩ := open_slOfD (enc := fun v : Value => [v]) (fun d v => ∃ ks, SlOf 1 encS w v ks ∧ ks.length ≤ Rows.uptoBulk d) nun56 nco22 (by decide) (fun _ => rfl) (fun n cs y hy => by
  obtain ⟨v, ks, ha, hw, hb⟩ := open_keysB hy
  exact ⟨v, ha, ks, hw, hb⟩) h0
 have hcs : cs = [v] := by
  match cs, hl with
  | [c0], _ => simpa using e1
 have hin : (xs[0]'(by omega)).1 ∈ xs.map (·.1) := List.mem_map.2 ⟨_, List.getElem_mem _, rfl⟩
 have hbm := bulk_mem hin
 have hlen : vs.length ≤ Rows.uptoBulk (xs[0]'(by omega)).1 ∧ ∀ (i : Nat) a, vs[i]? = some a → ∃ ks, SlOf 1 encS w a ks ∧ ks.length ≤ Rows.uptoBulk (xs[0]'(by omega)).1 := by
  rcases h4 with ⟨e, hv⟩ | ⟨els, sp, e, hle, hR⟩
  ·rw [e, hv]; exact ⟨Nat.zero_le _, fun i a q => by simp at q⟩
  ·rw [e]
   have := bulk_len els
   refine ⟨by simp only [Rows.uptoBulk]; omega, fun i a q => ?_⟩
   obtain ⟨d, hd, ks, q1, q2⟩ := hR i a q
   have := bulk_mem hd
   exact ⟨ks, q1, by simp only [Rows.uptoBulk]; omega⟩
 obtain ⟨past, p1, p2⟩ := choose_lt' (p := fun i ks => ∀ v, vs[i]? = some v → SlOf 1 encS w v ks ∧ ks.length ≤ Rows.uptoBulk (xs[0]'(by omega)).1) vs.length (fun i hi => by
  obtain ⟨ks, q1, q2⟩ := hlen.2 i vs[i] (List.getElem?_eq_getElem hi)
  refine ⟨ks, fun v hv => ?_⟩
  rw [List.getElem?_eq_getElem hi] at hv
  cases hv
  exact ⟨q1, q2⟩)
 have hN : Rows.uptoBulk (xs[0]'(by omega)).1 ≤ Rows.uptoBulk (DataW.agg (xs.map (·.1))) := by simp only [Rows.uptoBulk]; omega
 refine ⟨v, hcs, vs, past, hsl, p1, fun i v ks hv hk => (p2 i ks hk v hv).1, fun ks hk => ?_, by rw [p1]; exact Nat.le_trans hlen.1 hN⟩
 obtain ⟨i, hi⟩ := List.getElem?_of_mem hk
 have hil := (List.getElem?_eq_some_iff.1 hi).1
 exact Nat.le_trans (p2 i ks hi vs[i] (List.getElem?_eq_getElem (by omega))).2 hN
end
open Go.ChangeShapes Go.WideShapes Go.ChangeAt Go.RowKit Go.VW
set_option linter.unusedVariables false
theorem own : ownKnob Tryz.prog.godebug = none := by kernel_rfl
theorem kids : Kids Tryz.prog (· < Tryz.prog.types.size) := kids_rows (by kernel_rfl) (by kernel_rfl)
theorem full : ∀ t e, t < Tryz.prog.types.size → Tryz.prog.underlying t = some (.slice e) → 0 < Tryz.prog.cellsOf e := slices_full_of Tryz.prog (by kernel_rfl)
theorem Fr.kept {w w' : World} (h : Fr [] w w') (may : MemPlace → Prop) : w.keptBut w' may := by
 refine ⟨h.os, h.output, fun i hi => ?_⟩
 rw [h.keepN i hi]
 cases hc : w.heap[i]? with
 | none => rfl
 | some o => cases o <;> simp
section
variable {H : Type} {enc : TypeId × Value → H} {P : Program}
theorem trodAll_carry {W W' : World} {sp : Nat → Bool} : ∀ {ts : List TypeId} {vs : List Value} {ds : List (DataW H)} {ps : List MemPlace}, DataW.TrodAll enc P W 0 sp true ts vs ds ps → (∀ p ∈ ps, W.sameAt W' p) → DataW.TrodAll enc P W' 0 sp true ts vs ds ps
 | [], [], [], _, h, _ => h
 | _ :: _, _ :: _, _ :: _, _, ⟨p, q, ⟨n, h1⟩, h2, e⟩, hs =>
   ⟨p, q, ⟨n, DataW.trod_carry n _ _ _ h1 fun x hx => hs x (by rw [e]; exact List.mem_append_left _ hx)⟩, trodAll_carry h2 (fun x hx => hs x (by rw [e]; exact List.mem_append_right _ hx)), e⟩
theorem post_fr {f : Func} {s : ChangeSpec} {apart fresh handsOn again : Bool} {W W' : World} {args : Array Value} {v : Value} {ds gs : List (DataW H)} {before pa pv : List MemPlace}
  (hW : DataW.Whole enc P f.params.toList s.vars apart W args.toList ds gs before)
  (hres : ∀ (b : Nat) (sp : Nat → Bool) (hd : Bool), DataW.TrodAll enc P W' b sp hd f.resultTypes.toList (v.resultList f.resultTypes.size) (s.fn H (ds ++ gs)).results [])
  (hargs : ∀ sp : Nat → Bool, (∀ p ∈ before, sp p.block = true) → DataW.TrodAll enc P W' 0 sp true f.params.toList args.toList (s.fn H (ds ++ gs)).args pa)
  (hvars : ∀ sp : Nat → Bool, (∀ p ∈ before, sp p.block = true) → DataW.TrodVars enc P W' sp s.vars (s.fn H (ds ++ gs)).vars pv)
  (hps : before = pa ++ pv) (hf : Fr [] W W')
  (hok : ∀ (j : Nat) (t : TypeId) (r : Value), f.resultTypes[j]? = some t → (v.resultList f.resultTypes.size)[j]? = some r → Value.okWide P W' .any 0 t r) :
  s.post enc P f apart fresh handsOn again W args v W' := by
 have hold : ∀ p ∈ before, (fun b => decide (b < W.heap.size)) p.block = true := fun p hp => by simpa using hW.lt p hp
 refine ⟨ds, gs, before, [], pa, pv, hW, hres _ _ _, hargs _ hold, hvars _ hold, World.keptBut_mono (fun p hp => ⟨hp, ?_⟩) (Fr.kept hf _), fun _ => ?_⟩
 ·rw [hps, List.mem_append] at hp
  exact Or.inr hp
 ·have hlt := hW.lt
  obtain ⟨_, _, _, _, _, hz, hn⟩ := hW
  refine ⟨hok, _, _, ([] ++ pa) ++ pv, ⟨[] ++ pa, pv, trodAll_append (hargs _ (fun _ _ => rfl)) (hres _ _ _), hvars _ (fun _ _ => rfl), rfl, ?_, ?_⟩, ?_⟩
  ·intro b off hp
   have hb : MemPlace.cell b off ∈ before := by rw [hps]; simpa using hp
   have h1 := hz b off hb
   have h2 := hlt _ hb
   unfold World.frozen? at h1 ⊢
   rw [hf.keepN b h2]; exact h1
  ·intro ha
   have := hn ha
   rw [hps] at this
   simpa using this
  ·intro p hp _
   rw [hps]
   simpa using hp
end
structure RP (R : Rcn) (key : ByteArray) (n read : Int) (cnt : Nat) : Prop where
 since : R.since ≤ read
 asc : R.marks.Pairwise fun a b => a.1 ≤ b.1
 le : ∀ m ∈ R.marks, m.1 ≤ n
 few : (R.marks.filter fun m => decide (read < m.1)).length ≤ cnt
 none : ∀ m ∈ R.marks, read < m.1 → m.2 ≠ key
 len : R.marks.length ≤ R.cap
theorem RP.put_old {R : Rcn} {key : ByteArray} {n n' read : Int} {cnt : Nat} (h : RP R key n read cnt) (h1 : n ≤ n') (h2 : n' ≤ read) (k : ByteArray) : RP (R.put (n', k)) key n' read cnt := by
 unfold Rcn.put
 by_cases q0 : R.cap = 0
 ·rw [if_pos q0]
  exact ⟨h2, h.asc, fun m hm => Int.le_trans (h.le m hm) h1, h.few, h.none, h.len⟩
 rw [if_neg q0]
 have hasc : ∀ l : List Mk, l.Pairwise (fun a b => a.1 ≤ b.1) → (∀ m ∈ l, m.1 ≤ n) → (l ++ [(n', k)]).Pairwise fun a b => a.1 ≤ b.1 := fun l hl hn => by
  rw [List.pairwise_append]
  refine ⟨hl, List.pairwise_singleton _ _, fun a ha b hb => ?_⟩
  simp at hb; subst hb
  exact Int.le_trans (hn a ha) h1
 have hdn : decide (read < n') = false := decide_eq_false (by omega)
 by_cases q1 : R.marks.length = R.cap
 ·rw [if_pos q1]
  cases hm : R.marks with
  | nil => rw [hm] at q1; simp at q1; omega
  | cons a l =>
    have hle := h.le
    have hasc' := h.asc
    have hfew := h.few
    have hnone := h.none
    rw [hm] at hle hasc' hfew hnone q1
    rw [List.pairwise_cons] at hasc'
    refine ⟨?_, hasc l hasc'.2 fun m hm => hle m (List.mem_cons_of_mem _ hm), fun m hm => ?_, ?_, fun m hm => ?_, ?_⟩
    ·show a.1 ≤ read
     have := hle a (List.mem_cons_self ..); omega
    ·simp only [List.tail_cons, List.mem_append, List.mem_singleton] at hm
     rcases hm with q | rfl
     ·have := hle m (List.mem_cons_of_mem _ q); omega
     ·exact Int.le_refl _
    ·simp only [List.tail_cons, List.filter_append, List.length_append]
     have h3 : ([(n', k)] : List Mk).filter (fun m => decide (read < m.1)) = [] := by simp [hdn]
     rw [h3]
     have : (l.filter fun m => decide (read < m.1)).length ≤ ((a :: l).filter fun m => decide (read < m.1)).length := ((List.sublist_cons_self a l).filter _).length_le
     simp only [List.length_nil]
     omega
    ·simp only [List.tail_cons, List.mem_append, List.mem_singleton] at hm
     rcases hm with q | rfl
     ·exact hnone m (List.mem_cons_of_mem _ q)
     ·intro q'; simp only at q'; omega
    ·show (List.tail (a :: l) ++ [(n', k)]).length ≤ R.cap
     have e : (List.tail (a :: l) ++ [(n', k)]).length = l.length + 1 := by simp
     rw [e, ← q1]
     exact Nat.le_refl _
 ·rw [if_neg q1]
  refine ⟨h.since, hasc _ h.asc h.le, fun m hm => ?_, ?_, fun m hm => ?_, ?_⟩
  ·rcases List.mem_append.1 hm with q | q
   ·exact Int.le_trans (h.le m q) h1
   ·simp at q; subst q; exact Int.le_refl _
  ·simp only [List.filter_append, List.length_append]
   have h3 : ([(n', k)] : List Mk).filter (fun m => decide (read < m.1)) = [] := by simp [hdn]
   rw [h3]
   exact h.few
  ·rcases List.mem_append.1 hm with q | q
   ·exact h.none m q
   ·simp at q; subst q; intro q'; simp only at q'; omega
  ·have := h.len
   show (R.marks ++ [(n', k)]).length ≤ R.cap
   simp only [List.length_append, List.length_singleton]
   omega
theorem RP.put_new {R : Rcn} {key : ByteArray} {n n' read : Int} {cnt : Nat} (h : RP R key n read cnt) (h1 : n ≤ n') (hc : cnt + 1 ≤ R.cap) {k : ByteArray} (hk : k ≠ key) : RP (R.put (n', k)) key n' read (cnt + 1) := by
 unfold Rcn.put
 rw [if_neg (by omega)]
 have hasc : ∀ l : List Mk, l.Pairwise (fun a b => a.1 ≤ b.1) → (∀ m ∈ l, m.1 ≤ n) → (l ++ [(n', k)]).Pairwise fun a b => a.1 ≤ b.1 := fun l hl hn => by
  rw [List.pairwise_append]
  refine ⟨hl, List.pairwise_singleton _ _, fun a ha b hb => ?_⟩
  simp at hb; subst hb
  exact Int.le_trans (hn a ha) h1
 have hone : (([(n', k)] : List Mk).filter fun m => decide (read < m.1)).length ≤ 1 := List.length_filter_le _ _
 by_cases q1 : R.marks.length = R.cap
 ·rw [if_pos q1]
  cases hm : R.marks with
  | nil => rw [hm] at q1; simp at q1; omega
  | cons a l =>
    have hle := h.le
    have hasc' := h.asc
    have hfew := h.few
    have hnone := h.none
    rw [hm] at hle hasc' hfew hnone q1
    have ha : a.1 ≤ read := by
     apply Classical.byContradiction
     intro hn
     have : ((a :: l).filter fun m => decide (read < m.1)) = a :: l := by
      rw [List.filter_eq_self]
      intro m hm
      rw [List.pairwise_cons] at hasc'
      rcases List.mem_cons.1 hm with rfl | q
      ·exact decide_eq_true (by omega)
      ·have := hasc'.1 m q; exact decide_eq_true (by omega)
     rw [this] at hfew
     omega
    rw [List.pairwise_cons] at hasc'
    refine ⟨ha, hasc l hasc'.2 fun m hm => hle m (List.mem_cons_of_mem _ hm), fun m hm => ?_, ?_, fun m hm => ?_, ?_⟩
    ·simp only [List.tail_cons, List.mem_append, List.mem_singleton] at hm
     rcases hm with q | rfl
     ·have := hle m (List.mem_cons_of_mem _ q); omega
     ·exact Int.le_refl _
    ·simp only [List.tail_cons, List.filter_append, List.length_append]
     have : (l.filter fun m => decide (read < m.1)).length ≤ ((a :: l).filter fun m => decide (read < m.1)).length := ((List.sublist_cons_self a l).filter _).length_le
     omega
    ·simp only [List.tail_cons, List.mem_append, List.mem_singleton] at hm
     rcases hm with q | rfl
     ·exact hnone m (List.mem_cons_of_mem _ q)
     ·intro _; exact hk
    ·show (List.tail (a :: l) ++ [(n', k)]).length ≤ R.cap
     have e : (List.tail (a :: l) ++ [(n', k)]).length = l.length + 1 := by simp
     rw [e, ← q1]
     exact Nat.le_refl _
 ·rw [if_neg q1]
  refine ⟨h.since, hasc _ h.asc h.le, fun m hm => ?_, ?_, fun m hm => ?_, ?_⟩
  ·rcases List.mem_append.1 hm with q | q
   ·exact Int.le_trans (h.le m q) h1
   ·simp at q; subst q; exact Int.le_refl _
  ·simp only [List.filter_append, List.length_append]
   have := h.few
   omega
  ·rcases List.mem_append.1 hm with q | q
   ·exact h.none m q
   ·simp at q; subst q; intro _; exact hk
  ·have := h.len
   show (R.marks ++ [(n', k)]).length ≤ R.cap
   simp only [List.length_append, List.length_singleton]
   omega
theorem put_cap (R : Rcn) (m : Mk) : (R.put m).cap = R.cap ∧ (R.put m).last = R.last := by
 unfold Rcn.put
 split
 ·exact ⟨rfl, rfl⟩
 ·split <;> exact ⟨rfl, rfl⟩
theorem RP.puts_old {key : ByteArray} {n' read : Int} {cnt : Nat} (h2 : n' ≤ read) : ∀ (ks : List ByteArray) {R : Rcn}, RP R key n' read cnt → RP (ks.foldl (fun R k => R.put (n', k)) R) key n' read cnt
 | [], _, h => h
 | k :: ks, R, h => RP.puts_old h2 ks (h.put_old (Int.le_refl _) h2 k)
theorem RP.puts_new {key : ByteArray} {n' read : Int} : ∀ (ks : List ByteArray) {R : Rcn} {cnt : Nat}, RP R key n' read cnt → cnt + ks.length ≤ R.cap → (∀ k ∈ ks, k ≠ key) → RP (ks.foldl (fun R k => R.put (n', k)) R) key n' read (cnt + ks.length)
 | [], _, _, h, _, _ => h
 | k :: ks, R, cnt, h, hc, hk => by
   simp only [List.length_cons] at hc ⊢
   have := RP.puts_new ks (h.put_new (Int.le_refl _) (by omega) (hk k (List.mem_cons_self ..))) (by rw [(put_cap _ _).1]; omega) fun k' hk' => hk k' (List.mem_cons_of_mem _ hk')
   rw [show cnt + (ks.length + 1) = cnt + 1 + ks.length by omega]
   exact this
theorem puts_cap (ks : List ByteArray) (n : Int) : ∀ R : Rcn, (ks.foldl (fun R k => R.put (n, k)) R).cap = R.cap ∧ (ks.foldl (fun R k => R.put (n, k)) R).last = R.last := by
 induction ks with
 | nil => intro R; exact ⟨rfl, rfl⟩
 | cons k ks ih => intro R; have := ih (R.put (n, k)); exact ⟨this.1.trans (put_cap _ _).1, this.2.trans (put_cap _ _).2⟩
theorem RP.mono {R : Rcn} {key : ByteArray} {n n' read : Int} {cnt : Nat} (h : RP R key n read cnt) (h1 : n ≤ n') : RP R key n' read cnt := ⟨h.since, h.asc, fun m hm => Int.le_trans (h.le m hm) h1, h.few, h.none, h.len⟩
theorem note_eq {R : Rcn} {n : Int} {ks : List ByteArray} (h1 : R.last < n) (h2 : n ≤ 1099511627776) : R.note n ks = ks.foldl (fun R k => R.put (n, k)) { R with last := n } := by
 unfold Rcn.note; rw [if_neg (by omega)]
theorem RP.note_old {R : Rcn} {key : ByteArray} {n n' read : Int} {cnt : Nat} (h : RP R key n read cnt) (h1 : n ≤ n') (hl : R.last < n') (h2 : n' ≤ read) (h3 : n' ≤ 1099511627776) (ks : List ByteArray) : RP (R.note n' ks) key n' read cnt ∧ (R.note n' ks).cap = R.cap ∧ (R.note n' ks).last = n' := by
 rw [note_eq hl h3]
 have hR : RP { R with last := n' } key n' read cnt := ⟨h.since, h.asc, fun m hm => Int.le_trans (h.le m hm) h1, h.few, h.none, h.len⟩
 exact ⟨RP.puts_old h2 ks hR, (puts_cap ks n' _).1, (puts_cap ks n' _).2⟩
theorem RP.note_new {R : Rcn} {key : ByteArray} {n n' read : Int} {cnt : Nat} (h : RP R key n read cnt) (h1 : n ≤ n') (hl : R.last < n') (h3 : n' ≤ 1099511627776) {ks : List ByteArray} (hc : cnt + ks.length ≤ R.cap) (hk : ∀ k ∈ ks, k ≠ key) : RP (R.note n' ks) key n' read (cnt + ks.length) ∧ (R.note n' ks).cap = R.cap ∧ (R.note n' ks).last = n' := by
 rw [note_eq hl h3]
 have hR : RP { R with last := n' } key n' read cnt := ⟨h.since, h.asc, fun m hm => Int.le_trans (h.le m hm) h1, h.few, h.none, h.len⟩
 exact ⟨RP.puts_new ks hR hc hk, (puts_cap ks n' _).1, (puts_cap ks n' _).2⟩
theorem RP.first {R : Rcn} {key : ByteArray} {n read : Int} {cnt : Nat} (h : RP R key n read cnt) : R.first key read = Option.none := by
 unfold Rcn.first
 rw [Option.map_eq_none_iff, List.find?_eq_none]
 intro m hm
 simp only [Bool.and_eq_true, decide_eq_true_eq, not_and]
 exact h.none m hm
theorem RP.zero (m s : Int) (key : ByteArray) (read : Int) (h0 : 0 ≤ read) : RP (Rcn.new m 0) key 0 read 0 := by
 refine ⟨?_, List.Pairwise.nil, fun m hm => (by cases hm), Nat.zero_le _, fun m hm => (by cases hm), Nat.zero_le _⟩
 show clampC 0 ≤ read
 unfold clampC; omega
end Go.Proofs.YtomlgkecckffeaaGreat
