/- Table: Find, All. Keys in order, plainly (out of store/T6). Table: All. -/
import Derived.Test.YtomlgkecckffeaaGreatKS
import Derived.Sort.Walk0
set_option linter.unusedVariables false
set_option linter.unusedSimpArgs false
set_option maxRecDepth 10000
namespace Go.Proofs.YtomlgkecckffeaaGreat
open Go.VW
def findE (l : Ents) (x lo hi : Int) : Option Ent := (l.filter fun e => meetsE e x lo hi).getLast?
theorem findE_at {l : Ents} {x lo hi : Int} {j : Nat} {e : Ent} (he : l[j]? = some e) (hm : meetsE e x lo hi = true) (hn : ∀ t e', j < t → l[t]? = some e' → meetsE e' x lo hi = false) : findE l x lo hi = some e := by
 obtain ⟨g1, g2⟩ := List.getElem?_eq_some_iff.1 he
 have hl : l = l.take j ++ e :: l.drop (j + 1) := by
  conv => lhs; rw [← List.take_append_drop j l, List.drop_eq_getElem_cons g1, g2]
 have h0 : (l.drop (j + 1)).filter (fun e => meetsE e x lo hi) = [] := by
  rw [List.filter_eq_nil_iff]
  intro a ha
  obtain ⟨t, ht⟩ := List.getElem?_of_mem ha
  rw [List.getElem?_drop] at ht
  rw [hn (j + 1 + t) a (by omega) ht]
  simp
 unfold findE
 rw [hl, List.filter_append, List.filter_cons, if_pos hm, h0]
 simp
theorem findE_none {l : Ents} {x lo hi : Int} (hn : ∀ (t : Nat) (e' : Ent), l[t]? = some e' → meetsE e' x lo hi = false) : findE l x lo hi = none := by
 unfold findE
 have : l.filter (fun e => meetsE e x lo hi) = [] := by
  rw [List.filter_eq_nil_iff]
  intro a ha
  obtain ⟨t, ht⟩ := List.getElem?_of_mem ha
  rw [hn t a ht]
  simp
 rw [this]; rfl
set_option maxHeartbeats 8000000 in
theorem Find_spec {w : World} {tb : Nat} {S : List Nat} {T : Tab} {N : Nat} {k : ByteArray} {x plo phi : Int} {K : Value → World → Prop} (h : TabAt w tb S T) (hwf : T.WF N) (hN : N ≤ 1000000000000)
  (hK : ∀ w', Fr [] w w' → K (.tuple ([.agg (encEnt ((findE (T.row k) x plo phi).getD entZ)).toArray, .bool (findE (T.row k) x plo phi).isSome] : List Value).toArray) w') :
  CallsN Tryz.prog 80 [.pointer (some ⟨tb, 0, none⟩), .string k, .int .i64 x, .agg ([.int .i64 plo, .int .i64 phi] : List Value).toArray] w K := by
 have cw := cur w
 refine call80 ?_
 simp (maxSteps:=9^7)(disch:=first|assumption|(simp only[dz];first|done|assumption|omega)|omega|apply_rules[Fr.refl,Fr.alloc,Fr.drew]|rfl) only [↓gd,gp,Nat.reduceAdd,Nat.reduceEqDiff, ↓hk80]
 generalize hW : World.alloc _ _ = w1
 have hf1 : Fr [] w w1 := by rw [← hW]; exact fr_
 have hz1 : w1.heap.size = w.heap.size + 2 := by rw [← hW]; simp only [gz]
 have gp1 : w1.heap[w.heap.size]? = some (.cells ([.int .i64 plo, .int .i64 phi] : List Value).toArray 48 (0, 0)) := by rw [← hW]; simp (maxSteps:=9^7)(disch:=first|assumption|(simp only[dz];first|done|assumption|omega)|omega|apply_rules[Fr.refl,Fr.alloc,Fr.drew]|rfl) only [↓gsd,gs,gv,Nat.reduceAdd,Nat.reduceEqDiff]
 have ge1 : w1.heap[w.heap.size + 1]? = some (.cells (encEnt entZ).toArray 52 (0, 0)) := by rw [← hW]; simp (maxSteps:=9^7)(disch:=first|assumption|(simp only[dz];first|done|assumption|omega)|omega|apply_rules[Fr.refl,Fr.alloc,Fr.drew]|rfl) only [↓gsd,gs,gv,Nat.reduceAdd,Nat.reduceEqDiff, encEnt]
 clear hW
 have cw1 := cur w1
 refine row_spec (h.frN hf1) fun v hv _ => ?_
 have hsl : SlOf 8 encEnt w1 v (T.row k) := hv.sl
 have hll := hwf.len k
 generalize T.row k = l at hsl hll hK hv ⊢
 obtain ⟨va, vc, hvf⟩ := hsl.form
 have wr0 : IntKind.i64.wrap ((l.length : Int) - 1) = (l.length : Int) - 1 := wrap64 (by omega) (by omega)
 simp (maxSteps:=9^7)(disch:=first|assumption|(simp only[dz];first|done|assumption|omega)|omega|apply_rules[Fr.refl,Fr.alloc,Fr.drew]|rfl) only [↓gd,gp,Nat.reduceAdd,Nat.reduceEqDiff, ↓hk80, hvf, wr0]
 rw [← hvf]
 refine loop_intro (fun e w' => ∃ j : Nat, j ≤ l.length ∧ e 2 = .int .i64 x ∧ e 7 = .pointer (some ⟨w.heap.size, 0, none⟩) ∧ e 8 = .pointer (some ⟨w.heap.size + 1, 0, none⟩) ∧ e 9 = .bool false ∧ e 10 = v ∧ e 11 = .int .i64 ((j : Int) - 1) ∧ (∀ t e', j ≤ t → l[t]? = some e' → meetsE e' x plo phi = false) ∧ Fr [] w1 w')
  (fun e _ => (numOf (e 11) + 1).toNat) ?_ ?_
 ·refine ⟨l.length, Nat.le_refl _, ?_⟩
  simp (maxSteps:=9^7)(disch:=first|assumption|(simp only[dz];first|done|assumption|omega)|omega|apply_rules[Fr.refl,Fr.alloc,Fr.drew]|rfl) only [↓gsd,gs,gv,Nat.reduceAdd,Nat.reduceEqDiff, hvf]
  exact ⟨fun t e' ht he => by have := (List.getElem?_eq_some_iff.1 he).1; omega, Fr.refl _ _⟩
 rintro e w2 kk ⟨j, hj, e2, e7, e8, e9, e10, e11, hn, hf2⟩ hk
 have cw2 := cur w2
 have hz2 := hf2.size
 have gp2 := hf2.getN gp1
 have ge2 := hf2.getN ge1
 have hlp2 := lt_of_get _ _ gp2
 have hle2 := lt_of_get _ _ ge2
 cases j with
 | zero =>
   have d : decide ((0 : Int) ≤ ((0 : Nat) : Int) - 1) = false := rfl
   have hf0 := findE_none (x := x) (lo := plo) (hi := phi) (fun t e' he => hn t e' (Nat.zero_le _) he)
   rw [hf0] at hK
   unfold encEnt at ge2 hK
   simp (maxSteps:=9^7)(disch:=first|assumption|(simp only[dz];first|done|assumption|omega)|omega|apply_rules[Fr.refl,Fr.alloc,Fr.drew]|rfl) only [↓gd,gp,Nat.reduceAdd,Nat.reduceEqDiff, ↓hk80, e2, e7, e8, e9, e10, e11, d, ge2]
   exact hK _ ((hf1.trans' hf2).setB _ _ (.inr (by omega)))
 | succ j =>
   have ej : (((j + 1 : Nat) : Int) - 1) = (j : Int) := by omega
   rw [ej] at e11
   have d : decide ((0 : Int) ≤ (j : Int)) = true := decide_eq_true (by omega)
   obtain ⟨y, hy⟩ : ∃ y, l[j]? = some y := ⟨l[j]'(by omega), List.getElem?_eq_getElem (by omega)⟩
   have hsl2 := SlOf.frN hsl hf2
   obtain ⟨bb, off, cap, ob, hv1, hob, hobl, hrow, _⟩ := hsl2.read encEnt_len j y hy
   have hfr := fun orig K => factRead hsl2 hy hv1 hob orig K
   have j0 : (0 : Int) ≤ (j : Int) := by omega
   have j1 : (j : Int) < (l.length : Int) := by omega
   simp (maxSteps:=9^7)(disch:=first|assumption|(simp only[dz];first|done|assumption|omega)|omega|apply_rules[Fr.refl,Fr.alloc,Fr.drew]|rfl) only [↓gd,gp,Nat.reduceAdd,Nat.reduceEqDiff, ↓hk80, e2, e7, e8, e9, e10, e11, hv1, d, j0, j1, Int.toNat_natCast, hob, hfr, gp2]
   refine meets_spec (e := y) fun w3 hf3 => ?_
   have cw3 := cur w3
   have hfd : Fr [] w2 w3 := (Fr.refl _ _).drew.trans' hf3
   have hz3 := hfd.size
   have ge3 := hfd.getN ge2
   have hle3 := lt_of_get _ _ ge3
   have hsl3 := SlOf.frN hsl2 hfd
   have hob3 := hfd.getN hob
   have hobl3 := lt_of_get _ _ hob3
   cases hm : meetsE y x plo phi with
   | true =>
     have hf0 := findE_at hy hm (fun t e' ht he => hn t e' (by omega) he)
     rw [hf0] at hK
     unfold encEnt at ge3 hK hrow
     simp (maxSteps:=9^7)(disch:=first|assumption|(simp only[dz];first|done|assumption|omega)|omega|apply_rules[Fr.refl,Fr.alloc,Fr.drew]|rfl) only [↓gd,gp,Nat.reduceAdd,Nat.reduceEqDiff, ↓hk80, e2, e7, e8, e9, e10, e11, hv1, hm, j0, j1, Int.toNat_natCast, hob3, hrow, ge3]
     exact hK _ (((hf1.trans' hf2).trans' hfd).setB _ _ (.inr (by omega)))
   | false =>
     have wr : IntKind.i64.wrap ((j : Int) - 1) = (j : Int) - 1 := wrap64 (by omega) (by omega)
     simp (maxSteps:=9^7)(disch:=first|assumption|(simp only[dz];first|done|assumption|omega)|omega|apply_rules[Fr.refl,Fr.alloc,Fr.drew]|rfl) only [↓gd,gp,Nat.reduceAdd,Nat.reduceEqDiff, ↓hk80, e2, e7, e8, e9, e10, e11, hm, wr]
     refine hk _ _ ⟨j, by omega, ?_⟩ ?_
     ·simp (maxSteps:=9^7)(disch:=first|assumption|(simp only[dz];first|done|assumption|omega)|omega|apply_rules[Fr.refl,Fr.alloc,Fr.drew]|rfl) only [↓gsd,gs,gv,Nat.reduceAdd,Nat.reduceEqDiff, e2, e7, e8, e9, e10, e11, hv1]
      refine ⟨fun t e' ht he => ?_, hf2.trans' hfd⟩
      by_cases hq : t = j
      ·subst hq; rw [hy] at he; cases he; exact hm
      ·exact hn t e' (by omega) he
     ·simp (maxSteps:=9^7)(disch:=first|assumption|(simp only[dz];first|done|assumption|omega)|omega|apply_rules[Fr.refl,Fr.alloc,Fr.drew]|rfl) only [↓gsd,gs,gv,Nat.reduceAdd,Nat.reduceEqDiff, e11, numOf]; omega
def unbl (l : List UInt8) : ByteArray := ⟨l.toArray⟩
theorem bl_unbl (l : List UInt8) : bl (unbl l) = l := by simp [bl, unbl]
theorem unbl_bl (b : ByteArray) : unbl (bl b) = b := by cases b; simp [bl, unbl]
def keysOf (ks : List ByteArray) : List ByteArray := (sortB (ks.map bl)).map unbl
theorem keysOf_mem (ks : List ByteArray) (s : ByteArray) : s ∈ keysOf ks ↔ s ∈ ks := by
 unfold keysOf sortB
 rw [List.mem_map]
 constructor
 ·rintro ⟨x, hx, rfl⟩
  rw [(List.mergeSort_perm _ _).mem_iff, List.mem_map] at hx
  obtain ⟨y, hy, rfl⟩ := hx
  rw [unbl_bl]; exact hy
 ·intro hs
  exact ⟨bl s, by rw [(List.mergeSort_perm _ _).mem_iff]; exact List.mem_map.2 ⟨s, hs, rfl⟩, unbl_bl s⟩
theorem keysOf_len (ks : List ByteArray) : (keysOf ks).length = ks.length := by simp [keysOf, sortB]
theorem keysOf_enc (ks : List ByteArray) : (sortB (ks.map bl)).map encStr = (keysOf ks).map Value.string := by
 unfold keysOf
 rw [List.map_map]
 apply List.map_congr_left
 intro x _
 show encStr x = Value.string (unbl x)
 rw [← encStr_bl, bl_unbl]
theorem own_ne {k k' n n' : Nat} {e e' : TypeId} {w : World} {v v' : Value} {cs cs' : List Value} (h : Own k e w v n cs) (h' : Own k' e' w v' n' cs') (he : e ≠ e') : ∀ b, v.ownBlock = some b → v'.ownBlock ≠ some b := by
 intro b hb hb'
 rcases h.2 with ⟨rfl, _⟩ | ⟨g, cap, cur, rfl, _, hg, _⟩
 ·simp [Value.ownBlock] at hb
 ·rcases h'.2 with ⟨rfl, _⟩ | ⟨g', cap', cur', rfl, _, hg', _⟩
  ·simp [Value.ownBlock] at hb'
  ·simp [Value.ownBlock] at hb hb'
   subst hb; subst hb'
   rw [hg] at hg'
   cases hg'
   exact he rfl
abbrev encS (k : ByteArray) : List Value := [.string k]
theorem encS_len (k : ByteArray) : (encS k).length = 1 := rfl
theorem cellsS (l : List ByteArray) : cellsOf encS l = l.map Value.string := by
 induction l with
 | nil => rfl
 | cons x l ih => simp only [cellsOf, List.flatMap_cons, encS, List.map_cons] at *; rw [ih]; rfl
def allE (T : Tab) (ks : List ByteArray) : Ents := ks.flatMap T.row
theorem allE_snoc (T : Tab) (ks : List ByteArray) (k : ByteArray) : allE T (ks ++ [k]) = allE T ks ++ T.row k := by unfold allE; simp
set_option maxHeartbeats 8000000 in
theorem all_specM {w : World} {tb bm : Nat} {S : List Nat} {T : Tab} {es : List (ByteArray × Value)} {K : Value → World → Prop} (h1 : w.heap[tb]? = some (.cells ([.map (some bm), .int .i64 T.n, .int .i64 T.bytes] : List Value).toArray 194 (0, 0))) (hr : RowsM w S bm T.rows es) (h4 : ∀ x ∈ S, x < w.heap.size)
  (hk : ∀ k ∈ T.rows.map (·.1), k.size ≤ 32) (hn : T.rows.length ≤ 1000000000) (hB : (allE T (keysOf (T.rows.map (·.1)))).length ≤ 1700000000000)
  (hK : ∀ v w', Own 8 52 w' v (allE T (keysOf (T.rows.map (·.1)))).length (cellsOf encEnt (allE T (keysOf (T.rows.map (·.1))))) → (∀ g, v.ownBlock = some g → w.heap.size ≤ g) → Fr [] w w' → K v w') : CallsN Tryz.prog 68 [.pointer (some ⟨tb, 0, none⟩)] w K := by
 have cw := cur w
 have hlt := lt_of_get _ _ h1
 refine call68 ?_
 simp (maxSteps:=9^7)(disch:=first|assumption|(simp only[dz];first|done|assumption|omega)|omega|apply_rules[Fr.refl,Fr.alloc,Fr.drew]|rfl) only [↓gd,gp,Nat.reduceAdd,Nat.reduceEqDiff, ↓hk68, h1]
 refine keysEnt ?_
 try simp (maxSteps:=9^7)(disch:=first|assumption|(simp only[dz];first|done|assumption|omega)|omega|apply_rules[Fr.refl,Fr.alloc,Fr.drew]|rfl) only [↓gd,gp,Nat.reduceAdd,Nat.reduceEqDiff, ↓hk68]
 have hlen : es.length = T.rows.length := by have := congrArg List.length hr.keys; simpa using this
 refine sortedEnt hr.map (fun p hp => ?_) (by omega) fun v w1 hown hf hfr => ?_
 ·have := hk p.1 (by rw [← hr.keys]; exact List.mem_map.2 ⟨p, hp, rfl⟩)
  unfold maxLen; omega
 have cw1 := cur w1
 have hz1 := hf.size
 have e : es.map (fun p => bl p.1) = (T.rows.map (·.1)).map bl := by rw [← hr.keys, List.map_map]; rfl
 have hl2 : (keysOf (T.rows.map (·.1))).length = es.length := by rw [keysOf_len, List.length_map, hlen]
 rw [e, keysOf_enc, ← hl2, ← cellsS] at hown
 generalize keysOf (T.rows.map (·.1)) = ks at hown hB hK hl2
 have hsl : SlOf 1 encS w1 v ks := hown.sl
 obtain ⟨va, vc, hvf⟩ := hsl.form
 simp (maxSteps:=9^7)(disch:=first|assumption|(simp only[dz];first|done|assumption|omega)|omega|apply_rules[Fr.refl,Fr.alloc,Fr.drew]|rfl) only [↓gd,gp,Nat.reduceAdd,Nat.reduceEqDiff, ↓hk68, hvf]
 rw [← hvf]
 refine loop_intro (fun e w' => ∃ (i : Nat) (vo : Value), i ≤ ks.length ∧ e 0 = .pointer (some ⟨tb, 0, none⟩) ∧ e 3 = vo ∧ e 13 = v ∧ e 14 = .int .i64 ks.length ∧ e 15 = .int .i64 i ∧ Own 8 52 w' vo (allE T (ks.take i)).length (cellsOf encEnt (allE T (ks.take i))) ∧ (∀ g, vo.ownBlock = some g → w.heap.size ≤ g) ∧ Own 1 9 w' v ks.length (cellsOf encS ks) ∧ Fr [] w w')
  (fun e _ => ks.length - (numOf (e 15)).toNat) ?_ ?_
 ·refine ⟨0, sliceZ, Nat.zero_le _, ?_⟩
  simp (maxSteps:=9^7)(disch:=first|assumption|(simp only[dz];first|done|assumption|omega)|omega|apply_rules[Fr.refl,Fr.alloc,Fr.drew]|rfl) only [↓gsd,gs,gv,Nat.reduceAdd,Nat.reduceEqDiff, hvf, Int.natCast_zero]
  exact ⟨Own.nil, fun g hg => by simp [Value.ownBlock] at hg, hvf ▸ hown, hf⟩
 rintro e w2 kk ⟨i, vo, hi, e0, e3, e13, e14, e15, ho, hbo, hown2, hf2⟩ hkk
 have cw2 := cur w2
 obtain ⟨oa, oc, hvo⟩ := ho.sl.form
 by_cases hil : i < ks.length
 ·have d : decide ((i : Int) < (ks.length : Int)) = true := decide_eq_true (by omega)
  obtain ⟨k, hki⟩ : ∃ k, ks[i]? = some k := ⟨ks[i], List.getElem?_eq_getElem hil⟩
  have hf12 : Fr [] w w2 := hf2
  obtain ⟨bb, off, cap, ob, hv1, hob, _, _, hc⟩ := (show SlOf 1 encS w2 v ks from hown2.sl).read encS_len i k hki
  have hc' := fun orig K => hc 0 (.string k) orig K rfl
  simp only [Nat.mul_one, Nat.add_zero] at hc'
  have i0 : (0 : Int) ≤ (i : Int) := by omega
  have i1 : (i : Int) < (ks.length : Int) := by omega
  have wr : IntKind.i64.wrap ((i : Int) + 1) = (i : Int) + 1 := wrap64 (by omega) (by omega)
  have i3 : ((i : Int) + 1).toNat = i + 1 := by omega
  have hh2 := hf2.getN h1
  have hlt2 := lt_of_get _ _ hh2
  have hr2 : RowsM w2 S bm T.rows es := hr.fr h4 hf2 (by simp)
  obtain ⟨ents, clock, hbm, _⟩ := id hr2.map.ex
  have hm := hr2.map
  rw [hbm] at hm
  have hmv := fun orig K => mapV_at inj_string hm orig K
  obtain ⟨g1, _⟩ := hr2.get k
  change Own 8 52 w2 ((aget es k).getD sliceZ) (T.row k).length (cellsOf encEnt (T.row k)) at g1
  have htk : ks.take (i + 1) = ks.take i ++ [k] := by rw [List.take_add_one, hki]; rfl
  have hsum : (allE T (ks.take i)).length + (T.row k).length ≤ 1700000000000 := by
   have : allE T ks = allE T (ks.take (i + 1)) ++ allE T (ks.drop (i + 1)) := by unfold allE; rw [← List.flatMap_append, List.take_append_drop]
   rw [this, htk, allE_snoc] at hB
   simp only [List.length_append] at hB
   omega
  obtain ⟨v3, w3, hr3, hown3, hf3, hbk3⟩ := ap41 (ty := 41) ho g1.sl (cellsE_one _) (by omega)
  have cw3 := cur w3
  rw [hvo] at hr3
  simp (maxSteps:=9^7)(disch:=first|assumption|(simp only[dz];first|done|assumption|omega)|omega|apply_rules[Fr.refl,Fr.alloc,Fr.drew]|rfl) only [↓gd,gp,Nat.reduceAdd,Nat.reduceEqDiff, ↓hk68, e0, e3, e13, e14, e15, hv1, hvo, d, i0, i1, Int.toNat_natCast, Nat.mul_one, hob, hc', hh2, hbm, hmv, hr3]
  refine hkk _ _ ⟨i + 1, v3, by omega, ?_⟩ ?_
  ·simp (maxSteps:=9^7)(disch:=first|assumption|(simp only[dz];first|done|assumption|omega)|omega|apply_rules[Fr.refl,Fr.alloc,Fr.drew]|rfl) only [↓gsd,gs,gv,Nat.reduceAdd,Nat.reduceEqDiff, e0, e3, e13, e14, e15, hv1, wr, Int.natCast_add i 1, Int.natCast_one]
   refine ⟨?_, fun g hg => ?_, by rw [← hv1]; exact hown2.fr hf3 fun x hx e => own_ne hown2 ho (by decide) x e (mem_blkL.1 hx), hf2.trans hf3 fun y hy => .inr (hbo y (mem_blkL.1 hy))⟩
   ·rw [htk, allE_snoc, cellsOf_append, List.length_append]; exact hown3
   ·rcases hbk3 with q | ⟨b', q1, q2⟩
    ·exact hbo g (q ▸ hg)
    ·rw [q1] at hg; cases hg; have := hf2.size; omega
  ·simp (maxSteps:=9^7)(disch:=first|assumption|(simp only[dz];first|done|assumption|omega)|omega|apply_rules[Fr.refl,Fr.alloc,Fr.drew]|rfl) only [↓gsd,gs,gv,Nat.reduceAdd,Nat.reduceEqDiff, e15, wr, numOf, Int.toNat_natCast, i3]; omega
 ·have d : decide ((i : Int) < (ks.length : Int)) = false := decide_eq_false (by omega)
  have hi' : ks.take i = ks := List.take_of_length_le (by omega)
  rw [hi'] at ho
  simp (maxSteps:=9^7)(disch:=first|assumption|(simp only[dz];first|done|assumption|omega)|omega|apply_rules[Fr.refl,Fr.alloc,Fr.drew]|rfl) only [↓gd,gp,Nat.reduceAdd,Nat.reduceEqDiff, ↓hk68, e0, e3, e13, e14, e15, d]
  exact hK _ _ ho hbo hf2
end Go.Proofs.YtomlgkecckffeaaGreat
