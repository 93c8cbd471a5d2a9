/- Table: Get; All, whatever the map. Table: the plain law of TableFinds. A table's entries, counted: what a put and a drop change of a sum over all. A table as a node keeps it: sorted rows of good entries, none empty, that cost what Bytes says, and no more than B. A table as a finite map from keys and beginnings to entries. -/
import Derived.Test.YtomlgkecckffeaaGreatAD
set_option linter.unusedVariables false
set_option linter.unusedSimpArgs false
set_option maxRecDepth 10000
namespace Go.Proofs.YtomlgkecckffeaaGreat
open Go.RowKit Go.Maps Go.Sort Go.Shelf Go.VW
theorem sortedEnt0 {w : World} {K : Value → World → Prop} (hK : ∀ v w', Own 1 9 w' v 0 [] → Fr [] w w' → (∀ g, v.ownBlock = some g → w.heap.size ≤ g) → K v w') :
  CallsN Tryz.prog 138 [.func (.func 177) #[] #[.pointer (some ⟨w.heap.size, 0, none⟩)]] (w.alloc (.cells #[.map none] 192)) K := by
 have hmax : (0 : Nat) ≤ maxLen := Nat.zero_le _
 have hseq : SeqGives Fence.wide 2 Tryz.prog 177 #[.pointer (some ⟨w.heap.size, 0, none⟩)] encStr (fun ss : List (List UInt8) => ss = []) 0 (w.alloc (.cells #[.map none] 192)) :=
  AnyZ.keys_gives_nil (ρ := YtomlgkecckffeaaGreat.kM_ren) { YtomlgkecckffeaaGreat.kM with } Fence.wide _ trivial rfl w.heap.size _ (by simp) (by simp)
 have cS := AnyZ.sorted_in YtomlgkecckffeaaGreat.sM Fence.wide 5 trivial trivial trivial trivial rfl (by omega) (sortsM _) (enters_of Tryz.func176 (by kernel_rfl) rfl) 177 #[.pointer (some ⟨w.heap.size, 0, none⟩)] trivial (enters_of Tryz.func177 (by kernel_rfl) rfl) _ _ hmax (by simp) _ hseq
 change CallsIn _ _ Tryz.prog 138 _ _ _ at cS
 refine CallsN.of ((callsIn_wide.1 cS).mono fun e w' h => ?_)
 obtain ⟨v, ss, rfl, hS, hrow, hnil, hbelow⟩ := h
 subst hS
 obtain ⟨ho, hfr⟩ := Own.of_row hrow
 have ho' : Own 1 (YtomlgkecckffeaaGreat.sM_ren.t 26) w' v 0 [] := by simpa using ho
 refine ⟨v, rfl, hK v w' ho' (((Fr.refl [] w).alloc _).trans' (Fr.of_below hbelow)) fun g hg => ?_⟩
 have := hfr g hg
 rw [size_alloc] at this
 omega
theorem all_empty {w : World} {tb : Nat} {S : List Nat} {T : Tab} {K : Value → World → Prop} (h : TabAt w tb S T) (hm : ∃ n b, w.heap[tb]? = some (.cells ([.map none, .int .i64 n, .int .i64 b] : List Value).toArray 194 (0, 0)))
  (hK : ∀ w', Fr [] w w' → K sliceZ w') : CallsN Tryz.prog 68 [.pointer (some ⟨tb, 0, none⟩)] w K := by
 have cw := cur w
 obtain ⟨n, b, h1⟩ := hm
 have hlt := lt_of_get _ _ h1
 refine call68 ?_
 simp (maxSteps:=9^7)(disch:=first|assumption|(simp only[dz];first|done|assumption|omega)|omega|apply_rules[Fr.refl,Fr.alloc,Fr.drew]|rfl) only [↓gd,gp,Nat.reduceAdd,Nat.reduceEqDiff, ↓hk68, h1]
 refine keysEnt ?_
 try simp (maxSteps:=9^7)(disch:=first|assumption|(simp only[dz];first|done|assumption|omega)|omega|apply_rules[Fr.refl,Fr.alloc,Fr.drew]|rfl) only [↓gd,gp,Nat.reduceAdd,Nat.reduceEqDiff, ↓hk68]
 refine sortedEnt0 fun v w1 hown hf hfr => ?_
 have cw1 := cur w1
 obtain ⟨va, vc, hvf⟩ := hown.sl.form
 simp (maxSteps:=9^7)(disch:=first|assumption|(simp only[dz];first|done|assumption|omega)|omega|apply_rules[Fr.refl,Fr.alloc,Fr.drew]|rfl) only [↓gd,gp,Nat.reduceAdd,Nat.reduceEqDiff, ↓hk68, hvf]
 refine loop_intro (fun e w' => e 3 = sliceZ ∧ e 14 = .int .i64 0 ∧ e 15 = .int .i64 0 ∧ Fr [] w w') (fun e _ => 0) ?_ ?_
 ·simp (maxSteps:=9^7)(disch:=first|assumption|(simp only[dz];first|done|assumption|omega)|omega|apply_rules[Fr.refl,Fr.alloc,Fr.drew]|rfl) only [↓gsd,gs,gv,Nat.reduceAdd,Nat.reduceEqDiff, Int.natCast_zero]
  exact hf
 rintro e w2 kk ⟨e3, e14, e15, hf2⟩ hkk
 have cw2 := cur w2
 have d : decide ((0 : Int) < 0) = false := rfl
 simp (maxSteps:=9^7)(disch:=first|assumption|(simp only[dz];first|done|assumption|omega)|omega|apply_rules[Fr.refl,Fr.alloc,Fr.drew]|rfl) only [↓gd,gp,Nat.reduceAdd,Nat.reduceEqDiff, ↓hk68, e3, e14, e15, d]
 exact hK _ hf2
theorem all_spec' {w : World} {tb : Nat} {S : List Nat} {T : Tab} {K : Value → World → Prop} (h : TabAt w tb S T) (hk : ∀ k ∈ T.rows.map (·.1), k.size ≤ 32) (hn : T.rows.length ≤ 1000000000)
  (hB : (allE T (keysOf (T.rows.map (·.1)))).length ≤ 1700000000000)
  (hK : ∀ v w', Own 8 52 w' v (allE T (keysOf (T.rows.map (·.1)))).length (cellsOf encEnt (allE T (keysOf (T.rows.map (·.1))))) → (∀ g, v.ownBlock = some g → w.heap.size ≤ g) → Fr [] w w' → K v w') : CallsN Tryz.prog 68 [.pointer (some ⟨tb, 0, none⟩)] w K := by
 obtain ⟨⟨mb, h1, h2⟩, h3, h4⟩ := id h
 cases mb with
 | none =>
   have hne : T.rows = [] := h2
   have e0 : allE T (keysOf (T.rows.map (·.1))) = [] := by rw [hne]; simp [allE, keysOf, sortB]
   rw [e0] at hK
   exact all_empty h ⟨_, _, h1⟩ fun w' hf => hK _ _ Own.nil (fun g hg => by simp [Value.ownBlock] at hg) hf
 | some bm =>
   obtain ⟨es, hr⟩ := h2
   exact all_specM h1 hr h4 hk hn hB hK
def getE (l : Ents) (lo : Int) : Option Ent := match l[idxE l lo]? with
 | some e => if e.lo = lo then some e else none
 | none => none
theorem getE_has (l : Ents) (lo : Int) : (getE l lo).isSome = hasE l lo := by
 unfold getE hasE
 cases l[idxE l lo]? with
 | none => rfl
 | some e =>
   simp only
   by_cases h : e.lo = lo
   ·rw [if_pos h, decide_eq_true h]; rfl
   ·rw [if_neg h, decide_eq_false h]; rfl
set_option maxHeartbeats 4000000 in
theorem Get_spec {w : World} {tb : Nat} {S : List Nat} {T : Tab} {N : Nat} {k : ByteArray} {lo : Int} {K : Value → World → Prop} (h : TabAt w tb S T) (hwf : T.WF N) (hN : N ≤ 1000000000000)
  (hK : ∀ w', Fr [] w w' → K (.tuple ([.agg (encEnt ((getE (T.row k) lo).getD entZ)).toArray, .bool (hasE (T.row k) lo)] : List Value).toArray) w') : CallsN Tryz.prog 112 [.pointer (some ⟨tb, 0, none⟩), .string k, .int .i64 lo] w K := by
 have cw := cur w
 refine call112 ?_
 simp (maxSteps:=9^7)(disch:=first|assumption|(simp only[dz];first|done|assumption|omega)|omega|apply_rules[Fr.refl,Fr.alloc,Fr.drew]|rfl) only [↓gd,gp,Nat.reduceAdd,Nat.reduceEqDiff, ↓hk112]
 generalize hW : World.alloc w _ = w1
 have hf1 : Fr [] w w1 := by rw [← hW]; exact fr_
 have hz1 : w1.heap.size = w.heap.size + 1 := by rw [← hW]; simp only [gz]
 have g1 : w1.heap[w.heap.size]? = some (.cells (encEnt entZ).toArray 52 (0, 0)) := by rw [← hW]; exact get_alloc_new _ _
 clear hW
 have cw1 := cur w1
 refine find_spec (h.frN hf1) hwf hN fun w2 hf2 => ?_
 have cw2 := cur w2
 have g2 := hf2.getN g1
 have hl2 := lt_of_get _ _ g2
 have hll := hwf.len k
 cases hh : hasE (T.row k) lo with
 | false =>
   have hg : getE (T.row k) lo = none := by
    have := getE_has (T.row k) lo
    rw [hh] at this
    cases hq : getE (T.row k) lo with
    | none => rfl
    | some e => rw [hq] at this; cases this
   rw [hg, hh] at hK
   unfold encEnt at g2 hK
   simp (maxSteps:=9^7)(disch:=first|assumption|(simp only[dz];first|done|assumption|omega)|omega|apply_rules[Fr.refl,Fr.alloc,Fr.drew]|rfl) only [↓gd,gp,Nat.reduceAdd,Nat.reduceEqDiff, ↓hk112, hh, g2]
   exact hK _ ((hf1.trans' hf2).setB _ _ (.inr (Nat.le_refl _)))
 | true =>
   obtain ⟨x, hx, hxlo⟩ : ∃ x, (T.row k)[idxE (T.row k) lo]? = some x ∧ x.lo = lo := by
    unfold hasE at hh
    cases hx : (T.row k)[idxE (T.row k) lo]? with
    | none => rw [hx] at hh; cases hh
    | some x => rw [hx] at hh; exact ⟨x, rfl, by simpa using hh⟩
   have hg : getE (T.row k) lo = some x := by unfold getE; rw [hx]; simp only [hxlo, if_true]
   rw [hg, hh] at hK
   simp (maxSteps:=9^7)(disch:=first|assumption|(simp only[dz];first|done|assumption|omega)|omega|apply_rules[Fr.refl,Fr.alloc,Fr.drew]|rfl) only [↓gd,gp,Nat.reduceAdd,Nat.reduceEqDiff, ↓hk112, hh]
   refine row_spec ((h.frN hf1).frN hf2) fun v hv _ => ?_
   obtain ⟨bb, off, cap, ob, hv1, hob, hobl, hrow, _⟩ := (show SlOf 8 encEnt w2 v (T.row k) from hv.sl).read encEnt_len _ x hx
   have hil := (List.getElem?_eq_some_iff.1 hx).1
   have i0 : (0 : Int) ≤ (idxE (T.row k) lo : Int) := by omega
   have i1 : (idxE (T.row k) lo : Int) < ((T.row k).length : Int) := by omega
   unfold encEnt at g2 hK hrow
   simp (maxSteps:=9^7)(disch:=first|assumption|(simp only[dz];first|done|assumption|omega)|omega|apply_rules[Fr.refl,Fr.alloc,Fr.drew]|rfl) only [↓gd,gp,Nat.reduceAdd,Nat.reduceEqDiff, ↓hk112, hv1, i0, i1, Int.toNat_natCast, hob, hrow, g2]
   exact hK _ ((hf1.trans' hf2).setB _ _ (.inr (Nat.le_refl _)))
open Go.VW
def endE (e : Ent) (x : Int) : Int := if e.hi = 4611686018427387904 then x + 1 else e.hi
theorem goodE_facts {e : Ent} (h : goodE e = true) : e.key.size ≤ 32 ∧ e.data.size ≤ 256 ∧ 0 ≤ e.lo ∧ e.lo ≤ 1099511627776 ∧ e.lo < e.hi := by
 unfold goodE at h
 split at h
 ·cases h
 ·rename_i h1
  split at h
  ·cases h
  ·rename_i h2
   simp only [Bool.or_eq_true, decide_eq_true_eq, not_or, Bool.and_eq_true] at h h1 h2
   exact ⟨by omega, by omega, by omega, by omega, by omega⟩
theorem meets_plain {e : Ent} {x lo hi : Int} (hg : e.lo < e.hi ∧ 0 ≤ e.lo) (hx : 0 ≤ x) (hx2 : x ≤ 1099511627776) : meetsE e x lo hi = decide (max e.lo lo < min (endE e x) hi) := by
 have hk : knownE e x = spOf e.lo (endE e x) := by
  unfold knownE endE
  split
  ·rw [show behindI x = x + 1 by unfold behindI; omega]
  ·rfl
 unfold meetsE
 rw [hk]
 unfold spMts spMeet
 generalize endE e x = en
 unfold spOf
 by_cases h1 : en ≤ e.lo
 ·rw [if_pos h1]
  have e1 : spEmp (0, 0) = true := rfl
  rw [e1]
  simp; omega
 ·rw [if_neg h1]
  have e1 : spEmp (e.lo, en) = false := by unfold spEmp; simp; omega
  rw [e1]
  by_cases h2 : hi ≤ lo
  ·rw [if_pos h2]
   have e2 : spEmp (0, 0) = true := rfl
   rw [e2]
   simp; omega
  ·rw [if_neg h2]
   have e2 : spEmp (lo, hi) = false := by unfold spEmp; simp; omega
   rw [e2]
   simp only
   by_cases h3 : min en hi ≤ max e.lo lo
   ·rw [if_pos h3]
    have e3 : spEmp (0, 0) = true := rfl
    rw [e3]
    simp; omega
   ·rw [if_neg h3]
    have e3 : spEmp (max e.lo lo, min en hi) = false := by unfold spEmp; simp; omega
    rw [e3]
    simp; omega
def EntWF (T : Tab) : Prop := ∀ k, ∀ e ∈ T.row k, e.key = k ∧ goodE e = true
theorem mem_putE {l : Ents} {e x : Ent} (h : x ∈ putE l e) : x = e ∨ x ∈ l := by
 unfold putE insL at h
 rcases List.mem_append.1 h with h | h
 ·exact .inr ((delE_sub l e.lo).subset (List.take_subset _ _ h))
 ·rcases List.mem_cons.1 h with h | h
  ·exact .inl h
  ·exact .inr ((delE_sub l e.lo).subset (List.drop_subset _ _ h))
theorem EntWF.putR {T : Tab} (h : EntWF T) (hn : (T.rows.map (·.1)).Nodup) (e : Ent) : EntWF (T.putR e) := by
 unfold Tab.putR
 split
 ·rename_i hg
  intro k x hx
  rw [put_row hn] at hx
  split at hx
  ·rename_i hk
   rcases mem_putE hx with q | hx
   ·rw [q]; exact ⟨hk, hg⟩
   ·obtain ⟨a, b⟩ := h _ x hx
    exact ⟨a.trans hk, b⟩
  ·exact h k x hx
 ·exact h
theorem row_none {T : Tab} {k : ByteArray} (h : k ∉ T.rows.map (·.1)) : T.row k = [] := by
 unfold Tab.row
 cases hr : aget T.rows k with
 | none => rfl
 | some v => exact absurd ((mem_keys_aget _ k).2 ⟨v, hr⟩) h
def costN (e : Ent) : Nat := 32 + e.key.size + e.data.size
theorem costE_eq {e : Ent} (h : goodE e = true) : costE e = costN e := by
 obtain ⟨h1, h2, _⟩ := goodE_facts h
 unfold costE costN
 rw [wrap64 (a := 32 + (e.key.size : Int)) (by omega) (by omega), wrap64 (by omega) (by omega)]; omega
section
variable (f : Ent → Nat)
def sumE (l : Ents) : Nat := (l.map f).sum
def sumR (rows : List (ByteArray × Ents)) : Nat := (rows.map fun p => sumE f p.2).sum
theorem sumE_nil : sumE f [] = 0 := rfl
theorem sumE_cons (e : Ent) (l : Ents) : sumE f (e :: l) = f e + sumE f l := by simp [sumE]
theorem sumE_app (a b : Ents) : sumE f (a ++ b) = sumE f a + sumE f b := by simp [sumE]
theorem sumE_perm {a b : Ents} (h : a.Perm b) : sumE f a = sumE f b := (h.map f).sum_nat
theorem sumE_ins (l : Ents) (i : Nat) (e : Ent) : sumE f (insL l i e) = sumE f l + f e := by
 unfold insL
 rw [sumE_app, sumE_cons]
 have := congrArg (sumE f) (List.take_append_drop i l)
 rw [sumE_app] at this
 omega
theorem sumE_del {l : Ents} {i : Nat} {e : Ent} (h : l[i]? = some e) : sumE f (delL l i) + f e = sumE f l := by
 obtain ⟨g1, g2⟩ := List.getElem?_eq_some_iff.1 h
 unfold delL
 rw [sumE_app]
 have := congrArg (sumE f) (List.take_append_drop i l)
 rw [sumE_app, List.drop_eq_getElem_cons g1, sumE_cons, g2] at this
 omega
theorem sumR_aset (rows : List (ByteArray × Ents)) (k : ByteArray) (v : Ents) : sumR f (aset rows k v) + sumE f ((aget rows k).getD []) = sumR f rows + sumE f v := by
 induction rows with
 | nil => simp [aset, aget, sumR, sumE]
 | cons p r ih =>
   by_cases h : p.1 = k
   ·simp only [aset, aget, h, if_true, Option.getD_some]
    simp only [sumR, List.map_cons, List.sum_cons]; omega
   ·simp only [aset, aget, h, if_false]
    simp only [sumR, List.map_cons, List.sum_cons] at *; omega
theorem sumR_adel (rows : List (ByteArray × Ents)) (k : ByteArray) : sumR f (adel rows k) + sumE f ((aget rows k).getD []) = sumR f rows := by
 induction rows with
 | nil => simp [adel, aget, sumR, sumE]
 | cons p r ih =>
   by_cases h : p.1 = k
   ·simp only [adel, aget, h, if_true, Option.getD_some]
    simp only [sumR, List.map_cons, List.sum_cons]; omega
   ·simp only [adel, aget, h, if_false]
    simp only [sumR, List.map_cons, List.sum_cons] at *; omega
theorem getE_some {l : Ents} {lo : Int} {e : Ent} (h : getE l lo = some e) : l[idxE l lo]? = some e ∧ e.lo = lo := by
 unfold getE at h
 cases hx : l[idxE l lo]? with
 | none => rw [hx] at h; cases h
 | some x =>
   rw [hx] at h
   simp only at h
   split at h
   ·rename_i hlo; cases h; exact ⟨rfl, hlo⟩
   ·cases h
theorem getE_none {l : Ents} {lo : Int} (h : getE l lo = none) : hasE l lo = false := by
 have := getE_has l lo
 rw [h] at this
 exact this.symm
theorem drop_none {T : Tab} {k : ByteArray} {lo : Int} (h : getE (T.row k) lo = none) : T.drop k lo = T := by
 unfold Tab.drop
 unfold getE at h
 cases hx : (T.row k)[idxE (T.row k) lo]? with
 | none => rfl
 | some x =>
   rw [hx] at h
   simp only at h ⊢
   split at h
   ·cases h
   ·rename_i q; rw [if_neg q]
theorem drop_some {T : Tab} {k : ByteArray} {lo : Int} {e : Ent} (h : getE (T.row k) lo = some e) : T.drop k lo = ⟨if (T.row k).length = 1 then adel T.rows k else aset T.rows k (delL (T.row k) (idxE (T.row k) lo)), IntKind.i64.wrap (T.n - 1), IntKind.i64.wrap (T.bytes - costE e)⟩ := by
 obtain ⟨h1, h2⟩ := getE_some h
 unfold Tab.drop
 rw [h1]
 simp only [h2, if_true]
theorem sumR_drop {T : Tab} {k : ByteArray} {lo : Int} {e : Ent} (h : getE (T.row k) lo = some e) : sumR f (T.drop k lo).rows + f e = sumR f T.rows := by
 obtain ⟨h1, h2⟩ := getE_some h
 have hd := sumE_del f h1
 rw [drop_some h]
 simp only
 have hr : (aget T.rows k).getD [] = T.row k := rfl
 split
 ·rename_i hl
  have := sumR_adel f T.rows k
  rw [hr] at this
  have e0 : delL (T.row k) (idxE (T.row k) lo) = [] := by
   apply List.eq_nil_of_length_eq_zero
   have := (List.getElem?_eq_some_iff.1 h1).1
   unfold delL
   rw [List.length_append, List.length_take, List.length_drop]; omega
  rw [e0, sumE_nil] at hd
  omega
 ·have := sumR_aset f T.rows k (delL (T.row k) (idxE (T.row k) lo))
  rw [hr] at this
  omega
theorem sumR_put {T : Tab} {e : Ent} (hn : (T.rows.map (·.1)).Nodup) : sumR f (T.put e).rows = sumR f (T.drop e.key e.lo).rows + f e := by
 have h := sumR_aset f (T.drop e.key e.lo).rows e.key (insL (delE (T.row e.key) e.lo) (idxE (delE (T.row e.key) e.lo) e.lo) e)
 have hr : (aget (T.drop e.key e.lo).rows e.key).getD [] = delE (T.row e.key) e.lo := by
  have := drop_row (k := e.key) (lo := e.lo) hn e.key
  rwa [if_pos rfl] at this
 rw [hr, sumE_ins] at h
 show sumR f (aset (T.drop e.key e.lo).rows e.key _) = _
 omega
end
/-! All entries, in order. -/
def Tab.list (T : Tab) : Ents := allE T (keysOf (T.rows.map (·.1)))
theorem keysOf_perm (ks : List ByteArray) : (keysOf ks).Perm ks := by
 unfold keysOf sortB
 have h := (List.mergeSort_perm (ks.map bl) leB).map unbl
 rw [List.map_map] at h
 have e : ks.map (unbl ∘ bl) = ks := by
  rw [show unbl ∘ bl = id from funext unbl_bl, List.map_id]
 rwa [e] at h
theorem rows_flat {T : Tab} (hn : (T.rows.map (·.1)).Nodup) : (T.rows.map (·.1)).flatMap T.row = T.rows.flatMap (·.2) := by
 have key : ∀ rows : List (ByteArray × Ents), (∀ p ∈ rows, T.row p.1 = p.2) → (rows.map (·.1)).flatMap T.row = rows.flatMap (·.2) := by
  intro rows
  induction rows with
  | nil => intro _; rfl
  | cons p r ih =>
    intro h
    rw [List.map_cons, List.flatMap_cons, List.flatMap_cons, ih fun q hq => h q (List.mem_cons_of_mem _ hq), h p (List.mem_cons_self ..)]
 refine key T.rows fun p hp => ?_
 have : ∀ rows : List (ByteArray × Ents), (rows.map (·.1)).Nodup → p ∈ rows → aget rows p.1 = some p.2 := by
  intro rows
  induction rows with
  | nil => intro _ h; simp at h
  | cons q r ih =>
    intro hn h
    rw [List.map_cons, List.nodup_cons] at hn
    rcases List.mem_cons.1 h with rfl | h
    ·simp [aget]
    ·have : ¬ q.1 = p.1 := fun e => hn.1 (e ▸ List.mem_map.2 ⟨p, h, rfl⟩)
     simp only [aget, this, if_false]
     exact ih hn.2 h
 unfold Tab.row
 rw [this T.rows hn hp]; rfl
theorem list_perm {T : Tab} (hn : (T.rows.map (·.1)).Nodup) : T.list.Perm (T.rows.flatMap (·.2)) := by
 rw [← rows_flat hn]
 exact (keysOf_perm _).flatMap_right T.row
theorem sumE_flat (f : Ent → Nat) (rows : List (ByteArray × Ents)) : sumE f (rows.flatMap (·.2)) = sumR f rows := by
 induction rows with
 | nil => rfl
 | cons p r ih => rw [List.flatMap_cons, sumE_app, ih]; simp [sumR]
theorem sumE_list (f : Ent → Nat) {T : Tab} (hn : (T.rows.map (·.1)).Nodup) : sumE f T.list = sumR f T.rows := by
 rw [sumE_perm f (list_perm hn), sumE_flat]
theorem mem_list {T : Tab} {e : Ent} : e ∈ T.list ↔ ∃ k, e ∈ T.row k := by
 unfold Tab.list allE
 rw [List.mem_flatMap]
 constructor
 ·rintro ⟨k, _, h⟩; exact ⟨k, h⟩
 ·rintro ⟨k, h⟩
  refine ⟨k, (keysOf_mem _ _).2 (Classical.byContradiction fun q => ?_), h⟩
  rw [row_none q] at h; simp at h
theorem sumE_one (l : Ents) : sumE (fun _ => 1) l = l.length := by
 induction l with
 | nil => rfl
 | cons a l ih => rw [sumE_cons, ih, List.length_cons]; omega
theorem sumE_le {f g : Ent → Nat} {l : Ents} (h : ∀ e ∈ l, f e ≤ g e) : sumE f l ≤ sumE g l := by
 induction l with
 | nil => exact Nat.le_refl _
 | cons a l ih =>
   rw [sumE_cons, sumE_cons]
   have := h a (List.mem_cons_self ..)
   have := ih fun e he => h e (List.mem_cons_of_mem _ he)
   omega
theorem sumE_mul (c : Nat) (f : Ent → Nat) (l : Ents) : sumE (fun e => c * f e) l = c * sumE f l := by
 induction l with
 | nil => rfl
 | cons a l ih => rw [sumE_cons, sumE_cons, ih, Nat.mul_add]
theorem sumR_row (f : Ent → Nat) (T : Tab) (k : ByteArray) : sumE f (T.row k) ≤ sumR f T.rows := by
 have := sumR_adel f T.rows k
 show sumE f ((aget T.rows k).getD []) ≤ _
 omega
structure TOK (T : Tab) (B : Nat) : Prop where
 nd : (T.rows.map (·.1)).Nodup
 sort : ∀ k, SortE (T.row k)
 ent : EntWF T
 ne : ∀ p ∈ T.rows, p.2 ≠ []
 bytes : T.bytes = sumR costN T.rows
 le : sumR costN T.rows ≤ B
theorem TOK.mono {T : Tab} {B B' : Nat} (h : TOK T B) (hb : B ≤ B') : TOK T B' := ⟨h.nd, h.sort, h.ent, h.ne, h.bytes, Nat.le_trans h.le hb⟩
theorem TOK.row_len {T : Tab} {B : Nat} (h : TOK T B) (k : ByteArray) : 32 * (T.row k).length ≤ B := by
 have h1 := sumR_row costN T k
 have h2 : sumE (fun e => 32 * (fun _ => 1) e) (T.row k) ≤ sumE costN (T.row k) := sumE_le fun e _ => by simp only [costN]; omega
 rw [sumE_mul, sumE_one] at h2
 have := h.le
 omega
theorem TOK.wf {T : Tab} {B : Nat} (h : TOK T B) : T.WF B := ⟨h.sort, fun k => by have := h.row_len k; omega⟩
theorem TOK.list_len {T : Tab} {B : Nat} (h : TOK T B) : 32 * T.list.length ≤ B := by
 have h1 := sumE_list costN h.nd
 have h2 : sumE (fun e => 32 * (fun _ => 1) e) T.list ≤ sumE costN T.list := sumE_le fun e _ => by simp only [costN]; omega
 rw [sumE_mul, sumE_one] at h2
 have := h.le
 omega
theorem TOK.rows_len {T : Tab} {B : Nat} (h : TOK T B) : 32 * T.rows.length ≤ B := by
 have h1 := h.le
 have key : ∀ rows : List (ByteArray × Ents), (∀ p ∈ rows, p.2 ≠ []) → 32 * rows.length ≤ sumR costN rows := by
  intro rows
  induction rows with
  | nil => intro _; exact Nat.zero_le _
  | cons p r ih =>
    intro h
    have i1 := ih fun q hq => h q (List.mem_cons_of_mem _ hq)
    have i2 := h p (List.mem_cons_self ..)
    have : 32 ≤ sumE costN p.2 := by
     cases hp : p.2 with
     | nil => exact absurd hp i2
     | cons e l => rw [sumE_cons]; simp only [costN]; omega
    simp only [sumR, List.map_cons, List.sum_cons, List.length_cons] at *
    omega
 have := key T.rows h.ne
 omega
theorem aget_mem' {κ α : Type} [DecidableEq κ] : ∀ {l : List (κ × α)} {k : κ} {v : α}, aget l k = some v → (k, v) ∈ l
 | [], _, _, h => by simp [aget] at h
 | q :: r, k, v, h => by
   by_cases hq : q.1 = k
   ·simp only [aget, hq, if_true, Option.some.injEq] at h
    subst h; subst hq; exact List.mem_cons_self ..
   ·simp only [aget, hq, if_false] at h
    exact List.mem_cons_of_mem _ (aget_mem' h)
theorem TOK.keys {T : Tab} {B : Nat} (h : TOK T B) : ∀ k ∈ T.rows.map (·.1), k.size ≤ 32 := by
 intro k hk
 obtain ⟨v, hv⟩ := (mem_keys_aget T.rows k).1 hk
 have hne := h.ne _ (aget_mem' hv)
 have hr : T.row k = v := by unfold Tab.row; rw [hv]; rfl
 obtain ⟨e, he⟩ := List.exists_mem_of_ne_nil _ hne
 obtain ⟨h1, h2⟩ := h.ent k e (by rw [hr]; exact he)
 have := (goodE_facts h2).1
 rwa [h1] at this
theorem mem_aset {κ α : Type} [DecidableEq κ] {l : List (κ × α)} {k : κ} {v : α} {p : κ × α} (h : p ∈ aset l k v) : p = (k, v) ∨ p ∈ l := by
 induction l with
 | nil => simp [aset] at h; exact .inl h
 | cons q r ih =>
   by_cases hq : q.1 = k
   ·simp only [aset, hq, if_true] at h
    rcases List.mem_cons.1 h with h | h
    ·exact .inl h
    ·exact .inr (List.mem_cons_of_mem _ h)
   ·simp only [aset, hq, if_false] at h
    rcases List.mem_cons.1 h with h | h
    ·exact .inr (h ▸ List.mem_cons_self ..)
    ·exact (ih h).imp id (List.mem_cons_of_mem _)
theorem mem_adel {κ α : Type} [DecidableEq κ] {l : List (κ × α)} {k : κ} {p : κ × α} (h : p ∈ adel l k) : p ∈ l := by
 induction l with
 | nil => exact h
 | cons q r ih =>
   by_cases hq : q.1 = k
   ·simp only [adel, hq, if_true] at h; exact List.mem_cons_of_mem _ h
   ·simp only [adel, hq, if_false] at h
    rcases List.mem_cons.1 h with h | h
    ·exact h ▸ List.mem_cons_self ..
    ·exact List.mem_cons_of_mem _ (ih h)
theorem drop_mem {T : Tab} (hn : (T.rows.map (·.1)).Nodup) {k k' : ByteArray} {lo : Int} {e : Ent} (h : e ∈ (T.drop k lo).row k') : e ∈ T.row k' := by
 rw [drop_row hn] at h
 split at h
 ·rename_i q; rw [← q]; exact (delE_sub _ _).subset h
 ·exact h
theorem drop_nd {T : Tab} (hn : (T.rows.map (·.1)).Nodup) (k : ByteArray) (lo : Int) : ((T.drop k lo).rows.map (·.1)).Nodup := by
 cases h : getE (T.row k) lo with
 | none => rw [drop_none h]; exact hn
 | some e =>
   rw [drop_some h]
   simp only
   split
   ·exact nodup_adel _ _ hn
   ·exact nodup_aset _ _ _ hn
theorem TOK.drop {T : Tab} {B : Nat} (h : TOK T B) (hB : B ≤ 1000000000) (k : ByteArray) (lo : Int) : TOK (T.drop k lo) B ∧ ∀ e, getE (T.row k) lo = some e → sumR costN (T.drop k lo).rows + costN e = sumR costN T.rows := by
 have hs := fun e (he : getE (T.row k) lo = some e) => sumR_drop costN he
 refine ⟨?_, hs⟩
 have hnd := drop_nd h.nd k lo
 refine ⟨hnd, (h.wf.drop h.nd k lo).sort, fun k' e he => h.ent k' e (drop_mem h.nd he), ?_, ?_, ?_⟩
 ·cases q : getE (T.row k) lo with
  | none => rw [drop_none q]; exact h.ne
  | some e =>
    rw [drop_some q]
    simp only
    have hl := (List.getElem?_eq_some_iff.1 (getE_some q).1).1
    split
    ·exact fun p hp => h.ne p (mem_adel hp)
    ·rename_i h1
     intro p hp
     rcases mem_aset hp with rfl | hp
     ·intro e0
      have := congrArg List.length e0
      unfold delL at this
      rw [List.length_append, List.length_take, List.length_drop, List.length_nil] at this
      omega
     ·exact h.ne p hp
 ·cases q : getE (T.row k) lo with
  | none => rw [drop_none q]; exact h.bytes
  | some e =>
    have h1 := hs e q
    have hm : e ∈ T.row k := List.mem_of_getElem? (getE_some q).1
    have h2 := costE_eq (h.ent k e hm).2
    have h3 := h.bytes
    have h4 := h.le
    rw [show (T.drop k lo).bytes = IntKind.i64.wrap (T.bytes - costE e) by rw [drop_some q], wrap64 (by omega) (by omega)]
    omega
 ·cases q : getE (T.row k) lo with
  | none => rw [drop_none q]; exact h.le
  | some e => have h1 := hs e q; have := h.le; omega
theorem TOK.put {T : Tab} {B : Nat} (h : TOK T B) (hB : B ≤ 1000000000) {e : Ent} (hg : goodE e = true) (hc : sumR costN (T.drop e.key e.lo).rows + costN e ≤ B) : TOK (T.put e) B := by
 obtain ⟨hd, _⟩ := h.drop hB e.key e.lo
 have hsum := sumR_put costN (e := e) h.nd
 have hE : EntWF (T.put e) := by
  have := h.ent.putR h.nd e
  rwa [show T.putR e = T.put e by unfold Tab.putR; rw [if_pos hg]] at this
 refine ⟨nodup_aset _ _ _ hd.nd, (h.wf.put h.nd e).sort, hE, ?_, ?_, by omega⟩
 ·intro p hp
  rcases mem_aset hp with rfl | hp
  ·intro e0
   have := congrArg List.length e0
   simp only at this
   rw [insL_len] at this
   simp at this
  ·exact hd.ne p hp
 ·show IntKind.i64.wrap ((T.drop e.key e.lo).bytes + costE e) = _
  have h1 := hd.bytes
  have h2 := costE_eq hg
  rw [wrap64 (by omega) (by omega)]
  omega
theorem TOK.put_same {T : Tab} {B : Nat} (h : TOK T B) (hB : B ≤ 1000000000) {e e0 : Ent} (hg : goodE e = true) (h0 : getE (T.row e.key) e.lo = some e0) (hc : costN e = costN e0) : TOK (T.putR e) B := by
 rw [show T.putR e = T.put e by unfold Tab.putR; rw [if_pos hg]]
 have := (h.drop hB e.key e.lo).2 e0 h0
 have := h.le
 exact h.put hB hg (by omega)
theorem TOK.put_new {T : Tab} {B : Nat} (h : TOK T B) (hB : B ≤ 999999000) {e : Ent} (hg : goodE e = true) (h0 : getE (T.row e.key) e.lo = none) : TOK (T.putR e) (B + costN e) ∧ sumR costN (T.putR e).rows = sumR costN T.rows + costN e := by
 rw [show T.putR e = T.put e by unfold Tab.putR; rw [if_pos hg]]
 have hs := sumR_put costN (e := e) h.nd
 rw [drop_none h0] at hs
 have hcc : costN e ≤ 320 := by obtain ⟨a, b, _⟩ := goodE_facts hg; unfold costN; omega
 have := h.le
 exact ⟨(h.mono (by omega)).put (by omega) hg (by rw [drop_none h0]; omega), hs⟩
theorem sortE_uniq {l : Ents} (hs : SortE l) {x y : Ent} (hx : x ∈ l) (hy : y ∈ l) (h : x.lo = y.lo) : x = y := by
 obtain ⟨i, hi⟩ := List.getElem?_of_mem hx
 obtain ⟨j, hj⟩ := List.getElem?_of_mem hy
 obtain ⟨i1, i2⟩ := List.getElem?_eq_some_iff.1 hi
 obtain ⟨j1, j2⟩ := List.getElem?_eq_some_iff.1 hj
 rcases Nat.lt_trichotomy i j with q | q | q
 ·have := List.pairwise_iff_getElem.1 hs i j i1 j1 q
  rw [i2, j2] at this; omega
 ·subst q; rw [hi] at hj; cases hj; rfl
 ·have := List.pairwise_iff_getElem.1 hs j i j1 i1 q
  rw [i2, j2] at this; omega
theorem getE_iff {l : Ents} (hs : SortE l) {lo : Int} {x : Ent} : getE l lo = some x ↔ x ∈ l ∧ x.lo = lo := by
 constructor
 ·intro h
  obtain ⟨h1, h2⟩ := getE_some h
  exact ⟨List.mem_of_getElem? h1, h2⟩
 ·rintro ⟨hx, rfl⟩
  cases hg : getE l x.lo with
  | none =>
    exfalso
    obtain ⟨p1, p2⟩ := hasE_false hs (getE_none hg)
    have : x ∈ l.take (idxE l x.lo) ++ l.drop (idxE l x.lo) := by rw [List.take_append_drop]; exact hx
    rcases List.mem_append.1 this with q | q
    ·have := p1 x q; omega
    ·have := p2 x q; omega
  | some y =>
    obtain ⟨h1, h2⟩ := getE_some hg
    rw [sortE_uniq hs (List.mem_of_getElem? h1) hx h2]
theorem mem_delE {l : Ents} (hs : SortE l) {lo : Int} {x : Ent} : x ∈ delE l lo ↔ x ∈ l ∧ x.lo ≠ lo := by
 unfold delE
 split
 ·rename_i hh
  have hg : ∃ y, getE l lo = some y := by
   have := getE_has l lo
   rw [hh] at this
   exact Option.isSome_iff_exists.1 this
  obtain ⟨y, hy⟩ := hg
  obtain ⟨h1, h2⟩ := getE_some hy
  obtain ⟨g1, g2⟩ := List.getElem?_eq_some_iff.1 h1
  have hl : l = l.take (idxE l lo) ++ y :: l.drop (idxE l lo + 1) := by
   conv => { lhs; rw [← List.take_append_drop (idxE l lo) l, List.drop_eq_getElem_cons g1, g2] }
  have hn : x ∈ delL l (idxE l lo) ∨ x = y ↔ x ∈ l := by
   conv => { rhs; rw [hl] }
   unfold delL
   simp only [List.mem_append, List.mem_cons]
   constructor
   ·rintro ((q | q) | q)
    ·exact .inl q
    ·exact .inr (.inr q)
    ·exact .inr (.inl q)
   ·rintro (q | q | q)
    ·exact .inl (.inl q)
    ·exact .inr q
    ·exact .inl (.inr q)
  constructor
  ·intro hx
   have hxl := hn.1 (.inl hx)
   refine ⟨hxl, fun e => ?_⟩
   obtain rfl := sortE_uniq hs hxl (List.mem_of_getElem? h1) (e.trans h2.symm)
   have hs' := hs
   rw [hl] at hs'
   unfold SortE at hs'
   rw [List.pairwise_append, List.pairwise_cons] at hs'
   unfold delL at hx
   rcases List.mem_append.1 hx with q | q
   ·have := hs'.2.2 x q x (List.mem_cons_self ..); omega
   ·have := hs'.2.1.1 x q; omega
  ·rintro ⟨hx, hne⟩
   rcases hn.2 hx with q | q
   ·exact q
   ·exact absurd (q ▸ h2) hne
 ·rename_i hh
  refine ⟨fun hx => ⟨hx, fun e => hh ?_⟩, fun h => h.1⟩
  have := getE_has l lo
  rw [(getE_iff hs).2 ⟨hx, e⟩] at this
  exact this.symm
theorem mem_putE' {l : Ents} (hs : SortE l) {e x : Ent} : x ∈ putE l e ↔ x = e ∨ x ∈ l ∧ x.lo ≠ e.lo := by
 unfold putE insL
 rw [List.mem_append, List.mem_cons, ← mem_delE hs]
 have : x ∈ (delE l e.lo).take (idxE (delE l e.lo) e.lo) ++ (delE l e.lo).drop (idxE (delE l e.lo) e.lo) ↔ x ∈ delE l e.lo := by rw [List.take_append_drop]
 rw [List.mem_append] at this
 rw [← this]
 constructor
 ·rintro (q | q | q)
  ·exact .inr (.inl q)
  ·exact .inl q
  ·exact .inr (.inr q)
 ·rintro (q | q | q)
  ·exact .inr (.inl q)
  ·exact .inl q
  ·exact .inr (.inr q)
def Tab.at (T : Tab) (k : ByteArray) (lo : Int) : Option Ent := getE (T.row k) lo
theorem TOK.at_iff {T : Tab} {B : Nat} (h : TOK T B) {k : ByteArray} {lo : Int} {x : Ent} : T.at k lo = some x ↔ x ∈ T.row k ∧ x.lo = lo := getE_iff (h.sort k)
theorem TOK.at_list {T : Tab} {B : Nat} (h : TOK T B) {k : ByteArray} {lo : Int} {x : Ent} : T.at k lo = some x ↔ x ∈ T.list ∧ x.key = k ∧ x.lo = lo := by
 rw [h.at_iff, mem_list]
 constructor
 ·rintro ⟨h1, h2⟩; exact ⟨⟨k, h1⟩, (h.ent k x h1).1, h2⟩
 ·rintro ⟨⟨k', h1⟩, h2, h3⟩
  have := (h.ent k' x h1).1
  rw [this] at h2
  exact ⟨h2 ▸ h1, h3⟩
theorem at_put {T : Tab} {B : Nat} (h : TOK T B) {e : Ent} (hg : goodE e = true) {k : ByteArray} {lo : Int} (hs : SortE ((T.putR e).row k)) : (T.putR e).at k lo = if e.key = k ∧ e.lo = lo then some e else T.at k lo := by
 have hp : T.putR e = T.put e := by unfold Tab.putR; rw [if_pos hg]
 rw [hp] at hs ⊢
 have hm : ∀ x, x ∈ (T.put e).row k ↔ if e.key = k then x = e ∨ x ∈ T.row k ∧ x.lo ≠ e.lo else x ∈ T.row k := fun x => by
  rw [put_row h.nd]
  split
  ·rename_i q; rw [← q]; exact mem_putE' (h.sort _)
  ·exact Iff.rfl
 have key : ∀ x, (T.put e).at k lo = some x ↔ (if e.key = k ∧ e.lo = lo then some e else T.at k lo) = some x := fun x => by
  unfold Tab.at
  rw [getE_iff hs, hm]
  by_cases q1 : e.key = k
  ·by_cases q2 : e.lo = lo
   ·rw [if_pos q1, if_pos ⟨q1, q2⟩]
    simp only [Option.some.injEq]
    constructor
    ·rintro ⟨q | q, q'⟩
     ·exact q.symm
     ·exact absurd (q'.trans q2.symm) q.2
    ·rintro rfl; exact ⟨.inl rfl, q2⟩
   ·rw [if_pos q1, if_neg (fun q => q2 q.2), getE_iff (h.sort k)]
    constructor
    ·rintro ⟨q | q, q'⟩
     ·exact absurd (q ▸ q') q2
     ·exact ⟨q.1, q'⟩
    ·rintro ⟨q, q'⟩; exact ⟨.inr ⟨q, fun e' => q2 (e'.symm.trans q')⟩, q'⟩
  ·rw [if_neg q1, if_neg (fun q => q1 q.1), getE_iff (h.sort k)]
 cases hx : (if e.key = k ∧ e.lo = lo then some e else T.at k lo) with
 | some x => exact (key x).2 hx
 | none =>
   cases hy : (T.put e).at k lo with
   | none => rfl
   | some y => have := (key y).1 hy; rw [hx] at this; cases this
theorem at_drop {T : Tab} {B : Nat} (h : TOK T B) {k k' : ByteArray} {lo lo' : Int} : (T.drop k lo).at k' lo' = if k = k' ∧ lo = lo' then none else T.at k' lo' := by
 have hs : SortE ((T.drop k lo).row k') := (h.wf.drop h.nd k lo).sort k'
 have key : ∀ x, (T.drop k lo).at k' lo' = some x ↔ (if k = k' ∧ lo = lo' then none else T.at k' lo') = some x := fun x => by
  unfold Tab.at
  rw [getE_iff hs, drop_row h.nd]
  by_cases q1 : k = k'
  ·rw [if_pos q1, mem_delE (h.sort _)]
   by_cases q2 : lo = lo'
   ·rw [if_pos ⟨q1, q2⟩]
    simp only [reduceCtorEq, iff_false]
    rintro ⟨⟨_, q⟩, q'⟩
    exact q (q'.trans q2.symm)
   ·rw [if_neg (fun q => q2 q.2), getE_iff (h.sort k'), ← q1]
    constructor
    ·rintro ⟨⟨q, _⟩, q'⟩; exact ⟨q, q'⟩
    ·rintro ⟨q, q'⟩; exact ⟨⟨q, fun e => q2 (e.symm.trans q')⟩, q'⟩
  ·rw [if_neg q1, if_neg (fun q => q1 q.1), getE_iff (h.sort k')]
 cases hx : (if k = k' ∧ lo = lo' then none else T.at k' lo') with
 | some x => exact (key x).2 hx
 | none =>
   cases hy : (T.drop k lo).at k' lo' with
   | none => rfl
   | some y => have := (key y).1 hy; rw [hx] at this; cases this
end Go.Proofs.YtomlgkecckffeaaGreat
