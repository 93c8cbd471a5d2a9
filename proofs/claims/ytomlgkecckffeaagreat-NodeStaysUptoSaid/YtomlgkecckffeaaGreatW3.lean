/- A node: use. -/
import Derived.Test.YtomlgkecckffeaaGreatW2
set_option linter.unusedVariables false
set_option linter.unusedSimpArgs false
set_option maxRecDepth 10000
namespace Go.Proofs.YtomlgkecckffeaaGreat
open Go.VW
def cIns (v : Int) (e : Ent) : Nat := if e.ins = v then 1 else 0
def InsND (T : Tab) : Prop := ∀ v, sumR (cIns v) T.rows ≤ 1
theorem InsND.list {T : Tab} {B : Nat} (h : InsND T) (hT : TOK T B) : (T.list.map (·.ins)).Nodup := by
 have key : ∀ l : Ents, (∀ v, sumE (cIns v) l ≤ 1) → (l.map (·.ins)).Nodup := by
  intro l
  induction l with
  | nil => intro _; exact List.nodup_nil
  | cons a l ih =>
    intro hl
    rw [List.map_cons, List.nodup_cons]
    refine ⟨fun hm => ?_, ih fun v => by have := hl v; rw [sumE_cons] at this; omega⟩
    obtain ⟨b, hb, hab⟩ := List.mem_map.1 hm
    have h1 := hl a.ins
    rw [sumE_cons] at h1
    have h2 : 1 ≤ sumE (cIns a.ins) l := by
     obtain ⟨s, t, rfl⟩ := List.append_of_mem hb
     rw [sumE_app, sumE_cons]
     have : cIns a.ins b = 1 := if_pos hab
     omega
    have : cIns a.ins a = 1 := if_pos rfl
    omega
 refine key _ fun v => ?_
 rw [sumE_list _ hT.nd]
 exact h v
theorem ltI_le {l : Ents} {i j : Nat} (h1 : ltI oldE l i j = false) (h2 : ltI oldE l j i = false) : ((l[i]?).getD entZ).ins = ((l[j]?).getD entZ).ins := by
 unfold ltI oldE at h1 h2
 simp only [decide_eq_false_iff_not] at h1 h2
 omega
theorem old_uniq {l : Ents} (hn : (l.map (·.ins)).Nodup) {L : List Nat} (hp : L.Perm (List.range l.length)) (hs : SortL (ltI oldE l) L) : L = oldIdx l := by
 have hsw := ltI_sw oldE_sw l
 have h2 : (oldIdx l).Pairwise fun a b => (!ltI oldE l b a) = true := List.pairwise_mergeSort (fun a b c h1 h2 => by
  simp only [Bool.not_eq_true'] at *
  exact hsw.tr h1 h2) (fun a b => by
  cases q : ltI oldE l b a with
  | false => simp
  | true => rw [hsw.asym _ _ q]; simp) _
 have h2p : (oldIdx l).Perm (List.range l.length) := List.mergeSort_perm _ _
 refine List.Perm.eq_of_pairwise (le := fun a b => ltI oldE l b a = false) (fun i j hi hj q1 q2 => ?_) hs (h2.imp fun h => by simpa using h) (hp.trans h2p.symm)
 have hi' : i < l.length := by simpa using hp.mem_iff.1 hi
 have hj' : j < l.length := by simpa using h2p.mem_iff.1 hj
 have := ltI_le q1 q2
 rw [List.getElem?_eq_getElem hi', List.getElem?_eq_getElem hj'] at this
 simp only [Option.getD_some] at this
 rcases Nat.lt_trichotomy i j with q | q | q
 ·have := List.pairwise_iff_getElem.1 hn i j (by simpa using hi') (by simpa using hj') q
  simp at this; omega
 ·exact q
 ·have := List.pairwise_iff_getElem.1 hn j i (by simpa using hj') (by simpa using hi') q
  simp at this; omega
def LikeIn (T : Tab) (x : Ent) : Prop := ∃ y, T.at x.key x.lo = some y ∧ costN y = costN x
theorem TOK.putL {T : Tab} {B : Nat} (h : TOK T B) (hB : B ≤ 1000000000) {x : Ent} (hg : goodE x = true) (hx : LikeIn T x) (hot : Bool) (st : Int) : TOK (T.putR { x with hot := hot, stamp := st }) B ∧ ∀ z, LikeIn T z → LikeIn (T.putR { x with hot := hot, stamp := st }) z := by
 obtain ⟨y, h1, h2⟩ := hx
 have hg' : goodE { x with hot := hot, stamp := st } = true := hg
 have hk : TOK (T.putR { x with hot := hot, stamp := st }) B := h.put_same hB hg' h1 h2.symm
 refine ⟨hk, fun z ⟨u, hu, hc⟩ => ?_⟩
 unfold LikeIn
 rw [at_put h hg' (hk.sort _)]
 by_cases q : x.key = z.key ∧ x.lo = z.lo
 ·rw [if_pos q]
  refine ⟨_, rfl, ?_⟩
  show costN x = costN z
  rw [← hc, ← h2]
  rw [q.1, q.2] at h1
  rw [h1] at hu
  cases hu; rfl
 ·rw [if_neg q]; exact ⟨u, hu, hc⟩
theorem InsND.putL {T : Tab} {B : Nat} (h : InsND T) (hT : TOK T B) {x y : Ent} (hg : goodE x = true) (hy : T.at x.key x.lo = some y) (hi : y.ins = x.ins) : InsND (T.putR x) := by
 intro v
 have e : T.putR x = T.put x := by unfold Tab.putR; rw [if_pos hg]
 rw [e]
 have h1 := sumR_put (cIns v) (e := x) hT.nd
 have h2 := sumR_drop (cIns v) (T := T) (k := x.key) (lo := x.lo) hy
 have h3 := h v
 have : cIns v y = cIns v x := by unfold cIns; rw [hi]
 omega
theorem list_row {T : Tab} {B : Nat} (h : TOK T B) {x : Ent} (hx : x ∈ T.list) : T.at x.key x.lo = some x ∧ goodE x = true := by
 obtain ⟨k, hk⟩ := mem_list.1 hx
 have hh := h.ent k x hk
 exact ⟨h.at_list.2 ⟨hx, rfl, rfl⟩, hh.2⟩
theorem all_all {w : World} {tb : Nat} {S : List Nat} {T : Tab} {B : Nat} {K : Value → World → Prop} (h : TabAt w tb S T) (hT : TOK T B) (hB : B ≤ 1000000000)
  (hK : ∀ v w', SlOf 8 encEnt w' v T.list → Own 8 52 w' v T.list.length (cellsOf encEnt T.list) → (∀ g, v.ownBlock = some g → w.heap.size ≤ g) → Fr [] w w' → K v w') : CallsN Tryz.prog 68 [.pointer (some ⟨tb, 0, none⟩)] w K := by
 have h1 := hT.rows_len
 have h2 := hT.list_len
 exact all_spec' h hT.keys (by omega) (by show T.list.length ≤ _; omega) fun v w' ho hb hf => hK v w' ho.sl ho hb hf
theorem own_off {k n : Nat} {e : TypeId} {w : World} {v : Value} {cs : List Value} (h : Own k e w v n cs) : ∀ a m c, v = .slice (some a) m c → v.ownBlock = some a.block := by
 intro a m c hv
 rcases h.2 with ⟨rfl, _⟩ | ⟨g, cap, cur, rfl, _⟩
 ·cases hv
 ·cases hv; rfl
set_option maxHeartbeats 16000000 in
theorem use_spec {w : World} {a : Lay} {c : Cfg} {inc : Int} {M : Mem} {e : Ent} {B : Nat} {K : Value → World → Prop} (h : NodeAt w a c inc M) (hT : TOK M.T B) (hB : B ≤ 100000000) (hI : InsND M.T) (he : M.T.at e.key e.lo = some e) (hc : c.prot ≤ 1000000000)
  (hK : ∀ w' S', NodeAt w' { a with S := S' } c inc (M.use c e) → (∀ x ∈ S', x ∈ a.S ∨ w.heap.size ≤ x) → Fr a.all w w' → K (.tuple #[]) w') : CallsN Tryz.prog 81 [.pointer (some ⟨a.nb, 0, none⟩), .agg (encEnt e).toArray] w K := by
 have cw := cur w
 have hd := h.hd
 have hlt := h.lt
 have hel : e ∈ M.T.list := (hT.at_list.1 he).1
 have hgood : goodE e = true := (list_row hT hel).2
 have lnb := lt_of_get _ _ hd
 refine call81 ?_
 unfold encEnt
 simp (maxSteps:=9^7)(disch:=first|assumption|(simp only[dz];first|done|assumption|omega)|omega|apply_rules[Fr.refl,Fr.alloc,Fr.drew]|rfl) only [↓gd,gp,Nat.reduceAdd,Nat.reduceEqDiff, ↓hk81, hd]
 generalize hW : World.alloc w _ = w1
 have hf1 : Fr [] w w1 := by rw [← hW]; exact fr_
 have hz1 : w1.heap.size = w.heap.size + 1 := by rw [← hW]; simp only [gz]
 have ge1 : w1.heap[w.heap.size]? = some (.cells (encEnt e).toArray 52 (0, 0)) := by rw [← hW]; exact get_alloc_new _ _
 clear hW
 have cw1 := cur w1
 have h1 := h.frN hf1
 refine stamp_spec h1 fun w2 hf2 h2 => ?_
 have cw2 := cur w2
 have hz2 := hf2.size
 have s_mb : a.mb ∈ a.all := sub_all.2.2.1
 have hmbl := hlt a.mb s_mb
 have ge2 := hf2.get ge1 (by simp; omega)
 have l2 := lt_of_get _ _ ge2
 have hd2 := h2.hd
 have hm2 := h2.mm
 have lnb2 := lt_of_get _ _ hd2
 have lmb2 := lt_of_get _ _ hm2
 have aw := h.away (Nat.le_refl _)
 have hne1 : a.nb ≠ w.heap.size := fun q => by omega
 have hne2 : a.mb ≠ w.heap.size := fun q => by omega
 unfold encEnt at ge2
 simp (maxSteps:=9^7)(disch:=first|assumption|(simp only[dz];first|done|assumption|omega)|omega|apply_rules[Fr.refl,Fr.alloc,Fr.drew]|rfl) only [↓gd,gp,Nat.reduceAdd,Nat.reduceEqDiff, ↓hk81, ge2, hd2, hm2]
 generalize hW : World.setB w2 _ _ = w3
 have hf23 : Fr [w.heap.size] w2 w3 := by rw [← hW]; exact fr_
 clear hW
 have cw3 := cur w3
 have hz3 := hf23.size
 have h3 := h2.frA hf23 (fun g hg => by simp at hg; subst hg; exact aw)
 have hF3 : Fr a.all w w3 := (Fr.trans (M' := [a.mb]) (Fr.trans (M' := []) (Fr.refl a.all w) hf1 (by simp)) hf2 (fun x hx => by simp at hx; subst hx; exact .inl s_mb)).trans hf23 (fun x hx => by simp at hx; subst hx; exact .inr (Nat.le_refl _))
 have h3d := h3.frN (w' := w3.drew) fr_
 have hlik : LikeIn M.T e := ⟨e, he, rfl⟩
 obtain ⟨hT1, hL1⟩ := hT.putL (by omega) hgood hlik true (wr1 M.stamps)
 refine put_spec (e := { e with hot := true, stamp := wr1 M.stamps }) h3d.tab hT.wf (by omega) fun w4 S4 ht4 hs4 hn4 hf4 => ?_
 have cw4 := cur w4
 have hz4 := hf4.size
 rw [size_drew] at hz4
 have h4 : NodeAt w4 { a with S := S4 } c inc (M.putS e true) := h3d.tabS ht4 hn4 hf4
 have hn4' : ∀ x ∈ S4, x ∈ a.S ∨ w.heap.size ≤ x := fun x hx => (hn4 x hx).imp id fun q => by rw [size_drew] at q; omega
 have hF4 : Fr a.all w w4 := (hF3.trans' (fr_ : Fr [] w3 w3.drew)).trans hf4 fun x hx => .inl (sub_all.1 x hx)
 have hT1 : TOK (M.putS e true).T B := hT1
 have hI1 : InsND (M.putS e true).T := hI.putL hT (x := { e with hot := true, stamp := wr1 M.stamps }) hgood he rfl
 have hd4 := h4.hd
 have hm4 := h4.mm
 simp only at hd4 hm4
 have lnb4 := lt_of_get _ _ hd4
 simp (maxSteps:=9^7)(disch:=first|assumption|(simp only[dz];first|done|assumption|omega)|omega|apply_rules[Fr.refl,Fr.alloc,Fr.drew]|rfl) only [↓gd,gp,Nat.reduceAdd,Nat.reduceEqDiff, ↓hk81, hd4, hm4]
 refine all_all h4.tab hT1 (by omega) fun v5 w5 hv5 ho5 hb5 hf5 => ?_
 have cw5 := cur w5
 have hz5 := hf5.size
 have h5 := h4.frN hf5
 have hd5 := h5.hd
 simp only at hd5
 have hll := hT1.list_len
 have hall : ∀ x ∈ (M.putS e true).T.list, goodE x = true ∧ LikeIn (M.putS e true).T x := fun x hx => by
  obtain ⟨q1, q2⟩ := list_row hT1 hx
  exact ⟨q2, x, q1, rfl⟩
 have hne0 : 0 < (M.putS e true).T.list.length := by
  refine List.length_pos_of_mem (a := { e with hot := true, stamp := wr1 M.stamps }) ?_
  refine (hT1.at_list (k := e.key) (lo := e.lo)).1 ?_ |>.1
  have := at_put hT (e := { e with hot := true, stamp := wr1 M.stamps }) (k := e.key) (lo := e.lo) hgood (hT1.sort _)
  rw [if_pos ⟨rfl, rfl⟩] at this
  exact this
 have hnd := hI1.list hT1
 generalize hA : (M.putS e true).T.list = all at hv5 ho5 hll hall hne0 hnd
 obtain ⟨v5a, v5c, hv5f⟩ := hv5.form
 simp (maxSteps:=9^7)(disch:=first|assumption|(simp only[dz];first|done|assumption|omega)|omega|apply_rules[Fr.refl,Fr.alloc,Fr.drew]|rfl) only [↓gd,gp,Nat.reduceAdd,Nat.reduceEqDiff, ↓hk81, hd5]
 have hoff5 : ∀ x n cc, v5 = .slice (some x) n cc → w4.heap.size ≤ x.block ∧ x.block < w5.heap.size := fun x n cc q => by
  have := own_off ho5 x n cc q
  exact ⟨hb5 _ this, ho5.lt this⟩
 refine demote_spec hv5 hne0 (by omega) (fun x n cc q => (hoff5 x n cc q).2) hc fun w6 L6 v6 hf6 hp6 hs6 hsl6 hb6 => ?_
 have cw6 := cur w6
 have hz6 := hf6.size
 rw [old_uniq hnd hp6 hs6] at hsl6
 have hD : ((oldIdx all).filter (hotI all)).take (demN c.prot ((oldIdx all).filter (hotI all)).length) = demL all c.prot := rfl
 rw [hD] at hsl6
 have hK' : ∀ w' S', NodeAt w' { a with S := S' } c inc ((demL all c.prot).foldl (demStep all) (M.putS e true)) → (∀ x ∈ S', x ∈ a.S ∨ w.heap.size ≤ x) → Fr a.all w w' → K (.tuple #[]) w' := fun w' S' q1 q2 q3 => hK w' S' (by unfold Mem.use; rw [hA]; exact q1) q2 q3
 have hDlt : ∀ i ∈ demL all c.prot, i < all.length := fun i hi => by
  have h1 := List.mem_of_mem_take hi
  have h2 := (List.mem_filter.1 h1).1
  have h3 : i ∈ List.range all.length := (List.mergeSort_perm _ _).mem_iff.1 h2
  simpa using h3
 have hDlen : (demL all c.prot).length ≤ all.length := by
  unfold demL
  refine Nat.le_trans (List.length_take_le' _ _) (Nat.le_trans (List.length_filter_le _ _) ?_)
  unfold oldIdx
  rw [List.length_mergeSort, List.length_range]; exact Nat.le_refl _
 clear hD hK
 generalize demL all c.prot = D at hsl6 hK' hDlt hDlen
 obtain ⟨v6a, v6c, hv6f⟩ := hsl6.form
 simp (maxSteps:=9^7)(disch:=first|assumption|(simp only[dz];first|done|assumption|omega)|omega|apply_rules[Fr.refl,Fr.alloc,Fr.drew]|rfl) only [↓gd,gp,Nat.reduceAdd,Nat.reduceEqDiff, ↓hk81, hv6f]
 rw [← hv6f]
 have hbase : NodeAt w6 { a with S := S4 } c inc (M.putS e true) := h5.frN hf6
 have haw5 : ∀ x n cc, v5 = .slice (some x) n cc → Away x.block { a with S := S4 } (M.putS e true).g.ws ∧ x.block < w6.heap.size := fun x n cc q => ⟨h4.away (hoff5 x n cc q).1, by have := (hoff5 x n cc q).2; omega⟩
 refine for_intro D.length 40 0 (fun i e' w' => ∃ Sj, e' 0 = .pointer (some ⟨a.nb, 0, none⟩) ∧ e' 4 = v5 ∧ e' 38 = v6 ∧ e' 39 = .int .i64 D.length ∧ NodeAt w' { a with S := Sj } c inc ((D.take i).foldl (demStep all) (M.putS e true)) ∧ TOK ((D.take i).foldl (demStep all) (M.putS e true)).T B ∧
  (∀ x ∈ all, LikeIn ((D.take i).foldl (demStep all) (M.putS e true)).T x) ∧ (∀ x ∈ Sj, x ∈ S4 ∨ w6.heap.size ≤ x) ∧ SlOf 8 encEnt w' v5 all ∧ SlOf 1 encN w' v6 D ∧ w6.heap.size ≤ w'.heap.size ∧ Fr a.all w w') ?_ (Nat.zero_le _) ?_ ?_
 ·simp (maxSteps:=9^7)(disch:=first|assumption|(simp only[dz];first|done|assumption|omega)|omega|apply_rules[Fr.refl,Fr.alloc,Fr.drew]|rfl) only [↓gsd,gs,gv,Nat.reduceAdd,Nat.reduceEqDiff, Int.natCast_zero]
 ·refine ⟨S4, ?_⟩
  simp (maxSteps:=9^7)(disch:=first|assumption|(simp only[dz];first|done|assumption|omega)|omega|apply_rules[Fr.refl,Fr.alloc,Fr.drew]|rfl) only [↓gsd,gs,gv,Nat.reduceAdd,Nat.reduceEqDiff, hv6f]
  rw [← hv6f]
  exact ⟨hbase, hT1, fun x hx => (hall x hx).2, fun x hx => .inl hx, hv5.frN hf6, hsl6, Nat.le_refl _, (hF4.trans' hf5).trans' hf6⟩
 rintro i e' w7 kk hi eS ⟨Sj, e0, e4, e38, e39, h7, hT7, hL7, hS7, hv57, hv67, hz7, hF7⟩ hkk
 have cw7 := cur w7
 have haw6 : ∃ b m cap, v6 = rowV b m cap ∧ Away b { a with S := S4 } (M.putS e true).g.ws ∧ b < w6.heap.size := by
  obtain ⟨b, m, cap, q1, q2, q3⟩ := hb6
  exact ⟨b, m, cap, q1, h5.away q2, q3⟩
 by_cases hil : i < D.length
 ·have d1 : decide ((i : Int) < (D.length : Int)) = true := decide_eq_true (by omega)
  obtain ⟨x, hx⟩ : ∃ x, D[i]? = some x := ⟨D[i], List.getElem?_eq_getElem hil⟩
  have hxl := hDlt x (List.mem_of_getElem? hx)
  obtain ⟨y, hy⟩ : ∃ y, all[x]? = some y := ⟨all[x], List.getElem?_eq_getElem hxl⟩
  have hym := List.mem_of_getElem? hy
  obtain ⟨b1, o1, p1, ob1, hv1, hb1, hbl1, _, hc1⟩ := hv67.read (fun _ => rfl) i x hx
  have q1 := fun orig K => hc1 0 (.int .i64 x) orig K rfl
  simp only [Nat.add_zero, Nat.mul_one] at q1
  obtain ⟨b2, o2, p2, ob2, hv2, hb2, hbl2, hr2, _⟩ := hv57.read encEnt_len x y hy
  have i0 : (0 : Int) ≤ (i : Int) := by omega
  have i1 : (i : Int) < (D.length : Int) := by omega
  have x0 : (0 : Int) ≤ (x : Int) := by omega
  have x1 : (x : Int) < (all.length : Int) := by omega
  have wi : IntKind.i64.wrap ((i : Int) + 1) = (i : Int) + 1 := wrap64 (by omega) (by omega)
  have hd7 := h7.hd
  simp only at hd7
  have lnb7 := lt_of_get _ _ hd7
  unfold encEnt at hr2
  simp (maxSteps:=9^7)(disch:=first|assumption|(simp only[dz];first|done|assumption|omega)|omega|apply_rules[Fr.refl,Fr.alloc,Fr.drew]|rfl) only [↓gd,gp,Nat.reduceAdd,Nat.reduceEqDiff, ↓hk81, e0, e4, e38, e39, eS, hv1, hv2, d1, i0, i1, x0, x1, Int.toNat_natCast, Nat.mul_one, hb1, q1, hb2, hr2, hd7]
  generalize hW : World.alloc w7 _ = w8
  have hf8 : Fr [] w7 w8 := by rw [← hW]; exact fr_
  have hz8 : w8.heap.size = w7.heap.size + 1 := by rw [← hW]; simp only [gz]
  have ge8 : w8.heap[w7.heap.size]? = some (.cells (encEnt y).toArray 52 (0, 0)) := by rw [← hW]; exact get_alloc_new _ _
  clear hW
  have cw8 := cur w8
  have aw7 := h7.away (Nat.le_refl _)
  have l7 : ∀ z ∈ Lay.all { a with S := Sj }, z < w7.heap.size := h7.lt
  have s_mb7 : a.mb < w7.heap.size := l7 a.mb (by unfold Lay.all Lay.fix; simp)
  refine stamp_spec (a := { a with S := Sj }) (h7.frN hf8) fun w9 hf9 h9 => ?_
  have cw9 := cur w9
  have hz9 := hf9.size
  have ge9 := hf9.get ge8 (by simp; omega)
  have l9 := lt_of_get _ _ ge9
  have hd9 := h9.hd
  have hm9 := h9.mm
  simp only at hd9 hm9
  have lnb9 := lt_of_get _ _ hd9
  have lmb9 := lt_of_get _ _ hm9
  have hne1 : a.nb ≠ w7.heap.size := fun q => by omega
  have hne2 : a.mb ≠ w7.heap.size := fun q => by omega
  unfold encEnt at ge9
  simp (maxSteps:=9^7)(disch:=first|assumption|(simp only[dz];first|done|assumption|omega)|omega|apply_rules[Fr.refl,Fr.alloc,Fr.drew]|rfl) only [↓gd,gp,Nat.reduceAdd,Nat.reduceEqDiff, ↓hk81, e0, e4, e38, e39, eS, ge9, hd9, hm9]
  generalize hW : World.setB w9 _ _ = w10
  have hf10 : Fr [w7.heap.size] w9 w10 := by rw [← hW]; exact fr_
  clear hW
  have cw10 := cur w10
  have hz10 := hf10.size
  have h10 := h9.frA hf10 (fun g hg => by simp at hg; subst hg; exact aw7)
  have h10d := h10.frN (w' := w10.drew) fr_
  obtain ⟨hTn, hLn⟩ := hT7.putL (by omega) (hall y hym).1 (hL7 y hym) false (wr1 ((D.take i).foldl (demStep all) (M.putS e true)).stamps)
  refine put_spec (e := { y with hot := false, stamp := wr1 ((D.take i).foldl (demStep all) (M.putS e true)).stamps }) h10d.tab hT7.wf (by omega) fun w11 S11 ht11 hs11 hn11 hf11 => ?_
  have cw11 := cur w11
  have hz11 := hf11.size
  rw [size_drew] at hz11
  have h11 : NodeAt w11 { a with S := S11 } c inc (((D.take i).foldl (demStep all) (M.putS e true)).putS y false) := h10d.tabS ht11 hn11 hf11
  have hfold : (D.take (i + 1)).foldl (demStep all) (M.putS e true) = ((D.take i).foldl (demStep all) (M.putS e true)).putS y false := by
   rw [List.take_add_one, hx, List.foldl_append]
   show demStep all _ x = _
   unfold demStep
   rw [hy]; rfl
  have hX : Fr (a.mb :: w7.heap.size :: Sj) w7 w11 := ((Fr.trans (M' := []) (Fr.refl (a.mb :: w7.heap.size :: Sj) w7) hf8 (by simp)).trans hf9 (fun z hz => by simp at hz; subst hz; exact .inl (by simp))).trans hf10 (fun z hz => by simp at hz; subst hz; exact .inl (by simp)) |>.trans' (fr_ : Fr [] w10 w10.drew) |>.trans hf11 fun z hz => .inl (by simp [show z ∈ Sj from hz])
  have hoffL : ∀ g, Away g { a with S := S4 } (M.putS e true).g.ws → g < w6.heap.size → ∀ z ∈ a.mb :: w7.heap.size :: Sj, g ≠ z := by
   intro g hg hgl z hz hgz
   subst hgz
   simp only [List.mem_cons] at hz
   rcases hz with q | q | q
   ·exact hg.1 (by rw [q]; unfold Lay.all Lay.fix; simp)
   ·omega
   ·rcases hS7 _ q with q | q
    ·exact hg.1 (by unfold Lay.all; exact List.mem_append_right _ q)
    ·omega
  have hv511 : SlOf 8 encEnt w11 v5 all := hv57.fr hX fun z hz x' n cc q => hoffL _ (haw5 x' n cc q).1 (haw5 x' n cc q).2 z hz
  have hv611 : SlOf 1 encN w11 v6 D := by
   obtain ⟨b, m, cap, rfl, r2, r3⟩ := haw6
   exact hv67.fr hX fun z hz x' n cc q => by
    simp only [Value.slice.injEq, Option.some.injEq] at q
    rw [← q.1]
    exact hoffL b r2 r3 z hz
  have hS11 : ∀ z ∈ S11, z ∈ S4 ∨ w6.heap.size ≤ z := fun z hz => by
   rcases hn11 z hz with q | q
   ·exact hS7 z q
   ·rw [size_drew] at q; exact .inr (by omega)
  have hF11 : Fr a.all w w11 := hF7.trans hX fun z hz => by
   simp only [List.mem_cons] at hz
   rcases hz with rfl | rfl | q
   ·exact .inl s_mb
   ·exact .inr (by omega)
   ·rcases hS7 z q with q | q
    ·exact (hn4' z q).imp (fun q => sub_all.1 z q) id
    ·exact .inr (by omega)
  simp (maxSteps:=9^7)(disch:=first|assumption|(simp only[dz];first|done|assumption|omega)|omega|apply_rules[Fr.refl,Fr.alloc,Fr.drew]|rfl) only [↓gd,gp,Nat.reduceAdd,Nat.reduceEqDiff, ↓hk81, e0, e4, e38, e39, eS, wi]
  refine hkk _ _ hil rfl ⟨S11, ?_⟩
  rw [hfold]
  simp (maxSteps:=9^7)(disch:=first|assumption|(simp only[dz];first|done|assumption|omega)|omega|apply_rules[Fr.refl,Fr.alloc,Fr.drew]|rfl) only [↓gsd,gs,gv,Nat.reduceAdd,Nat.reduceEqDiff, e0, e4, e38, e39]
  exact ⟨h11, hTn, fun z hz => hLn z (hL7 z hz), hS11, hv511, hv611, by omega, hF11⟩
 ·have d1 : decide ((i : Int) < (D.length : Int)) = false := decide_eq_false (by omega)
  rw [List.take_of_length_le (by omega)] at h7
  simp (maxSteps:=9^7)(disch:=first|assumption|(simp only[dz];first|done|assumption|omega)|omega|apply_rules[Fr.refl,Fr.alloc,Fr.drew]|rfl) only [↓gd,gp,Nat.reduceAdd,Nat.reduceEqDiff, ↓hk81, e0, e4, e38, e39, eS, d1]
  exact hK' w7 Sj h7 (fun x hx => (hS7 x hx).elim (fun q => hn4' x q) fun q => .inr (by omega)) hF7
end Go.Proofs.YtomlgkecckffeaaGreat
