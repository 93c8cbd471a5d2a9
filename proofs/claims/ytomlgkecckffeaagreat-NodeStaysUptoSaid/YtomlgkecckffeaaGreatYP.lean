/- NodeStays: what the truth says; the one entry. What a node's table never gets more of: rows, hot entries. NodeStays: a record in order, the fill, a look. -/
import Derived.Test.YtomlgkecckffeaaGreatYN
import Derived.Test.YtomlgkecckffeaaGreatXA
set_option linter.unusedVariables false
set_option linter.unusedSimpArgs false
set_option maxRecDepth 10000
namespace Go.Proofs.YtomlgkecckffeaaGreat
open Go.VW
structure Open0 (key : ByteArray) (i : Nat) (f : Ent) : Prop where
 key : f.key = key
 hi : f.hi = openI
 lo0 : 0 ≤ f.lo
 lo1 : f.lo ≤ i
 none : f.has = false → f.data = ⟨#[]⟩
 size : f.data.size ≤ 1
theorem truth_open {past : List (List ByteArray)} {key : ByteArray} {c : Int} : ∀ {i : Nat}, (i : Int) ≤ c → Open0 key i (truthTo past key c i)
 | 0, _ => ⟨rfl, rfl, Int.le_refl _, Int.le_refl _, fun _ => rfl, Nat.zero_le _⟩
 | i + 1, hi => by
   have h := truth_open (past := past) (key := key) (c := c) (i := i) (by omega)
   have key' : ∀ (ks : List ByteArray) (f : Ent), Open0 key (i + 1) f → Open0 key (i + 1) (ks.foldl (truthK key c i) f) := by
    intro ks
    induction ks with
    | nil => intro f hf; exact hf
    | cons k ks ih =>
      intro f hf
      refine ih _ ?_
      unfold truthK
      split
      ·exact hf
      ·rw [if_pos (by omega)]
       exact ⟨hf.key, hf.hi, by show (0 : Int) ≤ (i : Int) + 1; omega, by show (i : Int) + 1 ≤ ((i + 1 : Nat) : Int); omega, fun q => (by cases q), Nat.le_refl 1⟩
   exact key' _ _ ⟨h.key, h.hi, h.lo0, by have := h.lo1; omega, h.none, h.size⟩
theorem truthK_closed {key : ByteArray} {c : Int} {i : Nat} {f : Ent} {k : ByteArray} (h : f.hi ≠ openI) : (truthK key c i f k).hi ≠ openI := by
 unfold truthK
 by_cases q1 : k ≠ key
 ·rw [if_pos q1]; exact h
 rw [if_neg q1]
 by_cases q2 : (i : Int) < c
 ·rw [if_pos q2]; exact h
 rw [if_neg q2, if_neg h]
 exact h
theorem truthF_closed {key : ByteArray} {c : Int} {i : Nat} : ∀ (ks : List ByteArray) {f : Ent}, f.hi ≠ openI → (ks.foldl (truthK key c i) f).hi ≠ openI
 | [], _, h => h
 | k :: ks, f, h => truthF_closed ks (truthK_closed h)
theorem truthF_hit {key : ByteArray} {c : Int} {i : Nat} (hc : ¬ (i : Int) < c) (hi : i ≤ 2000000) : ∀ (ks : List ByteArray) {f : Ent}, key ∈ ks → (ks.foldl (truthK key c i) f).hi ≠ openI
 | k :: ks, f, h => by
   rw [List.foldl_cons]
   by_cases q : k = key
   ·refine truthF_closed ks ?_
    unfold truthK
    rw [if_neg (fun q' => q' q), if_neg hc]
    by_cases q2 : f.hi = openI
    ·rw [if_pos q2]
     show (i : Int) + 1 ≠ 4611686018427387904
     omega
    ·rw [if_neg q2]; exact q2
   ·exact truthF_hit hc hi ks ((List.mem_cons.1 h).resolve_left fun e => q e.symm)
theorem truth_absent {past : List (List ByteArray)} {key : ByteArray} {c : Int} : ∀ {i : Nat}, i ≤ 2000000 → (truthTo past key c i).hi = openI → ∀ (j : Nat) ks, c ≤ (j : Int) → j < i → past[j]? = some ks → ∀ k ∈ ks, k ≠ key
 | 0, _, _, j, ks, _, h, _ => by omega
 | i + 1, hb, h, j, ks, hcj, hji, hks => by
   have e : truthTo past key c (i + 1) = ((past[i]?).getD []).foldl (truthK key c i) (truthTo past key c i) := rfl
   rw [e] at h
   by_cases q : j = i
   ·subst q
    rw [hks] at h
    intro k hk q'
    subst q'
    exact truthF_hit (by omega) (by omega) ks hk h
   ·refine truth_absent (past := past) (key := key) (c := c) (i := i) (by omega) ?_ j ks hcj (by omega) hks
    apply Classical.byContradiction
    intro hn
    exact truthF_closed (key := key) (c := c) (i := i) ((past[i]?).getD []) hn h
theorem open_good {key : ByteArray} {i : Nat} {f : Ent} (h : Open0 key i f) (h1 : 1 ≤ key.size) (h2 : key.size ≤ 32) (hi : i ≤ 2000000) : goodE f = true := by
 obtain ⟨e1, e2, e3, e4, e5, e6⟩ := h
 unfold goodE
 rw [e1, e2]
 have n1 : decide (key = (⟨#[]⟩ : ByteArray)) = false := decide_eq_false fun e => by rw [e] at h1; exact absurd h1 (by decide)
 have n2 : decide ((32 : Int) < (key.size : Int)) = false := decide_eq_false (by omega)
 have n3 : decide ((256 : Int) < (f.data.size : Int)) = false := decide_eq_false (by omega)
 have n4 : (!f.has && !decide (f.data = (⟨#[]⟩ : ByteArray))) = false := by
  cases hh : f.has with
  | true => rfl
  | false => rw [e5 hh]; rfl
 have n5 : decide ((0 : Int) ≤ f.lo) = true := decide_eq_true e3
 have n6 : decide (f.lo ≤ (1099511627776 : Int)) = true := decide_eq_true (by omega)
 have n7 : decide (f.lo < (4611686018427387904 : Int)) = true := decide_eq_true (by omega)
 rw [n1, n2, n3, n4, n5, n6]
 simp only [Bool.or_self, Bool.false_eq_true, if_false, Bool.true_and]
 rw [show (openI : Int) = 4611686018427387904 from rfl, n7]
 rfl
structure FactEq (e f : Ent) : Prop where
 key : e.key = f.key
 has : e.has = f.has
 data : e.data = f.data
 lo : e.lo = f.lo
 hi : e.hi = f.hi
def One (T : Tab) (f : Ent) : Prop := (∃ e, T.row f.key = [e] ∧ FactEq e f) ∧ ∀ k, k ≠ f.key → T.row k = []
theorem putE_one {x y : Ent} (h : y.lo = x.lo) : putE [y] x = [x] := by
 have hi : idxE [y] x.lo = 0 := by
  unfold idxE
  rw [List.takeWhile_cons]
  have : decide (y.lo < x.lo) = false := decide_eq_false (by omega)
  rw [this]; rfl
 have hh : hasE [y] x.lo = true := by
  unfold hasE
  rw [hi]
  exact decide_eq_true h
 have hd : delE [y] x.lo = [] := by
  unfold delE
  rw [if_pos hh, hi]; rfl
 unfold putE
 rw [hd]; rfl
theorem One.put {T : Tab} {B : Nat} (h : TOK T B) {f x : Ent} (ho : One T f) (hx : FactEq x f) (hg : goodE x = true) (hot : Bool) (st : Int) : One (T.putR { x with hot := hot, stamp := st }) f := by
 obtain ⟨⟨e, he, hf⟩, hn⟩ := ho
 have hp : T.putR { x with hot := hot, stamp := st } = T.put { x with hot := hot, stamp := st } := by unfold Tab.putR; exact if_pos hg
 rw [hp]
 refine ⟨⟨{ x with hot := hot, stamp := st }, ?_, hx.key, hx.has, hx.data, hx.lo, hx.hi⟩, fun k hk => ?_⟩
 ·rw [put_row h.nd]
  show (if x.key = f.key then _ else _) = _
  rw [if_pos hx.key]
  show putE (T.row x.key) _ = _
  rw [hx.key, he]
  exact putE_one (hf.lo.trans hx.lo.symm)
 ·rw [put_row h.nd]
  show (if x.key = k then _ else _) = _
  rw [if_neg (fun q => hk (q.symm.trans hx.key))]
  exact hn k hk
theorem One.mem {T : Tab} {f : Ent} (ho : One T f) {x : Ent} (hx : x ∈ T.list) : FactEq x f := by
 obtain ⟨⟨e, he, hf⟩, hn⟩ := ho
 obtain ⟨k, hk⟩ := mem_list.1 hx
 by_cases q : k = f.key
 ·subst q
  rw [he] at hk
  simp at hk; subst hk; exact hf
 ·rw [hn k q] at hk; cases hk
theorem One.use {c : Cfg} {B : Nat} {n : Int} (hB : B ≤ 1000000000) {M : Mem} (h : TI M.T B n) {f e : Ent} (ho : One M.T f) (he : M.T.at e.key e.lo = some e) : One (M.use c e).T f := by
 have hel := (h.tok.at_list.1 he).1
 have hg := (list_row h.tok hel).2
 have h1 : TI (M.putS e true).T B n := (h.putS hB hg ⟨e, he, rfl, rfl⟩ true _).1
 have o1 : One (M.putS e true).T f := ho.put h.tok (ho.mem hel) hg true _
 unfold Mem.use
 have hall : ∀ x ∈ (M.putS e true).T.list, goodE x = true ∧ SameIn (M.putS e true).T x ∧ FactEq x f := fun x hx => by
  obtain ⟨q1, q2⟩ := list_row h1.tok hx
  exact ⟨q2, ⟨x, q1, rfl, rfl⟩, o1.mem hx⟩
 have hl : ∀ i ∈ demL (M.putS e true).T.list c.prot, i < (M.putS e true).T.list.length := fun i hi => by
  have h1 := List.mem_of_mem_take hi
  have h2 := (List.mem_filter.1 h1).1
  have h3 : i ∈ List.range (M.putS e true).T.list.length := (List.mergeSort_perm _ _).mem_iff.1 h2
  simpa using h3
 generalize demL (M.putS e true).T.list c.prot = D at hl ⊢
 generalize (M.putS e true).T.list = all at hall hl ⊢
 generalize M.putS e true = M1 at h1 o1 hall ⊢
 clear he h ho hel
 induction D generalizing M1 with
 | nil => exact o1
 | cons i D ih =>
   have hi := hl i (List.mem_cons_self ..)
   have hm : all[i] ∈ all := List.getElem_mem hi
   have hd : demStep all M1 i = M1.putS all[i] false := by unfold demStep; rw [List.getElem?_eq_getElem hi]; rfl
   rw [List.foldl_cons, hd]
   obtain ⟨p1, p2, p3⟩ := hall _ hm
   obtain ⟨r1, r2⟩ := h1.putS hB p1 p2 false (wr1 M1.stamps)
   exact ih (fun j hj => hl j (List.mem_cons_of_mem _ hj)) _ r1 (o1.put h1.tok p3 p1 false _) fun x hx => ⟨(hall x hx).1, r2 x (hall x hx).2.1, (hall x hx).2.2⟩
def hotN (e : Ent) : Nat := if e.hot = true then 1 else 0
structure Less (T' T : Tab) : Prop where
 row : ∀ k, (T'.row k).length ≤ (T.row k).length
 hot : sumR hotN T'.rows ≤ sumR hotN T.rows
theorem Less.refl (T : Tab) : Less T T := ⟨fun _ => Nat.le_refl _, Nat.le_refl _⟩
theorem Less.trans {T1 T2 T3 : Tab} (h : Less T1 T2) (h' : Less T2 T3) : Less T1 T3 := ⟨fun k => Nat.le_trans (h.row k) (h'.row k), Nat.le_trans h.hot h'.hot⟩
theorem delE_len (l : Ents) (lo : Int) : (delE l lo).length + (if hasE l lo = true then 1 else 0) = l.length := by
 unfold delE
 split
 ·rename_i h
  have : idxE l lo < l.length := by
   unfold hasE at h
   cases q : l[idxE l lo]? with
   | none => rw [q] at h; cases h
   | some e => exact (List.getElem?_eq_some_iff.1 q).1
  unfold delL
  rw [List.length_append, List.length_take, List.length_drop]
  omega
 ·rfl
theorem Less.drop {T : Tab} {B : Nat} (h : TOK T B) (k : ByteArray) (lo : Int) : Less (T.drop k lo) T := by
 refine ⟨fun k' => ?_, ?_⟩
 ·rw [drop_row h.nd]
  split
  ·rename_i q
   have := delE_len (T.row k) lo
   rw [← q]; omega
  ·exact Nat.le_refl _
 ·cases q : getE (T.row k) lo with
  | none => rw [drop_none q]; exact Nat.le_refl _
  | some e => have := sumR_drop hotN q; omega
theorem putE_len (l : Ents) (e : Ent) : (putE l e).length = (delE l e.lo).length + 1 := by
 unfold putE; exact insL_len _ _ _
theorem put_len_row {T : Tab} {B : Nat} (h : TOK T B) {e : Ent} (hg : goodE e = true) (k : ByteArray) : ((T.putR e).row k).length + (if e.key = k ∧ (T.at e.key e.lo).isSome = true then 1 else 0) = (T.row k).length + (if e.key = k then 1 else 0) := by
 have hp : T.putR e = T.put e := by unfold Tab.putR; rw [if_pos hg]
 rw [hp, put_row h.nd]
 by_cases q : e.key = k
 ·rw [if_pos q, putE_len]
  have h1 := delE_len (T.row e.key) e.lo
  have h2 := getE_has (T.row e.key) e.lo
  have h3 : (T.at e.key e.lo).isSome = hasE (T.row e.key) e.lo := h2
  rw [h3]
  rw [if_pos q]
  subst q
  simp only [true_and]
  omega
 ·rw [if_neg q, if_neg q, if_neg (fun q' => q q'.1)]
theorem put_sum {T : Tab} {B : Nat} (h : TOK T B) {e y : Ent} (hg : goodE e = true) (hy : T.at e.key e.lo = some y) (f : Ent → Nat) : sumR f (T.putR e).rows + f y = sumR f T.rows + f e := by
 have hp : T.putR e = T.put e := by unfold Tab.putR; rw [if_pos hg]
 rw [hp]
 have h1 := sumR_put f (e := e) h.nd
 have h2 := sumR_drop f (T := T) (k := e.key) (lo := e.lo) hy
 omega
theorem put_sum_new {T : Tab} {B : Nat} (h : TOK T B) {e : Ent} (hg : goodE e = true) (hy : T.at e.key e.lo = none) (f : Ent → Nat) : sumR f (T.putR e).rows = sumR f T.rows + f e := by
 have hp : T.putR e = T.put e := by unfold Tab.putR; rw [if_pos hg]
 rw [hp]
 have h1 := sumR_put f (e := e) h.nd
 rw [drop_none hy] at h1
 exact h1
theorem Less.put {T : Tab} {B : Nat} (h : TOK T B) {e y : Ent} (hg : goodE e = true) (hy : T.at e.key e.lo = some y) (hh : e.hot = y.hot) : Less (T.putR e) T := by
 refine ⟨fun k => ?_, ?_⟩
 ·have := put_len_row h hg k
  rw [hy] at this
  simp only [Option.isSome_some, and_true] at this
  omega
 ·have := put_sum h hg hy hotN
  unfold hotN at *
  rw [hh] at this
  omega
theorem Less.closeStep {T : Tab} {B : Nat} {n : Int} (h : TI T B n) {e : Ent} (he : T.at e.key e.lo = some e) (at_ : Ent → Option Int) : Less (closeStep at_ T e) T := by
 have hg := (list_row h.tok (h.tok.at_list.1 he).1).2
 unfold Go.Proofs.YtomlgkecckffeaaGreat.closeStep
 by_cases q : e.hi ≠ openI
 ·rw [if_pos q]; exact Less.refl _
 rw [if_neg q]
 cases ha : at_ e with
 | none => exact Less.refl _
 | some m =>
   simp only
   cases hc : closeE e m with
   | none => exact Less.drop h.tok _ _
   | some f =>
     unfold closeE at hc
     rw [if_neg q] at hc
     split at hc
     ·cases hc
     ·cases hc
      exact Less.put h.tok (e := { e with hi := min m 1099511627777 }) (goodE_hi hg (by omega) (by omega)) he rfl
section
variable {B : Nat} {n : Int} (hB : B ≤ 1000000000) (P : Tab → Prop) (hP : ∀ T e at_, P T → TI T B n → T.at e.key e.lo = some e → P (closeStep at_ T e))
include hB hP
end
theorem apply_next {M : Mem} {n : Int} {x : KRec} (hl : M.live = true) (hn : n = M.g.at_ + 1) (hw : M.g.ws = []) (h : n ≤ 1099511627776) : (M.apply n x).1 = Mem.given { M with g := ⟨n, M.g.most, []⟩ } x := by
 have hp : M.g.put n x = (([x], false), ⟨n, M.g.most, []⟩) := by
  unfold GS.put
  rw [hw]
  have h1 : aget ([] : List (Int × KRec)) n = none := rfl
  rw [h1, if_neg (by simp; omega), if_pos hn]
  rfl
 rw [apply_live hl, hp]
 rfl
theorem givT_nil {M : Mem} {x : KRec} : ∀ (ks : List ByteArray) {T : Tab}, (∀ k ∈ ks, T.row k = []) → givT M x T ks = T
 | [], _, _ => rfl
 | k :: ks, T, h => by
   show givT M x (closeL (atN x.r.n) T (T.row k)) ks = T
   rw [h k (List.mem_cons_self ..)]
   exact givT_nil ks fun k' hk' => h k' (List.mem_cons_of_mem _ hk')
theorem fill_one {c : Cfg} (hc : CfgOK c) {M : Mem} {m n : Int} {f : Ent} {read : Int} {cnt : Nat} (hM : MOK c M m) (hm : m ≤ 4611686018427387904) (hl : M.live = true) (he : ∀ k, M.T.row k = []) (hR : RP M.R f.key n read cnt) (hlast : read ≤ M.R.last) (hg : goodE f = true) (hh : f.hi = openI) (hlo : f.lo ≤ read) (hr : read ≤ 1099511627776) (hb : 320 ≤ c.bytes) :
  (M.fill c f read).2 = true ∧ One (M.fill c f read).1.T f ∧ (M.fill c f read).1.live = true ∧ (M.fill c f read).1.g = M.g ∧ (M.fill c f read).1.R = M.R := by
 have hs : M.settle f read = f := by
  unfold Mem.settle
  by_cases q : M.g.at_ ≤ read
  ·rw [if_pos (.inr ⟨hl, q⟩)]
  ·have hcov : M.R.covers read = true := by
    unfold Rcn.covers
    rw [Bool.and_eq_true]
    exact ⟨decide_eq_true hR.since, decide_eq_true hlast⟩
   rw [if_neg (by rintro (q' | q'); exact q' hh; exact q q'.2), if_pos ⟨hl, hcov⟩, hR.first]
 have hi0 := hM.i0
 have hi1 := hM.i1
 have wi : wr1 M.ins = M.ins + 1 := wrap64 (by omega) (by omega)
 have hnone : getE (M.T.row f.key) f.lo = none := by rw [he]; rfl
 have hcost := costE_eq hg
 have hcle := costN_le hg
 have hb1 := hc.b1
 have hs0 := hc.s0
 have h1 := hM.ti.new (e := { f with hot := false, stamp := wr1 M.stamps, ins := M.ins + 1 }) (by omega) hg hnone (by show M.ins < M.ins + 1; omega)
 have hp : M.T.putR { f with hot := false, stamp := wr1 M.stamps, ins := M.ins + 1 } = M.T.put { f with hot := false, stamp := wr1 M.stamps, ins := M.ins + 1 } := by unfold Tab.putR; exact if_pos hg
 have hrow : ∀ k, (M.T.putR { f with hot := false, stamp := wr1 M.stamps, ins := M.ins + 1 }).row k = if f.key = k then [{ f with hot := false, stamp := wr1 M.stamps, ins := M.ins + 1 }] else [] := fun k => by
  rw [hp, put_row hM.ti.tok.nd]
  show (if f.key = k then putE (M.T.row f.key) _ else M.T.row k) = _
  rw [he, he]
  rfl
 have hone : One (M.T.putR { f with hot := false, stamp := wr1 M.stamps, ins := M.ins + 1 }) f := by
  refine ⟨⟨{ f with hot := false, stamp := wr1 M.stamps, ins := M.ins + 1 }, ?_, rfl, rfl, rfl, rfl, rfl⟩, fun k hk => ?_⟩
  ·rw [hrow, if_pos rfl]
  ·rw [hrow, if_neg (fun q => hk q.symm)]
 have hsum := put_sum_new hM.ti.tok (e := { f with hot := false, stamp := wr1 M.stamps, ins := M.ins + 1 }) hg hnone costN
 have hzero : sumR costN M.T.rows = 0 := by
  rw [← sumE_list _ hM.ti.tok.nd]
  exact sumE_zero fun x hx => by
   obtain ⟨k, hk⟩ := mem_list.1 hx
   rw [he] at hk; cases hk
 have hbytes := h1.tok.bytes
 have hcn : costN { f with hot := false, stamp := wr1 M.stamps, ins := M.ins + 1 } = costN f := rfl
 have e2 : overK c f.key (M.T.putR { f with hot := false, stamp := wr1 M.stamps, ins := M.ins + 1 }) = false := decide_eq_false (by
  rw [hrow, if_pos rfl]
  show ¬ c.spans < ((1 : Nat) : Int)
  omega)
 have e3 : overB c (M.T.putR { f with hot := false, stamp := wr1 M.stamps, ins := M.ins + 1 }) = false := decide_eq_false (by
  rw [hbytes, hsum, hzero, hcn]
  omega)
 have hfill : M.fill c f read = ({ M with stamps := wr1 M.stamps, ins := M.ins + 1, T := M.T.putR { f with hot := false, stamp := wr1 M.stamps, ins := M.ins + 1 } }, true) := by
  unfold Mem.fill
  rw [if_neg (by rintro (q | q | q); rw [hg] at q; cases q; omega; omega), if_neg (fun q => q.1 hh), hs]
  unfold Mem.lay
  rw [hnone]
  simp only
  rw [if_neg (by omega)]
  simp only [wi]
  rw [evictF_sub e2, evictF_sub e3]
 rw [hfill]
 exact ⟨rfl, hone, hl, rfl, rfl⟩
theorem look_one {c : Cfg} (hc : CfgOK c) {M : Mem} {m : Int} {f : Ent} {x : Int} (hM : MOK c M m) (ho : One M.T f) (hh : f.hi = openI) (h1 : f.lo ≤ x) (h2 : x ≤ M.g.at_) :
  ∃ e, (M.look c f.key x (x + 1)).2 = some e ∧ FactEq e f ∧ knownE e M.g.at_ = (f.lo, M.g.at_ + 1) ∧ One (M.look c f.key x (x + 1)).1.T f ∧ (M.look c f.key x (x + 1)).1.live = M.live ∧ (M.look c f.key x (x + 1)).1.g = M.g ∧ (M.look c f.key x (x + 1)).1.R = M.R := by
 have hb0 := hc.b0
 have hb1 := hc.b1
 have ha0 := hM.wf.a0
 have ha1 := hM.wf.a1
 obtain ⟨⟨e, he, hf⟩, hn⟩ := id ho
 have hem : e ∈ M.T.list := mem_list.2 ⟨f.key, by rw [he]; exact List.mem_cons_self ..⟩
 obtain ⟨hat, hg⟩ := list_row hM.ti.tok hem
 obtain ⟨_, _, g1, _, g2⟩ := goodE_facts hg
 have hend : endE e M.g.at_ = M.g.at_ + 1 := by unfold endE; rw [if_pos (hf.hi.trans hh)]
 have hlo := hf.lo
 have hmt : meetsE e M.g.at_ x (x + 1) = true := by
  rw [meets_plain ⟨g2, g1⟩ ha0 ha1, hend]
  exact decide_eq_true (by omega)
 have hfe : findE (M.T.row f.key) M.g.at_ x (x + 1) = some e := by
  unfold findE
  rw [he]
  simp [hmt]
 have hk := known_met (e := e) (x := M.g.at_) (lo := x) (hi := x + 1) g1 ha0 ha1 (by rw [hend]; omega)
 rw [hend, hlo] at hk
 unfold Mem.look
 rw [hfe]
 obtain ⟨k1, k2, k3, k4⟩ := M.use_keep c e
 exact ⟨e, rfl, hf, hk, One.use (by omega) hM.ti ho hat, k4, k1, k2⟩
end Go.Proofs.YtomlgkecckffeaaGreat
