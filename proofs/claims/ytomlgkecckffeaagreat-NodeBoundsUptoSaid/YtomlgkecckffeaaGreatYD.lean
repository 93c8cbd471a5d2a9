/- The bounds of a node hold behind each call. A node: Start. NodeAnswers: its end. -/
import Derived.Test.YtomlgkecckffeaaGreatYE
set_option linter.unusedVariables false
set_option linter.unusedSimpArgs false
set_option maxRecDepth 10000
namespace Go.Proofs.YtomlgkecckffeaaGreat
open Go.VW
structure BOK (c : Cfg) (M : Mem) : Prop where
 rows : ∀ k, ((M.T.row k).length : Int) ≤ c.spans
 hot : (sumR hotN M.T.rows : Int) ≤ c.prot
 most : (M.g.most : Int) ≤ c.gap
theorem BOK.less {c : Cfg} {M M' : Mem} (h : BOK c M) (hl : Less M'.T M.T) (hm : M'.g.most = M.g.most) : BOK c M' :=
 ⟨fun k => by have := hl.row k; have := h.rows k; omega, by have := hl.hot; have := h.hot; omega, by rw [hm]; exact h.most⟩
theorem put_most {α : Type} (g : GS α) (n : Int) (v : α) : (g.put n v).2.most = g.most := by
 unfold GS.put
 split
 ·rfl
 ·split
  ·rfl
  ·split <;> rfl
theorem BOK.apply {c : Cfg} (hc : CfgOK c) {M : Mem} {i : Int} (h : BOK c M) (hM : MOK c M i) (n : Int) (x : KRec) : BOK c (M.apply n x).1 := by
 have hb0 := hc.b0
 have hb1 := hc.b1
 refine h.less (apply_less (by omega) hM.ti n x) ?_
 cases ql : M.live with
 | false => unfold Mem.apply; rw [if_pos ql]
 | true =>
   rw [apply_live ql]
   simp only
   rw [(Mem.over_g _ _).1, (foldG _ _).1]
   exact put_most _ _ _
theorem BOK.fill {c : Cfg} (hc : CfgOK c) {M : Mem} {i : Int} (h : BOK c M) (hM : MOK c M i) (hi : i ≤ 4611686018427387904) (f : Ent) (read : Int) : BOK c (M.fill c f read).1 := by
 have hb0 := hc.b0
 have hb1 := hc.b1
 have hi0 := hM.i0
 have hi1 := hM.i1
 have wi : wr1 M.ins = M.ins + 1 := wrap64 (by omega) (by omega)
 unfold Mem.fill
 split
 ·exact h
 rename_i q
 split
 ·exact h
 have hgf0 : goodE f = true := by
  cases hg : goodE f with
  | true => rfl
  | false => exact absurd (.inl hg) q
 have hs := settle_good (M := M) hgf0 read
 generalize M.settle f read = f' at hs
 unfold Mem.lay
 cases hg : getE (M.T.row f'.key) f'.lo with
 | some e =>
   simp only
   cases hm : mergeE e f' M.g.at_ with
   | none => exact h
   | some m =>
     simp only
     have hgf : goodE f' = true := by
      rcases hs with q | rfl
      ·exact q
      ·rw [row_empty hM.ti.tok] at hg; cases hg
     have hat : M.T.at f'.key f'.lo = some e := hg
     obtain ⟨hel, hek, helo⟩ := hM.ti.tok.at_list.1 hat
     obtain ⟨r1, r2⟩ := list_row hM.ti.tok hel
     have hmh : m.hi = e.hi ∨ m.hi = f'.hi := by
      unfold mergeE at hm
      split at hm
      ·cases hm; exact mergeC_or _ _ _
      ·cases hm
     have hg2 : goodE { e with hi := m.hi } = true := by
      rcases hmh with q | q
      ·rw [q]; exact r2
      ·rw [q]; exact goodE_as r2 hgf helo.symm
     exact h.less (M' := { M with T := M.T.putR { e with hi := m.hi } }) (Less.put hM.ti.tok hg2 r1 rfl) rfl
 | none =>
   simp only
   split
   ·exact h
   rename_i hcost
   simp only [wi]
   rcases hs with hgf | rfl
   ·have hat : M.T.at f'.key f'.lo = none := hg
    have h1 := hM.ti.new (e := { f' with hot := false, stamp := wr1 M.stamps, ins := M.ins + 1 }) (by omega) hgf hat (by show M.ins < M.ins + 1; omega)
    have hcn : costN { f' with hot := false, stamp := wr1 M.stamps, ins := M.ins + 1 } = costN f' := rfl
    have hle := costN_le hgf
    have hce := costE_eq hgf
    rw [hcn] at h1
    have hE : (M.T.putR { f' with hot := false, stamp := wr1 M.stamps, ins := M.ins + 1 }).at f'.key f'.lo = some { f' with hot := false, stamp := wr1 M.stamps, ins := M.ins + 1 } := by
     have := at_put hM.ti.tok (e := { f' with hot := false, stamp := wr1 M.stamps, ins := M.ins + 1 }) (k := f'.key) (lo := f'.lo) hgf (h1.tok.sort _)
     rw [if_pos ⟨rfl, rfl⟩] at this
     exact this
    have hrow1 : ∀ k, k ≠ f'.key → ((M.T.putR { f' with hot := false, stamp := wr1 M.stamps, ins := M.ins + 1 }).row k).length = (M.T.row k).length := fun k hk => by
     have := put_len_row hM.ti.tok (e := { f' with hot := false, stamp := wr1 M.stamps, ins := M.ins + 1 }) hgf k
     rw [if_neg (fun q => hk q.1.symm), if_neg (fun q => hk q.symm)] at this
     exact this
    have hhot1 : sumR hotN (M.T.putR { f' with hot := false, stamp := wr1 M.stamps, ins := M.ins + 1 }).rows = sumR hotN M.T.rows := by
     have := put_sum_new hM.ti.tok (e := { f' with hot := false, stamp := wr1 M.stamps, ins := M.ins + 1 }) hgf hat hotN
     have h0 : hotN { f' with hot := false, stamp := wr1 M.stamps, ins := M.ins + 1 } = 0 := rfl
     omega
    have hEi : ({ f' with hot := false, stamp := wr1 M.stamps, ins := M.ins + 1 } : Ent).ins = M.ins + 1 := rfl
    generalize ({ f' with hot := false, stamp := wr1 M.stamps, ins := M.ins + 1 } : Ent) = E at *
    obtain ⟨_, hEk, hEl⟩ := h1.tok.at_list.1 hE
    rw [← hEk] at hE hrow1
    rw [← hEl] at hE
    rw [← hEk, ← hEi]
    obtain ⟨t1, t2, t3⟩ := evict_row hc h1 (by omega) hE
    have l1 := evict_less (among := fun T => T.row E.key) (over := overK c E.key) (ins := E.ins) (B := c.bytes.toNat + costN f') (by omega) h1 (M.T.putR E).list.length
    generalize evictF (fun T => T.row E.key) (overK c E.key) E.ins (M.T.putR E).list.length (M.T.putR E) = T2 at t1 t2 t3 l1 ⊢
    have l2 := evict_less (among := Tab.list) (over := overB c) (ins := E.ins) (B := c.bytes.toNat + costN f') (by omega) t1 T2.list.length
    refine ⟨fun k => ?_, ?_, h.most⟩
    ·have q1 := l2.row k
     have q2 := l1.row k
     by_cases q : k = E.key
     ·subst q
      show (((evictF Tab.list (overB c) E.ins T2.list.length T2).row E.key).length : Int) ≤ c.spans
      omega
     ·have q3 := hrow1 k q
      have q4 := h.rows k
      show (((evictF Tab.list (overB c) E.ins T2.list.length T2).row k).length : Int) ≤ c.spans
      omega
    ·have q1 := l2.hot
     have q2 := l1.hot
     have q4 := h.hot
     show ((sumR hotN (evictF Tab.list (overB c) E.ins T2.list.length T2).rows : Nat) : Int) ≤ c.prot
     omega
   ·have e1 : M.T.putR { entZ with hot := false, stamp := wr1 M.stamps, ins := M.ins + 1 } = M.T := by
     unfold Tab.putR
     rw [if_neg]
     have : goodE { entZ with hot := false, stamp := wr1 M.stamps, ins := M.ins + 1 } = goodE entZ := rfl
     rw [this, good_entZ]; simp
    rw [e1]
    have e2 : overK c entZ.key M.T = false := decide_eq_false (by
     show ¬ c.spans < ((M.T.row ⟨#[]⟩).length : Int)
     rw [row_empty hM.ti.tok]
     have := hc.s0
     simp; omega)
    rw [evictF_sub e2]
    have e3 : overB c M.T = false := decide_eq_false (by
     have := hM.ti.tok.bytes
     have := hM.ti.tok.le
     omega)
    rw [evictF_sub e3]
    exact ⟨h.rows, h.hot, h.most⟩
theorem hot_len (l : Ents) : ((oldIdx l).filter (hotI l)).length = sumE hotN l := by
 have h1 : ((oldIdx l).filter (hotI l)).Perm ((List.range l.length).filter (hotI l)) := (List.mergeSort_perm _ _).filter _
 rw [h1.length_eq]
 have key : ∀ n, n ≤ l.length → ((List.range n).filter (hotI l)).length = sumE hotN (l.take n) := by
  intro n
  induction n with
  | zero => intro _; rfl
  | succ n ih =>
    intro hn
    have hg : l[n]? = some (l[n]'(by omega)) := List.getElem?_eq_getElem _
    rw [List.range_succ, List.filter_append, List.length_append, ih (by omega), List.take_add_one, hg]
    show _ + _ = sumE hotN (l.take n ++ [l[n]'(by omega)])
    rw [sumE_app, sumE_cons, sumE_nil]
    have h3 : hotI l n = (l[n]'(by omega)).hot := by
     unfold hotI
     rw [hg]; rfl
    unfold hotN
    cases hx : (l[n]'(by omega)).hot with
    | true => rw [hx] at h3; simp [h3]
    | false => rw [hx] at h3; simp [h3]
 have := key l.length (Nat.le_refl _)
 rw [List.take_length] at this
 exact this
theorem dem_hot {B : Nat} {n : Int} (hB : B ≤ 1000000000) {all : Ents} (hp : PlaceND all) : ∀ (D : List Nat) {M : Mem}, TI M.T B n → D.Nodup → (∀ i ∈ D, ∃ x, all[i]? = some x ∧ x.hot = true ∧ M.T.at x.key x.lo = some x) →
  sumR hotN (D.foldl (demStep all) M).T.rows + D.length = sumR hotN M.T.rows ∧ (∀ k, ((D.foldl (demStep all) M).T.row k).length = (M.T.row k).length)
 | [], M, _, _, _ => ⟨rfl, fun _ => rfl⟩
 | i :: D, M, h, hn, ha => by
   rw [List.nodup_cons] at hn
   obtain ⟨x, hx, hxh, hxa⟩ := ha i (List.mem_cons_self ..)
   have hg := (list_row h.tok (h.tok.at_list.1 hxa).1).2
   have hd : demStep all M i = M.putS x false := by unfold demStep; rw [hx]; rfl
   have hg' : goodE { x with hot := false, stamp := wr1 M.stamps } = true := hg
   have h1 : TI (M.putS x false).T B n := (h.putS hB hg ⟨x, hxa, rfl, rfl⟩ false _).1
   have hs := put_sum h.tok (e := { x with hot := false, stamp := wr1 M.stamps }) hg' hxa hotN
   have hr := fun k => put_len_row h.tok (e := { x with hot := false, stamp := wr1 M.stamps }) hg' k
   have ht : (M.T.at x.key x.lo).isSome = true := by rw [hxa]; rfl
   rw [List.foldl_cons, hd]
   obtain ⟨i1, i2⟩ := dem_hot hB hp D (M := M.putS x false) h1 hn.2 fun j hj => by
    obtain ⟨y, hy, hyh, hya⟩ := ha j (List.mem_cons_of_mem _ hj)
    refine ⟨y, hy, hyh, ?_⟩
    have hij : i ≠ j := fun e => hn.1 (e ▸ hj)
    have hne : ¬ (x.key = y.key ∧ x.lo = y.lo) := by
     obtain ⟨g1, g2⟩ := List.getElem?_eq_some_iff.1 hx
     obtain ⟨g3, g4⟩ := List.getElem?_eq_some_iff.1 hy
     rcases Nat.lt_or_gt_of_ne hij with q | q
     ·have := List.pairwise_iff_getElem.1 hp i j g1 g3 q
      rw [g2, g4] at this; exact this
     ·have := List.pairwise_iff_getElem.1 hp j i g3 g1 q
      rw [g2, g4] at this
      exact fun q' => this ⟨q'.1.symm, q'.2.symm⟩
    show (M.T.putR { x with hot := false, stamp := wr1 M.stamps }).at y.key y.lo = some y
    rw [at_put h.tok hg' (h1.tok.sort _), if_neg hne]
    exact hya
   have e1 : (M.putS x false).T = M.T.putR { x with hot := false, stamp := wr1 M.stamps } := rfl
   have h0 : hotN { x with hot := false, stamp := wr1 M.stamps } = 0 := rfl
   have h2 : hotN x = 1 := by unfold hotN; rw [if_pos hxh]
   refine ⟨?_, fun k => ?_⟩
   ·rw [e1] at i1
    simp only [List.length_cons]
    omega
   ·have q1 := i2 k
    have q2 := hr k
    rw [e1] at q1
    have : (if ({ x with hot := false, stamp := wr1 M.stamps } : Ent).key = k ∧ (M.T.at ({ x with hot := false, stamp := wr1 M.stamps } : Ent).key ({ x with hot := false, stamp := wr1 M.stamps } : Ent).lo).isSome = true then 1 else 0) = (if ({ x with hot := false, stamp := wr1 M.stamps } : Ent).key = k then 1 else 0) := by
     show (if x.key = k ∧ (M.T.at x.key x.lo).isSome = true then 1 else 0) = (if x.key = k then 1 else 0)
     rw [ht]; simp
    rw [this] at q2
    omega
theorem BOK.look {c : Cfg} (hc : CfgOK c) {M : Mem} {i : Int} (h : BOK c M) (hM : MOK c M i) (k : ByteArray) (lo hi : Int) : BOK c (M.look c k lo hi).1 := by
 have hb0 := hc.b0
 have hb1 := hc.b1
 have hp0 := hc.p0
 unfold Mem.look
 cases hf : findE (M.T.row k) M.g.at_ lo hi with
 | none => exact h
 | some e =>
   simp only
   have he := find_at hM.ti.tok hf
   have hg := (list_row hM.ti.tok (hM.ti.tok.at_list.1 he).1).2
   have h1 : TI (M.putS e true).T c.bytes.toNat M.ins := (hM.ti.putS (by omega) hg ⟨e, he, rfl, rfl⟩ true _).1
   have hr := fun k => put_len_row hM.ti.tok (e := { e with hot := true, stamp := wr1 M.stamps }) hg k
   have ht : (M.T.at e.key e.lo).isSome = true := by rw [he]; rfl
   have hr1 : ∀ k, ((M.putS e true).T.row k).length = (M.T.row k).length := fun k => by
    have q2 := hr k
    have : (if ({ e with hot := true, stamp := wr1 M.stamps } : Ent).key = k ∧ (M.T.at ({ e with hot := true, stamp := wr1 M.stamps } : Ent).key ({ e with hot := true, stamp := wr1 M.stamps } : Ent).lo).isSome = true then 1 else 0) = (if ({ e with hot := true, stamp := wr1 M.stamps } : Ent).key = k then 1 else 0) := by
     show (if e.key = k ∧ (M.T.at e.key e.lo).isSome = true then 1 else 0) = (if e.key = k then 1 else 0)
     rw [ht]; simp
    rw [this] at q2
    show ((M.T.putR { e with hot := true, stamp := wr1 M.stamps }).row k).length = _
    omega
   have hsum := sumE_list hotN h1.tok.nd
   have hlen := hot_len (M.putS e true).T.list
   have hpl := h1.placeL
   have hD : (demL (M.putS e true).T.list c.prot).Nodup := by
    unfold demL
    refine (List.take_sublist _ _).nodup ?_
    refine (List.filter_sublist).nodup ?_
    exact (List.mergeSort_perm _ _).nodup_iff.2 List.nodup_range
   have hDm : ∀ i ∈ demL (M.putS e true).T.list c.prot, ∃ x, (M.putS e true).T.list[i]? = some x ∧ x.hot = true ∧ (M.putS e true).T.at x.key x.lo = some x := fun i hi => by
    have q1 := List.mem_of_mem_take hi
    obtain ⟨q2, q3⟩ := List.mem_filter.1 q1
    have q4 : i ∈ List.range (M.putS e true).T.list.length := (List.mergeSort_perm _ _).mem_iff.1 q2
    have q5 : i < (M.putS e true).T.list.length := by simpa using q4
    have q6 : (M.putS e true).T.list[i]? = some ((M.putS e true).T.list[i]'q5) := List.getElem?_eq_getElem q5
    unfold hotI at q3
    rw [q6] at q3
    exact ⟨_, q6, q3, (list_row h1.tok (List.mem_of_getElem? q6)).1⟩
   have hDl : (demL (M.putS e true).T.list c.prot).length = min (demN c.prot (sumE hotN (M.putS e true).T.list)) (sumE hotN (M.putS e true).T.list) := by
    unfold demL
    rw [List.length_take, hlen]
   obtain ⟨i1, i2⟩ := dem_hot (B := c.bytes.toNat) (n := M.ins) (by omega) hpl _ h1 hD hDm
   rw [hDl] at i1
   refine ⟨fun k => ?_, ?_, ?_⟩
   ·have q1 := i2 k
    have q2 := hr1 k
    have q3 := h.rows k
    show (((((demL (M.putS e true).T.list c.prot).foldl (demStep (M.putS e true).T.list) (M.putS e true)).T.row k).length : Nat) : Int) ≤ _
    omega
   ·show ((sumR hotN ((demL (M.putS e true).T.list c.prot).foldl (demStep (M.putS e true).T.list) (M.putS e true)).T.rows : Nat) : Int) ≤ c.prot
    rw [hsum] at i1
    unfold demN at i1
    omega
   ·rw [(M.use_keep c e).1]; exact h.most
theorem BOK.zero (c : Cfg) (live : Bool) (x : Int) : BOK c.held (Mem.zero c.held live x) := by
 refine ⟨fun k => ?_, ?_, ?_⟩
 ·have := (held_ok c).s0
  show ((0 : Nat) : Int) ≤ _
  omega
 ·have := (held_ok c).p0
  show ((0 : Nat) : Int) ≤ _
  omega
 ·show (((min (max c.held.gap 0) 256).toNat : Nat) : Int) ≤ c.held.gap
  have : 0 ≤ c.held.gap := by simp only [Cfg.held, hld]; omega
  omega
def Mem.start (c : Cfg) (inc : Int) (M : Mem) (i n : Int) : Mem × Bool :=
 if M.live = true ∨ i ≠ inc ∨ n < 0 ∨ 1099511627776 < n then (M, false) else ({ M with live := true, g := M.g.clear n, R := Rcn.new c.recent n }, true)
theorem NodeAt.gmS {w w' : World} {a : Lay} {c : Cfg} {inc : Int} {M : Mem} (h : NodeAt w a c inc M) {gm' most : Nat} {x : Int} (hg : GapAt 179 krV w' a.gb gm' ⟨x, most, []⟩) (hf : Fr [a.gb] w w') (hn : gm' ∉ a.all) : NodeAt w' { a with gm := gm' } c inc { M with g := ⟨x, most, []⟩ } := by
 obtain ⟨n1, n2, n3, n4, n5, n6, n7, n8, n9, n10, n11, n12, n13, n14, n15⟩ := h.ne
 obtain ⟨o1, o2, o3, o4, o5, o6⟩ := h.off
 unfold Lay.all Lay.fix at hn
 simp only [List.mem_append, List.mem_cons, List.not_mem_nil, or_false, not_or] at hn
 obtain ⟨⟨m1, m2, m3, m4, m5, m6⟩, m7⟩ := hn
 refine ⟨hf.get h.head (by simp; exact n2), hf.get h.mem (by simp; exact n6), h.tab.fr hf (by simp; exact o3), hg, h.rcn.fr hf (by simp; exact fun e => n11 e.symm) (by simp; exact fun e => n12 e.symm), ?_, ?_, fun p hp => by cases hp⟩
 ·unfold Lay.fix
  simp only [List.nodup_cons, List.mem_cons, List.not_mem_nil, or_false, not_or, not_false_eq_true, List.nodup_nil, and_true]
  exact ⟨⟨n1, n2, fun e => m1 e.symm, n4, n5⟩, ⟨n6, fun e => m2 e.symm, n8, n9⟩, ⟨fun e => m3 e.symm, n11, n12⟩, ⟨m5, m6⟩, n15⟩
 ·intro y hy
  unfold Lay.fix at hy
  simp only [List.mem_cons, List.not_mem_nil, or_false] at hy
  rcases hy with rfl | rfl | rfl | rfl | rfl | rfl
  ·exact o1
  ·exact o2
  ·exact o3
  ·exact m7
  ·exact o5
  ·exact o6
theorem NodeAt.rbS {w w' : World} {a : Lay} {c : Cfg} {inc : Int} {M : Mem} (h : NodeAt w a c inc M) {rb' rr' : Nat} {R' : Rcn} (hm : w'.heap[a.mb]? = some (.cells (memV { a with rb := rb', rr := rr' } M).toArray 118 (0, 0))) (hf : Fr [a.mb] w w') (hR : RcnAt w' rb' rr' R') (hn1 : rb' ∉ a.all) (hn2 : rr' ∉ a.all) (hw : M.g.ws = []) :
  NodeAt w' { a with rb := rb', rr := rr' } c inc { M with R := R' } := by
 obtain ⟨n1, n2, n3, n4, n5, n6, n7, n8, n9, n10, n11, n12, n13, n14, n15⟩ := h.ne
 obtain ⟨o1, o2, o3, o4, o5, o6⟩ := h.off
 obtain ⟨_, _, hne⟩ := hR.lt
 have hlen := sub_all (a := a)
 unfold Lay.all Lay.fix at hn1 hn2
 simp only [List.mem_append, List.mem_cons, List.not_mem_nil, or_false, not_or] at hn1 hn2
 obtain ⟨⟨m1, m2, m3, m4, m5, m6⟩, m7⟩ := hn1
 obtain ⟨⟨p1, p2, p3, p4, p5, p6⟩, p7⟩ := hn2
 refine ⟨hf.get h.head (by simp; exact n1), hm, h.tab.fr hf (by simp; exact o2), h.gap.fr hf (by simp; exact fun e => n6 e.symm) (by simp; exact fun e => n7 e.symm), hR, ?_, ?_, fun p hp => ?_⟩
 ·unfold Lay.fix
  simp only [List.nodup_cons, List.mem_cons, List.not_mem_nil, or_false, not_or, not_false_eq_true, List.nodup_nil, and_true]
  exact ⟨⟨n1, n2, n3, fun e => m1 e.symm, fun e => p1 e.symm⟩, ⟨n6, n7, fun e => m2 e.symm, fun e => p2 e.symm⟩, ⟨n10, fun e => m3 e.symm, fun e => p3 e.symm⟩, ⟨fun e => m4 e.symm, fun e => p4 e.symm⟩, hne⟩
 ·intro y hy
  unfold Lay.fix at hy
  simp only [List.mem_cons, List.not_mem_nil, or_false] at hy
  rcases hy with rfl | rfl | rfl | rfl | rfl | rfl
  ·exact o1
  ·exact o2
  ·exact o3
  ·exact o4
  ·exact m7
  ·exact p7
 ·rw [show ({ M with R := R' } : Mem).g.ws = M.g.ws from rfl, hw] at hp; cases hp
set_option maxHeartbeats 16000000 in
theorem start_spec {w : World} {a : Lay} {c : Cfg} {inc : Int} {M : Mem} {i n : Int} {K : Value → World → Prop} (h : NodeAt w a c inc M)
  (hK : ∀ w' a', a'.nb = a.nb → NodeAt w' a' c inc (M.start c inc i n).1 → (∀ x ∈ a'.all, x ∈ a.all ∨ w.heap.size ≤ x) → Fr a.all w w' → K (.bool (M.start c inc i n).2) w') :
  CallsN Tryz.prog 27 [.pointer (some ⟨a.nb, 0, none⟩), .int .i64 i, .int .i64 n] w K := by
 have cw := cur w
 have hd := h.hd
 have hm := h.mm
 have lnb := lt_of_get _ _ hd
 have lmb := lt_of_get _ _ hm
 obtain ⟨s0, s1, s2, s3, s4, s5, s6⟩ := sub_all (a := a)
 unfold Mem.start at hK
 have no := hK w a rfl
 refine call27 ?_
 cases ql : M.live with
 | true =>
   rw [if_pos (.inl ql)] at no
   rw [ql] at hm
   simp (maxSteps:=9^7)(disch:=first|assumption|(simp only[dz];first|done|assumption|omega)|omega|apply_rules[Fr.refl,Fr.alloc,Fr.drew]|rfl) only [↓gd,gp,Nat.reduceAdd,Nat.reduceEqDiff, ↓hk27, hd, hm]
   refine up_spec h ?_
   simp (maxSteps:=9^7)(disch:=first|assumption|(simp only[dz];first|done|assumption|omega)|omega|apply_rules[Fr.refl,Fr.alloc,Fr.drew]|rfl) only [↓gd,gp,Nat.reduceAdd,Nat.reduceEqDiff, ↓hk27, hd, hm]
   exact no h (fun x hx => .inl hx) (Fr.refl _ _)
 | false =>
   rw [ql] at hm
   simp (maxSteps:=9^7)(disch:=first|assumption|(simp only[dz];first|done|assumption|omega)|omega|apply_rules[Fr.refl,Fr.alloc,Fr.drew]|rfl) only [↓gd,gp,Nat.reduceAdd,Nat.reduceEqDiff, ↓hk27, hd, hm]
   refine up_spec h ?_
   by_cases q1 : i = inc
   ·have d1 : decide (i = inc) = true := decide_eq_true q1
    by_cases q2 : n < 0
    ·have d2 : decide (n < 0) = true := decide_eq_true q2
     rw [if_pos (.inr (.inr (.inl q2)))] at no
     simp (maxSteps:=9^7)(disch:=first|assumption|(simp only[dz];first|done|assumption|omega)|omega|apply_rules[Fr.refl,Fr.alloc,Fr.drew]|rfl) only [↓gd,gp,Nat.reduceAdd,Nat.reduceEqDiff, ↓hk27, hd, hm, d1, d2]
     exact no h (fun x hx => .inl hx) (Fr.refl _ _)
    have d2 : decide (n < 0) = false := decide_eq_false q2
    by_cases q3 : 1099511627776 < n
    ·have d3 : decide (1099511627776 < n) = true := decide_eq_true q3
     rw [if_pos (.inr (.inr (.inr q3)))] at no
     simp (maxSteps:=9^7)(disch:=first|assumption|(simp only[dz];first|done|assumption|omega)|omega|apply_rules[Fr.refl,Fr.alloc,Fr.drew]|rfl) only [↓gd,gp,Nat.reduceAdd,Nat.reduceEqDiff, ↓hk27, hd, hm, d1, d2, d3]
     exact no h (fun x hx => .inl hx) (Fr.refl _ _)
    have d3 : decide (1099511627776 < n) = false := decide_eq_false q3
    rw [if_neg (by rintro (q | q | q | q); rw [ql] at q; cases q; exact q q1; exact q2 q; exact q3 q)] at hK
    clear no
    have hne0 : a.nb ≠ a.mb := h.ne.1
    simp (maxSteps:=9^7)(disch:=first|assumption|(simp only[dz];first|done|assumption|omega)|omega|apply_rules[Fr.refl,Fr.alloc,Fr.drew]|rfl) only [↓gd,gp,Nat.reduceAdd,Nat.reduceEqDiff, ↓hk27, hd, hm, d1, d2, d3]
    generalize hW : World.setB w _ _ = w1
    have hf1 : Fr [a.mb] w w1 := by rw [← hW]; exact fr_
    have h1 : NodeAt w1 a c inc { M with live := true, stamps := M.stamps, ins := M.ins } := h.memS (live := true) (stamps := M.stamps) (ins := M.ins) (by rw [← hW]; exact get_setB_same _ _ _ lmb) hf1
    clear hW
    have cw1 := cur w1
    have hz1 := hf1.size
    have hgh := h1.gap.head
    refine clearR (a := n) hgh fun gm w2 hf2 hgm hG2 => ?_
    have cw2 := cur w2
    have hz2 := hf2.size
    have hgn : gm ∉ a.all := fun hx => by have := h1.lt _ hx; omega
    have h2 : NodeAt w2 { a with gm := gm } c inc { M with live := true, g := ⟨clamp n, M.g.most, []⟩ } := h1.gmS hG2 hf2 hgn
    have hd2 := h2.hd
    have hm2 := h2.mm
    simp only at hd2 hm2
    have lmb2 := lt_of_get _ _ hm2
    have lnb2 := lt_of_get _ _ hd2
    simp (maxSteps:=9^7)(disch:=first|assumption|(simp only[dz];first|done|assumption|omega)|omega|apply_rules[Fr.refl,Fr.alloc,Fr.drew]|rfl) only [↓gd,gp,Nat.reduceAdd,Nat.reduceEqDiff, ↓hk27, hd2, hm2]
    refine rnew_spec (m := c.recent) (s := n) fun rb rr w3 hf3 hrb hrr hR3 => ?_
    have cw3 := cur w3
    have hf23 : Fr [] w2 w3 := Fr.trans' fr_ hf3
    have hz3 := hf23.size
    rw [size_drew] at hrb hrr
    have h3 := h2.frN hf23
    have hm3 := h3.mm
    have hd3 := h3.hd
    simp only at hm3 hd3
    have lmb3 := lt_of_get _ _ hm3
    obtain ⟨lr1, lr2, _⟩ := hR3.lt
    have r1 : rb ∉ Lay.all { a with gm := gm } := fun hx => by have := h2.lt _ hx; omega
    have r2 : rr ∉ Lay.all { a with gm := gm } := fun hx => by have := h2.lt _ hx; omega
    have hne : a.mb ≠ a.nb := fun e => h.ne.1 e.symm
    simp (maxSteps:=9^7)(disch:=first|assumption|(simp only[dz];first|done|assumption|omega)|omega|apply_rules[Fr.refl,Fr.alloc,Fr.drew]|rfl) only [↓gd,gp,Nat.reduceAdd,Nat.reduceEqDiff, ↓hk27, hd3, hm3, eq_true hf23]
    generalize hW : World.setB w3 _ _ = w4
    have hf4 : Fr [a.mb] w3 w4 := by rw [← hW]; exact fr_
    have nb1 : rb ≠ a.mb := fun e => r1 (e ▸ (sub_all (a := { a with gm := gm })).2.2.1)
    have nb2 : rr ≠ a.mb := fun e => r2 (e ▸ (sub_all (a := { a with gm := gm })).2.2.1)
    have h4 : NodeAt w4 { a with gm := gm, rb := rb, rr := rr } c inc { M with live := true, g := ⟨clamp n, M.g.most, []⟩, R := Rcn.new c.recent n } := h3.rbS (by rw [← hW]; exact get_setB_same _ _ _ lmb3) hf4 (hR3.fr hf4 (by simp; exact nb1) (by simp; exact nb2)) r1 r2 rfl
    clear hW
    have cw4 := cur w4
    try simp (maxSteps:=9^7)(disch:=first|assumption|(simp only[dz];first|done|assumption|omega)|omega|apply_rules[Fr.refl,Fr.alloc,Fr.drew]|rfl) only [↓gd,gp,Nat.reduceAdd,Nat.reduceEqDiff, ↓hk27]
    refine hK w4 { a with gm := gm, rb := rb, rr := rr } rfl h4 (fun x hx => ?_) ((((Fr.refl a.all w).trans hf1 fun y hy => by simp at hy; subst hy; exact .inl s2).trans hf2 fun y hy => by simp at hy; subst hy; exact .inl s3).trans' hf23 |>.trans hf4 fun y hy => by simp at hy; subst hy; exact .inl s2)
    unfold Lay.all Lay.fix at hx
    simp only [List.mem_append, List.mem_cons, List.not_mem_nil, or_false] at hx
    rcases hx with (rfl | rfl | rfl | rfl | rfl | rfl) | q
    ·exact .inl s1
    ·exact .inl s2
    ·exact .inl s3
    ·exact .inr (by omega)
    ·exact .inr (by omega)
    ·exact .inr (by omega)
    ·exact .inl (s0 x q)
   ·have d1 : decide (i = inc) = false := decide_eq_false q1
    rw [if_pos (.inr (.inl q1))] at no
    simp (maxSteps:=9^7)(disch:=first|assumption|(simp only[dz];first|done|assumption|omega)|omega|apply_rules[Fr.refl,Fr.alloc,Fr.drew]|rfl) only [↓gd,gp,Nat.reduceAdd,Nat.reduceEqDiff, ↓hk27, hd, hm, d1]
    exact no h (fun x hx => .inl hx) (Fr.refl _ _)
theorem MOK.start {c : Cfg} {M : Mem} {j inc : Int} (h : MOK c M j) (i n : Int) : MOK c (M.start c inc i n).1 j := by
 unfold Mem.start
 split
 ·exact h
 ·exact ⟨h.ti, h.wf.clear n, h.i0, h.i1⟩
theorem BOK.start {c : Cfg} {M : Mem} {inc : Int} (h : BOK c M) (i n : Int) : BOK c (M.start c inc i n).1 := by
 unfold Mem.start
 split
 ·exact h
 ·exact ⟨h.rows, h.hot, h.most⟩
theorem NodeIn.base {V W w : World} {a : Lay} {c : Cfg} {inc : Int} {M : Mem} {i : Int} (h : NodeIn W w a c inc M i) (hf : Fr [] V W) : NodeIn V w a c inc M i := ⟨h.at_, h.ok, fun y hy => Nat.le_trans hf.size (h.ge y hy), hf.trans' h.fr⟩
end Go.Proofs.YtomlgkecckffeaaGreat
