/- A node: what it is, in plain words and in memory. A node: up, stamp, New. -/
import Derived.Test.YtomlgkecckffeaaGreatN3
import Derived.Test.YtomlgkecckffeaaGreatP4
import Derived.Test.YtomlgkecckffeaaGreatF2
import Derived.Test.YtomlgkecckffeaaGreatG2
import Derived.Test.YtomlgkecckffeaaGreatVH
set_option linter.unusedVariables false
set_option linter.unusedSimpArgs false
set_option maxRecDepth 10000
namespace Go.Proofs.YtomlgkecckffeaaGreat
open Go.VW
structure Mem where
 live : Bool
 T : Tab
 g : GS KRec
 R : Rcn
 stamps : Int
 ins : Int
def wr1 (x : Int) : Int := IntKind.i64.wrap (x + 1)
structure Lay where
 nb : Nat
 mb : Nat
 tb : Nat
 S : List Nat
 gb : Nat
 gm : Nat
 rb : Nat
 rr : Nat
def Lay.fix (a : Lay) : List Nat := [a.nb, a.mb, a.gb, a.gm, a.rb, a.rr]
def Lay.all (a : Lay) : List Nat := a.fix ++ a.S
abbrev ptrV (b : Nat) : Value := .pointer (some ⟨b, 0, none⟩)
def memV (a : Lay) (M : Mem) : List Value := [.bool M.live, ptrV a.tb, ptrV a.gb, ptrV a.rb, .int .i64 M.stamps, .int .i64 M.ins]
structure KeyAt (w : World) (L : List Nat) (x : KRec) : Prop where
 sl : SlOf 1 encS w (.slice x.r.a x.r.l x.r.c) x.ks
 blk : ∀ a, x.r.a = some a → a.block < w.heap.size ∧ a.block ∉ L
 len : x.ks.length ≤ 4000000000000
structure NodeAt (w : World) (a : Lay) (c : Cfg) (inc : Int) (M : Mem) : Prop where
 head : w.heap[a.nb]? = some (.cells (encCfg c ++ ([.int .i64 inc, ptrV a.mb] : List Value)).toArray 92 (0, 0))
 mem : w.heap[a.mb]? = some (.cells (memV a M).toArray 118 (0, 0))
 tab : TabAt w a.tb a.S M.T
 gap : GapAt 179 krV w a.gb a.gm M.g
 rcn : RcnAt w a.rb a.rr M.R
 nd : a.fix.Nodup
 ap : ∀ x ∈ a.fix, x ∉ a.S
 keys : ∀ p ∈ M.g.ws, p.2.r.n = p.1 ∧ KeyAt w a.all p.2
theorem KeyAt.mono {w w' : World} {L L' : List Nat} {x : KRec} (h : KeyAt w L x) {M : List Nat} (hf : Fr M w w') (hM : ∀ y ∈ M, y ∈ L ∨ w.heap.size ≤ y) (hL : ∀ y ∈ L', y ∈ L ∨ w.heap.size ≤ y) : KeyAt w' L' x := by
 refine ⟨h.sl.fr hf fun b hb a n c e => ?_, fun a ha => ?_, h.len⟩
 ·simp only [Value.slice.injEq] at e
  obtain ⟨q1, q2⟩ := h.blk a e.1
  intro e'
  subst e'
  rcases hM _ hb with q | q
  ·exact q2 q
  ·omega
 ·obtain ⟨q1, q2⟩ := h.blk a ha
  refine ⟨Nat.lt_of_lt_of_le q1 hf.size, fun hm => ?_⟩
  rcases hL _ hm with q | q
  ·exact q2 q
  ·omega
section
variable {w w' : World} {a : Lay} {c : Cfg} {inc : Int} {M : Mem}
theorem NodeAt.lt (h : NodeAt w a c inc M) : ∀ x ∈ a.all, x < w.heap.size := by
 intro x hx
 unfold Lay.all Lay.fix at hx
 simp only [List.mem_append, List.mem_cons, List.not_mem_nil, or_false] at hx
 rcases hx with (rfl | rfl | rfl | rfl | rfl | rfl) | hx
 ·exact lt_of_get _ _ h.head
 ·exact lt_of_get _ _ h.mem
 ·exact h.gap.lt.1
 ·exact h.gap.lt.2.1
 ·exact h.rcn.lt.1
 ·exact h.rcn.lt.2.1
 ·exact h.tab.lt x hx
theorem NodeAt.ne (h : NodeAt w a c inc M) : a.nb ≠ a.mb ∧ a.nb ≠ a.gb ∧ a.nb ≠ a.gm ∧ a.nb ≠ a.rb ∧ a.nb ≠ a.rr ∧ a.mb ≠ a.gb ∧ a.mb ≠ a.gm ∧ a.mb ≠ a.rb ∧ a.mb ≠ a.rr ∧ a.gb ≠ a.gm ∧ a.gb ≠ a.rb ∧ a.gb ≠ a.rr ∧ a.gm ≠ a.rb ∧ a.gm ≠ a.rr ∧ a.rb ≠ a.rr := by
 have := h.nd
 unfold Lay.fix at this
 simp only [List.nodup_cons, List.mem_cons, List.not_mem_nil, or_false, not_or, not_false_eq_true, List.nodup_nil, and_true] at this
 omega
theorem NodeAt.off (h : NodeAt w a c inc M) : a.nb ∉ a.S ∧ a.mb ∉ a.S ∧ a.gb ∉ a.S ∧ a.gm ∉ a.S ∧ a.rb ∉ a.S ∧ a.rr ∉ a.S := by
 exact ⟨h.ap _ (by simp [Lay.fix]), h.ap _ (by simp [Lay.fix]), h.ap _ (by simp [Lay.fix]), h.ap _ (by simp [Lay.fix]), h.ap _ (by simp [Lay.fix]), h.ap _ (by simp [Lay.fix])⟩
theorem NodeAt.frN (h : NodeAt w a c inc M) (hf : Fr [] w w') : NodeAt w' a c inc M :=
 ⟨hf.getN h.head, hf.getN h.mem, h.tab.frN hf, h.gap.frN hf, h.rcn.frN hf, h.nd, h.ap, fun p hp => ⟨(h.keys p hp).1, (h.keys p hp).2.mono hf (by simp) fun y hy => .inl hy⟩⟩
theorem sub_all {a : Lay} : (∀ x ∈ a.S, x ∈ a.all) ∧ a.nb ∈ a.all ∧ a.mb ∈ a.all ∧ a.gb ∈ a.all ∧ a.gm ∈ a.all ∧ a.rb ∈ a.all ∧ a.rr ∈ a.all := by
 unfold Lay.all Lay.fix
 refine ⟨fun x hx => List.mem_append_right _ hx, ?_⟩
 simp
theorem NodeAt.tabS (h : NodeAt w a c inc M) {S' : List Nat} {T' : Tab} (hT : TabAt w' a.tb S' T') (hN : ∀ x ∈ S', x ∈ a.S ∨ w.heap.size ≤ x) (hf : Fr a.S w w') : NodeAt w' { a with S := S' } c inc { M with T := T' } := by
 obtain ⟨o1, o2, o3, o4, o5, o6⟩ := h.off
 have hl := h.lt
 obtain ⟨s0, s1, s2, s3, s4, s5, s6⟩ := sub_all (a := a)
 refine ⟨hf.get h.head o1, hf.get h.mem o2, hT, h.gap.fr hf o3 o4, h.rcn.fr hf o5 o6, h.nd, fun x hx hm => ?_, fun p hp => ⟨(h.keys p hp).1, (h.keys p hp).2.mono hf (fun y hy => .inl (s0 y hy)) fun y hy => ?_⟩⟩
 ·rcases hN x hm with q | q
  ·exact h.ap x hx q
  ·have := hl x (List.mem_append_left _ hx); omega
 ·unfold Lay.all at hy ⊢
  rcases List.mem_append.1 hy with q | q
  ·exact .inl (List.mem_append_left _ q)
  ·exact (hN y q).imp (fun q => List.mem_append_right _ q) id
theorem NodeAt.memS (h : NodeAt w a c inc M) {live : Bool} {stamps ins : Int} (hm : w'.heap[a.mb]? = some (.cells (memV a { M with live := live, stamps := stamps, ins := ins }).toArray 118 (0, 0))) (hf : Fr [a.mb] w w') : NodeAt w' a c inc { M with live := live, stamps := stamps, ins := ins } := by
 obtain ⟨n1, n2, n3, n4, n5, n6, n7, n8, n9, n10, n11, n12, n13, n14, n15⟩ := h.ne
 obtain ⟨s0, s1, s2, s3, s4, s5, s6⟩ := sub_all (a := a)
 refine ⟨hf.get h.head (by simp; exact n1), hm, h.tab.fr hf (by simp; exact h.off.2.1), h.gap.fr hf (by simp; exact fun e => n6 e.symm) (by simp; exact fun e => n7 e.symm), h.rcn.fr hf (by simp; exact fun e => n8 e.symm) (by simp; exact fun e => n9 e.symm), h.nd, h.ap, fun p hp => ⟨(h.keys p hp).1, (h.keys p hp).2.mono hf (fun y hy => ?_) fun y hy => .inl hy⟩⟩
 simp at hy; subst hy; exact .inl s2
end
/-! The model. -/
def Mem.stamp (M : Mem) : Mem := { M with stamps := wr1 M.stamps }
def Mem.putS (M : Mem) (e : Ent) (hot : Bool) : Mem := { M with stamps := wr1 M.stamps, T := M.T.putR { e with hot := hot, stamp := wr1 M.stamps } }
def oldIdx (l : Ents) : List Nat := (List.range l.length).mergeSort fun i j => !ltI oldE l j i
def demL (l : Ents) (most : Int) : List Nat := ((oldIdx l).filter (hotI l)).take (demN most ((oldIdx l).filter (hotI l)).length)
def demStep (l : Ents) (M : Mem) (i : Nat) : Mem := M.putS ((l[i]?).getD entZ) false
def Mem.use (cfg : Cfg) (M : Mem) (e : Ent) : Mem := (demL (M.putS e true).T.list cfg.prot).foldl (demStep (M.putS e true).T.list) (M.putS e true)
def Mem.look (cfg : Cfg) (M : Mem) (k : ByteArray) (lo hi : Int) : Mem × Option Ent :=
 match findE (M.T.row k) M.g.at_ lo hi with
 | none => (M, none)
 | some e => (M.use cfg e, some e)
def Mem.settle (M : Mem) (e : Ent) (read : Int) : Ent :=
 if e.hi ≠ openI ∨ (M.live = true ∧ M.g.at_ ≤ read) then e
 else if M.live = true ∧ M.R.covers read = true then (match M.R.first e.key read with
  | none => e
  | some x => (closeE e x).getD entZ)
 else (closeE e (wr1 read)).getD entZ
def evictF (among : Tab → Ents) (over : Tab → Bool) (ins : Int) : Nat → Tab → Tab
 | 0, T => T
 | f + 1, T => if over T = true then (match (vicE ((among T).filter fun x => !decide (x.ins = ins))).bind (((among T).filter fun x => !decide (x.ins = ins))[·]?) with
   | none => T
   | some e => evictF among over ins f (T.drop e.key e.lo)) else T
def overK (cfg : Cfg) (k : ByteArray) (T : Tab) : Bool := decide (cfg.spans < ((T.row k).length : Int))
def overB (cfg : Cfg) (T : Tab) : Bool := decide (cfg.bytes < T.bytes)
def Mem.lay (cfg : Cfg) (M : Mem) (f : Ent) : Mem × Bool :=
 match getE (M.T.row f.key) f.lo with
 | some e => (match mergeE e f M.g.at_ with
   | some m => ({ M with T := M.T.putR { e with hi := m.hi } }, true)
   | none => (M, false))
 | none =>
   if cfg.bytes < costE f then (M, false)
   else
    let e : Ent := { f with hot := false, stamp := wr1 M.stamps, ins := wr1 M.ins }
    let T1 := M.T.putR e
    let T2 := evictF (fun T => T.row f.key) (overK cfg f.key) e.ins T1.list.length T1
    let T3 := evictF Tab.list (overB cfg) e.ins T2.list.length T2
    ({ M with stamps := wr1 M.stamps, ins := wr1 M.ins, T := T3 }, true)
def Mem.fill (cfg : Cfg) (M : Mem) (f : Ent) (read : Int) : Mem × Bool :=
 if goodE f = false ∨ read < f.lo ∨ 1099511627776 < read then (M, false)
 else if f.hi ≠ openI ∧ wr1 read < f.hi then (M, false)
 else M.lay cfg (M.settle f read)
def closeStep (at_ : Ent → Option Int) (T : Tab) (e : Ent) : Tab :=
 if e.hi ≠ openI then T else match at_ e with
  | none => T
  | some n => match closeE e n with
    | none => T.drop e.key e.lo
    | some f => T.putR f
def closeL (at_ : Ent → Option Int) (T : Tab) (l : Ents) : Tab := l.foldl (closeStep at_) T
def atN (n : Int) (e : Ent) : Option Int := if e.lo < n then some n else none
def Mem.given (M : Mem) (x : KRec) : Mem := { M with T := x.ks.foldl (fun T k => closeL (atN x.r.n) T (T.row k)) M.T, R := M.R.note x.r.n x.ks }
def Mem.apply (M : Mem) (n : Int) (x : KRec) : Mem × Bool :=
 if M.live = false then (M, false)
 else
  let M1 := (M.g.put n x).1.1.foldl Mem.given { M with g := (M.g.put n x).2 }
  let M2 := if (M.g.put n x).1.2 = true then { M1 with T := closeL (fun _ => some (wr1 M1.g.at_)) M1.T M1.T.list } else M1
  (M2, (M.g.put n x).1.2 || (decide (M.g.ws.length = 0) && decide (0 < M2.g.ws.length)))
def Away (g : Nat) (a : Lay) (ws : List (Int × KRec)) : Prop := g ∉ a.all ∧ ∀ p ∈ ws, ∀ x, p.2.r.a = some x → x.block ≠ g
theorem NodeAt.away {w : World} {a : Lay} {c : Cfg} {inc : Int} {M : Mem} (h : NodeAt w a c inc M) {g : Nat} (hg : w.heap.size ≤ g) : Away g a M.g.ws :=
 ⟨fun hm => by have := h.lt g hm; omega, fun p hp x hx e => by have := ((h.keys p hp).2.blk x hx).1; omega⟩
theorem Away.tab {g : Nat} {a : Lay} {ws : List (Int × KRec)} (h : Away g a ws) {S' : List Nat} {n : Nat} (hS : ∀ x ∈ S', x ∈ a.S ∨ n ≤ x) (hg : g < n) : Away g { a with S := S' } ws := by
 refine ⟨fun hm => ?_, h.2⟩
 unfold Lay.all at hm
 rcases List.mem_append.1 hm with q | q
 ·exact h.1 (List.mem_append_left _ q)
 ·rcases hS g q with q | q
  ·exact h.1 (List.mem_append_right _ q)
  ·omega
theorem NodeAt.frA {w w' : World} {a : Lay} {c : Cfg} {inc : Int} {M : Mem} (h : NodeAt w a c inc M) {L : List Nat} (hf : Fr L w w') (hL : ∀ g ∈ L, Away g a M.g.ws) : NodeAt w' a c inc M := by
 obtain ⟨s0, s1, s2, s3, s4, s5, s6⟩ := sub_all (a := a)
 have no : ∀ x ∈ a.all, x ∉ L := fun x hx hm => (hL x hm).1 hx
 refine ⟨hf.get h.head (no _ s1), hf.get h.mem (no _ s2), h.tab.fr hf fun x hx hm => no x (s0 x hm) hx, h.gap.fr hf (no _ s3) (no _ s4), h.rcn.fr hf (no _ s5) (no _ s6), h.nd, h.ap, fun p hp => ?_⟩
 obtain ⟨k1, k2⟩ := h.keys p hp
 refine ⟨k1, k2.sl.fr hf fun b hb x n c e => ?_, fun x hx => ?_, k2.len⟩
 ·simp only [Value.slice.injEq] at e
  exact (hL b hb).2 p hp x e.1
 ·obtain ⟨q1, q2⟩ := k2.blk x hx
  exact ⟨Nat.lt_of_lt_of_le q1 hf.size, q2⟩
section
variable {w : World} {a : Lay} {c : Cfg} {inc : Int} {M : Mem} {K : Value → World → Prop}
theorem NodeAt.hd (h : NodeAt w a c inc M) : w.heap[a.nb]? = some (.cells ([.int .i64 c.nodes, .int .i64 c.bytes, .int .i64 c.spans, .int .i64 c.gap, .int .i64 c.recent, .int .i64 c.vers, .int .i64 c.prot, .int .i64 c.retr, .int .i64 inc, .pointer (some ⟨a.mb, 0, none⟩)] : List Value).toArray 92 (0, 0)) := h.head
theorem NodeAt.mm (h : NodeAt w a c inc M) : w.heap[a.mb]? = some (.cells ([.bool M.live, .pointer (some ⟨a.tb, 0, none⟩), .pointer (some ⟨a.gb, 0, none⟩), .pointer (some ⟨a.rb, 0, none⟩), .int .i64 M.stamps, .int .i64 M.ins] : List Value).toArray 118 (0, 0)) := h.mem
theorem up_spec (h : NodeAt w a c inc M) (hK : K (.bool true) w) : CallsN Tryz.prog 47 [.pointer (some ⟨a.nb, 0, none⟩)] w K := by
 have cw := cur w
 have h1 := h.hd
 refine call47 ?_
 simp (maxSteps:=9^7)(disch:=first|assumption|(simp only[dz];first|done|assumption|omega)|omega|apply_rules[Fr.refl,Fr.alloc,Fr.drew]|rfl) only [↓gd,gp,Nat.reduceAdd,Nat.reduceEqDiff, ↓hk47, h1]
 exact hK
theorem stamp_spec (h : NodeAt w a c inc M) (hK : ∀ w', Fr [a.mb] w w' → NodeAt w' a c inc M.stamp → K (.int .i64 (wr1 M.stamps)) w') : CallsN Tryz.prog 116 [.pointer (some ⟨a.mb, 0, none⟩)] w K := by
 have cw := cur w
 have h1 := h.mm
 have hl := lt_of_get _ _ h1
 obtain ⟨x, hx⟩ : ∃ x, x = IntKind.i64.wrap (M.stamps + 1) := ⟨_, rfl⟩
 refine call116 ?_
 simp (maxSteps:=9^7)(disch:=first|assumption|(simp only[dz];first|done|assumption|omega)|omega|apply_rules[Fr.refl,Fr.alloc,Fr.drew]|rfl) only [↓gd,gp,Nat.reduceAdd,Nat.reduceEqDiff, ↓hk116, h1, ← hx]
 have e : wr1 M.stamps = x := hx.symm
 rw [e] at hK
 refine hK _ fr_ ?_
 unfold Mem.stamp
 rw [e]
 exact h.memS (live := M.live) (stamps := x) (ins := M.ins) (by simp (maxSteps:=9^7)(disch:=first|assumption|(simp only[dz];first|done|assumption|omega)|omega|apply_rules[Fr.refl,Fr.alloc,Fr.drew]|rfl) only [↓gsd,gs,gv,Nat.reduceAdd,Nat.reduceEqDiff]; rfl) fr_
end
def Mem.zero (c : Cfg) (live : Bool) (x : Int) : Mem := ⟨live, ⟨[], 0, 0⟩, GS.new x c.gap, Rcn.new c.recent x, 0, 0⟩
set_option maxHeartbeats 4000000 in
theorem fresh_spec {c : Cfg} {live : Bool} {x : Int} {w : World} {K : Value → World → Prop} (hK : ∀ (mb tb gb gm rb rr : Nat) w', Fr [] w w' →
   (∀ y ∈ ([mb, tb, gb, gm, rb, rr] : List Nat), w.heap.size ≤ y ∧ y < w'.heap.size) → ([mb, tb, gb, gm, rb, rr] : List Nat).Nodup → w'.heap[mb]? = some (.cells ([.bool live, ptrV tb, ptrV gb, ptrV rb, .int .i64 0, .int .i64 0] : List Value).toArray 118 (0, 0)) → TabAt w' tb [tb] ⟨[], 0, 0⟩ → GapAt 179 krV w' gb gm (GS.new x c.gap) → RcnAt w' rb rr (Rcn.new c.recent x) → K (.pointer (some ⟨mb, 0, none⟩)) w') : CallsN Tryz.prog 44 [.agg (encCfg c).toArray, .bool live, .int .i64 x] w K := by
 have cw := cur w
 refine call44 ?_
 unfold encCfg
 simp (maxSteps:=9^7)(disch:=first|assumption|(simp only[dz];first|done|assumption|omega)|omega|apply_rules[Fr.refl,Fr.alloc,Fr.drew]|rfl) only [↓gd,gp,Nat.reduceAdd,Nat.reduceEqDiff, ↓hk44]
 generalize hW : World.alloc w _ = w1
 have hf1 : Fr [] w w1 := by rw [← hW]; exact fr_
 clear hW
 have cw1 := cur w1
 have hz1 := hf1.size
 refine new_spec fun tb w2 hf2 htb h2 => ?_
 have cw2 := cur w2
 have hf12 : Fr [] w1 w2 := (Fr.refl _ _).drew.trans' hf2
 have hz2 := hf12.size
 rw [size_drew] at htb
 refine ⟨.inl hf12, .inl hf12, ?_⟩
 refine newR (a := x) (m := c.gap) fun gb gm w3 hf3 hgb hgm h3 => ?_
 have cw3 := cur w3
 have hz3 := hf3.size
 refine ⟨.inl (hf12.trans' hf3), ?_⟩
 refine rnew_spec (m := c.recent) (s := x) fun rb rr w4 hf4 hrb hrr h4 => ?_
 have cw4 := cur w4
 have hz4 := hf4.size
 simp (maxSteps:=9^7)(disch:=first|assumption|(simp only[dz];first|done|assumption|omega)|omega|apply_rules[Fr.refl,Fr.alloc,Fr.drew]|rfl) only [↓gd,gp,Nat.reduceAdd,Nat.reduceEqDiff, ↓hk44]
 have l1 := h2.lt tb (by simp)
 have l3 := (h3.frN hf4).lt
 have l3' := h3.lt
 have l4 := h4.lt
 refine hK w4.heap.size tb gb gm rb rr _ ((((hf1.trans' hf12).trans' hf3).trans' hf4).alloc _) ?_ ?_ (get_alloc_new _ _) (((h2.frN hf3).frN hf4).frN fr_) ((h3.frN hf4).frN fr_) (h4.frN fr_)
 ·intro y hy
  rw [size_alloc]
  simp only [List.mem_cons, List.not_mem_nil, or_false] at hy
  rcases hy with rfl | rfl | rfl | rfl | rfl | rfl <;> constructor <;> omega
 ·simp only [List.nodup_cons, List.mem_cons, List.not_mem_nil, or_false, not_or, not_false_eq_true, List.nodup_nil, and_true]
  omega
set_option maxHeartbeats 4000000 in
theorem newN_spec {c : Cfg} {w : World} {K : Value → World → Prop} (hK : ∀ (a : Lay) w', Fr [] w w' → (∀ y ∈ a.all, w.heap.size ≤ y) → NodeAt w' a c.held 1 (Mem.zero c.held true 0) → K (.pointer (some ⟨a.nb, 0, none⟩)) w') : CallsN Tryz.prog 15 [.agg (encCfg c).toArray] w K := by
 have cw := cur w
 refine call15 ?_
 unfold encCfg
 simp (maxSteps:=9^7)(disch:=first|assumption|(simp only[dz];first|done|assumption|omega)|omega|apply_rules[Fr.refl,Fr.alloc,Fr.drew]|rfl) only [↓gd,gp,Nat.reduceAdd,Nat.reduceEqDiff, ↓hk15]
 generalize hW : World.alloc w _ = w1
 have hf1 : Fr [] w w1 := by rw [← hW]; exact fr_
 have g1 : w1.heap[w.heap.size]? = some (.cells (encCfg c).toArray 25 (0, 0)) := by rw [← hW]; exact get_alloc_new _ _
 clear hW
 have cw1 := cur w1
 have hz1 := hf1.size
 refine held_spec (c := c) fun w2 hf2 => ?_
 have cw2 := cur w2
 have hz2 := hf2.size
 have g2 := hf2.getN g1
 have l2 := lt_of_get _ _ g2
 unfold encCfg at g2 ⊢
 simp (maxSteps:=9^7)(disch:=first|assumption|(simp only[dz];first|done|assumption|omega)|omega|apply_rules[Fr.refl,Fr.alloc,Fr.drew]|rfl) only [↓gd,gp,Nat.reduceAdd,Nat.reduceEqDiff, ↓hk15, g2]
 generalize hW : World.setB w2 _ _ = w3
 have hf3 : Fr [] w w3 := by rw [← hW]; exact ((hf1.trans' hf2).setB _ _ (.inr (Nat.le_refl _)))
 have hz3 : w3.heap.size = w2.heap.size := by rw [← hW]; exact size_setB ..
 clear hW
 have cw3 := cur w3
 refine fresh_spec (c := c.held) (live := true) (x := 0) fun mb tb gb gm rb rr w4 hf4 hall hnd g4 h4 h4g h4r => ?_
 have cw4 := cur w4
 have hf34 : Fr [] w3 w4 := (Fr.refl _ _).drew.trans' hf4
 have hz4 := hf34.size
 refine ⟨.inl hf34, ?_⟩
 simp (maxSteps:=9^7)(disch:=first|assumption|(simp only[dz];first|done|assumption|omega)|omega|apply_rules[Fr.refl,Fr.alloc,Fr.drew]|rfl) only [↓gd,gp,Nat.reduceAdd,Nat.reduceEqDiff, ↓hk15]
 have hF : Fr [] w (w4.alloc (.cells ([.int .i64 c.held.nodes, .int .i64 c.held.bytes, .int .i64 c.held.spans, .int .i64 c.held.gap, .int .i64 c.held.recent, .int .i64 c.held.vers, .int .i64 c.held.prot, .int .i64 c.held.retr, .int .i64 1, .pointer (some ⟨mb, 0, none⟩)] : List Value).toArray 92)) := (hf3.trans' hf34).alloc _
 simp only [size_drew, List.mem_cons, List.not_mem_nil, or_false, forall_eq_or_imp, forall_eq] at hall
 simp only [List.nodup_cons, List.mem_cons, List.not_mem_nil, or_false, not_or, not_false_eq_true, List.nodup_nil, and_true] at hnd
 refine hK ⟨w4.heap.size, mb, tb, [tb], gb, gm, rb, rr⟩ _ hF ?_ ⟨get_alloc_new _ _, ?_, h4.frN fr_, h4g.frN fr_, h4r.frN fr_, ?_, ?_, by simp [Mem.zero, GS.new]⟩
 ·intro y hy
  unfold Lay.all Lay.fix at hy
  simp only [List.cons_append, List.nil_append, List.mem_cons, List.not_mem_nil, or_false] at hy
  omega
 ·exact (fr_ : Fr [] w4 (w4.alloc _)).getN g4
 ·unfold Lay.fix
  simp only [List.nodup_cons, List.mem_cons, List.not_mem_nil, or_false, not_or, not_false_eq_true, List.nodup_nil, and_true]
  omega
 ·intro y hy
  unfold Lay.fix at hy
  simp only [List.mem_cons, List.not_mem_nil, or_false] at hy ⊢
  omega
end Go.Proofs.YtomlgkecckffeaaGreat
