/- What a node keeps of its table, step by step. Entries are closed: what a table holds behind it. A node: settle; the closures of lay. -/
import Derived.Test.YtomlgkecckffeaaGreatW3
set_option linter.unusedVariables false
set_option linter.unusedSimpArgs false
set_option maxRecDepth 10000
namespace Go.Proofs.YtomlgkecckffeaaGreat
open Go.VW
theorem least {p : Nat → Prop} (h : ∃ n, p n) : ∃ n, p n ∧ ∀ m, p m → n ≤ m := by
 obtain ⟨n, hn⟩ := h
 induction n using Nat.strongRecOn with
 | _ n ih =>
   by_cases q : ∃ m, m < n ∧ p m
   ·obtain ⟨m, h1, h2⟩ := q; exact ih m h1 h2
   ·exact ⟨n, hn, fun m hm => Nat.le_of_not_lt fun hl => q ⟨m, hl, hm⟩⟩
theorem loop_fuel {body : Env → World → (Env → World → Prop) → Prop} {e : Env} {w : World} (I : Nat → Env → World → Prop) (n : Nat) (h0 : I n e w)
  (hr : ∀ n e w k, I n e w → (∀ m e' w', m < n → I m e' w' → k e' w') → body e w k) : LoopP body e w := by
 classical
 refine loop_intro (fun e w => ∃ n, I n e w) (fun e w => if h : ∃ n, I n e w then Classical.choose (least h) else 0) ⟨n, h0⟩ ?_
 rintro e w k h hk
 have hs := Classical.choose_spec (least h)
 refine hr _ e w k hs.1 fun m e' w' hm hI => hk e' w' ⟨m, hI⟩ ?_
 simp only [dif_pos h, dif_pos (show ∃ n, I n e' w' from ⟨m, hI⟩)]
 exact Nat.lt_of_le_of_lt ((Classical.choose_spec (least (show ∃ n, I n e' w' from ⟨m, hI⟩))).2 m hI) hm
theorem nx_xcallB {P : Program} {f : FuncId} (hc : ∀ args w, (callFunc f args).run P w = .ok (.enter f args) w) (first caps : Array Value) (args : List Value) (w : World) (K : Value → World → Prop) :
  nx P (xcall (.func (.func f) first caps) args) w K = CallsN P f (first.toList ++ args ++ caps.toList) w K := by
 unfold nx xcall CallsN
 simp only [Deferred.ofValue, sem_pure_bind, invoke, hc]
 have : first ++ args.toArray ++ caps = (first.toList ++ args ++ caps.toList).toArray := by simp
 rw [this]
 rfl
theorem takeP_mkF {P : Program} {M : Option (List Nat)} {w0 : World} (fn : Fn) (a c : Array Value) (K : Value → Prop) : takeP P (FrX M w0) (xv (Instr.makeFunc fn a c)) K = K (.func fn a c) := takeP_xv (fun w => run_makeFunc fn a c w) K
/-- The table's part of what always holds. -/
structure TI (T : Tab) (B : Nat) (n : Int) : Prop where
 tok : TOK T B
 nd : InsND T
 le : ∀ k lo x, T.at k lo = some x → x.ins ≤ n
theorem TI.mono {T : Tab} {B B' : Nat} {n n' : Int} (h : TI T B n) (hb : B ≤ B') (hn : n ≤ n') : TI T B' n' := ⟨h.tok.mono hb, h.nd, fun k lo x q => by have := h.le k lo x q; omega⟩
theorem TI.drop {T : Tab} {B : Nat} {n : Int} (h : TI T B n) (hB : B ≤ 1000000000) (k : ByteArray) (lo : Int) : TI (T.drop k lo) B n := by
 refine ⟨(h.tok.drop hB k lo).1, fun v => ?_, fun k' lo' x q => ?_⟩
 ·cases q : getE (T.row k) lo with
  | none => rw [drop_none q]; exact h.nd v
  | some y => have h1 := sumR_drop (cIns v) q; have := h.nd v; omega
 ·rw [at_drop h.tok] at q
  split at q
  ·cases q
  ·exact h.le _ _ _ q
theorem TI.put {T : Tab} {B : Nat} {n : Int} (h : TI T B n) (hB : B ≤ 1000000000) {e y : Ent} (hg : goodE e = true) (hy : T.at e.key e.lo = some y) (hc : costN e = costN y) (hi : y.ins = e.ins) : TI (T.putR e) B n := by
 have ht := h.tok.put_same hB hg hy hc
 refine ⟨ht, h.nd.putL h.tok hg hy hi, fun k' lo' x q => ?_⟩
 rw [at_put h.tok hg (ht.sort _)] at q
 split at q
 ·cases q; rw [← hi]; exact h.le _ _ _ hy
 ·exact h.le _ _ _ q
theorem sumE_zero {f : Ent → Nat} {l : Ents} (h : ∀ x ∈ l, f x = 0) : sumE f l = 0 := by
 induction l with
 | nil => rfl
 | cons a l ih => rw [sumE_cons, h a (List.mem_cons_self ..), ih fun x hx => h x (List.mem_cons_of_mem _ hx)]
theorem TI.new {T : Tab} {B : Nat} {n : Int} (h : TI T B n) (hB : B ≤ 999999000) {e : Ent} (hg : goodE e = true) (hy : T.at e.key e.lo = none) (hi : n < e.ins) : TI (T.putR e) (B + costN e) e.ins := by
 have ht := (h.tok.put_new hB hg hy).1
 refine ⟨ht, fun v => ?_, fun k' lo' x q => ?_⟩
 ·have e1 : T.putR e = T.put e := by unfold Tab.putR; rw [if_pos hg]
  have h1 := sumR_put (cIns v) (e := e) h.tok.nd
  rw [drop_none hy] at h1
  rw [e1, h1]
  have h3 := h.nd v
  by_cases q : e.ins = v
  ·have : sumR (cIns v) T.rows = 0 := by
    rw [← sumE_list _ h.tok.nd]
    refine sumE_zero fun x hx => if_neg fun q' => ?_
    have := h.le _ _ _ (list_row h.tok hx).1
    omega
   rw [this]; unfold cIns; split <;> omega
  ·have : cIns v e = 0 := if_neg q
   omega
 ·rw [at_put h.tok hg (ht.sort _)] at q
  split at q
  ·cases q; exact Int.le_refl _
  ·have := h.le _ _ _ q; omega
/-- No two of a list lie at one place. -/
def PlaceND (l : Ents) : Prop := l.Pairwise fun x y => ¬ (x.key = y.key ∧ x.lo = y.lo)
theorem TI.placeL {T : Tab} {B : Nat} {n : Int} (h : TI T B n) : PlaceND T.list := by
 have h1 := h.nd.list h.tok
 unfold PlaceND
 rw [List.Nodup, List.pairwise_map] at h1
 refine h1.imp_of_mem ?_
 intro x y hx hy hne ⟨q1, q2⟩
 have e1 := (list_row h.tok hx).1
 have e2 := (list_row h.tok hy).1
 rw [q1, q2, e2] at e1
 cases e1
 exact hne rfl
theorem TOK.placeR {T : Tab} {B : Nat} (h : TOK T B) (k : ByteArray) : PlaceND (T.row k) := (h.sort k).imp fun h q => by omega
theorem TOK.mem_at {T : Tab} {B : Nat} (h : TOK T B) {k : ByteArray} {x : Ent} (hx : x ∈ T.row k) : T.at x.key x.lo = some x := (list_row h (mem_list.2 ⟨k, hx⟩)).1
end Go.Proofs.YtomlgkecckffeaaGreat

set_option linter.unusedVariables false
set_option linter.unusedSimpArgs false
set_option maxRecDepth 10000
namespace Go.Proofs.YtomlgkecckffeaaGreat
open Go.VW
def closed1 (at_ : Ent → Option Int) (e : Ent) : Option Ent :=
 if e.hi ≠ openI then some e else match at_ e with
  | none => some e
  | some n => closeE e n
theorem goodE_hi {e : Ent} (h : goodE e = true) {x : Int} (h1 : e.lo < x) (h2 : x ≤ 1099511627777) : goodE { e with hi := x } = true := by
 unfold goodE at h ⊢
 simp only at *
 split at h
 ·cases h
 ·rename_i q
  rw [if_neg q]
  split at h
  ·cases h
  ·rename_i q
   rw [if_neg q]
   simp only [Bool.and_eq_true, Bool.or_eq_true, decide_eq_true_eq] at h ⊢
   exact ⟨⟨h.1.1, h1⟩, .inr h2⟩
theorem TI.closeStep {T : Tab} {B : Nat} {n : Int} (h : TI T B n) (hB : B ≤ 1000000000) {e : Ent} (he : T.at e.key e.lo = some e) (at_ : Ent → Option Int) :
  TI (closeStep at_ T e) B n ∧ ∀ k lo, (closeStep at_ T e).at k lo = if e.key = k ∧ e.lo = lo then closed1 at_ e else T.at k lo := by
 have hg := (list_row h.tok (h.tok.at_list.1 he).1).2
 have same : ∀ k lo, T.at k lo = if e.key = k ∧ e.lo = lo then some e else T.at k lo := fun k lo => by
  split
  ·rename_i q; rw [← q.1, ← q.2, he]
  ·rfl
 unfold Go.Proofs.YtomlgkecckffeaaGreat.closeStep closed1
 by_cases q : e.hi ≠ openI
 ·rw [if_pos q, if_pos q]; exact ⟨h, same⟩
 rw [if_neg q, if_neg q]
 cases ha : at_ e with
 | none => exact ⟨h, same⟩
 | some m =>
   simp only
   cases hc : closeE e m with
   | none =>
     exact ⟨h.drop hB _ _, fun k lo => by rw [at_drop h.tok]⟩
   | some f =>
     unfold closeE at hc
     rw [if_neg q] at hc
     split at hc
     ·cases hc
     ·rename_i q2
      cases hc
      have hg' : goodE { e with hi := min m 1099511627777 } = true := goodE_hi hg (by omega) (by omega)
      have ht := h.put hB (e := { e with hi := min m 1099511627777 }) hg' he rfl rfl
      exact ⟨ht, fun k lo => by rw [at_put h.tok hg' (ht.tok.sort _)]⟩
theorem TI.closeL {B : Nat} {n : Int} (hB : B ≤ 1000000000) (at_ : Ent → Option Int) : ∀ {l : Ents} {T : Tab}, TI T B n → PlaceND l → (∀ x ∈ l, T.at x.key x.lo = some x) →
  TI (closeL at_ T l) B n ∧ (∀ k lo, (∀ x ∈ l, ¬ (x.key = k ∧ x.lo = lo)) → (closeL at_ T l).at k lo = T.at k lo) ∧ ∀ x ∈ l, (closeL at_ T l).at x.key x.lo = closed1 at_ x
 | [], T, h, _, _ => ⟨h, fun _ _ _ => rfl, fun x hx => absurd hx (by simp)⟩
 | e :: l, T, h, hp, ha => by
   obtain ⟨p1, p2⟩ := List.pairwise_cons.1 hp
   obtain ⟨h1, h2⟩ := h.closeStep hB (ha e (List.mem_cons_self ..)) at_
   have ha' : ∀ x ∈ l, (Go.Proofs.YtomlgkecckffeaaGreat.closeStep at_ T e).at x.key x.lo = some x := fun x hx => by
    rw [h2, if_neg (p1 x hx)]
    exact ha x (List.mem_cons_of_mem _ hx)
   obtain ⟨i1, i2, i3⟩ := TI.closeL hB at_ h1 p2 ha'
   have e0 : Go.Proofs.YtomlgkecckffeaaGreat.closeL at_ T (e :: l) = Go.Proofs.YtomlgkecckffeaaGreat.closeL at_ (Go.Proofs.YtomlgkecckffeaaGreat.closeStep at_ T e) l := rfl
   rw [e0]
   refine ⟨i1, fun k lo hk => ?_, fun x hx => ?_⟩
   ·rw [i2 k lo fun x hx => hk x (List.mem_cons_of_mem _ hx), h2, if_neg (hk e (List.mem_cons_self ..))]
   ·rcases List.mem_cons.1 hx with rfl | hx
    ·rw [i2 x.key x.lo fun y hy q => p1 y hy ⟨q.1.symm, q.2.symm⟩, h2, if_pos ⟨rfl, rfl⟩]
    ·exact i3 x hx
end Go.Proofs.YtomlgkecckffeaaGreat

set_option linter.unusedVariables false
set_option linter.unusedSimpArgs false
set_option maxRecDepth 10000
namespace Go.Proofs.YtomlgkecckffeaaGreat
open Go.VW
set_option maxHeartbeats 8000000 in
theorem settle_spec {w : World} {a : Lay} {c : Cfg} {inc : Int} {M : Mem} {e : Ent} {read : Int} {K : Value → World → Prop} (h : NodeAt w a c inc M)
  (hK : ∀ w', Fr [] w w' → K (.agg (encFct (M.settle e read)).toArray) w') : CallsN Tryz.prog 50 [.pointer (some ⟨a.nb, 0, none⟩), .agg (encFct e).toArray, .int .i64 read] w K := by
 have cw := cur w
 obtain ⟨x, hx⟩ : ∃ x, x = IntKind.i64.wrap (read + 1) := ⟨_, rfl⟩
 have hx' : wr1 read = x := hx.symm
 unfold Mem.settle at hK
 rw [hx'] at hK
 refine call50 ?_
 unfold encFct
 simp (maxSteps:=9^7)(disch:=first|assumption|(simp only[dz];first|done|assumption|omega)|omega|apply_rules[Fr.refl,Fr.alloc,Fr.drew]|rfl) only [↓gd,gp,Nat.reduceAdd,Nat.reduceEqDiff, ↓c50_5_s, ↓c50_4_s, ↓c50_10_s, ↓c50_13_s, ↓c50_12_s, ↓c50_11_s, ↓c50_9_s, ↓c50_8_s, ↓c50_7_s, ↓c50_6_s, ↓c50_3_s, ↓c50_2_s, ↓c50_16_s, ↓c50_15_s, ↓c50_14_s, ↓c50_s, ↓w3t_50]
 generalize hW : World.alloc (World.alloc w _) _ = w1
 have hf1 : Fr [] w w1 := by rw [← hW]; (repeat first|exact Fr.refl _ _|assumption|with_reducible first|apply Fr.alloc|apply Fr.drew|refine Fr.setB ?_ _ _ (.inr (by first|omega|(simp only[gz];omega)))|refine Fr.setB ?_ _ _ (.inl (by first|assumption|simp))|refine Fr.trans' ?_ (by assumption))
 have hz1 : w1.heap.size = w.heap.size + 1 + 1 := by rw [← hW]; simp only [gz]
 have g4 : w1.heap[w.heap.size]? = some (.cells (encFct e).toArray 34 (0, 0)) := by rw [← hW]; simp (maxSteps:=9^7)(disch:=first|assumption|(simp only[dz];first|done|assumption|omega)|omega|apply_rules[Fr.refl,Fr.alloc,Fr.drew]|rfl) only [↓gsd,gs,gv,Nat.reduceAdd,Nat.reduceEqDiff] <;> rfl
 have g6 : w1.heap[w.heap.size + 1]? = some (.cells (encFct entZ).toArray 34 (0, 0)) := by rw [← hW]; simp (maxSteps:=9^7)(disch:=first|assumption|(simp only[dz];first|done|assumption|omega)|omega|apply_rules[Fr.refl,Fr.alloc,Fr.drew]|rfl) only [↓gsd,gs,gv,Nat.reduceAdd,Nat.reduceEqDiff] <;> rfl
 clear hW
 have cw1 := cur w1
 have h1 := h.frN hf1
 have hd := h1.hd
 have hm := h1.mm
 have l4 := lt_of_get _ _ g4
 have l6 := lt_of_get _ _ g6
 have n1 : w.heap.size ≠ w.heap.size + 1 := by omega
 have n2 : w.heap.size + 1 ≠ w.heap.size := by omega
 have fin : ∀ (e' : Env) (w' : World) (n : Int), Fr [] w1 w' → e' 4 = .pointer (some ⟨w.heap.size, 0, none⟩) → e' 6 = .pointer (some ⟨w.heap.size + 1, 0, none⟩) → e' 7 = .int .i64 n → (∀ w'', Fr [] w w'' → K (.agg (encFct ((closeE e n).getD entZ)).toArray) w'') →
   W3 Tryz.prog 80 V50 c50_4 (retQ Tryz.prog [.cell 6 34] K) e' w' := by
  intro e' w' n hf e4 e6 e7 hk
  have cw' := cur w'
  have hz' := hf.size
  have g4' := hf.getN g4
  have g6' := hf.getN g6
  unfold encFct at g4' g6'
  have hcl : ∀ (w2 : World) (K' : Value → World → Prop), (∀ w3, Fr [] w2 w3 → K' (.tuple ([.agg (encFct ((closeE e n).getD entZ)).toArray, .bool (closeE e n).isSome] : List Value).toArray) w3) → CallsN Tryz.prog 123 [.agg (encFct e).toArray, .int .i64 n] w2 K' := fun w2 K' hk' => close_spec hk'
  generalize (closeE e n).getD entZ = f at hk hcl
  unfold encFct at hcl hk
  simp (maxSteps:=9^7)(disch:=first|assumption|(simp only[dz];first|done|assumption|omega)|omega|apply_rules[Fr.refl,Fr.alloc,Fr.drew]|rfl) only [↓gd,gp,Nat.reduceAdd,Nat.reduceEqDiff, ↓hk50, e4, e6, e7, g4', g6']
  refine hcl _ _ fun w3 hf3 => ?_
  have cw3 := cur w3
  have hz3 := hf3.size
  have g4'' := hf3.getN g4'
  have g6'' := hf3.getN g6'
  simp (maxSteps:=9^7)(disch:=first|assumption|(simp only[dz];first|done|assumption|omega)|omega|apply_rules[Fr.refl,Fr.alloc,Fr.drew]|rfl) only [↓gd,gp,Nat.reduceAdd,Nat.reduceEqDiff, ↓hk50, e4, e6, e7, g4'', g6'', n1, n2]
  refine hk _ (Fr.trans ((hf1.trans' hf).trans' hf3) (M' := [w.heap.size, w.heap.size + 1]) (by (repeat first|exact Fr.refl _ _|assumption|with_reducible first|apply Fr.alloc|apply Fr.drew|refine Fr.setB ?_ _ _ (.inr (by first|omega|(simp only[gz];omega)))|refine Fr.setB ?_ _ _ (.inl (by first|assumption|simp))|refine Fr.trans' ?_ (by assumption))) (fun x hx => by simp at hx; omega))
 have same : ∀ (e' : Env) (w' : World), Fr [] w1 w' → K (.agg (encFct e).toArray) (w'.setB (w.heap.size + 1) (.cells (encFct e).toArray 34 (0, 0))) → True := fun _ _ _ _ => trivial
 have g4u := g4
 have g6u := g6
 unfold encFct at g4u g6u
 by_cases q1 : e.hi = 4611686018427387904
 ·have d1 : decide (e.hi = 4611686018427387904) = true := decide_eq_true q1
  have q1' : ¬ (e.hi ≠ openI) := fun q => q q1
  cases ql : M.live with
  | false =>
    rw [if_neg (by rw [ql]; simp; exact q1), if_neg (by rw [ql]; simp)] at hK
    rw [ql] at hm
    simp (maxSteps:=9^7)(disch:=first|assumption|(simp only[dz];first|done|assumption|omega)|omega|apply_rules[Fr.refl,Fr.alloc,Fr.drew]|rfl) only [↓gd,gp,Nat.reduceAdd,Nat.reduceEqDiff, ↓c50_5_s, ↓c50_10_s, ↓c50_13_s, ↓c50_12_s, ↓c50_11_s, ↓c50_9_s, ↓c50_8_s, ↓c50_7_s, ↓c50_6_s, ↓c50_3_s, ↓c50_2_s, ↓c50_16_s, ↓c50_15_s, ↓c50_14_s, ↓c50_1_s, ↓c50_s, ↓w3t_50, hd, hm, g4u, d1, ← hx]
    exact fin _ _ x (by (repeat first|exact Fr.refl _ _|assumption|with_reducible first|apply Fr.alloc|apply Fr.drew|refine Fr.setB ?_ _ _ (.inr (by first|omega|(simp only[gz];omega)))|refine Fr.setB ?_ _ _ (.inl (by first|assumption|simp))|refine Fr.trans' ?_ (by assumption))) rfl rfl rfl hK
  | true =>
    rw [ql] at hm hK
    simp (maxSteps:=9^7)(disch:=first|assumption|(simp only[dz];first|done|assumption|omega)|omega|apply_rules[Fr.refl,Fr.alloc,Fr.drew]|rfl) only [↓gd,gp,Nat.reduceAdd,Nat.reduceEqDiff, ↓c50_5_s, ↓c50_10_s, ↓c50_13_s, ↓c50_12_s, ↓c50_11_s, ↓c50_9_s, ↓c50_8_s, ↓c50_7_s, ↓c50_6_s, ↓c50_3_s, ↓c50_2_s, ↓c50_16_s, ↓c50_15_s, ↓c50_14_s, ↓c50_1_s, ↓c50_s, ↓w3t_50, hd, hm, g4u, d1, ← hx]
    refine atR h1.gap ?_
    by_cases q2 : M.g.at_ ≤ read
    ·rw [if_pos (.inr ⟨rfl, q2⟩)] at hK
     have d2 : decide (M.g.at_ ≤ read) = true := decide_eq_true q2
     simp (maxSteps:=9^7)(disch:=first|assumption|(simp only[dz];first|done|assumption|omega)|omega|apply_rules[Fr.refl,Fr.alloc,Fr.drew]|rfl) only [↓gd,gp,Nat.reduceAdd,Nat.reduceEqDiff, ↓c50_5_s, ↓c50_10_s, ↓c50_13_s, ↓c50_12_s, ↓c50_11_s, ↓c50_9_s, ↓c50_8_s, ↓c50_7_s, ↓c50_6_s, ↓c50_3_s, ↓c50_2_s, ↓c50_16_s, ↓c50_15_s, ↓c50_14_s, ↓c50_1_s, ↓c50_s, ↓w3t_50, hd, hm, g4u, g6u, d1, d2, n1, n2, ← hx]
     exact hK _ (Fr.trans hf1 (M' := [w.heap.size + 1]) (by (repeat first|exact Fr.refl _ _|assumption|with_reducible first|apply Fr.alloc|apply Fr.drew|refine Fr.setB ?_ _ _ (.inr (by first|omega|(simp only[gz];omega)))|refine Fr.setB ?_ _ _ (.inl (by first|assumption|simp))|refine Fr.trans' ?_ (by assumption))) (fun x hx => by simp at hx; omega))
    ·have d2 : decide (M.g.at_ ≤ read) = false := decide_eq_false q2
     rw [if_neg (by rintro (q | q); exact q q1; exact q2 q.2)] at hK
     simp (maxSteps:=9^7)(disch:=first|assumption|(simp only[dz];first|done|assumption|omega)|omega|apply_rules[Fr.refl,Fr.alloc,Fr.drew]|rfl) only [↓gd,gp,Nat.reduceAdd,Nat.reduceEqDiff, ↓c50_5_s, ↓c50_10_s, ↓c50_13_s, ↓c50_12_s, ↓c50_11_s, ↓c50_9_s, ↓c50_8_s, ↓c50_7_s, ↓c50_6_s, ↓c50_3_s, ↓c50_2_s, ↓c50_16_s, ↓c50_15_s, ↓c50_14_s, ↓c50_1_s, ↓c50_s, ↓w3t_50, hd, hm, g4u, d1, d2, ← hx]
     refine covers_spec h1.rcn ?_
     cases q3 : M.R.covers read with
     | false =>
       rw [q3, if_neg (by simp)] at hK
       simp (maxSteps:=9^7)(disch:=first|assumption|(simp only[dz];first|done|assumption|omega)|omega|apply_rules[Fr.refl,Fr.alloc,Fr.drew]|rfl) only [↓gd,gp,Nat.reduceAdd,Nat.reduceEqDiff, ↓c50_5_s, ↓c50_10_s, ↓c50_13_s, ↓c50_12_s, ↓c50_11_s, ↓c50_9_s, ↓c50_8_s, ↓c50_7_s, ↓c50_6_s, ↓c50_3_s, ↓c50_2_s, ↓c50_16_s, ↓c50_15_s, ↓c50_14_s, ↓c50_1_s, ↓c50_s, ↓w3t_50, hd, hm, g4u, d1, d2, ← hx]
       exact fin _ _ x (by (repeat first|exact Fr.refl _ _|assumption|with_reducible first|apply Fr.alloc|apply Fr.drew|refine Fr.setB ?_ _ _ (.inr (by first|omega|(simp only[gz];omega)))|refine Fr.setB ?_ _ _ (.inl (by first|assumption|simp))|refine Fr.trans' ?_ (by assumption))) rfl rfl rfl hK
     | true =>
       rw [q3, if_pos (by simp)] at hK
       simp (maxSteps:=9^7)(disch:=first|assumption|(simp only[dz];first|done|assumption|omega)|omega|apply_rules[Fr.refl,Fr.alloc,Fr.drew]|rfl) only [↓gd,gp,Nat.reduceAdd,Nat.reduceEqDiff, ↓c50_5_s, ↓c50_10_s, ↓c50_13_s, ↓c50_12_s, ↓c50_11_s, ↓c50_9_s, ↓c50_8_s, ↓c50_7_s, ↓c50_6_s, ↓c50_3_s, ↓c50_2_s, ↓c50_16_s, ↓c50_15_s, ↓c50_14_s, ↓c50_1_s, ↓c50_s, ↓w3t_50, hd, hm, g4u, d1, d2, ← hx]
       refine first_spec (h1.frN (by (repeat first|exact Fr.refl _ _|assumption|with_reducible first|apply Fr.alloc|apply Fr.drew|refine Fr.setB ?_ _ _ (.inr (by first|omega|(simp only[gz];omega)))|refine Fr.setB ?_ _ _ (.inl (by first|assumption|simp))|refine Fr.trans' ?_ (by assumption)))).rcn fun w2 hf2 => ?_
       have cw2 := cur w2
       have hz2 := hf2.size
       have hf2' : Fr [] w1 w2 := by first | exact hf2 | exact (Fr.refl _ _).drew.trans' hf2
       have g4'' := hf2'.getN g4u
       have g6'' := hf2'.getN g6u
       have l6'' := lt_of_get _ _ g6''
       cases q4 : M.R.first e.key read with
       | none =>
         rw [q4] at hK
         simp (maxSteps:=9^7)(disch:=first|assumption|(simp only[dz];first|done|assumption|omega)|omega|apply_rules[Fr.refl,Fr.alloc,Fr.drew]|rfl) only [↓gd,gp,Nat.reduceAdd,Nat.reduceEqDiff, ↓c50_5_s, ↓c50_10_s, ↓c50_13_s, ↓c50_12_s, ↓c50_11_s, ↓c50_9_s, ↓c50_8_s, ↓c50_7_s, ↓c50_6_s, ↓c50_3_s, ↓c50_2_s, ↓c50_16_s, ↓c50_15_s, ↓c50_14_s, ↓c50_1_s, ↓c50_s, ↓w3t_50, g4'', g6'', n1, n2]
         exact hK _ (Fr.trans (hf1.trans' hf2') (M' := [w.heap.size + 1]) (by (repeat first|exact Fr.refl _ _|assumption|with_reducible first|apply Fr.alloc|apply Fr.drew|refine Fr.setB ?_ _ _ (.inr (by first|omega|(simp only[gz];omega)))|refine Fr.setB ?_ _ _ (.inl (by first|assumption|simp))|refine Fr.trans' ?_ (by assumption))) (fun x hx => by simp at hx; omega))
       | some n =>
         rw [q4] at hK
         simp (maxSteps:=9^7)(disch:=first|assumption|(simp only[dz];first|done|assumption|omega)|omega|apply_rules[Fr.refl,Fr.alloc,Fr.drew]|rfl) only [↓gd,gp,Nat.reduceAdd,Nat.reduceEqDiff, ↓c50_5_s, ↓c50_10_s, ↓c50_13_s, ↓c50_12_s, ↓c50_11_s, ↓c50_9_s, ↓c50_8_s, ↓c50_7_s, ↓c50_6_s, ↓c50_3_s, ↓c50_2_s, ↓c50_16_s, ↓c50_15_s, ↓c50_14_s, ↓c50_1_s, ↓c50_s, ↓w3t_50, g4'', g6'', n1, n2]
         exact fin _ _ n (by (repeat first|exact Fr.refl _ _|assumption|with_reducible first|apply Fr.alloc|apply Fr.drew|refine Fr.setB ?_ _ _ (.inr (by first|omega|(simp only[gz];omega)))|refine Fr.setB ?_ _ _ (.inl (by first|assumption|simp))|refine Fr.trans' ?_ (by assumption))) rfl rfl rfl hK
 ·have d1 : decide (e.hi = 4611686018427387904) = false := decide_eq_false q1
  rw [if_pos (.inl q1)] at hK
  simp (maxSteps:=9^7)(disch:=first|assumption|(simp only[dz];first|done|assumption|omega)|omega|apply_rules[Fr.refl,Fr.alloc,Fr.drew]|rfl) only [↓gd,gp,Nat.reduceAdd,Nat.reduceEqDiff, ↓c50_5_s, ↓c50_10_s, ↓c50_13_s, ↓c50_12_s, ↓c50_11_s, ↓c50_9_s, ↓c50_8_s, ↓c50_7_s, ↓c50_6_s, ↓c50_3_s, ↓c50_2_s, ↓c50_16_s, ↓c50_15_s, ↓c50_14_s, ↓c50_1_s, ↓c50_s, ↓w3t_50, hd, hm, g4u, g6u, d1, n1, n2]
  exact hK _ (Fr.trans hf1 (M' := [w.heap.size + 1]) (by (repeat first|exact Fr.refl _ _|assumption|with_reducible first|apply Fr.alloc|apply Fr.drew|refine Fr.setB ?_ _ _ (.inr (by first|omega|(simp only[gz];omega)))|refine Fr.setB ?_ _ _ (.inl (by first|assumption|simp))|refine Fr.trans' ?_ (by assumption))) (fun x hx => by simp at hx; omega))
end Go.Proofs.YtomlgkecckffeaaGreat
