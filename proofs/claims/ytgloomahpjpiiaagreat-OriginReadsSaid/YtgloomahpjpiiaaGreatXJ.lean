/- The origin and the reference side by side. The origin and the reference side by side, in memory: a message more. OriginPlays walked. -/
import Derived.Test.YtgloomahpjpiiaaGreatXG
set_option linter.unusedVariables false
set_option linter.unusedSimpArgs false
set_option maxRecDepth 10000
namespace Go.Proofs.YtgloomahpjpiiaaGreat.Or
open Go.VW
/-- The origin stands where other blocks change. -/
theorem OrAt.frM {w w' : World} {a : Ad} {Wr Rd : List Nat} {o : Ori} (h : OrAt w a Wr Rd o) {M : List Nat} (hf : Fr M w w') (hM : ∀ x ∈ M, x ≠ a.ob ∧ x ≠ a.sb ∧ x ≠ a.sm ∧ x ≠ a.qb ∧ x ∉ Wr ∧ x ∉ Rd ∧ ∀ cs fr, w.heap[x]? ≠ some (.cells cs 94 fr)) : OrAt w' a Wr Rd o := by
 obtain ⟨h1, h2, h3, h4, h5, h6, h7⟩ := h
 refine ⟨hf.get h1 (fun e => (hM _ e).1 rfl), storeFrM h2 hf (fun e => (hM _ e).2.1 rfl) (fun e => (hM _ e).2.2.1 rfl) (fun x hx => (hM x hx).2.2.2.2.2.2), h3.fr hf (fun x hx => ⟨(hM x hx).2.2.2.2.1, (hM x hx).2.2.2.2.2.1⟩), ?_, h5, h6, h7⟩
 rw [hf.keep _ h4.lt (fun e => (hM _ e).2.2.2.1 rfl)]; exact h4
structure KeepO (w : World) (a : Ad) (Wr Rd : List Nat) (b : Nat) : Prop extends Keep w a Wr Rd b where
 ob : b ≠ a.ob
theorem KeepO.step {w w' : World} {a : Ad} {Wr Rd Wr' Rd' : List Nat} {b : Nat} (h : KeepO w a Wr Rd b) (hs : Step w w' a Wr Rd Wr' Rd') : KeepO w' a Wr' Rd' b := ⟨h.toKeep.step hs, h.ob⟩
theorem KeepO.lts {w w' : World} {a : Ad} {Wr Rd : List Nat} {b : Nat} (h : KeepO w a Wr Rd b) (hz : w.heap.size ≤ w'.heap.size) : KeepO w' a Wr Rd b := ⟨⟨h.wr, h.rd, Nat.lt_of_lt_of_le h.lt hz, h.sb, h.sm, h.qb⟩, h.ob⟩
theorem OrAt.fresh {w w' : World} {a : Ad} {Wr Rd : List Nat} {o : Ori} (h : OrAt w a Wr Rd o) {b : Nat} (hb : w.heap.size ≤ b) (hl : b < w'.heap.size) : KeepO w' a Wr Rd b := by
 have h4 := h.lt4
 have hl' := h.lts
 exact ⟨⟨fun e => by have := hl' b (.inl e); omega, fun e => by have := hl' b (.inr e); omega, hl, by omega, by omega, by omega⟩, by omega⟩
theorem handle_cfg (o : Ori) (m : Msg) (ws : List St.Wr) (ks : List ByteArray) : (o.handle m ws ks).2.cfg = o.cfg := by
 have hc : (o.commit m ws).2.cfg = o.cfg := by
  unfold Ori.commit
  split
  ·rfl
  ·split
   ·rfl
   ·split <;> rfl
 unfold Ori.handle
 split
 ·split
  ·exact hc
  ·split
   ·rfl
   ·split
    ·rfl
    ·split <;> rfl
 ·rfl
theorem offOld {w0 w : World} {a : Ad} {Wr : List Nat} {m : Msg} {ws : List St.Wr} {ks : List ByteArray} (h : MsgAt w0 m ws ks) (y : Young w0 a Wr) : ws ≠ [] → ∀ x, x = a.sb ∨ x = a.sm ∨ x = a.qb → offV m.wv x := fun hne x hx a' n' c' e => by
 have hpos : 0 < ws.length := by cases ws with
  | nil => exact absurd rfl hne
  | cons _ _ => simp
 obtain ⟨bb, of', cap', hb1, hb2⟩ := h.dw.lt hpos
 rw [hb1] at e
 simp only [Value.slice.injEq, Option.some.injEq] at e
 rw [← e.1]
 have := y.1 x (by rcases hx with r | r | r <;> simp [r])
 show bb ≠ x
 omega
/-- The script. -/
structure Ran (w0 w : World) (a : Ad) (o : Ori) (Wr Rd : List Nat) : Prop where
 at_ : OrAt w a Wr Rd o
 y : Young w0 a Wr
 fr : Fr [] w0 w
theorem Ran.step {w0 w w' : World} {a : Ad} {o o' : Ori} {Wr Rd Wr' Rd' : List Nat} (h : Ran w0 w a o Wr Rd) (ha : OrAt w' a Wr' Rd' o') (hs : Step w w' a Wr Rd Wr' Rd') : Ran w0 w' a o' Wr' Rd' := ⟨ha, h.y.step h.fr.size hs, h.y.fr h.fr hs⟩
theorem Ran.frN {w0 w w' : World} {a : Ad} {o : Ori} {Wr Rd : List Nat} (h : Ran w0 w a o Wr Rd) (hf : Fr [] w w') : Ran w0 w' a o Wr Rd := ⟨h.at_.frN hf, h.y, h.fr.trans' hf⟩
/-- The origin and the reference tell the same. -/
structure Rel (o : Ori) (own : List (List St.Wr)) (Q : List Req) : Prop where
 hx : St.HistX o.st own
 L : o.L = own.map keysW
 req : ∀ s : Int, 0 ≤ s → s < 64 → o.req s = qOf Q s
 ql : Q.length = 64
 most : o.st.most = o.cfg.vers.toNat
 vs : 1 ≤ o.cfg.vers ∧ o.cfg.vers ≤ 64
 ns : 1 ≤ o.cfg.nodes ∧ o.cfg.nodes ≤ 8
 seqs : ∀ q ∈ Q, 0 ≤ q.seq ∧ q.seq ≤ 2147483647
 sum : (own.length : Int) ≤ (Q.map (·.seq)).sum
theorem sum_le (Q : List Req) (h : ∀ q ∈ Q, 0 ≤ q.seq ∧ q.seq ≤ 2147483647) : (Q.map (·.seq)).sum ≤ Q.length * 2147483647 := by
 induction Q with
 | nil => simp
 | cons q Q ih =>
   have h1 := h q (List.mem_cons_self ..)
   have h2 := ih fun x hx => h x (List.mem_cons_of_mem _ hx)
   simp only [List.map_cons, List.sum_cons, List.length_cons]
   omega
theorem sum_set : ∀ (Q : List Req) (s : Nat) (q q' : Req), Q[s]? = some q → ((Q.set s q').map (·.seq)).sum = (Q.map (·.seq)).sum - q.seq + q'.seq
 | [], s, q, q', h => by simp at h
 | x :: Q, 0, q, q', h => by
   simp at h
   subst h
   simp only [List.set_cons_zero, List.map_cons, List.sum_cons]
   omega
 | x :: Q, s + 1, q, q', h => by
   have := sum_set Q s q q' (by simpa using h)
   simp only [List.set_cons_succ, List.map_cons, List.sum_cons, this]
   omega
theorem Rel.small {o : Ori} {own : List (List St.Wr)} {Q : List Req} (h : Rel o own Q) : own.length ≤ 137438953472 := by
 have := sum_le Q h.seqs
 have := h.sum
 have := h.ql
 omega
theorem qOf_set {Q : List Req} {s t : Int} {q : Req} (hq : Q.length = 64) (hs : 0 ≤ s ∧ s < 64) (ht : 0 ≤ t ∧ t < 64) : qOf (Q.set s.toNat q) t = if s = t then q else qOf Q t := by
 unfold qOf
 by_cases e : s = t
 ·subst e
  rw [if_pos rfl, List.getElem?_set_self (by omega)]; rfl
 ·rw [if_neg e, List.getElem?_set_ne (by omega)]
theorem Rel.set {o : Ori} {own own' : List (List St.Wr)} {Q : List Req} {m : Msg} {st : St.St} {L : List Sm.Ks} (h : Rel o own Q) (hs : 0 ≤ m.ses ∧ m.ses < 64) (hq : 1 ≤ m.seq ∧ m.seq ≤ 2147483647) (hlt : (qOf Q m.ses).seq < m.seq) {n er : Int} (h1 : St.HistX st own') (h2 : L = own'.map keysW) (h3 : st.most = o.st.most) (h4 : (own'.length : Int) ≤ own.length + 1) :
  Rel ⟨o.cfg, st, L, aset o.ses m.ses ⟨m.seq, n, er⟩⟩ own' (Q.set m.ses.toNat ⟨m.seq, n, er⟩) := by
 have hql := h.ql
 refine ⟨h1, h2, fun t t0 t1 => ?_, by rw [List.length_set]; exact hql, by rw [h3]; exact h.most, h.vs, h.ns, fun q hq' => ?_, ?_⟩
 ·rw [req_aset, qOf_set hql hs ⟨t0, t1⟩, h.req t t0 t1]
 ·rcases List.mem_or_eq_of_mem_set hq' with e | e
  ·exact h.seqs q e
  ·subst e; exact ⟨by show 0 ≤ m.seq; omega, hq.2⟩
 ·have hsl : m.ses.toNat < Q.length := by omega
  have hq0 : Q[m.ses.toNat]? = some (qOf Q m.ses) := by unfold qOf; rw [List.getElem?_eq_getElem hsl]; rfl
  rw [sum_set Q m.ses.toNat _ _ hq0]
  have := h.sum
  show (own'.length : Int) ≤ _ - _ + m.seq
  omega
theorem rd_eq {o : Ori} {own : List (List St.Wr)} {Q : List Req} (h : Rel o own Q) (m : Msg) : o.read m = rrd o.cfg own m := by
 have hm1 : 1 ≤ o.st.most := by rw [h.most]; have := h.vs; omega
 have e1 : o.rd m = rrdF o.cfg own m := by
  unfold Ori.rd rrdF
  rw [St.read_eq h.hx hm1, h.hx.last, h.most]
 unfold Ori.read rrd
 rw [e1, h.hx.last]
 by_cases q : (own.length : Int) < m.plo
 ·rw [if_pos q, if_pos q]
 ·rw [if_neg q, if_neg q]
  by_cases q2 : (rrdF o.cfg own m).2 = 0
  ·rw [if_pos q2, if_pos q2]
   have : min (rrdF o.cfg own m).1.hi ((own.length : Int) + 1) = if (own.length : Int) < (rrdF o.cfg own m).1.hi then (own.length : Int) + 1 else (rrdF o.cfg own m).1.hi := by
    split <;> omega
   rw [this]
  ·rw [if_neg q2, if_neg q2]
theorem handle_rel {o : Ori} {own : List (List St.Wr)} {Q : List Req} (h : Rel o own Q) (m : Msg) (ws : List St.Wr) (ks : List ByteArray) :
  (o.handle m ws ks).1 = (rh o.cfg own Q m ws ks).1 ∧ Rel (o.handle m ws ks).2 (rh o.cfg own Q m ws ks).2.1 (rh o.cfg own Q m ws ks).2.2 := by
 unfold Ori.handle rh
 by_cases q : chkM m ws ks = 0
 ·rw [if_pos q, if_pos q]
  obtain ⟨s0, s1, hsq⟩ := chkM_cmt q
  by_cases k1 : m.kind = 1
  ·rw [if_pos k1, if_pos k1]
   have hq := hsq (by omega)
   have er := h.req m.ses s0 s1
   have hsm := h.small
   unfold rcm
   by_cases q1 : m.seq < (qOf Q m.ses).seq
   ·rw [if_pos q1]
    unfold Ori.commit
    rw [er, if_pos q1]
    exact ⟨rfl, h⟩
   ·rw [if_neg q1]
    by_cases q2 : m.seq = (qOf Q m.ses).seq
    ·rw [if_pos q2]
     unfold Ori.commit
     rw [er, if_neg q1, if_pos q2]
     exact ⟨rfl, h⟩
    ·rw [if_neg q2]
     have hlt : (qOf Q m.ses).seq < m.seq := by omega
     have hLl : (o.L.length : Int) = o.st.last := by rw [h.L, h.hx.last]; simp
     have hm1 : 1 ≤ o.st.most := by rw [h.most]; have := h.vs; omega
     rcases commit_fresh (o := o) (m := m) (ws := ws) (by rw [er]; exact hlt) hLl with ⟨c1, c2, c3, c4, c5⟩ | ⟨c1, c2, c3, c4, c5, c6⟩
     ·rw [if_pos c1, c5, c3, h.hx.last]
      have hmost : (o.st.commit ws).2.most = o.st.most := by
       unfold St.St.commit; rw [if_neg (by simp [c1]), if_neg (by omega)]
      refine ⟨rfl, h.set ⟨s0, s1⟩ hq hlt (St.HistX.commit h.hx hm1 c1 c2) ?_ hmost (by simp)⟩
      rw [h.L, List.map_append]; rfl
     ·by_cases hc : St.chk ws = 0
      ·have := c5 hc
       rw [h.hx.last] at this
       omega
      ·rw [if_neg hc, c6]
       have e : o.newReq m ws = ⟨m.seq, 0, St.chk ws⟩ := by
        cases hn : o.newReq m ws with
        | mk x y z =>
          rw [hn] at c1 c3 c4
          simp only at c1 c3 c4
          rw [c1, c3, c4, if_pos hc]
       rw [e]
       exact ⟨rfl, h.set (own' := own) ⟨s0, s1⟩ hq hlt h.hx h.L rfl (by omega)⟩
  ·rw [if_neg k1, if_neg k1]
   by_cases k5 : m.kind = 5
   ·rw [if_pos k5, if_pos k5]
    exact ⟨rd_eq h m, h⟩
   ·rw [if_neg k5, if_neg k5]
    by_cases k9 : m.kind = 9
    ·rw [if_pos k9, if_pos k9]
     refine ⟨?_, h⟩
     show resendL o m = _
     unfold resendL
     rw [h.L]
    ·rw [if_neg k9, if_neg k9]
     by_cases k10 : m.kind = 10
     ·rw [if_pos k10, if_pos k10, h.hx.last]
      exact ⟨rfl, h⟩
     ·rw [if_neg k10, if_neg k10]
      exact ⟨rfl, h⟩
 ·rw [if_neg q, if_neg q]
  exact ⟨rfl, h⟩
theorem rel_new (c : Cfg) : Rel (Ori.new c) [] (List.replicate 64 req0) where
 hx := St.HistX.new _
 L := rfl
 req s h0 h1 := by
  show (aget [] s).getD req0 = _
  unfold qOf
  rw [List.getElem?_replicate, if_pos (by omega)]
  rfl
 ql := List.length_replicate
 most := by
  have := cfg_vers c
  show (min (max c.held.vers 1) 64).toNat = c.held.vers.toNat
  omega
 vs := cfg_vers c
 ns := by
  show 1 ≤ c.held.nodes ∧ c.held.nodes ≤ 8
  unfold Cfg.held hld
  simp only
  omega
 seqs q hq := by
  rw [List.eq_of_mem_replicate hq]
  exact ⟨by decide, by decide⟩
 sum := by
  rw [List.map_replicate, List.sum_replicate_int]
  decide
end Go.Proofs.YtgloomahpjpiiaaGreat.Or
namespace Go.Proofs.YtgloomahpjpiiaaGreat.Or
open Go.VW
def Apart (a : Ad) (Wr Rd : List Nat) (x : Nat) : Prop := x ∉ Wr ∧ x ∉ Rd ∧ x ≠ a.ob ∧ x ≠ a.sb ∧ x ≠ a.sm ∧ x ≠ a.qb
structure Both15 (w0 w : World) (a : Ad) (rb : Nat) (o : Ori) (own : List (List St.Wr)) (Q : List Req) (Wr Rd : List Nat) (v vl : Value) (Rr : List Nat) : Prop where
 ran : Ran w0 w a o Wr Rd
 ref : R15 w rb o.cfg v vl own Q Rr
 rel : Rel o own Q
 ap : ∀ x ∈ rbs rb v vl Rr, w0.heap.size ≤ x ∧ Apart a Wr Rd x
theorem Both15.frN {w0 w w' : World} {a : Ad} {rb : Nat} {o : Ori} {own : List (List St.Wr)} {Q : List Req} {Wr Rd : List Nat} {v vl : Value} {Rr : List Nat} (h : Both15 w0 w a rb o own Q Wr Rd v vl Rr) (hf : Fr [] w w') : Both15 w0 w' a rb o own Q Wr Rd v vl Rr :=
 ⟨h.ran.frN hf, h.ref.frN hf, h.rel, h.ap⟩
/-- What stands between the two calls of Handle. -/
structure Mid15 (w0 w : World) (a : Ad) (rb : Nat) (c : Cfg) (o : Ori) (own : List (List St.Wr)) (Q : List Req) (Wr Rd : List Nat) (v vl : Value) (Rr : List Nat) : Prop where
 ran : Ran w0 w a o Wr Rd
 ref : R15 w rb c v vl own Q Rr
 ap : ∀ x ∈ rbs rb v vl Rr, w0.heap.size ≤ x ∧ Apart a Wr Rd x
theorem Both15.mid {w0 w w' : World} {a : Ad} {rb : Nat} {o o' : Ori} {own : List (List St.Wr)} {Q : List Req} {Wr Rd Wr' Rd' : List Nat} {v vl : Value} {Rr : List Nat} (h : Both15 w0 w a rb o own Q Wr Rd v vl Rr) (ha : OrAt w' a Wr' Rd' o') (hs : Step w w' a Wr Rd Wr' Rd') :
  Mid15 w0 w' a rb o.cfg o' own Q Wr' Rd' v vl Rr := by
 refine ⟨h.ran.step ha hs, h.ref.fr hs.fr (fun x hx hr => ?_), fun x hx => ?_⟩
 ·obtain ⟨_, a1, a2, a3, a4, a5, a6⟩ := h.ap x hr
  simp only [List.mem_cons] at hx
  rcases hx with e | e | e | e
  ·exact a4 e
  ·exact a5 e
  ·exact a6 e
  ·exact a1 e
 ·obtain ⟨a0, a1, a2, a3⟩ := h.ap x hx
  have hl := h.ref.lts x hx
  exact ⟨a0, fun e => by rcases hs.wr x e with q | q; exact a1 q; omega, fun e => by rcases hs.rd x e with q | q; exact a2 q; omega, a3⟩
theorem Mid15.ref_step {w0 w w' : World} {a : Ad} {rb : Nat} {c : Cfg} {o : Ori} {own own' : List (List St.Wr)} {Q Q' : List Req} {Wr Rd : List Nat} {v vl v' vl' : Value} {Rr Rr' : List Nat} (h : Mid15 w0 w a rb c o own Q Wr Rd v vl Rr)
  (hr : R15 w' rb c v' vl' own' Q' Rr') (hf : Fr (rb :: (blkL v ++ blkL vl)) w w') (hb : ∀ x ∈ rbs rb v' vl' Rr', x ∈ rbs rb v vl Rr ∨ w.heap.size ≤ x) :
  Mid15 w0 w' a rb c o own' Q' Wr Rd v' vl' Rr' ∧ Fr [] w0 w' := by
 have hin : ∀ x ∈ rb :: (blkL v ++ blkL vl), x ∈ rbs rb v vl Rr := fun x hx => by
  simp only [rbs, List.mem_cons, List.mem_append] at hx ⊢
  rcases hx with e | e | e
  ·exact .inl e
  ·exact .inr (.inl e)
  ·exact .inr (.inr (.inl e))
 have hF : Fr [] w0 w' := h.ran.fr.trans hf (fun x hx => .inr (h.ap x (hin x hx)).1)
 have hat : OrAt w' a Wr Rd o := h.ran.at_.frM hf fun x hx => by
  obtain ⟨_, a1, a2, a3, a4, a5, a6⟩ := h.ap x (hin x hx)
  refine ⟨a3, a4, a5, a6, a1, a2, ?_⟩
  simp only [List.mem_cons, List.mem_append] at hx
  rcases hx with rfl | e | e
  ·exact typed_ne h.ref.hd (by decide)
  ·obtain ⟨cur, hc⟩ := own_typed h.ref.st.own (St.mem_blkL.1 e)
   exact typed_ne hc (by decide)
  ·obtain ⟨⟨rs, ho, _, _⟩, _⟩ := h.ref.lg
   obtain ⟨cur, hc⟩ := own_typed ho (St.mem_blkL.1 e)
   exact typed_ne hc (by decide)
 refine ⟨⟨⟨hat, h.ran.y, hF⟩, hr, fun x hx => ?_⟩, hF⟩
 rcases hb x hx with e | e
 ·exact h.ap x e
 ·have h4 := h.ran.at_.lt4
  have hl := h.ran.at_.lts
  have hz := h.ran.fr.size
  exact ⟨by omega, fun e' => by have := hl x (.inl e'); omega, fun e' => by have := hl x (.inr e'); omega, by omega, by omega, by omega, by omega⟩
theorem Mid15.both {w0 w : World} {a : Ad} {rb : Nat} {o : Ori} {own : List (List St.Wr)} {Q : List Req} {Wr Rd : List Nat} {v vl : Value} {Rr : List Nat} (h : Mid15 w0 w a rb o.cfg o own Q Wr Rd v vl Rr) (hr : Rel o own Q) : Both15 w0 w a rb o own Q Wr Rd v vl Rr := ⟨h.ran, h.ref, hr, h.ap⟩
/-- The offsets of an old message's writes. -/
theorem offRef {w0 : World} {m : Msg} {ws : List St.Wr} {ks : List ByteArray} (h : MsgAt w0 m ws ks) {l : List Nat} (hl : ∀ x ∈ l, w0.heap.size ≤ x) : ws ≠ [] → ∀ x ∈ l, offV m.wv x := fun hne x hx a' n' c' e => by
 have hpos : 0 < ws.length := by cases ws with
  | nil => exact absurd rfl hne
  | cons _ _ => simp
 obtain ⟨bb, of', cap', hb1, hb2⟩ := h.dw.lt hpos
 rw [hb1] at e
 simp only [Value.slice.injEq, Option.some.injEq] at e
 rw [← e.1]
 have := hl x hx
 show bb ≠ x
 omega
end Go.Proofs.YtgloomahpjpiiaaGreat.Or
namespace Go.Proofs.YtgloomahpjpiiaaGreat.Or
open Go.VW
theorem both_new {w w1 w2 : World} {c : Cfg} {a : Ad} {rb : Nat} (hf1 : Fr [] w w1) (h1 : OrAt w1 a [a.lb] [] (Ori.new c)) (hy : ∀ x, x = a.ob ∨ x = a.sb ∨ x = a.sm ∨ x = a.lb ∨ x = a.qb → w.heap.size ≤ x) (hf2 : Fr [] w1 w2) (hrb : w1.heap.size ≤ rb) (h2 : R15 w2 rb c.held (.slice none 0 0) (.slice none 0 0) [] (List.replicate 64 req0) []) :
  Both15 w w2 a rb (Ori.new c) [] (List.replicate 64 req0) [a.lb] [] (.slice none 0 0) (.slice none 0 0) [] := by
 have h4 := h1.lt4
 have hl := h1.lts
 have hz := hf1.size
 refine ⟨⟨h1.frN hf2, ⟨fun x hx => hy x (by rcases hx with r | r | r | r <;> simp [r]), fun x hx => hy x (by simp at hx; simp [hx])⟩, hf1.trans' hf2⟩, h2, rel_new c, fun x hx => ?_⟩
 have hx' : x = rb := by simpa [rbs, blkL, Value.ownBlock] using hx
 subst hx'
 have := hl a.lb (.inl (by simp))
 exact ⟨by omega, by simp; omega, by simp, by omega, by omega, by omega, by omega⟩
theorem own8 {o : Ori} {own : List (List St.Wr)} {Q : List Req} (h : Rel o own Q) {n m : Int} : ∀ x ∈ Sm.fromL (own.map keysW) n m, x.2.length ≤ 8 := fun x hx => by
 have h1 : x ∈ Sm.recsL (own.map keysW) := List.mem_of_mem_drop (List.mem_of_mem_take hx)
 obtain ⟨i, hi⟩ := List.getElem?_of_mem h1
 rw [Sm.recsL_get] at hi
 cases hk : (own.map keysW)[i]? with
 | none => rw [hk] at hi; simp at hi
 | some ks =>
   rw [hk] at hi
   simp at hi
   subst hi
   obtain ⟨ws, hw, rfl⟩ := List.mem_map.1 (List.mem_of_getElem? hk)
   have hc := h.hx.chk ws hw
   unfold St.chk at hc
   split at hc
   ·cases hc
   ·simp; omega
end Go.Proofs.YtgloomahpjpiiaaGreat.Or
