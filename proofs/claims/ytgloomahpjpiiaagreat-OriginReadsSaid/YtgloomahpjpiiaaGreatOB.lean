/- Answers in memory; Last, record. Read, Oldest, Records, resend; all calls on a nil origin. -/
import Derived.Test.YtgloomahpjpiiaaGreatO9
import Derived.Test.YtgloomahpjpiiaaGreatOD
set_option linter.unusedVariables false
set_option linter.unusedSimpArgs false
set_option maxRecDepth 10000
namespace Go.Proofs.YtgloomahpjpiiaaGreat.Or
open Go.VW
structure Ans where
 m : Msg
 ks : List ByteArray
def msg0 : Msg := ⟨0, 0, 0, 0, 0, 0, ⟨#[]⟩, 0, 0, false, ⟨#[]⟩, false, 0, 0, none, 0, 0, none, 0, 0⟩
structure AnsIs (w : World) (R : Nat → Prop) (m : Msg) (a : Ans) : Prop where
 eq : m = { a.m with ka := m.ka, kl := m.kl, kc := m.kc }
 own : VW.Own 1 9 w m.kv a.ks.length (cellsOf Sm.encS a.ks)
 blk : ∀ b, m.kv.ownBlock = some b → R b
theorem AnsIs.fr {w w' : World} {R : Nat → Prop} {m : Msg} {a : Ans} (h : AnsIs w R m a) {M : List Nat} (hf : Fr M w w') (hM : ∀ b ∈ M, ¬ R b) : AnsIs w' R m a := ⟨h.eq, h.own.fr hf fun b hb e => hM b hb (h.blk b e), h.blk⟩
theorem AnsIs.frN {w w' : World} {R : Nat → Prop} {m : Msg} {a : Ans} (h : AnsIs w R m a) (hf : Fr [] w w') : AnsIs w' R m a := h.fr hf (by simp)
theorem AnsIs.mono {w : World} {R R' : Nat → Prop} {m : Msg} {a : Ans} (h : AnsIs w R m a) (hR : ∀ b, R b → R' b) : AnsIs w R' m a := ⟨h.eq, h.own, fun b hb => hR b (h.blk b hb)⟩
theorem AnsIs.plain {w : World} {R : Nat → Prop} {m : Msg} (h : m.ka = none ∧ m.kl = 0 ∧ m.kc = 0) : AnsIs w R m ⟨m, []⟩ := by
 obtain ⟨h1, h2, h3⟩ := h
 have hk : m.kv = .slice none 0 0 := by rw [Msg.kv, h1, h2, h3]
 exact ⟨rfl, by rw [hk]; exact VW.Own.nil, fun b hb => by rw [hk] at hb; simp [Value.ownBlock] at hb⟩
structure AnsAt (w : World) (R R' : Nat → Prop) (v : Value) (l : List Ans) : Prop where
 ex : ∃ ms : List Msg, VW.Own 16 40 w v ms.length (cellsOf encMsg ms) ∧ ms.length = l.length ∧ ∀ (i : Nat) m a, ms[i]? = some m → l[i]? = some a → AnsIs w R m a
 blk : ∀ b, v.ownBlock = some b → R' b
theorem AnsAt.fr {w w' : World} {R R' : Nat → Prop} {v : Value} {l : List Ans} (h : AnsAt w R R' v l) {M : List Nat} (hf : Fr M w w') (hM : ∀ b ∈ M, ¬ R b ∧ ¬ R' b) : AnsAt w' R R' v l := by
 obtain ⟨⟨ms, h1, h2, h3⟩, h4⟩ := h
 exact ⟨⟨ms, h1.fr hf fun b hb e => (hM b hb).2 (h4 b e), h2, fun i r x hr hx => (h3 i r x hr hx).fr hf fun b hb => (hM b hb).1⟩, h4⟩
theorem AnsAt.frN {w w' : World} {R R' : Nat → Prop} {v : Value} {l : List Ans} (h : AnsAt w R R' v l) (hf : Fr [] w w') : AnsAt w' R R' v l := h.fr hf (by simp)
theorem AnsAt.mono {w : World} {R R' Q Q' : Nat → Prop} {v : Value} {l : List Ans} (h : AnsAt w R R' v l) (hR : ∀ b, R b → Q b) (hR' : ∀ b, R' b → Q' b) : AnsAt w Q Q' v l := by
 obtain ⟨⟨ms, h1, h2, h3⟩, h4⟩ := h
 exact ⟨⟨ms, h1, h2, fun i r x hr hx => (h3 i r x hr hx).mono hR⟩, fun b hb => hR' b (h4 b hb)⟩
theorem AnsAt.nil {w : World} {R R' : Nat → Prop} : AnsAt w R R' (.slice none 0 0) [] := ⟨⟨[], VW.Own.nil, rfl, fun i r x hr => by simp at hr⟩, fun b hb => by simp [Value.ownBlock] at hb⟩
theorem AnsAt.form {w : World} {R R' : Nat → Prop} {v : Value} {l : List Ans} (h : AnsAt w R R' v l) : ∃ a c, v = .slice a l.length c := by
 obtain ⟨⟨ms, h1, h2, h3⟩, h4⟩ := h
 obtain ⟨a, c, hv⟩ := h1.sl.form
 exact ⟨a, c, by rw [hv, h2]⟩
theorem encMsg_oneC (m : Msg) : (encMsg m).all oneC = true := rfl
theorem cells_oneC (ms : List Msg) : (cellsOf encMsg ms).all oneC = true := by
 induction ms with
 | nil => rfl
 | cons m l ih => rw [cellsOf, List.flatMap_cons, List.all_append, encMsg_oneC]; exact ih
/-- Some answers more. -/
theorem AnsAt.app {w : World} {R R' : Nat → Prop} {v x : Value} {l bs : List Ans} {ns : List Msg} (h : AnsAt w R R' v l) (hx : Sl 16 w x ns.length (cellsOf encMsg ns)) (hl : ns.length = bs.length)
  (hn : ∀ (i : Nat) m a, ns[i]? = some m → bs[i]? = some a → AnsIs w R m a) (hlen : l.length + bs.length ≤ 700000000000) (hnew : ∀ b, w.heap.size ≤ b → R' b) :
  ∃ v' w', (Builtin.append_ #[24, 24] 24 #[v, x]).run Tryz.prog w = .ok v' w' ∧ AnsAt w' R R' v' (l ++ bs) ∧ Fr (blkL v) w w' := by
 obtain ⟨⟨ms, h1, h2, h3⟩, h4⟩ := h
 obtain ⟨v4, w4, hr4, hown4, hf4, hbk⟩ := ap24 (ty := 24) h1 hx (cells_oneC ns) (by omega)
 refine ⟨v4, w4, hr4, ⟨⟨ms ++ ns, by rw [cellsOf_append]; simpa using hown4, by simp [h2, hl], fun i r' x' hr' hx' => ?_⟩, fun b hb => ?_⟩, hf4⟩
 ·have hK : ∀ {r : Msg} {x : Ans}, AnsIs w R r x → AnsIs w4 R r x := fun hq => ⟨hq.1, hq.2.fr hf4 fun b hb e => Sm.own_ne hq.2 h1 (by decide) b e (Sm.mem_blkL.1 hb), hq.3⟩
  by_cases hi : i < ms.length
  ·rw [List.getElem?_append_left hi] at hr'
   rw [List.getElem?_append_left (by omega)] at hx'
   exact hK (h3 i r' x' hr' hx')
  ·rw [List.getElem?_append_right (by omega)] at hr' hx'
   rw [h2] at hr'
   exact hK (hn _ r' x' hr' hx')
 ·rcases hbk with e | ⟨b', e1, e2⟩
  ·exact h4 b (e ▸ hb)
  ·rw [e1] at hb; cases hb; exact hnew b e2
theorem AnsAt.app1 {w : World} {R R' : Nat → Prop} {v : Value} {l : List Ans} {m : Msg} {a : Ans} (h : AnsAt w R R' v l) {p : Addr} (hx : Sl 16 w (.slice (some p) 1 1) 1 (encMsg m)) (hn : AnsIs w R m a) (hlen : l.length + 1 ≤ 700000000000) (hnew : ∀ b, w.heap.size ≤ b → R' b) :
  ∃ v' w', (Builtin.append_ #[24, 24] 24 #[v, .slice (some p) 1 1]).run Tryz.prog w = .ok v' w' ∧ AnsAt w' R R' v' (l ++ [a]) ∧ Fr (blkL v) w w' :=
 h.app (ns := [m]) (bs := [a]) (by rw [cellsOf_one]; exact hx) rfl (fun i m' a' h1 h2 => by
  have : i = 0 := by have := (List.getElem?_eq_some_iff.1 h1).1; simp at this; omega
  subst this
  simp at h1 h2; subst h1; subst h2; exact hn) hlen hnew
theorem AnsAt.one {w : World} {R R' : Nat → Prop} {b : Nat} {m : Msg} {a : Ans} (hb : w.heap[b]? = some (.cells (encMsg m).toArray 40 (0, 0))) (hn : AnsIs w R m a) (hR : R' b) : AnsAt w R R' (.slice (some ⟨b, 0, none⟩) 1 1) [a] := by
 refine ⟨⟨[m], ?_, rfl, fun i m' a' h1 h2 => ?_⟩, fun b' hb' => ?_⟩
 ·rw [cellsOf_one]
  refine ⟨rfl, .inr ⟨b, 1, _, rfl, Nat.zero_le _, hb, ?_⟩⟩
  simp [encMsg, oneC, maxLen]
 ·have : i = 0 := by have := (List.getElem?_eq_some_iff.1 h1).1; simp at this; omega
  subst this
  simp at h1 h2; subst h1; subst h2; exact hn
 ·simp [Value.ownBlock] at hb'; subst hb'; exact hR
theorem OrAt.hd {w : World} {a : Ad} {Wr Rd : List Nat} {o : Ori} (h : OrAt w a Wr Rd o) :
  w.heap[a.ob]? = some (.cells ([.int .i64 o.cfg.nodes, .int .i64 o.cfg.bytes, .int .i64 o.cfg.spans, .int .i64 o.cfg.gap, .int .i64 o.cfg.recent, .int .i64 o.cfg.vers, .int .i64 o.cfg.prot, .int .i64 o.cfg.retr, .pointer (some ⟨a.sb, 0, none⟩), .pointer (some ⟨a.lb, 0, none⟩), .map (some a.qb)] : List Value).toArray 80 (0, 0)) := h.head
theorem last_o {w : World} {a : Ad} {Wr Rd : List Nat} {o : Ori} {K : Value → World → Prop} (h : OrAt w a Wr Rd o) (hK : K (.int .i64 o.st.last) w) : CallsN Tryz.prog 12 [.pointer (some ⟨a.ob, 0, none⟩)] w K := by
 have cw := cur w
 have hd := h.hd
 refine call12 ?_
 simp (maxSteps:=4000000)(disch:=first|assumption|(simp only[dz];first|done|assumption|omega)|omega|apply_rules[Fr.refl,Fr.alloc,Fr.drew]|rfl) only [↓gd,gp,Nat.reduceAdd,Nat.reduceEqDiff, ↓hk12, hd]
 refine St.last_spec h.st ?_
 exact hK
def recA (node : Int) (x : Int × Sm.Ks) : Ans := ⟨{ msg0 with kind := 8, node := node, n := x.1 }, x.2⟩
set_option maxHeartbeats 8000000 in
theorem record_spec {w : World} {a : Ad} {Wr Rd : List Nat} {o : Ori} {node n m : Int} {K : Value → World → Prop} (h : OrAt w a Wr Rd o) (hm : m ≤ 1000000)
  (hK : ∀ v w', AnsAt w' (fun b => w.heap.size ≤ b) (fun b => w.heap.size ≤ b) v ((Sm.fromL o.L n m).map (recA node)) → Fr [] w w' → K v w') :
  CallsN Tryz.prog 58 [.pointer (some ⟨a.ob, 0, none⟩), .int .i64 node, .int .i64 n, .int .i64 m] w K := by
 have cw := cur w
 have hd := h.hd
 refine call58 ?_
 simp (maxSteps:=4000000)(disch:=first|assumption|(simp only[dz];first|done|assumption|omega)|omega|apply_rules[Fr.refl,Fr.alloc,Fr.drew]|rfl) only [↓gd,gp,Nat.reduceAdd,Nat.reduceEqDiff, ↓hk58, hd]
 refine Sm.from_log h.lg fun v w2 hr hf2 => ?_
 have cw2 := cur w2
 have hz2 := hf2.size
 obtain ⟨xs, hxs⟩ : ∃ xs, xs = Sm.fromL o.L n m := ⟨_, rfl⟩
 have hxl : xs.length ≤ 1000000 := by rw [hxs, Sm.fromL, List.length_take]; omega
 rw [← hxs] at hr hK
 clear hxs
 obtain ⟨va, vc, hv⟩ := hr.form
 simp (maxSteps:=4000000)(disch:=first|assumption|(simp only[dz];first|done|assumption|omega)|omega|apply_rules[Fr.refl,Fr.alloc,Fr.drew]|rfl) only [↓gd,gp,Nat.reduceAdd,Nat.reduceEqDiff, ↓hk58, hv]
 rw [← hv]
 refine for_intro xs.length 20 0 (fun i e w' => e 1 = .int .i64 node ∧ e 18 = v ∧ e 19 = .int .i64 xs.length ∧ AnsAt w' (fun b => w.heap.size ≤ b) (fun b => w2.heap.size ≤ b) (e 9) ((xs.take i).map (recA node)) ∧ Fr [] w2 w') ?_ (Nat.zero_le _) ?_ ?_
 ·simp (maxSteps:=4000000)(disch:=first|assumption|(simp only[dz];first|done|assumption|omega)|omega|apply_rules[Fr.refl,Fr.alloc,Fr.drew]|rfl) only [↓gsd,gs,gv,Nat.reduceAdd,Nat.reduceEqDiff]; rfl
 ·simp (maxSteps:=4000000)(disch:=first|assumption|(simp only[dz];first|done|assumption|omega)|omega|apply_rules[Fr.refl,Fr.alloc,Fr.drew]|rfl) only [↓gsd,gs,gv,Nat.reduceAdd,Nat.reduceEqDiff, hv]
  exact ⟨AnsAt.nil, Fr.refl _ _⟩
 rintro i e w1 kk hi e20 ⟨e1, e18, e19, ha, hf⟩ hk
 have cw1 := cur w1
 have hz1 := hf.size
 by_cases hil : i < xs.length
 ·have d : decide ((i : Int) < (xs.length : Int)) = true := decide_eq_true (by omega)
  have i0 : (0 : Int) ≤ (i : Int) := by omega
  have i1 : (i : Int) < (xs.length : Int) := by omega
  have wr : IntKind.i64.wrap ((i : Int) + 1) = (i : Int) + 1 := wrap64 (by omega) (by omega)
  obtain ⟨⟨rs, ho, hrl, hrc⟩, hrb⟩ := hr.frN hf
  obtain ⟨r, hri⟩ : ∃ r, rs[i]? = some r := ⟨rs[i]'(by omega), List.getElem?_eq_getElem (by omega)⟩
  obtain ⟨x, hxi⟩ : ∃ x, xs[i]? = some x := ⟨xs[i]'hil, List.getElem?_eq_getElem hil⟩
  obtain ⟨bb, off, cap, ob, hv1, hob, _, hrow, _⟩ := SlOf.read (enc := Sm.encRc) ho.sl Sm.encRc_len i r hri
  obtain ⟨q1, q2, q3⟩ := hrc i r x hri hxi
  rw [hrl] at hv1
  obtain ⟨oa, oc, hvo⟩ := ha.form
  rw [List.length_map, List.length_take, Nat.min_eq_left hi] at hvo
  obtain ⟨vo, e9⟩ : ∃ vo, vo = e 9 := ⟨_, rfl⟩
  rw [← e9] at ha hvo
  unfold Sm.encRc at hrow
  simp (maxSteps:=4000000)(disch:=first|assumption|(simp only[dz];first|done|assumption|omega)|omega|apply_rules[Fr.refl,Fr.alloc,Fr.drew]|rfl) only [↓gd,gp,Nat.reduceAdd,Nat.reduceEqDiff, ↓hk58, e1, e18, e19, e20, ← e9, hv1, hvo, d, i0, i1, Int.toNat_natCast, hob, hrow]
  generalize hW : World.alloc (World.alloc w1 _) _ = w3
  have hf3 : Fr [] w1 w3 := by rw [← hW]; (repeat (first | exact Fr.refl _ _ | assumption | with_reducible apply Fr.alloc | with_reducible apply Fr.drew | with_reducible refine Fr.setB ?_ _ _ (.inr (by first | omega | (simp only [gz]; omega))) | with_reducible refine Fr.setB ?_ _ _ (.inl (by first | assumption | simp)) | with_reducible refine Fr.trans' ?_ (by assumption)))
  have hz3 : w3.heap.size = w1.heap.size + 2 := by rw [← hW]; simp only [gz]
  have g3 : w3.heap[w1.heap.size + 1]? = some (.cells (encMsg { msg0 with kind := 8, node := node, n := x.1, ka := r.a, kl := r.l, kc := r.c }).toArray 40 (0, 0)) := by
   rw [← hW, ← q1, ← size_alloc w1 (.cells #[.int .i64 r.n, .slice r.a r.l r.c] 86)]; exact get_alloc_new _ _
  clear hW
  have cw3 := cur w3
  have hsl : Sl 16 w3 (.slice (some ⟨w1.heap.size + 1, 0, none⟩) 1 1) 1 (encMsg { msg0 with kind := 8, node := node, n := x.1, ka := r.a, kl := r.l, kc := r.c }) :=
   ⟨rfl, .inr ⟨w1.heap.size + 1, 0, 1, _, 40, (0, 0), rfl, g3, rfl⟩⟩
  rw [hvo] at ha
  have his : ((xs.take i).map (recA node)).length ≤ 1000000 := by rw [List.length_map, List.length_take]; omega
  obtain ⟨v4, w4, hr4, hrs4, hf4⟩ := AnsAt.app1 (a := recA node x) (ha.frN hf3) hsl ⟨rfl, q2.frN hf3, q3⟩ (by omega) (fun b hb => by omega)
  have cw4 := cur w4
  have hF4 : Fr [] w2 w4 := Sm.fresh_app ha.blk hf4 (hf.trans' hf3)
  simp (maxSteps:=4000000)(disch:=first|assumption|(simp only[dz];first|done|assumption|omega)|omega|apply_rules[Fr.refl,Fr.alloc,Fr.drew]|rfl) only [↓gd,gp,Nat.reduceAdd,Nat.reduceEqDiff, ↓hk58, e1, e18, e19, e20, ← e9, hr4, wr]
  refine hk _ _ hil rfl ?_
  simp (maxSteps:=4000000)(disch:=first|assumption|(simp only[dz];first|done|assumption|omega)|omega|apply_rules[Fr.refl,Fr.alloc,Fr.drew]|rfl) only [↓gsd,gs,gv,Nat.reduceAdd,Nat.reduceEqDiff, e1, e18, e19, ← hv1, ← hv]
  refine ⟨?_, hF4⟩
  rw [List.take_add_one, hxi, List.map_append]
  exact hrs4
 ·have d : decide ((i : Int) < (xs.length : Int)) = false := decide_eq_false (by omega)
  rw [List.take_of_length_le (by omega)] at ha
  simp (maxSteps:=4000000)(disch:=first|assumption|(simp only[dz];first|done|assumption|omega)|omega|apply_rules[Fr.refl,Fr.alloc,Fr.drew]|rfl) only [↓gd,gp,Nat.reduceAdd,Nat.reduceEqDiff, ↓hk58, e1, e18, e19, e20, d]
  exact hK _ _ (ha.mono (fun b hb => hb) (fun b hb => by omega)) (hf2.trans' hf)
end Go.Proofs.YtgloomahpjpiiaaGreat.Or
namespace Go.Proofs.YtgloomahpjpiiaaGreat.Or
open Go.VW
theorem records_o {w : World} {a : Ad} {Wr Rd : List Nat} {o : Ori} {n m : Int} {K : Value → World → Prop} (h : OrAt w a Wr Rd o)
  (hK : ∀ v w', Sm.RcsAt w' (fun b => w.heap.size ≤ b) (fun b => w.heap.size ≤ b) v (Sm.fromL o.L n m) → Fr [] w w' → K v w') : CallsN Tryz.prog 14 [.pointer (some ⟨a.ob, 0, none⟩), .int .i64 n, .int .i64 m] w K := by
 have cw := cur w
 have hd := h.hd
 refine call14 ?_
 simp (maxSteps:=4000000)(disch:=first|assumption|(simp only[dz];first|done|assumption|omega)|omega|apply_rules[Fr.refl,Fr.alloc,Fr.drew]|rfl) only [↓gd,gp,Nat.reduceAdd,Nat.reduceEqDiff, ↓hk14, hd]
 refine Sm.from_log h.lg fun v w2 hr hf2 => ?_
 exact hK v w2 hr hf2
def resendL (o : Ori) (m : Msg) : List Ans := if o.cfg.nodes ≤ m.node then [] else (Sm.fromL o.L m.n 16).map (recA m.node)
theorem resend_spec {w : World} {a : Ad} {Wr Rd : List Nat} {o : Ori} {m : Msg} {K : Value → World → Prop} (h : OrAt w a Wr Rd o)
  (hK : ∀ v w', AnsAt w' (fun b => w.heap.size ≤ b) (fun b => w.heap.size ≤ b) v (resendL o m) → Fr [] w w' → K v w') :
  CallsN Tryz.prog 33 [.pointer (some ⟨a.ob, 0, none⟩), .agg (encMsg m).toArray] w K := by
 have cw := cur w
 have hd := h.hd
 refine call33 ?_
 unfold resendL at hK
 unfold encMsg
 simp (maxSteps:=4000000)(disch:=first|assumption|(simp only[dz];first|done|assumption|omega)|omega|apply_rules[Fr.refl,Fr.alloc,Fr.drew]|rfl) only [↓gd,gp,Nat.reduceAdd,Nat.reduceEqDiff, ↓c33_2_s, ↓c33_4_s, ↓c33_3_s, ↓c33_1_s, ↓c33_s, ↓w3t_33]
 generalize hW : World.alloc w _ = w1
 have hf1 : Fr [] w w1 := by rw [← hW]; (repeat (first | exact Fr.refl _ _ | assumption | with_reducible apply Fr.alloc | with_reducible apply Fr.drew | with_reducible refine Fr.setB ?_ _ _ (.inr (by first | omega | (simp only [gz]; omega))) | with_reducible refine Fr.setB ?_ _ _ (.inl (by first | assumption | simp)) | with_reducible refine Fr.trans' ?_ (by assumption)))
 have hz1 : w1.heap.size = w.heap.size + 1 := by rw [← hW]; simp only [gz]
 have g : w1.heap[w.heap.size]? = some (.cells (encMsg m).toArray 40 (0, 0)) := by rw [← hW]; exact get_alloc_new _ _
 clear hW
 have cw1 := cur w1
 have hd1 := hf1.getN hd
 unfold encMsg at g
 by_cases q : o.cfg.nodes ≤ m.node
 ·have d : decide (o.cfg.nodes ≤ m.node) = true := decide_eq_true q
  rw [if_pos q] at hK
  simp (maxSteps:=4000000)(disch:=first|assumption|(simp only[dz];first|done|assumption|omega)|omega|apply_rules[Fr.refl,Fr.alloc,Fr.drew]|rfl) only [↓gd,gp,Nat.reduceAdd,Nat.reduceEqDiff, ↓hk33, g, hd1, d]
  exact hK _ _ AnsAt.nil (by (repeat (first | exact Fr.refl _ _ | assumption | with_reducible apply Fr.alloc | with_reducible apply Fr.drew | with_reducible refine Fr.setB ?_ _ _ (.inr (by first | omega | (simp only [gz]; omega))) | with_reducible refine Fr.setB ?_ _ _ (.inl (by first | assumption | simp)) | with_reducible refine Fr.trans' ?_ (by assumption))))
 ·have d : decide (o.cfg.nodes ≤ m.node) = false := decide_eq_false q
  rw [if_neg q] at hK
  simp (maxSteps:=4000000)(disch:=first|assumption|(simp only[dz];first|done|assumption|omega)|omega|apply_rules[Fr.refl,Fr.alloc,Fr.drew]|rfl) only [↓gd,gp,Nat.reduceAdd,Nat.reduceEqDiff, ↓hk33, g, hd1, d]
  refine record_spec ((h.frN hf1).frN (by (repeat (first | exact Fr.refl _ _ | assumption | with_reducible apply Fr.alloc | with_reducible apply Fr.drew | with_reducible refine Fr.setB ?_ _ _ (.inr (by first | omega | (simp only [gz]; omega))) | with_reducible refine Fr.setB ?_ _ _ (.inl (by first | assumption | simp)) | with_reducible refine Fr.trans' ?_ (by assumption))))) (by decide) fun v w2 ha hf2 => ?_
  have cw2 := cur w2
  try simp (maxSteps:=4000000)(disch:=first|assumption|(simp only[dz];first|done|assumption|omega)|omega|apply_rules[Fr.refl,Fr.alloc,Fr.drew]|rfl) only [↓gd,gp,Nat.reduceAdd,Nat.reduceEqDiff, ↓hk33]
  exact hK _ _ (ha.mono (fun b hb => by simp only [size_drew] at hb; omega) (fun b hb => by simp only [size_drew] at hb; omega)) ((Fr.drew hf1).trans' hf2)
end Go.Proofs.YtgloomahpjpiiaaGreat.Or
