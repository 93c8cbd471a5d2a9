/- The fixed part of the laws. The fixed part of the laws: the walk. The fixed part of the laws: the walk. OriginNone. -/
import Derived.Test.YtgloomahpjpiiaaGreatOI
import Derived.Test.YtgloomahpjpiiaaGreatOL
set_option linter.unusedVariables false
set_option linter.unusedSimpArgs false
set_option maxRecDepth 10000
namespace Go.Proofs.YtgloomahpjpiiaaGreat.Or
open Go.VW
def cfx : Cfg := ⟨2, 0, 0, 0, 0, 2, 0, 0⟩
abbrev kA : ByteArray := ⟨#[97]⟩
abbrev kX : ByteArray := ⟨#[120]⟩
def wfx : List St.Wr := [⟨kA, true, kX⟩]
def cmtM (ses seq : Int) (a : Option Addr) (l c : Nat) : Msg := { msg0 with kind := 1, ses := ses, seq := seq, wa := a, wl := l, wc := c }
def m5x : Msg := { msg0 with kind := 5, tx := 3, seq := 1, key := kA, phi := 4611686018427387904 }
def ox0 : Ori := Ori.new cfx
def ox1 : Ori := (ox0.handle (cmtM 0 1 none 1 1) wfx []).2
theorem fx1 (a : Option Addr) (c : Nat) : ox0.handle (cmtM 0 1 a 1 c) wfx [] = (ackA (cmtM 0 1 none 1 1) ⟨1, 1, 0⟩ :: [recA 0 (1, [kA]), recA 1 (1, [kA])], ox1) := by kernel_rfl
theorem fx2 (a : Option Addr) (c : Nat) : ox1.handle (cmtM 0 1 a 1 c) wfx [] = ([ackA (cmtM 0 1 none 1 1) ⟨1, 1, 0⟩], ox1) := by kernel_rfl
theorem fx3 : ox1.handle m5x [] [] = ([⟨{ toldM m5x with vh := true, vd := kX, plo := 1, phi := 2 }, []⟩, ⟨{ msg0 with kind := 7, node := toI kA 2, key := kA, vh := true, vd := kX, plo := 1, phi := 4611686018427387904, n := 1 }, []⟩], ox1) := by kernel_rfl
theorem fx4 : ox1.st.last = 1 := by kernel_rfl
theorem put_spec {k d : ByteArray} {w : World} {K : Value → World → Prop} (hK : ∀ w', Fr [] w w' → K (.agg (St.encWr ⟨k, true, d⟩).toArray) w') : CallsN Tryz.prog 21 [.string k, .string d] w K := by
 have cw := cur w
 refine call21 ?_
 unfold St.encWr at hK
 simp (maxSteps:=4000000)(disch:=first|assumption|(simp only[dz];first|done|assumption|omega)|omega|apply_rules[Fr.refl,Fr.alloc,Fr.drew]|rfl) only [↓gd,gp,Nat.reduceAdd,Nat.reduceEqDiff, ↓hk21]
 exact hK _ (by (repeat (first | exact Fr.refl _ _ | assumption | with_reducible apply Fr.alloc | with_reducible apply Fr.drew | with_reducible refine Fr.setB ?_ _ _ (.inr (by first | omega | (simp only [gz]; omega))) | with_reducible refine Fr.setB ?_ _ _ (.inl (by first | assumption | simp)) | with_reducible refine Fr.trans' ?_ (by assumption))))
theorem cmt_spec {s q : Int} {a : Option Addr} {l c : Nat} {w : World} {K : Value → World → Prop} (hK : ∀ w', Fr [] w w' → K (.agg (encMsg (cmtM s q a l c)).toArray) w') : CallsN Tryz.prog 24 [.int .i64 s, .int .i64 q, .slice a l c] w K := by
 have cw := cur w
 refine call24 ?_
 unfold encMsg cmtM msg0 at hK
 simp (maxSteps:=4000000)(disch:=first|assumption|(simp only[dz];first|done|assumption|omega)|omega|apply_rules[Fr.refl,Fr.alloc,Fr.drew]|rfl) only [↓gd,gp,Nat.reduceAdd,Nat.reduceEqDiff, ↓hk24]
 exact hK _ (by (repeat (first | exact Fr.refl _ _ | assumption | with_reducible apply Fr.alloc | with_reducible apply Fr.drew | with_reducible refine Fr.setB ?_ _ _ (.inr (by first | omega | (simp only [gz]; omega))) | with_reducible refine Fr.setB ?_ _ _ (.inl (by first | assumption | simp)) | with_reducible refine Fr.trans' ?_ (by assumption))))
end Go.Proofs.YtgloomahpjpiiaaGreat.Or
namespace Go.Proofs.YtgloomahpjpiiaaGreat.Or
open Go.VW
/-- What is not the origin's. -/
structure Keep (w : World) (a : Ad) (Wr Rd : List Nat) (b : Nat) : Prop where
 wr : b ∉ Wr
 rd : b ∉ Rd
 lt : b < w.heap.size
 sb : b ≠ a.sb
 sm : b ≠ a.sm
 qb : b ≠ a.qb
theorem Keep.step {w w' : World} {a : Ad} {Wr Rd Wr' Rd' : List Nat} {b : Nat} (h : Keep w a Wr Rd b) (hs : Step w w' a Wr Rd Wr' Rd') : Keep w' a Wr' Rd' b :=
 ⟨fun e => by rcases hs.wr b e with q | q; exact h.wr q; have := h.lt; omega, fun e => by rcases hs.rd b e with q | q; exact h.rd q; have := h.lt; omega, Nat.lt_of_lt_of_le h.lt hs.fr.size, h.sb, h.sm, h.qb⟩
theorem Keep.frN {w w' : World} {a : Ad} {Wr Rd : List Nat} {b : Nat} (h : Keep w a Wr Rd b) (hf : Fr [] w w') : Keep w' a Wr Rd b := ⟨h.wr, h.rd, Nat.lt_of_lt_of_le h.lt hf.size, h.sb, h.sm, h.qb⟩
abbrev AnsK (w : World) (a : Ad) (Wr Rd : List Nat) (v : Value) (l : List Ans) : Prop := AnsAt w (Keep w a Wr Rd) (Keep w a Wr Rd) v l
theorem AnsK.frN {w w' : World} {a : Ad} {Wr Rd : List Nat} {v : Value} {l : List Ans} (h : AnsK w a Wr Rd v l) (hf : Fr [] w w') : AnsK w' a Wr Rd v l := (AnsAt.frN h hf).mono (fun b hb => hb.frN hf) (fun b hb => hb.frN hf)
theorem AnsK.step {w w' : World} {a : Ad} {Wr Rd Wr' Rd' : List Nat} {v : Value} {l : List Ans} (h : AnsK w a Wr Rd v l) (hs : Step w w' a Wr Rd Wr' Rd') : AnsK w' a Wr' Rd' v l :=
 (AnsAt.fr h hs.fr fun b hb => by
  have : ¬ Keep w a Wr Rd b := fun q => by
   simp only [List.mem_cons] at hb
   rcases hb with e | e | e | e
   ·exact q.sb e
   ·exact q.sm e
   ·exact q.qb e
   ·exact q.wr e
  exact ⟨this, this⟩).mono (fun b hb => hb.step hs) (fun b hb => hb.step hs)
theorem OrAt.lt4 {w : World} {a : Ad} {Wr Rd : List Nat} {o : Ori} (h : OrAt w a Wr Rd o) : a.ob < w.heap.size ∧ a.sb < w.heap.size ∧ a.sm < w.heap.size ∧ a.qb < w.heap.size := ⟨lt_of_get _ _ h.head, h.st.lt.1, h.st.lt.2.1, h.ms.lt⟩
theorem AnsAt.keep {w w' : World} {a : Ad} {Wr Rd Wr' Rd' : List Nat} {o : Ori} {v : Value} {l : List Ans} (h : OrAt w a Wr Rd o) (ha : AnsAt w' (Fresh w Wr' Rd') (Fresh w Wr' Rd') v l) : AnsK w' a Wr' Rd' v l := by
 have h4 := h.lt4
 obtain ⟨⟨ms, h1, h2, h3⟩, hb⟩ := ha
 have key : ∀ b, Fresh w Wr' Rd' b → b < w'.heap.size → Keep w' a Wr' Rd' b := fun b q ql => ⟨q.2.1, q.2.2, ql, by have := q.1; omega, by have := q.1; omega, by have := q.1; omega⟩
 exact ⟨⟨ms, h1, h2, fun i m x q1 q2 => ⟨(h3 i m x q1 q2).eq, (h3 i m x q1 q2).own, fun b q => key b ((h3 i m x q1 q2).blk b q) ((h3 i m x q1 q2).own.lt q)⟩⟩, fun b q => key b (hb b q) (h1.lt q)⟩
theorem AnsAt.read {w : World} {R R' : Nat → Prop} {v : Value} {l : List Ans} (h : AnsAt w R R' v l) (i : Nat) (x : Ans) (hx : l[i]? = some x) :
  ∃ m b off cap o, AnsIs w R m x ∧ v = .slice (some ⟨b, off, none⟩) l.length cap ∧ w.heap[b]? = some o ∧ b < w.heap.size ∧ (∀ orig K, ldnV orig 16 (some o) (off + i * 16) K = K (.agg (encMsg m).toArray)) ∧
    (∀ j y orig K, (encMsg m)[j]? = some y → ldV orig (some o) (off + i * 16 + j) K = K y) := by
 obtain ⟨⟨ms, h1, h2, h3⟩, hb⟩ := h
 have hi := (List.getElem?_eq_some_iff.1 hx).1
 have hm : ms[i]? = some (ms[i]'(by omega)) := List.getElem?_eq_getElem (by omega)
 obtain ⟨b, off, cap, o, q1, q2, q3, q4, q5⟩ := SlOf.read (enc := encMsg) h1.sl encMsg_len i _ hm
 exact ⟨_, b, off, cap, o, h3 i _ x hm hx, by rw [q1, h2], q2, q3, q4, q5⟩
theorem AnsAt.read2 {w : World} {R R' : Nat → Prop} {v : Value} {l : List Ans} (h : AnsAt w R R' v l) (i : Nat) (x : Ans) (hx : l[i]? = some x) :
  ∃ m b off cap o, AnsIs w R m x ∧ v = .slice (some ⟨b, off, none⟩) l.length cap ∧ w.heap[b]? = some o ∧ b < w.heap.size ∧ (∀ orig K, ldnV orig 16 (some o) (off + i * 16) K = K (.agg (encMsg m).toArray)) ∧
    (∀ j y orig K, (encMsg m)[j]? = some y → ldV orig (some o) (off + i * 16 + j) K = K y) ∧
    (∀ j y z orig K, (encMsg m)[j]? = some y → (encMsg m)[j + 1]? = some z → ldnV orig 2 (some o) (off + i * 16 + j) K = K (.agg ([y, z] : List Value).toArray)) := by
 obtain ⟨⟨ms, h1, h2, h3⟩, hb⟩ := h
 have hi := (List.getElem?_eq_some_iff.1 hx).1
 have hm : ms[i]? = some (ms[i]'(by omega)) := List.getElem?_eq_getElem (by omega)
 obtain ⟨b, off, cap, c, et, fr, q1, q2, hg, hd⟩ := SlOf.elem (enc := encMsg) h1.sl encMsg_len i _ hm
 refine ⟨_, b, off, cap, _, h3 i _ x hm hx, by rw [q1, h2], q2, lt_of_get w b q2, fun orig K => ?_, fun j y orig K hj => ?_, fun j y z orig K hj hk => ?_⟩
 ·rw [ldnV_cells _ _ _ _ _ _ _ (by rw [hd, encMsg_len]), hd]
 ·have hjk := (List.getElem?_eq_some_iff.1 hj).1
  rw [encMsg_len] at hjk
  rw [ldV_cells, hg j hjk, hj, oV_some]
 ·have hjk := (List.getElem?_eq_some_iff.1 hk).1
  rw [encMsg_len] at hjk
  have e : (c.toList.drop (off + i * 16 + j)).take 2 = [y, z] := by
   apply List.ext_getElem?
   intro t
   by_cases ht : t < 2
   ·rw [List.getElem?_take, if_pos ht, List.getElem?_drop]
    rcases (by omega : t = 0 ∨ t = 1) with rfl | rfl
    ·rw [Nat.add_zero, hg j (by omega), hj]; rfl
    ·rw [Nat.add_assoc, hg (j + 1) (by omega), hk]; rfl
   ·rw [List.getElem?_take, if_neg ht, List.getElem?_eq_none (by simp; omega)]
  rw [ldnV_cells _ _ _ _ _ _ _ (by rw [e]; rfl), e]
theorem wfx_at {w : World} {b : Nat} (g : w.heap[b]? = some (.cells (St.encWr ⟨kA, true, kX⟩).toArray 66 (0, 0))) {s q : Int} : MsgAt w (cmtM s q (some ⟨b, 0, none⟩) 1 1) wfx [] :=
 ⟨⟨rfl, .inr ⟨b, 0, 1, _, 66, (0, 0), rfl, g, rfl⟩⟩, Sl.nil, by decide, by decide⟩
end Go.Proofs.YtgloomahpjpiiaaGreat.Or
namespace Go.Proofs.YtgloomahpjpiiaaGreat.Or
open Go.VW
/-- The origin's own blocks are younger than the world. -/
def Young (w0 : World) (a : Ad) (Wr : List Nat) : Prop := (∀ x, x = a.ob ∨ x = a.sb ∨ x = a.sm ∨ x = a.qb → w0.heap.size ≤ x) ∧ ∀ x ∈ Wr, w0.heap.size ≤ x
theorem Young.step {w0 w w' : World} {a : Ad} {Wr Rd Wr' Rd' : List Nat} (h : Young w0 a Wr) (hz : w0.heap.size ≤ w.heap.size) (hs : Step w w' a Wr Rd Wr' Rd') : Young w0 a Wr' :=
 ⟨h.1, fun x hx => by rcases hs.wr x hx with q | q; exact h.2 x q; omega⟩
theorem Young.fr {w0 w w' : World} {a : Ad} {Wr Rd Wr' Rd' : List Nat} (h : Young w0 a Wr) (hf : Fr [] w0 w) (hs : Step w w' a Wr Rd Wr' Rd') : Fr [] w0 w' :=
 hf.trans hs.fr fun x hx => .inr (by
  simp only [List.mem_cons] at hx
  rcases hx with e | e | e | e
  ·exact h.1 x (by simp [e])
  ·exact h.1 x (by simp [e])
  ·exact h.1 x (by simp [e])
  ·exact h.2 x e)
theorem offNew {w : World} {a : Ad} {Wr Rd : List Nat} {o : Ori} (h : OrAt w a Wr Rd o) {m : Msg} {b l c : Nat} (hb : w.heap.size ≤ b) {s q : Int} : ∀ x, x = a.sb ∨ x = a.sm ∨ x = a.qb → offV (cmtM s q (some ⟨b, 0, none⟩) l c).wv x := by
 intro x hx a' n' c' e
 have h4 := h.lt4
 simp only [Msg.wv, cmtM, Value.slice.injEq, Option.some.injEq] at e
 rw [← e.1]
 show b ≠ x
 rcases hx with r | r | r <;> omega
set_option maxHeartbeats 64000000 in
theorem fixed_spec {w : World} {K : Value → World → Prop} (hK : ∀ w', Fr [] w w' → K (.bool true) w') : CallsN Tryz.prog 6 [] w K := by
 have cw := cur w
 refine call6 ?_
 simp (maxSteps:=4000000)(disch:=first|assumption|(simp only[dz];first|done|assumption|omega)|omega|apply_rules[Fr.refl,Fr.alloc,Fr.drew]|rfl) only [↓gd,gp,Nat.reduceAdd,Nat.reduceEqDiff, ↓c6_6_s, ↓c6_5_s, ↓c6_3_s, ↓c6_9_s, ↓c6_8_s, ↓c6_7_s, ↓c6_2_s, ↓c6_1_s, ↓c6_s, ↓w3t_6]
 refine onew_spec (c := cfx) fun a w1 hf1 h1 hy => ?_
 have cw1 := cur w1
 have y1 : Young w a [a.lb] := ⟨fun x hx => hy x (by rcases hx with r | r | r | r <;> simp [r]), fun x hx => hy x (by simp at hx; simp [hx])⟩
 change OrAt w1 a [a.lb] [] ox0 at h1
 try simp (maxSteps:=4000000)(disch:=first|assumption|(simp only[dz];first|done|assumption|omega)|omega|apply_rules[Fr.refl,Fr.alloc,Fr.drew]|rfl) only [↓gd,gp,Nat.reduceAdd,Nat.reduceEqDiff, ↓c6_6_s, ↓c6_5_s, ↓c6_3_s, ↓c6_9_s, ↓c6_8_s, ↓c6_7_s, ↓c6_2_s, ↓c6_1_s, ↓c6_s, ↓w3t_6]
 refine put_spec (k := kA) (d := kX) fun w2 hf2 => ?_
 have cw2 := cur w2
 have hl3 : (St.encWr ⟨kA, true, kX⟩).length = 3 := rfl
 simp (maxSteps:=4000000)(disch:=first|assumption|(simp only[dz];first|done|assumption|omega)|omega|apply_rules[Fr.refl,Fr.alloc,Fr.drew]|rfl) only [↓gd,gp,Nat.reduceAdd,Nat.reduceEqDiff, ↓c6_6_s, ↓c6_5_s, ↓c6_3_s, ↓c6_9_s, ↓c6_8_s, ↓c6_7_s, ↓c6_2_s, ↓c6_1_s, ↓c6_s, ↓w3t_6, hl3]
 generalize hW : World.alloc w2 _ = w3
 have hf3 : Fr [] w2 w3 := by rw [← hW]; (repeat (first | exact Fr.refl _ _ | assumption | with_reducible apply Fr.alloc | with_reducible apply Fr.drew | with_reducible refine Fr.setB ?_ _ _ (.inr (by first | omega | (simp only [gz]; omega))) | with_reducible refine Fr.setB ?_ _ _ (.inl (by first | assumption | simp)) | with_reducible refine Fr.trans' ?_ (by assumption)))
 have g3 : w3.heap[w2.heap.size]? = some (.cells (St.encWr ⟨kA, true, kX⟩).toArray 66 (0, 0)) := by rw [← hW]; exact get_alloc_new _ _
 clear hW
 have cw3 := cur w3
 refine cmt_spec fun w4 hf4 => ?_
 have cw4 := cur w4
 try simp (maxSteps:=4000000)(disch:=first|assumption|(simp only[dz];first|done|assumption|omega)|omega|apply_rules[Fr.refl,Fr.alloc,Fr.drew]|rfl) only [↓gd,gp,Nat.reduceAdd,Nat.reduceEqDiff, ↓c6_6_s, ↓c6_5_s, ↓c6_3_s, ↓c6_9_s, ↓c6_8_s, ↓c6_7_s, ↓c6_2_s, ↓c6_1_s, ↓c6_s, ↓w3t_6]
 have h4 := ((h1.frN hf2).frN hf3).frN hf4
 refine handle_spec h4 (wfx_at (hf4.getN g3)) (fun _ => offNew (m := m5x) ((h1.frN hf2)) (Nat.le_refl _)) (by decide) fun va w5 Wr5 Rd5 h5 s5 a5 => ?_
 rw [fx1] at h5 a5
 have cw5 := cur w5
 have k5 := AnsAt.keep h4 a5
 have hF4 := ((hf1.trans' hf2).trans' hf3).trans' hf4
 have hF5 := y1.fr hF4 s5
 have y5 := y1.step hF4.size s5
 -- once more
 simp (maxSteps:=4000000)(disch:=first|assumption|(simp only[dz];first|done|assumption|omega)|omega|apply_rules[Fr.refl,Fr.alloc,Fr.drew]|rfl) only [↓gd,gp,Nat.reduceAdd,Nat.reduceEqDiff, ↓c6_6_s, ↓c6_4_s, ↓c6_3_s, ↓c6_9_s, ↓c6_8_s, ↓c6_7_s, ↓c6_2_s, ↓c6_1_s, ↓c6_s, ↓w3t_6]
 refine put_spec (k := kA) (d := kX) fun w6 hf6 => ?_
 have cw6 := cur w6
 simp (maxSteps:=4000000)(disch:=first|assumption|(simp only[dz];first|done|assumption|omega)|omega|apply_rules[Fr.refl,Fr.alloc,Fr.drew]|rfl) only [↓gd,gp,Nat.reduceAdd,Nat.reduceEqDiff, ↓c6_6_s, ↓c6_4_s, ↓c6_3_s, ↓c6_9_s, ↓c6_8_s, ↓c6_7_s, ↓c6_2_s, ↓c6_1_s, ↓c6_s, ↓w3t_6, hl3]
 generalize hW : World.alloc w6 _ = w7
 have hf7 : Fr [] w6 w7 := by rw [← hW]; (repeat (first | exact Fr.refl _ _ | assumption | with_reducible apply Fr.alloc | with_reducible apply Fr.drew | with_reducible refine Fr.setB ?_ _ _ (.inr (by first | omega | (simp only [gz]; omega))) | with_reducible refine Fr.setB ?_ _ _ (.inl (by first | assumption | simp)) | with_reducible refine Fr.trans' ?_ (by assumption)))
 have g7 : w7.heap[w6.heap.size]? = some (.cells (St.encWr ⟨kA, true, kX⟩).toArray 66 (0, 0)) := by rw [← hW]; exact get_alloc_new _ _
 clear hW
 have cw7 := cur w7
 refine cmt_spec fun w8 hf8 => ?_
 have cw8 := cur w8
 try simp (maxSteps:=4000000)(disch:=first|assumption|(simp only[dz];first|done|assumption|omega)|omega|apply_rules[Fr.refl,Fr.alloc,Fr.drew]|rfl) only [↓gd,gp,Nat.reduceAdd,Nat.reduceEqDiff, ↓c6_6_s, ↓c6_4_s, ↓c6_3_s, ↓c6_9_s, ↓c6_8_s, ↓c6_7_s, ↓c6_2_s, ↓c6_1_s, ↓c6_s, ↓w3t_6]
 have hf58 := (hf6.trans' hf7).trans' hf8
 have h8 := h5.frN hf58
 refine handle_spec h8 (wfx_at (hf8.getN g7)) (fun _ => offNew (m := m5x) (h5.frN hf6) (Nat.le_refl _)) (by decide) fun vb w9 Wr9 Rd9 h9 s9 a9 => ?_
 rw [fx2] at h9 a9
 have cw9 := cur w9
 have k9 := AnsAt.keep h8 a9
 have k9a := (k5.frN hf58).step s9
 have hF9 := y5.fr (hF5.trans' hf58) s9
 have y9 := y5.step (hF5.trans' hf58).size s9
 -- a read
 simp (maxSteps:=4000000)(disch:=first|assumption|(simp only[dz];first|done|assumption|omega)|omega|apply_rules[Fr.refl,Fr.alloc,Fr.drew]|rfl) only [↓gd,gp,Nat.reduceAdd,Nat.reduceEqDiff, ↓c6_5_s, ↓c6_4_s, ↓c6_3_s, ↓c6_9_s, ↓c6_8_s, ↓c6_7_s, ↓c6_2_s, ↓c6_1_s, ↓c6_s, ↓w3t_6]
 have hme : (encMsg m5x).toArray = #[.int .i64 5, .int .i64 0, .int .i64 0, .int .i64 0, .int .i64 3, .int .i64 1, .string kA, .int .i64 0, .int .i64 4611686018427387904, .bool false, .string ⟨#[]⟩, .bool false, .int .i64 0, .int .i64 0, .slice none 0 0, .slice none 0 0] := rfl
 rw [← hme]
 refine handle_spec (ws := []) (ks := []) h9 ⟨Sl.nil, Sl.nil, by decide, by decide⟩ (fun q => absurd rfl q) (by decide) fun vc wA WrA RdA hA sA aA => ?_
 rw [fx3] at hA aA
 have cwA := cur wA
 have kA' := AnsAt.keep h9 aA
 have kAa := k9a.step sA
 have kAb := k9.step sA
 have hFA := y9.fr hF9 sA
 obtain ⟨ma, ba, oa, ca, oba, ia, va1, va2, va3, va4, va5⟩ := kAa.read 0 _ rfl
 obtain ⟨ma2, ba2, oa2, ca2, oba2, ia2, va21, va22, va23, va24, va25⟩ := kAa.read 2 _ rfl
 obtain ⟨mc, bc, oc, cc, obc, ic, vc1, vc2, vc3, vc4, vc5, vc6⟩ := kA'.read2 0 _ rfl
 obtain ⟨md, bd, od, cd, obd, id', vd1, vd2, vd3, vd4, vd5⟩ := kA'.read 1 _ rfl
 obtain ⟨xb, cb, vb1⟩ := kAb.form
 have ea : ma.n = 1 := by rw [ia.eq] <;> rfl
 have ea2 : ma2.node = 1 := by rw [ia2.eq] <;> rfl
 have ec1 : mc.plo = 1 := by rw [ic.eq] <;> rfl
 have ec2 : mc.phi = 2 := by rw [ic.eq] <;> rfl
 have ed : md.phi = 4611686018427387904 := by rw [id'.eq] <;> rfl
 have ra := fun orig K => va5 13 (.int .i64 1) orig K (by have h : (encMsg ma)[13]? = some (.int .i64 ma.n) := rfl; rw [ea] at h; exact h)
 have ra2 := fun orig K => va25 1 (.int .i64 1) orig K (by have h : (encMsg ma2)[1]? = some (.int .i64 ma2.node) := rfl; rw [ea2] at h; exact h)
 have rc := fun orig K => vc6 7 (.int .i64 1) (.int .i64 2) orig K (by have h : (encMsg mc)[7]? = some (.int .i64 mc.plo) := rfl; rw [ec1] at h; exact h) (by have h : (encMsg mc)[8]? = some (.int .i64 mc.phi) := rfl; rw [ec2] at h; exact h)
 have rd := fun orig K => vd5 8 (.int .i64 4611686018427387904) orig K (by have h : (encMsg md)[8]? = some (.int .i64 md.phi) := rfl; rw [ed] at h; exact h)
 obtain ⟨xa, ka, va0⟩ := kAa.form
 simp only [List.length_cons, List.length_nil, Nat.zero_add, Nat.reduceAdd] at va1 va21 vc1 vd1 vb1
 have hb2 : va = .slice (some ⟨ba2, oa2, none⟩) 3 ca2 := va21
 rw [va1] at hb2
 simp only [Value.slice.injEq, Option.some.injEq, Addr.mk.injEq, and_true, true_and] at hb2
 obtain ⟨⟨r1, r2⟩, r3⟩ := hb2
 subst r1 r2 r3
 have hd2 : vc = .slice (some ⟨bd, od, none⟩) 2 cd := vd1
 rw [vc1] at hd2
 simp only [Value.slice.injEq, Option.some.injEq, Addr.mk.injEq, and_true, true_and] at hd2
 obtain ⟨⟨r1, r2⟩, r3⟩ := hd2
 subst r1 r2 r3
 rw [va2] at va22
 rw [vc2] at vd2
 cases va22; cases vd2
 simp only [Nat.zero_mul, Nat.one_mul, Nat.add_zero, Nat.reduceMul, Nat.add_assoc, Nat.reduceAdd] at ra ra2 rc rd
 have n1 : ((1 : Nat) : Int) = 1 := rfl
 have n2 : ((2 : Nat) : Int) = 2 := rfl
 have n3 : ((3 : Nat) : Int) = 3 := rfl
 have m0 : (0 : Int).toNat = 0 := rfl
 have m1 : (1 : Int).toNat = 1 := rfl
 have m2 : (2 : Int).toNat = 2 := rfl
 have i0 : (0 : Int) ≤ 0 := by decide
 have i1 : (0 : Int) ≤ 1 := by decide
 have i2 : (0 : Int) ≤ 2 := by decide
 have j0 : (0 : Int) < 3 := by decide
 have j2 : (2 : Int) < 3 := by decide
 have l0 : (0 : Int) < 2 := by decide
 have l1 : (1 : Int) < 2 := by decide
 simp (maxSteps:=4000000)(disch:=first|assumption|(simp only[dz];first|done|assumption|omega)|omega|apply_rules[Fr.refl,Fr.alloc,Fr.drew]|rfl) only [↓gd,gp,Nat.reduceAdd,Nat.reduceEqDiff, ↓hk6, va1, vb1, vc1, va2, vc2, ra, ra2, rc, rd, n1, n2, n3, decide_true, m0, m1, m2, i0, i1, i2, j0, j2, l0, l1, Nat.zero_mul, Nat.one_mul, Nat.add_zero, Nat.reduceMul]
 change OrAt wA a WrA RdA ox1 at hA
 refine last_o hA ?_
 rw [fx4]
 simp (maxSteps:=4000000)(disch:=first|assumption|(simp only[dz];first|done|assumption|omega)|omega|apply_rules[Fr.refl,Fr.alloc,Fr.drew]|rfl) only [↓gd,gp,Nat.reduceAdd,Nat.reduceEqDiff, decide_true]
 exact hK _ hFA
end Go.Proofs.YtgloomahpjpiiaaGreat.Or
namespace Go.Proofs.YtgloomahpjpiiaaGreat.Or
open Go.VW
end Go.Proofs.YtgloomahpjpiiaaGreat.Or
