/- Held, route.To; an origin in memory; New. route.Hash, route.To. An origin in memory; New, Last, Read, Oldest, Records. -/
import Derived.Test.YtgloomahpjpiiaaGreatO6
import Derived.Test.YtgloomahpjpiiaaGreatOO
set_option linter.unusedVariables false
set_option linter.unusedSimpArgs false
set_option maxRecDepth 10000
namespace Go.Proofs.YtgloomahpjpiiaaGreat.Or
open Go.VW
structure Cfg where
 nodes : Int
 bytes : Int
 spans : Int
 gap : Int
 recent : Int
 vers : Int
 prot : Int
 retr : Int
def encCfg (c : Cfg) : List Value := [.int .i64 c.nodes, .int .i64 c.bytes, .int .i64 c.spans, .int .i64 c.gap, .int .i64 c.recent, .int .i64 c.vers, .int .i64 c.prot, .int .i64 c.retr]
def hld (n lo hi : Int) : Int := min (max n lo) hi
def Cfg.held (c : Cfg) : Cfg := ⟨hld c.nodes 1 8, hld c.bytes 0 1048576, hld c.spans 1 64, hld c.gap 0 256, hld c.recent 0 1024, hld c.vers 1 64, hld c.prot 0 256, hld c.retr 0 16⟩
theorem heldC_spec {n hi lo : Int} {w : World} {K : Value → World → Prop} (hK : K (.int .i64 (hld n lo hi)) w) : CallsN Tryz.prog 49 [.int .i64 n, .int .i64 hi, .int .i64 lo] w K := by
 have cw := cur w
 unfold hld at hK
 refine call49 ?_
 simp (maxSteps:=4000000)(disch:=first|assumption|(simp only[dz];first|done|assumption|omega)|omega|apply_rules[Fr.refl,Fr.alloc,Fr.drew]|rfl) only [↓gd,gp,Nat.reduceAdd,Nat.reduceEqDiff, ↓hk49]
 exact hK
set_option maxHeartbeats 8000000 in
theorem held_spec {c : Cfg} {w : World} {K : Value → World → Prop} (hK : ∀ w', Fr [] w w' → K (.agg (encCfg c.held).toArray) w') : CallsN Tryz.prog 25 [.agg (encCfg c).toArray] w K := by
 have cw := cur w
 unfold Cfg.held encCfg at hK
 refine call25 ?_
 unfold encCfg
 simp (maxSteps:=4000000)(disch:=first|assumption|(simp only[dz];first|done|assumption|omega)|omega|apply_rules[Fr.refl,Fr.alloc,Fr.drew]|rfl) only [↓gd,gp,Nat.reduceAdd,Nat.reduceEqDiff, ↓hk25]
 refine heldC_spec ?_
 try simp (maxSteps:=4000000)(disch:=first|assumption|(simp only[dz];first|done|assumption|omega)|omega|apply_rules[Fr.refl,Fr.alloc,Fr.drew]|rfl) only [↓gd,gp,Nat.reduceAdd,Nat.reduceEqDiff, ↓hk25]
 refine heldC_spec ?_
 try simp (maxSteps:=4000000)(disch:=first|assumption|(simp only[dz];first|done|assumption|omega)|omega|apply_rules[Fr.refl,Fr.alloc,Fr.drew]|rfl) only [↓gd,gp,Nat.reduceAdd,Nat.reduceEqDiff, ↓hk25]
 refine heldC_spec ?_
 try simp (maxSteps:=4000000)(disch:=first|assumption|(simp only[dz];first|done|assumption|omega)|omega|apply_rules[Fr.refl,Fr.alloc,Fr.drew]|rfl) only [↓gd,gp,Nat.reduceAdd,Nat.reduceEqDiff, ↓hk25]
 refine heldC_spec ?_
 try simp (maxSteps:=4000000)(disch:=first|assumption|(simp only[dz];first|done|assumption|omega)|omega|apply_rules[Fr.refl,Fr.alloc,Fr.drew]|rfl) only [↓gd,gp,Nat.reduceAdd,Nat.reduceEqDiff, ↓hk25]
 refine heldC_spec ?_
 try simp (maxSteps:=4000000)(disch:=first|assumption|(simp only[dz];first|done|assumption|omega)|omega|apply_rules[Fr.refl,Fr.alloc,Fr.drew]|rfl) only [↓gd,gp,Nat.reduceAdd,Nat.reduceEqDiff, ↓hk25]
 refine heldC_spec ?_
 try simp (maxSteps:=4000000)(disch:=first|assumption|(simp only[dz];first|done|assumption|omega)|omega|apply_rules[Fr.refl,Fr.alloc,Fr.drew]|rfl) only [↓gd,gp,Nat.reduceAdd,Nat.reduceEqDiff, ↓hk25]
 refine heldC_spec ?_
 try simp (maxSteps:=4000000)(disch:=first|assumption|(simp only[dz];first|done|assumption|omega)|omega|apply_rules[Fr.refl,Fr.alloc,Fr.drew]|rfl) only [↓gd,gp,Nat.reduceAdd,Nat.reduceEqDiff, ↓hk25]
 refine heldC_spec ?_
 try simp (maxSteps:=4000000)(disch:=first|assumption|(simp only[dz];first|done|assumption|omega)|omega|apply_rules[Fr.refl,Fr.alloc,Fr.drew]|rfl) only [↓gd,gp,Nat.reduceAdd,Nat.reduceEqDiff, ↓hk25]
 exact hK _ (by (repeat (first | exact Fr.refl _ _ | assumption | with_reducible apply Fr.alloc | with_reducible apply Fr.drew | with_reducible refine Fr.setB ?_ _ _ (.inr (by first | omega | (simp only [gz]; omega))) | with_reducible refine Fr.setB ?_ _ _ (.inl (by first | assumption | simp)) | with_reducible refine Fr.trans' ?_ (by assumption))))
end Go.Proofs.YtgloomahpjpiiaaGreat.Or
namespace Go.Proofs.YtgloomahpjpiiaaGreat.Or
open Go.VW
def hstep (h : Int) (b : Int) : Int := IntKind.u64.wrap (IntKind.u64.wrap (BitVec.ofInt IntKind.u64.bits h ^^^ BitVec.ofInt IntKind.u64.bits (IntKind.u64.wrap b)).toNat * 1099511628211)
def hashN (s : ByteArray) : Nat → Int
 | 0 => 14695981039346656037
 | i + 1 => hstep (hashN s i) (byteAt s i)
def hashI (s : ByteArray) : Int := hashN s s.size
set_option maxHeartbeats 8000000 in
theorem hash_spec {s : ByteArray} {w : World} {K : Value → World → Prop} (hs : s.size ≤ 9223372036854775807) (hK : K (.int .u64 (hashI s)) w) : CallsN Tryz.prog 91 [.string s] w K := by
 have cw := cur w
 refine call91 ?_
 simp (maxSteps:=4000000)(disch:=first|assumption|(simp only[dz];first|done|assumption|omega)|omega|apply_rules[Fr.refl,Fr.alloc,Fr.drew]|rfl) only [↓gd,gp,Nat.reduceAdd,Nat.reduceEqDiff, ↓hk91]
 refine for_intro s.size 7 0 (fun i e w' => e 0 = .string s ∧ e 3 = .int .u64 (hashN s i) ∧ e 6 = .int .i64 s.size ∧ w' = w) ?_ (Nat.zero_le _) ?_ ?_
 ·simp (maxSteps:=4000000)(disch:=first|assumption|(simp only[dz];first|done|assumption|omega)|omega|apply_rules[Fr.refl,Fr.alloc,Fr.drew]|rfl) only [↓gsd,gs,gv,Nat.reduceAdd,Nat.reduceEqDiff]; rfl
 ·simp (maxSteps:=4000000)(disch:=first|assumption|(simp only[dz];first|done|assumption|omega)|omega|apply_rules[Fr.refl,Fr.alloc,Fr.drew]|rfl) only [↓gsd,gs,gv,Nat.reduceAdd,Nat.reduceEqDiff, hashN]
 rintro i e w1 kk hi e7 ⟨e0, e3, e6, rfl⟩ hk
 have cw1 := cur w1
 by_cases hil : i < s.size
 ·have d : decide ((i : Int) < (s.size : Int)) = true := decide_eq_true (by omega)
  have wr : IntKind.i64.wrap ((i : Int) + 1) = (i : Int) + 1 := wrap64 (by omega) (by omega)
  have hix := fun k w => run_index_str (P := Tryz.prog) Tryz.runUnderlying9 hil k w
  simp (maxSteps:=4000000)(disch:=first|assumption|(simp only[dz];first|done|assumption|omega)|omega|apply_rules[Fr.refl,Fr.alloc,Fr.drew]|rfl) only [↓gd,gp,Nat.reduceAdd,Nat.reduceEqDiff, ↓hk91, e0, e3, e6, e7, d, wr, hix, run_xor, run_mul]
  refine hk _ _ hil rfl ?_
  simp (maxSteps:=4000000)(disch:=first|assumption|(simp only[dz];first|done|assumption|omega)|omega|apply_rules[Fr.refl,Fr.alloc,Fr.drew]|rfl) only [↓gsd,gs,gv,Nat.reduceAdd,Nat.reduceEqDiff, e0, e6]
  rfl
 ·have d : decide ((i : Int) < (s.size : Int)) = false := decide_eq_false (by omega)
  have his : i = s.size := by omega
  subst his
  simp (maxSteps:=4000000)(disch:=first|assumption|(simp only[dz];first|done|assumption|omega)|omega|apply_rules[Fr.refl,Fr.alloc,Fr.drew]|rfl) only [↓gd,gp,Nat.reduceAdd,Nat.reduceEqDiff, ↓hk91, e0, e3, e6, e7, d]
  exact hK
def toI (s : ByteArray) (n : Int) : Int := if n < 1 ∨ 8 < n then -1 else IntKind.i64.wrap ((hashI s).tmod (IntKind.u64.wrap n))
theorem to_spec {s : ByteArray} {n : Int} {w : World} {K : Value → World → Prop} (hs : s.size ≤ 9223372036854775807) (hK : K (.int .i64 (toI s n)) w) : CallsN Tryz.prog 59 [.string s, .int .i64 n] w K := by
 have cw := cur w
 unfold toI at hK
 refine call59 ?_
 by_cases h1 : n < 1
 ·have d1 : decide (n < 1) = true := decide_eq_true h1
  rw [if_pos (.inl h1)] at hK
  simp (maxSteps:=4000000)(disch:=first|assumption|(simp only[dz];first|done|assumption|omega)|omega|apply_rules[Fr.refl,Fr.alloc,Fr.drew]|rfl) only [↓gd,gp,Nat.reduceAdd,Nat.reduceEqDiff, ↓hk59, d1]
  exact hK
 ·have d1 : decide (n < 1) = false := decide_eq_false h1
  by_cases h8 : 8 < n
  ·have d8 : decide (8 < n) = true := decide_eq_true h8
   rw [if_pos (.inr h8)] at hK
   simp (maxSteps:=4000000)(disch:=first|assumption|(simp only[dz];first|done|assumption|omega)|omega|apply_rules[Fr.refl,Fr.alloc,Fr.drew]|rfl) only [↓gd,gp,Nat.reduceAdd,Nat.reduceEqDiff, ↓hk59, d1, d8]
   exact hK
  ·have d8 : decide (8 < n) = false := decide_eq_false h8
   rw [if_neg (by omega)] at hK
   have hu : IntKind.u64.wrap n = n := by
    have hc : n = 1 ∨ n = 2 ∨ n = 3 ∨ n = 4 ∨ n = 5 ∨ n = 6 ∨ n = 7 ∨ n = 8 := by omega
    rcases hc with rfl | rfl | rfl | rfl | rfl | rfl | rfl | rfl <;> rfl
   have hn0 : n ≠ 0 := by omega
   rw [hu] at hK
   simp (maxSteps:=4000000)(disch:=first|assumption|(simp only[dz];first|done|assumption|omega)|omega|apply_rules[Fr.refl,Fr.alloc,Fr.drew]|rfl) only [↓gd,gp,Nat.reduceAdd,Nat.reduceEqDiff, ↓hk59, d1, d8]
   refine hash_spec hs ?_
   simp (maxSteps:=4000000)(disch:=first|assumption|(simp only[dz];first|done|assumption|omega)|omega|apply_rules[Fr.refl,Fr.alloc,Fr.drew]|rfl) only [↓gd,gp,Nat.reduceAdd,Nat.reduceEqDiff, ↓hk59, run_rem _ _ _ _ _ _ _ hn0]
   exact hK
end Go.Proofs.YtgloomahpjpiiaaGreat.Or
namespace Go.Proofs.YtgloomahpjpiiaaGreat.Or
open Go.VW
structure Req where
 seq : Int
 n : Int
 err : Int
def encReq (r : Req) : List Value := [.int .i64 r.seq, .int .i64 r.n, .int .i64 r.err]
abbrev reqV (r : Req) : Value := .agg (encReq r).toArray
def req0 : Req := ⟨0, 0, 0⟩
def sesV (l : List (Int × Req)) : List (Int × Value) := l.map fun p => (p.1, reqV p.2)
theorem aget_ses (l : List (Int × Req)) (k : Int) : aget (sesV l) k = (aget l k).map reqV := by
 induction l with
 | nil => rfl
 | cons p l ih =>
   obtain ⟨a, r⟩ := p
   show aget ((a, reqV r) :: sesV l) k = _
   unfold aget
   by_cases h : a = k
   ·simp [h]
   ·simp only [h, if_false]; exact ih
theorem aset_ses (l : List (Int × Req)) (k : Int) (r : Req) : aset (sesV l) k (reqV r) = sesV (aset l k r) := by
 induction l with
 | nil => rfl
 | cons p l ih =>
   obtain ⟨a, q⟩ := p
   show aset ((a, reqV q) :: sesV l) k (reqV r) = _
   unfold aset
   by_cases h : a = k
   ·simp [h, sesV]
   ·simp only [h, if_false]
    rw [ih]; rfl
structure Ori where
 cfg : Cfg
 st : St.St
 L : List Sm.Ks
 ses : List (Int × Req)
structure Ad where
 ob : Nat
 sb : Nat
 sm : Nat
 lb : Nat
 qb : Nat
structure OrAt (w : World) (a : Ad) (Wr Rd : List Nat) (o : Ori) : Prop where
 head : w.heap[a.ob]? = some (.cells (encCfg o.cfg ++ ([.pointer (some ⟨a.sb, 0, none⟩), .pointer (some ⟨a.lb, 0, none⟩), .map (some a.qb)] : List Value)).toArray 80 (0, 0))
 st : St.StoreAt w a.sb a.sm o.st
 lg : Sm.LogAt w a.lb Wr Rd o.L
 ms : MapAt (Value.int .i64) w.heap[a.qb]? (sesV o.ses)
 ap : ∀ x, x = a.ob ∨ x = a.sb ∨ x = a.sm ∨ x = a.qb → x ∉ Wr ∧ x ∉ Rd
 nq : a.qb ≠ a.sm
 wf : o.st.WF
theorem OrAt.frN {w w' : World} {a : Ad} {Wr Rd : List Nat} {o : Ori} (h : OrAt w a Wr Rd o) (hf : Fr [] w w') : OrAt w' a Wr Rd o := by
 obtain ⟨h1, h2, h3, h4, h5, h6, h7⟩ := h
 refine ⟨hf.getN h1, h2.frN hf, h3.frN hf, ?_, h5, h6, h7⟩
 rw [hf.keepN _ h4.lt]; exact h4
theorem OrAt.qo {w : World} {a : Ad} {Wr Rd : List Nat} {o : Ori} (h : OrAt w a Wr Rd o) : a.qb ≠ a.ob ∧ a.qb ≠ a.sb ∧ a.sm ≠ a.ob ∧ a.sb ≠ a.ob := by
 obtain ⟨ents, cl, hq, _⟩ := h.ms.ex
 obtain ⟨es, hm, _⟩ := h.st.rows
 obtain ⟨ents2, cl2, hm2, _⟩ := hm.ex
 refine ⟨fun e => ?_, fun e => ?_, fun e => ?_, fun e => ?_⟩
 ·rw [e, h.head] at hq; cases hq
 ·rw [e, h.st.head] at hq; cases hq
 ·rw [e, h.head] at hm2; cases hm2
 ·have h1 := h.st.head
  rw [e, h.head] at h1
  simp at h1
def Ori.new (c : Cfg) : Ori := ⟨c.held, St.St.new c.held.vers, [], []⟩
set_option maxHeartbeats 8000000 in
theorem onew_spec {c : Cfg} {w : World} {K : Value → World → Prop} (hK : ∀ a w', Fr [] w w' → OrAt w' a [a.lb] [] (Ori.new c) → (∀ x, x = a.ob ∨ x = a.sb ∨ x = a.sm ∨ x = a.lb ∨ x = a.qb → w.heap.size ≤ x) → K (.pointer (some ⟨a.ob, 0, none⟩)) w') : CallsN Tryz.prog 7 [.agg (encCfg c).toArray] w K := by
 have cw := cur w
 refine call7 ?_
 unfold encCfg
 simp (maxSteps:=4000000)(disch:=first|assumption|(simp only[dz];first|done|assumption|omega)|omega|apply_rules[Fr.refl,Fr.alloc,Fr.drew]|rfl) only [↓gd,gp,Nat.reduceAdd,Nat.reduceEqDiff, ↓hk7]
 generalize hW : World.alloc w _ = w1
 have hf1 : Fr [] w w1 := by rw [← hW]; (repeat (first | exact Fr.refl _ _ | assumption | with_reducible apply Fr.alloc | with_reducible apply Fr.drew | with_reducible refine Fr.setB ?_ _ _ (.inr (by first | omega | (simp only [gz]; omega))) | with_reducible refine Fr.setB ?_ _ _ (.inl (by first | assumption | simp)) | with_reducible refine Fr.trans' ?_ (by assumption)))
 have hz1 : w1.heap.size = w.heap.size + 1 := by rw [← hW]; simp only [gz]
 have g1 : w1.heap[w.heap.size]? = some (.cells (encCfg c).toArray 23 (0, 0)) := by rw [← hW]; exact get_alloc_new _ _
 clear hW
 have cw1 := cur w1
 refine held_spec (c := c) fun w2 hf2 => ?_
 have cw2 := cur w2
 have hz2 := hf2.size
 have g2 := hf2.getN g1
 have l2 := lt_of_get _ _ g2
 unfold encCfg at g2 ⊢
 simp (maxSteps:=4000000)(disch:=first|assumption|(simp only[dz];first|done|assumption|omega)|omega|apply_rules[Fr.refl,Fr.alloc,Fr.drew]|rfl) only [↓gd,gp,Nat.reduceAdd,Nat.reduceEqDiff, ↓hk7, g2]
 generalize hW : World.setB w2 _ _ = w3
 have hf3 : Fr [] w w3 := by rw [← hW]; exact (hf1.trans' hf2).setB _ _ (.inr (Nat.le_refl _))
 have hz3 : w3.heap.size = w2.heap.size := by rw [← hW]; simp only [gz]
 have g3 : w3.heap[w.heap.size]? = some (.cells (encCfg c.held).toArray 23 (0, 0)) := by rw [← hW]; exact get_setB_same _ _ _ l2
 clear hW
 have cw3 := cur w3
 have l3 := lt_of_get _ _ g3
 unfold encCfg at g3
 have fin : ∀ (sb sm lb qb : Nat) (w5 : World), Fr [] w3 w5 → St.StoreAt w5 sb sm (St.St.new c.held.vers) → Sm.LogAt w5 lb [lb] [] [] → MapAt (Value.int .i64) w5.heap[qb]? ([] : List (Int × Value)) → w3.heap.size ≤ sb → w3.heap.size ≤ sm → w3.heap.size ≤ lb → w3.heap.size ≤ qb → lb ≠ sb → lb ≠ sm → lb ≠ qb → qb ≠ sm → K (.pointer (some ⟨w5.heap.size, 0, none⟩)) (w5.alloc (.cells (encCfg c.held ++ ([.pointer (some ⟨sb, 0, none⟩), .pointer (some ⟨lb, 0, none⟩), .map (some qb)] : List Value)).toArray 80 (0, 0))) := by
  intro sb sm lb qb w5 hf hs hl hm z1 z2 z3 z4 d1 d2 d3 d4
  have hz5 := hf.size
  have hfa : Fr [] w5 (w5.alloc (.cells (encCfg c.held ++ ([.pointer (some ⟨sb, 0, none⟩), .pointer (some ⟨lb, 0, none⟩), .map (some qb)] : List Value)).toArray 80 (0, 0))) := (Fr.refl _ _).alloc _
  have hll : lb < w5.heap.size := hl.lt _ (.inl hl.lb)
  refine hK ⟨w5.heap.size, sb, sm, lb, qb⟩ _ ((hf3.trans' hf).trans' hfa) ⟨get_alloc_new _ _, hs.frN hfa, hl.frN hfa, ?_, ?_, d4, St.St.new_wf _⟩ ?_
  ·rw [hfa.keepN _ hm.lt]; exact hm
  ·rintro x hx
   simp only [List.mem_singleton, List.not_mem_nil, not_false_eq_true, and_true]
   rintro rfl
   rcases hx with h | h | h | h
   ·simp only at h; omega
   ·exact d1 h
   ·exact d2 h
   ·exact d3 h
  ·rintro x hx
   rcases hx with h | h | h | h | h <;> simp only at h <;> omega
 have hf0 : Fr [] w3 w3.drew := Fr.drew (Fr.refl _ _)
 refine ⟨?_, ?_⟩
 ·refine St.new_spec fun sb sm w4 hf4 z1 z2 hs4 => ?_
  replace hf4 : Fr [] w3 w4 := hf0.trans' hf4
  simp only [size_drew] at z1 z2
  have cw4 := cur w4
  have hz4 := hf4.size
  have ls := lt_of_get _ _ hs4.head
  have lm := hs4.lt.2.1
  refine ⟨.inl hf4, ?_, ?_⟩
  ·refine Sm.new_log fun lb w5 hf5 z3 hl5 => ?_
   have cw5 := cur w5
   have hz5 := hf5.size
   have h45 := hf4.trans' hf5
   have hA : Fr [] w5 (w5.alloc (.map #[] 0)) := (Fr.refl _ _).alloc _
   refine ⟨.inl h45, .inl (h45.trans' hA), ?_⟩
   have h := fin sb sm lb w5.heap.size _ (h45.trans' hA) (hs4.frN (hf5.trans' hA)) (hl5.frN hA) (by rw [get_alloc_new]; exact MapAt.empty) z1 z2 (by omega) (by omega) (by omega) (by omega) (by have := hl5.lt _ (.inl hl5.lb); omega) (by omega)
   simp (maxSteps:=4000000)(disch:=first|assumption|(simp only[dz];first|done|assumption|omega)|omega|apply_rules[Fr.refl,Fr.alloc,Fr.drew]|rfl) only [↓gd,gp,Nat.reduceAdd,Nat.reduceEqDiff]
   rw [size_alloc] at h
   exact h
  ·have hA : Fr [] w4 (w4.alloc (.map #[] 0)) := (Fr.refl _ _).alloc _
   refine ⟨.inl (hf4.trans' hA), ?_⟩
   refine Sm.new_log fun lb w5 hf5 z3 hl5 => ?_
   have cw5 := cur w5
   have hz5 := hf5.size
   simp only [size_alloc] at hz5 z3
   have h45 := (hf4.trans' hA).trans' hf5
   refine ⟨.inl h45, ?_⟩
   have h := fin sb sm lb w4.heap.size _ h45 (hs4.frN (hA.trans' hf5)) hl5 (by rw [hf5.keepN _ (by simp only [gz]; omega), get_alloc_new]; exact MapAt.empty) z1 z2 (by omega) (by omega) (by omega) (by omega) (by omega) (by omega)
   simp (maxSteps:=4000000)(disch:=first|assumption|(simp only[dz];first|done|assumption|omega)|omega|apply_rules[Fr.refl,Fr.alloc,Fr.drew]|rfl) only [↓gd,gp,Nat.reduceAdd,Nat.reduceEqDiff]
   exact h
 ·have hA : Fr [] w3 (w3.drew.alloc (.map #[] 0)) := hf0.alloc _
  refine St.new_spec fun sb sm w4 hf4 z1 z2 hs4 => ?_
  have cw4 := cur w4
  have hz4 := hf4.size
  simp only [size_alloc, size_drew] at hz4 z1 z2
  have ls := lt_of_get _ _ hs4.head
  have lm := hs4.lt.2.1
  refine ⟨.inl (hA.trans' hf4), ?_⟩
  refine Sm.new_log fun lb w5 hf5 z3 hl5 => ?_
  have cw5 := cur w5
  have hz5 := hf5.size
  have h45 := (hA.trans' hf4).trans' hf5
  refine ⟨.inl h45, ?_⟩
  have h := fin sb sm lb w2.heap.size _ h45 (hs4.frN hf5) hl5 (by rw [hf5.keepN _ (by omega), hf4.keepN _ (by simp only [gz]; omega), ← hz3, ← size_drew w3, get_alloc_new]; exact MapAt.empty) (by omega) (by omega) (by omega) (by omega) (by omega) (by omega) (by omega) (by omega)
  simp (maxSteps:=4000000)(disch:=first|assumption|(simp only[dz];first|done|assumption|omega)|omega|apply_rules[Fr.refl,Fr.alloc,Fr.drew]|rfl) only [↓gd,gp,Nat.reduceAdd,Nat.reduceEqDiff]
  exact h
end Go.Proofs.YtgloomahpjpiiaaGreat.Or
