/- The reference: Hash, To; Held; keys. The reference's origin in memory; New. The reference's origin: its array of requests. -/
import Derived.Test.YtgloomahpjpiiaaGreatX9
import Derived.Test.YtgloomahpjpiiaaGreatPC
import Derived.Test.YtgloomahpjpiiaaGreatB6
set_option linter.unusedVariables false
set_option linter.unusedSimpArgs false
set_option maxRecDepth 10000
namespace Go.Proofs.YtgloomahpjpiiaaGreat.Or
open Go.VW
theorem or_xor (x y : BitVec 64) : ((x ||| y).toNat : Int) = (((x ^^^ y).toNat : Int) + ((x &&& y).toNat : Int)) % 18446744073709551616 := by
 have h : (x ^^^ y) + (x &&& y) = x ||| y := by
  rw [BitVec.add_eq_or_of_and_eq_zero]
  ·ext i; simp; cases x[i] <;> cases y[i] <;> rfl
  ·ext i; simp; cases x[i] <;> cases y[i] <;> simp
 rw [← h, BitVec.toNat_add]
 omega
theorem u64_wrap (n : Int) : IntKind.u64.wrap n = n % 18446744073709551616 := by
 simp [IntKind.wrap, IntKind.bits, IntKind.signed]
theorem step_xor (x y : BitVec 64) : IntKind.u64.wrap (IntKind.u64.wrap ((x ||| y).toNat : Int) - IntKind.u64.wrap ((x &&& y).toNat : Int)) = IntKind.u64.wrap ((x ^^^ y).toNat : Int) := by
 have h := or_xor x y
 simp only [u64_wrap]
 omega
set_option maxHeartbeats 8000000 in
theorem r14hash {s : ByteArray} {w : World} {K : Value → World → Prop} (hs : s.size ≤ 9223372036854775807) (hK : K (.int .u64 (hashI s)) w) : CallsN Tryz.prog 95 [.string s] w K := by
 have cw := cur w
 refine call95 ?_
 simp (maxSteps:=4000000)(disch:=first|assumption|(simp only[dz];first|done|assumption|omega)|omega|apply_rules[Fr.refl,Fr.alloc,Fr.drew]|rfl) only [↓gd,gp,Nat.reduceAdd,Nat.reduceEqDiff, ↓hk95]
 refine for_intro s.size 4 0 (fun i e w' => e 0 = .string s ∧ e 3 = .int .u64 (hashN s i) ∧ w' = w) ?_ (Nat.zero_le _) ?_ ?_
 ·simp (maxSteps:=4000000)(disch:=first|assumption|(simp only[dz];first|done|assumption|omega)|omega|apply_rules[Fr.refl,Fr.alloc,Fr.drew]|rfl) only [↓gsd,gs,gv,Nat.reduceAdd,Nat.reduceEqDiff]; rfl
 ·simp (maxSteps:=4000000)(disch:=first|assumption|(simp only[dz];first|done|assumption|omega)|omega|apply_rules[Fr.refl,Fr.alloc,Fr.drew]|rfl) only [↓gsd,gs,gv,Nat.reduceAdd,Nat.reduceEqDiff, hashN]
 rintro i e w1 kk hi e4 ⟨e0, e3, rfl⟩ hk
 have cw1 := cur w1
 by_cases hil : i < s.size
 ·have d : decide ((i : Int) < (s.size : Int)) = true := decide_eq_true (by omega)
  have wr : IntKind.i64.wrap ((i : Int) + 1) = (i : Int) + 1 := wrap64 (by omega) (by omega)
  have hix := fun k w => run_index_str (P := Tryz.prog) Tryz.runUnderlying9 hil k w
  simp (maxSteps:=4000000)(disch:=first|assumption|(simp only[dz];first|done|assumption|omega)|omega|apply_rules[Fr.refl,Fr.alloc,Fr.drew]|rfl) only [↓gd,gp,Nat.reduceAdd,Nat.reduceEqDiff, ↓hk95, e0, e3, e4, d, wr, hix, run_or, run_and, run_mul]
  refine hk _ _ hil rfl ?_
  simp (maxSteps:=4000000)(disch:=first|assumption|(simp only[dz];first|done|assumption|omega)|omega|apply_rules[Fr.refl,Fr.alloc,Fr.drew]|rfl) only [↓gsd,gs,gv,Nat.reduceAdd,Nat.reduceEqDiff, e0]
  have e := step_xor (BitVec.ofInt 64 (hashN s i)) (BitVec.ofInt 64 (IntKind.u64.wrap (byteAt s i)))
  show Value.int .u64 (IntKind.u64.wrap (_ * _)) = Value.int .u64 (hstep _ _)
  unfold hstep
  congr 1
  have e' : IntKind.u64.bits = 64 := rfl
  first
   | exact congrArg (fun z => IntKind.u64.wrap (z * 1099511628211)) e
   | (rw [e'] at *; exact congrArg (fun z => IntKind.u64.wrap (z * 1099511628211)) e)
 ·have d : decide ((i : Int) < (s.size : Int)) = false := decide_eq_false (by omega)
  have his : i = s.size := by omega
  subst his
  simp (maxSteps:=4000000)(disch:=first|assumption|(simp only[dz];first|done|assumption|omega)|omega|apply_rules[Fr.refl,Fr.alloc,Fr.drew]|rfl) only [↓gd,gp,Nat.reduceAdd,Nat.reduceEqDiff, ↓hk95, e0, e3, e4, d]
  exact hK
theorem hash_range (s : ByteArray) : 0 ≤ hashI s ∧ hashI s < 18446744073709551616 := by
 have : ∀ i, 0 ≤ hashN s i ∧ hashN s i < 18446744073709551616 := fun i => by
  cases i with
  | zero => unfold hashN; decide
  | succ i =>
    unfold hashN hstep
    rw [u64_wrap]
    omega
 exact this _
set_option maxHeartbeats 8000000 in
theorem r14to {s : ByteArray} {n : Int} {w : World} {K : Value → World → Prop} (hs : s.size ≤ 9223372036854775807) (hK : K (.int .i64 (toI s n)) w) : CallsN Tryz.prog 69 [.string s, .int .i64 n] w K := by
 have cw := cur w
 unfold toI at hK
 refine call69 ?_
 by_cases h1 : n < 1
 ·have d1 : decide (n < 1) = true := decide_eq_true h1
  rw [if_pos (.inl h1)] at hK
  simp (maxSteps:=4000000)(disch:=first|assumption|(simp only[dz];first|done|assumption|omega)|omega|apply_rules[Fr.refl,Fr.alloc,Fr.drew]|rfl) only [↓gd,gp,Nat.reduceAdd,Nat.reduceEqDiff, ↓hk69, d1]
  exact hK
 ·have d1 : decide (n < 1) = false := decide_eq_false h1
  by_cases h8 : 8 < n
  ·have d8 : decide (8 < n) = true := decide_eq_true h8
   rw [if_pos (.inr h8)] at hK
   simp (maxSteps:=4000000)(disch:=first|assumption|(simp only[dz];first|done|assumption|omega)|omega|apply_rules[Fr.refl,Fr.alloc,Fr.drew]|rfl) only [↓gd,gp,Nat.reduceAdd,Nat.reduceEqDiff, ↓hk69, d1, d8]
   exact hK
  ·have d8 : decide (8 < n) = false := decide_eq_false h8
   rw [if_neg (by omega)] at hK
   have hu : IntKind.u64.wrap n = n := by rw [u64_wrap]; omega
   have hn0 : n ≠ 0 := by omega
   rw [hu] at hK
   simp (maxSteps:=4000000)(disch:=first|assumption|(simp only[dz];first|done|assumption|omega)|omega|apply_rules[Fr.refl,Fr.alloc,Fr.drew]|rfl) only [↓gd,gp,Nat.reduceAdd,Nat.reduceEqDiff, ↓hk69, d1, d8]
   refine r14hash hs ?_
   have hr := hash_range s
   have e : IntKind.u64.wrap (hashI s - IntKind.u64.wrap (IntKind.u64.wrap ((hashI s).tdiv n) * n)) = (hashI s).tmod n := by
    have h0 := Int.tmod_eq_emod_of_nonneg (b := n) hr.1
    have h2 : (hashI s).tdiv n = hashI s / n := Int.tdiv_eq_ediv_of_nonneg hr.1
    have h3 := Int.emod_add_mul_ediv (hashI s) n
    have h4 := Int.emod_nonneg (hashI s) hn0
    have h5 := Int.emod_lt_of_pos (hashI s) (show 0 < n by omega)
    have h6 : 0 ≤ hashI s / n := Int.ediv_nonneg hr.1 (by omega)
    have h7 : hashI s / n ≤ hashI s := Int.ediv_le_self _ hr.1
    have h8 : n * (hashI s / n) = (hashI s / n) * n := Int.mul_comm _ _
    rw [h0, h2]
    rw [u64_wrap (hashI s / n), Int.emod_eq_of_lt h6 (by omega)]
    have h9 : 0 ≤ hashI s / n * n := Int.mul_nonneg h6 (by omega)
    rw [u64_wrap (hashI s / n * n), Int.emod_eq_of_lt h9 (by omega), u64_wrap]
    rw [Int.emod_eq_of_lt (by omega) (by omega)]
    omega
   simp (maxSteps:=4000000)(disch:=first|assumption|(simp only[dz];first|done|assumption|omega)|omega|apply_rules[Fr.refl,Fr.alloc,Fr.drew]|rfl) only [↓gd,gp,Nat.reduceAdd,Nat.reduceEqDiff, ↓hk69, run_quo _ _ _ _ _ _ _ hn0, hu, run_mul, e]
   exact hK
theorem r9held {n hi lo : Int} {w : World} {K : Value → World → Prop} (hlh : lo ≤ hi) (hK : K (.int .i64 (hld n lo hi)) w) : CallsN Tryz.prog 50 [.int .i64 n, .int .i64 lo, .int .i64 hi] w K := by
 have cw := cur w
 unfold hld at hK
 refine call50 ?_
 by_cases h1 : n < lo
 ·have d1 : decide (n < lo) = true := decide_eq_true h1
  simp (maxSteps:=4000000)(disch:=first|assumption|(simp only[dz];first|done|assumption|omega)|omega|apply_rules[Fr.refl,Fr.alloc,Fr.drew]|rfl) only [↓gd,gp,Nat.reduceAdd,Nat.reduceEqDiff, ↓hk50, d1]
  rw [show min (max n lo) hi = lo by omega] at hK
  exact hK
 ·have d1 : decide (n < lo) = false := decide_eq_false h1
  by_cases h2 : hi < n
  ·have d2 : decide (hi < n) = true := decide_eq_true h2
   simp (maxSteps:=4000000)(disch:=first|assumption|(simp only[dz];first|done|assumption|omega)|omega|apply_rules[Fr.refl,Fr.alloc,Fr.drew]|rfl) only [↓gd,gp,Nat.reduceAdd,Nat.reduceEqDiff, ↓hk50, d1, d2]
   rw [show min (max n lo) hi = hi by omega] at hK
   exact hK
  ·have d2 : decide (hi < n) = false := decide_eq_false h2
   simp (maxSteps:=4000000)(disch:=first|assumption|(simp only[dz];first|done|assumption|omega)|omega|apply_rules[Fr.refl,Fr.alloc,Fr.drew]|rfl) only [↓gd,gp,Nat.reduceAdd,Nat.reduceEqDiff, ↓hk50, d1, d2]
   rw [show min (max n lo) hi = n by omega] at hK
   exact hK
set_option maxHeartbeats 8000000 in
theorem r9Held {c : Cfg} {w : World} {K : Value → World → Prop} (hK : ∀ w', Fr [] w w' → K (.agg (encCfg c.held).toArray) w') : CallsN Tryz.prog 28 [.agg (encCfg c).toArray] w K := by
 have cw := cur w
 unfold Cfg.held encCfg at hK
 refine call28 ?_
 unfold encCfg
 simp (maxSteps:=4000000)(disch:=first|assumption|(simp only[dz];first|done|assumption|omega)|omega|apply_rules[Fr.refl,Fr.alloc,Fr.drew]|rfl) only [↓gd,gp,Nat.reduceAdd,Nat.reduceEqDiff, ↓hk28]
 refine r9held (by decide) ?_
 try simp (maxSteps:=4000000)(disch:=first|assumption|(simp only[dz];first|done|assumption|omega)|omega|apply_rules[Fr.refl,Fr.alloc,Fr.drew]|rfl) only [↓gd,gp,Nat.reduceAdd,Nat.reduceEqDiff, ↓hk28]
 refine r9held (by decide) ?_
 try simp (maxSteps:=4000000)(disch:=first|assumption|(simp only[dz];first|done|assumption|omega)|omega|apply_rules[Fr.refl,Fr.alloc,Fr.drew]|rfl) only [↓gd,gp,Nat.reduceAdd,Nat.reduceEqDiff, ↓hk28]
 refine r9held (by decide) ?_
 try simp (maxSteps:=4000000)(disch:=first|assumption|(simp only[dz];first|done|assumption|omega)|omega|apply_rules[Fr.refl,Fr.alloc,Fr.drew]|rfl) only [↓gd,gp,Nat.reduceAdd,Nat.reduceEqDiff, ↓hk28]
 refine r9held (by decide) ?_
 try simp (maxSteps:=4000000)(disch:=first|assumption|(simp only[dz];first|done|assumption|omega)|omega|apply_rules[Fr.refl,Fr.alloc,Fr.drew]|rfl) only [↓gd,gp,Nat.reduceAdd,Nat.reduceEqDiff, ↓hk28]
 refine r9held (by decide) ?_
 try simp (maxSteps:=4000000)(disch:=first|assumption|(simp only[dz];first|done|assumption|omega)|omega|apply_rules[Fr.refl,Fr.alloc,Fr.drew]|rfl) only [↓gd,gp,Nat.reduceAdd,Nat.reduceEqDiff, ↓hk28]
 refine r9held (by decide) ?_
 try simp (maxSteps:=4000000)(disch:=first|assumption|(simp only[dz];first|done|assumption|omega)|omega|apply_rules[Fr.refl,Fr.alloc,Fr.drew]|rfl) only [↓gd,gp,Nat.reduceAdd,Nat.reduceEqDiff, ↓hk28]
 refine r9held (by decide) ?_
 try simp (maxSteps:=4000000)(disch:=first|assumption|(simp only[dz];first|done|assumption|omega)|omega|apply_rules[Fr.refl,Fr.alloc,Fr.drew]|rfl) only [↓gd,gp,Nat.reduceAdd,Nat.reduceEqDiff, ↓hk28]
 refine r9held (by decide) ?_
 try simp (maxSteps:=4000000)(disch:=first|assumption|(simp only[dz];first|done|assumption|omega)|omega|apply_rules[Fr.refl,Fr.alloc,Fr.drew]|rfl) only [↓gd,gp,Nat.reduceAdd,Nat.reduceEqDiff, ↓hk28]
 exact hK _ (by (repeat (first | exact Fr.refl _ _ | assumption | with_reducible apply Fr.alloc | with_reducible apply Fr.drew | with_reducible refine Fr.setB ?_ _ _ (.inr (by first | omega | (simp only [gz]; omega))) | with_reducible refine Fr.setB ?_ _ _ (.inl (by first | assumption | simp)) | with_reducible refine Fr.trans' ?_ (by assumption))))
set_option maxHeartbeats 8000000 in
theorem r15keys {w : World} {v : Value} {ws : List St.Wr} {K : Value → World → Prop} (h : SlOf 3 St.encWr w v ws) (hl : ws.length ≤ 1000000)
  (hK : ∀ vo w', VW.Own 1 9 w' vo ws.length (cellsOf Sm.encS (ws.map (·.key))) → (∀ b, vo.ownBlock = some b → w.heap.size ≤ b) → Fr [] w w' → K vo w') : CallsN Tryz.prog 67 [v] w K := by
 have cw := cur w
 obtain ⟨va, vc, hv⟩ := h.form
 refine call67 ?_
 simp (maxSteps:=4000000)(disch:=first|assumption|(simp only[dz];first|done|assumption|omega)|omega|apply_rules[Fr.refl,Fr.alloc,Fr.drew]|rfl) only [↓gd,gp,Nat.reduceAdd,Nat.reduceEqDiff, ↓hk67]
 refine for_intro ws.length 4 0 (fun i e w' => ∃ vo, e 0 = v ∧ e 3 = vo ∧ VW.Own 1 9 w' vo i (cellsOf Sm.encS ((ws.take i).map (·.key))) ∧ (∀ b, vo.ownBlock = some b → w.heap.size ≤ b) ∧ Fr [] w w') ?_ (Nat.zero_le _) ?_ ?_
 ·simp (maxSteps:=4000000)(disch:=first|assumption|(simp only[dz];first|done|assumption|omega)|omega|apply_rules[Fr.refl,Fr.alloc,Fr.drew]|rfl) only [↓gsd,gs,gv,Nat.reduceAdd,Nat.reduceEqDiff]; rfl
 ·refine ⟨.slice none 0 0, ?_⟩
  simp (maxSteps:=4000000)(disch:=first|assumption|(simp only[dz];first|done|assumption|omega)|omega|apply_rules[Fr.refl,Fr.alloc,Fr.drew]|rfl) only [↓gsd,gs,gv,Nat.reduceAdd,Nat.reduceEqDiff]
  exact ⟨VW.Own.nil, fun b hb => by simp [Value.ownBlock] at hb, Fr.refl _ _⟩
 rintro i e w1 kk hi e4 ⟨vo, e0, e3, hown, hfr, hf⟩ hk
 have cw1 := cur w1
 have hz1 := hf.size
 obtain ⟨oa, oc, hvo⟩ := hown.sl.form
 by_cases hil : i < ws.length
 ·have d : decide ((i : Int) < (ws.length : Int)) = true := decide_eq_true (by omega)
  obtain ⟨y, hy⟩ : ∃ y, ws[i]? = some y := ⟨ws[i], List.getElem?_eq_getElem hil⟩
  obtain ⟨bb, off, cap, ob, hv1, hob, hbl, hk1, hk2, _⟩ := St.SlOf.wval (h.frN hf) hy
  have i0 : (0 : Int) ≤ (i : Int) := by omega
  have i1 : (i : Int) < (ws.length : Int) := by omega
  have wr : IntKind.i64.wrap ((i : Int) + 1) = (i : Int) + 1 := wrap64 (by omega) (by omega)
  simp (maxSteps:=4000000)(disch:=first|assumption|(simp only[dz];first|done|assumption|omega)|omega|apply_rules[Fr.refl,Fr.alloc,Fr.drew]|rfl) only [↓gd,gp,Nat.reduceAdd,Nat.reduceEqDiff, ↓hk67, e0, e3, e4, hv1, d, i0, i1, Int.toNat_natCast, hob, hk1]
  generalize hW : World.alloc w1 _ = w2
  have hf2 : Fr [] w1 w2 := by rw [← hW]; (repeat (first | exact Fr.refl _ _ | assumption | with_reducible apply Fr.alloc | with_reducible apply Fr.drew | with_reducible refine Fr.setB ?_ _ _ (.inr (by first | omega | (simp only [gz]; omega))) | with_reducible refine Fr.setB ?_ _ _ (.inl (by first | assumption | simp)) | with_reducible refine Fr.trans' ?_ (by assumption)))
  have hsl : Sl 1 w2 (.slice (some ⟨w1.heap.size, 0, none⟩) 1 1) 1 (Sm.encS y.key) := by
   rw [← hW]; exact ⟨rfl, .inr ⟨w1.heap.size, 0, 1, _, 9, (0, 0), rfl, get_alloc_new _ _, rfl⟩⟩
  clear hW
  have cw2 := cur w2
  have hz2 := hf2.size
  obtain ⟨v4, w4, hr4, hown4, hf4, hbk⟩ := ap38 (ty := 38) (VW.Own.frN hown hf2) hsl rfl (by omega)
  have cw4 := cur w4
  have hF4 : Fr [] w w4 := Sm.fresh_app hfr hf4 (hf.trans' hf2)
  simp (maxSteps:=4000000)(disch:=first|assumption|(simp only[dz];first|done|assumption|omega)|omega|apply_rules[Fr.refl,Fr.alloc,Fr.drew]|rfl) only [↓gd,gp,Nat.reduceAdd,Nat.reduceEqDiff, ↓hk67, e0, e3, e4, hr4, wr]
  refine hk _ _ hil rfl ⟨v4, ?_⟩
  simp (maxSteps:=4000000)(disch:=first|assumption|(simp only[dz];first|done|assumption|omega)|omega|apply_rules[Fr.refl,Fr.alloc,Fr.drew]|rfl) only [↓gsd,gs,gv,Nat.reduceAdd,Nat.reduceEqDiff, e0, hv1]
  have htk : (ws.take (i + 1)).map (·.key) = (ws.take i).map (·.key) ++ [y.key] := by rw [List.take_add_one, hy, List.map_append]; rfl
  rw [htk, cellsOf_append, cellsOf_one]
  refine ⟨hown4, fun b hb => ?_, hF4⟩
  rcases hbk with e | ⟨b', e, e2⟩
  ·exact hfr b (e ▸ hb)
  ·rw [e] at hb; cases hb; omega
 ·have d : decide ((i : Int) < (ws.length : Int)) = false := decide_eq_false (by omega)
  have : i = ws.length := by omega
  subst this
  rw [List.take_length] at hown
  simp (maxSteps:=4000000)(disch:=first|assumption|(simp only[dz];first|done|assumption|omega)|omega|apply_rules[Fr.refl,Fr.alloc,Fr.drew]|rfl) only [↓gd,gp,Nat.reduceAdd,Nat.reduceEqDiff, ↓hk67, e0, e3, e4, hv, d]
  exact hK _ _ hown hfr hf
end Go.Proofs.YtgloomahpjpiiaaGreat.Or
namespace Go.Proofs.YtgloomahpjpiiaaGreat.Or
open Go.VW
def encQ (Q : List Req) : List Value := Q.flatMap encReq
theorem encReq_len (q : Req) : (encReq q).length = 3 := rfl
theorem encQ_len (Q : List Req) : (encQ Q).length = Q.length * 3 := cellsOf_length encReq_len Q
def preX (c : Cfg) (vl : Value) (Q : List Req) : St.P8 := ⟨.int .i64 c.nodes, .int .i64 c.bytes, .int .i64 c.spans, .int .i64 c.gap, .int .i64 c.recent, .int .i64 c.vers, .int .i64 c.prot, .int .i64 c.retr, vl, encQ Q⟩
def preL (c : Cfg) (v : Value) (m l : Int) (Q : List Req) : Sm.P11 := ⟨.int .i64 c.nodes, .int .i64 c.bytes, .int .i64 c.spans, .int .i64 c.gap, .int .i64 c.recent, .int .i64 c.vers, .int .i64 c.prot, .int .i64 c.retr, v, .int .i64 m, .int .i64 l, encQ Q⟩
abbrev keysW (ws : List St.Wr) : List ByteArray := ws.map (·.key)
structure R15 (w : World) (rb : Nat) (c : Cfg) (v vl : Value) (own : List (List St.Wr)) (Q : List Req) (Rd : List Nat) : Prop where
 st : St.R5At w rb (preX c vl Q) v c.vers.toNat own
 lg : Sm.RcsAt w (· ∈ Rd) (· ∈ blkL vl) vl (Sm.recsL (own.map keysW))
 ql : Q.length = 64
 lt : ∀ x ∈ Rd, x < w.heap.size
 vs : 1 ≤ c.vers ∧ c.vers ≤ 64
theorem R15.head {w : World} {rb : Nat} {c : Cfg} {v vl : Value} {own : List (List St.Wr)} {Q : List Req} {Rd : List Nat} (h : R15 w rb c v vl own Q Rd) : w.heap[rb]? = some (.cells ((preX c vl Q).cells v (.int .i64 c.vers) (.int .i64 own.length)).toArray 52 (0, 0)) := by
 have := h.st.head
 have e : ((c.vers.toNat : Nat) : Int) = c.vers := by have := h.vs; omega
 rw [e] at this
 exact this
theorem R15.log {w : World} {rb : Nat} {c : Cfg} {v vl : Value} {own : List (List St.Wr)} {Q : List Req} {Rd : List Nat} (h : R15 w rb c v vl own Q Rd) : w.heap[rb]? = some (.cells ((preL c v c.vers own.length Q).cells vl).toArray 52 (0, 0)) := h.head
theorem R15.frN {w w' : World} {rb : Nat} {c : Cfg} {v vl : Value} {own : List (List St.Wr)} {Q : List Req} {Rd : List Nat} (h : R15 w rb c v vl own Q Rd) (hf : Fr [] w w') : R15 w' rb c v vl own Q Rd := ⟨h.st.frN hf, h.lg.frN hf, h.ql, fun x hx => hf.lt (h.lt x hx), h.vs⟩
/-- All blocks of the reference. -/
def rbs (rb : Nat) (v vl : Value) (Rd : List Nat) : List Nat := rb :: (blkL v ++ (blkL vl ++ Rd))
theorem R15.fr {w w' : World} {rb : Nat} {c : Cfg} {v vl : Value} {own : List (List St.Wr)} {Q : List Req} {Rd : List Nat} (h : R15 w rb c v vl own Q Rd) {M : List Nat} (hf : Fr M w w') (hM : ∀ x ∈ M, x ∉ rbs rb v vl Rd) : R15 w' rb c v vl own Q Rd := by
 refine ⟨h.st.fr hf (fun e => hM _ e (by simp [rbs])) (fun b hb e => hM _ e (by simp [rbs, St.mem_blkL.2 hb])), h.lg.fr hf (fun b hb => ⟨fun e => hM b hb (by simp [rbs, e]), fun e => hM b hb (by simp [rbs, e])⟩), h.ql, fun x hx => hf.lt (h.lt x hx), h.vs⟩
theorem R15.lts {w : World} {rb : Nat} {c : Cfg} {v vl : Value} {own : List (List St.Wr)} {Q : List Req} {Rd : List Nat} (h : R15 w rb c v vl own Q Rd) : ∀ x ∈ rbs rb v vl Rd, x < w.heap.size := fun x hx => by
 simp only [rbs, List.mem_cons, List.mem_append] at hx
 rcases hx with rfl | e | e | e
 ·exact h.st.lt.1
 ·exact h.st.lt.2 x (St.mem_blkL.1 e)
 ·obtain ⟨⟨rs, ho, _, _⟩, _⟩ := h.lg
  exact ho.lt (St.mem_blkL.1 e)
 ·exact h.lt x e
theorem cfg_vers (c : Cfg) : 1 ≤ c.held.vers ∧ c.held.vers ≤ 64 := by
 unfold Cfg.held hld
 simp only
 omega
theorem r5new {n : Int} {w : World} {K : Value → World → Prop} (hn : 1 ≤ n ∧ n ≤ 64) (hK : ∀ rb w', Fr [] w w' → w'.heap[rb]? = some (.cells ([.slice none 0 0, .int .i64 n, .int .i64 0] : List Value).toArray 44 (0, 0)) → K (.pointer (some ⟨rb, 0, none⟩)) w') : CallsN Tryz.prog 29 [.int .i64 n] w K := by
 have cw := cur w
 refine call29 ?_
 have d1 : decide (n < 1) = false := decide_eq_false (by omega)
 have d2 : decide ((64 : Int) < n) = false := decide_eq_false (by omega)
 simp (maxSteps:=4000000)(disch:=first|assumption|(simp only[dz];first|done|assumption|omega)|omega|apply_rules[Fr.refl,Fr.alloc,Fr.drew]|rfl) only [↓gd,gp,Nat.reduceAdd,Nat.reduceEqDiff, ↓hk29, d1, d2]
 exact hK _ _ (by (repeat (first | exact Fr.refl _ _ | assumption | with_reducible apply Fr.alloc | with_reducible apply Fr.drew | with_reducible refine Fr.setB ?_ _ _ (.inr (by first | omega | (simp only [gz]; omega))) | with_reducible refine Fr.setB ?_ _ _ (.inl (by first | assumption | simp)) | with_reducible refine Fr.trans' ?_ (by assumption)))) (get_alloc_new _ _)
set_option maxHeartbeats 16000000 in
theorem r15new {c : Cfg} {w : World} {K : Value → World → Prop} (hK : ∀ rb w', Fr [] w w' → w.heap.size ≤ rb → R15 w' rb c.held (.slice none 0 0) (.slice none 0 0) [] (List.replicate 64 req0) [] → K (.pointer (some ⟨rb, 0, none⟩)) w') : CallsN Tryz.prog 8 [.agg (encCfg c).toArray] w K := by
 have cw := cur w
 refine call8 ?_
 have hce : ∀ c : Cfg, (encCfg c).toArray = #[.int .i64 c.nodes, .int .i64 c.bytes, .int .i64 c.spans, .int .i64 c.gap, .int .i64 c.recent, .int .i64 c.vers, .int .i64 c.prot, .int .i64 c.retr] := fun _ => rfl
 rw [hce]
 simp (maxSteps:=4000000)(disch:=first|assumption|(simp only[dz];first|done|assumption|omega)|omega|apply_rules[Fr.refl,Fr.alloc,Fr.drew]|rfl) only [↓gd,gp,Nat.reduceAdd,Nat.reduceEqDiff, ↓hk8]
 generalize hW : World.alloc w _ = w1
 have hf1 : Fr [] w w1 := by rw [← hW]; (repeat (first | exact Fr.refl _ _ | assumption | with_reducible apply Fr.alloc | with_reducible apply Fr.drew | with_reducible refine Fr.setB ?_ _ _ (.inr (by first | omega | (simp only [gz]; omega))) | with_reducible refine Fr.setB ?_ _ _ (.inl (by first | assumption | simp)) | with_reducible refine Fr.trans' ?_ (by assumption)))
 have g1 : w1.heap[w.heap.size]? = some (.cells (encCfg c).toArray 23 (0, 0)) := by rw [← hW]; exact get_alloc_new _ _
 clear hW
 have cw1 := cur w1
 rw [← hce]
 refine r9Held fun w2 hf2 => ?_
 have cw2 := cur w2
 have g2 := hf2.getN g1
 have l2 := lt_of_get _ _ g2
 have hvs := cfg_vers c
 generalize c.held = d at hK hvs
 rw [hce] at g2 ⊢
 simp (maxSteps:=4000000)(disch:=first|assumption|(simp only[dz];first|done|assumption|omega)|omega|apply_rules[Fr.refl,Fr.alloc,Fr.drew]|rfl) only [↓gd,gp,Nat.reduceAdd,Nat.reduceEqDiff, ↓hk8, g2]
 generalize hW : World.setB w2 _ _ = w3
 have hf3 : Fr [] w w3 := by rw [← hW]; exact (hf1.trans' hf2).setB _ _ (.inr (Nat.le_refl _))
 have g3 : w3.heap[w.heap.size]? = some (.cells (encCfg d).toArray 23 (0, 0)) := by rw [← hW]; exact get_setB_same _ _ _ l2
 clear hW
 have cw3 := cur w3
 rw [hce] at g3
 try simp (maxSteps:=4000000)(disch:=first|assumption|(simp only[dz];first|done|assumption|omega)|omega|apply_rules[Fr.refl,Fr.alloc,Fr.drew]|rfl) only [↓gd,gp,Nat.reduceAdd,Nat.reduceEqDiff, ↓hk8, g3]
 refine r5new hvs fun sb w4 hf4 g4 => ?_
 have cw4 := cur w4
 have hf4' : Fr [] w3 w4 := by first | exact hf4 | exact (Fr.drew (Fr.refl [] w3)).trans' hf4
 simp (maxSteps:=4000000)(disch:=first|assumption|(simp only[dz];first|done|assumption|omega)|omega|apply_rules[Fr.refl,Fr.alloc,Fr.drew]|rfl) only [↓gd,gp,Nat.reduceAdd,Nat.reduceEqDiff, ↓hk8, eq_true hf4', g4]
 have hf4 := hf4'
 refine hK _ _ ((hf3.trans' hf4).alloc _) (by have := hf3.size; have := hf4.size; omega) ⟨⟨?_, VW.Own.nil⟩, ⟨⟨[], VW.Own.nil, rfl, fun i r x q => by simp at q⟩, fun b q => by simp [Value.ownBlock] at q⟩, List.length_replicate, fun x q => by simp at q, hvs⟩
 have e : ((d.vers.toNat : Nat) : Int) = d.vers := by omega
 rw [e]
 exact get_alloc_new _ _
end Go.Proofs.YtgloomahpjpiiaaGreat.Or
namespace Go.Proofs.YtgloomahpjpiiaaGreat.Or
open Go.VW
theorem ixQ {s : Int} (h0 : 0 ≤ s) (h1 : s < 64) (rb : Nat) (w : World) : (Instr.indexAt 50 (.pointer (some ⟨rb, 12, none⟩)) (.int .i64 s)).run Tryz.prog w = .ok (.pointer (some ⟨rb, 12 + s.toNat * 3, none⟩)) w := by
 have h : 0 ≤ s ∧ s < ((64 : Nat) : Int) := ⟨h0, h1⟩
 simp only [Instr.indexAt, asIntOf, sem_pure_bind, Sem.run_bind, Tryz.runUnderlying50, Result.andThen_ok, Instr.sureAddr]
 simp [h0, h1, Tryz.runUnderlying50, Tryz.sizeOf49, add_at, Sem.run_bind]
theorem ixQT {s : Int} (h0 : 0 ≤ s) (h1 : s < 64) (rb : Nat) (M : Option (List Nat)) (w0 : World) (K : Value → Prop) : takeP Tryz.prog (FrX M w0) (xv (Instr.indexAt 50 (.pointer (some ⟨rb, 12, none⟩)) (.int .i64 s))) K = K (.pointer (some ⟨rb, 12 + s.toNat * 3, none⟩)) := takeP_xv (fun w => ixQ h0 h1 rb w) K
abbrev cells15 (c : Cfg) (v : Value) (m l : Int) (vl : Value) (Q : List Req) : List Value :=
 .int .i64 c.nodes :: .int .i64 c.bytes :: .int .i64 c.spans :: .int .i64 c.gap :: .int .i64 c.recent :: .int .i64 c.vers :: .int .i64 c.prot :: .int .i64 c.retr :: v :: .int .i64 m :: .int .i64 l :: vl :: encQ Q
theorem drop12 {c : Cfg} {v vl : Value} {m l : Int} {Q : List Req} (n : Nat) : (cells15 c v m l vl Q).drop (12 + n) = (encQ Q).drop n := by
 rw [← List.drop_drop]; rfl
theorem take12 {c : Cfg} {v vl : Value} {m l : Int} {Q : List Req} (n : Nat) : (cells15 c v m l vl Q).take (12 + n) = (cells15 c v m l vl []).take 12 ++ (encQ Q).take n := by
 have e : 12 + n = n + 1 + 1 + 1 + 1 + 1 + 1 + 1 + 1 + 1 + 1 + 1 + 1 := by omega
 rw [e]
 rfl
theorem readQ {c : Cfg} {v vl : Value} {m l : Int} {Q : List Req} {s : Nat} {q : Req} (hq : Q[s]? = some q) (orig : Prop) (K : Value → Prop) :
  ldnV orig 3 (some (.cells (cells15 c v m l vl Q).toArray 52 (0, 0))) (12 + s * 3) K = K (.agg (encReq q).toArray) := by
 have e : ((cells15 c v m l vl Q).toArray.toList.drop (12 + s * 3)).take 3 = encReq q := by
  rw [List.toList_toArray, drop12]
  exact cellsOf_take_get encReq_len Q s q hq
 rw [ldnV_cells _ _ _ _ _ _ _ (by rw [e]; rfl), e]
theorem storeQ {c : Cfg} {v vl : Value} {m l : Int} {Q : List Req} {s : Nat} (hs : s < Q.length) (q : Req) (orig : Prop) (K : Obj → Prop) :
  stV orig 3 (some (.cells (cells15 c v m l vl Q).toArray 52 (0, 0))) (12 + s * 3) (encReq q) K = K (.cells (cells15 c v m l vl (Q.set s q)).toArray 52 (0, 0)) := by
 have hlen : (cells15 c v m l vl Q).length = 12 + Q.length * 3 := by
  have := encQ_len Q
  simp only [cells15, List.length_cons]
  omega
 have h3 : (encReq q).length = 3 := rfl
 have e := cellsOf_set encReq_len Q s q hs
 rw [stV_cells orig 3 _ _ (12 + s * 3) (encReq q) K h3 (by simp only [List.size_toArray]; omega) rfl]
 simp only [List.toList_toArray, h3]
 rw [take12, show 12 + s * 3 + 3 = 12 + (s * 3 + 3) by omega, drop12, List.append_assoc, List.append_assoc]
 have e2 : (encQ Q).take (s * 3) ++ (encReq q ++ (encQ Q).drop (s * 3 + 3)) = encQ (Q.set s q) := by
  rw [← List.append_assoc]; exact e.symm
 rw [e2]
 rfl
theorem R15.hd {w : World} {rb : Nat} {c : Cfg} {v vl : Value} {own : List (List St.Wr)} {Q : List Req} {Rd : List Nat} (h : R15 w rb c v vl own Q Rd) : w.heap[rb]? = some (.cells (cells15 c v c.vers own.length vl Q).toArray 52 (0, 0)) := h.head
/-- Another state of the reference, of its parts. -/
theorem R15.mk' {w : World} {rb : Nat} {c : Cfg} {v vl : Value} {own : List (List St.Wr)} {Q : List Req} {Rd : List Nat} (hh : w.heap[rb]? = some (.cells (cells15 c v c.vers own.length vl Q).toArray 52 (0, 0))) (ho : VW.Own 4 131 w v (St.past own).length (cellsOf St.encPast (St.past own)))
  (hl : Sm.RcsAt w (· ∈ Rd) (· ∈ blkL vl) vl (Sm.recsL (own.map keysW))) (hq : Q.length = 64) (hr : ∀ x ∈ Rd, x < w.heap.size) (hv : 1 ≤ c.vers ∧ c.vers ≤ 64) : R15 w rb c v vl own Q Rd := by
 refine ⟨⟨?_, ho⟩, hl, hq, hr, hv⟩
 have e : ((c.vers.toNat : Nat) : Int) = c.vers := by omega
 rw [e]
 exact hh
theorem own_typed {k n : Nat} {e : TypeId} {w : World} {v : Value} {cs : List Value} (h : VW.Own k e w v n cs) {b : Nat} (hb : v.ownBlock = some b) : ∃ cur, w.heap[b]? = some (.cells cur e (0, 0)) := by
 rcases h.2 with ⟨rfl, _⟩ | ⟨g, cap, cur, rfl, _, hg, _⟩
 ·simp [Value.ownBlock] at hb
 ·simp only [Value.ownBlock, Option.some.injEq] at hb
  subst hb
  exact ⟨_, hg⟩
/-- A list of records stands where no block of texts or of records changes. -/
theorem rcs_typed {w w' : World} {R R' : Nat → Prop} {v : Value} {xs : List (Int × Sm.Ks)} (h : Sm.RcsAt w R R' v xs) {M : List Nat} (hf : Fr M w w') (hM : ∀ x ∈ M, ∀ cs fr, w.heap[x]? ≠ some (.cells cs 9 fr) ∧ w.heap[x]? ≠ some (.cells cs 86 fr)) : Sm.RcsAt w' R R' v xs := by
 obtain ⟨⟨rs, ho, hl, hat⟩, hb⟩ := h
 refine ⟨⟨rs, ho.fr hf (fun x hx e => ?_), hl, fun i r x hr hx => ?_⟩, hb⟩
 ·obtain ⟨cur, hc⟩ := own_typed ho e
  exact (hM x hx _ _).2 hc
 ·obtain ⟨t1, t2, t3⟩ := hat i r x hr hx
  exact ⟨t1, t2.fr hf (fun y hy e => by
   obtain ⟨cur, hc⟩ := own_typed t2 e
   exact (hM y hy _ _).1 hc), t3⟩
theorem typed_ne {w : World} {x : Nat} {cs : Array Value} {t t' : TypeId} {fr : Nat × Nat} (h : w.heap[x]? = some (.cells cs t fr)) (ht : t ≠ t') : ∀ cs' fr', w.heap[x]? ≠ some (.cells cs' t' fr') := fun cs' fr' e => by
 rw [h] at e
 simp only [Option.some.injEq, Obj.cells.injEq] at e
 exact ht e.2.1
end Go.Proofs.YtgloomahpjpiiaaGreat.Or
