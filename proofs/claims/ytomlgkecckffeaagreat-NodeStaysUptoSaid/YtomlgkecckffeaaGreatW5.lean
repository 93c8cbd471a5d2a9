/- A node: Look. What a node keeps of its table, step by step. Entries are closed: what a table holds behind it. A node: settle; the closures of lay. -/
import Derived.Test.YtomlgkecckffeaaGreatW3
set_option linter.unusedVariables false
set_option linter.unusedSimpArgs false
set_option maxRecDepth 10000
namespace Go.Proofs.YtomlgkecckffeaaGreat
open Go.VW
theorem demF (l : Ents) : ∀ (D : List Nat) (M : Mem), (D.foldl (demStep l) M).g = M.g ∧ (D.foldl (demStep l) M).R = M.R ∧ (D.foldl (demStep l) M).ins = M.ins ∧ (D.foldl (demStep l) M).live = M.live
 | [], _ => ⟨rfl, rfl, rfl, rfl⟩
 | _ :: D, M => demF l D _
theorem Mem.use_keep (c : Cfg) (M : Mem) (e : Ent) : (M.use c e).g = M.g ∧ (M.use c e).R = M.R ∧ (M.use c e).ins = M.ins ∧ (M.use c e).live = M.live := demF _ _ _
def lookV (o : Option Ent) (x : Int) : List Value := match o with
 | none => [.agg #[.bool false, .string ⟨#[]⟩], .agg #[.int .i64 0, .int .i64 0], .bool false]
 | some e => [.agg #[.bool e.has, .string e.data], .agg #[.int .i64 (knownE e x).1, .int .i64 (knownE e x).2], .bool true]
theorem retP_cct {P : Program} {R : Value → World → Prop} {e : Env} {w : World} (i i' j t t' : Nat) : retP P [.cell i t, .cell i' t', .tmp j] R e w = rcP P t (e i) w fun u => rcP P t' (e i') w fun v => R (.tuple #[u, v, e j]) w := by simp [retP, retA, VW.one]
set_option maxHeartbeats 8000000 in
theorem look_spec {w : World} {a : Lay} {c : Cfg} {inc : Int} {M : Mem} {k : ByteArray} {lo hi : Int} {B : Nat} {K : Value → World → Prop} (h : NodeAt w a c inc M) (hT : TOK M.T B) (hB : B ≤ 100000000) (hI : InsND M.T) (hc : c.prot ≤ 1000000000)
  (hK : ∀ w' S', NodeAt w' { a with S := S' } c inc (M.look c k lo hi).1 → (∀ x ∈ S', x ∈ a.S ∨ w.heap.size ≤ x) → Fr a.all w w' → K (.tuple (lookV (M.look c k lo hi).2 M.g.at_).toArray) w') :
  CallsN Tryz.prog 25 [.pointer (some ⟨a.nb, 0, none⟩), .string k, .agg ([.int .i64 lo, .int .i64 hi] : List Value).toArray] w K := by
 have cw := cur w
 refine call25 ?_
 simp (maxSteps:=9^7)(disch:=first|assumption|(simp only[dz];first|done|assumption|omega)|omega|apply_rules[Fr.refl,Fr.alloc,Fr.drew]|rfl) only [↓gd,gp,Nat.reduceAdd,Nat.reduceEqDiff, ↓hk25]
 generalize hW : World.alloc _ _ = w1
 have hf1 : Fr [] w w1 := by rw [← hW]; exact fr_
 have hz1 : w1.heap.size = w.heap.size + 1 + 1 + 1 := by rw [← hW]; simp only [gz]
 have g0 : w1.heap[w.heap.size]? = some (.cells ([.int .i64 lo, .int .i64 hi] : List Value).toArray 48 (0, 0)) := by rw [← hW]; simp (maxSteps:=9^7)(disch:=first|assumption|(simp only[dz];first|done|assumption|omega)|omega|apply_rules[Fr.refl,Fr.alloc,Fr.drew]|rfl) only [↓gsd,gs,gv,Nat.reduceAdd,Nat.reduceEqDiff]
 have g1 : w1.heap[w.heap.size + 1]? = some (.cells ([.bool false, .string ⟨#[]⟩] : List Value).toArray 31 (0, 0)) := by rw [← hW]; simp (maxSteps:=9^7)(disch:=first|assumption|(simp only[dz];first|done|assumption|omega)|omega|apply_rules[Fr.refl,Fr.alloc,Fr.drew]|rfl) only [↓gsd,gs,gv,Nat.reduceAdd,Nat.reduceEqDiff]
 have g2 : w1.heap[w.heap.size + 1 + 1]? = some (.cells ([.int .i64 0, .int .i64 0] : List Value).toArray 48 (0, 0)) := by rw [← hW]; simp (maxSteps:=9^7)(disch:=first|assumption|(simp only[dz];first|done|assumption|omega)|omega|apply_rules[Fr.refl,Fr.alloc,Fr.drew]|rfl) only [↓gsd,gs,gv,Nat.reduceAdd,Nat.reduceEqDiff]
 clear hW
 have cw1 := cur w1
 have h1 := h.frN hf1
 refine up_spec h1 ?_
 have hd1 := h1.hd
 have hm1 := h1.mm
 have l0 := lt_of_get _ _ g0
 have l1 := lt_of_get _ _ g1
 have l2 := lt_of_get _ _ g2
 have hat : ∀ (w' : World) (K' : Value → World → Prop), Fr [] w1 w' → K' (.int .i64 M.g.at_) w' → CallsN Tryz.prog 70 [.pointer (some ⟨a.gb, 0, none⟩)] w' K' := fun w' K' hf hk => atR (h1.frN hf).gap hk
 have hfind : ∀ (w' : World) (K' : Value → World → Prop), Fr [] w1 w' → (∀ w'', Fr [] w' w'' → K' (.tuple ([.agg (encEnt ((findE (M.T.row k) M.g.at_ lo hi).getD entZ)).toArray, .bool (findE (M.T.row k) M.g.at_ lo hi).isSome] : List Value).toArray) w'') →
   CallsN Tryz.prog 80 [.pointer (some ⟨a.tb, 0, none⟩), .string k, .int .i64 M.g.at_, .agg ([.int .i64 lo, .int .i64 hi] : List Value).toArray] w' K' := fun w' K' hf hk => Find_spec (h1.frN hf).tab hT.wf (by omega) hk
 have fin : ∀ (e' : Env) (w' : World), Fr [] w1 w' → e' 0 = .pointer (some ⟨a.nb, 0, none⟩) → e' 6 = .pointer (some ⟨w.heap.size + 1, 0, none⟩) → e' 7 = .pointer (some ⟨w.heap.size + 1 + 1, 0, none⟩) → e' 10 = .bool (findE (M.T.row k) M.g.at_ lo hi).isSome →
   (∃ b9, e' 9 = .pointer (some ⟨b9, 0, none⟩) ∧ w'.heap[b9]? = some (.cells (encEnt ((findE (M.T.row k) M.g.at_ lo hi).getD entZ)).toArray 52 (0, 0)) ∧ w.heap.size ≤ b9 ∧ b9 ≠ w.heap.size + 1 ∧ b9 ≠ w.heap.size + 1 + 1) →
   W3 Tryz.prog 64 V25 c25_3 (retQ Tryz.prog [.cell 6 31, .cell 7 48, .tmp 8] K) e' w' := by
  intro e' w' hf e0 e6 e7 e10 ⟨b9, e9, g9, hb1, hb2, hb3⟩
  have cw' := cur w'
  have hz' := hf.size
  have l9 := lt_of_get _ _ g9
  have h' := h1.frN hf
  have g1' := hf.getN g1
  have g2' := hf.getN g2
  have l1' := lt_of_get _ _ g1'
  have l2' := lt_of_get _ _ g2'
  unfold Mem.look at hK
  cases hfo : findE (M.T.row k) M.g.at_ lo hi with
  | none =>
    rw [hfo] at e10 hK
    unfold lookV at hK
    have e10' : e' 10 = .bool false := e10
    simp (maxSteps:=9^7)(disch:=first|assumption|(simp only[dz];first|done|assumption|omega)|omega|apply_rules[Fr.refl,Fr.alloc,Fr.drew]|rfl) only [↓gd,gp,Nat.reduceAdd,Nat.reduceEqDiff, ↓hk25, e0, e6, e7, e9, e10', g1', g2', retP_cct]
    exact hK _ a.S (h'.frA (L := [w.heap.size + 1, w.heap.size + 1 + 1]) fr_ (fun g hg => h.away (by simp at hg; omega))) (fun x hx => .inl hx) (Fr.trans (M' := []) (Fr.refl a.all w) (hf1.trans' hf |>.trans (M' := [w.heap.size + 1, w.heap.size + 1 + 1]) fr_ (fun x hx => by simp at hx; omega)) (by simp))
  | some e =>
    rw [hfo] at e10 hK g9
    unfold lookV at hK
    have e10' : e' 10 = .bool true := e10
    simp only [Option.getD_some] at g9
    unfold encEnt at g9
    simp (maxSteps:=9^7)(disch:=first|assumption|(simp only[dz];first|done|assumption|omega)|omega|apply_rules[Fr.refl,Fr.alloc,Fr.drew]|rfl) only [↓gd,gp,Nat.reduceAdd,Nat.reduceEqDiff, ↓hk25, e0, e6, e7, e9, e10', g9]
    have hem : M.T.at e.key e.lo = some e := by
     have h1 : e ∈ M.T.row k := by
      unfold findE at hfo
      exact (List.mem_filter.1 (List.mem_of_mem_getLast? hfo)).1
     exact hT.at_list.2 ⟨mem_list.2 ⟨k, h1⟩, rfl, rfl⟩
    refine use_spec (e := e) h' hT hB hI hem hc fun w2 S2 h2 hS2 hf2 => ?_
    have cw2 := cur w2
    have hz2 := hf2.size
    have hd2 := h2.hd
    have hm2 := h2.mm
    simp only at hd2 hm2
    have a9 := h.away hb1
    have a1 := h.away (show w.heap.size ≤ w.heap.size + 1 by omega)
    have a2 := h.away (show w.heap.size ≤ w.heap.size + 1 + 1 by omega)
    have g9' := hf2.get g9 a9.1
    have g1'' := hf2.get g1' a1.1
    have g2'' := hf2.get g2' a2.1
    have k1 := lt_of_get _ _ g1''
    have k2 := lt_of_get _ _ g2''
    have k9 := lt_of_get _ _ g9'
    have eg : (M.use c e).g = M.g := (Mem.use_keep c M e).1
    have hat2 : ∀ (w' : World) (K' : Value → World → Prop), Fr [] w2 w' → K' (.int .i64 M.g.at_) w' → CallsN Tryz.prog 70 [.pointer (some ⟨a.gb, 0, none⟩)] w' K' := fun w' K' hf hk => atR (h2.frN hf).gap (by rw [eg]; exact hk)
    have hkn : ∀ (w' : World) (K' : Value → World → Prop), Fr [] w2 w' → (∀ w'', Fr [] w' w'' → K' (.agg (encSp (knownE e M.g.at_)).toArray) w'') → CallsN Tryz.prog 82 [.agg (encFct e).toArray, .int .i64 M.g.at_] w' K' := fun w' K' hf hk => known_spec hk
    have fin2 : ∀ (e2 : Env) (w3 : World), Fr [] w2 w3 → e2 6 = .pointer (some ⟨w.heap.size + 1, 0, none⟩) → e2 7 = .pointer (some ⟨w.heap.size + 1 + 1, 0, none⟩) → e2 9 = .pointer (some ⟨b9, 0, none⟩) →
      (∃ b11, e2 11 = .pointer (some ⟨b11, 0, none⟩) ∧ w3.heap[b11]? = some (.cells (encSp (knownE e M.g.at_)).toArray 135 (0, 0)) ∧ w2.heap.size ≤ b11) →
      W3 Tryz.prog 64 V25 c25_6 (retQ Tryz.prog [.cell 6 31, .cell 7 48, .tmp 8] K) e2 w3 := by
     intro e2 w3 hf3 q6 q7 q9 ⟨b11, q11, g11, hb11⟩
     have cw3 := cur w3
     have hz3 := hf3.size
     have r9 := hf3.getN g9'
     have r1 := hf3.getN g1''
     have r2 := hf3.getN g2''
     have m1 := lt_of_get _ _ r1
     have m2 := lt_of_get _ _ r2
     have m9 := lt_of_get _ _ r9
     have m11 := lt_of_get _ _ g11
     have n1 : w.heap.size + 1 ≠ w.heap.size + 1 + 1 := by omega
     have n2 : w.heap.size + 1 + 1 ≠ w.heap.size + 1 := by omega
     unfold encSp at g11
     simp (maxSteps:=9^7)(disch:=first|assumption|(simp only[dz];first|done|assumption|omega)|omega|apply_rules[Fr.refl,Fr.alloc,Fr.drew]|rfl) only [↓gd,gp,Nat.reduceAdd,Nat.reduceEqDiff, ↓hk25, q6, q7, q9, q11, r9, r1, r2, g11, n1, n2, retP_cct]
     refine hK _ S2 ((h2.frN hf3).frA (L := [w.heap.size + 1, w.heap.size + 1 + 1]) fr_ (fun g hg => ?_)) ?_ ?_
     ·rw [eg]
      exact (h.away (by simp at hg; omega)).tab (n := w'.heap.size) hS2 (by simp at hg; omega)
     ·exact fun x hx => (hS2 x hx).imp id fun q => by omega
     ·exact ((((Fr.refl a.all w).trans (hf1.trans' hf) (by simp)).trans hf2 (fun x hx => .inl hx)).trans hf3 (by simp)).trans (M' := [w.heap.size + 1, w.heap.size + 1 + 1]) fr_ (fun x hx => by simp at hx; omega)
    unfold encFct at hkn
    generalize knownE e M.g.at_ = kp at hkn fin2
    unfold encSp at hkn fin2
    simp (maxSteps:=9^7)(disch:=first|assumption|(simp only[dz];first|done|assumption|omega)|omega|apply_rules[Fr.refl,Fr.alloc,Fr.drew]|rfl) only [↓gd,gp,Nat.reduceAdd,Nat.reduceEqDiff, ↓c25_5_s, ↓c25_4_s, ↓c25_9_s, ↓c25_8_s, ↓c25_7_s, ↓c25_3_s, ↓c25_2_s, ↓c25_12_s, ↓c25_11_s, ↓c25_10_s, ↓c25_1_s, ↓c25_s, ↓w3t_25, e0, e6, e7, e9, hd2, hm2, g9']
    repeat' (first | with_reducible refine And.intro ?_ ?_ | (with_reducible refine Or.inl ?_; (repeat first|exact Fr.refl _ _|assumption|with_reducible first|apply Fr.alloc|apply Fr.drew|refine Fr.setB ?_ _ _ (.inr (by first|omega|(simp only[gz];omega)))|refine Fr.setB ?_ _ _ (.inl (by first|assumption|simp))|refine Fr.trans' ?_ (by assumption)); done) | with_reducible refine hat2 _ _ fr_ ?_ | (with_reducible refine hkn _ _ fr_ ?_; intro w' hf'; have cw' := cur w'; have hz' := hf'.size; try (have ga := Fr.getN hf' (get_alloc_new _ _); simp only [size_drew] at ga; have gl := lt_of_get _ _ ga; simp (maxSteps:=9^7)(disch:=first|assumption|(simp only[dz];first|done|assumption|omega)|omega|apply_rules[Fr.refl,Fr.alloc,Fr.drew]|rfl) only [↓gd,gp,Nat.reduceAdd,Nat.reduceEqDiff, ↓c25_5_s, ↓c25_4_s, ↓c25_9_s, ↓c25_8_s, ↓c25_7_s, ↓c25_3_s, ↓c25_2_s, ↓c25_12_s, ↓c25_11_s, ↓c25_10_s, ↓c25_1_s, ↓c25_s, ↓w3t_25, ga])) | simp (maxSteps:=9^7)(disch:=first|assumption|(simp only[dz];first|done|assumption|omega)|omega|apply_rules[Fr.refl,Fr.alloc,Fr.drew]|rfl) only [↓gd,gp,Nat.reduceAdd,Nat.reduceEqDiff, ↓c25_5_s, ↓c25_4_s, ↓c25_9_s, ↓c25_8_s, ↓c25_7_s, ↓c25_3_s, ↓c25_2_s, ↓c25_12_s, ↓c25_11_s, ↓c25_10_s, ↓c25_1_s, ↓c25_s, ↓w3t_25, e0, e6, e7, e9])
    all_goals
     refine fin2 _ _ fr_ e6 e7 e9 ⟨_, rfl, ?_, ?_⟩
     ·first | exact get_alloc_new _ _ | exact get_setB_same _ _ _ (by assumption)
     ·simp only [size_drew, size_alloc] at *
      omega
 generalize findE (M.T.row k) M.g.at_ lo hi = fo at hfind fin
 unfold encEnt at hfind fin
 simp (maxSteps:=9^7)(disch:=first|assumption|(simp only[dz];first|done|assumption|omega)|omega|apply_rules[Fr.refl,Fr.alloc,Fr.drew]|rfl) only [↓gd,gp,Nat.reduceAdd,Nat.reduceEqDiff, ↓c25_6_s, ↓c25_5_s, ↓c25_4_s, ↓c25_9_s, ↓c25_8_s, ↓c25_7_s, ↓c25_2_s, ↓c25_12_s, ↓c25_11_s, ↓c25_10_s, ↓c25_1_s, ↓c25_s, ↓w3t_25, hd1, hm1, g0]
 repeat' (first | with_reducible refine And.intro ?_ ?_ | (with_reducible refine Or.inl ?_; (repeat first|exact Fr.refl _ _|assumption|with_reducible first|apply Fr.alloc|apply Fr.drew|refine Fr.setB ?_ _ _ (.inr (by first|omega|(simp only[gz];omega)))|refine Fr.setB ?_ _ _ (.inl (by first|assumption|simp))|refine Fr.trans' ?_ (by assumption)); done) | with_reducible refine hat _ _ fr_ ?_ | (with_reducible refine hfind _ _ fr_ ?_; intro w' hf'; have cw' := cur w'; have hz' := hf'.size; try (have ga := Fr.getN hf' (get_alloc_new _ _); simp only [size_drew] at ga; have gl := lt_of_get _ _ ga; simp (maxSteps:=9^7)(disch:=first|assumption|(simp only[dz];first|done|assumption|omega)|omega|apply_rules[Fr.refl,Fr.alloc,Fr.drew]|rfl) only [↓gd,gp,Nat.reduceAdd,Nat.reduceEqDiff, ↓c25_6_s, ↓c25_5_s, ↓c25_4_s, ↓c25_9_s, ↓c25_8_s, ↓c25_7_s, ↓c25_2_s, ↓c25_12_s, ↓c25_11_s, ↓c25_10_s, ↓c25_1_s, ↓c25_s, ↓w3t_25, ga])) | simp (maxSteps:=9^7)(disch:=first|assumption|(simp only[dz];first|done|assumption|omega)|omega|apply_rules[Fr.refl,Fr.alloc,Fr.drew]|rfl) only [↓gd,gp,Nat.reduceAdd,Nat.reduceEqDiff, ↓c25_6_s, ↓c25_5_s, ↓c25_4_s, ↓c25_9_s, ↓c25_8_s, ↓c25_7_s, ↓c25_2_s, ↓c25_12_s, ↓c25_11_s, ↓c25_10_s, ↓c25_1_s, ↓c25_s, ↓w3t_25])
 all_goals
  refine fin _ _ fr_ rfl rfl rfl rfl ⟨_, rfl, ?_, ?_⟩
  ·first | exact get_alloc_new _ _ | exact get_setB_same _ _ _ (by assumption)
  ·simp only [size_drew, size_alloc] at *
   omega
theorem least {p : Nat → Prop} (h : ∃ n, p n) : ∃ n, p n ∧ ∀ m, p m → n ≤ m := by
 obtain ⟨n, hn⟩ := h
 induction n using Nat.strongRecOn with
 | _ n ih =>
   by_cases q : ∃ m, m < n ∧ p m
   ·obtain ⟨m, h1, h2⟩ := q; exact ih m h1 h2
   ·exact ⟨n, hn, fun m hm => Nat.le_of_not_lt fun hl => q ⟨m, hl, hm⟩⟩
theorem loop_fuel {body : Env → World → (Env → World → Prop) → Prop} {e : Env} {w : World} (I : Nat → Env → World → Prop) (n : Nat) (h0 : I n e w)
  (hr : ∀ n e w k, I n e w → (∀ m e' w', m < n → I m e' w' → k e' w') → body e w k) : LoopP body e w := by
 classical
 refine loop_intro (fun e w => ∃ n, I n e w) (fun e w => if h : ∃ n, I n e w then Classical.choose (least h) else 0) ⟨n, h0⟩ ?_
 rintro e w k h hk
 have hs := Classical.choose_spec (least h)
 refine hr _ e w k hs.1 fun m e' w' hm hI => hk e' w' ⟨m, hI⟩ ?_
 simp only [dif_pos h, dif_pos (show ∃ n, I n e' w' from ⟨m, hI⟩)]
 exact Nat.lt_of_le_of_lt ((Classical.choose_spec (least (show ∃ n, I n e' w' from ⟨m, hI⟩))).2 m hI) hm
theorem nx_xcallB {P : Program} {f : FuncId} (hc : ∀ args w, (callFunc f args).run P w = .ok (.enter f args) w) (first caps : Array Value) (args : List Value) (w : World) (K : Value → World → Prop) :
  nx P (xcall (.func (.func f) first caps) args) w K = CallsN P f (first.toList ++ args ++ caps.toList) w K := by
 unfold nx xcall CallsN
 simp only [Deferred.ofValue, sem_pure_bind, invoke, hc]
 have : first ++ args.toArray ++ caps = (first.toList ++ args ++ caps.toList).toArray := by simp
 rw [this]
 rfl
theorem takeP_mkF {P : Program} {M : Option (List Nat)} {w0 : World} (fn : Fn) (a c : Array Value) (K : Value → Prop) : takeP P (FrX M w0) (xv (Instr.makeFunc fn a c)) K = K (.func fn a c) := takeP_xv (fun w => run_makeFunc fn a c w) K
structure TI (T : Tab) (B : Nat) (n : Int) : Prop where
 tok : TOK T B
 nd : InsND T
 le : ∀ k lo x, T.at k lo = some x → x.ins ≤ n
theorem TI.mono {T : Tab} {B B' : Nat} {n n' : Int} (h : TI T B n) (hb : B ≤ B') (hn : n ≤ n') : TI T B' n' := ⟨h.tok.mono hb, h.nd, fun k lo x q => by have := h.le k lo x q; omega⟩
theorem TI.drop {T : Tab} {B : Nat} {n : Int} (h : TI T B n) (hB : B ≤ 1000000000) (k : ByteArray) (lo : Int) : TI (T.drop k lo) B n := by
 refine ⟨(h.tok.drop hB k lo).1, fun v => ?_, fun k' lo' x q => ?_⟩
 ·cases q : getE (T.row k) lo with
  | none => rw [drop_none q]; exact h.nd v
  | some y => have h1 := sumR_drop (cIns v) q; have := h.nd v; omega
 ·rw [at_drop h.tok] at q
  split at q
  ·cases q
  ·exact h.le _ _ _ q
theorem TI.put {T : Tab} {B : Nat} {n : Int} (h : TI T B n) (hB : B ≤ 1000000000) {e y : Ent} (hg : goodE e = true) (hy : T.at e.key e.lo = some y) (hc : costN e = costN y) (hi : y.ins = e.ins) : TI (T.putR e) B n := by
 have ht := h.tok.put_same hB hg hy hc
 refine ⟨ht, h.nd.putL h.tok hg hy hi, fun k' lo' x q => ?_⟩
 rw [at_put h.tok hg (ht.sort _)] at q
 split at q
 ·cases q; rw [← hi]; exact h.le _ _ _ hy
 ·exact h.le _ _ _ q
theorem sumE_zero {f : Ent → Nat} {l : Ents} (h : ∀ x ∈ l, f x = 0) : sumE f l = 0 := by
 induction l with
 | nil => rfl
 | cons a l ih => rw [sumE_cons, h a (List.mem_cons_self ..), ih fun x hx => h x (List.mem_cons_of_mem _ hx)]
theorem TI.new {T : Tab} {B : Nat} {n : Int} (h : TI T B n) (hB : B ≤ 999999000) {e : Ent} (hg : goodE e = true) (hy : T.at e.key e.lo = none) (hi : n < e.ins) : TI (T.putR e) (B + costN e) e.ins := by
 have ht := (h.tok.put_new hB hg hy).1
 refine ⟨ht, fun v => ?_, fun k' lo' x q => ?_⟩
 ·have e1 : T.putR e = T.put e := by unfold Tab.putR; rw [if_pos hg]
  have h1 := sumR_put (cIns v) (e := e) h.tok.nd
  rw [drop_none hy] at h1
  rw [e1, h1]
  have h3 := h.nd v
  by_cases q : e.ins = v
  ·have : sumR (cIns v) T.rows = 0 := by
    rw [← sumE_list _ h.tok.nd]
    refine sumE_zero fun x hx => if_neg fun q' => ?_
    have := h.le _ _ _ (list_row h.tok hx).1
    omega
   rw [this]; unfold cIns; split <;> omega
  ·have : cIns v e = 0 := if_neg q
   omega
 ·rw [at_put h.tok hg (ht.sort _)] at q
  split at q
  ·cases q; exact Int.le_refl _
  ·have := h.le _ _ _ q; omega
def PlaceND (l : Ents) : Prop := l.Pairwise fun x y => ¬ (x.key = y.key ∧ x.lo = y.lo)
theorem TI.placeL {T : Tab} {B : Nat} {n : Int} (h : TI T B n) : PlaceND T.list := by
 have h1 := h.nd.list h.tok
 unfold PlaceND
 rw [List.Nodup, List.pairwise_map] at h1
 refine h1.imp_of_mem ?_
 intro x y hx hy hne ⟨q1, q2⟩
 have e1 := (list_row h.tok hx).1
 have e2 := (list_row h.tok hy).1
 rw [q1, q2, e2] at e1
 cases e1
 exact hne rfl
theorem TOK.placeR {T : Tab} {B : Nat} (h : TOK T B) (k : ByteArray) : PlaceND (T.row k) := (h.sort k).imp fun h q => by omega
theorem TOK.mem_at {T : Tab} {B : Nat} (h : TOK T B) {k : ByteArray} {x : Ent} (hx : x ∈ T.row k) : T.at x.key x.lo = some x := (list_row h (mem_list.2 ⟨k, hx⟩)).1
def closed1 (at_ : Ent → Option Int) (e : Ent) : Option Ent :=
 if e.hi ≠ openI then some e else match at_ e with
  | none => some e
  | some n => closeE e n
theorem goodE_hi {e : Ent} (h : goodE e = true) {x : Int} (h1 : e.lo < x) (h2 : x ≤ 1099511627777) : goodE { e with hi := x } = true := by
 unfold goodE at h ⊢
 simp only at *
 split at h
 ·cases h
 ·rename_i q
  rw [if_neg q]
  split at h
  ·cases h
  ·rename_i q
   rw [if_neg q]
   simp only [Bool.and_eq_true, Bool.or_eq_true, decide_eq_true_eq] at h ⊢
   exact ⟨⟨h.1.1, h1⟩, .inr h2⟩
theorem TI.closeStep {T : Tab} {B : Nat} {n : Int} (h : TI T B n) (hB : B ≤ 1000000000) {e : Ent} (he : T.at e.key e.lo = some e) (at_ : Ent → Option Int) :
  TI (closeStep at_ T e) B n ∧ ∀ k lo, (closeStep at_ T e).at k lo = if e.key = k ∧ e.lo = lo then closed1 at_ e else T.at k lo := by
 have hg := (list_row h.tok (h.tok.at_list.1 he).1).2
 have same : ∀ k lo, T.at k lo = if e.key = k ∧ e.lo = lo then some e else T.at k lo := fun k lo => by
  split
  ·rename_i q; rw [← q.1, ← q.2, he]
  ·rfl
 unfold Go.Proofs.YtomlgkecckffeaaGreat.closeStep closed1
 by_cases q : e.hi ≠ openI
 ·rw [if_pos q, if_pos q]; exact ⟨h, same⟩
 rw [if_neg q, if_neg q]
 cases ha : at_ e with
 | none => exact ⟨h, same⟩
 | some m =>
   simp only
   cases hc : closeE e m with
   | none =>
     exact ⟨h.drop hB _ _, fun k lo => by rw [at_drop h.tok]⟩
   | some f =>
     unfold closeE at hc
     rw [if_neg q] at hc
     split at hc
     ·cases hc
     ·rename_i q2
      cases hc
      have hg' : goodE { e with hi := min m 1099511627777 } = true := goodE_hi hg (by omega) (by omega)
      have ht := h.put hB (e := { e with hi := min m 1099511627777 }) hg' he rfl rfl
      exact ⟨ht, fun k lo => by rw [at_put h.tok hg' (ht.tok.sort _)]⟩
theorem TI.closeL {B : Nat} {n : Int} (hB : B ≤ 1000000000) (at_ : Ent → Option Int) : ∀ {l : Ents} {T : Tab}, TI T B n → PlaceND l → (∀ x ∈ l, T.at x.key x.lo = some x) →
  TI (closeL at_ T l) B n ∧ (∀ k lo, (∀ x ∈ l, ¬ (x.key = k ∧ x.lo = lo)) → (closeL at_ T l).at k lo = T.at k lo) ∧ ∀ x ∈ l, (closeL at_ T l).at x.key x.lo = closed1 at_ x
 | [], T, h, _, _ => ⟨h, fun _ _ _ => rfl, fun x hx => absurd hx (by simp)⟩
 | e :: l, T, h, hp, ha => by
   obtain ⟨p1, p2⟩ := List.pairwise_cons.1 hp
   obtain ⟨h1, h2⟩ := h.closeStep hB (ha e (List.mem_cons_self ..)) at_
   have ha' : ∀ x ∈ l, (Go.Proofs.YtomlgkecckffeaaGreat.closeStep at_ T e).at x.key x.lo = some x := fun x hx => by
    rw [h2, if_neg (p1 x hx)]
    exact ha x (List.mem_cons_of_mem _ hx)
   obtain ⟨i1, i2, i3⟩ := TI.closeL hB at_ h1 p2 ha'
   have e0 : Go.Proofs.YtomlgkecckffeaaGreat.closeL at_ T (e :: l) = Go.Proofs.YtomlgkecckffeaaGreat.closeL at_ (Go.Proofs.YtomlgkecckffeaaGreat.closeStep at_ T e) l := rfl
   rw [e0]
   refine ⟨i1, fun k lo hk => ?_, fun x hx => ?_⟩
   ·rw [i2 k lo fun x hx => hk x (List.mem_cons_of_mem _ hx), h2, if_neg (hk e (List.mem_cons_self ..))]
   ·rcases List.mem_cons.1 hx with rfl | hx
    ·rw [i2 x.key x.lo fun y hy q => p1 y hy ⟨q.1.symm, q.2.symm⟩, h2, if_pos ⟨rfl, rfl⟩]
    ·exact i3 x hx
set_option maxHeartbeats 8000000 in
theorem settle_spec {w : World} {a : Lay} {c : Cfg} {inc : Int} {M : Mem} {e : Ent} {read : Int} {K : Value → World → Prop} (h : NodeAt w a c inc M)
  (hK : ∀ w', Fr [] w w' → K (.agg (encFct (M.settle e read)).toArray) w') : CallsN Tryz.prog 50 [.pointer (some ⟨a.nb, 0, none⟩), .agg (encFct e).toArray, .int .i64 read] w K := by
 have cw := cur w
 obtain ⟨x, hx⟩ : ∃ x, x = IntKind.i64.wrap (read + 1) := ⟨_, rfl⟩
 have hx' : wr1 read = x := hx.symm
 unfold Mem.settle at hK
 rw [hx'] at hK
 refine call50 ?_
 unfold encFct
 simp (maxSteps:=9^7)(disch:=first|assumption|(simp only[dz];first|done|assumption|omega)|omega|apply_rules[Fr.refl,Fr.alloc,Fr.drew]|rfl) only [↓gd,gp,Nat.reduceAdd,Nat.reduceEqDiff, ↓c50_5_s, ↓c50_4_s, ↓c50_10_s, ↓c50_13_s, ↓c50_12_s, ↓c50_11_s, ↓c50_9_s, ↓c50_8_s, ↓c50_7_s, ↓c50_6_s, ↓c50_3_s, ↓c50_2_s, ↓c50_16_s, ↓c50_15_s, ↓c50_14_s, ↓c50_s, ↓w3t_50]
 generalize hW : World.alloc (World.alloc w _) _ = w1
 have hf1 : Fr [] w w1 := by rw [← hW]; exact fr_
 have hz1 : w1.heap.size = w.heap.size + 1 + 1 := by rw [← hW]; simp only [gz]
 have g4 : w1.heap[w.heap.size]? = some (.cells (encFct e).toArray 34 (0, 0)) := by rw [← hW]; simp (maxSteps:=9^7)(disch:=first|assumption|(simp only[dz];first|done|assumption|omega)|omega|apply_rules[Fr.refl,Fr.alloc,Fr.drew]|rfl) only [↓gsd,gs,gv,Nat.reduceAdd,Nat.reduceEqDiff] <;> rfl
 have g6 : w1.heap[w.heap.size + 1]? = some (.cells (encFct entZ).toArray 34 (0, 0)) := by rw [← hW]; simp (maxSteps:=9^7)(disch:=first|assumption|(simp only[dz];first|done|assumption|omega)|omega|apply_rules[Fr.refl,Fr.alloc,Fr.drew]|rfl) only [↓gsd,gs,gv,Nat.reduceAdd,Nat.reduceEqDiff] <;> rfl
 clear hW
 have cw1 := cur w1
 have h1 := h.frN hf1
 have hd := h1.hd
 have hm := h1.mm
 have l4 := lt_of_get _ _ g4
 have l6 := lt_of_get _ _ g6
 have n1 : w.heap.size ≠ w.heap.size + 1 := by omega
 have n2 : w.heap.size + 1 ≠ w.heap.size := by omega
 have fin : ∀ (e' : Env) (w' : World) (n : Int), Fr [] w1 w' → e' 4 = .pointer (some ⟨w.heap.size, 0, none⟩) → e' 6 = .pointer (some ⟨w.heap.size + 1, 0, none⟩) → e' 7 = .int .i64 n → (∀ w'', Fr [] w w'' → K (.agg (encFct ((closeE e n).getD entZ)).toArray) w'') →
   W3 Tryz.prog 80 V50 c50_4 (retQ Tryz.prog [.cell 6 34] K) e' w' := by
  intro e' w' n hf e4 e6 e7 hk
  have cw' := cur w'
  have hz' := hf.size
  have g4' := hf.getN g4
  have g6' := hf.getN g6
  unfold encFct at g4' g6'
  have hcl : ∀ (w2 : World) (K' : Value → World → Prop), (∀ w3, Fr [] w2 w3 → K' (.tuple ([.agg (encFct ((closeE e n).getD entZ)).toArray, .bool (closeE e n).isSome] : List Value).toArray) w3) → CallsN Tryz.prog 123 [.agg (encFct e).toArray, .int .i64 n] w2 K' := fun w2 K' hk' => close_spec hk'
  generalize (closeE e n).getD entZ = f at hk hcl
  unfold encFct at hcl hk
  simp (maxSteps:=9^7)(disch:=first|assumption|(simp only[dz];first|done|assumption|omega)|omega|apply_rules[Fr.refl,Fr.alloc,Fr.drew]|rfl) only [↓gd,gp,Nat.reduceAdd,Nat.reduceEqDiff, ↓hk50, e4, e6, e7, g4', g6']
  refine hcl _ _ fun w3 hf3 => ?_
  have cw3 := cur w3
  have hz3 := hf3.size
  have g4'' := hf3.getN g4'
  have g6'' := hf3.getN g6'
  simp (maxSteps:=9^7)(disch:=first|assumption|(simp only[dz];first|done|assumption|omega)|omega|apply_rules[Fr.refl,Fr.alloc,Fr.drew]|rfl) only [↓gd,gp,Nat.reduceAdd,Nat.reduceEqDiff, ↓hk50, e4, e6, e7, g4'', g6'', n1, n2]
  refine hk _ (Fr.trans ((hf1.trans' hf).trans' hf3) (M' := [w.heap.size, w.heap.size + 1]) fr_ (fun x hx => by simp at hx; omega))
 have same : ∀ (e' : Env) (w' : World), Fr [] w1 w' → K (.agg (encFct e).toArray) (w'.setB (w.heap.size + 1) (.cells (encFct e).toArray 34 (0, 0))) → True := fun _ _ _ _ => trivial
 have g4u := g4
 have g6u := g6
 unfold encFct at g4u g6u
 by_cases q1 : e.hi = 4611686018427387904
 ·have d1 : decide (e.hi = 4611686018427387904) = true := decide_eq_true q1
  have q1' : ¬ (e.hi ≠ openI) := fun q => q q1
  cases ql : M.live with
  | false =>
    rw [if_neg (by rw [ql]; simp; exact q1), if_neg (by rw [ql]; simp)] at hK
    rw [ql] at hm
    simp (maxSteps:=9^7)(disch:=first|assumption|(simp only[dz];first|done|assumption|omega)|omega|apply_rules[Fr.refl,Fr.alloc,Fr.drew]|rfl) only [↓gd,gp,Nat.reduceAdd,Nat.reduceEqDiff, ↓c50_5_s, ↓c50_10_s, ↓c50_13_s, ↓c50_12_s, ↓c50_11_s, ↓c50_9_s, ↓c50_8_s, ↓c50_7_s, ↓c50_6_s, ↓c50_3_s, ↓c50_2_s, ↓c50_16_s, ↓c50_15_s, ↓c50_14_s, ↓c50_1_s, ↓c50_s, ↓w3t_50, hd, hm, g4u, d1, ← hx]
    exact fin _ _ x fr_ rfl rfl rfl hK
  | true =>
    rw [ql] at hm hK
    simp (maxSteps:=9^7)(disch:=first|assumption|(simp only[dz];first|done|assumption|omega)|omega|apply_rules[Fr.refl,Fr.alloc,Fr.drew]|rfl) only [↓gd,gp,Nat.reduceAdd,Nat.reduceEqDiff, ↓c50_5_s, ↓c50_10_s, ↓c50_13_s, ↓c50_12_s, ↓c50_11_s, ↓c50_9_s, ↓c50_8_s, ↓c50_7_s, ↓c50_6_s, ↓c50_3_s, ↓c50_2_s, ↓c50_16_s, ↓c50_15_s, ↓c50_14_s, ↓c50_1_s, ↓c50_s, ↓w3t_50, hd, hm, g4u, d1, ← hx]
    refine atR h1.gap ?_
    by_cases q2 : M.g.at_ ≤ read
    ·rw [if_pos (.inr ⟨rfl, q2⟩)] at hK
     have d2 : decide (M.g.at_ ≤ read) = true := decide_eq_true q2
     simp (maxSteps:=9^7)(disch:=first|assumption|(simp only[dz];first|done|assumption|omega)|omega|apply_rules[Fr.refl,Fr.alloc,Fr.drew]|rfl) only [↓gd,gp,Nat.reduceAdd,Nat.reduceEqDiff, ↓c50_5_s, ↓c50_10_s, ↓c50_13_s, ↓c50_12_s, ↓c50_11_s, ↓c50_9_s, ↓c50_8_s, ↓c50_7_s, ↓c50_6_s, ↓c50_3_s, ↓c50_2_s, ↓c50_16_s, ↓c50_15_s, ↓c50_14_s, ↓c50_1_s, ↓c50_s, ↓w3t_50, hd, hm, g4u, g6u, d1, d2, n1, n2, ← hx]
     exact hK _ (Fr.trans hf1 (M' := [w.heap.size + 1]) fr_ (fun x hx => by simp at hx; omega))
    ·have d2 : decide (M.g.at_ ≤ read) = false := decide_eq_false q2
     rw [if_neg (by rintro (q | q); exact q q1; exact q2 q.2)] at hK
     simp (maxSteps:=9^7)(disch:=first|assumption|(simp only[dz];first|done|assumption|omega)|omega|apply_rules[Fr.refl,Fr.alloc,Fr.drew]|rfl) only [↓gd,gp,Nat.reduceAdd,Nat.reduceEqDiff, ↓c50_5_s, ↓c50_10_s, ↓c50_13_s, ↓c50_12_s, ↓c50_11_s, ↓c50_9_s, ↓c50_8_s, ↓c50_7_s, ↓c50_6_s, ↓c50_3_s, ↓c50_2_s, ↓c50_16_s, ↓c50_15_s, ↓c50_14_s, ↓c50_1_s, ↓c50_s, ↓w3t_50, hd, hm, g4u, d1, d2, ← hx]
     refine covers_spec h1.rcn ?_
     cases q3 : M.R.covers read with
     | false =>
       rw [q3, if_neg (by simp)] at hK
       simp (maxSteps:=9^7)(disch:=first|assumption|(simp only[dz];first|done|assumption|omega)|omega|apply_rules[Fr.refl,Fr.alloc,Fr.drew]|rfl) only [↓gd,gp,Nat.reduceAdd,Nat.reduceEqDiff, ↓c50_5_s, ↓c50_10_s, ↓c50_13_s, ↓c50_12_s, ↓c50_11_s, ↓c50_9_s, ↓c50_8_s, ↓c50_7_s, ↓c50_6_s, ↓c50_3_s, ↓c50_2_s, ↓c50_16_s, ↓c50_15_s, ↓c50_14_s, ↓c50_1_s, ↓c50_s, ↓w3t_50, hd, hm, g4u, d1, d2, ← hx]
       exact fin _ _ x fr_ rfl rfl rfl hK
     | true =>
       rw [q3, if_pos (by simp)] at hK
       simp (maxSteps:=9^7)(disch:=first|assumption|(simp only[dz];first|done|assumption|omega)|omega|apply_rules[Fr.refl,Fr.alloc,Fr.drew]|rfl) only [↓gd,gp,Nat.reduceAdd,Nat.reduceEqDiff, ↓c50_5_s, ↓c50_10_s, ↓c50_13_s, ↓c50_12_s, ↓c50_11_s, ↓c50_9_s, ↓c50_8_s, ↓c50_7_s, ↓c50_6_s, ↓c50_3_s, ↓c50_2_s, ↓c50_16_s, ↓c50_15_s, ↓c50_14_s, ↓c50_1_s, ↓c50_s, ↓w3t_50, hd, hm, g4u, d1, d2, ← hx]
       refine first_spec (h1.frN fr_).rcn fun w2 hf2 => ?_
       have cw2 := cur w2
       have hz2 := hf2.size
       have hf2' : Fr [] w1 w2 := by first | exact hf2 | exact (Fr.refl _ _).drew.trans' hf2
       have g4'' := hf2'.getN g4u
       have g6'' := hf2'.getN g6u
       have l6'' := lt_of_get _ _ g6''
       cases q4 : M.R.first e.key read with
       | none =>
         rw [q4] at hK
         simp (maxSteps:=9^7)(disch:=first|assumption|(simp only[dz];first|done|assumption|omega)|omega|apply_rules[Fr.refl,Fr.alloc,Fr.drew]|rfl) only [↓gd,gp,Nat.reduceAdd,Nat.reduceEqDiff, ↓c50_5_s, ↓c50_10_s, ↓c50_13_s, ↓c50_12_s, ↓c50_11_s, ↓c50_9_s, ↓c50_8_s, ↓c50_7_s, ↓c50_6_s, ↓c50_3_s, ↓c50_2_s, ↓c50_16_s, ↓c50_15_s, ↓c50_14_s, ↓c50_1_s, ↓c50_s, ↓w3t_50, g4'', g6'', n1, n2]
         exact hK _ (Fr.trans (hf1.trans' hf2') (M' := [w.heap.size + 1]) fr_ (fun x hx => by simp at hx; omega))
       | some n =>
         rw [q4] at hK
         simp (maxSteps:=9^7)(disch:=first|assumption|(simp only[dz];first|done|assumption|omega)|omega|apply_rules[Fr.refl,Fr.alloc,Fr.drew]|rfl) only [↓gd,gp,Nat.reduceAdd,Nat.reduceEqDiff, ↓c50_5_s, ↓c50_10_s, ↓c50_13_s, ↓c50_12_s, ↓c50_11_s, ↓c50_9_s, ↓c50_8_s, ↓c50_7_s, ↓c50_6_s, ↓c50_3_s, ↓c50_2_s, ↓c50_16_s, ↓c50_15_s, ↓c50_14_s, ↓c50_1_s, ↓c50_s, ↓w3t_50, g4'', g6'', n1, n2]
         exact fin _ _ n fr_ rfl rfl rfl hK
 ·have d1 : decide (e.hi = 4611686018427387904) = false := decide_eq_false q1
  rw [if_pos (.inl q1)] at hK
  simp (maxSteps:=9^7)(disch:=first|assumption|(simp only[dz];first|done|assumption|omega)|omega|apply_rules[Fr.refl,Fr.alloc,Fr.drew]|rfl) only [↓gd,gp,Nat.reduceAdd,Nat.reduceEqDiff, ↓c50_5_s, ↓c50_10_s, ↓c50_13_s, ↓c50_12_s, ↓c50_11_s, ↓c50_9_s, ↓c50_8_s, ↓c50_7_s, ↓c50_6_s, ↓c50_3_s, ↓c50_2_s, ↓c50_16_s, ↓c50_15_s, ↓c50_14_s, ↓c50_1_s, ↓c50_s, ↓w3t_50, hd, hm, g4u, g6u, d1, n1, n2]
  exact hK _ (Fr.trans hf1 (M' := [w.heap.size + 1]) fr_ (fun x hx => by simp at hx; omega))
end Go.Proofs.YtomlgkecckffeaaGreat
