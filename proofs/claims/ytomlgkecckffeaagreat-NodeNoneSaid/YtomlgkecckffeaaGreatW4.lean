/- A node: Look. -/
import Derived.Test.YtomlgkecckffeaaGreatW3
set_option linter.unusedVariables false
set_option linter.unusedSimpArgs false
set_option maxRecDepth 10000
namespace Go.Proofs.YtomlgkecckffeaaGreat
open Go.VW
theorem demF (l : Ents) : ∀ (D : List Nat) (M : Mem), (D.foldl (demStep l) M).g = M.g ∧ (D.foldl (demStep l) M).R = M.R ∧ (D.foldl (demStep l) M).ins = M.ins ∧ (D.foldl (demStep l) M).live = M.live
 | [], _ => ⟨rfl, rfl, rfl, rfl⟩
 | _ :: D, M => demF l D _
theorem Mem.use_keep (c : Cfg) (M : Mem) (e : Ent) : (M.use c e).g = M.g ∧ (M.use c e).R = M.R ∧ (M.use c e).ins = M.ins ∧ (M.use c e).live = M.live := demF _ _ _
def lookV (o : Option Ent) (x : Int) : List Value := match o with
 | none => [.agg #[.bool false, .string ⟨#[]⟩], .agg #[.int .i64 0, .int .i64 0], .bool false]
 | some e => [.agg #[.bool e.has, .string e.data], .agg #[.int .i64 (knownE e x).1, .int .i64 (knownE e x).2], .bool true]
theorem retP_cct {P : Program} {R : Value → World → Prop} {e : Env} {w : World} (i i' j t t' : Nat) : retP P [.cell i t, .cell i' t', .tmp j] R e w = rcP P t (e i) w fun u => rcP P t' (e i') w fun v => R (.tuple #[u, v, e j]) w := by simp [retP, retA, VW.one]
theorem look_nil {w : World} {k : ByteArray} {lo hi : Int} {K : Value → World → Prop} (hK : ∀ w', Fr [] w w' → K (.tuple (lookV none 0).toArray) w') : CallsN Tryz.prog 25 [.pointer none, .string k, .agg ([.int .i64 lo, .int .i64 hi] : List Value).toArray] w K := by
 have cw := cur w
 unfold lookV at hK
 refine call25 ?_
 simp (maxSteps:=9^7)(disch:=first|assumption|(simp only[dz];first|done|assumption|omega)|omega|apply_rules[Fr.refl,Fr.alloc,Fr.drew]|rfl) only [↓gd,gp,Nat.reduceAdd,Nat.reduceEqDiff, ↓hk25]
 generalize hW : World.alloc _ _ = w1
 have hf1 : Fr [] w w1 := by rw [← hW]; (repeat first|exact Fr.refl _ _|assumption|with_reducible first|apply Fr.alloc|apply Fr.drew|refine Fr.setB ?_ _ _ (.inr (by first|omega|(simp only[gz];omega)))|refine Fr.setB ?_ _ _ (.inl (by first|assumption|simp))|refine Fr.trans' ?_ (by assumption))
 have hz1 : w1.heap.size = w.heap.size + 1 + 1 + 1 := by rw [← hW]; simp only [gz]
 have g1 : w1.heap[w.heap.size + 1]? = some (.cells ([.bool false, .string ⟨#[]⟩] : List Value).toArray 31 (0, 0)) := by rw [← hW]; simp (maxSteps:=9^7)(disch:=first|assumption|(simp only[dz];first|done|assumption|omega)|omega|apply_rules[Fr.refl,Fr.alloc,Fr.drew]|rfl) only [↓gsd,gs,gv,Nat.reduceAdd,Nat.reduceEqDiff]
 have g2 : w1.heap[w.heap.size + 1 + 1]? = some (.cells ([.int .i64 0, .int .i64 0] : List Value).toArray 48 (0, 0)) := by rw [← hW]; simp (maxSteps:=9^7)(disch:=first|assumption|(simp only[dz];first|done|assumption|omega)|omega|apply_rules[Fr.refl,Fr.alloc,Fr.drew]|rfl) only [↓gsd,gs,gv,Nat.reduceAdd,Nat.reduceEqDiff]
 clear hW
 have cw1 := cur w1
 have l1 := lt_of_get _ _ g1
 have l2 := lt_of_get _ _ g2
 refine up_nil ?_
 have n1 : w.heap.size + 1 ≠ w.heap.size + 1 + 1 := by omega
 have n2 : w.heap.size + 1 + 1 ≠ w.heap.size + 1 := by omega
 simp (maxSteps:=9^7)(disch:=first|assumption|(simp only[dz];first|done|assumption|omega)|omega|apply_rules[Fr.refl,Fr.alloc,Fr.drew]|rfl) only [↓gd,gp,Nat.reduceAdd,Nat.reduceEqDiff, ↓hk25, g1, g2, retP_cct, n1, n2]
 exact hK _ (Fr.trans hf1 (M' := [w.heap.size + 1, w.heap.size + 1 + 1]) (by (repeat first|exact Fr.refl _ _|assumption|with_reducible first|apply Fr.alloc|apply Fr.drew|refine Fr.setB ?_ _ _ (.inr (by first|omega|(simp only[gz];omega)))|refine Fr.setB ?_ _ _ (.inl (by first|assumption|simp))|refine Fr.trans' ?_ (by assumption))) (fun x hx => by simp at hx; omega))
set_option maxHeartbeats 8000000 in
theorem look_spec {w : World} {a : Lay} {c : Cfg} {inc : Int} {M : Mem} {k : ByteArray} {lo hi : Int} {B : Nat} {K : Value → World → Prop} (h : NodeAt w a c inc M) (hT : TOK M.T B) (hB : B ≤ 100000000) (hI : InsND M.T) (hc : c.prot ≤ 1000000000)
  (hK : ∀ w' S', NodeAt w' { a with S := S' } c inc (M.look c k lo hi).1 → (∀ x ∈ S', x ∈ a.S ∨ w.heap.size ≤ x) → Fr a.all w w' → K (.tuple (lookV (M.look c k lo hi).2 M.g.at_).toArray) w') :
  CallsN Tryz.prog 25 [.pointer (some ⟨a.nb, 0, none⟩), .string k, .agg ([.int .i64 lo, .int .i64 hi] : List Value).toArray] w K := by
 have cw := cur w
 refine call25 ?_
 simp (maxSteps:=9^7)(disch:=first|assumption|(simp only[dz];first|done|assumption|omega)|omega|apply_rules[Fr.refl,Fr.alloc,Fr.drew]|rfl) only [↓gd,gp,Nat.reduceAdd,Nat.reduceEqDiff, ↓hk25]
 generalize hW : World.alloc _ _ = w1
 have hf1 : Fr [] w w1 := by rw [← hW]; (repeat first|exact Fr.refl _ _|assumption|with_reducible first|apply Fr.alloc|apply Fr.drew|refine Fr.setB ?_ _ _ (.inr (by first|omega|(simp only[gz];omega)))|refine Fr.setB ?_ _ _ (.inl (by first|assumption|simp))|refine Fr.trans' ?_ (by assumption))
 have hz1 : w1.heap.size = w.heap.size + 1 + 1 + 1 := by rw [← hW]; simp only [gz]
 have g0 : w1.heap[w.heap.size]? = some (.cells ([.int .i64 lo, .int .i64 hi] : List Value).toArray 48 (0, 0)) := by rw [← hW]; simp (maxSteps:=9^7)(disch:=first|assumption|(simp only[dz];first|done|assumption|omega)|omega|apply_rules[Fr.refl,Fr.alloc,Fr.drew]|rfl) only [↓gsd,gs,gv,Nat.reduceAdd,Nat.reduceEqDiff]
 have g1 : w1.heap[w.heap.size + 1]? = some (.cells ([.bool false, .string ⟨#[]⟩] : List Value).toArray 31 (0, 0)) := by rw [← hW]; simp (maxSteps:=9^7)(disch:=first|assumption|(simp only[dz];first|done|assumption|omega)|omega|apply_rules[Fr.refl,Fr.alloc,Fr.drew]|rfl) only [↓gsd,gs,gv,Nat.reduceAdd,Nat.reduceEqDiff]
 have g2 : w1.heap[w.heap.size + 1 + 1]? = some (.cells ([.int .i64 0, .int .i64 0] : List Value).toArray 48 (0, 0)) := by rw [← hW]; simp (maxSteps:=9^7)(disch:=first|assumption|(simp only[dz];first|done|assumption|omega)|omega|apply_rules[Fr.refl,Fr.alloc,Fr.drew]|rfl) only [↓gsd,gs,gv,Nat.reduceAdd,Nat.reduceEqDiff]
 clear hW
 have cw1 := cur w1
 have h1 := h.frN hf1
 refine up_spec h1 ?_
 have hd1 := h1.hd
 have hm1 := h1.mm
 have l0 := lt_of_get _ _ g0
 have l1 := lt_of_get _ _ g1
 have l2 := lt_of_get _ _ g2
 have hat : ∀ (w' : World) (K' : Value → World → Prop), Fr [] w1 w' → K' (.int .i64 M.g.at_) w' → CallsN Tryz.prog 70 [.pointer (some ⟨a.gb, 0, none⟩)] w' K' := fun w' K' hf hk => atR (h1.frN hf).gap hk
 have hfind : ∀ (w' : World) (K' : Value → World → Prop), Fr [] w1 w' → (∀ w'', Fr [] w' w'' → K' (.tuple ([.agg (encEnt ((findE (M.T.row k) M.g.at_ lo hi).getD entZ)).toArray, .bool (findE (M.T.row k) M.g.at_ lo hi).isSome] : List Value).toArray) w'') →
   CallsN Tryz.prog 80 [.pointer (some ⟨a.tb, 0, none⟩), .string k, .int .i64 M.g.at_, .agg ([.int .i64 lo, .int .i64 hi] : List Value).toArray] w' K' := fun w' K' hf hk => Find_spec (h1.frN hf).tab hT.wf (by omega) hk
 have fin : ∀ (e' : Env) (w' : World), Fr [] w1 w' → e' 0 = .pointer (some ⟨a.nb, 0, none⟩) → e' 6 = .pointer (some ⟨w.heap.size + 1, 0, none⟩) → e' 7 = .pointer (some ⟨w.heap.size + 1 + 1, 0, none⟩) → e' 10 = .bool (findE (M.T.row k) M.g.at_ lo hi).isSome →
   (∃ b9, e' 9 = .pointer (some ⟨b9, 0, none⟩) ∧ w'.heap[b9]? = some (.cells (encEnt ((findE (M.T.row k) M.g.at_ lo hi).getD entZ)).toArray 52 (0, 0)) ∧ w.heap.size ≤ b9 ∧ b9 ≠ w.heap.size + 1 ∧ b9 ≠ w.heap.size + 1 + 1) →
   W3 Tryz.prog 64 V25 c25_3 (retQ Tryz.prog [.cell 6 31, .cell 7 48, .tmp 8] K) e' w' := by
  intro e' w' hf e0 e6 e7 e10 ⟨b9, e9, g9, hb1, hb2, hb3⟩
  have cw' := cur w'
  have hz' := hf.size
  have l9 := lt_of_get _ _ g9
  have h' := h1.frN hf
  have g1' := hf.getN g1
  have g2' := hf.getN g2
  have l1' := lt_of_get _ _ g1'
  have l2' := lt_of_get _ _ g2'
  unfold Mem.look at hK
  cases hfo : findE (M.T.row k) M.g.at_ lo hi with
  | none =>
    rw [hfo] at e10 hK
    unfold lookV at hK
    have e10' : e' 10 = .bool false := e10
    simp (maxSteps:=9^7)(disch:=first|assumption|(simp only[dz];first|done|assumption|omega)|omega|apply_rules[Fr.refl,Fr.alloc,Fr.drew]|rfl) only [↓gd,gp,Nat.reduceAdd,Nat.reduceEqDiff, ↓hk25, e0, e6, e7, e9, e10', g1', g2', retP_cct]
    exact hK _ a.S (h'.frA (L := [w.heap.size + 1, w.heap.size + 1 + 1]) (by (repeat first|exact Fr.refl _ _|assumption|with_reducible first|apply Fr.alloc|apply Fr.drew|refine Fr.setB ?_ _ _ (.inr (by first|omega|(simp only[gz];omega)))|refine Fr.setB ?_ _ _ (.inl (by first|assumption|simp))|refine Fr.trans' ?_ (by assumption))) (fun g hg => h.away (by simp at hg; omega))) (fun x hx => .inl hx) (Fr.trans (M' := []) (Fr.refl a.all w) (hf1.trans' hf |>.trans (M' := [w.heap.size + 1, w.heap.size + 1 + 1]) (by (repeat first|exact Fr.refl _ _|assumption|with_reducible first|apply Fr.alloc|apply Fr.drew|refine Fr.setB ?_ _ _ (.inr (by first|omega|(simp only[gz];omega)))|refine Fr.setB ?_ _ _ (.inl (by first|assumption|simp))|refine Fr.trans' ?_ (by assumption))) (fun x hx => by simp at hx; omega)) (by simp))
  | some e =>
    rw [hfo] at e10 hK g9
    unfold lookV at hK
    have e10' : e' 10 = .bool true := e10
    simp only [Option.getD_some] at g9
    unfold encEnt at g9
    simp (maxSteps:=9^7)(disch:=first|assumption|(simp only[dz];first|done|assumption|omega)|omega|apply_rules[Fr.refl,Fr.alloc,Fr.drew]|rfl) only [↓gd,gp,Nat.reduceAdd,Nat.reduceEqDiff, ↓hk25, e0, e6, e7, e9, e10', g9]
    have hem : M.T.at e.key e.lo = some e := by
     have h1 : e ∈ M.T.row k := by
      unfold findE at hfo
      exact (List.mem_filter.1 (List.mem_of_mem_getLast? hfo)).1
     exact hT.at_list.2 ⟨mem_list.2 ⟨k, h1⟩, rfl, rfl⟩
    refine use_spec (e := e) h' hT hB hI hem hc fun w2 S2 h2 hS2 hf2 => ?_
    have cw2 := cur w2
    have hz2 := hf2.size
    have hd2 := h2.hd
    have hm2 := h2.mm
    simp only at hd2 hm2
    have a9 := h.away hb1
    have a1 := h.away (show w.heap.size ≤ w.heap.size + 1 by omega)
    have a2 := h.away (show w.heap.size ≤ w.heap.size + 1 + 1 by omega)
    have g9' := hf2.get g9 a9.1
    have g1'' := hf2.get g1' a1.1
    have g2'' := hf2.get g2' a2.1
    have k1 := lt_of_get _ _ g1''
    have k2 := lt_of_get _ _ g2''
    have k9 := lt_of_get _ _ g9'
    have eg : (M.use c e).g = M.g := (Mem.use_keep c M e).1
    have hat2 : ∀ (w' : World) (K' : Value → World → Prop), Fr [] w2 w' → K' (.int .i64 M.g.at_) w' → CallsN Tryz.prog 70 [.pointer (some ⟨a.gb, 0, none⟩)] w' K' := fun w' K' hf hk => atR (h2.frN hf).gap (by rw [eg]; exact hk)
    have hkn : ∀ (w' : World) (K' : Value → World → Prop), Fr [] w2 w' → (∀ w'', Fr [] w' w'' → K' (.agg (encSp (knownE e M.g.at_)).toArray) w'') → CallsN Tryz.prog 82 [.agg (encFct e).toArray, .int .i64 M.g.at_] w' K' := fun w' K' hf hk => known_spec hk
    have fin2 : ∀ (e2 : Env) (w3 : World), Fr [] w2 w3 → e2 6 = .pointer (some ⟨w.heap.size + 1, 0, none⟩) → e2 7 = .pointer (some ⟨w.heap.size + 1 + 1, 0, none⟩) → e2 9 = .pointer (some ⟨b9, 0, none⟩) →
      (∃ b11, e2 11 = .pointer (some ⟨b11, 0, none⟩) ∧ w3.heap[b11]? = some (.cells (encSp (knownE e M.g.at_)).toArray 135 (0, 0)) ∧ w2.heap.size ≤ b11) →
      W3 Tryz.prog 64 V25 c25_6 (retQ Tryz.prog [.cell 6 31, .cell 7 48, .tmp 8] K) e2 w3 := by
     intro e2 w3 hf3 q6 q7 q9 ⟨b11, q11, g11, hb11⟩
     have cw3 := cur w3
     have hz3 := hf3.size
     have r9 := hf3.getN g9'
     have r1 := hf3.getN g1''
     have r2 := hf3.getN g2''
     have m1 := lt_of_get _ _ r1
     have m2 := lt_of_get _ _ r2
     have m9 := lt_of_get _ _ r9
     have m11 := lt_of_get _ _ g11
     have n1 : w.heap.size + 1 ≠ w.heap.size + 1 + 1 := by omega
     have n2 : w.heap.size + 1 + 1 ≠ w.heap.size + 1 := by omega
     unfold encSp at g11
     simp (maxSteps:=9^7)(disch:=first|assumption|(simp only[dz];first|done|assumption|omega)|omega|apply_rules[Fr.refl,Fr.alloc,Fr.drew]|rfl) only [↓gd,gp,Nat.reduceAdd,Nat.reduceEqDiff, ↓hk25, q6, q7, q9, q11, r9, r1, r2, g11, n1, n2, retP_cct]
     refine hK _ S2 ((h2.frN hf3).frA (L := [w.heap.size + 1, w.heap.size + 1 + 1]) (by (repeat first|exact Fr.refl _ _|assumption|with_reducible first|apply Fr.alloc|apply Fr.drew|refine Fr.setB ?_ _ _ (.inr (by first|omega|(simp only[gz];omega)))|refine Fr.setB ?_ _ _ (.inl (by first|assumption|simp))|refine Fr.trans' ?_ (by assumption))) (fun g hg => ?_)) ?_ ?_
     ·rw [eg]
      exact (h.away (by simp at hg; omega)).tab (n := w'.heap.size) hS2 (by simp at hg; omega)
     ·exact fun x hx => (hS2 x hx).imp id fun q => by omega
     ·exact ((((Fr.refl a.all w).trans (hf1.trans' hf) (by simp)).trans hf2 (fun x hx => .inl hx)).trans hf3 (by simp)).trans (M' := [w.heap.size + 1, w.heap.size + 1 + 1]) (by (repeat first|exact Fr.refl _ _|assumption|with_reducible first|apply Fr.alloc|apply Fr.drew|refine Fr.setB ?_ _ _ (.inr (by first|omega|(simp only[gz];omega)))|refine Fr.setB ?_ _ _ (.inl (by first|assumption|simp))|refine Fr.trans' ?_ (by assumption))) (fun x hx => by simp at hx; omega)
    unfold encFct at hkn
    generalize knownE e M.g.at_ = kp at hkn fin2
    unfold encSp at hkn fin2
    simp (maxSteps:=9^7)(disch:=first|assumption|(simp only[dz];first|done|assumption|omega)|omega|apply_rules[Fr.refl,Fr.alloc,Fr.drew]|rfl) only [↓gd,gp,Nat.reduceAdd,Nat.reduceEqDiff, ↓c25_5_s, ↓c25_4_s, ↓c25_9_s, ↓c25_8_s, ↓c25_7_s, ↓c25_3_s, ↓c25_2_s, ↓c25_12_s, ↓c25_11_s, ↓c25_10_s, ↓c25_1_s, ↓c25_s, ↓w3t_25, e0, e6, e7, e9, hd2, hm2, g9']
    repeat' (first | with_reducible refine And.intro ?_ ?_ | (with_reducible refine Or.inl ?_; (repeat first|exact Fr.refl _ _|assumption|with_reducible first|apply Fr.alloc|apply Fr.drew|refine Fr.setB ?_ _ _ (.inr (by first|omega|(simp only[gz];omega)))|refine Fr.setB ?_ _ _ (.inl (by first|assumption|simp))|refine Fr.trans' ?_ (by assumption)); done) | with_reducible refine hat2 _ _ (by (repeat first|exact Fr.refl _ _|assumption|with_reducible first|apply Fr.alloc|apply Fr.drew|refine Fr.setB ?_ _ _ (.inr (by first|omega|(simp only[gz];omega)))|refine Fr.setB ?_ _ _ (.inl (by first|assumption|simp))|refine Fr.trans' ?_ (by assumption))) ?_ | (with_reducible refine hkn _ _ (by (repeat first|exact Fr.refl _ _|assumption|with_reducible first|apply Fr.alloc|apply Fr.drew|refine Fr.setB ?_ _ _ (.inr (by first|omega|(simp only[gz];omega)))|refine Fr.setB ?_ _ _ (.inl (by first|assumption|simp))|refine Fr.trans' ?_ (by assumption))) ?_; intro w' hf'; have cw' := cur w'; have hz' := hf'.size; try (have ga := Fr.getN hf' (get_alloc_new _ _); simp only [size_drew] at ga; have gl := lt_of_get _ _ ga; simp (maxSteps:=9^7)(disch:=first|assumption|(simp only[dz];first|done|assumption|omega)|omega|apply_rules[Fr.refl,Fr.alloc,Fr.drew]|rfl) only [↓gd,gp,Nat.reduceAdd,Nat.reduceEqDiff, ↓c25_5_s, ↓c25_4_s, ↓c25_9_s, ↓c25_8_s, ↓c25_7_s, ↓c25_3_s, ↓c25_2_s, ↓c25_12_s, ↓c25_11_s, ↓c25_10_s, ↓c25_1_s, ↓c25_s, ↓w3t_25, ga])) | simp (maxSteps:=9^7)(disch:=first|assumption|(simp only[dz];first|done|assumption|omega)|omega|apply_rules[Fr.refl,Fr.alloc,Fr.drew]|rfl) only [↓gd,gp,Nat.reduceAdd,Nat.reduceEqDiff, ↓c25_5_s, ↓c25_4_s, ↓c25_9_s, ↓c25_8_s, ↓c25_7_s, ↓c25_3_s, ↓c25_2_s, ↓c25_12_s, ↓c25_11_s, ↓c25_10_s, ↓c25_1_s, ↓c25_s, ↓w3t_25, e0, e6, e7, e9])
    all_goals
     refine fin2 _ _ (by (repeat first|exact Fr.refl _ _|assumption|with_reducible first|apply Fr.alloc|apply Fr.drew|refine Fr.setB ?_ _ _ (.inr (by first|omega|(simp only[gz];omega)))|refine Fr.setB ?_ _ _ (.inl (by first|assumption|simp))|refine Fr.trans' ?_ (by assumption))) e6 e7 e9 ⟨_, rfl, ?_, ?_⟩
     ·first | exact get_alloc_new _ _ | exact get_setB_same _ _ _ (by assumption)
     ·simp only [size_drew, size_alloc] at *
      omega
 generalize findE (M.T.row k) M.g.at_ lo hi = fo at hfind fin
 unfold encEnt at hfind fin
 simp (maxSteps:=9^7)(disch:=first|assumption|(simp only[dz];first|done|assumption|omega)|omega|apply_rules[Fr.refl,Fr.alloc,Fr.drew]|rfl) only [↓gd,gp,Nat.reduceAdd,Nat.reduceEqDiff, ↓c25_6_s, ↓c25_5_s, ↓c25_4_s, ↓c25_9_s, ↓c25_8_s, ↓c25_7_s, ↓c25_2_s, ↓c25_12_s, ↓c25_11_s, ↓c25_10_s, ↓c25_1_s, ↓c25_s, ↓w3t_25, hd1, hm1, g0]
 repeat' (first | with_reducible refine And.intro ?_ ?_ | (with_reducible refine Or.inl ?_; (repeat first|exact Fr.refl _ _|assumption|with_reducible first|apply Fr.alloc|apply Fr.drew|refine Fr.setB ?_ _ _ (.inr (by first|omega|(simp only[gz];omega)))|refine Fr.setB ?_ _ _ (.inl (by first|assumption|simp))|refine Fr.trans' ?_ (by assumption)); done) | with_reducible refine hat _ _ (by (repeat first|exact Fr.refl _ _|assumption|with_reducible first|apply Fr.alloc|apply Fr.drew|refine Fr.setB ?_ _ _ (.inr (by first|omega|(simp only[gz];omega)))|refine Fr.setB ?_ _ _ (.inl (by first|assumption|simp))|refine Fr.trans' ?_ (by assumption))) ?_ | (with_reducible refine hfind _ _ (by (repeat first|exact Fr.refl _ _|assumption|with_reducible first|apply Fr.alloc|apply Fr.drew|refine Fr.setB ?_ _ _ (.inr (by first|omega|(simp only[gz];omega)))|refine Fr.setB ?_ _ _ (.inl (by first|assumption|simp))|refine Fr.trans' ?_ (by assumption))) ?_; intro w' hf'; have cw' := cur w'; have hz' := hf'.size; try (have ga := Fr.getN hf' (get_alloc_new _ _); simp only [size_drew] at ga; have gl := lt_of_get _ _ ga; simp (maxSteps:=9^7)(disch:=first|assumption|(simp only[dz];first|done|assumption|omega)|omega|apply_rules[Fr.refl,Fr.alloc,Fr.drew]|rfl) only [↓gd,gp,Nat.reduceAdd,Nat.reduceEqDiff, ↓c25_6_s, ↓c25_5_s, ↓c25_4_s, ↓c25_9_s, ↓c25_8_s, ↓c25_7_s, ↓c25_2_s, ↓c25_12_s, ↓c25_11_s, ↓c25_10_s, ↓c25_1_s, ↓c25_s, ↓w3t_25, ga])) | simp (maxSteps:=9^7)(disch:=first|assumption|(simp only[dz];first|done|assumption|omega)|omega|apply_rules[Fr.refl,Fr.alloc,Fr.drew]|rfl) only [↓gd,gp,Nat.reduceAdd,Nat.reduceEqDiff, ↓c25_6_s, ↓c25_5_s, ↓c25_4_s, ↓c25_9_s, ↓c25_8_s, ↓c25_7_s, ↓c25_2_s, ↓c25_12_s, ↓c25_11_s, ↓c25_10_s, ↓c25_1_s, ↓c25_s, ↓w3t_25])
 all_goals
  refine fin _ _ (by (repeat first|exact Fr.refl _ _|assumption|with_reducible first|apply Fr.alloc|apply Fr.drew|refine Fr.setB ?_ _ _ (.inr (by first|omega|(simp only[gz];omega)))|refine Fr.setB ?_ _ _ (.inl (by first|assumption|simp))|refine Fr.trans' ?_ (by assumption))) rfl rfl rfl rfl ⟨_, rfl, ?_, ?_⟩
  ·first | exact get_alloc_new _ _ | exact get_setB_same _ _ _ (by assumption)
  ·simp only [size_drew, size_alloc] at *
   omega
end Go.Proofs.YtomlgkecckffeaaGreat
