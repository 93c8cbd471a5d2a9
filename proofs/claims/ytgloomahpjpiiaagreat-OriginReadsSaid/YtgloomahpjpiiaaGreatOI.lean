/- read. Handle. -/
import Derived.Test.YtgloomahpjpiiaaGreatOF
set_option linter.unusedVariables false
set_option linter.unusedSimpArgs false
set_option maxRecDepth 10000
namespace Go.Proofs.YtgloomahpjpiiaaGreat.Or
open Go.VW
theorem takeP_min {P : Program} {M : Option (List Nat)} {w0 : World} {tys : Array TypeId} {ty : TypeId} {cs : Array Bool} {k k' : IntKind} {x y : Int} (K : Value → Prop) :
  takeP P (FrX M w0) (builtin .min tys ty cs #[.int k x, .int k' y]) K = K (.int k (min x y)) := takeP_bi rfl (fun w => run_min2 tys ty k k' x y w) K
theorem AnsAt.two {w : World} {R R' : Nat → Prop} {b : Nat} {m m' : Msg} {x x' : Ans} (hb : w.heap[b]? = some (.cells (encMsg m ++ encMsg m').toArray 40 (0, 0))) (hn : AnsIs w R m x) (hn' : AnsIs w R m' x') (hR : R' b) : AnsAt w R R' (.slice (some ⟨b, 0, none⟩) 2 2) [x, x'] := by
 refine ⟨⟨[m, m'], ?_, rfl, fun i n y h1 h2 => ?_⟩, fun b' hb' => ?_⟩
 ·refine ⟨by simp [cellsOf, encMsg], .inr ⟨b, 2, _, rfl, Nat.zero_le _, hb, ?_⟩⟩
  simp [encMsg, cellsOf, oneC, maxLen]
 ·have := (List.getElem?_eq_some_iff.1 h1).1
  simp at this
  rcases (by omega : i = 0 ∨ i = 1) with rfl | rfl
  ·simp at h1 h2; subst h1; subst h2; exact hn
  ·simp at h1 h2; subst h1; subst h2; exact hn'
 ·simp [Value.ownBlock] at hb'; subst hb'; exact hR
theorem stays_min {P : Program} {c : Bool} {w w' : World} {tys : Array TypeId} {ty : TypeId} {cs : Array Bool} {k k' : IntKind} {x y : Int} : stays P c (builtin .min tys ty cs #[.int k x, .int k' y]) (.int k (min x y)) w w' := by
 cases c with
 | false => trivial
 | true => exact .inr (xv_run (run_min2 tys ty k k' x y w'))
def toldM (m : Msg) : Msg := { msg0 with kind := 6, tx := m.tx, seq := m.seq }
def Ori.rd (o : Ori) (m : Msg) : St.Fact × Int := o.st.read m.key (min (m.phi - 1) o.st.last)
def Ori.read (o : Ori) (m : Msg) : List Ans :=
 if o.st.last < m.plo then [⟨{ toldM m with err := 21 }, []⟩] else
 if (o.rd m).2 = 0 then [⟨{ toldM m with vh := (o.rd m).1.has, vd := (o.rd m).1.data, plo := (o.rd m).1.lo, phi := min (o.rd m).1.hi (o.st.last + 1) }, []⟩,
  ⟨{ msg0 with kind := 7, node := toI m.key o.cfg.nodes, key := m.key, vh := (o.rd m).1.has, vd := (o.rd m).1.data, plo := (o.rd m).1.lo, phi := (o.rd m).1.hi, n := o.st.last }, []⟩]
 else [⟨{ toldM m with err := (o.rd m).2 }, []⟩]
set_option maxHeartbeats 32000000 in
theorem read_rest {w0 w : World} {a : Ad} {Wr Rd : List Nat} {o : Ori} {m : Msg} {f : St.Fact} {er : Int} {mb tb fb : Nat} {e : Env} {K : Value → World → Prop} (h : OrAt w a Wr Rd o) (hp : 0 < m.phi ∧ m.phi ≤ 9223372036854775807) (hk : m.key.size ≤ 9223372036854775807)
  (g : w.heap[mb]? = some (.cells (encMsg m).toArray 40 (0, 0))) (gtt : w.heap[tb]? = some (.cells (encMsg (toldM m)).toArray 40 (0, 0))) (gf : w.heap[fb]? = some (.cells (St.encFact f).toArray 57 (0, 0)))
  (e0 : e 0 = .pointer (some ⟨a.ob, 0, none⟩)) (e3 : e 3 = .pointer (some ⟨mb, 0, none⟩)) (e5 : e 5 = .int .i64 o.st.last) (e6 : e 6 = .pointer (some ⟨tb, 0, none⟩)) (e7 : e 7 = .pointer (some ⟨fb, 0, none⟩)) (e8 : e 8 = .int .i64 er)
  (hmt : mb ∉ [tb]) (hob : a.ob ∉ [tb]) (hF : Fr [] w0 w) (ht : w0.heap.size ≤ tb) (hne : w0.heap.size ≤ fb) (hlast : o.st.last ≤ 1099511627776) (hlast0 : 0 ≤ o.st.last)
  (hK : ∀ v w', AnsAt w' (fun b => w0.heap.size ≤ b) (fun b => w0.heap.size ≤ b) v (if er = 0 then [⟨{ toldM m with vh := f.has, vd := f.data, plo := f.lo, phi := min f.hi (o.st.last + 1) }, []⟩,
   ⟨{ msg0 with kind := 7, node := toI m.key o.cfg.nodes, key := m.key, vh := f.has, vd := f.data, plo := f.lo, phi := f.hi, n := o.st.last }, []⟩] else [⟨{ toldM m with err := er }, []⟩]) → Fr [] w0 w' → K v w') :
  W3 Tryz.prog 81 V32 c32_5 (retQ Tryz.prog [ResultVar.tmp 4] K) e w := by
 have cw := cur w
 have hz := hF.size
 have hd := h.hd
 have lt := lt_of_get _ _ gtt
 have hft : fb ≠ tb := by
  rintro rfl
  rw [gf] at gtt; cases gtt
 unfold encMsg at g gtt
 unfold toldM msg0 at gtt
 unfold St.encFact at gf
 have wr : IntKind.i64.wrap (o.st.last + 1) = o.st.last + 1 := wrap64 (by omega) (by omega)
 by_cases q : er = 0
 ·have d : decide (er = 0) = true := decide_eq_true q
  rw [if_pos q] at hK
  simp (maxSteps:=4000000)(disch:=first|assumption|(simp only[dz];first|done|assumption|omega)|omega|apply_rules[Fr.refl,Fr.alloc,Fr.drew]|rfl) only [↓gd,gp,Nat.reduceAdd,Nat.reduceEqDiff, ↓c32_8_s, ↓c32_6_s, ↓c32_12_s, ↓c32_11_s, ↓c32_10_s, ↓c32_9_s, ↓c32_5_s, ↓c32_4_s, ↓c32_16_s, ↓c32_15_s, ↓c32_14_s, ↓c32_13_s, ↓c32_3_s, ↓c32_2_s, ↓c32_1_s, ↓c32_s, ↓w3t_32, e0, e3, e5, e6, e7, e8, gtt, gf, d, wr, takeP_min]
  refine ⟨stays_min, ?_⟩
  generalize hW : World.setB (World.drew w) _ _ = w1
  have hf1 : Fr [tb] w w1 := by rw [← hW]; exact (Fr.drew (Fr.refl _ _)).setB _ _ (.inl (by simp))
  have hF1 : Fr [] w0 w1 := by rw [← hW]; exact (Fr.drew hF).setB _ _ (.inr (by omega))
  have hz1 : w1.heap.size = w.heap.size := by rw [← hW]; simp only [gz]
  have g1 : w1.heap[tb]? = some (.cells (encMsg { toldM m with vh := f.has, vd := f.data, plo := f.lo, phi := min f.hi (o.st.last + 1) }).toArray 40 (0, 0)) := by rw [← hW]; exact get_setB_same _ _ _ (by simp only [gz]; omega)
  clear hW
  have cw1 := cur w1
  have hd1 := hf1.get hd hob
  have gm1 := hf1.get g hmt
  have gf1 := hf1.get gf (by simp; omega)
  have hlen1 : (encMsg { toldM m with vh := f.has, vd := f.data, plo := f.lo, phi := min f.hi (o.st.last + 1) }).length = 16 := rfl
  unfold encMsg toldM msg0 at g1
  simp (maxSteps:=4000000)(disch:=first|assumption|(simp only[dz];first|done|assumption|omega)|omega|apply_rules[Fr.refl,Fr.alloc,Fr.drew]|rfl) only [↓gd,gp,Nat.reduceAdd,Nat.reduceEqDiff, ↓hk32, e0, e3, e5, e6, e7, e8, g1, gm1, gf1, hd1]
  have lt1 := lt_of_get _ _ g1
  have fin : ∀ (b2 : Nat) (w2 : World), Fr [] w1 w2 → w1.heap.size ≤ b2 → w2.heap[b2]? = some (.cells (encMsg { toldM m with vh := f.has, vd := f.data, plo := f.lo, phi := min f.hi (o.st.last + 1) } ++ encMsg { msg0 with kind := 7, node := toI m.key o.cfg.nodes, key := m.key, vh := f.has, vd := f.data, plo := f.lo, phi := f.hi, n := o.st.last }).toArray 40 (0, 0)) →
    K (.slice (some ⟨b2, 0, none⟩) 2 2) w2 := fun b2 w2 hf2 hb2 hg2 => hK _ _ (AnsAt.two (R := fun b => w0.heap.size ≤ b) hg2 (AnsIs.plain ⟨rfl, rfl, rfl⟩) (AnsIs.plain ⟨rfl, rfl, rfl⟩) (by omega)) (hF1.trans' hf2)
  refine ⟨?_, ?_⟩
  ·refine to_spec hk ?_
   simp (maxSteps:=4000000)(disch:=first|assumption|(simp only[dz];first|done|assumption|omega)|omega|apply_rules[Fr.refl,Fr.alloc,Fr.drew]|rfl) only [↓gd,gp,Nat.reduceAdd,Nat.reduceEqDiff, ↓hk32, e0, e3, e5, e6, e7, e8, g1, gm1, gf1, hd1]
   exact fin _ _ (((Fr.drew (Fr.refl _ _)).alloc _).alloc _) (by omega) (get_alloc_is (by simp only [gz]))
  ·refine to_spec hk ?_
   simp (maxSteps:=4000000)(disch:=first|assumption|(simp only[dz];first|done|assumption|omega)|omega|apply_rules[Fr.refl,Fr.alloc,Fr.drew]|rfl) only [↓gd,gp,Nat.reduceAdd,Nat.reduceEqDiff, ↓hk32, e0, e3, e5, e6, e7, e8, g1, gm1, gf1, hd1]
   exact fin _ _ (((Fr.drew (Fr.refl _ _)).alloc _).alloc _) (by omega) (get_alloc_is (by simp only [gz]))
 ·have d : decide (er = 0) = false := decide_eq_false q
  rw [if_neg q] at hK
  simp (maxSteps:=4000000)(disch:=first|assumption|(simp only[dz];first|done|assumption|omega)|omega|apply_rules[Fr.refl,Fr.alloc,Fr.drew]|rfl) only [↓gd,gp,Nat.reduceAdd,Nat.reduceEqDiff, ↓hk32, e0, e3, e5, e6, e7, e8, gtt, d]
  exact hK _ _ (AnsAt.one (m := { toldM m with err := er }) (get_alloc_is (by simp only [size_setB])) (AnsIs.plain ⟨rfl, rfl, rfl⟩) (by omega)) ((hF.setB _ _ (.inr (by omega))).alloc _)
set_option maxHeartbeats 32000000 in
theorem read_spec {w : World} {a : Ad} {Wr Rd : List Nat} {o : Ori} {m : Msg} {K : Value → World → Prop} (h : OrAt w a Wr Rd o) (hp : 0 < m.phi ∧ m.phi ≤ 9223372036854775807) (hk : m.key.size ≤ 9223372036854775807)
  (hK : ∀ v w', AnsAt w' (fun b => w.heap.size ≤ b) (fun b => w.heap.size ≤ b) v (o.read m) → Fr [] w w' → K v w') :
  CallsN Tryz.prog 32 [.pointer (some ⟨a.ob, 0, none⟩), .agg (encMsg m).toArray] w K := by
 have cw := cur w
 have hd := h.hd
 refine call32 ?_
 unfold encMsg
 simp (maxSteps:=4000000)(disch:=first|assumption|(simp only[dz];first|done|assumption|omega)|omega|apply_rules[Fr.refl,Fr.alloc,Fr.drew]|rfl) only [↓gd,gp,Nat.reduceAdd,Nat.reduceEqDiff, ↓c32_8_s, ↓c32_7_s, ↓c32_6_s, ↓c32_12_s, ↓c32_11_s, ↓c32_10_s, ↓c32_9_s, ↓c32_5_s, ↓c32_4_s, ↓c32_16_s, ↓c32_15_s, ↓c32_14_s, ↓c32_13_s, ↓c32_3_s, ↓c32_2_s, ↓c32_s, ↓w3t_32]
 generalize hW : World.alloc w _ = w1
 have hf1 : Fr [] w w1 := by rw [← hW]; (repeat (first | exact Fr.refl _ _ | assumption | with_reducible apply Fr.alloc | with_reducible apply Fr.drew | with_reducible refine Fr.setB ?_ _ _ (.inr (by first | omega | (simp only [gz]; omega))) | with_reducible refine Fr.setB ?_ _ _ (.inl (by first | assumption | simp)) | with_reducible refine Fr.trans' ?_ (by assumption)))
 have hz1 : w1.heap.size = w.heap.size + 1 := by rw [← hW]; simp only [gz]
 have g : w1.heap[w.heap.size]? = some (.cells (encMsg m).toArray 40 (0, 0)) := by rw [← hW]; exact get_alloc_new _ _
 clear hW
 have cw1 := cur w1
 have hd1 := hf1.getN hd
 unfold encMsg at g
 have h1 := h.frN hf1
 simp (maxSteps:=4000000)(disch:=first|assumption|(simp only[dz];first|done|assumption|omega)|omega|apply_rules[Fr.refl,Fr.alloc,Fr.drew]|rfl) only [↓gd,gp,Nat.reduceAdd,Nat.reduceEqDiff, ↓c32_8_s, ↓c32_7_s, ↓c32_6_s, ↓c32_12_s, ↓c32_11_s, ↓c32_10_s, ↓c32_9_s, ↓c32_5_s, ↓c32_4_s, ↓c32_16_s, ↓c32_15_s, ↓c32_14_s, ↓c32_13_s, ↓c32_3_s, ↓c32_1_s, ↓c32_s, ↓w3t_32]
 refine last_o h1 ?_
 simp (maxSteps:=4000000)(disch:=first|assumption|(simp only[dz];first|done|assumption|omega)|omega|apply_rules[Fr.refl,Fr.alloc,Fr.drew]|rfl) only [↓gd,gp,Nat.reduceAdd,Nat.reduceEqDiff, ↓c32_8_s, ↓c32_7_s, ↓c32_6_s, ↓c32_12_s, ↓c32_11_s, ↓c32_10_s, ↓c32_9_s, ↓c32_5_s, ↓c32_4_s, ↓c32_16_s, ↓c32_15_s, ↓c32_14_s, ↓c32_13_s, ↓c32_2_s, ↓c32_1_s, ↓c32_s, ↓w3t_32, g]
 generalize hW : World.alloc w1 _ = w2
 have hf2 : Fr [] w1 w2 := by rw [← hW]; (repeat (first | exact Fr.refl _ _ | assumption | with_reducible apply Fr.alloc | with_reducible apply Fr.drew | with_reducible refine Fr.setB ?_ _ _ (.inr (by first | omega | (simp only [gz]; omega))) | with_reducible refine Fr.setB ?_ _ _ (.inl (by first | assumption | simp)) | with_reducible refine Fr.trans' ?_ (by assumption)))
 have hz2 : w2.heap.size = w1.heap.size + 1 := by rw [← hW]; simp only [gz]
 have g2 : w2.heap[w1.heap.size]? = some (.cells (encMsg (toldM m)).toArray 40 (0, 0)) := by rw [← hW]; exact get_alloc_new _ _
 clear hW
 have cw2 := cur w2
 have hd2 := hf2.getN hd1
 have gm2 := hf2.getN g
 have h2 := h1.frN hf2
 have hF2 := hf1.trans' hf2
 unfold encMsg toldM msg0 at g2
 by_cases q : o.st.last < m.plo
 ·have d : decide (o.st.last < m.plo) = true := decide_eq_true q
  rw [Ori.read, if_pos q] at hK
  simp (maxSteps:=4000000)(disch:=first|assumption|(simp only[dz];first|done|assumption|omega)|omega|apply_rules[Fr.refl,Fr.alloc,Fr.drew]|rfl) only [↓gd,gp,Nat.reduceAdd,Nat.reduceEqDiff, ↓hk32, g2, gm2, d]
  exact hK _ _ (AnsAt.one (m := { toldM m with err := 21 }) (get_alloc_is (by simp only [size_setB])) (AnsIs.plain ⟨rfl, rfl, rfl⟩) (by omega)) ((hF2.setB _ _ (.inr (by omega))).alloc _)
 ·have d : decide (o.st.last < m.plo) = false := decide_eq_false q
  rw [Ori.read, if_neg q] at hK
  have wr : IntKind.i64.wrap (m.phi - 1) = m.phi - 1 := wrap64 (by omega) (by omega)
  simp (maxSteps:=4000000)(disch:=first|assumption|(simp only[dz];first|done|assumption|omega)|omega|apply_rules[Fr.refl,Fr.alloc,Fr.drew]|rfl) only [↓gd,gp,Nat.reduceAdd,Nat.reduceEqDiff, ↓c32_8_s, ↓c32_7_s, ↓c32_6_s, ↓c32_12_s, ↓c32_11_s, ↓c32_10_s, ↓c32_9_s, ↓c32_4_s, ↓c32_16_s, ↓c32_15_s, ↓c32_14_s, ↓c32_13_s, ↓c32_3_s, ↓c32_2_s, ↓c32_1_s, ↓c32_s, ↓w3t_32, g2, gm2, hd2, d, wr, takeP_min]
  have hf0 : Fr [] w2 w2.drew := Fr.drew (Fr.refl _ _)
  obtain ⟨f, hf⟩ : ∃ f, f = o.rd m := ⟨_, rfl⟩
  have hr : o.st.read m.key (min (m.phi - 1) o.st.last) = f := by rw [hf]; rfl
  rw [← hf] at hK
  clear hf
  obtain ⟨f, er⟩ := f
  have hlast := h.wf.l1
  have hlast0 := h.wf.l0
  refine ⟨?_, ?_⟩
  ·refine St.read_spec (h2.frN hf0).st h2.wf fun w3 hf3 => ?_
   have cw3 := cur w3
   have hf3' := hf0.trans' hf3
   have hz3 := hf3'.size
   rw [hr]
   unfold St.encFact
   simp (maxSteps:=4000000)(disch:=first|assumption|(simp only[dz];first|done|assumption|omega)|omega|apply_rules[Fr.refl,Fr.alloc,Fr.drew]|rfl) only [↓gd,gp,Nat.reduceAdd,Nat.reduceEqDiff, ↓c32_8_s, ↓c32_7_s, ↓c32_6_s, ↓c32_12_s, ↓c32_11_s, ↓c32_10_s, ↓c32_9_s, ↓c32_4_s, ↓c32_16_s, ↓c32_15_s, ↓c32_14_s, ↓c32_13_s, ↓c32_3_s, ↓c32_2_s, ↓c32_1_s, ↓c32_s, ↓w3t_32]
   generalize hW : World.alloc w3 _ = w4
   have hf4 : Fr [] w3 w4 := by rw [← hW]; (repeat (first | exact Fr.refl _ _ | assumption | with_reducible apply Fr.alloc | with_reducible apply Fr.drew | with_reducible refine Fr.setB ?_ _ _ (.inr (by first | omega | (simp only [gz]; omega))) | with_reducible refine Fr.setB ?_ _ _ (.inl (by first | assumption | simp)) | with_reducible refine Fr.trans' ?_ (by assumption)))
   have g4 : w4.heap[w3.heap.size]? = some (.cells (St.encFact f).toArray 57 (0, 0)) := by rw [← hW]; exact get_alloc_new _ _
   clear hW
   have hf24 := hf3'.trans' hf4
   exact read_rest (h2.frN hf24) hp hk (hf24.getN gm2) (hf24.getN g2) g4 rfl rfl rfl rfl rfl rfl (by simp; omega) (by have := lt_of_get _ _ hd; simp; omega) (hF2.trans' hf24) (by omega) (by omega) hlast hlast0 hK
  ·try refine ⟨stays_min, ?_⟩
   refine St.read_spec (h2.frN (hf0.alloc _)).st h2.wf fun w3 hf3 => ?_
   have cw3 := cur w3
   have hf3' := (hf0.alloc _).trans' hf3
   have hz3 := hf3'.size
   have gz : w3.heap[w2.heap.size]? = some (.cells (St.encFact St.fact0).toArray 57 (0, 0)) := hf3.getN (get_alloc_is (by simp only [gz]))
   have lz := lt_of_get _ _ gz
   rw [hr]
   unfold St.encFact St.fact0 at gz
   unfold St.encFact
   simp (maxSteps:=4000000)(disch:=first|assumption|(simp only[dz];first|done|assumption|omega)|omega|apply_rules[Fr.refl,Fr.alloc,Fr.drew]|rfl) only [↓gd,gp,Nat.reduceAdd,Nat.reduceEqDiff, ↓c32_8_s, ↓c32_7_s, ↓c32_6_s, ↓c32_12_s, ↓c32_11_s, ↓c32_10_s, ↓c32_9_s, ↓c32_4_s, ↓c32_16_s, ↓c32_15_s, ↓c32_14_s, ↓c32_13_s, ↓c32_3_s, ↓c32_2_s, ↓c32_1_s, ↓c32_s, ↓w3t_32, gz]
   generalize hW : World.setB w3 _ _ = w4
   have hf24 : Fr [] w2 w4 := by rw [← hW]; exact hf3'.setB _ _ (.inr (Nat.le_refl _))
   have g4 : w4.heap[w2.heap.size]? = some (.cells (St.encFact f).toArray 57 (0, 0)) := by rw [← hW]; exact get_setB_same _ _ _ lz
   clear hW
   exact read_rest (h2.frN hf24) hp hk (hf24.getN gm2) (hf24.getN g2) g4 rfl rfl rfl rfl rfl rfl (by simp; omega) (by have := lt_of_get _ _ hd; simp; omega) (hF2.trans' hf24) (by omega) (by omega) hlast hlast0 hK
end Go.Proofs.YtgloomahpjpiiaaGreat.Or
namespace Go.Proofs.YtgloomahpjpiiaaGreat.Or
open Go.VW
theorem chkM_ok {m : Msg} {ws : List St.Wr} {ks : List ByteArray} (h : chkM m ws ks = 0) : (1 ≤ m.kind ∧ m.kind ≤ 11) ∧ zB (blankM m) = true ∧ numsB m = true ∧ thingsB m ws ks = true := by
 unfold chkM at h
 split at h
 ·rename_i q
  split at h
  ·rename_i q2
   simp only [Bool.and_eq_true, decide_eq_true_eq] at q2
   exact ⟨(btw_iff _ _ _).1 q, q2.1, q2.2.1, q2.2.2⟩
  ·cases h
 ·cases h
theorem chkM_read {m : Msg} {ws : List St.Wr} {ks : List ByteArray} (h : chkM m ws ks = 0) (hk : m.kind = 5) : m.key.size ≤ 32 ∧ 0 ≤ m.plo ∧ m.plo < m.phi ∧ m.phi ≤ 4611686018427387904 := by
 have ht := (chkM_ok h).2.2.2
 simp [thingsB, hk, gKey, gPin] at ht
 omega
def Ori.handle (o : Ori) (m : Msg) (ws : List St.Wr) (ks : List ByteArray) : List Ans × Ori :=
 if chkM m ws ks = 0 then
  if m.kind = 1 then o.commit m ws else if m.kind = 5 then (o.read m, o) else if m.kind = 9 then (resendL o m, o)
  else if m.kind = 10 then (if m.node < o.cfg.nodes then [⟨{ msg0 with kind := 11, node := m.node, inc := m.inc, n := o.st.last }, []⟩] else [], o) else ([], o)
 else ([], o)
theorem Step.none {w w' : World} {a : Ad} {Wr Rd : List Nat} (hf : Fr [] w w') : Step w w' a Wr Rd Wr Rd := ⟨hf.mono (by simp), fun x hx => .inl hx, fun x hx => .inl hx⟩
theorem OrAt.lts {w : World} {a : Ad} {Wr Rd : List Nat} {o : Ori} (h : OrAt w a Wr Rd o) : ∀ x, x ∈ Wr ∨ x ∈ Rd → x < w.heap.size := h.lg.lt
theorem OrAt.new {w w' : World} {a : Ad} {Wr Rd : List Nat} {o : Ori} (h : OrAt w a Wr Rd o) : ∀ b, w.heap.size ≤ b → Fresh w Wr Rd b := fun b hb => ⟨hb, fun e => by have := h.lts b (.inl e); omega, fun e => by have := h.lts b (.inr e); omega⟩
theorem commit_spec {w : World} {a : Ad} {Wr Rd : List Nat} {o : Ori} {m : Msg} {ws : List St.Wr} {ks : List ByteArray} {K : Value → World → Prop} (h : OrAt w a Wr Rd o) (hm : MsgAt w m ws ks)
  (hoff : ∀ x, x = a.sb ∨ x = a.sm ∨ x = a.qb → offV m.wv x) (hn : 0 ≤ o.cfg.nodes ∧ o.cfg.nodes ≤ 8)
  (hK : ∀ v w' Wr' Rd', OrAt w' a Wr' Rd' (o.commit m ws).2 → Step w w' a Wr Rd Wr' Rd' → AnsAt w' (Fresh w Wr' Rd') (Fresh w Wr' Rd') v (o.commit m ws).1 → K v w') :
  CallsN Tryz.prog 31 [.pointer (some ⟨a.ob, 0, none⟩), .agg (encMsg m).toArray] w K := by
 by_cases q : (o.req m.ses).seq < m.seq
 ·exact commit_new h hm hoff hn q hK
 ·refine commit_old h (by omega) fun v w' ha hf => ?_
  have hc : o.commit m ws = (if m.seq < (o.req m.ses).seq then [] else [ackA m (o.req m.ses)], o) := by
   unfold Ori.commit
   by_cases q2 : m.seq < (o.req m.ses).seq
   ·rw [if_pos q2, if_pos q2]
   ·rw [if_neg q2, if_pos (by omega), if_neg q2]
  rw [hc] at hK
  exact hK v w' Wr Rd (h.frN hf) (Step.none hf) (ha.mono (h.new (w' := w)) (h.new (w' := w)))
set_option maxHeartbeats 32000000 in
theorem handle_spec {w : World} {a : Ad} {Wr Rd : List Nat} {o : Ori} {m : Msg} {ws : List St.Wr} {ks : List ByteArray} {K : Value → World → Prop} (h : OrAt w a Wr Rd o) (hm : MsgAt w m ws ks)
  (hoff : ws ≠ [] → ∀ x, x = a.sb ∨ x = a.sm ∨ x = a.qb → offV m.wv x) (hn : 0 ≤ o.cfg.nodes ∧ o.cfg.nodes ≤ 8)
  (hK : ∀ v w' Wr' Rd', OrAt w' a Wr' Rd' (o.handle m ws ks).2 → Step w w' a Wr Rd Wr' Rd' → AnsAt w' (Fresh w Wr' Rd') (Fresh w Wr' Rd') v (o.handle m ws ks).1 → K v w') :
  CallsN Tryz.prog 10 [.pointer (some ⟨a.ob, 0, none⟩), .agg (encMsg m).toArray] w K := by
 have cw := cur w
 have hd := h.hd
 refine call10 ?_
 have hme : (encMsg m).toArray = #[.int .i64 m.kind, .int .i64 m.node, .int .i64 m.inc, .int .i64 m.ses, .int .i64 m.tx, .int .i64 m.seq, .string m.key, .int .i64 m.plo, .int .i64 m.phi, .bool m.vh, .string m.vd, .bool m.hit, .int .i64 m.err, .int .i64 m.n, .slice m.wa m.wl m.wc, .slice m.ka m.kl m.kc] := rfl
 rw [hme]
 simp (maxSteps:=4000000)(disch:=first|assumption|(simp only[dz];first|done|assumption|omega)|omega|apply_rules[Fr.refl,Fr.alloc,Fr.drew]|rfl) only [↓gd,gp,Nat.reduceAdd,Nat.reduceEqDiff, ↓c10_3_s, ↓c10_8_s, ↓c10_11_s, ↓c10_14_s, ↓c10_19_s, ↓c10_18_s, ↓c10_17_s, ↓c10_16_s, ↓c10_15_s, ↓c10_13_s, ↓c10_12_s, ↓c10_10_s, ↓c10_9_s, ↓c10_7_s, ↓c10_6_s, ↓c10_5_s, ↓c10_4_s, ↓c10_2_s, ↓c10_22_s, ↓c10_21_s, ↓c10_20_s, ↓c10_s, ↓w3t_10]
 generalize hW : World.alloc w _ = w1
 have hf1 : Fr [] w w1 := by rw [← hW]; (repeat (first | exact Fr.refl _ _ | assumption | with_reducible apply Fr.alloc | with_reducible apply Fr.drew | with_reducible refine Fr.setB ?_ _ _ (.inr (by first | omega | (simp only [gz]; omega))) | with_reducible refine Fr.setB ?_ _ _ (.inl (by first | assumption | simp)) | with_reducible refine Fr.trans' ?_ (by assumption)))
 have hz1 : w1.heap.size = w.heap.size + 1 := by rw [← hW]; simp only [gz]
 have g : w1.heap[w.heap.size]? = some (.cells (encMsg m).toArray 40 (0, 0)) := by rw [← hW]; exact get_alloc_new _ _
 clear hW
 have cw1 := cur w1
 rw [hme] at g
 have hd1 := hf1.getN hd
 simp (maxSteps:=4000000)(disch:=first|assumption|(simp only[dz];first|done|assumption|omega)|omega|apply_rules[Fr.refl,Fr.alloc,Fr.drew]|rfl) only [↓gd,gp,Nat.reduceAdd,Nat.reduceEqDiff, ↓c10_3_s, ↓c10_8_s, ↓c10_11_s, ↓c10_14_s, ↓c10_19_s, ↓c10_18_s, ↓c10_17_s, ↓c10_16_s, ↓c10_15_s, ↓c10_13_s, ↓c10_12_s, ↓c10_10_s, ↓c10_9_s, ↓c10_7_s, ↓c10_6_s, ↓c10_5_s, ↓c10_4_s, ↓c10_22_s, ↓c10_21_s, ↓c10_20_s, ↓c10_1_s, ↓c10_s, ↓w3t_10, g]
 rw [← hme]
 refine mcheck_spec (hm.frN hf1) fun w2 hf2 => ?_
 have cw2 := cur w2
 have hz2 := hf2.size
 have hF2 := hf1.trans' hf2
 have h2 := h.frN hF2
 have hd2 := hF2.getN hd
 have hm2 := hm.frN hF2
 have g2 := hf2.getN g
 unfold Ori.handle at hK
 by_cases q : chkM m ws ks = 0
 ·have d : decide (chkM m ws ks = 0) = true := decide_eq_true q
  rw [if_pos q] at hK
  obtain ⟨hkd, _⟩ := chkM_ok q
  have fr2 : ∀ {w' : World}, Fr [] w w' → ∀ b, w'.heap.size ≤ b → Fresh w Wr Rd b := fun hf b hb => h.new (w' := w) b (Nat.le_trans hf.size hb)
  by_cases k1 : m.kind = 1
  ·rw [if_pos k1] at hK
   have dk : decide (m.kind = 1) = true := decide_eq_true k1
   simp (maxSteps:=4000000)(disch:=first|assumption|(simp only[dz];first|done|assumption|omega)|omega|apply_rules[Fr.refl,Fr.alloc,Fr.drew]|rfl) only [↓gd,gp,Nat.reduceAdd,Nat.reduceEqDiff, ↓hk10, g2, d, dk]
   rw [← hme]
   have hne : ws ≠ [] := fun e => by
    have ht := (chkM_ok q).2.2.2
    have hb : thingsB m ws ks = (btw m.wl 1 8 && !ws.any badW) := by unfold thingsB; rw [if_pos k1]
    have hl := hm.wlen
    rw [e] at hl
    have hz : m.wl = 0 := hl
    rw [hb, hz] at ht
    simp [btw] at ht
   refine commit_spec h2 hm2 (hoff hne) hn fun v w' Wr' Rd' q1 q2 q3 => ?_
   exact hK v w' Wr' Rd' q1 ⟨(hF2.mono (by simp)).trans q2.fr (fun x hx => .inl hx), fun x hx => (q2.wr x hx).imp id (fun r => by omega), fun x hx => (q2.rd x hx).imp id (fun r => by omega)⟩ (q3.mono (fun b hb => ⟨by have := hb.1; omega, hb.2.1, hb.2.2⟩) (fun b hb => ⟨by have := hb.1; omega, hb.2.1, hb.2.2⟩))
  ·rw [if_neg k1] at hK
   have dk : decide (m.kind = 1) = false := decide_eq_false k1
   by_cases k5 : m.kind = 5
   ·rw [if_pos k5] at hK
    have dk5 : decide (m.kind = 5) = true := decide_eq_true k5
    obtain ⟨r1, r2, r3, r4⟩ := chkM_read q k5
    simp (maxSteps:=4000000)(disch:=first|assumption|(simp only[dz];first|done|assumption|omega)|omega|apply_rules[Fr.refl,Fr.alloc,Fr.drew]|rfl) only [↓gd,gp,Nat.reduceAdd,Nat.reduceEqDiff, ↓hk10, g2, d, dk, dk5]
    rw [← hme]
    refine read_spec h2 (by omega) (by omega) fun v w' q1 q2 => ?_
    exact hK v w' Wr Rd (h2.frN q2) (Step.none (hF2.trans' q2)) (q1.mono (fr2 hF2) (fr2 hF2))
   ·rw [if_neg k5] at hK
    have dk5 : decide (m.kind = 5) = false := decide_eq_false k5
    by_cases k9 : m.kind = 9
    ·rw [if_pos k9] at hK
     have dk9 : decide (m.kind = 9) = true := decide_eq_true k9
     simp (maxSteps:=4000000)(disch:=first|assumption|(simp only[dz];first|done|assumption|omega)|omega|apply_rules[Fr.refl,Fr.alloc,Fr.drew]|rfl) only [↓gd,gp,Nat.reduceAdd,Nat.reduceEqDiff, ↓hk10, g2, d, dk, dk5, dk9]
     rw [← hme]
     refine resend_spec h2 fun v w' q1 q2 => ?_
     exact hK v w' Wr Rd (h2.frN q2) (Step.none (hF2.trans' q2)) (q1.mono (fr2 hF2) (fr2 hF2))
    ·rw [if_neg k9] at hK
     have dk9 : decide (m.kind = 9) = false := decide_eq_false k9
     by_cases k10 : m.kind = 10
     ·rw [if_pos k10] at hK
      have dk10 : decide (m.kind = 10) = true := decide_eq_true k10
      by_cases kn : m.node < o.cfg.nodes
      ·rw [if_pos kn] at hK
       have dn : decide (m.node < o.cfg.nodes) = true := decide_eq_true kn
       simp (maxSteps:=4000000)(disch:=first|assumption|(simp only[dz];first|done|assumption|omega)|omega|apply_rules[Fr.refl,Fr.alloc,Fr.drew]|rfl) only [↓gd,gp,Nat.reduceAdd,Nat.reduceEqDiff, ↓hk10, g2, hd2, d, dk, dk5, dk9, dk10, dn]
       have hdd : Fr [] w2 w2.drew.drew := Fr.drew (Fr.drew (Fr.refl _ _))
       have cwd := cur w2.drew.drew
       refine last_o (h2.frN hdd) ?_
       simp (maxSteps:=4000000)(disch:=first|assumption|(simp only[dz];first|done|assumption|omega)|omega|apply_rules[Fr.refl,Fr.alloc,Fr.drew]|rfl) only [↓gd,gp,Nat.reduceAdd,Nat.reduceEqDiff, ↓hk10]
       exact hK _ _ Wr Rd (h2.frN (hdd.alloc _)) (Step.none (hF2.trans' (hdd.alloc _))) (AnsAt.one (m := { msg0 with kind := 11, node := m.node, inc := m.inc, n := o.st.last }) (get_alloc_new _ _) (AnsIs.plain ⟨rfl, rfl, rfl⟩) (h.new (w' := w) _ (by omega)))
      ·rw [if_neg kn] at hK
       have dn : decide (m.node < o.cfg.nodes) = false := decide_eq_false kn
       simp (maxSteps:=4000000)(disch:=first|assumption|(simp only[dz];first|done|assumption|omega)|omega|apply_rules[Fr.refl,Fr.alloc,Fr.drew]|rfl) only [↓gd,gp,Nat.reduceAdd,Nat.reduceEqDiff, ↓hk10, g2, hd2, d, dk, dk5, dk9, dk10, dn]
       exact hK _ _ Wr Rd (h2.frN (Fr.drew (Fr.refl _ _))) (Step.none (Fr.drew hF2)) AnsAt.nil
     ·rw [if_neg k10] at hK
      have dk10 : decide (m.kind = 10) = false := decide_eq_false k10
      simp (maxSteps:=4000000)(disch:=first|assumption|(simp only[dz];first|done|assumption|omega)|omega|apply_rules[Fr.refl,Fr.alloc,Fr.drew]|rfl) only [↓gd,gp,Nat.reduceAdd,Nat.reduceEqDiff, ↓hk10, g2, d, dk, dk5, dk9, dk10]
      exact hK _ _ Wr Rd h2 (Step.none hF2) AnsAt.nil
 ·have d : decide (chkM m ws ks = 0) = false := decide_eq_false q
  rw [if_neg q] at hK
  simp (maxSteps:=4000000)(disch:=first|assumption|(simp only[dz];first|done|assumption|omega)|omega|apply_rules[Fr.refl,Fr.alloc,Fr.drew]|rfl) only [↓gd,gp,Nat.reduceAdd,Nat.reduceEqDiff, ↓hk10, g2, d]
  exact hK _ _ Wr Rd h2 (Step.none hF2) AnsAt.nil
end Go.Proofs.YtgloomahpjpiiaaGreat.Or
