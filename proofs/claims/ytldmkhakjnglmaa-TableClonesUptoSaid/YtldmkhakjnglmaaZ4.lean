/- The reference's table: Find, Bytes, Same. -/
import Derived.Test.YtldmkhakjnglmaaZ3
set_option linter.unusedVariables false
set_option linter.unusedSimpArgs false
set_option maxRecDepth 10000
namespace Go.Proofs.Ytldmkhakjnglmaa
open Go.VW
def findP (k : ByteArray) (x lo hi : Int) (e : Ent) : Bool := decide (e.key = k) && meetsE e x lo hi
def findL (L : Ents) (k : ByteArray) (x lo hi : Int) : Option Ent := (L.filter (findP k x lo hi)).getLast?
set_option maxHeartbeats 8000000 in
theorem rfind_spec {w : World} {rb : Nat} {R : List Nat} {L : Ents} {k : ByteArray} {x plo phi : Int} {K : Value → World → Prop} (h : RTab w rb R L) (hl : L.length ≤ 1000000000)
    (hK : ∀ w', Fr [] w w' → K (.tuple ([.agg (encEnt ((findL L k x plo phi).getD entZ)).toArray, .bool (findL L k x plo phi).isSome] : List Value).toArray) w') : CallsN Try.prog 25 [.pointer (some ⟨rb, 0, none⟩), .string k, .int .i64 x, .agg ([.int .i64 plo, .int .i64 phi] : List Value).toArray] w K := by
  have cw := cur w
  obtain ⟨⟨v, h1, h2, h3⟩, h4, h5⟩ := id h
  refine call25 ?_
  simp (maxSteps := 4000000) (disch := (first | assumption | exact List.not_mem_nil | exact Fr.refl _ _ | ((repeat (first | assumption | apply cur_alloc | apply cur_setB | apply cur_drew | apply cur_drewN)); done) | omega | (simp only [gz, Value.cells, oneC]; first | done | omega) | ((simp only [List.mem_cons, List.not_mem_nil, or_false, gz]); omega) | rfl)) only [↓gsd, gs, ev, Nat.reduceAdd, Nat.reduceEqDiff, oneC, Value.cells, Option.isNone, gt, frT_self, frT_drew, frT_drew0, frT_alloc, ↓hk25]
  generalize hW : World.alloc _ _ = w0
  have hf0 : Fr [] w w0 := by rw [← hW]; (repeat (first | exact Fr.refl _ _ | assumption | with_reducible apply Fr.alloc | with_reducible apply Fr.drew | with_reducible refine Fr.setB ?_ _ _ (.inr (by first | omega | (simp only [gz]; omega))) | with_reducible refine Fr.setB ?_ _ _ (.inl (by first | assumption | simp)) | with_reducible refine Fr.trans' ?_ (by assumption)))
  have gp : w0.heap[w.heap.size]? = some (.cells ([.int .i64 plo, .int .i64 phi] : List Value).toArray 38 (0, 0)) := by rw [← hW]; simp (maxSteps := 4000000) (disch := (first | assumption | exact List.not_mem_nil | exact Fr.refl _ _ | ((repeat (first | assumption | apply cur_alloc | apply cur_setB | apply cur_drew | apply cur_drewN)); done) | omega | (simp only [gz, Value.cells, oneC]; first | done | omega) | ((simp only [List.mem_cons, List.not_mem_nil, or_false, gz]); omega) | rfl)) only [↓gsd, gs, ev, Nat.reduceAdd, Nat.reduceEqDiff, oneC, Value.cells, Option.isNone]
  have ga : w0.heap[w.heap.size + 1]? = some (.cells (encEnt entZ).toArray 36 (0, 0)) := by rw [← hW]; simp (maxSteps := 4000000) (disch := (first | assumption | exact List.not_mem_nil | exact Fr.refl _ _ | ((repeat (first | assumption | apply cur_alloc | apply cur_setB | apply cur_drew | apply cur_drewN)); done) | omega | (simp only [gz, Value.cells, oneC]; first | done | omega) | ((simp only [List.mem_cons, List.not_mem_nil, or_false, gz]); omega) | rfl)) only [↓gsd, gs, ev, Nat.reduceAdd, Nat.reduceEqDiff, oneC, Value.cells, Option.isNone, encEnt]
  have gb : w0.heap[w.heap.size + 1 + 1]? = some (.cells (encEnt entZ).toArray 36 (0, 0)) := by rw [← hW]; simp (maxSteps := 4000000) (disch := (first | assumption | exact List.not_mem_nil | exact Fr.refl _ _ | ((repeat (first | assumption | apply cur_alloc | apply cur_setB | apply cur_drew | apply cur_drewN)); done) | omega | (simp only [gz, Value.cells, oneC]; first | done | omega) | ((simp only [List.mem_cons, List.not_mem_nil, or_false, gz]); omega) | rfl)) only [↓gsd, gs, ev, Nat.reduceAdd, Nat.reduceEqDiff, oneC, Value.cells, Option.isNone, encEnt]
  clear hW
  have cw0 := cur w0
  refine for_intro L.length 12 0 (fun i e w' => ∃ o, ((L.take i).filter (findP k x plo phi)).getLast? = o ∧ e 0 = .pointer (some ⟨rb, 0, none⟩) ∧ e 1 = .string k ∧ e 2 = .int .i64 x ∧ e 7 = .pointer (some ⟨w.heap.size, 0, none⟩) ∧ e 8 = .pointer (some ⟨w.heap.size + 1, 0, none⟩) ∧ e 10 = .pointer (some ⟨w.heap.size + 1 + 1, 0, none⟩) ∧ e 11 = .bool o.isSome ∧
      w'.heap[w.heap.size]? = some (.cells ([.int .i64 plo, .int .i64 phi] : List Value).toArray 38 (0, 0)) ∧ w'.heap[w.heap.size + 1]? = some (.cells (encEnt entZ).toArray 36 (0, 0)) ∧ w'.heap[w.heap.size + 1 + 1]? = some (.cells (encEnt (o.getD entZ)).toArray 36 (0, 0)) ∧ Fr [] w w') ?_ (Nat.zero_le _) ?_ ?_
  · simp (maxSteps := 4000000) (disch := (first | assumption | exact List.not_mem_nil | exact Fr.refl _ _ | ((repeat (first | assumption | apply cur_alloc | apply cur_setB | apply cur_drew | apply cur_drewN)); done) | omega | (simp only [gz, Value.cells, oneC]; first | done | omega) | ((simp only [List.mem_cons, List.not_mem_nil, or_false, gz]); omega) | rfl)) only [↓gsd, gs, ev, Nat.reduceAdd, Nat.reduceEqDiff, oneC, Value.cells, Option.isNone]; rfl
  · refine ⟨none, rfl, ?_⟩
    simp (maxSteps := 4000000) (disch := (first | assumption | exact List.not_mem_nil | exact Fr.refl _ _ | ((repeat (first | assumption | apply cur_alloc | apply cur_setB | apply cur_drew | apply cur_drewN)); done) | omega | (simp only [gz, Value.cells, oneC]; first | done | omega) | ((simp only [List.mem_cons, List.not_mem_nil, or_false, gz]); omega) | rfl)) only [↓gsd, gs, ev, Nat.reduceAdd, Nat.reduceEqDiff, oneC, Value.cells, Option.isNone]
    exact ⟨gp, ga, gb, hf0⟩
  rintro i e w1 kk hi e12 ⟨o, hob, e0, e1, e2, e7, e8, e10, e11, gp1, ga1, gb1, hf⟩ hk
  have cw1 := cur w1
  have g1 := hf.getN h1
  have lp1 := lt_of_get _ _ gp1
  have la1 := lt_of_get _ _ ga1
  have lb1 := lt_of_get _ _ gb1
  have g2 : SlOf 8 encEnt w1 v L := (h2.frN hf).sl
  obtain ⟨va, vc, hvf⟩ := g2.form
  by_cases hil : i < L.length
  · have d : decide ((i : Int) < (L.length : Int)) = true := decide_eq_true (by omega)
    obtain ⟨y, hy⟩ : ∃ y, L[i]? = some y := ⟨L[i], List.getElem?_eq_getElem hil⟩
    obtain ⟨bb, off, cap, ob, hv1, hob1, _, hrow, hcell⟩ := g2.read encEnt_len i y hy
    have hfr := fun orig K => factRead g2 hy hv1 hob1 orig K
    have i0 : (0 : Int) ≤ (i : Int) := by omega
    have i1 : (i : Int) < (L.length : Int) := by omega
    have wr : IntKind.i64.wrap ((i : Int) + 1) = (i : Int) + 1 := wrap64 (by omega) (by omega)
    have htk := filter_snoc hy (findP k x plo phi)
    have hk0 := fun orig K => hcell 0 (.string y.key) orig K rfl
    simp only [Nat.add_zero] at hk0
    cases dk : decide (y.key = k) with
    | false =>
      rw [if_neg (by unfold findP; rw [dk]; simp)] at htk
      simp (maxSteps := 4000000) (disch := (first | assumption | exact List.not_mem_nil | exact Fr.refl _ _ | ((repeat (first | assumption | apply cur_alloc | apply cur_setB | apply cur_drew | apply cur_drewN)); done) | omega | (simp only [gz, Value.cells, oneC]; first | done | omega) | ((simp only [List.mem_cons, List.not_mem_nil, or_false, gz]); omega) | rfl)) only [↓gsd, gs, ev, Nat.reduceAdd, Nat.reduceEqDiff, oneC, Value.cells, Option.isNone, gt, frT_self, frT_drew, frT_drew0, frT_alloc, ↓hk25, e0, e1, e2, e7, e8, e10, e11, e12, g1, hv1, d, i0, i1, Int.toNat_natCast, hob1, hk0, hrow, wr, dk]
      refine hk _ _ hil (by simp (maxSteps := 4000000) (disch := (first | assumption | exact List.not_mem_nil | exact Fr.refl _ _ | ((repeat (first | assumption | apply cur_alloc | apply cur_setB | apply cur_drew | apply cur_drewN)); done) | omega | (simp only [gz, Value.cells, oneC]; first | done | omega) | ((simp only [List.mem_cons, List.not_mem_nil, or_false, gz]); omega) | rfl)) only [↓gsd, gs, ev, Nat.reduceAdd, Nat.reduceEqDiff, oneC, Value.cells, Option.isNone]) ⟨o, by rw [htk]; exact hob, ?_⟩
      simp (maxSteps := 4000000) (disch := (first | assumption | exact List.not_mem_nil | exact Fr.refl _ _ | ((repeat (first | assumption | apply cur_alloc | apply cur_setB | apply cur_drew | apply cur_drewN)); done) | omega | (simp only [gz, Value.cells, oneC]; first | done | omega) | ((simp only [List.mem_cons, List.not_mem_nil, or_false, gz]); omega) | rfl)) only [↓gsd, gs, ev, Nat.reduceAdd, Nat.reduceEqDiff, oneC, Value.cells, Option.isNone, e0, e1, e2, e7, e8, e10, e11]
      exact ⟨gp1, ga1, gb1, hf.drew⟩
    | true =>
      simp (maxSteps := 4000000) (disch := (first | assumption | exact List.not_mem_nil | exact Fr.refl _ _ | ((repeat (first | assumption | apply cur_alloc | apply cur_setB | apply cur_drew | apply cur_drewN)); done) | omega | (simp only [gz, Value.cells, oneC]; first | done | omega) | ((simp only [List.mem_cons, List.not_mem_nil, or_false, gz]); omega) | rfl)) only [↓gsd, gs, ev, Nat.reduceAdd, Nat.reduceEqDiff, oneC, Value.cells, Option.isNone, gt, frT_self, frT_drew, frT_drew0, frT_alloc, ↓hk25, e0, e1, e2, e7, e8, e10, e11, e12, g1, hv1, d, i0, i1, Int.toNat_natCast, hob1, hk0, hfr, wr, dk, gp1]
      refine rmeetsE_spec (e := y) fun w2 hf2 => ?_
      have cw2 := cur w2
      have hfd : Fr [] w1 w2 := (Fr.refl _ _).drew.trans' hf2
      have hF2 := hf.trans' hfd
      have gp2 := hfd.getN gp1
      have ga2 := hfd.getN ga1
      have gb2 := hfd.getN gb1
      have lb2 := lt_of_get _ _ gb2
      have g12 := hfd.getN g1
      have hob2 := hfd.getN hob1
      cases dm : meetsE y x plo phi with
      | false =>
        rw [if_neg (by unfold findP; rw [dk, dm]; simp)] at htk
        simp (maxSteps := 4000000) (disch := (first | assumption | exact List.not_mem_nil | exact Fr.refl _ _ | ((repeat (first | assumption | apply cur_alloc | apply cur_setB | apply cur_drew | apply cur_drewN)); done) | omega | (simp only [gz, Value.cells, oneC]; first | done | omega) | ((simp only [List.mem_cons, List.not_mem_nil, or_false, gz]); omega) | rfl)) only [↓gsd, gs, ev, Nat.reduceAdd, Nat.reduceEqDiff, oneC, Value.cells, Option.isNone, gt, frT_self, frT_drew, frT_drew0, frT_alloc, ↓hk25, e0, e1, e2, e7, e8, e10, e11, e12, wr, dm]
        refine hk _ _ hil (by simp (maxSteps := 4000000) (disch := (first | assumption | exact List.not_mem_nil | exact Fr.refl _ _ | ((repeat (first | assumption | apply cur_alloc | apply cur_setB | apply cur_drew | apply cur_drewN)); done) | omega | (simp only [gz, Value.cells, oneC]; first | done | omega) | ((simp only [List.mem_cons, List.not_mem_nil, or_false, gz]); omega) | rfl)) only [↓gsd, gs, ev, Nat.reduceAdd, Nat.reduceEqDiff, oneC, Value.cells, Option.isNone]) ⟨o, by rw [htk]; exact hob, ?_⟩
        simp (maxSteps := 4000000) (disch := (first | assumption | exact List.not_mem_nil | exact Fr.refl _ _ | ((repeat (first | assumption | apply cur_alloc | apply cur_setB | apply cur_drew | apply cur_drewN)); done) | omega | (simp only [gz, Value.cells, oneC]; first | done | omega) | ((simp only [List.mem_cons, List.not_mem_nil, or_false, gz]); omega) | rfl)) only [↓gsd, gs, ev, Nat.reduceAdd, Nat.reduceEqDiff, oneC, Value.cells, Option.isNone, e0, e1, e2, e7, e8, e10, e11]
        exact ⟨gp2, ga2, gb2, hF2⟩
      | true =>
        rw [if_pos (by unfold findP; rw [dk, dm]; rfl)] at htk
        unfold encEnt at hrow gb2
        simp (maxSteps := 4000000) (disch := (first | assumption | exact List.not_mem_nil | exact Fr.refl _ _ | ((repeat (first | assumption | apply cur_alloc | apply cur_setB | apply cur_drew | apply cur_drewN)); done) | omega | (simp only [gz, Value.cells, oneC]; first | done | omega) | ((simp only [List.mem_cons, List.not_mem_nil, or_false, gz]); omega) | rfl)) only [↓gsd, gs, ev, Nat.reduceAdd, Nat.reduceEqDiff, oneC, Value.cells, Option.isNone, gt, frT_self, frT_drew, frT_drew0, frT_alloc, ↓hk25, e0, e1, e2, e7, e8, e10, e11, e12, wr, dm, g12, hv1, i0, i1, Int.toNat_natCast, hob2, hrow, gb2]
        generalize hW : World.setB w2 _ _ = w3
        have hf3 : Fr [w.heap.size + 1 + 1] w2 w3 := by rw [← hW]; (repeat (first | exact Fr.refl _ _ | assumption | with_reducible apply Fr.alloc | with_reducible apply Fr.drew | with_reducible refine Fr.setB ?_ _ _ (.inr (by first | omega | (simp only [gz]; omega))) | with_reducible refine Fr.setB ?_ _ _ (.inl (by first | assumption | simp)) | with_reducible refine Fr.trans' ?_ (by assumption)))
        have gb3 : w3.heap[w.heap.size + 1 + 1]? = some (.cells (encEnt y).toArray 36 (0, 0)) := by rw [← hW]; exact get_setB_same _ _ _ lb2
        refine hk _ _ hil (by simp (maxSteps := 4000000) (disch := (first | assumption | exact List.not_mem_nil | exact Fr.refl _ _ | ((repeat (first | assumption | apply cur_alloc | apply cur_setB | apply cur_drew | apply cur_drewN)); done) | omega | (simp only [gz, Value.cells, oneC]; first | done | omega) | ((simp only [List.mem_cons, List.not_mem_nil, or_false, gz]); omega) | rfl)) only [↓gsd, gs, ev, Nat.reduceAdd, Nat.reduceEqDiff, oneC, Value.cells, Option.isNone]) ⟨some y, by rw [htk]; simp, ?_⟩
        simp (maxSteps := 4000000) (disch := (first | assumption | exact List.not_mem_nil | exact Fr.refl _ _ | ((repeat (first | assumption | apply cur_alloc | apply cur_setB | apply cur_drew | apply cur_drewN)); done) | omega | (simp only [gz, Value.cells, oneC]; first | done | omega) | ((simp only [List.mem_cons, List.not_mem_nil, or_false, gz]); omega) | rfl)) only [↓gsd, gs, ev, Nat.reduceAdd, Nat.reduceEqDiff, oneC, Value.cells, Option.isNone, e0, e1, e2, e7, e8, e10, e11]
        exact ⟨hf3.get gp2 (by simp only [List.mem_singleton]; omega), hf3.get ga2 (by simp only [List.mem_singleton]; omega), gb3, hF2.trans hf3 fun z hz => by simp at hz; subst hz; right; omega⟩
  · have d : decide ((i : Int) < (L.length : Int)) = false := decide_eq_false (by omega)
    have hti : L.take i = L := List.take_of_length_le (by omega)
    rw [hti] at hob
    have hg : findL L k x plo phi = o := hob
    rw [hg] at hK
    rw [hvf] at g1
    unfold encEnt at hK ga1 gb1
    simp (maxSteps := 4000000) (disch := (first | assumption | exact List.not_mem_nil | exact Fr.refl _ _ | ((repeat (first | assumption | apply cur_alloc | apply cur_setB | apply cur_drew | apply cur_drewN)); done) | omega | (simp only [gz, Value.cells, oneC]; first | done | omega) | ((simp only [List.mem_cons, List.not_mem_nil, or_false, gz]); omega) | rfl)) only [↓gsd, gs, ev, Nat.reduceAdd, Nat.reduceEqDiff, oneC, Value.cells, Option.isNone, gt, frT_self, frT_drew, frT_drew0, frT_alloc, ↓hk25, e0, e1, e2, e7, e8, e10, e11, e12, g1, d, ga1, gb1]
    exact hK _ (hf.setB _ _ (.inr (by omega)))
def sumE (L : Ents) : Int := L.foldl (fun n e => IntKind.i64.wrap (n + costE e)) 0
set_option maxHeartbeats 4000000 in
theorem rbytes_spec {w : World} {rb : Nat} {R : List Nat} {L : Ents} {K : Value → World → Prop} (h : RTab w rb R L) (hl : L.length ≤ 1000000000)
    (hK : ∀ w', Fr [] w w' → K (.int .i64 (sumE L)) w') : CallsN Try.prog 12 [.pointer (some ⟨rb, 0, none⟩)] w K := by
  have cw := cur w
  obtain ⟨⟨v, h1, h2, h3⟩, h4, h5⟩ := id h
  refine call12 ?_
  simp (maxSteps := 4000000) (disch := (first | assumption | exact List.not_mem_nil | exact Fr.refl _ _ | ((repeat (first | assumption | apply cur_alloc | apply cur_setB | apply cur_drew | apply cur_drewN)); done) | omega | (simp only [gz, Value.cells, oneC]; first | done | omega) | ((simp only [List.mem_cons, List.not_mem_nil, or_false, gz]); omega) | rfl)) only [↓gsd, gs, ev, Nat.reduceAdd, Nat.reduceEqDiff, oneC, Value.cells, Option.isNone, gt, frT_self, frT_drew, frT_drew0, frT_alloc, ↓hk12]
  refine for_intro L.length 4 0 (fun i e w' => e 0 = .pointer (some ⟨rb, 0, none⟩) ∧ e 3 = .int .i64 (sumE (L.take i)) ∧ Fr [] w w') ?_ (Nat.zero_le _) ?_ ?_
  · simp (maxSteps := 4000000) (disch := (first | assumption | exact List.not_mem_nil | exact Fr.refl _ _ | ((repeat (first | assumption | apply cur_alloc | apply cur_setB | apply cur_drew | apply cur_drewN)); done) | omega | (simp only [gz, Value.cells, oneC]; first | done | omega) | ((simp only [List.mem_cons, List.not_mem_nil, or_false, gz]); omega) | rfl)) only [↓gsd, gs, ev, Nat.reduceAdd, Nat.reduceEqDiff, oneC, Value.cells, Option.isNone]; rfl
  · simp (maxSteps := 4000000) (disch := (first | assumption | exact List.not_mem_nil | exact Fr.refl _ _ | ((repeat (first | assumption | apply cur_alloc | apply cur_setB | apply cur_drew | apply cur_drewN)); done) | omega | (simp only [gz, Value.cells, oneC]; first | done | omega) | ((simp only [List.mem_cons, List.not_mem_nil, or_false, gz]); omega) | rfl)) only [↓gsd, gs, ev, Nat.reduceAdd, Nat.reduceEqDiff, oneC, Value.cells, Option.isNone]
    exact ⟨rfl, Fr.refl _ _⟩
  rintro i e w1 kk hi e4 ⟨e0, e3, hf⟩ hk
  have cw1 := cur w1
  have g1 := hf.getN h1
  have g2 : SlOf 8 encEnt w1 v L := (h2.frN hf).sl
  obtain ⟨va, vc, hvf⟩ := g2.form
  by_cases hil : i < L.length
  · have d : decide ((i : Int) < (L.length : Int)) = true := decide_eq_true (by omega)
    obtain ⟨y, hy⟩ : ∃ y, L[i]? = some y := ⟨L[i], List.getElem?_eq_getElem hil⟩
    obtain ⟨bb, off, cap, ob, hv1, hob1, _, hrow, hcell⟩ := g2.read encEnt_len i y hy
    have hfr := fun orig K => factRead g2 hy hv1 hob1 orig K
    have i0 : (0 : Int) ≤ (i : Int) := by omega
    have i1 : (i : Int) < (L.length : Int) := by omega
    have wr : IntKind.i64.wrap ((i : Int) + 1) = (i : Int) + 1 := wrap64 (by omega) (by omega)
    have hs : sumE (L.take (i + 1)) = IntKind.i64.wrap (sumE (L.take i) + costE y) := by unfold sumE; rw [take_snoc hy, List.foldl_append]; rfl
    simp (maxSteps := 4000000) (disch := (first | assumption | exact List.not_mem_nil | exact Fr.refl _ _ | ((repeat (first | assumption | apply cur_alloc | apply cur_setB | apply cur_drew | apply cur_drewN)); done) | omega | (simp only [gz, Value.cells, oneC]; first | done | omega) | ((simp only [List.mem_cons, List.not_mem_nil, or_false, gz]); omega) | rfl)) only [↓gsd, gs, ev, Nat.reduceAdd, Nat.reduceEqDiff, oneC, Value.cells, Option.isNone, gt, frT_self, frT_drew, frT_drew0, frT_alloc, ↓hk12, e0, e3, e4, g1, hv1, d, i0, i1, Int.toNat_natCast, hob1, hfr]
    refine rcost_spec (e := y) fun w2 hf2 => ?_
    have cw2 := cur w2
    simp (maxSteps := 4000000) (disch := (first | assumption | exact List.not_mem_nil | exact Fr.refl _ _ | ((repeat (first | assumption | apply cur_alloc | apply cur_setB | apply cur_drew | apply cur_drewN)); done) | omega | (simp only [gz, Value.cells, oneC]; first | done | omega) | ((simp only [List.mem_cons, List.not_mem_nil, or_false, gz]); omega) | rfl)) only [↓gsd, gs, ev, Nat.reduceAdd, Nat.reduceEqDiff, oneC, Value.cells, Option.isNone, gt, frT_self, frT_drew, frT_drew0, frT_alloc, ↓hk12, e0, e3, e4, wr]
    refine hk _ _ hil (by simp (maxSteps := 4000000) (disch := (first | assumption | exact List.not_mem_nil | exact Fr.refl _ _ | ((repeat (first | assumption | apply cur_alloc | apply cur_setB | apply cur_drew | apply cur_drewN)); done) | omega | (simp only [gz, Value.cells, oneC]; first | done | omega) | ((simp only [List.mem_cons, List.not_mem_nil, or_false, gz]); omega) | rfl)) only [↓gsd, gs, ev, Nat.reduceAdd, Nat.reduceEqDiff, oneC, Value.cells, Option.isNone]) ?_
    simp (maxSteps := 4000000) (disch := (first | assumption | exact List.not_mem_nil | exact Fr.refl _ _ | ((repeat (first | assumption | apply cur_alloc | apply cur_setB | apply cur_drew | apply cur_drewN)); done) | omega | (simp only [gz, Value.cells, oneC]; first | done | omega) | ((simp only [List.mem_cons, List.not_mem_nil, or_false, gz]); omega) | rfl)) only [↓gsd, gs, ev, Nat.reduceAdd, Nat.reduceEqDiff, oneC, Value.cells, Option.isNone, e0, hs]
    exact hf.trans' hf2
  · have d : decide ((i : Int) < (L.length : Int)) = false := decide_eq_false (by omega)
    rw [List.take_of_length_le (by omega)] at e3
    rw [hvf] at g1
    simp (maxSteps := 4000000) (disch := (first | assumption | exact List.not_mem_nil | exact Fr.refl _ _ | ((repeat (first | assumption | apply cur_alloc | apply cur_setB | apply cur_drew | apply cur_drewN)); done) | omega | (simp only [gz, Value.cells, oneC]; first | done | omega) | ((simp only [List.mem_cons, List.not_mem_nil, or_false, gz]); omega) | rfl)) only [↓gsd, gs, ev, Nat.reduceAdd, Nat.reduceEqDiff, oneC, Value.cells, Option.isNone, gt, frT_self, frT_drew, frT_drew0, frT_alloc, ↓hk12, e0, e3, e4, g1, d]
    exact hK _ hf
set_option maxHeartbeats 4000000 in
theorem same10_true {w : World} {va vb : Value} {L : Ents} {K : Value → World → Prop} (ha : SlOf 8 encEnt w va L) (hb : SlOf 8 encEnt w vb L) (hl : L.length ≤ 2000000000000)
    (hK : ∀ w', Fr [] w w' → K (.bool true) w') : CallsN Try.prog 13 [va, vb] w K := by
  have cw := cur w
  obtain ⟨aa, ac, hva⟩ := ha.form
  obtain ⟨ba, bc, hvb⟩ := hb.form
  have d0 : decide ((L.length : Int) = (L.length : Int)) = true := decide_eq_true rfl
  refine call13 ?_
  simp (maxSteps := 4000000) (disch := (first | assumption | exact List.not_mem_nil | exact Fr.refl _ _ | ((repeat (first | assumption | apply cur_alloc | apply cur_setB | apply cur_drew | apply cur_drewN)); done) | omega | (simp only [gz, Value.cells, oneC]; first | done | omega) | ((simp only [List.mem_cons, List.not_mem_nil, or_false, gz]); omega) | rfl)) only [↓gsd, gs, ev, Nat.reduceAdd, Nat.reduceEqDiff, oneC, Value.cells, Option.isNone, gt, frT_self, frT_drew, frT_drew0, frT_alloc, ↓hk13, hva, hvb, d0]
  rw [← hva, ← hvb]
  refine for_intro L.length 5 0 (fun i e w' => e 0 = va ∧ e 1 = vb ∧ Fr [] w w') ?_ (Nat.zero_le _) ?_ ?_
  · simp (maxSteps := 4000000) (disch := (first | assumption | exact List.not_mem_nil | exact Fr.refl _ _ | ((repeat (first | assumption | apply cur_alloc | apply cur_setB | apply cur_drew | apply cur_drewN)); done) | omega | (simp only [gz, Value.cells, oneC]; first | done | omega) | ((simp only [List.mem_cons, List.not_mem_nil, or_false, gz]); omega) | rfl)) only [↓gsd, gs, ev, Nat.reduceAdd, Nat.reduceEqDiff, oneC, Value.cells, Option.isNone]; rfl
  · simp (maxSteps := 4000000) (disch := (first | assumption | exact List.not_mem_nil | exact Fr.refl _ _ | ((repeat (first | assumption | apply cur_alloc | apply cur_setB | apply cur_drew | apply cur_drewN)); done) | omega | (simp only [gz, Value.cells, oneC]; first | done | omega) | ((simp only [List.mem_cons, List.not_mem_nil, or_false, gz]); omega) | rfl)) only [↓gsd, gs, ev, Nat.reduceAdd, Nat.reduceEqDiff, oneC, Value.cells, Option.isNone]
    exact Fr.refl _ _
  rintro i e w1 kk hi e5 ⟨e0, e1, hf⟩ hk
  have cw1 := cur w1
  have ga := ha.frN hf
  have gb := hb.frN hf
  by_cases hil : i < L.length
  · have d : decide ((i : Int) < (L.length : Int)) = true := decide_eq_true (by omega)
    obtain ⟨y, hy⟩ : ∃ y, L[i]? = some y := ⟨L[i], List.getElem?_eq_getElem hil⟩
    obtain ⟨b1, o1, p1, ob1, hv1, hob1, _, hrow1, _⟩ := ga.read encEnt_len i y hy
    obtain ⟨b2, o2, p2, ob2, hv2, hob2, _, hrow2, _⟩ := gb.read encEnt_len i y hy
    have i0 : (0 : Int) ≤ (i : Int) := by omega
    have i1 : (i : Int) < (L.length : Int) := by omega
    have wr : IntKind.i64.wrap ((i : Int) + 1) = (i : Int) + 1 := wrap64 (by omega) (by omega)
    have k1 : decide (y.key = y.key) = true := decide_eq_true rfl
    have k2 : decide (y.has = y.has) = true := decide_eq_true rfl
    have k3 : decide (y.data = y.data) = true := decide_eq_true rfl
    have k4 : decide (y.lo = y.lo) = true := decide_eq_true rfl
    have k5 : decide (y.hi = y.hi) = true := decide_eq_true rfl
    have k6 : decide (y.hot = y.hot) = true := decide_eq_true rfl
    have k7 : decide (y.stamp = y.stamp) = true := decide_eq_true rfl
    have k8 : decide (y.ins = y.ins) = true := decide_eq_true rfl
    unfold encEnt at hrow1 hrow2
    simp (maxSteps := 4000000) (disch := (first | assumption | exact List.not_mem_nil | exact Fr.refl _ _ | ((repeat (first | assumption | apply cur_alloc | apply cur_setB | apply cur_drew | apply cur_drewN)); done) | omega | (simp only [gz, Value.cells, oneC]; first | done | omega) | ((simp only [List.mem_cons, List.not_mem_nil, or_false, gz]); omega) | rfl)) only [↓gsd, gs, ev, Nat.reduceAdd, Nat.reduceEqDiff, oneC, Value.cells, Option.isNone, gt, frT_self, frT_drew, frT_drew0, frT_alloc, ↓hk13, e0, e1, e5, hv1, hv2, d, i0, i1, Int.toNat_natCast, hob1, hob2, hrow1, hrow2, k1, k2, k3, k4, k5, k6, k7, k8, wr]
    refine hk _ _ hil (by simp (maxSteps := 4000000) (disch := (first | assumption | exact List.not_mem_nil | exact Fr.refl _ _ | ((repeat (first | assumption | apply cur_alloc | apply cur_setB | apply cur_drew | apply cur_drewN)); done) | omega | (simp only [gz, Value.cells, oneC]; first | done | omega) | ((simp only [List.mem_cons, List.not_mem_nil, or_false, gz]); omega) | rfl)) only [↓gsd, gs, ev, Nat.reduceAdd, Nat.reduceEqDiff, oneC, Value.cells, Option.isNone]) ?_
    simp (maxSteps := 4000000) (disch := (first | assumption | exact List.not_mem_nil | exact Fr.refl _ _ | ((repeat (first | assumption | apply cur_alloc | apply cur_setB | apply cur_drew | apply cur_drewN)); done) | omega | (simp only [gz, Value.cells, oneC]; first | done | omega) | ((simp only [List.mem_cons, List.not_mem_nil, or_false, gz]); omega) | rfl)) only [↓gsd, gs, ev, Nat.reduceAdd, Nat.reduceEqDiff, oneC, Value.cells, Option.isNone, e0, e1, hv1, hv2]
    exact hf.drew
  · have d : decide ((i : Int) < (L.length : Int)) = false := decide_eq_false (by omega)
    simp (maxSteps := 4000000) (disch := (first | assumption | exact List.not_mem_nil | exact Fr.refl _ _ | ((repeat (first | assumption | apply cur_alloc | apply cur_setB | apply cur_drew | apply cur_drewN)); done) | omega | (simp only [gz, Value.cells, oneC]; first | done | omega) | ((simp only [List.mem_cons, List.not_mem_nil, or_false, gz]); omega) | rfl)) only [↓gsd, gs, ev, Nat.reduceAdd, Nat.reduceEqDiff, oneC, Value.cells, Option.isNone, gt, frT_self, frT_drew, frT_drew0, frT_alloc, ↓hk13, e0, e1, e5, hva, d]
    exact hK _ hf
end Go.Proofs.Ytldmkhakjnglmaa
