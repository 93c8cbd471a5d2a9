/- Table: Find, All. -/
import Derived.Test.YtldmkhakjnglmaaAB
import Derived.Test.YtldmkhakjnglmaaKS
set_option linter.unusedVariables false
set_option linter.unusedSimpArgs false
set_option maxRecDepth 10000
namespace Go.Proofs.Ytldmkhakjnglmaa
open Go.VW
def findE (l : Ents) (x lo hi : Int) : Option Ent := (l.filter fun e => meetsE e x lo hi).getLast?
theorem findE_at {l : Ents} {x lo hi : Int} {j : Nat} {e : Ent} (he : l[j]? = some e) (hm : meetsE e x lo hi = true) (hn : ∀ t e', j < t → l[t]? = some e' → meetsE e' x lo hi = false) : findE l x lo hi = some e := by
  obtain ⟨g1, g2⟩ := List.getElem?_eq_some_iff.1 he
  have hl : l = l.take j ++ e :: l.drop (j + 1) := by
    conv => lhs; rw [← List.take_append_drop j l, List.drop_eq_getElem_cons g1, g2]
  have h0 : (l.drop (j + 1)).filter (fun e => meetsE e x lo hi) = [] := by
    rw [List.filter_eq_nil_iff]
    intro a ha
    obtain ⟨t, ht⟩ := List.getElem?_of_mem ha
    rw [List.getElem?_drop] at ht
    rw [hn (j + 1 + t) a (by omega) ht]
    simp
  unfold findE
  rw [hl, List.filter_append, List.filter_cons, if_pos hm, h0]
  simp
theorem findE_none {l : Ents} {x lo hi : Int} (hn : ∀ (t : Nat) (e' : Ent), l[t]? = some e' → meetsE e' x lo hi = false) : findE l x lo hi = none := by
  unfold findE
  have : l.filter (fun e => meetsE e x lo hi) = [] := by
    rw [List.filter_eq_nil_iff]
    intro a ha
    obtain ⟨t, ht⟩ := List.getElem?_of_mem ha
    rw [hn t a ht]
    simp
  rw [this]; rfl
set_option maxHeartbeats 8000000 in
theorem Find_spec {w : World} {tb : Nat} {S : List Nat} {T : Tab} {N : Nat} {k : ByteArray} {x plo phi : Int} {K : Value → World → Prop} (h : TabAt w tb S T) (hwf : T.WF N) (hN : N ≤ 1000000000000)
    (hK : ∀ w', Fr [] w w' → K (.tuple ([.agg (encEnt ((findE (T.row k) x plo phi).getD entZ)).toArray, .bool (findE (T.row k) x plo phi).isSome] : List Value).toArray) w') :
    CallsN Try.prog 16 [.pointer (some ⟨tb, 0, none⟩), .string k, .int .i64 x, .agg ([.int .i64 plo, .int .i64 phi] : List Value).toArray] w K := by
  have cw := cur w
  refine call16 ?_
  simp (maxSteps := 4000000) (disch := (first | assumption | exact List.not_mem_nil | exact Fr.refl _ _ | ((repeat (first | assumption | apply cur_alloc | apply cur_setB | apply cur_drew | apply cur_drewN)); done) | omega | (simp only [gz, Value.cells, oneC]; first | done | omega) | ((simp only [List.mem_cons, List.not_mem_nil, or_false, gz]); omega) | rfl)) only [↓gsd, gs, ev, Nat.reduceAdd, Nat.reduceEqDiff, oneC, Value.cells, Option.isNone, gt, frT_self, frT_drew, frT_drew0, frT_alloc, ↓hk16]
  generalize hW : World.alloc _ _ = w1
  have hf1 : Fr [] w w1 := by rw [← hW]; (repeat (first | exact Fr.refl _ _ | assumption | with_reducible apply Fr.alloc | with_reducible apply Fr.drew | with_reducible refine Fr.setB ?_ _ _ (.inr (by first | omega | (simp only [gz]; omega))) | with_reducible refine Fr.setB ?_ _ _ (.inl (by first | assumption | simp)) | with_reducible refine Fr.trans' ?_ (by assumption)))
  have hz1 : w1.heap.size = w.heap.size + 2 := by rw [← hW]; simp only [gz]
  have gp1 : w1.heap[w.heap.size]? = some (.cells ([.int .i64 plo, .int .i64 phi] : List Value).toArray 38 (0, 0)) := by rw [← hW]; simp (maxSteps := 4000000) (disch := (first | assumption | exact List.not_mem_nil | exact Fr.refl _ _ | ((repeat (first | assumption | apply cur_alloc | apply cur_setB | apply cur_drew | apply cur_drewN)); done) | omega | (simp only [gz, Value.cells, oneC]; first | done | omega) | ((simp only [List.mem_cons, List.not_mem_nil, or_false, gz]); omega) | rfl)) only [↓gsd, gs, ev, Nat.reduceAdd, Nat.reduceEqDiff, oneC, Value.cells, Option.isNone]
  have ge1 : w1.heap[w.heap.size + 1]? = some (.cells (encEnt entZ).toArray 36 (0, 0)) := by rw [← hW]; simp (maxSteps := 4000000) (disch := (first | assumption | exact List.not_mem_nil | exact Fr.refl _ _ | ((repeat (first | assumption | apply cur_alloc | apply cur_setB | apply cur_drew | apply cur_drewN)); done) | omega | (simp only [gz, Value.cells, oneC]; first | done | omega) | ((simp only [List.mem_cons, List.not_mem_nil, or_false, gz]); omega) | rfl)) only [↓gsd, gs, ev, Nat.reduceAdd, Nat.reduceEqDiff, oneC, Value.cells, Option.isNone, encEnt]
  clear hW
  have cw1 := cur w1
  refine row_spec (h.frN hf1) fun v hv _ => ?_
  have hsl : SlOf 8 encEnt w1 v (T.row k) := hv.sl
  have hll := hwf.len k
  generalize T.row k = l at hsl hll hK hv ⊢
  obtain ⟨va, vc, hvf⟩ := hsl.form
  have wr0 : IntKind.i64.wrap ((l.length : Int) - 1) = (l.length : Int) - 1 := wrap64 (by omega) (by omega)
  simp (maxSteps := 4000000) (disch := (first | assumption | exact List.not_mem_nil | exact Fr.refl _ _ | ((repeat (first | assumption | apply cur_alloc | apply cur_setB | apply cur_drew | apply cur_drewN)); done) | omega | (simp only [gz, Value.cells, oneC]; first | done | omega) | ((simp only [List.mem_cons, List.not_mem_nil, or_false, gz]); omega) | rfl)) only [↓gsd, gs, ev, Nat.reduceAdd, Nat.reduceEqDiff, oneC, Value.cells, Option.isNone, gt, frT_self, frT_drew, frT_drew0, frT_alloc, ↓hk16, hvf, wr0]
  rw [← hvf]
  refine loop_intro (fun e w' => ∃ j : Nat, j ≤ l.length ∧ e 2 = .int .i64 x ∧ e 7 = .pointer (some ⟨w.heap.size, 0, none⟩) ∧ e 8 = .pointer (some ⟨w.heap.size + 1, 0, none⟩) ∧ e 9 = .bool false ∧ e 10 = v ∧ e 11 = .int .i64 ((j : Int) - 1) ∧ (∀ t e', j ≤ t → l[t]? = some e' → meetsE e' x plo phi = false) ∧ Fr [] w1 w')
    (fun e _ => (numOf (e 11) + 1).toNat) ?_ ?_
  · refine ⟨l.length, Nat.le_refl _, ?_⟩
    simp (maxSteps := 4000000) (disch := (first | assumption | exact List.not_mem_nil | exact Fr.refl _ _ | ((repeat (first | assumption | apply cur_alloc | apply cur_setB | apply cur_drew | apply cur_drewN)); done) | omega | (simp only [gz, Value.cells, oneC]; first | done | omega) | ((simp only [List.mem_cons, List.not_mem_nil, or_false, gz]); omega) | rfl)) only [↓gsd, gs, ev, Nat.reduceAdd, Nat.reduceEqDiff, oneC, Value.cells, Option.isNone, hvf]
    exact ⟨fun t e' ht he => by have := (List.getElem?_eq_some_iff.1 he).1; omega, Fr.refl _ _⟩
  rintro e w2 kk ⟨j, hj, e2, e7, e8, e9, e10, e11, hn, hf2⟩ hk
  have cw2 := cur w2
  have hz2 := hf2.size
  have gp2 := hf2.getN gp1
  have ge2 := hf2.getN ge1
  have hlp2 := lt_of_get _ _ gp2
  have hle2 := lt_of_get _ _ ge2
  cases j with
  | zero =>
    have d : decide ((0 : Int) ≤ ((0 : Nat) : Int) - 1) = false := rfl
    have hf0 := findE_none (x := x) (lo := plo) (hi := phi) (fun t e' he => hn t e' (Nat.zero_le _) he)
    rw [hf0] at hK
    unfold encEnt at ge2 hK
    simp (maxSteps := 4000000) (disch := (first | assumption | exact List.not_mem_nil | exact Fr.refl _ _ | ((repeat (first | assumption | apply cur_alloc | apply cur_setB | apply cur_drew | apply cur_drewN)); done) | omega | (simp only [gz, Value.cells, oneC]; first | done | omega) | ((simp only [List.mem_cons, List.not_mem_nil, or_false, gz]); omega) | rfl)) only [↓gsd, gs, ev, Nat.reduceAdd, Nat.reduceEqDiff, oneC, Value.cells, Option.isNone, gt, frT_self, frT_drew, frT_drew0, frT_alloc, ↓hk16, e2, e7, e8, e9, e10, e11, d, ge2]
    exact hK _ ((hf1.trans' hf2).setB _ _ (.inr (by omega)))
  | succ j =>
    have ej : (((j + 1 : Nat) : Int) - 1) = (j : Int) := by omega
    rw [ej] at e11
    have d : decide ((0 : Int) ≤ (j : Int)) = true := decide_eq_true (by omega)
    obtain ⟨y, hy⟩ : ∃ y, l[j]? = some y := ⟨l[j]'(by omega), List.getElem?_eq_getElem (by omega)⟩
    have hsl2 := SlOf.frN hsl hf2
    obtain ⟨bb, off, cap, ob, hv1, hob, hobl, hrow, _⟩ := hsl2.read encEnt_len j y hy
    have hfr := fun orig K => factRead hsl2 hy hv1 hob orig K
    have j0 : (0 : Int) ≤ (j : Int) := by omega
    have j1 : (j : Int) < (l.length : Int) := by omega
    simp (maxSteps := 4000000) (disch := (first | assumption | exact List.not_mem_nil | exact Fr.refl _ _ | ((repeat (first | assumption | apply cur_alloc | apply cur_setB | apply cur_drew | apply cur_drewN)); done) | omega | (simp only [gz, Value.cells, oneC]; first | done | omega) | ((simp only [List.mem_cons, List.not_mem_nil, or_false, gz]); omega) | rfl)) only [↓gsd, gs, ev, Nat.reduceAdd, Nat.reduceEqDiff, oneC, Value.cells, Option.isNone, gt, frT_self, frT_drew, frT_drew0, frT_alloc, ↓hk16, e2, e7, e8, e9, e10, e11, hv1, d, j0, j1, Int.toNat_natCast, hob, hfr, gp2]
    refine meets_spec (e := y) fun w3 hf3 => ?_
    have cw3 := cur w3
    have hfd : Fr [] w2 w3 := (Fr.refl _ _).drew.trans' hf3
    have hz3 := hfd.size
    have ge3 := hfd.getN ge2
    have hle3 := lt_of_get _ _ ge3
    have hsl3 := SlOf.frN hsl2 hfd
    have hob3 := hfd.getN hob
    have hobl3 := lt_of_get _ _ hob3
    cases hm : meetsE y x plo phi with
    | true =>
      have hf0 := findE_at hy hm (fun t e' ht he => hn t e' (by omega) he)
      rw [hf0] at hK
      unfold encEnt at ge3 hK hrow
      simp (maxSteps := 4000000) (disch := (first | assumption | exact List.not_mem_nil | exact Fr.refl _ _ | ((repeat (first | assumption | apply cur_alloc | apply cur_setB | apply cur_drew | apply cur_drewN)); done) | omega | (simp only [gz, Value.cells, oneC]; first | done | omega) | ((simp only [List.mem_cons, List.not_mem_nil, or_false, gz]); omega) | rfl)) only [↓gsd, gs, ev, Nat.reduceAdd, Nat.reduceEqDiff, oneC, Value.cells, Option.isNone, gt, frT_self, frT_drew, frT_drew0, frT_alloc, ↓hk16, e2, e7, e8, e9, e10, e11, hv1, hm, j0, j1, Int.toNat_natCast, hob3, hrow, ge3]
      exact hK _ (((hf1.trans' hf2).trans' hfd).setB _ _ (.inr (by omega)))
    | false =>
      have wr : IntKind.i64.wrap ((j : Int) - 1) = (j : Int) - 1 := wrap64 (by omega) (by omega)
      simp (maxSteps := 4000000) (disch := (first | assumption | exact List.not_mem_nil | exact Fr.refl _ _ | ((repeat (first | assumption | apply cur_alloc | apply cur_setB | apply cur_drew | apply cur_drewN)); done) | omega | (simp only [gz, Value.cells, oneC]; first | done | omega) | ((simp only [List.mem_cons, List.not_mem_nil, or_false, gz]); omega) | rfl)) only [↓gsd, gs, ev, Nat.reduceAdd, Nat.reduceEqDiff, oneC, Value.cells, Option.isNone, gt, frT_self, frT_drew, frT_drew0, frT_alloc, ↓hk16, e2, e7, e8, e9, e10, e11, hm, wr]
      refine hk _ _ ⟨j, by omega, ?_⟩ ?_
      · simp (maxSteps := 4000000) (disch := (first | assumption | exact List.not_mem_nil | exact Fr.refl _ _ | ((repeat (first | assumption | apply cur_alloc | apply cur_setB | apply cur_drew | apply cur_drewN)); done) | omega | (simp only [gz, Value.cells, oneC]; first | done | omega) | ((simp only [List.mem_cons, List.not_mem_nil, or_false, gz]); omega) | rfl)) only [↓gsd, gs, ev, Nat.reduceAdd, Nat.reduceEqDiff, oneC, Value.cells, Option.isNone, e2, e7, e8, e9, e10, e11, hv1]
        refine ⟨fun t e' ht he => ?_, hf2.trans' hfd⟩
        by_cases hq : t = j
        · subst hq; rw [hy] at he; cases he; exact hm
        · exact hn t e' (by omega) he
      · simp (maxSteps := 4000000) (disch := (first | assumption | exact List.not_mem_nil | exact Fr.refl _ _ | ((repeat (first | assumption | apply cur_alloc | apply cur_setB | apply cur_drew | apply cur_drewN)); done) | omega | (simp only [gz, Value.cells, oneC]; first | done | omega) | ((simp only [List.mem_cons, List.not_mem_nil, or_false, gz]); omega) | rfl)) only [↓gsd, gs, ev, Nat.reduceAdd, Nat.reduceEqDiff, oneC, Value.cells, Option.isNone, e11, numOf]; omega
end Go.Proofs.Ytldmkhakjnglmaa
