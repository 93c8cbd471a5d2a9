/- Table and reference, step by step. -/
import Derived.Test.YtldmkhakjnglmaaAF
import Derived.Test.YtldmkhakjnglmaaZ6
import Derived.Test.YtldmkhakjnglmaaK5
set_option linter.unusedVariables false
set_option linter.unusedSimpArgs false
set_option maxRecDepth 10000
namespace Go.Proofs.Ytldmkhakjnglmaa
open Go.VW
structure Both10 (w0 w : World) (tb rb : Nat) (S R : List Nat) (T : Tab) (L : Ents) (i : Nat) : Prop where
  tab : TabAt w tb S T
  ref : RTab w rb R L
  rel : TRel T L
  inv : TabI T i
  len : L.length ≤ i
  s0 : ∀ x ∈ S, w0.heap.size ≤ x
  r0 : ∀ x ∈ R, w0.heap.size ≤ x
  apart : ∀ x ∈ S, x ∉ R
  fr : Fr [] w0 w
theorem Both10.frN {w0 w w' : World} {tb rb : Nat} {S R : List Nat} {T : Tab} {L : Ents} {i : Nat} (h : Both10 w0 w tb rb S R T L i) (hf : Fr [] w w') : Both10 w0 w' tb rb S R T L i := ⟨h.tab.frN hf, h.ref.frN hf, h.rel, h.inv, h.len, h.s0, h.r0, h.apart, h.fr.trans' hf⟩
theorem Both10.mono {w0 w : World} {tb rb : Nat} {S R : List Nat} {T : Tab} {L : Ents} {i j : Nat} (h : Both10 w0 w tb rb S R T L i) (hij : i ≤ j) : Both10 w0 w tb rb S R T L j := ⟨h.tab, h.ref, h.rel, ⟨h.inv.wf.mono hij, h.inv.ent, h.inv.key, by have := h.inv.len; omega⟩, by have := h.len; omega, h.s0, h.r0, h.apart, h.fr⟩
theorem _root_.Go.VW.Fr.left {S R : List Nat} {a b : World} (h : Fr S a b) : Fr (S ++ R) a b := h.mono fun x hx => List.mem_append_left _ hx
def opB (o : Op10) : Array Value := (encOp10 o).toArray
set_option maxHeartbeats 32000000 in
theorem step10_spec {w0 w : World} {tb rb : Nat} {S R : List Nat} {T : Tab} {L : Ents} {i : Nat} {o : Op10} {K : Value → World → Prop} (h : Both10 w0 w tb rb S R T L i) (hi : i ≤ 2097152)
    (hK : ∀ w' S' R' T' L', Both10 w0 w' tb rb S' R' T' L' (i + 1) → (∀ x ∈ S', x ∈ S ∨ w.heap.size ≤ x) → (∀ x ∈ R', x ∈ R ∨ w.heap.size ≤ x) → Fr (S ++ R) w w' → K (.bool true) w') :
    CallsN Try.prog 9 [.pointer (some ⟨tb, 0, none⟩), .pointer (some ⟨rb, 0, none⟩), .agg (encOp10 o).toArray] w K := by
  have cw := cur w
  obtain ⟨kd, x, a, plo, phi⟩ := o
  refine call9 ?_
  unfold encOp10
  simp (maxSteps := 4000000) (disch := (first | assumption | exact List.not_mem_nil | exact Fr.refl _ _ | ((repeat (first | assumption | apply cur_alloc | apply cur_setB | apply cur_drew | apply cur_drewN)); done) | omega | (simp only [gz, Value.cells, oneC]; first | done | omega) | ((simp only [List.mem_cons, List.not_mem_nil, or_false, gz]); omega) | rfl)) only [↓gsd, gs, ev, Nat.reduceAdd, Nat.reduceEqDiff, oneC, Value.cells, Option.isNone, gt, ↓o9_0_eq, ↓o9_1_eq, ↓o9_15_eq, ↓c9_3_s, ↓o9_2_eq, ↓o9_3_eq, ↓o9_4_eq, ↓c9_8_s, ↓o9_5_eq, ↓o9_6_eq, ↓c9_11_s, ↓o9_7_eq, ↓o9_8_eq, ↓o9_9_eq, ↓o9_10_eq, ↓c9_16_s, ↓c9_15_s, ↓c9_14_s, ↓o9_11_eq, ↓o9_12_eq, ↓o9_13_eq, ↓o9_14_eq, ↓c9_21_s, ↓c9_20_s, ↓c9_19_s, ↓c9_18_s, ↓c9_17_s, ↓c9_13_s, ↓c9_12_s, ↓c9_10_s, ↓c9_9_s, ↓c9_7_s, ↓c9_6_s, ↓c9_5_s, ↓c9_4_s, ↓c9_1_s, ↓c9_s]
  generalize hW : World.alloc _ _ = w1
  have hf1 : Fr [] w w1 := by rw [← hW]; (repeat (first | exact Fr.refl _ _ | assumption | with_reducible apply Fr.alloc | with_reducible apply Fr.drew | with_reducible refine Fr.setB ?_ _ _ (.inr (by first | omega | (simp only [gz]; omega))) | with_reducible refine Fr.setB ?_ _ _ (.inl (by first | assumption | simp)) | with_reducible refine Fr.trans' ?_ (by assumption)))
  have hz1 : w1.heap.size = w.heap.size + 2 := by rw [← hW]; simp only [gz]
  have g5 : w1.heap[w.heap.size]? = some (.cells ([.int .u8 kd, .string x.key, .bool x.has, .string x.data, .int .i64 x.lo, .int .i64 x.hi, .bool x.hot, .int .i64 x.stamp, .int .i64 x.ins, .int .i64 a, .int .i64 plo, .int .i64 phi] : List Value).toArray 40 (0, 0)) := by rw [← hW]; simp (maxSteps := 4000000) (disch := (first | assumption | exact List.not_mem_nil | exact Fr.refl _ _ | ((repeat (first | assumption | apply cur_alloc | apply cur_setB | apply cur_drew | apply cur_drewN)); done) | omega | (simp only [gz, Value.cells, oneC]; first | done | omega) | ((simp only [List.mem_cons, List.not_mem_nil, or_false, gz]); omega) | rfl)) only [↓gsd, gs, ev, Nat.reduceAdd, Nat.reduceEqDiff, oneC, Value.cells, Option.isNone]
  have g7 : w1.heap[w.heap.size + 1]? = some (.cells ([.string x.key, .bool x.has, .string x.data, .int .i64 x.lo, .int .i64 x.hi] : List Value).toArray 34 (0, 0)) := by rw [← hW]; simp (maxSteps := 4000000) (disch := (first | assumption | exact List.not_mem_nil | exact Fr.refl _ _ | ((repeat (first | assumption | apply cur_alloc | apply cur_setB | apply cur_drew | apply cur_drewN)); done) | omega | (simp only [gz, Value.cells, oneC]; first | done | omega) | ((simp only [List.mem_cons, List.not_mem_nil, or_false, gz]); omega) | rfl)) only [↓gsd, gs, ev, Nat.reduceAdd, Nat.reduceEqDiff, oneC, Value.cells, Option.isNone]
  clear hW
  have cw1 := cur w1
  have h1 := h.frN hf1
  have l5 := lt_of_get _ _ g5
  have l7 := lt_of_get _ _ g7
  have hSw : ∀ y ∈ S, y < w.heap.size := fun y hy => h.tab.lt y hy
  have hRw : ∀ y ∈ R, y < w.heap.size := fun y hy => h.ref.lt y hy
  have n5 : w.heap.size ∉ S ++ R := fun q => by rcases List.mem_append.1 q with q | q; exact Nat.lt_irrefl _ (hSw _ q); exact Nat.lt_irrefl _ (hRw _ q)
  have n7 : w.heap.size + 1 ∉ S ++ R := fun q => by rcases List.mem_append.1 q with q | q; have := hSw _ q; omega; have := hRw _ q; omega
  have hfS1 : Fr (S ++ R) w w1 := Fr.trans (M' := []) (Fr.refl _ w) hf1 (by simp)
  have n5k : (5 : Int) ≠ 0 := by decide
  obtain ⟨q, hq⟩ : ∃ q, q = kd.tmod 5 := ⟨_, rfl⟩
  simp (maxSteps := 4000000) (disch := (first | assumption | exact List.not_mem_nil | exact Fr.refl _ _ | ((repeat (first | assumption | apply cur_alloc | apply cur_setB | apply cur_drew | apply cur_drewN)); done) | omega | (simp only [gz, Value.cells, oneC]; first | done | omega) | ((simp only [List.mem_cons, List.not_mem_nil, or_false, gz]); omega) | rfl)) only [↓gsd, gs, ev, Nat.reduceAdd, Nat.reduceEqDiff, oneC, Value.cells, Option.isNone, gt, ↓o9_0_eq, ↓o9_1_eq, ↓o9_15_eq, ↓c9_3_s, ↓o9_2_eq, ↓o9_3_eq, ↓o9_4_eq, ↓c9_8_s, ↓o9_5_eq, ↓o9_6_eq, ↓c9_11_s, ↓o9_7_eq, ↓o9_8_eq, ↓o9_9_eq, ↓o9_10_eq, ↓c9_16_s, ↓c9_15_s, ↓c9_14_s, ↓o9_11_eq, ↓o9_12_eq, ↓o9_13_eq, ↓o9_14_eq, ↓c9_21_s, ↓c9_20_s, ↓c9_19_s, ↓c9_18_s, ↓c9_17_s, ↓c9_13_s, ↓c9_12_s, ↓c9_10_s, ↓c9_9_s, ↓c9_7_s, ↓c9_5_s, ↓c9_4_s, ↓c9_2_s, ↓c9_1_s, ↓c9_s, g5, run_rem _ _ _ _ _ _ _ n5k, ← hq]
  have hput : ∀ (w2 : World) (S2 : List Nat) (T2 : Tab) (w3 : World) (R3 : List Nat) (L3 : Ents), TabAt w2 tb S2 T2 → (∀ y ∈ S2, y ∈ S ∨ w1.heap.size ≤ y) → Fr S w1 w2 → RTab w3 rb R3 L3 → (∀ y ∈ R3, y ∈ R ∨ w2.heap.size ≤ y) → Fr R w2 w3 → TRel T2 L3 → TabI T2 (i + 1) → L3.length ≤ i + 1 → K (.bool true) w3 := fun w2 S2 T2 w3 R3 L3 a1 a2 a3 b1 b2 b3 c1 c2 c3 => by
    have z2 := a3.size
    have z3 := b3.size
    have hsn : ∀ y ∈ S2, y ∉ R := fun y hy hyr => by
      rcases a2 y hy with q | q
      · exact h.apart y q hyr
      · have := hRw y hyr; omega
    have hF : Fr (S ++ R) w w3 := (hfS1.transM a3.left).transM (b3.mono fun z hz => List.mem_append_right _ hz)
    refine hK w3 S2 R3 T2 L3 ⟨a1.fr b3 fun y hy hys => hsn y hys hy, b1, c1, c2, c3, fun y hy => ?_, fun y hy => ?_, fun y hy hyr => ?_, ?_⟩ (fun y hy => ?_) (fun y hy => ?_) hF
    · rcases a2 y hy with q | q
      · exact h.s0 y q
      · have := h.fr.size; omega
    · rcases b2 y hy with q | q
      · exact h.r0 y q
      · have := h.fr.size; omega
    · rcases b2 y hyr with q | q
      · exact hsn y hy q
      · have := a1.lt y hy; omega
    · exact h.fr.trans hF fun y hy => by
        rcases List.mem_append.1 hy with q | q
        · exact .inr (h.s0 y q)
        · exact .inr (h.r0 y q)
    · rcases a2 y hy with q | q
      · exact .inl q
      · right; omega
    · rcases b2 y hy with q | q
      · exact .inl q
      · right; omega
  have hread : ∀ w3 : World, Fr [] w1 w3 → K (.bool true) w3 := fun w3 hf => hK w3 S R T L ((h1.frN hf).mono (by omega)) (fun y hy => .inl hy) (fun y hy => .inl hy) (hfS1.trans' hf)
  have hFd : Fr (S ++ R) w1 w1.drew := (Fr.refl _ _).drew
  have k1 : decide (x.key = x.key) = true := decide_eq_true rfl
  by_cases q0 : q = 0
  · have d0 : decide (q = 0) = true := decide_eq_true q0
    simp (maxSteps := 4000000) (disch := (first | assumption | exact List.not_mem_nil | exact Fr.refl _ _ | ((repeat (first | assumption | apply cur_alloc | apply cur_setB | apply cur_drew | apply cur_drewN)); done) | omega | (simp only [gz, Value.cells, oneC]; first | done | omega) | ((simp only [List.mem_cons, List.not_mem_nil, or_false, gz]); omega) | rfl)) only [↓gsd, gs, ev, Nat.reduceAdd, Nat.reduceEqDiff, oneC, Value.cells, Option.isNone, gt, ↓hk9, d0]
    refine draw_intro2 (w := w1.drew) (fun _ => S ++ R) ?_
    simp (maxSteps := 4000000) (disch := (first | assumption | exact List.not_mem_nil | exact Fr.refl _ _ | ((repeat (first | assumption | apply cur_alloc | apply cur_setB | apply cur_drew | apply cur_drewN)); done) | omega | (simp only [gz, Value.cells, oneC]; first | done | omega) | ((simp only [List.mem_cons, List.not_mem_nil, or_false, gz]); omega) | rfl)) only [↓gsd, gs, ev, Nat.reduceAdd, Nat.reduceEqDiff, oneC, Value.cells, Option.isNone, gt, ↓hk9, Fr_self, g5, n5]
    refine put_spec (e := x) (h1.tab.frN (Fr.refl _ _).drew) h.inv.wf (by omega) fun w2 S2 hT2 hs2 hn2 hf2 => ?_
    have cw2 := cur w2
    have hF2 : Fr (S ++ R) w1.drew w2 := hf2.left
    have hf12 : Fr S w1 w2 := (Fr.refl S w1).drew.transM hf2
    simp (maxSteps := 4000000) (disch := (first | assumption | exact List.not_mem_nil | exact Fr.refl _ _ | ((repeat (first | assumption | apply cur_alloc | apply cur_setB | apply cur_drew | apply cur_drewN)); done) | omega | (simp only [gz, Value.cells, oneC]; first | done | omega) | ((simp only [List.mem_cons, List.not_mem_nil, or_false, gz]); omega) | rfl)) only [↓gsd, gs, ev, Nat.reduceAdd, Nat.reduceEqDiff, oneC, Value.cells, Option.isNone, gt, ↓hk9, eq_true hF2]
    refine rput_spec (x := x) ((h1.ref.frN (Fr.refl _ _).drew).fr hf2 h.apart) (by have := h.len; omega) fun w3 R3 hR3 hn3 hf3 => ?_
    have cw3 := cur w3
    have hF3 : Fr (S ++ R) w1.drew w3 := hF2.transM (hf3.mono fun z hz => List.mem_append_right _ hz)
    have dd : (goodE x == goodE x) = true := beq_self_eq_true _
    simp (maxSteps := 4000000) (disch := (first | assumption | exact List.not_mem_nil | exact Fr.refl _ _ | ((repeat (first | assumption | apply cur_alloc | apply cur_setB | apply cur_drew | apply cur_drewN)); done) | omega | (simp only [gz, Value.cells, oneC]; first | done | omega) | ((simp only [List.mem_cons, List.not_mem_nil, or_false, gz]); omega) | rfl)) only [↓gsd, gs, ev, Nat.reduceAdd, Nat.reduceEqDiff, oneC, Value.cells, Option.isNone, gt, ↓hk9, eq_true hF3, dd]
    exact hput _ _ _ _ _ _ hT2 hn2 hf12 hR3 hn3 hf3 (h.rel.put h.tab.nd (by have := h.len; omega) x) (h.inv.putR h.tab.nd x) (Nat.le_trans (rputL_len L x) (by have := h.len; omega))
  have d0 : decide (q = 0) = false := decide_eq_false q0
  by_cases q1 : q = 1
  · have d1 : decide (q = 1) = true := decide_eq_true q1
    simp (maxSteps := 4000000) (disch := (first | assumption | exact List.not_mem_nil | exact Fr.refl _ _ | ((repeat (first | assumption | apply cur_alloc | apply cur_setB | apply cur_drew | apply cur_drewN)); done) | omega | (simp only [gz, Value.cells, oneC]; first | done | omega) | ((simp only [List.mem_cons, List.not_mem_nil, or_false, gz]); omega) | rfl)) only [↓gsd, gs, ev, Nat.reduceAdd, Nat.reduceEqDiff, oneC, Value.cells, Option.isNone, gt, ↓hk9, d0, d1]
    refine draw_intro2 (w := w1.drew) (fun _ => S ++ R) ?_
    simp (maxSteps := 4000000) (disch := (first | assumption | exact List.not_mem_nil | exact Fr.refl _ _ | ((repeat (first | assumption | apply cur_alloc | apply cur_setB | apply cur_drew | apply cur_drewN)); done) | omega | (simp only [gz, Value.cells, oneC]; first | done | omega) | ((simp only [List.mem_cons, List.not_mem_nil, or_false, gz]); omega) | rfl)) only [↓gsd, gs, ev, Nat.reduceAdd, Nat.reduceEqDiff, oneC, Value.cells, Option.isNone, gt, ↓hk9, Fr_self, g7, n7]
    refine drop_spec (k := x.key) (lo := x.lo) (h1.tab.frN (Fr.refl _ _).drew) h.inv.wf (by omega) fun w2 hT2 hf2 => ?_
    have cw2 := cur w2
    have hF2 : Fr (S ++ R) w1.drew w2 := hf2.left
    have hf12 : Fr S w1 w2 := (Fr.refl S w1).drew.transM hf2
    simp (maxSteps := 4000000) (disch := (first | assumption | exact List.not_mem_nil | exact Fr.refl _ _ | ((repeat (first | assumption | apply cur_alloc | apply cur_setB | apply cur_drew | apply cur_drewN)); done) | omega | (simp only [gz, Value.cells, oneC]; first | done | omega) | ((simp only [List.mem_cons, List.not_mem_nil, or_false, gz]); omega) | rfl)) only [↓gsd, gs, ev, Nat.reduceAdd, Nat.reduceEqDiff, oneC, Value.cells, Option.isNone, gt, ↓hk9, eq_true hF2]
    refine rdrop_spec (k := x.key) (lo := x.lo) ((h1.ref.frN (Fr.refl _ _).drew).fr hf2 h.apart) (by have := h.len; omega) fun w3 R3 hR3 hn3 hf3 => ?_
    have cw3 := cur w3
    have hF3 : Fr (S ++ R) w1.drew w3 := hF2.transM (hf3.mono fun z hz => List.mem_append_right _ hz)
    rw [h.rel.dropB]
    have dd : (hasE (T.row x.key) x.lo == hasE (T.row x.key) x.lo) = true := beq_self_eq_true _
    simp (maxSteps := 4000000) (disch := (first | assumption | exact List.not_mem_nil | exact Fr.refl _ _ | ((repeat (first | assumption | apply cur_alloc | apply cur_setB | apply cur_drew | apply cur_drewN)); done) | omega | (simp only [gz, Value.cells, oneC]; first | done | omega) | ((simp only [List.mem_cons, List.not_mem_nil, or_false, gz]); omega) | rfl)) only [↓gsd, gs, ev, Nat.reduceAdd, Nat.reduceEqDiff, oneC, Value.cells, Option.isNone, gt, ↓hk9, eq_true hF3, dd]
    have hI := h.inv.drop h.tab.nd x.key x.lo
    exact hput _ _ _ _ _ _ hT2 (fun y hy => .inl hy) hf12 hR3 hn3 hf3 (h.rel.drop h.tab.nd (by have := h.len; omega) x.key x.lo) ⟨hI.wf.mono (by omega), hI.ent, hI.key, by have := hI.len; omega⟩ (Nat.le_trans (List.length_filter_le _ _) (by have := h.len; omega))
  have d1 : decide (q = 1) = false := decide_eq_false q1
  have hsame : ∀ (fo : Option Ent) (w2 w3 : World), True := fun _ _ _ => trivial
  by_cases q2 : q = 2
  · have d2 : decide (q = 2) = true := decide_eq_true q2
    simp (maxSteps := 4000000) (disch := (first | assumption | exact List.not_mem_nil | exact Fr.refl _ _ | ((repeat (first | assumption | apply cur_alloc | apply cur_setB | apply cur_drew | apply cur_drewN)); done) | omega | (simp only [gz, Value.cells, oneC]; first | done | omega) | ((simp only [List.mem_cons, List.not_mem_nil, or_false, gz]); omega) | rfl)) only [↓gsd, gs, ev, Nat.reduceAdd, Nat.reduceEqDiff, oneC, Value.cells, Option.isNone, gt, ↓hk9, d0, d1, d2, g7]
    refine Get_spec (k := x.key) (lo := x.lo) h1.tab h.inv.wf (by omega) fun w2 hf2 => ?_
    have cw2 := cur w2
    rw [← getE_has]
    have hrg := h.rel.get x.key x.lo
    generalize getE (T.row x.key) x.lo = fo at hrg
    have g72 := hf2.getN g7
    have l72 := lt_of_get _ _ g72
    unfold encEnt
    simp (maxSteps := 4000000) (disch := (first | assumption | exact List.not_mem_nil | exact Fr.refl _ _ | ((repeat (first | assumption | apply cur_alloc | apply cur_setB | apply cur_drew | apply cur_drewN)); done) | omega | (simp only [gz, Value.cells, oneC]; first | done | omega) | ((simp only [List.mem_cons, List.not_mem_nil, or_false, gz]); omega) | rfl)) only [↓gsd, gs, ev, Nat.reduceAdd, Nat.reduceEqDiff, oneC, Value.cells, Option.isNone, gt, ↓hk9, g72]
    generalize hW : World.alloc w2 _ = w3
    have hf3 : Fr [] w2 w3 := by rw [← hW]; (repeat (first | exact Fr.refl _ _ | assumption | with_reducible apply Fr.alloc | with_reducible apply Fr.drew | with_reducible refine Fr.setB ?_ _ _ (.inr (by first | omega | (simp only [gz]; omega))) | with_reducible refine Fr.setB ?_ _ _ (.inl (by first | assumption | simp)) | with_reducible refine Fr.trans' ?_ (by assumption)))
    have ga3 : w3.heap[w2.heap.size]? = some (.cells (encEnt (fo.getD entZ)).toArray 36 (0, 0)) := by rw [← hW]; exact get_alloc_new _ _
    clear hW
    have cw3 := cur w3
    refine rget_spec (k := x.key) (lo := x.lo) ((h1.ref.frN hf2).frN hf3) (by have := h.len; omega) fun w4 hf4 => ?_
    have cw4 := cur w4
    rw [hrg]
    have ga4 := hf4.getN ga3
    have l4 := lt_of_get _ _ ga4
    generalize fo.getD entZ = y at ga4
    have k1 : decide (y.key = y.key) = true := decide_eq_true rfl
    have k2 : decide (y.has = y.has) = true := decide_eq_true rfl
    have k3 : decide (y.data = y.data) = true := decide_eq_true rfl
    have k4 : decide (y.lo = y.lo) = true := decide_eq_true rfl
    have k5 : decide (y.hi = y.hi) = true := decide_eq_true rfl
    have k6 : decide (y.hot = y.hot) = true := decide_eq_true rfl
    have k7 : decide (y.stamp = y.stamp) = true := decide_eq_true rfl
    have k8 : decide (y.ins = y.ins) = true := decide_eq_true rfl
    have k9 : (fo.isSome == fo.isSome) = true := beq_self_eq_true _
    unfold encEnt at ga4 ⊢
    simp (maxSteps := 4000000) (disch := (first | assumption | exact List.not_mem_nil | exact Fr.refl _ _ | ((repeat (first | assumption | apply cur_alloc | apply cur_setB | apply cur_drew | apply cur_drewN)); done) | omega | (simp only [gz, Value.cells, oneC]; first | done | omega) | ((simp only [List.mem_cons, List.not_mem_nil, or_false, gz]); omega) | rfl)) only [↓gsd, gs, ev, Nat.reduceAdd, Nat.reduceEqDiff, oneC, Value.cells, Option.isNone, gt, ↓hk9, ga4, k1, k2, k3, k4, k5, k6, k7, k8, k9]
    exact hread _ (((hf2.trans' hf3).trans' hf4).alloc _)
  have d2 : decide (q = 2) = false := decide_eq_false q2
  by_cases q3 : q = 3
  · have d3 : decide (q = 3) = true := decide_eq_true q3
    simp (maxSteps := 4000000) (disch := (first | assumption | exact List.not_mem_nil | exact Fr.refl _ _ | ((repeat (first | assumption | apply cur_alloc | apply cur_setB | apply cur_drew | apply cur_drewN)); done) | omega | (simp only [gz, Value.cells, oneC]; first | done | omega) | ((simp only [List.mem_cons, List.not_mem_nil, or_false, gz]); omega) | rfl)) only [↓gsd, gs, ev, Nat.reduceAdd, Nat.reduceEqDiff, oneC, Value.cells, Option.isNone, gt, ↓hk9, d0, d1, d2, d3, g5, g7]
    refine Find_spec (k := x.key) (x := a) (plo := plo) (phi := phi) h1.tab h.inv.wf (by omega) fun w2 hf2 => ?_
    have cw2 := cur w2
    have hrg := h.rel.find x.key a plo phi
    generalize findE (T.row x.key) a plo phi = fo at hrg
    have g72 := hf2.getN g7
    have l72 := lt_of_get _ _ g72
    have g52 := hf2.getN g5
    have l52 := lt_of_get _ _ g52
    unfold encEnt
    simp (maxSteps := 4000000) (disch := (first | assumption | exact List.not_mem_nil | exact Fr.refl _ _ | ((repeat (first | assumption | apply cur_alloc | apply cur_setB | apply cur_drew | apply cur_drewN)); done) | omega | (simp only [gz, Value.cells, oneC]; first | done | omega) | ((simp only [List.mem_cons, List.not_mem_nil, or_false, gz]); omega) | rfl)) only [↓gsd, gs, ev, Nat.reduceAdd, Nat.reduceEqDiff, oneC, Value.cells, Option.isNone, gt, ↓hk9, g72, g52]
    generalize hW : World.alloc w2 _ = w3
    have hf3 : Fr [] w2 w3 := by rw [← hW]; (repeat (first | exact Fr.refl _ _ | assumption | with_reducible apply Fr.alloc | with_reducible apply Fr.drew | with_reducible refine Fr.setB ?_ _ _ (.inr (by first | omega | (simp only [gz]; omega))) | with_reducible refine Fr.setB ?_ _ _ (.inl (by first | assumption | simp)) | with_reducible refine Fr.trans' ?_ (by assumption)))
    have ga3 : w3.heap[w2.heap.size]? = some (.cells (encEnt (fo.getD entZ)).toArray 36 (0, 0)) := by rw [← hW]; exact get_alloc_new _ _
    clear hW
    have cw3 := cur w3
    refine rfind_spec (k := x.key) (x := a) (plo := plo) (phi := phi) ((h1.ref.frN hf2).frN hf3) (by have := h.len; omega) fun w4 hf4 => ?_
    have cw4 := cur w4
    rw [hrg]
    have ga4 := hf4.getN ga3
    have l4 := lt_of_get _ _ ga4
    generalize fo.getD entZ = y at ga4
    have k1 : decide (y.key = y.key) = true := decide_eq_true rfl
    have k2 : decide (y.has = y.has) = true := decide_eq_true rfl
    have k3 : decide (y.data = y.data) = true := decide_eq_true rfl
    have k4 : decide (y.lo = y.lo) = true := decide_eq_true rfl
    have k5 : decide (y.hi = y.hi) = true := decide_eq_true rfl
    have k6 : decide (y.hot = y.hot) = true := decide_eq_true rfl
    have k7 : decide (y.stamp = y.stamp) = true := decide_eq_true rfl
    have k8 : decide (y.ins = y.ins) = true := decide_eq_true rfl
    have k9 : (fo.isSome == fo.isSome) = true := beq_self_eq_true _
    unfold encEnt at ga4 ⊢
    simp (maxSteps := 4000000) (disch := (first | assumption | exact List.not_mem_nil | exact Fr.refl _ _ | ((repeat (first | assumption | apply cur_alloc | apply cur_setB | apply cur_drew | apply cur_drewN)); done) | omega | (simp only [gz, Value.cells, oneC]; first | done | omega) | ((simp only [List.mem_cons, List.not_mem_nil, or_false, gz]); omega) | rfl)) only [↓gsd, gs, ev, Nat.reduceAdd, Nat.reduceEqDiff, oneC, Value.cells, Option.isNone, gt, ↓hk9, ga4, k1, k2, k3, k4, k5, k6, k7, k8, k9]
    exact hread _ (((hf2.trans' hf3).trans' hf4).alloc _)
  have d3 : decide (q = 3) = false := decide_eq_false q3
  simp (maxSteps := 4000000) (disch := (first | assumption | exact List.not_mem_nil | exact Fr.refl _ _ | ((repeat (first | assumption | apply cur_alloc | apply cur_setB | apply cur_drew | apply cur_drewN)); done) | omega | (simp only [gz, Value.cells, oneC]; first | done | omega) | ((simp only [List.mem_cons, List.not_mem_nil, or_false, gz]); omega) | rfl)) only [↓gsd, gs, ev, Nat.reduceAdd, Nat.reduceEqDiff, oneC, Value.cells, Option.isNone, gt, ↓hk9, d0, d1, d2, d3]
  refine draw_intro2 (w := w1.drew) (fun _ => []) ?_
  simp (maxSteps := 4000000) (disch := (first | assumption | exact List.not_mem_nil | exact Fr.refl _ _ | ((repeat (first | assumption | apply cur_alloc | apply cur_setB | apply cur_drew | apply cur_drewN)); done) | omega | (simp only [gz, Value.cells, oneC]; first | done | omega) | ((simp only [List.mem_cons, List.not_mem_nil, or_false, gz]); omega) | rfl)) only [↓gsd, gs, ev, Nat.reduceAdd, Nat.reduceEqDiff, oneC, Value.cells, Option.isNone, gt, ↓hk9, Fr_self, g7, List.not_mem_nil, not_false_eq_true]
  refine of_spec (k := x.key) (h1.tab.frN (Fr.refl _ _).drew) h.inv.wf (by omega) fun va w2 hva hf2 hba => ?_
  have cw2 := cur w2
  simp (maxSteps := 4000000) (disch := (first | assumption | exact List.not_mem_nil | exact Fr.refl _ _ | ((repeat (first | assumption | apply cur_alloc | apply cur_setB | apply cur_drew | apply cur_drewN)); done) | omega | (simp only [gz, Value.cells, oneC]; first | done | omega) | ((simp only [List.mem_cons, List.not_mem_nil, or_false, gz]); omega) | rfl)) only [↓gsd, gs, ev, Nat.reduceAdd, Nat.reduceEqDiff, oneC, Value.cells, Option.isNone, gt, ↓hk9, eq_true hf2]
  refine rof10_spec (k := x.key) ((h1.ref.frN (Fr.refl _ _).drew).frN hf2) (by have := h.len; omega) fun vb w3 hvb hbb hf3 => ?_
  have cw3 := cur w3
  have hF3 := hf2.trans' hf3
  simp (maxSteps := 4000000) (disch := (first | assumption | exact List.not_mem_nil | exact Fr.refl _ _ | ((repeat (first | assumption | apply cur_alloc | apply cur_setB | apply cur_drew | apply cur_drewN)); done) | omega | (simp only [gz, Value.cells, oneC]; first | done | omega) | ((simp only [List.mem_cons, List.not_mem_nil, or_false, gz]); omega) | rfl)) only [↓gsd, gs, ev, Nat.reduceAdd, Nat.reduceEqDiff, oneC, Value.cells, Option.isNone, gt, ↓hk9, eq_true hF3]
  rw [h.rel.row] at hva
  refine same10_true (hva.frN hf3).sl hvb.sl (Nat.le_trans (List.length_filter_le _ _) (by have := h.len; omega)) fun w4 hf4 => ?_
  have cw4 := cur w4
  have hF4 := hF3.trans' hf4
  simp (maxSteps := 4000000) (disch := (first | assumption | exact List.not_mem_nil | exact Fr.refl _ _ | ((repeat (first | assumption | apply cur_alloc | apply cur_setB | apply cur_drew | apply cur_drewN)); done) | omega | (simp only [gz, Value.cells, oneC]; first | done | omega) | ((simp only [List.mem_cons, List.not_mem_nil, or_false, gz]); omega) | rfl)) only [↓gsd, gs, ev, Nat.reduceAdd, Nat.reduceEqDiff, oneC, Value.cells, Option.isNone, gt, ↓hk9, eq_true hF4]
  exact hread _ ((Fr.refl _ _).drew.trans' hF4)
end Go.Proofs.Ytldmkhakjnglmaa
