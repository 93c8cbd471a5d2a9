/- The store in memory: what it is, New, Last, Oldest, slices.Clone of versions. -/
import Derived.Test.YtenokheiindfkaaS1
import Derived.Test.YtenokheiindfkaaC7
set_option linter.unusedVariables false
set_option linter.unusedSimpArgs false
set_option maxRecDepth 10000
namespace Go.Proofs.Ytenokheiindfkaa
open Go.VW
structure Ver where
  n : Int
  has : Bool
  data : ByteArray
  deriving DecidableEq
def encVer (x : Ver) : List Value := [.int .i64 x.n, .bool x.has, .string x.data]
theorem encVer_len (x : Ver) : (encVer x).length = 3 := rfl
structure Row where
  list : List Ver
  dropped : Bool
structure St where
  rows : List (ByteArray × Row)
  most : Nat
  last : Int
def St.row (st : St) (k : ByteArray) : Row := (aget st.rows k).getD ⟨[], false⟩
/-- The slice's block holds elements of type e. -/
def BlkT (e : TypeId) (w : World) (s : Value) : Prop := ∀ a n c, s = .slice a n c → n ≤ c ∧ ∀ a', a = some a' → ∃ cs fr, w.heap[a'.block]? = some (.cells cs e fr)
theorem BlkT.fr {e : TypeId} {w w' : World} {s : Value} (h : BlkT e w s) {M : List Nat} (hf : Fr M w w') (hM : ∀ x ∈ M, ∀ cs fr, w.heap[x]? ≠ some (.cells cs e fr)) : BlkT e w' s := fun a n c hs =>
  ⟨(h a n c hs).1, fun a' ha => by
    obtain ⟨cs, fr, hb⟩ := (h a n c hs).2 a' ha
    exact ⟨cs, fr, hf.get hb fun hm => hM _ hm cs fr hb⟩⟩
theorem BlkT.off {e : TypeId} {w : World} {s : Value} (h : BlkT e w s) {x : Nat} (hx : ∀ cs fr, w.heap[x]? ≠ some (.cells cs e fr)) : offV s x := fun a n c hs he => by
  obtain ⟨cs, fr, hb⟩ := (h (some a) n c hs).2 a rfl
  exact hx cs fr (he ▸ hb)
theorem BlkT.nil {e : TypeId} {w : World} : BlkT e w (.slice none 0 0) := fun a n c h => by
  simp only [Value.slice.injEq] at h
  exact ⟨by omega, fun a' ha => by rw [← h.1] at ha; cases ha⟩
/-- A row in memory. -/
def RowV (w : World) (v : Value) (r : Row) : Prop := ∃ s, v = .agg ([s, .bool r.dropped] : List Value).toArray ∧ SlOf 3 encVer w s r.list ∧ BlkT 106 w s
theorem RowV.fr {w w' : World} {v : Value} {r : Row} (h : RowV w v r) {M : List Nat} (hf : Fr M w w') (hM : ∀ x ∈ M, ∀ cs fr, w.heap[x]? ≠ some (.cells cs 106 fr)) : RowV w' v r := by
  obtain ⟨s, hv, hs, hb⟩ := h
  exact ⟨s, hv, hs.fr hf fun x hx => hb.off (hM x hx), hb.fr hf hM⟩
theorem RowV.nil {w : World} : RowV w (.agg ([.slice none 0 0, .bool false] : List Value).toArray) ⟨[], false⟩ := ⟨_, rfl, Sl.nil, BlkT.nil⟩
/-- The rows of a store in memory. -/
def RowsAt (w : World) (o : Option Obj) (rows : List (ByteArray × Row)) : Prop :=
  ∃ es, MapAt Value.string o es ∧ es.map (·.1) = rows.map (·.1) ∧ ∀ k v r, aget es k = some v → aget rows k = some r → RowV w v r
structure StoreAt (w : World) (b bm : Nat) (st : St) : Prop where
  head : w.heap[b]? = some (.cells ([.map (some bm), .int .i64 st.most, .int .i64 st.last] : List Value).toArray 111 (0, 0))
  rows : RowsAt w w.heap[bm]? st.rows
theorem RowsAt.fr {w w' : World} {o : Option Obj} {rows : List (ByteArray × Row)} (h : RowsAt w o rows) {M : List Nat} (hf : Fr M w w') (hM : ∀ x ∈ M, ∀ cs fr, w.heap[x]? ≠ some (.cells cs 106 fr)) : RowsAt w' o rows := by
  obtain ⟨es, hm, hk, hr⟩ := h
  exact ⟨es, hm, hk, fun k v r h1 h2 => (hr k v r h1 h2).fr hf hM⟩
theorem StoreAt.lt {w : World} {b bm : Nat} {st : St} (h : StoreAt w b bm st) : b < w.heap.size ∧ bm < w.heap.size ∧ b ≠ bm := by
  obtain ⟨es, hm, _⟩ := h.rows
  obtain ⟨ents, clock, ho, _⟩ := hm.ex
  refine ⟨lt_of_get _ _ h.head, lt_of_get _ _ ho, fun e => ?_⟩
  rw [← e, h.head] at ho
  cases ho
theorem StoreAt.frN {w w' : World} {b bm : Nat} {st : St} (h : StoreAt w b bm st) (hf : Fr [] w w') : StoreAt w' b bm st :=
  ⟨hf.getN h.head, by rw [hf.keepN _ h.lt.2.1]; exact h.rows.fr hf (by simp)⟩
theorem aget_isSome_keys {α β : Type} {l : List (ByteArray × α)} {m : List (ByteArray × β)} (h : l.map (·.1) = m.map (·.1)) (k : ByteArray) : (aget l k).isSome = (aget m k).isSome := by
  have h1 := mem_keys_aget l k
  have h2 := mem_keys_aget m k
  rw [h] at h1
  cases hl : aget l k <;> cases hm : aget m k <;> simp_all
abbrev rowZ : Value := .agg ([.slice none 0 0, .bool false] : List Value).toArray
theorem RowsAt.get {w : World} {o : Option Obj} {rows : List (ByteArray × Row)} (h : RowsAt w o rows) (k : ByteArray) : ∃ es o', o = some o' ∧ MapAt Value.string (some o') es ∧ RowV w ((aget es k).getD rowZ) ((aget rows k).getD ⟨[], false⟩) := by
  obtain ⟨es, hm, hk, hr⟩ := h
  obtain ⟨ents, clock, ho, _⟩ := id hm.ex
  refine ⟨es, _, ho, ho ▸ hm, ?_⟩
  have hs := aget_isSome_keys hk k
  cases h1 : aget es k <;> cases h2 : aget rows k <;> simp [h1, h2] at hs
  · exact RowV.nil
  · exact hr k _ _ h1 h2
theorem StoreAt.get {w : World} {b bm : Nat} {st : St} (h : StoreAt w b bm st) (k : ByteArray) : ∃ es, MapAt Value.string w.heap[bm]? es ∧ RowV w ((aget es k).getD rowZ) (st.row k) := by
  obtain ⟨es, hm, hk, hr⟩ := h.rows
  refine ⟨es, hm, ?_⟩
  have hs := aget_isSome_keys hk k
  unfold St.row
  cases h1 : aget es k <;> cases h2 : aget st.rows k <;> simp [h1, h2] at hs
  · exact RowV.nil
  · exact hr k _ _ h1 h2
def St.new (n : Int) : St := ⟨[], (min (max n 1) 64).toNat, 0⟩
structure St.WF (st : St) : Prop where
  m1 : 1 ≤ st.most
  m2 : st.most ≤ 64
  l0 : 0 ≤ st.last
  l1 : st.last ≤ 1099511627776
  rows : ∀ k r, aget st.rows k = some r → r.list ≠ [] ∧ r.list.length ≤ st.most ∧ r.list.Pairwise (fun a b => a.n < b.n) ∧ ∀ x ∈ r.list, 1 ≤ x.n ∧ x.n ≤ st.last
theorem St.new_wf (n : Int) : (St.new n).WF := by
  refine ⟨?_, ?_, Int.le_refl _, ?_, fun k r h => ?_⟩
  · simp only [St.new]; omega
  · simp only [St.new]; omega
  · show (0 : Int) ≤ _; omega
  · simp [St.new, aget] at h
theorem new_spec {n : Int} {w : World} {K : Value → World → Prop} (hK : ∀ b bm w', Fr [] w w' → w.heap.size ≤ b → w.heap.size ≤ bm → StoreAt w' b bm (St.new n) → K (.pointer (some ⟨b, 0, none⟩)) w') : CallsN Try.prog 16 [.int .i64 n] w K := by
  have cw := cur w
  have hmk := fun w => map_make (P := Try.prog) (t := 109) (kt' := 9) (et := 114) w
  refine call16 ?_
  simp (maxSteps := 4000000) (disch := (first | assumption | exact List.not_mem_nil | exact Fr.refl _ _ | ((repeat (first | assumption | apply cur_alloc | apply cur_setB | apply cur_drew | apply cur_drewN)); done) | omega | (simp only [gz, Value.cells, oneC]; first | done | omega) | ((simp only [List.mem_cons, List.not_mem_nil, or_false, gz]); omega) | rfl)) only [↓gsd, gs, ev, Nat.reduceAdd, Nat.reduceEqDiff, oneC, Value.cells, Option.isNone, gt, ↓hk16, hmk]
  have e : ((St.new n).most : Int) = min (max n 1) 64 := by simp only [St.new]; omega
  refine hK _ w.heap.size _ (((Fr.refl _ _).alloc _).alloc _) ?_ (Nat.le_refl _) ⟨?_, [], ?_, rfl, ?_⟩
  · omega
  · rw [e, ← size_alloc w (.map #[] 0)]; exact get_alloc_new _ _
  · rw [get_alloc_old _ _ _ (by simp only [gz]; omega), get_alloc_new]; exact MapAt.empty
  · intro k v r h; simp [aget] at h
theorem last_spec {b bm : Nat} {st : St} {w : World} {K : Value → World → Prop} (h : StoreAt w b bm st) (hK : K (.int .i64 st.last) w) : CallsN Try.prog 22 [.pointer (some ⟨b, 0, none⟩)] w K := by
  have cw := cur w
  have hb := h.head
  refine call22 ?_
  simp (maxSteps := 4000000) (disch := (first | assumption | exact List.not_mem_nil | exact Fr.refl _ _ | ((repeat (first | assumption | apply cur_alloc | apply cur_setB | apply cur_drew | apply cur_drewN)); done) | omega | (simp only [gz, Value.cells, oneC]; first | done | omega) | ((simp only [List.mem_cons, List.not_mem_nil, or_false, gz]); omega) | rfl)) only [↓gsd, gs, ev, Nat.reduceAdd, Nat.reduceEqDiff, oneC, Value.cells, Option.isNone, gt, ↓hk22, hb]
  exact hK
theorem last_nil {w : World} {K : Value → World → Prop} (hK : K (.int .i64 0) w) : CallsN Try.prog 22 [.pointer none] w K := by
  have cw := cur w
  refine call22 ?_
  simp (maxSteps := 4000000) (disch := (first | assumption | exact List.not_mem_nil | exact Fr.refl _ _ | ((repeat (first | assumption | apply cur_alloc | apply cur_setB | apply cur_drew | apply cur_drewN)); done) | omega | (simp only [gz, Value.cells, oneC]; first | done | omega) | ((simp only [List.mem_cons, List.not_mem_nil, or_false, gz]); omega) | rfl)) only [↓gsd, gs, ev, Nat.reduceAdd, Nat.reduceEqDiff, oneC, Value.cells, Option.isNone, gt, ↓hk22]
  exact hK
def St.oldest (st : St) (k : ByteArray) : Int := if (st.row k).dropped then ((st.row k).list.head?.map (·.n)).getD 0 else 0
theorem St.WF.row {st : St} (h : st.WF) (k : ByteArray) : (st.row k).list.length ≤ st.most ∧ (st.row k).list.Pairwise (fun a b => a.n < b.n) ∧ (∀ x ∈ (st.row k).list, 1 ≤ x.n ∧ x.n ≤ st.last) ∧ ((st.row k).dropped = true → (st.row k).list ≠ []) := by
  unfold St.row
  cases hr : aget st.rows k with
  | none => exact ⟨Nat.zero_le _, List.Pairwise.nil, by simp, by simp⟩
  | some r => exact ⟨(h.rows k r hr).2.1, (h.rows k r hr).2.2.1, (h.rows k r hr).2.2.2, fun _ => (h.rows k r hr).1⟩
theorem oldest_spec {b bm : Nat} {st : St} {w : World} {key : ByteArray} {K : Value → World → Prop} (h : StoreAt w b bm st) (hwf : st.WF) (hK : K (.int .i64 (st.oldest key)) w) :
    CallsN Try.prog 19 [.pointer (some ⟨b, 0, none⟩), .string key] w K := by
  have cw := cur w
  have hb := h.head
  obtain ⟨es, hm, s, hv, hs, _⟩ := h.get key
  have hl := map_lookup Try.runUnderlying109 k9 Try.zeroValue114 hm key
  rw [hv] at hl
  refine call19 ?_
  cases hd : (st.row key).dropped with
  | false =>
    rw [hd] at hl
    have e : st.oldest key = 0 := by simp [St.oldest, hd]
    rw [e] at hK
    simp (maxSteps := 4000000) (disch := (first | assumption | exact List.not_mem_nil | exact Fr.refl _ _ | ((repeat (first | assumption | apply cur_alloc | apply cur_setB | apply cur_drew | apply cur_drewN)); done) | omega | (simp only [gz, Value.cells, oneC]; first | done | omega) | ((simp only [List.mem_cons, List.not_mem_nil, or_false, gz]); omega) | rfl)) only [↓gsd, gs, ev, Nat.reduceAdd, Nat.reduceEqDiff, oneC, Value.cells, Option.isNone, gt, ↓hk19, hb, hl]
    exact hK
  | true =>
    rw [hd] at hl
    obtain ⟨x, hx⟩ : ∃ x, (st.row key).list[0]? = some x := by
      cases hc : (st.row key).list with
      | nil => exact absurd hc ((hwf.row key).2.2.2 hd)
      | cons x l => exact ⟨x, rfl⟩
    have e : st.oldest key = x.n := by simp [St.oldest, hd, List.head?_eq_getElem?, hx]
    rw [e] at hK
    obtain ⟨bb, off, cap, o, hsv, ho, hbl, hrow, hcell⟩ := hs.read encVer_len 0 x hx
    have i0 : (0 : Int) ≤ (0 : Int) := by omega
    have i1 : (0 : Int) < ((st.row key).list.length : Int) := by
      have := (List.getElem?_eq_some_iff.1 hx).1; omega
    have hc0 := fun orig K => hcell 0 (.int .i64 x.n) orig K rfl
    simp only [Nat.zero_mul, Nat.add_zero] at hc0
    simp (maxSteps := 4000000) (disch := (first | assumption | exact List.not_mem_nil | exact Fr.refl _ _ | ((repeat (first | assumption | apply cur_alloc | apply cur_setB | apply cur_drew | apply cur_drewN)); done) | omega | (simp only [gz, Value.cells, oneC]; first | done | omega) | ((simp only [List.mem_cons, List.not_mem_nil, or_false, gz]); omega) | rfl)) only [↓gsd, gs, ev, Nat.reduceAdd, Nat.reduceEqDiff, oneC, Value.cells, Option.isNone, gt, ↓hk19, hb, hl, hsv, i0, i1, Int.toNat_zero, Nat.zero_mul, Nat.add_zero, ho, hc0]
    exact hK
end Go.Proofs.Ytenokheiindfkaa
