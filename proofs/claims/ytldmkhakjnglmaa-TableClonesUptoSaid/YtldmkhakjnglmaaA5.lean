/- A table in memory; a key's row; the place of an entry. -/
import Derived.Test.YtldmkhakjnglmaaA4
set_option linter.unusedVariables false
set_option linter.unusedSimpArgs false
set_option maxRecDepth 10000
namespace Go.Proofs.Ytldmkhakjnglmaa
open Go.VW
theorem mem_blkL {v : Value} {b : Nat} : b ∈ blkL v ↔ v.ownBlock = some b := by
  unfold blkL
  split
  · rename_i g hg; rw [hg]; simp; exact eq_comm
  · rename_i hg; rw [hg]; simp
theorem Own.frN {k n : Nat} {e : TypeId} {w w' : World} {v : Value} {cs : List Value} (h : Own k e w v n cs) (hf : Fr [] w w') : Own k e w' v n cs := h.fr (M := []) hf (by simp)
theorem own_head {k n : Nat} {e t : TypeId} {w : World} {v : Value} {cs : List Value} {b : Nat} {c : Array Value} {fr : Nat × Nat} (h : Own k e w v n cs) (hb : w.heap[b]? = some (.cells c t fr)) (he : e ≠ t) : v.ownBlock ≠ some b := by
  intro hb'
  rcases h.2 with ⟨rfl, _⟩ | ⟨g, cap, cur, rfl, _, hg, _⟩
  · simp [Value.ownBlock] at hb'
  · simp [Value.ownBlock] at hb'
    subst hb'
    rw [hg] at hb
    cases hb
    exact he rfl
theorem own_map {k n : Nat} {e : TypeId} {w : World} {v : Value} {cs : List Value} {b : Nat} {c : Array MapEntry} {cl : Nat} (h : Own k e w v n cs) (hb : w.heap[b]? = some (.map c cl)) : v.ownBlock ≠ some b := by
  intro hb'
  rcases h.2 with ⟨rfl, _⟩ | ⟨g, cap, cur, rfl, _, hg, _⟩
  · simp [Value.ownBlock] at hb'
  · simp [Value.ownBlock] at hb'
    subst hb'
    rw [hg] at hb
    cases hb
structure Tab where
  rows : List (ByteArray × Ents)
  n : Int
  bytes : Int
def Tab.row (T : Tab) (k : ByteArray) : Ents := (aget T.rows k).getD []
abbrev sliceZ : Value := .slice none 0 0
structure RowsM (w : World) (S : List Nat) (bm : Nat) (rows : List (ByteArray × Ents)) (es : List (ByteArray × Value)) : Prop where
  mem : bm ∈ S
  map : MapAt Value.string w.heap[bm]? es
  keys : es.map (·.1) = rows.map (·.1)
  own : ∀ k v l, aget es k = some v → aget rows k = some l → Own 8 36 w v l.length (cellsOf encEnt l) ∧ ∀ b, v.ownBlock = some b → b ∈ S
  apart : ∀ k k' v v', k ≠ k' → aget es k = some v → aget es k' = some v' → ∀ b, v.ownBlock = some b → v'.ownBlock ≠ some b
def RowsE (w : World) (S : List Nat) (mb : Option Nat) (rows : List (ByteArray × Ents)) : Prop := match mb with
  | none => rows = []
  | some bm => ∃ es, RowsM w S bm rows es
structure TabAt (w : World) (tb : Nat) (S : List Nat) (T : Tab) : Prop where
  ex : ∃ mb, w.heap[tb]? = some (.cells ([.map mb, .int .i64 T.n, .int .i64 T.bytes] : List Value).toArray 56 (0, 0)) ∧ RowsE w S mb T.rows
  tb : tb ∈ S
  lt : ∀ x ∈ S, x < w.heap.size
theorem RowsM.fr {w w' : World} {S M : List Nat} {bm : Nat} {rows : List (ByteArray × Ents)} {es : List (ByteArray × Value)} (h : RowsM w S bm rows es) (hlt : ∀ x ∈ S, x < w.heap.size) (hf : Fr M w w') (hM : ∀ x ∈ M, x ∉ S) : RowsM w' S bm rows es := by
  refine ⟨h.mem, ?_, h.keys, fun k v l h1 h2 => ?_, h.apart⟩
  · rw [hf.keep bm (hlt bm h.mem) (fun hm => hM bm hm h.mem)]; exact h.map
  · obtain ⟨a, b⟩ := h.own k v l h1 h2
    exact ⟨a.fr hf fun x hx e => hM x hx (b x e), b⟩
theorem RowsM.fr2 {w w' : World} {S M : List Nat} {bm : Nat} {rows : List (ByteArray × Ents)} {es : List (ByteArray × Value)} (h : RowsM w S bm rows es) (hf : Fr M w w') (h1 : bm ∉ M) (h2 : ∀ k v, aget es k = some v → ∀ b, v.ownBlock = some b → b ∉ M) : RowsM w' S bm rows es := by
  refine ⟨h.mem, ?_, h.keys, fun k v l e1 e2 => ?_, h.apart⟩
  · rw [hf.keep bm h.map.lt h1]; exact h.map
  · obtain ⟨a, b⟩ := h.own k v l e1 e2
    exact ⟨a.fr hf fun x hx e => h2 k v e1 x e hx, b⟩
theorem RowsM.head {w w' : World} {S : List Nat} {bm tb : Nat} {rows : List (ByteArray × Ents)} {es : List (ByteArray × Value)} (h : RowsM w S bm rows es) {c : Array Value} {fr : Nat × Nat} (hb : w.heap[tb]? = some (.cells c 56 fr)) (hf : Fr [tb] w w') : RowsM w' S bm rows es := by
  refine h.fr2 hf (fun hm => ?_) fun k v e1 b e2 hm => ?_
  · obtain ⟨ents, clock, hbo, _⟩ := h.map.ex
    simp at hm; subst hm
    rw [hbo] at hb; cases hb
  · simp at hm; subst hm
    have hk : k ∈ rows.map (·.1) := by rw [← h.keys]; exact (mem_keys_aget es k).2 ⟨v, e1⟩
    obtain ⟨l, e3⟩ := (mem_keys_aget rows k).1 hk
    exact own_head (h.own k v l e1 e3).1 hb (by decide) e2
theorem RowsE.fr {w w' : World} {S M : List Nat} {mb : Option Nat} {rows : List (ByteArray × Ents)} (h : RowsE w S mb rows) (hlt : ∀ x ∈ S, x < w.heap.size) (hf : Fr M w w') (hM : ∀ x ∈ M, x ∉ S) : RowsE w' S mb rows := by
  cases mb with
  | none => exact h
  | some bm => obtain ⟨es, h⟩ := h; exact ⟨es, h.fr hlt hf hM⟩
theorem TabAt.fr {w w' : World} {tb : Nat} {S M : List Nat} {T : Tab} (h : TabAt w tb S T) (hf : Fr M w w') (hM : ∀ x ∈ M, x ∉ S) : TabAt w' tb S T := by
  obtain ⟨⟨mb, h1, h2⟩, h3, h4⟩ := h
  exact ⟨⟨mb, hf.get h1 fun hm => hM _ hm h3, h2.fr h4 hf hM⟩, h3, fun x hx => Nat.lt_of_lt_of_le (h4 x hx) hf.size⟩
theorem TabAt.frN {w w' : World} {tb : Nat} {S : List Nat} {T : Tab} (h : TabAt w tb S T) (hf : Fr [] w w') : TabAt w' tb S T := h.fr hf (by simp)
theorem RowsM.get {w : World} {S : List Nat} {bm : Nat} {rows : List (ByteArray × Ents)} {es : List (ByteArray × Value)} (h : RowsM w S bm rows es) (k : ByteArray) :
    Own 8 36 w ((aget es k).getD sliceZ) ((aget rows k).getD []).length (cellsOf encEnt ((aget rows k).getD [])) ∧ ∀ b, ((aget es k).getD sliceZ).ownBlock = some b → b ∈ S := by
  have h1 := mem_keys_aget es k
  have h2 := mem_keys_aget rows k
  rw [h.keys] at h1
  cases hl : aget es k with
  | none =>
    cases hm : aget rows k with
    | none => exact ⟨Own.nil, fun b hb => by simp [Value.ownBlock] at hb⟩
    | some l => rw [hl] at h1; rw [hm] at h2; simp at h1 h2; exact (h2.elim fun x hx => h1 x hx).elim
  | some v =>
    cases hm : aget rows k with
    | none => rw [hl] at h1; rw [hm] at h2; simp at h1 h2; exact (h1.elim fun x hx => h2 x hx).elim
    | some l => exact h.own k v l hl hm
theorem row_spec {w : World} {tb : Nat} {S : List Nat} {T : Tab} {k : ByteArray} {K : Value → World → Prop} (h : TabAt w tb S T)
    (hK : ∀ v, Own 8 36 w v (T.row k).length (cellsOf encEnt (T.row k)) → (∀ b, v.ownBlock = some b → b ∈ S) → K v w) : CallsN Try.prog 34 [.pointer (some ⟨tb, 0, none⟩), .string k] w K := by
  have cw := cur w
  obtain ⟨⟨mb, h1, h2⟩, h3, h4⟩ := h
  have hlt := lt_of_get _ _ h1
  refine call34 ?_
  cases mb with
  | none =>
    have e : T.row k = [] := by unfold Tab.row; rw [show T.rows = [] from h2]; rfl
    rw [e] at hK
    have hnl := map_lookup_nil (P := Try.prog) (t := 54) Try.runUnderlying54 kOK54 Try.zeroValue27 w k
    simp (maxSteps := 4000000) (disch := (first | assumption | exact List.not_mem_nil | exact Fr.refl _ _ | ((repeat (first | assumption | apply cur_alloc | apply cur_setB | apply cur_drew | apply cur_drewN)); done) | omega | (simp only [gz, Value.cells, oneC]; first | done | omega) | ((simp only [List.mem_cons, List.not_mem_nil, or_false, gz]); omega) | rfl)) only [↓gsd, gs, ev, Nat.reduceAdd, Nat.reduceEqDiff, oneC, Value.cells, Option.isNone, gt, frT_self, frT_drew, frT_drew0, frT_alloc, ↓hk34, h1, hnl]
    exact hK _ Own.nil fun b hb => by simp [Value.ownBlock] at hb
  | some bm =>
    obtain ⟨es, hr⟩ := h2
    obtain ⟨ents, clock, hbo, _⟩ := id hr.map.ex
    have hm := hr.map
    rw [hbo] at hm
    have hmv := fun orig K => mapV_at inj_string hm orig K
    obtain ⟨g1, g2⟩ := hr.get k
    simp (maxSteps := 4000000) (disch := (first | assumption | exact List.not_mem_nil | exact Fr.refl _ _ | ((repeat (first | assumption | apply cur_alloc | apply cur_setB | apply cur_drew | apply cur_drewN)); done) | omega | (simp only [gz, Value.cells, oneC]; first | done | omega) | ((simp only [List.mem_cons, List.not_mem_nil, or_false, gz]); omega) | rfl)) only [↓gsd, gs, ev, Nat.reduceAdd, Nat.reduceEqDiff, oneC, Value.cells, Option.isNone, gt, frT_self, frT_drew, frT_drew0, frT_alloc, ↓hk34, h1, hbo, hmv]
    exact hK _ g1 g2
theorem row_nil {w : World} {k : ByteArray} {K : Value → World → Prop} (hK : K sliceZ w) : CallsN Try.prog 34 [.pointer none, .string k] w K := by
  have cw := cur w
  refine call34 ?_
  simp (maxSteps := 4000000) (disch := (first | assumption | exact List.not_mem_nil | exact Fr.refl _ _ | ((repeat (first | assumption | apply cur_alloc | apply cur_setB | apply cur_drew | apply cur_drewN)); done) | omega | (simp only [gz, Value.cells, oneC]; first | done | omega) | ((simp only [List.mem_cons, List.not_mem_nil, or_false, gz]); omega) | rfl)) only [↓gsd, gs, ev, Nat.reduceAdd, Nat.reduceEqDiff, oneC, Value.cells, Option.isNone, gt, frT_self, frT_drew, frT_drew0, frT_alloc, ↓hk34]
  exact hK
structure Tab.WF (T : Tab) (N : Nat) : Prop where
  sort : ∀ k, SortE (T.row k)
  len : ∀ k, (T.row k).length ≤ N
theorem find_spec {w : World} {tb : Nat} {S : List Nat} {T : Tab} {N : Nat} {k : ByteArray} {lo : Int} {K : Value → World → Prop} (h : TabAt w tb S T) (hwf : T.WF N) (hN : N ≤ 1000000000000)
    (hK : ∀ w', Fr [] w w' → K (.tuple ([.int .i64 (idxE (T.row k) lo), .bool (hasE (T.row k) lo)] : List Value).toArray) w') : CallsN Try.prog 31 [.pointer (some ⟨tb, 0, none⟩), .string k, .int .i64 lo] w K := by
  have cw := cur w
  refine call31 ?_
  simp (maxSteps := 4000000) (disch := (first | assumption | exact List.not_mem_nil | exact Fr.refl _ _ | ((repeat (first | assumption | apply cur_alloc | apply cur_setB | apply cur_drew | apply cur_drewN)); done) | omega | (simp only [gz, Value.cells, oneC]; first | done | omega) | ((simp only [List.mem_cons, List.not_mem_nil, or_false, gz]); omega) | rfl)) only [↓gsd, gs, ev, Nat.reduceAdd, Nat.reduceEqDiff, oneC, Value.cells, Option.isNone, gt, frT_self, frT_drew, frT_drew0, frT_alloc, ↓hk31]
  refine row_spec h fun v hv _ => ?_
  try simp (maxSteps := 4000000) (disch := (first | assumption | exact List.not_mem_nil | exact Fr.refl _ _ | ((repeat (first | assumption | apply cur_alloc | apply cur_setB | apply cur_drew | apply cur_drewN)); done) | omega | (simp only [gz, Value.cells, oneC]; first | done | omega) | ((simp only [List.mem_cons, List.not_mem_nil, or_false, gz]); omega) | rfl)) only [↓gsd, gs, ev, Nat.reduceAdd, Nat.reduceEqDiff, oneC, Value.cells, Option.isNone, gt, frT_self, frT_drew, frT_drew0, frT_alloc, ↓hk31]
  refine bs_spec (l := T.row k) hv.sl (hwf.sort k) (by have := hwf.len k; omega) fun w2 hf2 => ?_
  have cw2 := cur w2
  try simp (maxSteps := 4000000) (disch := (first | assumption | exact List.not_mem_nil | exact Fr.refl _ _ | ((repeat (first | assumption | apply cur_alloc | apply cur_setB | apply cur_drew | apply cur_drewN)); done) | omega | (simp only [gz, Value.cells, oneC]; first | done | omega) | ((simp only [List.mem_cons, List.not_mem_nil, or_false, gz]); omega) | rfl)) only [↓gsd, gs, ev, Nat.reduceAdd, Nat.reduceEqDiff, oneC, Value.cells, Option.isNone, gt, frT_self, frT_drew, frT_drew0, frT_alloc, ↓hk31]
  exact hK _ hf2
theorem find_nil {w : World} {k : ByteArray} {lo : Int} {K : Value → World → Prop} (hK : ∀ w', Fr [] w w' → K (.tuple ([.int .i64 0, .bool false] : List Value).toArray) w') : CallsN Try.prog 31 [.pointer none, .string k, .int .i64 lo] w K := by
  have cw := cur w
  refine call31 ?_
  simp (maxSteps := 4000000) (disch := (first | assumption | exact List.not_mem_nil | exact Fr.refl _ _ | ((repeat (first | assumption | apply cur_alloc | apply cur_setB | apply cur_drew | apply cur_drewN)); done) | omega | (simp only [gz, Value.cells, oneC]; first | done | omega) | ((simp only [List.mem_cons, List.not_mem_nil, or_false, gz]); omega) | rfl)) only [↓gsd, gs, ev, Nat.reduceAdd, Nat.reduceEqDiff, oneC, Value.cells, Option.isNone, gt, frT_self, frT_drew, frT_drew0, frT_alloc, ↓hk31]
  refine row_nil ?_
  try simp (maxSteps := 4000000) (disch := (first | assumption | exact List.not_mem_nil | exact Fr.refl _ _ | ((repeat (first | assumption | apply cur_alloc | apply cur_setB | apply cur_drew | apply cur_drewN)); done) | omega | (simp only [gz, Value.cells, oneC]; first | done | omega) | ((simp only [List.mem_cons, List.not_mem_nil, or_false, gz]); omega) | rfl)) only [↓gsd, gs, ev, Nat.reduceAdd, Nat.reduceEqDiff, oneC, Value.cells, Option.isNone, gt, frT_self, frT_drew, frT_drew0, frT_alloc, ↓hk31]
  refine bs_spec (l := []) Sl.nil List.Pairwise.nil (by simp) fun w2 hf2 => ?_
  have cw2 := cur w2
  try simp (maxSteps := 4000000) (disch := (first | assumption | exact List.not_mem_nil | exact Fr.refl _ _ | ((repeat (first | assumption | apply cur_alloc | apply cur_setB | apply cur_drew | apply cur_drewN)); done) | omega | (simp only [gz, Value.cells, oneC]; first | done | omega) | ((simp only [List.mem_cons, List.not_mem_nil, or_false, gz]); omega) | rfl)) only [↓gsd, gs, ev, Nat.reduceAdd, Nat.reduceEqDiff, oneC, Value.cells, Option.isNone, gt, frT_self, frT_drew, frT_drew0, frT_alloc, ↓hk31]
  exact hK _ hf2
end Go.Proofs.Ytldmkhakjnglmaa
