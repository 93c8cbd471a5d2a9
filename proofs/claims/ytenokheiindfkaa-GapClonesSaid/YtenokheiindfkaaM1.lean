/- The gap in memory. -/
import Derived.Test.YtenokheiindfkaaM0
import Derived.Test.YtenokheiindfkaaL1
import Derived.Test.YtenokheiindfkaaG2
set_option linter.unusedVariables false
set_option linter.unusedSimpArgs false
set_option maxRecDepth 10000
namespace Go.Proofs.Ytenokheiindfkaa
open Go.VW
section
variable {α : Type}
def entV (V : α → Value) (ws : List (Int × α)) : List (Int × Value) := ws.map fun p => (p.1, V p.2)
structure GapAt (ty : TypeId) (V : α → Value) (w : World) (gb gm : Nat) (g : GS α) : Prop where
  head : w.heap[gb]? = some (.cells ([.int .i64 g.at_, .int .i64 g.most, .map (some gm)] : List Value).toArray ty (0, 0))
  map : MapAt (Value.int .i64) w.heap[gm]? (entV V g.ws)
theorem GapAt.frN {ty : TypeId} {V : α → Value} {w w' : World} {gb gm : Nat} {g : GS α} (h : GapAt ty V w gb gm g) (hf : Fr [] w w') : GapAt ty V w' gb gm g :=
  ⟨hf.getN h.head, by rw [hf.keepN _ h.map.lt]; exact h.map⟩
theorem GapAt.fr {ty : TypeId} {V : α → Value} {w w' : World} {gb gm : Nat} {g : GS α} (h : GapAt ty V w gb gm g) {M : List Nat} (hf : Fr M w w') (h1 : gb ∉ M) (h2 : gm ∉ M) : GapAt ty V w' gb gm g :=
  ⟨hf.get h.head h1, by rw [hf.keep _ h.map.lt h2]; exact h.map⟩
theorem GapAt.lt {ty : TypeId} {V : α → Value} {w : World} {gb gm : Nat} {g : GS α} (h : GapAt ty V w gb gm g) : gb < w.heap.size ∧ gm < w.heap.size ∧ gb ≠ gm := by
  obtain ⟨ents, clock, ho, _⟩ := h.map.ex
  refine ⟨lt_of_get _ _ h.head, lt_of_get _ _ ho, fun e => ?_⟩
  rw [← e, h.head] at ho
  cases ho
theorem entV_get (V : α → Value) (ws : List (Int × α)) (k : Int) : aget (entV V ws) k = (aget ws k).map V := aget_map ws V k
theorem entV_len (V : α → Value) (ws : List (Int × α)) : (entV V ws).length = ws.length := by simp [entV]
theorem entV_keys (V : α → Value) (ws : List (Int × α)) : (entV V ws).map (·.1) = ws.map (·.1) := by simp [entV, List.map_map, Function.comp_def]
theorem entV_del (V : α → Value) (ws : List (Int × α)) (k : Int) : adel (entV V ws) k = entV V (adel ws k) := adel_map ws V k
theorem entV_new (V : α → Value) (ws : List (Int × α)) (k : Int) (v : α) (h : aget ws k = none) : aset (entV V ws) k (V v) = entV V (ws ++ [(k, v)]) := by
  rw [aset_new _ _ _ (by rw [entV_get, h]; rfl)]; simp [entV]
end
/-- A record: its number, its keys' slice. -/
structure Rec where
  n : Int
  a : Option Addr
  l : Nat
  c : Nat
def encR (r : Rec) : List Value := [.int .i64 r.n, .slice r.a r.l r.c]
abbrev recV (r : Rec) : Value := .agg ([.int .i64 r.n, .slice r.a r.l r.c] : List Value).toArray
def mapN (o : Option Obj) : Nat := match o with
  | some (.map ents _) => ents.size
  | _ => 0
theorem MapAt.sizeN {κ : Type} [DecidableEq κ] {kv : κ → Value} {o : Option Obj} {es : List (κ × Value)} (h : MapAt kv o es) : mapN o = es.length := by
  obtain ⟨ents, clock, rfl, he, _⟩ := h.ex
  have := congrArg List.length he
  simpa [entL, mapN] using this
/-- The first numbers that lack. -/
def GS.lacks {α : Type} (g : GS α) : Int × Int := if g.ws.length = 0 then (0, 0) else (g.at_ + 1, ((sortI (g.ws.map (·.1))).head?).getD 0)
theorem cellsOf_ints (l : List Int) : cellsOf (fun v : Int => [Value.int .i64 v]) l = l.map (Value.int .i64) := by
  induction l with
  | nil => rfl
  | cons a l ih => simp only [cellsOf, List.flatMap_cons, List.map_cons] at *; rw [ih]; rfl
theorem sl_ints {w : World} {v : Value} {n : Nat} {l : List Int} {e : TypeId} (h : Own 1 e w v n (l.map (Value.int .i64))) : SlOf 1 (fun v : Int => [Value.int .i64 v]) w v l := by
  have hl := h.1
  simp at hl
  unfold SlOf
  rw [cellsOf_ints, hl]
  exact h.sl
theorem Own.mk {k : Nat} {e : TypeId} {w : World} {b n : Nat} {cs : List Value} (h : w.heap[b]? = some (.cells cs.toArray e (0, 0))) (hl : cs.length = n * k) (hn : n ≤ 1000000) : Own k e w (.slice (some ⟨b, 0, none⟩) n n) n cs :=
  ⟨hl, .inr ⟨b, n, cs.toArray, rfl, Nat.zero_le _, h, Nat.le_refl _, by unfold maxLen; omega, by simpa using hl, by simp [← hl]⟩⟩
theorem drain_none {α : Type} {f : Nat} {a : Int} {ws : List (Int × α)} (hf : ws.length ≤ f) (h : aget ws (a + 1) = none) : drain f a ws = ([], a, ws) := by
  cases f with
  | zero => rfl
  | succ f => simp [drain, h]
theorem drain_some {α : Type} {f : Nat} {a : Int} {ws : List (Int × α)} {v : α} (hf : ws.length ≤ f) (h : aget ws (a + 1) = some v) :
    ∃ f', f = f' + 1 ∧ (adel ws (a + 1)).length + 1 = ws.length ∧ (adel ws (a + 1)).length ≤ f' ∧ drain f a ws = (v :: (drain f' (a + 1) (adel ws (a + 1))).1, (drain f' (a + 1) (adel ws (a + 1))).2) := by
  have hm := List.length_pos_of_mem (aget_mem _ _ h)
  have hl : (adel ws (a + 1)).length = ws.length - 1 := by rw [adel_len, h]; rfl
  cases f with
  | zero => omega
  | succ f => exact ⟨f, rfl, by omega, by omega, by simp [drain, h]⟩
end Go.Proofs.Ytenokheiindfkaa
