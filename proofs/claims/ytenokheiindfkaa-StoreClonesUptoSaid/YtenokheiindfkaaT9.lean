/- step walked: the store and the reference side by side. -/
import Derived.Test.YtenokheiindfkaaT8
import Derived.Test.YtenokheiindfkaaS9
set_option linter.unusedVariables false
set_option linter.unusedSimpArgs false
set_option maxRecDepth 10000
namespace Go.Proofs.Ytenokheiindfkaa
open Go.VW
structure Both5 (w0 w : World) (b bm rb : Nat) (own : List (List Wr)) : Prop where
  ex : ∃ (st : St) (v : Value), StoreAt w b bm st ∧ st.WF ∧ HistX st own ∧ R5At w rb v st.most own ∧ ∀ g, v.ownBlock = some g → w0.heap.size ≤ g
  b0 : w0.heap.size ≤ b
  bm0 : w0.heap.size ≤ bm
  rb0 : w0.heap.size ≤ rb
  fr : Fr [] w0 w
theorem Both5.frN {w0 w w' : World} {b bm rb : Nat} {own : List (List Wr)} (h : Both5 w0 w b bm rb own) (hf : Fr [] w w') : Both5 w0 w' b bm rb own := by
  obtain ⟨⟨st, v, h1, h2, h3, h4, h5⟩, a, b', c, d⟩ := h
  exact ⟨⟨st, v, h1.frN hf, h2, h3, h4.frN hf, h5⟩, a, b', c, d.trans' hf⟩
/-- The blocks of a store and of a reference are apart. -/
theorem apart5 {w : World} {b bm rb most : Nat} {st : St} {v : Value} {own : List (List Wr)} (h : StoreAt w b bm st) (h' : R5At w rb v most own) : rb ≠ b ∧ rb ≠ bm ∧ v.ownBlock ≠ some b ∧ v.ownBlock ≠ some bm := by
  obtain ⟨es, hm, _⟩ := h.rows
  obtain ⟨ents, clock, ho, _⟩ := hm.ex
  refine ⟨fun e => ?_, fun e => ?_, own_head h'.own h.head (by decide), fun e => ?_⟩
  · have := h.head
    rw [← e, h'.head] at this
    simp only [Option.some.injEq, Obj.cells.injEq] at this
    have h2 := this.2.1
    revert h2; decide
  · rw [← e, h'.head] at ho
    cases ho
  · rcases h'.own.2 with ⟨rfl, _⟩ | ⟨g, cap, cur, rfl, _, hg, _⟩
    · simp [Value.ownBlock] at e
    · simp only [Value.ownBlock, Option.some.injEq] at e
      subst e
      rw [ho] at hg; cases hg
theorem oldest_eq {st : St} {own : List (List Wr)} (h : HistX st own) (key : ByteArray) : st.oldest key = oldL st.most (allP (past own) key) := by
  rw [all_hv key own h.chk]
  unfold St.oldest oldL
  rw [h.rows key]
  by_cases hq : st.most < (hv own key).length
  · simp only [hq, decide_true, if_true]
    unfold keptL
    rw [List.head?_drop]
  · simp [hq]
def StepG5 (K : Value → World → Prop) (e : Env) (w : World) : Prop := W3 Try.prog 99 V47 c47_4 (seqQ (fun e w => W3 Try.prog 99 V47 c47_2 (retQ Try.prog [.tmp 6] K) e w) (retQ Try.prog [.tmp 6] K)) e w
/-- An Op. -/
structure Op5 where
  kind : Int
  wv : Value
  key : ByteArray
  c : Int
def encOp5 (o : Op5) : List Value := [.int .u8 o.kind, o.wv, .string o.key, .int .i64 o.c]
theorem encOp5_len (o : Op5) : (encOp5 o).length = 4 := rfl
structure Op5.ok (w : World) (o : Op5) (ws : List Wr) : Prop where
  sl : SlOf 3 encWr w o.wv ws
  len : ws.length ≤ maxLen
/-- Blocks of texts stay. -/
def Keep9 (w w' : World) : Prop := ∀ (g : Nat) (cs : Array Value) (fr : Nat × Nat), w.heap[g]? = some (Obj.cells cs 9 fr) → w'.heap[g]? = some (Obj.cells cs 9 fr)
theorem Keep9.refl (w : World) : Keep9 w w := fun _ _ _ h => h
theorem Keep9.trans {w w' w'' : World} (h : Keep9 w w') (h' : Keep9 w' w'') : Keep9 w w'' := fun g cs fr q => h' g cs fr (h g cs fr q)
theorem Keep9.of {w w' : World} {M : List Nat} (hf : Fr M w w') (hM : ∀ x ∈ M, ∀ cs fr, w.heap[x]? ≠ some (.cells cs 9 fr)) : Keep9 w w' := fun g cs fr q => hf.get q fun hm => hM g hm cs fr q
theorem Keep9.frN {w w' : World} (hf : Fr [] w w') : Keep9 w w' := Keep9.of hf (by simp)
theorem own_keep9 {w w' : World} {v : Value} {n : Nat} {cs : List Value} (h : Own 1 9 w v n cs) (hk : Keep9 w w') : Own 1 9 w' v n cs := by
  refine ⟨h.1, ?_⟩
  rcases h.2 with h0 | ⟨g, cap, cur, hv, hb0, hg, h1⟩
  · exact .inl h0
  · exact .inr ⟨g, cap, cur, hv, hb0, hk _ _ _ hg, h1⟩
end Go.Proofs.Ytenokheiindfkaa
