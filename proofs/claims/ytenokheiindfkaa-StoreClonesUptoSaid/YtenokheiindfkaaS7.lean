/- What Commit keeps; put; the fixed part of the laws. -/
import Derived.Test.YtenokheiindfkaaS6
set_option linter.unusedVariables false
set_option linter.unusedSimpArgs false
set_option maxRecDepth 10000
namespace Go.Proofs.Ytenokheiindfkaa
open Go.VW
/-- What holds of the rows while the commit number n is written, with the keys ks still to come. -/
def RowsOK (most : Nat) (n : Int) (ks : List ByteArray) (rows : Rows) : Prop :=
  ∀ k r, aget rows k = some r → r.list ≠ [] ∧ r.list.length ≤ most ∧ r.list.Pairwise (fun a b => a.n < b.n) ∧ (∀ x ∈ r.list, 1 ≤ x.n ∧ x.n ≤ n) ∧ (k ∈ ks → ∀ x ∈ r.list, x.n < n)
theorem row_put_ok {most : Nat} {n : Int} {r : Row} {x : Wr} (hm : 1 ≤ most) (hn : 1 ≤ n) (h1 : r.list.length ≤ most) (h2 : r.list.Pairwise (fun a b => a.n < b.n)) (h3 : ∀ x ∈ r.list, 1 ≤ x.n ∧ x.n < n) :
    (r.put most n x).list ≠ [] ∧ (r.put most n x).list.length ≤ most ∧ (r.put most n x).list.Pairwise (fun a b => a.n < b.n) ∧ ∀ y ∈ (r.put most n x).list, 1 ≤ y.n ∧ y.n ≤ n := by
  have hl := Row.put_len (n := n) (x := x) h1
  have hfull : (r.list ++ [verOf n x]).Pairwise (fun a b => a.n < b.n) := by
    rw [List.pairwise_append]
    refine ⟨h2, by simp, fun a ha b hb => ?_⟩
    simp at hb
    subst hb
    exact (h3 a ha).2
  have hall : ∀ y ∈ r.list ++ [verOf n x], 1 ≤ y.n ∧ y.n ≤ n := by
    intro y hy
    rcases List.mem_append.1 hy with h | h
    · have := h3 y h; omega
    · simp at h; subst h; exact ⟨hn, Int.le_refl _⟩
  unfold Row.put at hl ⊢
  split
  · rename_i hlt
    simp only [hlt, if_true] at hl
    refine ⟨?_, hl, hfull.sublist (List.drop_sublist _ _), fun y hy => hall y (List.mem_of_mem_drop hy)⟩
    intro e
    have := congrArg List.length e
    simp at this
    omega
  · rename_i hlt
    simp only [hlt, if_false] at hl
    exact ⟨by simp, hl, hfull, hall⟩
theorem rowsOK_put {most : Nat} {n : Int} {ks : List ByteArray} {rows : Rows} {x : Wr} (hm : 1 ≤ most) (hn : 1 ≤ n) (hx : x.key ∉ ks) (h : RowsOK most n (x.key :: ks) rows) : RowsOK most n ks (put most n rows x) := by
  intro k r hr
  unfold Go.Proofs.Ytenokheiindfkaa.put at hr
  rw [aget_aset] at hr
  by_cases hk : x.key = k
  · simp only [hk, if_true, Option.some.injEq] at hr
    subst hr
    have : ((aget rows k).getD ⟨[], false⟩).list.length ≤ most ∧ ((aget rows k).getD ⟨[], false⟩).list.Pairwise (fun a b => a.n < b.n) ∧ ∀ y ∈ ((aget rows k).getD ⟨[], false⟩).list, 1 ≤ y.n ∧ y.n < n := by
      cases ha : aget rows k with
      | none => simp
      | some r =>
        obtain ⟨_, h2, h3, h4, h5⟩ := h k r ha
        exact ⟨h2, h3, fun y hy => ⟨(h4 y hy).1, h5 (by simp [hk]) y hy⟩⟩
    obtain ⟨a, b, c, d⟩ := row_put_ok (x := x) hm hn this.1 this.2.1 this.2.2
    exact ⟨a, b, c, d, fun hks => absurd hks (hk ▸ hx)⟩
  · simp only [hk, if_false] at hr
    obtain ⟨a, b, c, d, e⟩ := h k r hr
    exact ⟨a, b, c, d, fun hks => e (List.mem_cons_of_mem _ hks)⟩
theorem rowsOK_fold {most : Nat} {n : Int} (hm : 1 ≤ most) (hn : 1 ≤ n) : ∀ (ws : List Wr) (rows : Rows), (ws.map (·.key)).Nodup → RowsOK most n (ws.map (·.key)) rows → RowsOK most n [] (ws.foldl (put most n) rows)
  | [], rows, _, h => h
  | x :: ws, rows, hnd, h => by
    simp only [List.map_cons, List.nodup_cons] at hnd
    exact rowsOK_fold hm hn ws _ hnd.2 (rowsOK_put hm hn hnd.1 h)
theorem chk_nodup {ws : List Wr} (h : chk ws = 0) : (ws.map (·.key)).Nodup := by
  unfold chk at h
  split at h
  · cases h
  · split at h
    · split at h
      · assumption
      · cases h
    · cases h
theorem St.WF.commit {st : St} (h : st.WF) (ws : List Wr) : (st.commit ws).2.WF := by
  unfold St.commit
  split
  · exact h
  · rename_i hc
    split
    · exact h
    · rename_i hl
      have hn := chk_nodup (by simpa using hc)
      have := rowsOK_fold (n := st.last + 1) h.m1 (by have := h.l0; omega) ws st.rows hn fun k r hr => by
        obtain ⟨a, b, c, d⟩ := h.rows k r hr
        exact ⟨a, b, c, fun x hx => by have := d x hx; omega, fun _ x hx => by have := d x hx; omega⟩
      exact ⟨h.m1, h.m2, by have := h.l0; show 0 ≤ st.last + 1; omega, by show st.last + 1 ≤ _; omega, fun k r hr => by
        obtain ⟨a, b, c, d, _⟩ := this k r hr
        exact ⟨a, b, c, d⟩⟩
theorem put_spec {k d : ByteArray} {w : World} {K : Value → World → Prop} (hK : ∀ w', Fr [] w w' → K (.agg (encWr ⟨k, true, d⟩).toArray) w') : CallsN Try.prog 23 [.string k, .string d] w K := by
  have cw := cur w
  refine call23 ?_
  unfold encWr at hK
  simp (maxSteps := 4000000) (disch := (first | assumption | exact List.not_mem_nil | exact Fr.refl _ _ | ((repeat (first | assumption | apply cur_alloc | apply cur_setB | apply cur_drew | apply cur_drewN)); done) | omega | (simp only [gz, Value.cells, oneC]; first | done | omega) | ((simp only [List.mem_cons, List.not_mem_nil, or_false, gz]); omega) | rfl)) only [↓gsd, gs, ev, Nat.reduceAdd, Nat.reduceEqDiff, oneC, Value.cells, Option.isNone, gt, ↓hk23]
  refine hK _ ?_
  (repeat (first | exact Fr.refl _ _ | assumption | with_reducible apply Fr.alloc | with_reducible apply Fr.drew | with_reducible refine Fr.setB ?_ _ _ (.inr (by first | omega | (simp only [gz]; omega))) | with_reducible refine Fr.setB ?_ _ _ (.inl (by first | assumption | simp)) | with_reducible refine Fr.trans' ?_ (by assumption)))
end Go.Proofs.Ytenokheiindfkaa
