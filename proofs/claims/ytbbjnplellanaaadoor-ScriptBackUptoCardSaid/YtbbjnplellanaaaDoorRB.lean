/- The bulk of arguments. -/
import Derived.Test.YtbbjnplellanaaaDoorC9
import Derived.Test.YtbbjnplellanaaaDoorRows
set_option linter.unusedVariables false
set_option linter.unusedSimpArgs false
set_option maxRecDepth 10000
namespace Go.Proofs.YtbbjnplellanaaaDoor
open Go.VW
theorem len_of {α : Type} {k : Nat} {enc : α → List Value} {w : World} {v : Value} {xs : List α} {a : Option Addr} {l c N : Nat} (hs : v = .slice a l c) (h : SlOf k enc w v xs) (hl : l ≤ N) : xs.length ≤ N := by
 obtain ⟨_, _, hf⟩ := h.form
 rw [hs] at hf
 cases hf
 exact hl
theorem u8_range {a : Int} (h : (Lit.int .u8 a).wf = true) : 0 ≤ a ∧ a < 256 := by
 have e1 : IntKind.u8.min = 0 := by decide
 have e2 : IntKind.u8.max = 255 := by decide
 simp only [Lit.wf, e1, e2, Bool.and_eq_true, decide_eq_true_eq] at h
 omega
section
variable {H : Type} {ec : TypeId × Value → H} {w : World} {base : Nat} {spare : Nat → Bool} {held : Bool}
theorem bulk_len (l : List (DataW H)) : l.length ≤ Rows.uptoBulkAll l := by
 induction l with
 | nil => simp [Rows.uptoBulkAll]
 | cons x r ih =>
   have : 1 ≤ Rows.uptoBulk x := by
    cases x with
    | lit l => cases l <;> simp [Rows.uptoBulk]
    | nil => simp [Rows.uptoBulk]
    | ptr d => simp [Rows.uptoBulk]
    | slice elems spare => simp [Rows.uptoBulk]
    | agg parts => simp [Rows.uptoBulk]
    | iface t d => simp [Rows.uptoBulk]
    | map entries => simp [Rows.uptoBulk]
    | held h => simp [Rows.uptoBulk]
   simp only [Rows.uptoBulkAll, List.length_cons]; omega
theorem bulk_slice {t e : TypeId} {n : Nat} {a : Option Addr} {l c : Nat} {x : DataW H × List MemPlace} (ht : Tryd.prog.underlying t = some (.slice e)) (h : DataW.trod ec Tryd.prog w base spare held n t [.slice a l c] = some x) : l ≤ Rows.uptoBulk x.1 := by
 rcases Go.Deep.open_slice ht h with ⟨h1, _⟩ | ⟨a', len, cap, m, n', D, Pl, h1, _, _, _, _, h2, _⟩
 ·simp only [List.cons.injEq, Value.slice.injEq, and_true] at h1
  omega
 ·simp only [List.cons.injEq, Value.slice.injEq, and_true] at h1
  rw [h2]
  simp only [Rows.uptoBulk]
  have := bulk_len ((List.range len).map D)
  simp only [List.length_map, List.length_range] at this
  omega
end
end Go.Proofs.YtbbjnplellanaaaDoor
