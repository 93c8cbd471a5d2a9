/- A script of the table's laws, opened. -/
import Derived.Test.YtldmkhakjnglmaaR0
import Derived.Test.YtldmkhakjnglmaaRB
set_option linter.unusedVariables false
set_option linter.unusedSimpArgs false
set_option maxRecDepth 10000
namespace Go.Proofs.Ytldmkhakjnglmaa
open Go.VW
theorem un_tOps10 : Try.prog.underlying 22 = some (.slice 40) := by kernel_rfl
section
variable {H : Type} {ec : TypeId × Value → H} {w : World} {base : Nat} {spare : Nat → Bool} {held : Bool}
theorem open_ops10 {n : Nat} {cs : List Value} {x : DataW H × List MemPlace} (h : DataW.trod ec Try.prog w base spare held n 22 cs = some x) :
    ∃ v xs, cs = [v] ∧ SlOf 12 encOp10 w v xs ∧ xs.length ≤ Rows.uptoBulk x.1 := by
  obtain ⟨v, xs, h1, h2, h3, h4⟩ := open_slOfD (enc := encOp10) (fun _ _ => True) un_tOps10 coOp10 (by decide) encOp10_len (fun n cs y hy => by
    obtain ⟨e, he, _⟩ := open_op10 hy
    exact ⟨e, he, trivial⟩) h
  refine ⟨v, xs, h1, h2, ?_⟩
  rcases h4 with ⟨_, e⟩ | ⟨els, sp, e, hl, _⟩
  · simp [e]
  · rw [e]
    have := bulk_len els
    simp only [Rows.uptoBulk]; omega
end
end Go.Proofs.Ytldmkhakjnglmaa
