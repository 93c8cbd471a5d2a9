/- StreamNone at an Op. -/
import Derived.Test.YtenokheiindfkabDA
import Derived.Test.YtenokheiindfkabR0
namespace Go.Proofs.Ytenokheiindfkab
open Go.VW
theorem none_op {w : World} {o : Op6} {ks : Ks} {K : Value → World → Prop} (h : o.ok w ks) (hK : ∀ w', Fr [] w w' → K (.bool true) w') : CallsN Try.prog 7 [.agg (encOp6 o).toArray] w K := by
  obtain ⟨kd, kv, s, n, m⟩ := o
  obtain ⟨a, c, hv⟩ := h.keys.form
  simp only at hv
  subst hv
  exact none_law hK
end Go.Proofs.Ytenokheiindfkab
