/- TableNone: a nil table is empty, and stays so; the zero one is empty. No condition. -/
import Derived.Test.YtldmkhakjnglmaaR0
import Derived.Test.YtldmkhakjnglmaaRK
import Derived.Test.YtldmkhakjnglmaaAF
namespace Go.Proofs.Ytldmkhakjnglmaa.tableNone
open Go.ChangeShapes Go.WideShapes Go.ChangeAt Go.RowKit Go.VW
set_option linter.unusedVariables false
set_option linter.unnecessarySimpa false
set_option linter.unusedSimpArgs false
set_option maxRecDepth 100000 in
theorem lifted (os : Os) (started : os.Started) (H : Type) (enc : TypeId × Value → H) :
    ReturnsInHanded {} Try.checked os 6 .any (Rows.tableNoneSpec.pre6 enc Try.prog Try.f6 Rows.tableNoneRow.domain false) (Rows.tableNoneSpec.post enc Try.prog Try.f6 false true false false) := by
  refine returnsInHanded_of_change (C := Try.checked) own started (by kernel_rfl) Try.func6
    (ChangeSpec.witness6 (enc := enc) (C := Try.checked) false ⟨#[], #[.agg #[.int .u8 0, .string ⟨#[]⟩, .bool false, .string ⟨#[]⟩, .int .i64 0, .int .i64 0, .bool false, .int .i64 0, .int .i64 0, .int .i64 0, .int .i64 0, .int .i64 0]], []⟩ 8 (by kernel_rfl) (by kernel_rfl) (by kernel_rfl) (by kernel_rfl)) ?_
  intro W base args ds gs before hval0 hW hcnd _
  have hval : ∀ (j : Nat) t v, Try.f6.params[j]? = some t → args[j]? = some v → Value.okWide Try.prog W .any base t v := hval0
  have hW' := hW
  obtain ⟨p, q, hA0, hV, rfl, hfz, hnd⟩ := hW
  have hA : DataW.TrodAll enc Try.prog W 0 (fun _ => true) true Try.f6.params.toList args.toList ds p := hA0
  have hAk := hA
  rw [Try.params6] at hA hval
  obtain ⟨v0, vs0, d0, ds0, p0, q0, hargs, rfl, rfl, h0, r0⟩ := trodAll_cons hA
  obtain ⟨rfl, rfl, rfl⟩ := trodAll_nil r0
  obtain rfl : args = #[v0] := by cases args; simp_all
  obtain ⟨rfl, rfl⟩ := trodVars_none hV
  obtain ⟨n0, h0'⟩ := h0
  obtain ⟨o, e0, _⟩ := open_op10 h0'
  obtain ⟨fs0, hu0, _⟩ := u_op10
  obtain ⟨cs0, hv0, _⟩ := okWide_struct hu0 (hval 0 40 v0 rfl rfl)
  have ev0 : v0 = .agg (encOp10 o).toArray := by
    rw [hv0] at e0 ⊢
    simp only [Value.cells] at e0
    rw [← e0]
    try rfl
  subst ev0
  refine (Calls.mono (CallsN.calls ((none_op (K := fun v w' => v = .bool true ∧ Fr [] W w') fun w' hf => ⟨rfl, hf⟩))) fun e w' he => (by
    obtain ⟨v, rfl, rfl, hg⟩ := he
    exact ⟨rfl, hg⟩ : e = .returned (.bool true) ∧ Fr [] W w')).mono fun e W' ⟨he, hg⟩ => ?_
  subst he
  have hlt := hW'.lt
  have hW'' := hW'
  exact ⟨_, rfl, post_fr (pv := []) hW' (fun _ _ _ => trodAll_cons_mk (shut_bool Try.underlying4 _) trodAll_mk0) (fun sp hsp => trodAll_carry (DataW.TrodAll.respare kids full (by rw [Try.params6]; decide) hAk (fun p hp => hsp p (by simpa using hp))) (fun p hp => hg.below.same (hlt p (by simpa using hp)))) (fun _ _ => rfl) (by simp) hg (ok_one (by kernel_rfl) rfl (okWide_bool_mk Try.underlying4 _))⟩
theorem over : Rows.tableNoneRow.holds Try.pinned (OpenSpec.ofChange Rows.tableNoneSpec) :=
  OpenClaim.holds_of_wide 6 Try.f6 rfl rfl rfl rfl rfl rfl rfl ⟨rfl, rfl, rfl, rfl, rfl⟩ rfl rfl rfl rfl rfl (by kernel_rfl) Try.func6 (by kernel_rfl)
    (of_decide_eq_true (by kernel_rfl)) (by unfold Func.isWrapper; first | (rw [if_pos (by decide +kernel)]; kernel_rfl) | (rw [if_neg (by decide +kernel)]; exact ⟨rfl, rfl⟩))
    (fun os started H enc _ => lifted os started H enc)
theorem proved : Rows.TableNoneSaid := over
#print axioms proved
end Go.Proofs.Ytldmkhakjnglmaa.tableNone
