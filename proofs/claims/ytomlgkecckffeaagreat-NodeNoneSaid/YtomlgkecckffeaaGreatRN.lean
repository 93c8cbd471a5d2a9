/- NodeNone: a nil node answers nothing, and knows nothing. No condition. -/
import Derived.Test.YtomlgkecckffeaaGreatR0
import Derived.Test.YtomlgkecckffeaaGreatNE
namespace Go.Proofs.YtomlgkecckffeaaGreat.nodeNone
open Go.ChangeShapes Go.WideShapes Go.ChangeAt Go.RowKit Go.VW
set_option linter.unusedVariables false
set_option linter.unnecessarySimpa false
set_option linter.unusedSimpArgs false
set_option maxRecDepth 100000 in
theorem lifted (os : Os) (started : os.Started) (H : Type) (enc : TypeId × Value → H) :
  ReturnsInHanded {} Tryz.checked os 13 .any (Rows.nodeNoneSpec.pre6 enc Tryz.prog Tryz.f13 Rows.nodeNoneRow.domain false) (Rows.nodeNoneSpec.post enc Tryz.prog Tryz.f13 false true false false) := by
 refine returnsInHanded_of_change (C := Tryz.checked) own started (by kernel_rfl) Tryz.func13
  (ChangeSpec.witness6 (enc := enc) (C := Tryz.checked) false ⟨#[], #[.agg #[.int .u8 0, .string ⟨#[]⟩, .int .i64 0, .int .i64 0, .string ⟨#[]⟩, .bool false, .string ⟨#[]⟩, .int .i64 0, .int .i64 0, .int .i64 0, .slice none 0 0, .int .i64 0]], []⟩ 8 (by kernel_rfl) (by kernel_rfl) (by kernel_rfl) (by kernel_rfl)) ?_
 intro W base args ds gs before hval0 hW hcnd _
 have hval : ∀ (j : Nat) t v, Tryz.f13.params[j]? = some t → args[j]? = some v → Value.okWide Tryz.prog W .any base t v := hval0
 have hW' := hW
 obtain ⟨p, q, hA0, hV, rfl, hfz, hnd⟩ := hW
 have hA : DataW.TrodAll enc Tryz.prog W 0 (fun _ => true) true Tryz.f13.params.toList args.toList ds p := hA0
 have hAk := hA
 rw [Tryz.params13] at hA hval
 obtain ⟨v0, vs0, d0, ds0, p0, q0, hargs, rfl, rfl, h0, r0⟩ := trodAll_cons hA
 obtain ⟨rfl, rfl, rfl⟩ := trodAll_nil r0
 obtain rfl : args = #[v0] := by cases args; simp_all
 obtain ⟨rfl, rfl⟩ := trodVars_none hV
 obtain ⟨n0, h0'⟩ := h0
 obtain ⟨o, e0, _⟩ := open_op12 h0'
 obtain ⟨fs0, hu0, _⟩ := u_op12
 obtain ⟨cs0, hv0, _⟩ := okWide_struct hu0 (hval 0 50 v0 rfl rfl)
 have ev0 : v0 = .agg (encOp12 o).toArray := by
  rw [hv0] at e0 ⊢
  simp only [Value.cells] at e0
  rw [← e0]
  try rfl
 subst ev0
 refine (Calls.mono (CallsN.calls ((none_spec (K := fun v w' => v = .bool true ∧ Fr [] W w') fun w' hf => ⟨rfl, hf⟩))) fun e w' he => (by
  obtain ⟨v, rfl, rfl, hg⟩ := he
  exact ⟨rfl, hg⟩ : e = .returned (.bool true) ∧ Fr [] W w')).mono fun e W' ⟨he, hg⟩ => ?_
 subst he
 have hlt := hW'.lt
 have hW'' := hW'
 exact ⟨_, rfl, post_fr (pv := []) hW' (fun _ _ _ => trodAll_cons_mk (shut_bool Tryz.underlying4 _) trodAll_mk0) (fun sp hsp => trodAll_carry (DataW.TrodAll.respare kids full (by rw [Tryz.params13]; decide) hAk (fun p hp => hsp p (by simpa using hp))) (fun p hp => hg.below.same (hlt p (by simpa using hp)))) (fun _ _ => rfl) (by simp) hg (ok_one (by kernel_rfl) rfl (okWide_bool_mk Tryz.underlying4 _))⟩
theorem over : Rows.nodeNoneRow.holds Tryz.pinned (OpenSpec.ofChange Rows.nodeNoneSpec) :=
 OpenClaim.holds_of_wide 13 Tryz.f13 rfl rfl rfl rfl rfl rfl rfl ⟨rfl, rfl, rfl, rfl, rfl⟩ rfl rfl rfl rfl rfl (by kernel_rfl) Tryz.func13 (by kernel_rfl)
  (of_decide_eq_true (by kernel_rfl)) (by unfold Func.isWrapper; first | (rw [if_pos (by decide +kernel)]; kernel_rfl) | (rw [if_neg (by decide +kernel)]; exact ⟨rfl, rfl⟩))
  (fun os started H enc _ => lifted os started H enc)
theorem proved : Rows.NodeNoneSaid := over
#print axioms proved
end Go.Proofs.YtomlgkecckffeaaGreat.nodeNone
