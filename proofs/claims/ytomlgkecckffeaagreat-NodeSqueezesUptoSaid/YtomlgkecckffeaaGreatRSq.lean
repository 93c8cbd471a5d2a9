/- NodeSqueezes: squeezed again and again, the entries go in the order of the policy, all of them, and nothing else changes. Condition: the arguments are of bulk at most 1048576. -/
import Derived.Test.YtomlgkecckffeaaGreatYF
import Derived.Test.YtomlgkecckffeaaGreatYL
import Derived.JoinedCond
namespace Go.Proofs.YtomlgkecckffeaaGreat.nodeSqueezes
open Go.ChangeShapes Go.WideShapes Go.ChangeAt Go.RowKit Go.VW
set_option linter.unusedVariables false
set_option linter.unnecessarySimpa false
set_option linter.unusedSimpArgs false
set_option maxRecDepth 100000 in
theorem lifted (os : Os) (started : os.Started) (H : Type) (enc : TypeId × Value → H) (F : Stop.Interp) :
  ReturnsInHanded {} Tryz.checked os 7 .any ((Rows.OpenSpec.upto Rows.nodeSqueezesSpec).pre6 enc Tryz.prog Tryz.f7 Rows.nodeSqueezesUptoRow.domain false) (((Rows.OpenSpec.upto Rows.nodeSqueezesSpec).at F).post enc Tryz.prog Tryz.f7 false true false false) := by
 refine returnsInHanded_of_cond (C := Tryz.checked) (s := (Rows.OpenSpec.upto Rows.nodeSqueezesSpec)) (k := Rows.uptoSmall) rfl own started (by kernel_rfl) Tryz.func7
  (OpenSpec.witness (enc := enc) (C := Tryz.checked) (s := (Rows.OpenSpec.upto Rows.nodeSqueezesSpec)) (k := Rows.uptoSmall) rfl false ⟨#[], #[.agg #[.int .i64 0, .int .i64 0, .int .i64 0, .int .i64 0, .int .i64 0, .int .i64 0, .int .i64 0, .int .i64 0], .slice none 0 0], []⟩ 8 (by kernel_rfl) (by kernel_rfl) (by kernel_rfl)
   (x := ([.agg [.lit (.int .i64 0), .lit (.int .i64 0), .lit (.int .i64 0), .lit (.int .i64 0), .lit (.int .i64 0), .lit (.int .i64 0), .lit (.int .i64 0), .lit (.int .i64 0)], .nil], [], [])) (by kernel_rfl) rfl (by kernel_rfl)) ?_
 intro W base args ds gs before hval0 hW _ hk _
 show Calls Tryz.prog 7 args W fun e W' => ∃ v, e = .returned v ∧ Rows.nodeSqueezesSpec.post enc Tryz.prog Tryz.f7 false true false false W args v W'
 have hval : ∀ (j : Nat) t v, Tryz.f7.params[j]? = some t → args[j]? = some v → Value.okWide Tryz.prog W .any base t v := hval0
 have hW' := hW
 obtain ⟨p, q, hA0, hV, rfl, hfz, hnd⟩ := hW
 have hA : DataW.TrodAll enc Tryz.prog W 0 (fun _ => true) true Tryz.f7.params.toList args.toList ds p := hA0
 have hAk := hA
 rw [Tryz.params7] at hA hval
 obtain ⟨v0, vs0, d0, ds0, p0, q0, hargs, rfl, rfl, h0, r0⟩ := trodAll_cons hA
 obtain ⟨v1, vs1, d1, ds1, p1, q1, rfl, rfl, rfl, h1, r1⟩ := trodAll_cons r0
 obtain ⟨rfl, rfl, rfl⟩ := trodAll_nil r1
 obtain rfl : args = #[v0, v1] := by cases args; simp_all
 obtain ⟨rfl, rfl⟩ := trodVars_none hV
 have hb : Rows.uptoBulk d0 + Rows.uptoBulk d1 ≤ 1048576 := by
  have := of_decide_eq_true hk
  simp only [List.append_nil, Rows.uptoBulkAll] at this
  omega
 obtain ⟨n0, h0'⟩ := h0
 obtain ⟨c, e0, _⟩ := open_cfg h0'
 obtain ⟨fs0, hu0, _⟩ := u_cfg
 obtain ⟨cs0, hv0, _⟩ := okWide_struct hu0 (hval 0 25 v0 rfl rfl)
 have ev0 : v0 = .agg (encCfg c).toArray := by
  rw [hv0] at e0 ⊢
  simp only [Value.cells] at e0
  rw [← e0]
  try rfl
 subst ev0
 obtain ⟨a1, l1, c1, hs1⟩ := okWide_slice Tryz.underlying46 (hval 1 46 v1 rfl rfl)
 obtain ⟨n1, h1'⟩ := h1
 obtain ⟨sv, ops, e1, hsl, hm, hos⟩ := open_ops12 h1'
 have ev1 : v1 = sv := by
  subst hs1
  simpa [Value.cells] using e1
 subst ev1
 have hu1 : l1 ≤ 1048576 := by
  rw [hs1] at h1'
  have := bulk_slice un_tOps12 h1'
  simp only at this
  omega
 refine (Calls.mono (CallsN.calls ((squeezes_spec (K := fun v w' => v = .bool true ∧ Fr [] W w') (opsAt hsl hm hos (by simp only at hb ⊢; omega)) fun w' hf => ⟨rfl, hf⟩))) fun e w' he => (by
  obtain ⟨v, rfl, rfl, hg⟩ := he
  exact ⟨rfl, hg⟩ : e = .returned (.bool true) ∧ Fr [] W w')).mono fun e W' ⟨he, hg⟩ => ?_
 subst he
 have hlt := hW'.lt
 have hW'' := hW'
 exact ⟨_, rfl, post_fr (pv := []) hW' (fun _ _ _ => trodAll_cons_mk (shut_bool Tryz.underlying4 _) trodAll_mk0) (fun sp hsp => trodAll_carry (DataW.TrodAll.respare kids full (by rw [Tryz.params7]; decide) hAk (fun p hp => hsp p (by simpa using hp))) (fun p hp => hg.below.same (hlt p (by simpa using hp)))) (fun _ _ => rfl) (by simp) hg (ok_one (by kernel_rfl) rfl (okWide_bool_mk Tryz.underlying4 _))⟩
theorem over : Rows.nodeSqueezesUptoRow.holds Tryz.pinned (Rows.OpenSpec.upto Rows.nodeSqueezesSpec) :=
 OpenClaim.holds_of_cond 7 Tryz.f7 rfl rfl rfl rfl rfl rfl rfl ⟨rfl, rfl, rfl, rfl, rfl⟩ rfl rfl rfl rfl rfl (by kernel_rfl) Tryz.func7 (by kernel_rfl)
  (of_decide_eq_true (by kernel_rfl)) (by unfold Func.isWrapper; first | (rw [if_pos (by decide +kernel)]; kernel_rfl) | (rw [if_neg (by decide +kernel)]; exact ⟨rfl, rfl⟩))
  (fun os started H enc _ F => lifted os started H enc F)
theorem proved : Rows.NodeSqueezesUptoSaid := over
#print axioms proved
end Go.Proofs.YtomlgkecckffeaaGreat.nodeSqueezes
