/- NodeAnswers: Look answers just where some fact of the key meets the pin, from such a fact, the newest. Condition: the arguments are of bulk at most 1048576. -/
import Derived.Test.YtomlgkecckffeaaGreatRK
import Derived.Test.YtomlgkecckffeaaGreatYC
import Derived.JoinedCond
namespace Go.Proofs.YtomlgkecckffeaaGreat.nodeAnswers
open Go.ChangeShapes Go.WideShapes Go.ChangeAt Go.RowKit Go.VW
set_option linter.unusedVariables false
set_option linter.unnecessarySimpa false
set_option linter.unusedSimpArgs false
set_option maxRecDepth 100000 in
theorem lifted (os : Os) (started : os.Started) (H : Type) (enc : TypeId × Value → H) (F : Stop.Interp) :
  ReturnsInHanded {} Tryz.checked os 4 .any ((Rows.OpenSpec.upto Rows.nodeAnswersSpec).pre6 enc Tryz.prog Tryz.f4 Rows.nodeAnswersUptoRow.domain false) (((Rows.OpenSpec.upto Rows.nodeAnswersSpec).at F).post enc Tryz.prog Tryz.f4 false true false false) := by
 refine returnsInHanded_of_cond (C := Tryz.checked) (s := (Rows.OpenSpec.upto Rows.nodeAnswersSpec)) (k := Rows.uptoSmall) rfl own started (by kernel_rfl) Tryz.func4
  (OpenSpec.witness (enc := enc) (C := Tryz.checked) (s := (Rows.OpenSpec.upto Rows.nodeAnswersSpec)) (k := Rows.uptoSmall) rfl false ⟨#[], #[.agg #[.int .i64 0, .int .i64 0, .int .i64 0, .int .i64 0, .int .i64 0, .int .i64 0, .int .i64 0, .int .i64 0], .slice none 0 0, .string ⟨#[]⟩, .agg #[.int .i64 0, .int .i64 0]], []⟩ 8 (by kernel_rfl) (by kernel_rfl) (by kernel_rfl)
   (x := ([.agg [.lit (.int .i64 0), .lit (.int .i64 0), .lit (.int .i64 0), .lit (.int .i64 0), .lit (.int .i64 0), .lit (.int .i64 0), .lit (.int .i64 0), .lit (.int .i64 0)], .nil, .lit (.string []), .agg [.lit (.int .i64 0), .lit (.int .i64 0)]], [], [])) (by kernel_rfl) rfl (by kernel_rfl)) ?_
 intro W base args ds gs before hval0 hW _ hk _
 show Calls Tryz.prog 4 args W fun e W' => ∃ v, e = .returned v ∧ Rows.nodeAnswersSpec.post enc Tryz.prog Tryz.f4 false true false false W args v W'
 have hval : ∀ (j : Nat) t v, Tryz.f4.params[j]? = some t → args[j]? = some v → Value.okWide Tryz.prog W .any base t v := hval0
 have hW' := hW
 obtain ⟨p, q, hA0, hV, rfl, hfz, hnd⟩ := hW
 have hA : DataW.TrodAll enc Tryz.prog W 0 (fun _ => true) true Tryz.f4.params.toList args.toList ds p := hA0
 have hAk := hA
 rw [Tryz.params4] at hA hval
 obtain ⟨v0, vs0, d0, ds0, p0, q0, hargs, rfl, rfl, h0, r0⟩ := trodAll_cons hA
 obtain ⟨v1, vs1, d1, ds1, p1, q1, rfl, rfl, rfl, h1, r1⟩ := trodAll_cons r0
 obtain ⟨v2, vs2, d2, ds2, p2, q2, rfl, rfl, rfl, h2, r2⟩ := trodAll_cons r1
 obtain ⟨v3, vs3, d3, ds3, p3, q3, rfl, rfl, rfl, h3, r3⟩ := trodAll_cons r2
 obtain ⟨rfl, rfl, rfl⟩ := trodAll_nil r3
 obtain rfl : args = #[v0, v1, v2, v3] := by cases args; simp_all
 obtain ⟨rfl, rfl⟩ := trodVars_none hV
 have hb : Rows.uptoBulk d0 + Rows.uptoBulk d1 + Rows.uptoBulk d2 + Rows.uptoBulk d3 ≤ 1048576 := by
  have := of_decide_eq_true hk
  simp only [List.append_nil, Rows.uptoBulkAll] at this
  omega
 obtain ⟨n0, h0'⟩ := h0
 obtain ⟨c, e0, _⟩ := open_cfg h0'
 obtain ⟨fs0, hu0, _⟩ := u_cfg
 obtain ⟨cs0, hv0, _⟩ := okWide_struct hu0 (hval 0 25 v0 rfl rfl)
 have ev0 : v0 = .agg (encCfg c).toArray := by
  rw [hv0] at e0 ⊢
  simp only [Value.cells] at e0
  rw [← e0]
  try rfl
 subst ev0
 obtain ⟨a1, l1, c1, hs1⟩ := okWide_slice Tryz.underlying46 (hval 1 46 v1 rfl rfl)
 obtain ⟨n1, h1'⟩ := h1
 obtain ⟨sv, ops, e1, hsl, hm, hos⟩ := open_ops12 h1'
 have ev1 : v1 = sv := by
  subst hs1
  simpa [Value.cells] using e1
 subst ev1
 have hu1 : l1 ≤ 1048576 := by
  rw [hs1] at h1'
  have := bulk_slice un_tOps12 h1'
  simp only at this
  omega
 obtain ⟨n2, h2'⟩ := h2
 obtain ⟨s2, hs2⟩ := okWide_string Tryz.underlying9 (hval 2 9 v2 rfl rfl)
 subst hs2
 obtain ⟨n3, h3'⟩ := h3
 obtain ⟨p, e3, _⟩ := open_pinP h3'
 obtain ⟨fs3, hu3, _⟩ := u_pin
 obtain ⟨cs3, hv3, _⟩ := okWide_struct hu3 (hval 3 48 v3 rfl rfl)
 have ev3 : v3 = .agg (encPin p).toArray := by
  rw [hv3] at e3 ⊢
  simp only [Value.cells] at e3
  rw [← e3]
  try rfl
 subst ev3
 refine (Calls.mono (CallsN.calls ((answers_spec (K := fun v w' => v = .bool true ∧ Fr [] W w') (opsAt hsl hm hos (by simp only at hb ⊢; omega)) fun w' hf => ⟨rfl, hf⟩))) fun e w' he => (by
  obtain ⟨v, rfl, rfl, hg⟩ := he
  exact ⟨rfl, hg⟩ : e = .returned (.bool true) ∧ Fr [] W w')).mono fun e W' ⟨he, hg⟩ => ?_
 subst he
 have hlt := hW'.lt
 have hW'' := hW'
 exact ⟨_, rfl, post_fr (pv := []) hW' (fun _ _ _ => trodAll_cons_mk (shut_bool Tryz.underlying4 _) trodAll_mk0) (fun sp hsp => trodAll_carry (DataW.TrodAll.respare kids full (by rw [Tryz.params4]; decide) hAk (fun p hp => hsp p (by simpa using hp))) (fun p hp => hg.below.same (hlt p (by simpa using hp)))) (fun _ _ => rfl) (by simp) hg (ok_one (by kernel_rfl) rfl (okWide_bool_mk Tryz.underlying4 _))⟩
theorem over : Rows.nodeAnswersUptoRow.holds Tryz.pinned (Rows.OpenSpec.upto Rows.nodeAnswersSpec) :=
 OpenClaim.holds_of_cond 4 Tryz.f4 rfl rfl rfl rfl rfl rfl rfl ⟨rfl, rfl, rfl, rfl, rfl⟩ rfl rfl rfl rfl rfl (by kernel_rfl) Tryz.func4 (by kernel_rfl)
  (of_decide_eq_true (by kernel_rfl)) (by unfold Func.isWrapper; first | (rw [if_pos (by decide +kernel)]; kernel_rfl) | (rw [if_neg (by decide +kernel)]; exact ⟨rfl, rfl⟩))
  (fun os started H enc _ F => lifted os started H enc F)
theorem proved : Rows.NodeAnswersUptoSaid := over
#print axioms proved
end Go.Proofs.YtomlgkecckffeaaGreat.nodeAnswers
