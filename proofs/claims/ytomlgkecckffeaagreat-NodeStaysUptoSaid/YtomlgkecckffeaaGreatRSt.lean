/- NodeStays: a fill of a key that nobody wrote since is known open, and every Look at a commit from its reading on is answered with the history. Condition: the arguments are of bulk at most 1048576. -/
import Derived.Test.YtomlgkecckffeaaGreatYN
import Derived.Test.YtomlgkecckffeaaGreatYR
import Derived.JoinedCond
namespace Go.Proofs.YtomlgkecckffeaaGreat.nodeStays
open Go.ChangeShapes Go.WideShapes Go.ChangeAt Go.RowKit Go.VW
set_option linter.unusedVariables false
set_option linter.unnecessarySimpa false
set_option linter.unusedSimpArgs false
set_option maxRecDepth 100000 in
theorem lifted (os : Os) (started : os.Started) (H : Type) (enc : TypeId × Value → H) (F : Stop.Interp) :
  ReturnsInHanded {} Tryz.checked os 5 .any ((Rows.OpenSpec.upto Rows.nodeStaysSpec).pre6 enc Tryz.prog Tryz.f5 Rows.nodeStaysUptoRow.domain false) (((Rows.OpenSpec.upto Rows.nodeStaysSpec).at F).post enc Tryz.prog Tryz.f5 false true false false) := by
 refine returnsInHanded_of_cond (C := Tryz.checked) (s := (Rows.OpenSpec.upto Rows.nodeStaysSpec)) (k := Rows.uptoSmall) rfl own started (by kernel_rfl) Tryz.func5
  (OpenSpec.witness (enc := enc) (C := Tryz.checked) (s := (Rows.OpenSpec.upto Rows.nodeStaysSpec)) (k := Rows.uptoSmall) rfl false ⟨#[], #[.int .u8 0, .agg #[.slice none 0 0], .string ⟨#[]⟩, .int .u8 0, .int .u8 0, .int .u8 0], []⟩ 8 (by kernel_rfl) (by kernel_rfl) (by kernel_rfl)
   (x := ([.lit (.int .u8 0), .agg [.nil], .lit (.string []), .lit (.int .u8 0), .lit (.int .u8 0), .lit (.int .u8 0)], [], [])) (by kernel_rfl) rfl (by kernel_rfl)) ?_
 intro W base args ds gs before hval0 hW _ hk _
 show Calls Tryz.prog 5 args W fun e W' => ∃ v, e = .returned v ∧ Rows.nodeStaysSpec.post enc Tryz.prog Tryz.f5 false true false false W args v W'
 have hval : ∀ (j : Nat) t v, Tryz.f5.params[j]? = some t → args[j]? = some v → Value.okWide Tryz.prog W .any base t v := hval0
 have hW' := hW
 obtain ⟨p, q, hA0, hV, rfl, hfz, hnd⟩ := hW
 have hA : DataW.TrodAll enc Tryz.prog W 0 (fun _ => true) true Tryz.f5.params.toList args.toList ds p := hA0
 have hAk := hA
 rw [Tryz.params5] at hA hval
 obtain ⟨v0, vs0, d0, ds0, p0, q0, hargs, rfl, rfl, h0, r0⟩ := trodAll_cons hA
 obtain ⟨v1, vs1, d1, ds1, p1, q1, rfl, rfl, rfl, h1, r1⟩ := trodAll_cons r0
 obtain ⟨v2, vs2, d2, ds2, p2, q2, rfl, rfl, rfl, h2, r2⟩ := trodAll_cons r1
 obtain ⟨v3, vs3, d3, ds3, p3, q3, rfl, rfl, rfl, h3, r3⟩ := trodAll_cons r2
 obtain ⟨v4, vs4, d4, ds4, p4, q4, rfl, rfl, rfl, h4, r4⟩ := trodAll_cons r3
 obtain ⟨v5, vs5, d5, ds5, p5, q5, rfl, rfl, rfl, h5, r5⟩ := trodAll_cons r4
 obtain ⟨rfl, rfl, rfl⟩ := trodAll_nil r5
 obtain rfl : args = #[v0, v1, v2, v3, v4, v5] := by cases args; simp_all
 obtain ⟨rfl, rfl⟩ := trodVars_none hV
 have hb : Rows.uptoBulk d0 + Rows.uptoBulk d1 + Rows.uptoBulk d2 + Rows.uptoBulk d3 + Rows.uptoBulk d4 + Rows.uptoBulk d5 ≤ 1048576 := by
  have := of_decide_eq_true hk
  simp only [List.append_nil, Rows.uptoBulkAll] at this
  omega
 obtain ⟨a0, rfl, rfl, rfl, w0⟩ := open_int Tryz.underlying5 (hval 0 5 v0 rfl rfl) h0
 obtain ⟨n1, h1'⟩ := h1
 obtain ⟨pv, e1, vs, past, hpp⟩ := open_past h1'
 obtain ⟨fs1, hu1, _⟩ := u_past
 obtain ⟨cs1, hv1, _⟩ := okWide_struct hu1 (hval 1 58 v1 rfl rfl)
 have ev1 : v1 = .agg (encP1 pv).toArray := by
  rw [hv1] at e1 ⊢
  simp only [Value.cells] at e1
  rw [← e1]
  try rfl
 subst ev1
 obtain ⟨n2, h2'⟩ := h2
 obtain ⟨s2, hs2⟩ := okWide_string Tryz.underlying9 (hval 2 9 v2 rfl rfl)
 subst hs2
 obtain ⟨a3, rfl, rfl, rfl, w3⟩ := open_int Tryz.underlying5 (hval 3 5 v3 rfl rfl) h3
 obtain ⟨a4, rfl, rfl, rfl, w4⟩ := open_int Tryz.underlying5 (hval 4 5 v4 rfl rfl) h4
 obtain ⟨a5, rfl, rfl, rfl, w5⟩ := open_int Tryz.underlying5 (hval 5 5 v5 rfl rfl) h5
 refine (Calls.mono (CallsN.calls ((stays_spec (K := fun v w' => v = .bool true ∧ Fr [] W w') (hpp.at_ (by simp only at hb ⊢; omega)) (by have := u8_range w0; omega) (by have := u8_range w3; omega) (by have := u8_range w4; omega) (by have := u8_range w5; omega) fun w' hf => ⟨rfl, hf⟩))) fun e w' he => (by
  obtain ⟨v, rfl, rfl, hg⟩ := he
  exact ⟨rfl, hg⟩ : e = .returned (.bool true) ∧ Fr [] W w')).mono fun e W' ⟨he, hg⟩ => ?_
 subst he
 have hlt := hW'.lt
 have hW'' := hW'
 exact ⟨_, rfl, post_fr (pv := []) hW' (fun _ _ _ => trodAll_cons_mk (shut_bool Tryz.underlying4 _) trodAll_mk0) (fun sp hsp => trodAll_carry (DataW.TrodAll.respare kids full (by rw [Tryz.params5]; decide) hAk (fun p hp => hsp p (by simpa using hp))) (fun p hp => hg.below.same (hlt p (by simpa using hp)))) (fun _ _ => rfl) (by simp) hg (ok_one (by kernel_rfl) rfl (okWide_bool_mk Tryz.underlying4 _))⟩
theorem over : Rows.nodeStaysUptoRow.holds Tryz.pinned (Rows.OpenSpec.upto Rows.nodeStaysSpec) :=
 OpenClaim.holds_of_cond 5 Tryz.f5 rfl rfl rfl rfl rfl rfl rfl ⟨rfl, rfl, rfl, rfl, rfl⟩ rfl rfl rfl rfl rfl (by kernel_rfl) Tryz.func5 (by kernel_rfl)
  (of_decide_eq_true (by kernel_rfl)) (by unfold Func.isWrapper; first | (rw [if_pos (by decide +kernel)]; kernel_rfl) | (rw [if_neg (by decide +kernel)]; exact ⟨rfl, rfl⟩))
  (fun os started H enc _ F => lifted os started H enc F)
theorem proved : Rows.NodeStaysUptoSaid := over
#print axioms proved
end Go.Proofs.YtomlgkecckffeaaGreat.nodeStays
