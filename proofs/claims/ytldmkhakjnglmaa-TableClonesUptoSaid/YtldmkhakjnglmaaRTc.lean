/- TableClones: a clone goes its own way; lists that were answered may be written over. Condition: the arguments are of bulk at most 1048576. -/
import Derived.Test.YtldmkhakjnglmaaRQ
import Derived.Test.YtldmkhakjnglmaaRK
import Derived.Test.YtldmkhakjnglmaaZC
import Derived.JoinedCond
namespace Go.Proofs.Ytldmkhakjnglmaa.tableClones
open Go.ChangeShapes Go.WideShapes Go.ChangeAt Go.RowKit Go.VW
set_option linter.unusedVariables false
set_option linter.unnecessarySimpa false
set_option linter.unusedSimpArgs false
set_option maxRecDepth 100000 in
theorem lifted (os : Os) (started : os.Started) (H : Type) (enc : TypeId × Value → H) (F : Stop.Interp) :
    ReturnsInHanded {} Try.checked os 5 .any ((Rows.OpenSpec.upto Rows.tableClonesSpec).pre6 enc Try.prog Try.f5 Rows.tableClonesUptoRow.domain false) (((Rows.OpenSpec.upto Rows.tableClonesSpec).at F).post enc Try.prog Try.f5 false true false false) := by
  refine returnsInHanded_of_cond (C := Try.checked) (s := (Rows.OpenSpec.upto Rows.tableClonesSpec)) (k := Rows.uptoSmall) rfl own started (by kernel_rfl) Try.func5
    (OpenSpec.witness (enc := enc) (C := Try.checked) (s := (Rows.OpenSpec.upto Rows.tableClonesSpec)) (k := Rows.uptoSmall) rfl false ⟨#[], #[.slice none 0 0, .slice none 0 0], []⟩ 8 (by kernel_rfl) (by kernel_rfl) (by kernel_rfl)
      (x := ([.nil, .nil], [], [])) (by kernel_rfl) rfl (by kernel_rfl)) ?_
  intro W base args ds gs before hval0 hW _ hk _
  show Calls Try.prog 5 args W fun e W' => ∃ v, e = .returned v ∧ Rows.tableClonesSpec.post enc Try.prog Try.f5 false true false false W args v W'
  have hval : ∀ (j : Nat) t v, Try.f5.params[j]? = some t → args[j]? = some v → Value.okWide Try.prog W .any base t v := hval0
  have hW' := hW
  obtain ⟨p, q, hA0, hV, rfl, hfz, hnd⟩ := hW
  have hA : DataW.TrodAll enc Try.prog W 0 (fun _ => true) true Try.f5.params.toList args.toList ds p := hA0
  have hAk := hA
  rw [Try.params5] at hA hval
  obtain ⟨v0, vs0, d0, ds0, p0, q0, hargs, rfl, rfl, h0, r0⟩ := trodAll_cons hA
  obtain ⟨v1, vs1, d1, ds1, p1, q1, rfl, rfl, rfl, h1, r1⟩ := trodAll_cons r0
  obtain ⟨rfl, rfl, rfl⟩ := trodAll_nil r1
  obtain rfl : args = #[v0, v1] := by cases args; simp_all
  obtain ⟨rfl, rfl⟩ := trodVars_none hV
  have hb : Rows.uptoBulk d0 + Rows.uptoBulk d1 ≤ 1048576 := by
    have := of_decide_eq_true hk
    simp only [List.append_nil, Rows.uptoBulkAll] at this
    omega
  obtain ⟨a0, l0, c0, hs0⟩ := okWide_slice Try.underlying22 (hval 0 22 v0 rfl rfl)
  obtain ⟨n0, h0'⟩ := h0
  obtain ⟨sv0, oa, e0, ha, hna⟩ := open_ops10 h0'
  have ev0 : v0 = sv0 := by
    subst hs0
    simpa [Value.cells] using e0
  subst ev0
  have hu0 : l0 ≤ 1048576 := by
    rw [hs0] at h0'
    have := bulk_slice un_tOps10 h0'
    simp only at this
    omega
  obtain ⟨a1, l1, c1, hs1⟩ := okWide_slice Try.underlying22 (hval 1 22 v1 rfl rfl)
  obtain ⟨n1, h1'⟩ := h1
  obtain ⟨sv1, ob, e1, hbb, hnb⟩ := open_ops10 h1'
  have ev1 : v1 = sv1 := by
    subst hs1
    simpa [Value.cells] using e1
  subst ev1
  have hu1 : l1 ≤ 1048576 := by
    rw [hs1] at h1'
    have := bulk_slice un_tOps10 h1'
    simp only at this
    omega
  refine (Calls.mono (CallsN.calls ((clones10_law (K := fun v w' => v = .bool true ∧ Fr [] W w') ha hbb (by simp only at hna hnb; omega) (by simp only at hna hnb; omega) fun w' hf => ⟨rfl, hf⟩))) fun e w' he => (by
    obtain ⟨v, rfl, rfl, hg⟩ := he
    exact ⟨rfl, hg⟩ : e = .returned (.bool true) ∧ Fr [] W w')).mono fun e W' ⟨he, hg⟩ => ?_
  subst he
  have hlt := hW'.lt
  have hW'' := hW'
  exact ⟨_, rfl, post_fr (pv := []) hW' (fun _ _ _ => trodAll_cons_mk (shut_bool Try.underlying4 _) trodAll_mk0) (fun sp hsp => trodAll_carry (DataW.TrodAll.respare kids full (by rw [Try.params5]; decide) hAk (fun p hp => hsp p (by simpa using hp))) (fun p hp => hg.below.same (hlt p (by simpa using hp)))) (fun _ _ => rfl) (by simp) hg (ok_one (by kernel_rfl) rfl (okWide_bool_mk Try.underlying4 _))⟩
theorem over : Rows.tableClonesUptoRow.holds Try.pinned (Rows.OpenSpec.upto Rows.tableClonesSpec) :=
  OpenClaim.holds_of_cond 5 Try.f5 rfl rfl rfl rfl rfl rfl rfl ⟨rfl, rfl, rfl, rfl, rfl⟩ rfl rfl rfl rfl rfl (by kernel_rfl) Try.func5 (by kernel_rfl)
    (of_decide_eq_true (by kernel_rfl)) (by unfold Func.isWrapper; first | (rw [if_pos (by decide +kernel)]; kernel_rfl) | (rw [if_neg (by decide +kernel)]; exact ⟨rfl, rfl⟩))
    (fun os started H enc _ F => lifted os started H enc F)
theorem proved : Rows.TableClonesUptoSaid := over
#print axioms proved
end Go.Proofs.Ytldmkhakjnglmaa.tableClones
