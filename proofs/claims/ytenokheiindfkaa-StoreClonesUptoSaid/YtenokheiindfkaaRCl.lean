/- StoreClones: a clone goes its own way; writes that were handed in, and versions that were answered, may be written over. Condition: the arguments are of bulk at most 1048576. -/
import Derived.Test.YtenokheiindfkaaTR
import Derived.Test.YtenokheiindfkaaRK
import Derived.Test.YtenokheiindfkaaU4
import Derived.JoinedCond
namespace Go.Proofs.Ytenokheiindfkaa.storeClones
open Go.ChangeShapes Go.WideShapes Go.ChangeAt Go.RowKit Go.VW
set_option linter.unusedVariables false
set_option linter.unnecessarySimpa false
set_option linter.unusedSimpArgs false
set_option maxRecDepth 100000 in
theorem lifted (os : Os) (started : os.Started) (H : Type) (enc : TypeId × Value → H) (F : Stop.Interp) :
    ReturnsInHanded {} Try.checked os 13 .any ((Rows.OpenSpec.upto Rows.storeClonesSpec).pre6 enc Try.prog Try.f13 Rows.storeClonesUptoRow.domain false) (((Rows.OpenSpec.upto Rows.storeClonesSpec).at F).post enc Try.prog Try.f13 false true false false) := by
  refine returnsInHanded_of_cond (C := Try.checked) (s := (Rows.OpenSpec.upto Rows.storeClonesSpec)) (k := Rows.uptoSmall) rfl own started (by kernel_rfl) Try.func13
    (OpenSpec.witness (enc := enc) (C := Try.checked) (s := (Rows.OpenSpec.upto Rows.storeClonesSpec)) (k := Rows.uptoSmall) rfl false ⟨#[], #[.int .i64 0, .slice none 0 0, .slice none 0 0], []⟩ 8 (by kernel_rfl) (by kernel_rfl) (by kernel_rfl)
      (x := ([.lit (.int .i64 0), .nil, .nil], [], [])) (by kernel_rfl) rfl (by kernel_rfl)) ?_
  intro W base args ds gs before hval0 hW _ hk _
  show Calls Try.prog 13 args W fun e W' => ∃ v, e = .returned v ∧ Rows.storeClonesSpec.post enc Try.prog Try.f13 false true false false W args v W'
  have hval : ∀ (j : Nat) t v, Try.f13.params[j]? = some t → args[j]? = some v → Value.okWide Try.prog W .any base t v := hval0
  have hW' := hW
  obtain ⟨p, q, hA0, hV, rfl, hfz, hnd⟩ := hW
  have hA : DataW.TrodAll enc Try.prog W 0 (fun _ => true) true Try.f13.params.toList args.toList ds p := hA0
  have hAk := hA
  rw [Try.params13] at hA hval
  obtain ⟨v0, vs0, d0, ds0, p0, q0, hargs, rfl, rfl, h0, r0⟩ := trodAll_cons hA
  obtain ⟨v1, vs1, d1, ds1, p1, q1, rfl, rfl, rfl, h1, r1⟩ := trodAll_cons r0
  obtain ⟨v2, vs2, d2, ds2, p2, q2, rfl, rfl, rfl, h2, r2⟩ := trodAll_cons r1
  obtain ⟨rfl, rfl, rfl⟩ := trodAll_nil r2
  obtain rfl : args = #[v0, v1, v2] := by cases args; simp_all
  obtain ⟨rfl, rfl⟩ := trodVars_none hV
  have hb : Rows.uptoBulk d0 + Rows.uptoBulk d1 + Rows.uptoBulk d2 ≤ 1048576 := by
    have := of_decide_eq_true hk
    simp only [List.append_nil, Rows.uptoBulkAll] at this
    omega
  obtain ⟨a0, rfl, rfl, rfl, w0⟩ := open_int Try.underlying3 (hval 0 3 v0 rfl rfl) h0
  obtain ⟨a1, l1, c1, hs1⟩ := okWide_slice Try.underlying90 (hval 1 90 v1 rfl rfl)
  obtain ⟨n1, h1'⟩ := h1
  obtain ⟨sv0, oa, e1, ha, hna, hoa⟩ := open_ops5 h1'
  have ev1 : v1 = sv0 := by
    subst hs1
    simpa [Value.cells] using e1
  subst ev1
  have hu1 : l1 ≤ 1048576 := by
    rw [hs1] at h1'
    have := bulk_slice un_tOps5 h1'
    simp only at this
    omega
  obtain ⟨a2, l2, c2, hs2⟩ := okWide_slice Try.underlying90 (hval 2 90 v2 rfl rfl)
  obtain ⟨n2, h2'⟩ := h2
  obtain ⟨sv1, ob, e2, hbb, hnb, hob⟩ := open_ops5 h2'
  have ev2 : v2 = sv1 := by
    subst hs2
    simpa [Value.cells] using e2
  subst ev2
  have hu2 : l2 ≤ 1048576 := by
    rw [hs2] at h2'
    have := bulk_slice un_tOps5 h2'
    simp only at this
    omega
  refine (Calls.mono (CallsN.calls ((clones5 (K := fun v w' => v = .bool true ∧ Fr [] W w') ha (fun o ho => (hoa o ho).imp fun ws h => ⟨h.1, by have := h.2; simp only at this; omega⟩) hbb (fun o ho => (hob o ho).imp fun ws h => h.1) (by simp only at hna hnb; omega) fun w' hf => ⟨rfl, hf⟩))) fun e w' he => (by
    obtain ⟨v, rfl, rfl, hg⟩ := he
    exact ⟨rfl, hg⟩ : e = .returned (.bool true) ∧ Fr [] W w')).mono fun e W' ⟨he, hg⟩ => ?_
  subst he
  have hlt := hW'.lt
  have hW'' := hW'
  exact ⟨_, rfl, post_fr (pv := []) hW' (fun _ _ _ => trodAll_cons_mk (shut_bool Try.underlying4 _) trodAll_mk0) (fun sp hsp => trodAll_carry (DataW.TrodAll.respare kids full (by rw [Try.params13]; decide) hAk (fun p hp => hsp p (by simpa using hp))) (fun p hp => hg.below.same (hlt p (by simpa using hp)))) (fun _ _ => rfl) (by simp) hg (ok_one (by kernel_rfl) rfl (okWide_bool_mk Try.underlying4 _))⟩
theorem over : Rows.storeClonesUptoRow.holds Try.pinned (Rows.OpenSpec.upto Rows.storeClonesSpec) :=
  OpenClaim.holds_of_cond 13 Try.f13 rfl rfl rfl rfl rfl rfl rfl ⟨rfl, rfl, rfl, rfl, rfl⟩ rfl rfl rfl rfl rfl (by kernel_rfl) Try.func13 (by kernel_rfl)
    (of_decide_eq_true (by kernel_rfl)) (by unfold Func.isWrapper; first | (rw [if_pos (by decide +kernel)]; kernel_rfl) | (rw [if_neg (by decide +kernel)]; exact ⟨rfl, rfl⟩))
    (fun os started H enc _ F => lifted os started H enc F)
theorem proved : Rows.StoreClonesUptoSaid := over
#print axioms proved
end Go.Proofs.Ytenokheiindfkaa.storeClones
