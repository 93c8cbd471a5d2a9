/- GapWhole: all that is put in comes out, in order, whatever the order in which it comes. No condition. -/
import Derived.Test.YtenokheiindfkaaRK
import Derived.Test.YtenokheiindfkaaO4
namespace Go.Proofs.Ytenokheiindfkaa.gapWhole
open Go.ChangeShapes Go.WideShapes Go.ChangeAt Go.RowKit Go.VW
set_option linter.unusedVariables false
set_option linter.unnecessarySimpa false
theorem u8_range {a : Int} (h : (Lit.int .u8 a).wf = true) : 0 ≤ a ∧ a < 256 := by
  have e1 : IntKind.u8.min = 0 := by decide
  have e2 : IntKind.u8.max = 255 := by decide
  simp only [Lit.wf, e1, e2, Bool.and_eq_true, decide_eq_true_eq] at h
  omega
theorem un5 : Try.prog.underlying 5 = some (.int .u8) := by kernel_rfl
theorem un75 : Try.prog.underlying 75 = some (.slice 5) := by kernel_rfl
theorem co5 : Try.prog.cellsOf 5 = 1 := by kernel_rfl
theorem open_u8s {H : Type} {ec : TypeId × Value → H} {w : World} {base : Nat} {spare : Nat → Bool} {held : Bool} {n : Nat} {cs : List Value} {x : DataW H × List MemPlace} (h : DataW.trod ec Try.prog w base spare held n 75 cs = some x) :
    ∃ v ps, cs = [v] ∧ SlOf 1 encU8 w v ps ∧ ps.length ≤ maxLen ∧ ∀ x ∈ ps, 0 ≤ x ∧ x < 256 := by
  obtain ⟨v, xs, h1, h2, h3, h4⟩ := open_slOf (enc := encU8) (fun _ x => 0 ≤ x ∧ x < 256) un75 co5 (by decide) (fun _ => rfl) (fun n cs y hy => by
    obtain ⟨a, ha, _, hw⟩ := DataW.trod_int un5 hy
    exact ⟨a, ha, fun _ => u8_range hw⟩) h
  exact ⟨v, xs, h1, h2, h3, fun x hx => by
    obtain ⟨i, hi⟩ := List.getElem?_of_mem hx
    exact h4 i x hi⟩
theorem walk (m : Int) (pv : Value) (ps : List Int) (W : World) (hm : 0 ≤ m ∧ m < 256) (h : SlOf 1 encU8 W pv ps) (hl : ps.length ≤ maxLen) (hr : ∀ x ∈ ps, 0 ≤ x ∧ x < 256) :
    Calls Try.prog 8 #[.int .u8 m, pv] W fun e w' => e = .returned (.bool true) ∧ Fr [] W w' := by
  obtain ⟨N, rfl⟩ : ∃ N : Nat, m = N := ⟨m.toNat, by omega⟩
  exact Calls.mono (CallsN.calls (whole_spec (N := N) (K := fun v w' => v = .bool true ∧ Fr [] W w') (by omega) h hr (by unfold maxLen at hl; omega) fun w' hf => ⟨rfl, hf⟩)) fun e w' he => by
    obtain ⟨v, rfl, rfl, hg⟩ := he
    exact ⟨rfl, hg⟩
set_option maxRecDepth 100000 in
theorem lifted (os : Os) (started : os.Started) (H : Type) (enc : TypeId × Value → H) :
    ReturnsInHanded {} Try.checked os 8 .any (Rows.gapWholeSpec.pre6 enc Try.prog Try.f8 Rows.gapWholeRow.domain false) (Rows.gapWholeSpec.post enc Try.prog Try.f8 false true false false) := by
  refine returnsInHanded_of_change (C := Try.checked) own started (by kernel_rfl) Try.func8
    (ChangeSpec.witness6 (enc := enc) (C := Try.checked) false ⟨#[], #[.int .u8 0, .slice none 0 0], []⟩ 8 (by kernel_rfl) (by kernel_rfl) (by kernel_rfl) (by kernel_rfl)) ?_
  intro W base args ds gs before hval0 hW hcnd _
  have hval : ∀ (j : Nat) t v, Try.f8.params[j]? = some t → args[j]? = some v → Value.okWide Try.prog W .any base t v := hval0
  have hW' := hW
  obtain ⟨p, q, hA0, hV, rfl, hfz, hnd⟩ := hW
  have hA : DataW.TrodAll enc Try.prog W 0 (fun _ => true) true Try.f8.params.toList args.toList ds p := hA0
  have hAk := hA
  rw [Try.params8] at hA hval
  obtain ⟨v0, vs0, d0, ds0, p0, q0, hargs, rfl, rfl, h0, r0⟩ := trodAll_cons hA
  obtain ⟨v1, vs1, d1, ds1, p1, q1, rfl, rfl, rfl, h1, r1⟩ := trodAll_cons r0
  obtain ⟨rfl, rfl, rfl⟩ := trodAll_nil r1
  obtain rfl : args = #[v0, v1] := by cases args; simp_all
  obtain ⟨rfl, rfl⟩ := trodVars_none hV
  obtain ⟨a0, rfl, rfl, rfl, w0⟩ := open_int Try.underlying5 (hval 0 5 v0 rfl rfl) h0
  obtain ⟨a1, l1, c1, hs1⟩ := okWide_slice Try.underlying75 (hval 1 75 v1 rfl rfl)
  obtain ⟨n1, h1'⟩ := h1
  obtain ⟨pv, ps, e1, hp, hm, hr⟩ := open_u8s h1'
  have ev : v1 = pv := by
    subst hs1
    simpa [Value.cells] using e1
  subst ev
  refine (walk a0 v1 ps W (u8_range w0) hp hm hr).mono fun e W' ⟨he, hg⟩ => ?_
  subst he
  have hlt := hW'.lt
  have hW'' := hW'
  exact ⟨_, rfl, post_fr (pv := []) hW' (fun _ _ _ => trodAll_cons_mk (shut_bool Try.underlying4 _) trodAll_mk0) (fun sp hsp => trodAll_carry (DataW.TrodAll.respare kids full (by rw [Try.params8]; decide) hAk (fun p hp => hsp p (by simpa using hp))) (fun p hp => hg.below.same (hlt p (by simpa using hp)))) (fun _ _ => rfl) (by simp) hg (ok_one (by kernel_rfl) rfl (okWide_bool_mk Try.underlying4 _))⟩
theorem over : Rows.gapWholeRow.holds Try.pinned (OpenSpec.ofChange Rows.gapWholeSpec) :=
  OpenClaim.holds_of_wide 8 Try.f8 rfl rfl rfl rfl rfl rfl rfl ⟨rfl, rfl, rfl, rfl, rfl⟩ rfl rfl rfl rfl rfl (by kernel_rfl) Try.func8 (by kernel_rfl)
    (of_decide_eq_true (by kernel_rfl)) (by unfold Func.isWrapper; first | (rw [if_pos (by decide +kernel)]; kernel_rfl) | (rw [if_neg (by decide +kernel)]; exact ⟨rfl, rfl⟩))
    (fun os started H enc _ => lifted os started H enc)
theorem proved : Rows.GapWholeSaid := over
#print axioms proved
end Go.Proofs.Ytenokheiindfkaa.gapWhole
