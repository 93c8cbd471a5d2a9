/- StreamFirst: going on from First to First meets each record that has the key, and no other. No condition. -/
import Derived.Test.YtenokheiindfkabR0
import Derived.Test.YtenokheiindfkabRK
import Derived.Test.YtenokheiindfkabD9
namespace Go.Proofs.Ytenokheiindfkab.streamFirst
open Go.ChangeShapes Go.WideShapes Go.ChangeAt Go.RowKit Go.VW
set_option linter.unusedVariables false
theorem walk (lv : Value) (vs : List Value) (ls : List Ks) (key : ByteArray) (W : World) (h : ListS W lv vs ls) (hm : ls.length ≤ maxLen) :
    Calls Try.prog 3 #[lv, .string key] W fun e w' => e = .returned (.bool true) ∧ Fr [] W w' :=
  Calls.mono (CallsN.calls (first_law (s := key) (K := fun v w' => v = .bool true ∧ Fr [] W w') h hm fun w' hf => ⟨rfl, hf⟩)) fun e w' he => by
    obtain ⟨v, rfl, rfl, hg⟩ := he
    exact ⟨rfl, hg⟩
set_option maxRecDepth 100000 in
theorem lifted (os : Os) (started : os.Started) (H : Type) (enc : TypeId × Value → H) :
    ReturnsInHanded {} Try.checked os 3 .any (Rows.streamFirstSpec.pre6 enc Try.prog Try.f3 Rows.streamFirstRow.domain false) (Rows.streamFirstSpec.post enc Try.prog Try.f3 false true false false) := by
  refine returnsInHanded_of_change (C := Try.checked) own started (by kernel_rfl) Try.func3
    (ChangeSpec.witness6 (enc := enc) (C := Try.checked) false ⟨#[], #[.slice none 0 0, .string ⟨#[]⟩], []⟩ 8 (by kernel_rfl) (by kernel_rfl) (by kernel_rfl) (by kernel_rfl)) ?_
  intro W base args ds gs before hval0 hW hcnd _
  have hval : ∀ (j : Nat) t v, Try.f3.params[j]? = some t → args[j]? = some v → Value.okWide Try.prog W .any base t v := hval0
  have hW' := hW
  obtain ⟨p, q, hA0, hV, rfl, hfz, hnd⟩ := hW
  have hA : DataW.TrodAll enc Try.prog W 0 (fun _ => true) true Try.f3.params.toList args.toList ds p := hA0
  have hAk := hA
  rw [Try.params3] at hA hval
  obtain ⟨v1, vs1, d1, ds1, p1, q1, hargs, rfl, rfl, h1, r1⟩ := trodAll_cons hA
  obtain ⟨v2, vs2, d2, ds2, p2, q2, rfl, rfl, rfl, h2, r2⟩ := trodAll_cons r1
  obtain ⟨rfl, rfl, rfl⟩ := trodAll_nil r2
  obtain rfl : args = #[v1, v2] := by cases args; simp_all
  obtain ⟨rfl, rfl⟩ := trodVars_none hV
  obtain ⟨n2, h2'⟩ := h2
  obtain ⟨s2, hs2⟩ := okWide_string Try.underlying9 (hval 1 9 v2 rfl rfl)
  subst hs2
  obtain ⟨a1, l1, c1, hs1⟩ := okWide_slice Try.underlying22 (hval 0 22 v1 rfl rfl)
  obtain ⟨n1, h1'⟩ := h1
  obtain ⟨lv, vs, ls, e1, hl, hm⟩ := open_lists h1'
  have ev : v1 = lv := by
    subst hs1
    simpa [Value.cells] using e1
  subst ev
  refine (walk v1 vs ls s2 W hl hm).mono fun e W' ⟨he, hg⟩ => ?_
  subst he
  have hlt := hW'.lt
  have hW'' := hW'
  exact ⟨_, rfl, post_fr (pv := []) hW' (fun _ _ _ => trodAll_cons_mk (shut_bool Try.underlying4 _) trodAll_mk0) (fun sp hsp => trodAll_carry (DataW.TrodAll.respare kids full (by rw [Try.params3]; decide) hAk (fun p hp => hsp p (by simpa using hp))) (fun p hp => hg.below.same (hlt p (by simpa using hp)))) (fun _ _ => rfl) (by simp) hg (ok_one (by kernel_rfl) rfl (okWide_bool_mk Try.underlying4 _))⟩
theorem over : Rows.streamFirstRow.holds Try.pinned (OpenSpec.ofChange Rows.streamFirstSpec) :=
  OpenClaim.holds_of_wide 3 Try.f3 rfl rfl rfl rfl rfl rfl rfl ⟨rfl, rfl, rfl, rfl, rfl⟩ rfl rfl rfl rfl rfl (by kernel_rfl) Try.func3 (by kernel_rfl)
    (of_decide_eq_true (by kernel_rfl)) (by unfold Func.isWrapper; first | (rw [if_pos (by decide +kernel)]; kernel_rfl) | (rw [if_neg (by decide +kernel)]; exact ⟨rfl, rfl⟩))
    (fun os started H enc _ => lifted os started H enc)
theorem proved : Rows.StreamFirstSaid := over
#print axioms proved
end Go.Proofs.Ytenokheiindfkab.streamFirst
