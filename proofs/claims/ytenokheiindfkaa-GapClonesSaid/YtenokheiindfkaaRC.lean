/- GapClones: a clone goes its own way; lists that were answered may be written over. No condition. -/
import Derived.Test.YtenokheiindfkaaRK
import Derived.Test.YtenokheiindfkaaV8
namespace Go.Proofs.Ytenokheiindfkaa.gapClones
open Go.ChangeShapes Go.WideShapes Go.ChangeAt Go.RowKit Go.VW
set_option linter.unusedVariables false
set_option maxRecDepth 10000
set_option linter.unnecessarySimpa false
theorem un2' : Try.prog.underlying 2 = some (.int .i64) := by kernel_rfl
theorem un4 : Try.prog.underlying 4 = some .bool := by kernel_rfl
theorem un9 : Try.prog.underlying 9 = some .string := by kernel_rfl
theorem un52 : Try.prog.underlying 52 = some (.slice 9) := by kernel_rfl
theorem un49 : Try.prog.underlying 49 = some (.slice 59) := by kernel_rfl
theorem co2 : Try.prog.cellsOf 2 = 1 := by kernel_rfl
theorem co4 : Try.prog.cellsOf 4 = 1 := by kernel_rfl
theorem co9 : Try.prog.cellsOf 9 = 1 := by kernel_rfl
theorem co52 : Try.prog.cellsOf 52 = 1 := by kernel_rfl
theorem co54 : Try.prog.cellsOf 54 = 2 := by kernel_rfl
theorem co59 : Try.prog.cellsOf 59 = 3 := by kernel_rfl
theorem u_54 : ∃ fs, Try.prog.underlying 54 = some (.struct fs) ∧ ∃ f0 f1, fs[0]? = some f0 ∧ fs[1]? = some f1 ∧ f0.type = 2 ∧ f0.offset = 0 ∧ f1.type = 52 ∧ f1.offset = 1 ∧ fs.size = 2 :=
  ⟨_, und_of (Try.runUnderlying54 default), _, _, rfl, rfl, rfl, rfl, rfl, rfl, rfl⟩
theorem u_59 : ∃ fs, Try.prog.underlying 59 = some (.struct fs) ∧ ∃ f0 f1, fs[0]? = some f0 ∧ fs[1]? = some f1 ∧ f0.type = 4 ∧ f0.offset = 0 ∧ f1.type = 54 ∧ f1.offset = 1 ∧ fs.size = 2 :=
  ⟨_, und_of (Try.runUnderlying59 default), _, _, rfl, rfl, rfl, rfl, rfl, rfl, rfl⟩
section
variable {H : Type} {ec : TypeId × Value → H} {w : World} {base : Nat} {spare : Nat → Bool} {held : Bool}
theorem open_keys {n : Nat} {cs : List Value} {x : DataW H × List MemPlace} (h : DataW.trod ec Try.prog w base spare held n 52 cs = some x) : ∃ v ks, cs = [v] ∧ SlOf 1 encS w v ks ∧ ks.length ≤ maxLen := by
  obtain ⟨v, xs, h1, h2, h3, _⟩ := open_slOf (enc := encS) (fun _ _ => True) un52 co9 (by decide) encS_len (fun n cs y hy => by
    obtain ⟨s, hs, _⟩ := DataW.trod_string un9 hy
    exact ⟨s, hs, fun _ => trivial⟩) h
  exact ⟨v, xs, h1, h2, h3⟩
theorem open_rec {n : Nat} {cs : List Value} {x : DataW H × List MemPlace} (h : DataW.trod ec Try.prog w base spare held n 54 cs = some x) : ∃ r : Rec, cs = encR r ∧ RK w r := by
  obtain ⟨fs, hu, f0, f1, e0, e1, t0, o0, t1, o1, hs⟩ := u_54
  obtain ⟨xs, m, rfl, rfl, hl, hxl, hx⟩ := DataW.trod_struct hu h
  rw [co54] at hl
  have h0 := hx 0 f0 e0
  have h1 := hx 1 f1 e1
  rw [t0, o0, co2, List.getElem?_eq_getElem (by omega)] at h0
  rw [t1, o1, co52, List.getElem?_eq_getElem (by omega)] at h1
  obtain ⟨n, hn, _⟩ := DataW.trod_int un2' h0
  obtain ⟨v, ks, hv, hk, hm⟩ := open_keys h1
  obtain ⟨a, c, hvf⟩ := hk.form
  match cs, hl with
  | [c0, c1], _ =>
    simp at hn hv
    refine ⟨⟨n, a, ks.length, c⟩, by rw [hn, hv, hvf]; rfl, ks, by unfold maxLen at hm; show ks.length ≤ _; omega, fun w' hf => ?_⟩
    unfold RecK
    rw [← hvf]
    exact hk.frN hf
theorem open_op {n : Nat} {cs : List Value} {x : DataW H × List MemPlace} (h : DataW.trod ec Try.prog w base spare held n 59 cs = some x) : ∃ o : OpG, cs = encOp o ∧ RK w o.r := by
  obtain ⟨fs, hu, f0, f1, e0, e1, t0, o0, t1, o1, hs⟩ := u_59
  obtain ⟨xs, m, rfl, rfl, hl, hxl, hx⟩ := DataW.trod_struct hu h
  rw [co59] at hl
  have h0 := hx 0 f0 e0
  have h1 := hx 1 f1 e1
  rw [t0, o0, co4, List.getElem?_eq_getElem (by omega)] at h0
  rw [t1, o1, co54, List.getElem?_eq_getElem (by omega)] at h1
  obtain ⟨b, hb, _⟩ := DataW.trod_bool un4 h0
  obtain ⟨r, hr, hk⟩ := open_rec h1
  match cs, hl with
  | [c0, c1, c2], _ =>
    simp [encR] at hb hr
    exact ⟨⟨b, r⟩, by rw [hb, hr.1, hr.2]; rfl, hk⟩
theorem open_ops {n : Nat} {cs : List Value} {x : DataW H × List MemPlace} (h : DataW.trod ec Try.prog w base spare held n 49 cs = some x) :
    ∃ v ps, cs = [v] ∧ SlOf 3 encOp w v ps ∧ ps.length ≤ maxLen ∧ ∀ o ∈ ps, RK w o.r := by
  obtain ⟨v, xs, h1, h2, h3, h4⟩ := open_slOf (enc := encOp) (fun _ o => RK w o.r) un49 co59 (by decide) encOp_len (fun n cs y hy => by
    obtain ⟨o, ha, hw⟩ := open_op hy
    exact ⟨o, ha, fun _ => hw⟩) h
  exact ⟨v, xs, h1, h2, h3, fun x hx => by
    obtain ⟨i, hi⟩ := List.getElem?_of_mem hx
    exact h4 i x hi⟩
end
theorem walk (m : Int) (pa pb : Value) (as' bs : List OpG) (W : World) (ha : SlOf 3 encOp W pa as') (hla : as'.length ≤ maxLen) (hra : ∀ o ∈ as', RK W o.r) (hb : SlOf 3 encOp W pb bs) (hlb : bs.length ≤ maxLen) (hrb : ∀ o ∈ bs, RK W o.r) :
    Calls Try.prog 9 #[.int .i64 m, pa, pb] W fun e w' => e = .returned (.bool true) ∧ Fr [] W w' :=
  Calls.mono (CallsN.calls (clones_spec (K := fun v w' => v = .bool true ∧ Fr [] W w') ha hra (by unfold maxLen at hla; omega) hb hrb (by unfold maxLen at hlb; omega) fun w' hf => ⟨rfl, hf⟩)) fun e w' he => by
    obtain ⟨v, rfl, rfl, hg⟩ := he
    exact ⟨rfl, hg⟩
set_option maxRecDepth 100000 in
theorem lifted (os : Os) (started : os.Started) (H : Type) (enc : TypeId × Value → H) :
    ReturnsInHanded {} Try.checked os 9 .any (Rows.gapClonesSpec.pre6 enc Try.prog Try.f9 Rows.gapClonesRow.domain false) (Rows.gapClonesSpec.post enc Try.prog Try.f9 false true false false) := by
  refine returnsInHanded_of_change (C := Try.checked) own started (by kernel_rfl) Try.func9
    (ChangeSpec.witness6 (enc := enc) (C := Try.checked) false ⟨#[], #[.int .i64 0, .slice none 0 0, .slice none 0 0], []⟩ 8 (by kernel_rfl) (by kernel_rfl) (by kernel_rfl) (by kernel_rfl)) ?_
  intro W base args ds gs before hval0 hW hcnd _
  have hval : ∀ (j : Nat) t v, Try.f9.params[j]? = some t → args[j]? = some v → Value.okWide Try.prog W .any base t v := hval0
  have hW' := hW
  obtain ⟨p, q, hA0, hV, rfl, hfz, hnd⟩ := hW
  have hA : DataW.TrodAll enc Try.prog W 0 (fun _ => true) true Try.f9.params.toList args.toList ds p := hA0
  have hAk := hA
  rw [Try.params9] at hA hval
  obtain ⟨v0, vs0, d0, ds0, p0, q0, hargs, rfl, rfl, h0, r0⟩ := trodAll_cons hA
  obtain ⟨v1, vs1, d1, ds1, p1, q1, rfl, rfl, rfl, h1, r1⟩ := trodAll_cons r0
  obtain ⟨v2, vs2, d2, ds2, p2, q2, rfl, rfl, rfl, h2, r2⟩ := trodAll_cons r1
  obtain ⟨rfl, rfl, rfl⟩ := trodAll_nil r2
  obtain rfl : args = #[v0, v1, v2] := by cases args; simp_all
  obtain ⟨rfl, rfl⟩ := trodVars_none hV
  obtain ⟨a0, rfl, rfl, rfl, w0⟩ := open_int Try.underlying3 (hval 0 3 v0 rfl rfl) h0
  obtain ⟨b1, l1, c1, hs1⟩ := okWide_slice Try.underlying49 (hval 1 49 v1 rfl rfl)
  obtain ⟨n1, h1'⟩ := h1
  obtain ⟨pa, as', e1, hpa, hma, hra⟩ := open_ops h1'
  have ev1 : v1 = pa := by
    subst hs1
    simpa [Value.cells] using e1
  subst ev1
  obtain ⟨b2, l2, c2, hs2⟩ := okWide_slice Try.underlying49 (hval 2 49 v2 rfl rfl)
  obtain ⟨n2, h2'⟩ := h2
  obtain ⟨pb, bs, e2, hpb, hmb, hrb⟩ := open_ops h2'
  have ev2 : v2 = pb := by
    subst hs2
    simpa [Value.cells] using e2
  subst ev2
  refine (walk a0 v1 v2 as' bs W hpa hma hra hpb hmb hrb).mono fun e W' ⟨he, hg⟩ => ?_
  subst he
  have hlt := hW'.lt
  have hW'' := hW'
  exact ⟨_, rfl, post_fr (pv := []) hW' (fun _ _ _ => trodAll_cons_mk (shut_bool Try.underlying4 _) trodAll_mk0) (fun sp hsp => trodAll_carry (DataW.TrodAll.respare kids full (by rw [Try.params9]; decide) hAk (fun p hp => hsp p (by simpa using hp))) (fun p hp => hg.below.same (hlt p (by simpa using hp)))) (fun _ _ => rfl) (by simp) hg (ok_one (by kernel_rfl) rfl (okWide_bool_mk Try.underlying4 _))⟩
theorem over : Rows.gapClonesRow.holds Try.pinned (OpenSpec.ofChange Rows.gapClonesSpec) :=
  OpenClaim.holds_of_wide 9 Try.f9 rfl rfl rfl rfl rfl rfl rfl ⟨rfl, rfl, rfl, rfl, rfl⟩ rfl rfl rfl rfl rfl (by kernel_rfl) Try.func9 (by kernel_rfl)
    (of_decide_eq_true (by kernel_rfl)) (by unfold Func.isWrapper; first | (rw [if_pos (by decide +kernel)]; kernel_rfl) | (rw [if_neg (by decide +kernel)]; exact ⟨rfl, rfl⟩))
    (fun os started H enc _ => lifted os started H enc)
theorem proved : Rows.GapClonesSaid := over
#print axioms proved
end Go.Proofs.Ytenokheiindfkaa.gapClones
