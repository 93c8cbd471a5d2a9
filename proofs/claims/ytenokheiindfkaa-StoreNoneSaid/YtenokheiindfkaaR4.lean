/- StoreNone: a nil store holds nothing, and refuses what it is asked. No condition. -/
import Derived.Test.YtenokheiindfkaaRK
import Derived.Test.YtenokheiindfkaaP5
import Derived.Test.YtenokheiindfkaaR0
namespace Go.Proofs.Ytenokheiindfkaa.storeNone
open Go.ChangeShapes Go.WideShapes Go.ChangeAt Go.RowKit Go.VW
set_option linter.unusedVariables false
set_option linter.unnecessarySimpa false
set_option maxRecDepth 10000
theorem u_95 : ∃ fs, Try.prog.underlying 95 = some (.struct fs) ∧ ∃ f0 f1 f2 f3, fs[0]? = some f0 ∧ fs[1]? = some f1 ∧ fs[2]? = some f2 ∧ fs[3]? = some f3 ∧ f0.type = 5 ∧ f0.offset = 0 ∧ f1.type = 40 ∧ f1.offset = 1 ∧ f2.type = 9 ∧ f2.offset = 2 ∧ f3.type = 2 ∧ f3.offset = 3 ∧ fs.size = 4 :=
  ⟨_, und_of (Try.runUnderlying95 default), _, _, _, _, rfl, rfl, rfl, rfl, rfl, rfl, rfl, rfl, rfl, rfl, rfl, rfl, rfl⟩
theorem un5 : Try.prog.underlying 5 = some (.int .u8) := by kernel_rfl
theorem un2 : Try.prog.underlying 2 = some (.int .i64) := by kernel_rfl
theorem co5 : Try.prog.cellsOf 5 = 1 := by kernel_rfl
theorem co2 : Try.prog.cellsOf 2 = 1 := by kernel_rfl
theorem co95 : Try.prog.cellsOf 95 = 4 := by kernel_rfl
theorem open_op {H : Type} {ec : TypeId × Value → H} {w : World} {base : Nat} {spare : Nat → Bool} {held : Bool} {n : Nat} {cs : List Value} {x : DataW H × List MemPlace} (h : DataW.trod ec Try.prog w base spare held n 95 cs = some x) :
    ∃ (kd c : Int) (wv : Value) (ws : List Wr) (key : ByteArray), cs = [.int .u8 kd, wv, .string key, .int .i64 c] ∧ SlOf 3 encWr w wv ws ∧ ws.length ≤ maxLen := by
  obtain ⟨fs, hu, f0, f1, f2, f3, e0, e1, e2, e3, t0, o0, t1, o1, t2, o2, t3, o3, hs⟩ := u_95
  obtain ⟨xs, m, rfl, rfl, hl, hxl, hx⟩ := DataW.trod_struct hu h
  rw [co95] at hl
  have h0 := hx 0 f0 e0
  have h1 := hx 1 f1 e1
  have h2 := hx 2 f2 e2
  have h3 := hx 3 f3 e3
  rw [t0, o0, co5, List.getElem?_eq_getElem (by omega)] at h0
  rw [t1, o1, co40, List.getElem?_eq_getElem (by omega)] at h1
  rw [t2, o2, co9, List.getElem?_eq_getElem (by omega)] at h2
  rw [t3, o3, co2, List.getElem?_eq_getElem (by omega)] at h3
  obtain ⟨k, hk, _⟩ := DataW.trod_int un5 h0
  obtain ⟨wv, ws, hw, hsl, hm⟩ := open_writes h1
  obtain ⟨s, hs', _⟩ := DataW.trod_string un9 h2
  obtain ⟨c, hc, _⟩ := DataW.trod_int un2 h3
  match cs, hl with
  | [c0, c1, c2, c3], _ =>
    simp at hk hw hs' hc
    exact ⟨k, c, wv, ws, s, by rw [hk, hw, hs', hc], hsl, hm⟩
theorem walk (kd c : Int) (wv : Value) (ws : List Wr) (key : ByteArray) (W : World) (h : SlOf 3 encWr W wv ws) : Calls Try.prog 14 #[.agg ([.int .u8 kd, wv, .string key, .int .i64 c] : List Value).toArray] W fun e w' => e = .returned (.bool true) ∧ Fr [] W w' := by
  obtain ⟨a, cp, rfl⟩ := h.form
  exact Calls.mono (CallsN.calls (none_spec (K := fun v w' => v = .bool true ∧ Fr [] W w') fun w' hf => ⟨rfl, hf⟩)) fun e w' he => by
    obtain ⟨v, rfl, rfl, hg⟩ := he
    exact ⟨rfl, hg⟩
set_option maxRecDepth 100000 in
theorem lifted (os : Os) (started : os.Started) (H : Type) (enc : TypeId × Value → H) :
    ReturnsInHanded {} Try.checked os 14 .any (Rows.storeNoneSpec.pre6 enc Try.prog Try.f14 Rows.storeNoneRow.domain false) (Rows.storeNoneSpec.post enc Try.prog Try.f14 false true false false) := by
  refine returnsInHanded_of_change (C := Try.checked) own started (by kernel_rfl) Try.func14
    (ChangeSpec.witness6 (enc := enc) (C := Try.checked) false ⟨#[], #[.agg #[.int .u8 0, .slice none 0 0, .string ⟨#[]⟩, .int .i64 0]], []⟩ 8 (by kernel_rfl) (by kernel_rfl) (by kernel_rfl) (by kernel_rfl)) ?_
  intro W base args ds gs before hval0 hW hcnd _
  have hval : ∀ (j : Nat) t v, Try.f14.params[j]? = some t → args[j]? = some v → Value.okWide Try.prog W .any base t v := hval0
  have hW' := hW
  obtain ⟨p, q, hA0, hV, rfl, hfz, hnd⟩ := hW
  have hA : DataW.TrodAll enc Try.prog W 0 (fun _ => true) true Try.f14.params.toList args.toList ds p := hA0
  have hAk := hA
  rw [Try.params14] at hA hval
  obtain ⟨v0, vs0, d0, ds0, p0, q0, hargs, rfl, rfl, h0, r0⟩ := trodAll_cons hA
  obtain ⟨rfl, rfl, rfl⟩ := trodAll_nil r0
  obtain rfl : args = #[v0] := by cases args; simp_all
  obtain ⟨rfl, rfl⟩ := trodVars_none hV
  obtain ⟨n0, h0'⟩ := h0
  obtain ⟨kd, c, wv, ws, key, e0, hsl, hm⟩ := open_op h0'
  obtain ⟨fs0, hu0, _⟩ := u_95
  obtain ⟨cs0, hv0, _⟩ := okWide_struct hu0 (hval 0 95 v0 rfl rfl)
  have ev : v0 = .agg ([.int .u8 kd, wv, .string key, .int .i64 c] : List Value).toArray := by
    rw [hv0] at e0 ⊢
    simp only [Value.cells] at e0
    rw [← e0]
  subst ev
  refine (walk kd c wv ws key W hsl).mono fun e W' ⟨he, hg⟩ => ?_
  subst he
  have hlt := hW'.lt
  have hW'' := hW'
  exact ⟨_, rfl, post_fr (pv := []) hW' (fun _ _ _ => trodAll_cons_mk (shut_bool Try.underlying4 _) trodAll_mk0) (fun sp hsp => trodAll_carry (DataW.TrodAll.respare kids full (by rw [Try.params14]; decide) hAk (fun p hp => hsp p (by simpa using hp))) (fun p hp => hg.below.same (hlt p (by simpa using hp)))) (fun _ _ => rfl) (by simp) hg (ok_one (by kernel_rfl) rfl (okWide_bool_mk Try.underlying4 _))⟩
theorem over : Rows.storeNoneRow.holds Try.pinned (OpenSpec.ofChange Rows.storeNoneSpec) :=
  OpenClaim.holds_of_wide 14 Try.f14 rfl rfl rfl rfl rfl rfl rfl ⟨rfl, rfl, rfl, rfl, rfl⟩ rfl rfl rfl rfl rfl (by kernel_rfl) Try.func14 (by kernel_rfl)
    (of_decide_eq_true (by kernel_rfl)) (by unfold Func.isWrapper; first | (rw [if_pos (by decide +kernel)]; kernel_rfl) | (rw [if_neg (by decide +kernel)]; exact ⟨rfl, rfl⟩))
    (fun os started H enc _ => lifted os started H enc)
theorem proved : Rows.StoreNoneSaid := over
#print axioms proved
end Go.Proofs.Ytenokheiindfkaa.storeNone
