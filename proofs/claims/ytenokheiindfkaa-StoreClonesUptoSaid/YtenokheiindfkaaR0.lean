/- The arguments of the store's laws, opened. -/
import Derived.Test.YtenokheiindfkaaS9
import Derived.Test.YtenokheiindfkaaC9
set_option linter.unusedVariables false
set_option linter.unusedSimpArgs false
set_option maxRecDepth 10000
namespace Go.Proofs.Ytenokheiindfkaa
open Go.VW
section
variable {H : Type} {ec : TypeId × Value → H} {w : World} {base : Nat} {spare : Nat → Bool} {held : Bool}
theorem u_44 : ∃ fs, Try.prog.underlying 44 = some (.struct fs) ∧ ∃ f0 f1, fs[0]? = some f0 ∧ fs[1]? = some f1 ∧ f0.type = 9 ∧ f0.offset = 0 ∧ f1.type = 29 ∧ f1.offset = 1 ∧ fs.size = 2 :=
  ⟨_, und_of (Try.runUnderlying44 default), _, _, rfl, rfl, rfl, rfl, rfl, rfl, rfl⟩
theorem u_29 : ∃ fs, Try.prog.underlying 29 = some (.struct fs) ∧ ∃ f0 f1, fs[0]? = some f0 ∧ fs[1]? = some f1 ∧ f0.type = 4 ∧ f0.offset = 0 ∧ f1.type = 9 ∧ f1.offset = 1 ∧ fs.size = 2 :=
  ⟨_, und_of (Try.runUnderlying29 default), _, _, rfl, rfl, rfl, rfl, rfl, rfl, rfl⟩
theorem co9 : Try.prog.cellsOf 9 = 1 := by kernel_rfl
theorem co4 : Try.prog.cellsOf 4 = 1 := by kernel_rfl
theorem co29 : Try.prog.cellsOf 29 = 2 := by kernel_rfl
theorem co44 : Try.prog.cellsOf 44 = 3 := by kernel_rfl
theorem co40 : Try.prog.cellsOf 40 = 1 := by kernel_rfl
theorem un9 : Try.prog.underlying 9 = some .string := by kernel_rfl
theorem un4 : Try.prog.underlying 4 = some .bool := by kernel_rfl
theorem un40 : Try.prog.underlying 40 = some (.slice 44) := by kernel_rfl
theorem un22 : Try.prog.underlying 22 = some (.slice 40) := by kernel_rfl
theorem open_val {n : Nat} {cs : List Value} {x : DataW H × List MemPlace} (h : DataW.trod ec Try.prog w base spare held n 29 cs = some x) : ∃ b s, cs = [.bool b, .string s] := by
  obtain ⟨fs, hu, f0, f1, e0, e1, t0, o0, t1, o1, hs⟩ := u_29
  obtain ⟨xs, m, rfl, rfl, hl, hxl, hx⟩ := DataW.trod_struct hu h
  rw [co29] at hl
  have h0 := hx 0 f0 e0
  have h1 := hx 1 f1 e1
  rw [t0, o0, co4, List.getElem?_eq_getElem (by omega)] at h0
  rw [t1, o1, co9, List.getElem?_eq_getElem (by omega)] at h1
  obtain ⟨b, hb, _⟩ := DataW.trod_bool un4 h0
  obtain ⟨s, hs', _⟩ := DataW.trod_string un9 h1
  match cs, hl with
  | [c0, c1], _ =>
    simp at hb hs'
    exact ⟨b, s, by rw [hb, hs']⟩
theorem open_wr {n : Nat} {cs : List Value} {x : DataW H × List MemPlace} (h : DataW.trod ec Try.prog w base spare held n 44 cs = some x) : ∃ a : Wr, cs = encWr a := by
  obtain ⟨fs, hu, f0, f1, e0, e1, t0, o0, t1, o1, hs⟩ := u_44
  obtain ⟨xs, m, rfl, rfl, hl, hxl, hx⟩ := DataW.trod_struct hu h
  rw [co44] at hl
  have h0 := hx 0 f0 e0
  have h1 := hx 1 f1 e1
  rw [t0, o0, co9, List.getElem?_eq_getElem (by omega)] at h0
  rw [t1, o1, co29, List.getElem?_eq_getElem (by omega)] at h1
  obtain ⟨k, hk, _⟩ := DataW.trod_string un9 h0
  obtain ⟨b, s, hb⟩ := open_val h1
  match cs, hl with
  | [c0, c1, c2], _ =>
    simp at hk hb
    exact ⟨⟨k, b, s⟩, by rw [hk, hb.1, hb.2]; rfl⟩
theorem open_writes {n : Nat} {cs : List Value} {x : DataW H × List MemPlace} (h : DataW.trod ec Try.prog w base spare held n 40 cs = some x) : ∃ v ws, cs = [v] ∧ SlOf 3 encWr w v ws ∧ ws.length ≤ maxLen := by
  obtain ⟨v, xs, h1, h2, h3, _⟩ := open_slOf (enc := encWr) (fun _ _ => True) un40 co44 (by decide) encWr_len (fun n cs y hy => by
    obtain ⟨a, ha⟩ := open_wr hy
    exact ⟨a, ha, fun _ => trivial⟩) h
  exact ⟨v, xs, h1, h2, h3⟩
theorem open_lists {n : Nat} {cs : List Value} {x : DataW H × List MemPlace} (h : DataW.trod ec Try.prog w base spare held n 22 cs = some x) : ∃ v vs ls, cs = [v] ∧ ListAt w v vs ls ∧ ls.length ≤ maxLen := by
  obtain ⟨v, vs, h1, h2, h3, h4⟩ := open_slOf (enc := one1) (fun _ v => ∃ ws, SlOf 3 encWr w v ws) un22 co40 (by decide) one1_len (fun n cs y hy => by
    obtain ⟨v, ws, ha, hw, _⟩ := open_writes hy
    exact ⟨v, ha, fun _ => ⟨ws, hw⟩⟩) h
  obtain ⟨ls, l1, l2⟩ := choose_lt' (p := fun i ws => ∀ v, vs[i]? = some v → SlOf 3 encWr w v ws) vs.length (fun i hi => by
    obtain ⟨ws, hw⟩ := h4 i vs[i] (List.getElem?_eq_getElem hi)
    refine ⟨ws, fun v hv => ?_⟩
    rw [List.getElem?_eq_getElem hi] at hv
    cases hv
    exact hw)
  exact ⟨v, vs, ls, h1, ⟨h2, l1.symm, fun i v ws hv hws => l2 i ws hws v hv⟩, by omega⟩
end
end Go.Proofs.Ytenokheiindfkaa
