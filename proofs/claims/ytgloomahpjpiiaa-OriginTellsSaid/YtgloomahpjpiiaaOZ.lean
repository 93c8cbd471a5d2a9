/- Lists of messages, and of bytes, among the arguments, opened. -/
import Derived.Test.YtgloomahpjpiiaaOP
import Derived.Test.YtgloomahpjpiiaaOY
set_option linter.unusedVariables false
set_option linter.unusedSimpArgs false
set_option maxRecDepth 10000
namespace Go.Proofs.Ytgloomahpjpiiaa.Or
open Go.VW
theorem un5 : Try.prog.underlying 5 = some (.int .u8) := by kernel_rfl
theorem unU8s : Try.prog.underlying 23 = some (.slice 5) := by kernel_rfl
theorem co5 : Try.prog.cellsOf 5 = 1 := by kernel_rfl
theorem u8_range {a : Int} (h : (Lit.int .u8 a).wf = true) : 0 ≤ a ∧ a < 256 := by
  have e1 : IntKind.u8.min = 0 := by decide
  have e2 : IntKind.u8.max = 255 := by decide
  simp only [Lit.wf, e1, e2, Bool.and_eq_true, decide_eq_true_eq] at h
  omega
section
variable {H : Type} {ec : TypeId × Value → H} {w : World} {base : Nat} {spare : Nat → Bool} {held : Bool}
theorem open_msgs {n : Nat} {cs : List Value} {x : DataW H × List MemPlace} (h : DataW.trod ec Try.prog w base spare held n 22 cs = some x) :
    ∃ v ms, cs = [v] ∧ SlOf 16 encMsg w v ms ∧ ms.length ≤ maxLen ∧ ∀ (i : Nat) m, ms[i]? = some m → ∃ ws ks, MsgAt w m ws ks :=
  open_slOf (enc := encMsg) (fun _ m => ∃ ws ks, MsgAt w m ws ks) unMs cotMsg (by decide) encMsg_len (fun n cs y hy => by
    obtain ⟨m, ws, ks, e, hm⟩ := open_msg hy
    exact ⟨m, e, fun _ => ⟨ws, ks, hm⟩⟩) h
theorem open_u8s {n : Nat} {cs : List Value} {x : DataW H × List MemPlace} (h : DataW.trod ec Try.prog w base spare held n 23 cs = some x) :
    ∃ v us, cs = [v] ∧ SlOf 1 encU w v us ∧ us.length ≤ maxLen ∧ ∀ u ∈ us, 0 ≤ u ∧ u < 256 := by
  obtain ⟨v, xs, h1, h2, h3, h4⟩ := open_slOf (enc := encU) (fun _ b => 0 ≤ b ∧ b < 256) unU8s co5 (by decide) encU_len (fun n cs y hy => by
    obtain ⟨a, g, hr⟩ := DataW.trod_int un5 hy
    have h2 : 0 ≤ a ∧ a ≤ 255 := by simpa [Lit.wf, IntKind.min, IntKind.max, IntKind.signed, IntKind.bits] using hr.2
    exact ⟨a, g, fun _ => ⟨h2.1, by omega⟩⟩) h
  exact ⟨v, xs, h1, h2, h3, fun u hu => by
    obtain ⟨i, hi⟩ := List.getElem?_of_mem hu
    exact h4 i u hi⟩
end
theorem once_args {w : World} {lv ov : Value} {ms : List Msg} {us : List Int} {K : Value → World → Prop} (hl : SlOf 16 encMsg w lv ms) (hm : ∀ (i : Nat) m, ms[i]? = some m → ∃ ws ks, MsgAt w m ws ks)
    (ho : SlOf 1 encU w ov us) (hu : ∀ u ∈ us, 0 ≤ u ∧ u < 256) (hml : ms.length ≤ maxLen) (hol : us.length ≤ maxLen) (hK : ∀ w', Fr [] w w' → K (.bool true) w') : CallsN Try.prog 3 [lv, ov] w K := by
  obtain ⟨ls, hll, hls⟩ := choose_lt' (p := fun i ws => ∀ m, ms[i]? = some m → ∃ ks, MsgAt w m ws ks) ms.length (fun i hi => by
    obtain ⟨ws, ks, h⟩ := hm i _ (List.getElem?_eq_getElem hi)
    refine ⟨ws, fun m hm' => ⟨ks, ?_⟩⟩
    rw [List.getElem?_eq_getElem hi] at hm'
    cases hm'
    exact h)
  simp only [maxLen] at hml hol
  exact once_spec hl hll (fun i m ws h1 h2 => by
    obtain ⟨ks, h⟩ := hls i ws h2 m h1
    exact ⟨h.dw, h.wlen, by have := h.wl; omega⟩) ho hu (by omega) (by omega) hK
end Go.Proofs.Ytgloomahpjpiiaa.Or
