/- The arguments of StorePlays and StoreClones, opened. -/
import Derived.Test.YtenokheiindfkaaR0
import Derived.Test.YtenokheiindfkaaT9
import Derived.Test.YtenokheiindfkaaRows
set_option linter.unusedVariables false
set_option linter.unusedSimpArgs false
set_option maxRecDepth 10000
namespace Go.Proofs.Ytenokheiindfkaa
open Go.VW
theorem len_of {α : Type} {k : Nat} {enc : α → List Value} {w : World} {v : Value} {xs : List α} {a : Option Addr} {l c N : Nat} (hs : v = .slice a l c) (h : SlOf k enc w v xs) (hl : l ≤ N) : xs.length ≤ N := by
  obtain ⟨_, _, hf⟩ := h.form
  rw [hs] at hf
  cases hf
  exact hl
theorem un2 : Try.prog.underlying 2 = some (.int .i64) := by kernel_rfl
theorem un5 : Try.prog.underlying 5 = some (.int .u8) := by kernel_rfl
theorem unOps5 : Try.prog.underlying 90 = some (.slice 95) := by kernel_rfl
theorem un_tOps5 : Try.prog.underlying 90 = some (.slice 95) := by kernel_rfl
theorem unWrs : Try.prog.underlying 40 = some (.slice 44) := by kernel_rfl
theorem co2 : Try.prog.cellsOf 2 = 1 := by kernel_rfl
theorem co5 : Try.prog.cellsOf 5 = 1 := by kernel_rfl
theorem coOp5 : Try.prog.cellsOf 95 = 4 := by kernel_rfl
theorem coWrs : Try.prog.cellsOf 40 = 1 := by kernel_rfl
theorem u_op5 : ∃ fs, Try.prog.underlying 95 = some (.struct fs) ∧ ∃ f0 f1 f2 f3, fs[0]? = some f0 ∧ fs[1]? = some f1 ∧ fs[2]? = some f2 ∧ fs[3]? = some f3 ∧ (f0.type = 5 ∧ f0.offset = 0) ∧ (f1.type = 40 ∧ f1.offset = 1) ∧ (f2.type = 9 ∧ f2.offset = 2) ∧ (f3.type = 2 ∧ f3.offset = 3) ∧ fs.size = 4 :=
  ⟨_, und_of (Try.runUnderlying95 default), _, _, _, _, rfl, rfl, rfl, rfl, ⟨rfl, rfl⟩, ⟨rfl, rfl⟩, ⟨rfl, rfl⟩, ⟨rfl, rfl⟩, rfl⟩
section
variable {H : Type} {ec : TypeId × Value → H} {w : World} {base : Nat} {spare : Nat → Bool} {held : Bool}
theorem bulk_len (l : List (DataW H)) : l.length ≤ Rows.uptoBulkAll l := by
  induction l with
  | nil => simp [Rows.uptoBulkAll]
  | cons x r ih =>
    have : 1 ≤ Rows.uptoBulk x := by
      cases x with
      | lit l => cases l <;> simp [Rows.uptoBulk]
      | nil => simp [Rows.uptoBulk]
      | ptr d => simp [Rows.uptoBulk]
      | slice elems spare => simp [Rows.uptoBulk]
      | agg parts => simp [Rows.uptoBulk]
      | iface t d => simp [Rows.uptoBulk]
      | map entries => simp [Rows.uptoBulk]
      | held h => simp [Rows.uptoBulk]
    simp only [Rows.uptoBulkAll, List.length_cons]; omega
theorem bulk_mem {d : DataW H} {l : List (DataW H)} (h : d ∈ l) : Rows.uptoBulk d ≤ Rows.uptoBulkAll l := by
  induction l with
  | nil => cases h
  | cons x r ih =>
    simp only [Rows.uptoBulkAll]
    rcases List.mem_cons.1 h with rfl | h
    · omega
    · have := ih h; omega
theorem bulk_slice {t e : TypeId} {n : Nat} {a : Option Addr} {l c : Nat} {x : DataW H × List MemPlace} (ht : Try.prog.underlying t = some (.slice e)) (h : DataW.trod ec Try.prog w base spare held n t [.slice a l c] = some x) : l ≤ Rows.uptoBulk x.1 := by
  rcases Go.Deep.open_slice ht h with ⟨h1, _⟩ | ⟨a', len, cap, m, n', D, Pl, h1, _, _, _, _, h2, _⟩
  · simp only [List.cons.injEq, Value.slice.injEq, and_true] at h1
    omega
  · simp only [List.cons.injEq, Value.slice.injEq, and_true] at h1
    rw [h2]
    simp only [Rows.uptoBulk]
    have := bulk_len ((List.range len).map D)
    simp only [List.length_map, List.length_range] at this
    omega
theorem open_op5 {n : Nat} {cs : List Value} {x : DataW H × List MemPlace} (h : DataW.trod ec Try.prog w base spare held n 95 cs = some x) : ∃ o : Op5, cs = encOp5 o ∧ ∃ ws, o.ok w ws ∧ ws.length ≤ Rows.uptoBulk x.1 := by
  obtain ⟨fs, hu, f0, f1, f2, f3, e0, e1, e2, e3, ⟨t0, o0⟩, ⟨t1, o1⟩, ⟨t2, o2⟩, ⟨t3, o3⟩, hs⟩ := u_op5
  obtain ⟨xs, m, rfl, rfl, hl, hxl, hx⟩ := DataW.trod_struct hu h
  rw [coOp5] at hl
  have h0 := hx 0 f0 e0
  have h1 := hx 1 f1 e1
  have h2 := hx 2 f2 e2
  have h3 := hx 3 f3 e3
  rw [t0, o0, co5, List.getElem?_eq_getElem (by omega)] at h0
  rw [t1, o1, coWrs, List.getElem?_eq_getElem (by omega)] at h1
  rw [t2, o2, co9, List.getElem?_eq_getElem (by omega)] at h2
  rw [t3, o3, co2, List.getElem?_eq_getElem (by omega)] at h3
  obtain ⟨k, hk, _⟩ := DataW.trod_int un5 h0
  obtain ⟨v, ws, hv, hsl, hm⟩ := open_writes h1
  obtain ⟨s, hs2, _⟩ := DataW.trod_string un9 h2
  obtain ⟨n, hn, _⟩ := DataW.trod_int un2 h3
  obtain ⟨wa, wc, hwv⟩ := hsl.form
  have hb := bulk_slice unWrs (hwv ▸ hv ▸ h1)
  have hmem : (xs[1]'(by omega)).1 ∈ xs.map (·.1) := List.mem_map.2 ⟨_, List.getElem_mem _, rfl⟩
  have hbm := bulk_mem hmem
  obtain ⟨c0, c1, c2, c3, rfl⟩ : ∃ c0 c1 c2 c3, cs = [c0, c1, c2, c3] := by
    match cs, hl with
    | [a, b, c, d], _ => exact ⟨a, b, c, d, rfl⟩
  · simp at hk hv hs2 hn
    exact ⟨⟨k, v, s, n⟩, by rw [hk, hv, hs2, hn]; rfl, ws, ⟨hsl, hm⟩, by simp only [Rows.uptoBulk]; omega⟩
theorem open_ops5 {n : Nat} {cs : List Value} {x : DataW H × List MemPlace} (h : DataW.trod ec Try.prog w base spare held n 90 cs = some x) :
    ∃ v os, cs = [v] ∧ SlOf 4 encOp5 w v os ∧ os.length ≤ Rows.uptoBulk x.1 ∧ ∀ o ∈ os, ∃ ws, o.ok w ws ∧ ws.length ≤ Rows.uptoBulk x.1 := by
  obtain ⟨v, xs, h1, h2, h3, h4⟩ := open_slOfD (enc := encOp5) (fun d o => ∃ ws, o.ok w ws ∧ ws.length ≤ Rows.uptoBulk d) unOps5 coOp5 (by decide) encOp5_len (fun n cs y hy => open_op5 hy) h
  refine ⟨v, xs, h1, h2, ?_, fun o ho => ?_⟩
  · rcases h4 with ⟨_, e⟩ | ⟨els, sp, e, hl, _⟩
    · simp [e]
    · rw [e]
      have := bulk_len els
      simp only [Rows.uptoBulk]; omega
  · obtain ⟨i, hi⟩ := List.getElem?_of_mem ho
    rcases h4 with ⟨_, e⟩ | ⟨els, sp, e, hl, hR⟩
    · rw [e] at hi; simp at hi
    · obtain ⟨d, hd, ks, hok, hks⟩ := hR i o hi
      have := bulk_mem hd
      exact ⟨ks, hok, by rw [e]; simp only [Rows.uptoBulk]; omega⟩
end
end Go.Proofs.Ytenokheiindfkaa
