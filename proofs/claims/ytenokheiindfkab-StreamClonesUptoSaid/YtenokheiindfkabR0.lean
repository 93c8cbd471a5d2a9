/- The arguments of the stream's laws, opened. -/
import Derived.Test.YtenokheiindfkabD8
import Derived.Test.YtenokheiindfkabC9
import Derived.Test.YtenokheiindfkabRows
set_option linter.unusedVariables false
set_option linter.unusedSimpArgs false
set_option maxRecDepth 10000
namespace Go.Proofs.Ytenokheiindfkab
open Go.VW
theorem un2 : Try.prog.underlying 2 = some (.int .i64) := by kernel_rfl
theorem un3 : Try.prog.underlying 3 = some (.int .i64) := by kernel_rfl
theorem un4 : Try.prog.underlying 4 = some .bool := by kernel_rfl
theorem un5 : Try.prog.underlying 5 = some (.int .u8) := by kernel_rfl
theorem un9 : Try.prog.underlying 9 = some .string := by kernel_rfl
theorem unStrs : Try.prog.underlying 30 = some (.slice 9) := by kernel_rfl
theorem unStrss : Try.prog.underlying 22 = some (.slice 30) := by kernel_rfl
theorem unU8s : Try.prog.underlying 44 = some (.slice 5) := by kernel_rfl
theorem unOps : Try.prog.underlying 34 = some (.slice 41) := by kernel_rfl
theorem un_tOps6 : Try.prog.underlying 34 = some (.slice 41) := unOps
theorem len_of {α : Type} {k : Nat} {enc : α → List Value} {w : World} {v : Value} {xs : List α} {a : Option Addr} {l c N : Nat} (hs : v = .slice a l c) (h : SlOf k enc w v xs) (hl : l ≤ N) : xs.length ≤ N := by
  obtain ⟨_, _, hf⟩ := h.form
  rw [hs] at hf
  cases hf
  exact hl
theorem co2 : Try.prog.cellsOf 2 = 1 := by kernel_rfl
theorem co3 : Try.prog.cellsOf 3 = 1 := by kernel_rfl
theorem co5 : Try.prog.cellsOf 5 = 1 := by kernel_rfl
theorem co9 : Try.prog.cellsOf 9 = 1 := by kernel_rfl
theorem coStrs : Try.prog.cellsOf 30 = 1 := by kernel_rfl
theorem coOp : Try.prog.cellsOf 41 = 5 := by kernel_rfl
theorem u_op : ∃ fs, Try.prog.underlying 41 = some (.struct fs) ∧ ∃ f0 f1 f2 f3 f4, fs[0]? = some f0 ∧ fs[1]? = some f1 ∧ fs[2]? = some f2 ∧ fs[3]? = some f3 ∧ fs[4]? = some f4 ∧ (f0.type = 5 ∧ f0.offset = 0) ∧ (f1.type = 30 ∧ f1.offset = 1) ∧ (f2.type = 9 ∧ f2.offset = 2) ∧ (f3.type = 2 ∧ f3.offset = 3) ∧ (f4.type = 3 ∧ f4.offset = 4) ∧ fs.size = 5 :=
  ⟨_, und_of (Try.runUnderlying41 default), _, _, _, _, _, rfl, rfl, rfl, rfl, rfl, ⟨rfl, rfl⟩, ⟨rfl, rfl⟩, ⟨rfl, rfl⟩, ⟨rfl, rfl⟩, ⟨rfl, rfl⟩, rfl⟩
/-- An Op. -/
structure Op6 where
  kind : Int
  keys : Value
  key : ByteArray
  n : Int
  most : Int
def encOp6 (o : Op6) : List Value := [.int .u8 o.kind, o.keys, .string o.key, .int .i64 o.n, .int .i64 o.most]
theorem encOp6_len (o : Op6) : (encOp6 o).length = 5 := rfl
structure Op6.ok (w : World) (o : Op6) (ks : Ks) : Prop where
  keys : SlOf 1 encS w o.keys ks
  len : ks.length ≤ maxLen
  kind0 : 0 ≤ o.kind
  kind1 : o.kind ≤ 255
theorem Op6.ok.frN {w w' : World} {o : Op6} {ks : Ks} (h : o.ok w ks) (hf : Fr [] w w') : o.ok w' ks := ⟨h.keys.frN hf, h.len, h.kind0, h.kind1⟩
section
variable {H : Type} {ec : TypeId × Value → H} {w : World} {base : Nat} {spare : Nat → Bool} {held : Bool}
theorem bulk_len (l : List (DataW H)) : l.length ≤ Rows.uptoBulkAll l := by
  induction l with
  | nil => simp [Rows.uptoBulkAll]
  | cons x r ih =>
    have : 1 ≤ Rows.uptoBulk x := by
      cases x with
      | lit l => cases l <;> simp [Rows.uptoBulk]
      | nil => simp [Rows.uptoBulk]
      | ptr d => simp [Rows.uptoBulk]
      | slice elems spare => simp [Rows.uptoBulk]
      | agg parts => simp [Rows.uptoBulk]
      | iface t d => simp [Rows.uptoBulk]
      | map entries => simp [Rows.uptoBulk]
      | held h => simp [Rows.uptoBulk]
    simp only [Rows.uptoBulkAll, List.length_cons]; omega
theorem bulk_slice {t e : TypeId} {n : Nat} {a : Option Addr} {l c : Nat} {x : DataW H × List MemPlace} (ht : Try.prog.underlying t = some (.slice e)) (h : DataW.trod ec Try.prog w base spare held n t [.slice a l c] = some x) : l ≤ Rows.uptoBulk x.1 := by
  rcases Go.Deep.open_slice ht h with ⟨h1, _⟩ | ⟨a', len, cap, m, n', D, Pl, h1, _, _, _, _, h2, _⟩
  · simp only [List.cons.injEq, Value.slice.injEq, and_true] at h1
    omega
  · simp only [List.cons.injEq, Value.slice.injEq, and_true] at h1
    rw [h2]
    simp only [Rows.uptoBulk]
    have := bulk_len ((List.range len).map D)
    simp only [List.length_map, List.length_range] at this
    omega
theorem open_keys {n : Nat} {cs : List Value} {x : DataW H × List MemPlace} (h : DataW.trod ec Try.prog w base spare held n 30 cs = some x) : ∃ v ks, cs = [v] ∧ SlOf 1 encS w v ks ∧ ks.length ≤ maxLen := by
  obtain ⟨v, xs, h1, h2, h3, _⟩ := open_slOf (enc := encS) (fun _ _ => True) unStrs co9 (by decide) encS_len (fun n cs y hy => by
    obtain ⟨s, hs, _⟩ := DataW.trod_string un9 hy
    exact ⟨s, hs, fun _ => trivial⟩) h
  exact ⟨v, xs, h1, h2, h3⟩
theorem open_lists {n : Nat} {cs : List Value} {x : DataW H × List MemPlace} (h : DataW.trod ec Try.prog w base spare held n 22 cs = some x) : ∃ v vs kss, cs = [v] ∧ ListS w v vs kss ∧ kss.length ≤ maxLen := by
  obtain ⟨v, vs, h1, h2, h3, h4⟩ := open_slOf (enc := one1) (fun _ v => ∃ ks, SlOf 1 encS w v ks ∧ ks.length ≤ maxLen) unStrss coStrs (by decide) one1_len (fun n cs y hy => by
    obtain ⟨v, ws, ha, hw, hm⟩ := open_keys hy
    exact ⟨v, ha, fun _ => ⟨ws, hw, hm⟩⟩) h
  obtain ⟨ls, l1, l2⟩ := choose_lt' (p := fun i ks => ∀ v, vs[i]? = some v → SlOf 1 encS w v ks ∧ ks.length ≤ maxLen) vs.length (fun i hi => by
    obtain ⟨ws, hw⟩ := h4 i vs[i] (List.getElem?_eq_getElem hi)
    refine ⟨ws, fun v hv => ?_⟩
    rw [List.getElem?_eq_getElem hi] at hv
    cases hv
    exact hw)
  exact ⟨v, vs, ls, h1, ⟨h2, l1.symm, fun i v ws hv hws => l2 i ws hws v hv⟩, by omega⟩
theorem open_bytes {n : Nat} {cs : List Value} {x : DataW H × List MemPlace} (h : DataW.trod ec Try.prog w base spare held n 44 cs = some x) : ∃ v bs, cs = [v] ∧ SlOf 1 (fun b : Int => [Value.int .u8 b]) w v bs ∧ bs.length ≤ maxLen ∧ ∀ b ∈ bs, 0 ≤ b ∧ b ≤ 255 := by
  obtain ⟨v, xs, h1, h2, h3, h4⟩ := open_slOf (enc := fun b : Int => [Value.int .u8 b]) (fun _ b => 0 ≤ b ∧ b ≤ 255) unU8s co5 (by decide) (fun _ => rfl) (fun n cs y hy => by
    obtain ⟨b, hb, hw⟩ := DataW.trod_int un5 hy
    exact ⟨b, hb, fun _ => by simpa [Lit.wf, IntKind.min, IntKind.max, IntKind.signed, IntKind.bits] using hw.2⟩) h
  exact ⟨v, xs, h1, h2, h3, fun b hb => by
    obtain ⟨i, hi⟩ := List.getElem?_of_mem hb
    exact h4 i b hi⟩
theorem bulk_mem {d : DataW H} {l : List (DataW H)} (h : d ∈ l) : Rows.uptoBulk d ≤ Rows.uptoBulkAll l := by
  induction l with
  | nil => cases h
  | cons x r ih =>
    simp only [Rows.uptoBulkAll]
    rcases List.mem_cons.1 h with rfl | h
    · omega
    · have := ih h; omega
theorem open_op {n : Nat} {cs : List Value} {x : DataW H × List MemPlace} (h : DataW.trod ec Try.prog w base spare held n 41 cs = some x) : ∃ o ks, cs = encOp6 o ∧ o.ok w ks := by
  obtain ⟨fs, hu, f0, f1, f2, f3, f4, e0, e1, e2, e3, e4, ⟨t0, o0⟩, ⟨t1, o1⟩, ⟨t2, o2⟩, ⟨t3, o3⟩, ⟨t4, o4⟩, hs⟩ := u_op
  obtain ⟨xs, m, rfl, rfl, hl, hxl, hx⟩ := DataW.trod_struct hu h
  rw [coOp] at hl
  have h0 := hx 0 f0 e0
  have h1 := hx 1 f1 e1
  have h2 := hx 2 f2 e2
  have h3 := hx 3 f3 e3
  have h4 := hx 4 f4 e4
  rw [t0, o0, co5, List.getElem?_eq_getElem (by omega)] at h0
  rw [t1, o1, coStrs, List.getElem?_eq_getElem (by omega)] at h1
  rw [t2, o2, co9, List.getElem?_eq_getElem (by omega)] at h2
  rw [t3, o3, co2, List.getElem?_eq_getElem (by omega)] at h3
  rw [t4, o4, co3, List.getElem?_eq_getElem (by omega)] at h4
  obtain ⟨k, hk, hw⟩ := DataW.trod_int un5 h0
  obtain ⟨v, ks, hv, hsl, hm⟩ := open_keys h1
  obtain ⟨s, hs2, _⟩ := DataW.trod_string un9 h2
  obtain ⟨n, hn, _⟩ := DataW.trod_int un2 h3
  obtain ⟨q, hq, _⟩ := DataW.trod_int un3 h4
  have hw' : 0 ≤ k ∧ k ≤ 255 := by simpa [Lit.wf, IntKind.min, IntKind.max, IntKind.signed, IntKind.bits] using hw.2
  match cs, hl with
  | [c0, c1, c2, c3, c4], _ =>
    simp at hk hv hs2 hn hq
    exact ⟨⟨k, v, s, n, q⟩, ks, by rw [hk, hv, hs2, hn, hq]; rfl, ⟨hsl, hm, hw'.1, hw'.2⟩⟩
theorem open_ops {n : Nat} {cs : List Value} {x : DataW H × List MemPlace} (h : DataW.trod ec Try.prog w base spare held n 34 cs = some x) :
    ∃ v os, cs = [v] ∧ SlOf 5 encOp6 w v os ∧ os.length ≤ maxLen ∧ ∀ o ∈ os, ∃ ks, o.ok w ks := by
  obtain ⟨v, xs, h1, h2, h3, h4⟩ := open_slOf (enc := encOp6) (fun _ o => ∃ ks, o.ok w ks) unOps coOp (by decide) encOp6_len (fun n cs y hy => by
    obtain ⟨o, ks, ha, hw⟩ := open_op hy
    exact ⟨o, ha, fun _ => ⟨ks, hw⟩⟩) h
  exact ⟨v, xs, h1, h2, h3, fun x hx => by
    obtain ⟨i, hi⟩ := List.getElem?_of_mem hx
    exact h4 i x hi⟩
theorem open_opB {n : Nat} {cs : List Value} {x : DataW H × List MemPlace} (h : DataW.trod ec Try.prog w base spare held n 41 cs = some x) : ∃ o : Op6, cs = encOp6 o ∧ ∃ ks, o.ok w ks ∧ ks.length ≤ Rows.uptoBulk x.1 := by
  obtain ⟨o, ks, e, hok⟩ := open_op h
  refine ⟨o, e, ks, hok, ?_⟩
  obtain ⟨fs, hu, f0, f1, f2, f3, f4, e0, e1, e2, e3, e4, ⟨t0, o0⟩, ⟨t1, o1⟩, ⟨t2, o2⟩, ⟨t3, o3⟩, ⟨t4, o4⟩, hs⟩ := u_op
  obtain ⟨xs, m, rfl, rfl, hl, hxl, hx⟩ := DataW.trod_struct hu h
  have h1 := hx 1 f1 e1
  rw [t1, o1, coStrs, List.getElem?_eq_getElem (by omega)] at h1
  obtain ⟨ka, kc, hkv⟩ := hok.keys.form
  rw [e] at h1
  have h1' : DataW.trod ec Try.prog w base spare held m 30 [.slice ka ks.length kc] = some (xs[1]'(by omega)) := by rw [← hkv]; exact h1
  have hb := bulk_slice unStrs h1'
  simp only [Rows.uptoBulk]
  have hm : (xs[1]'(by omega)).1 ∈ xs.map (·.1) := List.mem_map.2 ⟨_, List.getElem_mem _, rfl⟩
  have := bulk_mem hm
  omega
theorem open_opsB {n : Nat} {cs : List Value} {x : DataW H × List MemPlace} (h : DataW.trod ec Try.prog w base spare held n 34 cs = some x) :
    ∃ v os, cs = [v] ∧ SlOf 5 encOp6 w v os ∧ os.length ≤ Rows.uptoBulk x.1 ∧ ∀ o ∈ os, ∃ ks, o.ok w ks ∧ ks.length ≤ Rows.uptoBulk x.1 := by
  obtain ⟨v, xs, h1, h2, h3, h4⟩ := open_slOfD (enc := encOp6) (fun d o => ∃ ks, o.ok w ks ∧ ks.length ≤ Rows.uptoBulk d) unOps coOp (by decide) encOp6_len (fun n cs y hy => open_opB hy) h
  refine ⟨v, xs, h1, h2, ?_, fun o ho => ?_⟩
  · rcases h4 with ⟨_, e⟩ | ⟨els, sp, e, hl, _⟩
    · simp [e]
    · rw [e]
      have := bulk_len els
      simp only [Rows.uptoBulk]; omega
  · obtain ⟨i, hi⟩ := List.getElem?_of_mem ho
    rcases h4 with ⟨_, e⟩ | ⟨els, sp, e, hl, hR⟩
    · rw [e] at hi; simp at hi
    · obtain ⟨d, hd, ks, hok, hks⟩ := hR i o hi
      have := bulk_mem hd
      exact ⟨ks, hok, by rw [e]; simp only [Rows.uptoBulk]; omega⟩
end
end Go.Proofs.Ytenokheiindfkab
