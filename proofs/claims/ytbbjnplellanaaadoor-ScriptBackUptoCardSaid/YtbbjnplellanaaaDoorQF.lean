/- The steps among the arguments, opened, with their bulk. -/
import Derived.Test.YtbbjnplellanaaaDoorRB
import Derived.Test.YtbbjnplellanaaaDoorPO
set_option linter.unusedVariables false
set_option linter.unusedSimpArgs false
set_option maxRecDepth 100000
namespace Go.Proofs.YtbbjnplellanaaaDoor
open Go.VW
theorem un3 : Tryd.prog.underlying 3 = some (.int .i64) := by kernel_rfl
theorem un4 : Tryd.prog.underlying 4 = some .bool := by kernel_rfl
theorem un9 : Tryd.prog.underlying 9 = some .string := by kernel_rfl
theorem unWs : Tryd.prog.underlying 31 = some (.slice 60) := by kernel_rfl
theorem unSt : Tryd.prog.underlying 23 = some (.slice 33) := by kernel_rfl
theorem co3 : Tryd.prog.cellsOf 3 = 1 := by kernel_rfl
theorem co4 : Tryd.prog.cellsOf 4 = 1 := by kernel_rfl
theorem co9 : Tryd.prog.cellsOf 9 = 1 := by kernel_rfl
theorem coVal : Tryd.prog.cellsOf 58 = 2 := by kernel_rfl
theorem coWr : Tryd.prog.cellsOf 60 = 3 := by kernel_rfl
theorem coWs : Tryd.prog.cellsOf 31 = 1 := by kernel_rfl
theorem coSt : Tryd.prog.cellsOf 33 = 8 := by kernel_rfl
theorem u_val : ∃ fs, Tryd.prog.underlying 58 = some (.struct fs) ∧ ∃ f0 f1, fs[0]? = some f0 ∧ fs[1]? = some f1 ∧ (f0.type = 4 ∧ f0.offset = 0) ∧ (f1.type = 9 ∧ f1.offset = 1) ∧ fs.size = 2 :=
 ⟨_, und_of (Tryd.runUnderlying58 default), _, _, rfl, rfl, ⟨rfl, rfl⟩, ⟨rfl, rfl⟩, rfl⟩
theorem u_wr : ∃ fs, Tryd.prog.underlying 60 = some (.struct fs) ∧ ∃ f0 f1, fs[0]? = some f0 ∧ fs[1]? = some f1 ∧ (f0.type = 9 ∧ f0.offset = 0) ∧ (f1.type = 58 ∧ f1.offset = 1) ∧ fs.size = 2 :=
 ⟨_, und_of (Tryd.runUnderlying60 default), _, _, rfl, rfl, ⟨rfl, rfl⟩, ⟨rfl, rfl⟩, rfl⟩
theorem u_st : ∃ fs, Tryd.prog.underlying 33 = some (.struct fs) ∧ ∃ f0 f1 f2 f3 f4 f5 f6 f7, fs[0]? = some f0 ∧ fs[1]? = some f1 ∧ fs[2]? = some f2 ∧ fs[3]? = some f3 ∧ fs[4]? = some f4 ∧ fs[5]? = some f5 ∧ fs[6]? = some f6 ∧ fs[7]? = some f7 ∧ (f0.type = 3 ∧ f0.offset = 0) ∧ (f1.type = 3 ∧ f1.offset = 1) ∧ (f2.type = 3 ∧ f2.offset = 2) ∧ (f3.type = 3 ∧ f3.offset = 3) ∧ (f4.type = 3 ∧ f4.offset = 4) ∧ (f5.type = 9 ∧ f5.offset = 5) ∧ (f6.type = 31 ∧ f6.offset = 6) ∧ (f7.type = 9 ∧ f7.offset = 7) ∧ fs.size = 8 :=
 ⟨_, und_of (Tryd.runUnderlying33 default), _, _, _, _, _, _, _, _, rfl, rfl, rfl, rfl, rfl, rfl, rfl, rfl, ⟨rfl, rfl⟩, ⟨rfl, rfl⟩, ⟨rfl, rfl⟩, ⟨rfl, rfl⟩, ⟨rfl, rfl⟩, ⟨rfl, rfl⟩, ⟨rfl, rfl⟩, ⟨rfl, rfl⟩, rfl⟩
section
variable {H : Type} {ec : TypeId × Value → H} {w : World} {base : Nat} {spare : Nat → Bool} {held : Bool}
theorem bulk_mem {d : DataW H} : ∀ {l : List (DataW H)}, d ∈ l → Rows.uptoBulk d ≤ Rows.uptoBulkAll l
 | [], h => by cases h
 | x :: r, h => by
   rw [Rows.uptoBulkAll]
   rcases List.mem_cons.1 h with rfl | h'
   ·omega
   ·have := bulk_mem h'; omega
theorem agg_part {y : DataW H × List MemPlace} {xs : List (DataW H × List MemPlace)} (h : y ∈ xs) : Rows.uptoBulk y.1 ≤ Rows.uptoBulk (.agg (xs.map (·.1)) : DataW H) := by
 have := bulk_mem (List.mem_map_of_mem (f := fun z : DataW H × List MemPlace => z.1) h)
 rw [Rows.uptoBulk]; omega
theorem str_bulk {s : ByteArray} {l : Bs} {y : DataW H × List MemPlace} (hs : s = B l) (hy : y = (.lit (.string s.data.toList), [])) : l.length ≤ Rows.uptoBulk y.1 := by
 subst hs; subst hy
 simp only [Rows.uptoBulk, B_list]; omega
theorem open_valB {n : Nat} {cs : List Value} {x : DataW H × List MemPlace} (h : DataW.trod ec Tryd.prog w base spare held n 58 cs = some x) : ∃ b l, cs = [.bool b, .string (B l)] ∧ l.length ≤ Rows.uptoBulk x.1 := by
 obtain ⟨fs, hu, f0, f1, e0, e1, ⟨t0, o0⟩, ⟨t1, o1⟩, hs⟩ := u_val
 obtain ⟨xs, m, rfl, rfl, hl, hxl, hx⟩ := DataW.trod_struct hu h
 rw [coVal] at hl
 have h0 := hx 0 f0 e0
 rw [t0, o0, co4, List.getElem?_eq_getElem (by omega)] at h0
 have h1 := hx 1 f1 e1
 rw [t1, o1, co9, List.getElem?_eq_getElem (by omega)] at h1
 obtain ⟨a0, g0, _⟩ := DataW.trod_bool un4 h0
 obtain ⟨a1, g1, b1, _⟩ := DataW.trod_string un9 h1
 obtain ⟨l, hal⟩ := B_of a1
 have hb := Nat.le_trans (str_bulk hal b1) (agg_part (List.getElem_mem (by omega)))
 obtain ⟨c0, c1, rfl⟩ : ∃ c0 c1, cs = [c0, c1] := by
  match cs, hl with
  | [c0, c1], _ => exact ⟨c0, c1, rfl⟩
 simp at g0 g1
 exact ⟨a0, l, by rw [g0, g1, hal], hb⟩
def WrB (b : Nat) (a : Wr) : Prop := a.key.length ≤ b ∧ a.data.length ≤ b
theorem open_wrB {n : Nat} {cs : List Value} {x : DataW H × List MemPlace} (h : DataW.trod ec Tryd.prog w base spare held n 60 cs = some x) : ∃ a : Wr, cs = encWr a ∧ WrB (Rows.uptoBulk x.1) a := by
 obtain ⟨fs, hu, f0, f1, e0, e1, ⟨t0, o0⟩, ⟨t1, o1⟩, hs⟩ := u_wr
 obtain ⟨xs, m, rfl, rfl, hl, hxl, hx⟩ := DataW.trod_struct hu h
 rw [coWr] at hl
 have h0 := hx 0 f0 e0
 rw [t0, o0, co9, List.getElem?_eq_getElem (by omega)] at h0
 have h1 := hx 1 f1 e1
 rw [t1, o1, coVal, List.getElem?_eq_getElem (by omega)] at h1
 obtain ⟨a0, g0, b0, _⟩ := DataW.trod_string un9 h0
 obtain ⟨k, hk⟩ := B_of a0
 have hb0 := Nat.le_trans (str_bulk hk b0) (agg_part (List.getElem_mem (by omega)))
 obtain ⟨a1, l1, g1, b1⟩ := open_valB h1
 have hb1 := Nat.le_trans b1 (agg_part (List.getElem_mem (by omega)))
 obtain ⟨c0, c1, c2, rfl⟩ : ∃ c0 c1 c2, cs = [c0, c1, c2] := by
  match cs, hl with
  | [c0, c1, c2], _ => exact ⟨c0, c1, c2, rfl⟩
 simp at g0 g1
 exact ⟨⟨k, a1, l1⟩, by rw [g0, g1.1, g1.2, hk]; rfl, hb0, hb1⟩
theorem open_wsB {n : Nat} {cs : List Value} {x : DataW H × List MemPlace} (h : DataW.trod ec Tryd.prog w base spare held n 31 cs = some x) : ∃ v ws, cs = [v] ∧ SlOf 3 encWr w v ws ∧ ws.length ≤ Rows.uptoBulk x.1 ∧ ∀ a ∈ ws, WrB (Rows.uptoBulk x.1) a := by
 obtain ⟨v, xs, h1, h2, h3, h4⟩ := open_slOfD (enc := encWr) (fun d a => WrB (Rows.uptoBulk d) a) unWs coWr (by decide) encWr_len (fun n cs y hy => open_wrB hy) h
 refine ⟨v, xs, h1, h2, ?_⟩
 rcases h4 with ⟨_, e⟩ | ⟨els, sp, e, hl, hd⟩
 ·subst e; exact ⟨by simp, fun a ha => by cases ha⟩
 ·rw [e]
  have hbl := bulk_len els
  refine ⟨by simp only [Rows.uptoBulk]; omega, fun a ha => ?_⟩
  obtain ⟨i, hi⟩ := List.getElem?_of_mem ha
  obtain ⟨d, hde, hk, hd2⟩ := hd i a hi
  have := bulk_mem hde
  simp only [Rows.uptoBulk, WrB]
  exact ⟨by omega, by omega⟩
structure StB (w : World) (b : Nat) (a : Stp × SlV) : Prop where
 at_ : SlOf 3 encWr w (.slice a.2.1 a.2.2.1 a.2.2.2) a.1.ws
 key : a.1.key.length ≤ b
 text : a.1.text.length ≤ b
 ws : a.1.ws.length ≤ b
 wk : ∀ x ∈ a.1.ws, WrB b x
theorem StB.mono {b b' : Nat} {a : Stp × SlV} (h : StB w b a) (hb : b ≤ b') : StB w b' a := ⟨h.at_, by have := h.key; omega, by have := h.text; omega, by have := h.ws; omega, fun x hx => by have := h.wk x hx; unfold WrB at *; omega⟩
theorem StB.fits {b : Nat} {a : Stp × SlV} (h : StB w b a) (hb : b ≤ 1048576) : Fits a.1 := ⟨by have := h.key; omega, by have := h.text; omega, by have := h.ws; omega, fun x hx => by have := h.wk x hx; unfold WrB at this; omega⟩
theorem open_stB {n : Nat} {cs : List Value} {x : DataW H × List MemPlace} (h : DataW.trod ec Tryd.prog w base spare held n 33 cs = some x) : ∃ a : Stp × SlV, cs = encStp a ∧ StB w (Rows.uptoBulk x.1) a := by
 obtain ⟨fs, hu, f0, f1, f2, f3, f4, f5, f6, f7, e0, e1, e2, e3, e4, e5, e6, e7, ⟨t0, o0⟩, ⟨t1, o1⟩, ⟨t2, o2⟩, ⟨t3, o3⟩, ⟨t4, o4⟩, ⟨t5, o5⟩, ⟨t6, o6⟩, ⟨t7, o7⟩, hs⟩ := u_st
 obtain ⟨xs, m, rfl, rfl, hl, hxl, hx⟩ := DataW.trod_struct hu h
 rw [coSt] at hl
 have h0 := hx 0 f0 e0
 rw [t0, o0, co3, List.getElem?_eq_getElem (by omega)] at h0
 have h1 := hx 1 f1 e1
 rw [t1, o1, co3, List.getElem?_eq_getElem (by omega)] at h1
 have h2 := hx 2 f2 e2
 rw [t2, o2, co3, List.getElem?_eq_getElem (by omega)] at h2
 have h3 := hx 3 f3 e3
 rw [t3, o3, co3, List.getElem?_eq_getElem (by omega)] at h3
 have h4 := hx 4 f4 e4
 rw [t4, o4, co3, List.getElem?_eq_getElem (by omega)] at h4
 have h5 := hx 5 f5 e5
 rw [t5, o5, co9, List.getElem?_eq_getElem (by omega)] at h5
 have h6 := hx 6 f6 e6
 rw [t6, o6, coWs, List.getElem?_eq_getElem (by omega)] at h6
 have h7 := hx 7 f7 e7
 rw [t7, o7, co9, List.getElem?_eq_getElem (by omega)] at h7
 obtain ⟨a0, g0, _⟩ := DataW.trod_int un3 h0
 obtain ⟨a1, g1, _⟩ := DataW.trod_int un3 h1
 obtain ⟨a2, g2, _⟩ := DataW.trod_int un3 h2
 obtain ⟨a3, g3, _⟩ := DataW.trod_int un3 h3
 obtain ⟨a4, g4, _⟩ := DataW.trod_int un3 h4
 obtain ⟨a5, g5, b5, _⟩ := DataW.trod_string un9 h5
 obtain ⟨k, hk⟩ := B_of a5
 have hb5 := Nat.le_trans (str_bulk hk b5) (agg_part (List.getElem_mem (by omega)))
 obtain ⟨v6, ws, g6, hsl, hwl, hwk⟩ := open_wsB h6
 have hb6 := agg_part (H := H) (List.getElem_mem (l := xs) (n := 6) (by omega))
 obtain ⟨a7, g7, b7, _⟩ := DataW.trod_string un9 h7
 obtain ⟨tx, htx⟩ := B_of a7
 have hb7 := Nat.le_trans (str_bulk htx b7) (agg_part (List.getElem_mem (by omega)))
 obtain ⟨va, vc, rfl⟩ := hsl.form
 obtain ⟨c0, c1, c2, c3, c4, c5, c6, c7, rfl⟩ : ∃ c0 c1 c2 c3 c4 c5 c6 c7, cs = [c0, c1, c2, c3, c4, c5, c6, c7] := by
  match cs, hl with
  | [c0, c1, c2, c3, c4, c5, c6, c7], _ => exact ⟨c0, c1, c2, c3, c4, c5, c6, c7, rfl⟩
 simp at g0 g1 g2 g3 g4 g5 g6 g7
 refine ⟨(⟨a0, a1, a2, a3, a4, k, ws, tx⟩, (va, ws.length, vc)), by rw [g0, g1, g2, g3, g4, g5, g6, g7, hk, htx]; rfl, hsl, hb5, hb7, Nat.le_trans hwl hb6, fun y hy => ?_⟩
 have := hwk y hy
 exact ⟨Nat.le_trans this.1 hb6, Nat.le_trans this.2 hb6⟩
theorem open_stepsB {n : Nat} {cs : List Value} {x : DataW H × List MemPlace} (h : DataW.trod ec Tryd.prog w base spare held n 23 cs = some x) : ∃ v rows, cs = [v] ∧ RowsAt w v rows ∧ rows.length ≤ Rows.uptoBulk x.1 ∧ ∀ a ∈ rows, StB w (Rows.uptoBulk x.1) a := by
 obtain ⟨v, xs, h1, h2, h3, h4⟩ := open_slOfD (enc := encStp) (fun d a => StB w (Rows.uptoBulk d) a) unSt coSt (by decide) encStp_len (fun n cs y hy => open_stB hy) h
 have key : xs.length ≤ Rows.uptoBulk x.1 ∧ ∀ a ∈ xs, StB w (Rows.uptoBulk x.1) a := by
  rcases h4 with ⟨_, e⟩ | ⟨els, sp, e, hl, hd⟩
  ·subst e; exact ⟨by simp, fun a ha => by cases ha⟩
  ·rw [e]
   have hbl := bulk_len els
   refine ⟨by simp only [Rows.uptoBulk]; omega, fun a ha => ?_⟩
   obtain ⟨i, hi⟩ := List.getElem?_of_mem ha
   obtain ⟨d, hde, hk⟩ := hd i a hi
   have := bulk_mem hde
   exact hk.mono (by simp only [Rows.uptoBulk]; omega)
 exact ⟨v, xs, h1, ⟨h2, fun a ha => (key.2 a ha).at_⟩, key⟩
end
end Go.Proofs.YtbbjnplellanaaaDoor
