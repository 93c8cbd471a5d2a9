/- The arguments of the table's laws, opened. -/
import Derived.Test.YtldmkhakjnglmaaAF
import Derived.Test.YtldmkhakjnglmaaC9
import Derived.Test.YtldmkhakjnglmaaRows
set_option linter.unusedVariables false
set_option linter.unusedSimpArgs false
set_option maxRecDepth 10000
namespace Go.Proofs.Ytldmkhakjnglmaa
open Go.VW
theorem un2 : Try.prog.underlying 2 = some (.int .i64) := by kernel_rfl
theorem un4 : Try.prog.underlying 4 = some .bool := by kernel_rfl
theorem un5 : Try.prog.underlying 5 = some (.int .u8) := by kernel_rfl
theorem un9 : Try.prog.underlying 9 = some .string := by kernel_rfl
theorem co2 : Try.prog.cellsOf 2 = 1 := by kernel_rfl
theorem co4 : Try.prog.cellsOf 4 = 1 := by kernel_rfl
theorem co5 : Try.prog.cellsOf 5 = 1 := by kernel_rfl
theorem co9 : Try.prog.cellsOf 9 = 1 := by kernel_rfl
theorem co32 : Try.prog.cellsOf 32 = 2 := by kernel_rfl
theorem coF : Try.prog.cellsOf 34 = 5 := by kernel_rfl
theorem coE : Try.prog.cellsOf 36 = 8 := by kernel_rfl
theorem coP : Try.prog.cellsOf 38 = 2 := by kernel_rfl
theorem coOp10 : Try.prog.cellsOf 40 = 12 := by kernel_rfl
theorem u_val : ∃ fs, Try.prog.underlying 32 = some (.struct fs) ∧ ∃ f0 f1, fs[0]? = some f0 ∧ fs[1]? = some f1 ∧ (f0.type = 4 ∧ f0.offset = 0) ∧ (f1.type = 9 ∧ f1.offset = 1) ∧ fs.size = 2 :=
  ⟨_, und_of (Try.runUnderlying32 default), _, _, rfl, rfl, ⟨rfl, rfl⟩, ⟨rfl, rfl⟩, rfl⟩
theorem u_fct : ∃ fs, Try.prog.underlying 34 = some (.struct fs) ∧ ∃ f0 f1 f2 f3, fs[0]? = some f0 ∧ fs[1]? = some f1 ∧ fs[2]? = some f2 ∧ fs[3]? = some f3 ∧ (f0.type = 9 ∧ f0.offset = 0) ∧ (f1.type = 32 ∧ f1.offset = 1) ∧ (f2.type = 2 ∧ f2.offset = 3) ∧ (f3.type = 2 ∧ f3.offset = 4) ∧ fs.size = 4 :=
  ⟨_, und_of (Try.runUnderlying34 default), _, _, _, _, rfl, rfl, rfl, rfl, ⟨rfl, rfl⟩, ⟨rfl, rfl⟩, ⟨rfl, rfl⟩, ⟨rfl, rfl⟩, rfl⟩
theorem u_ent : ∃ fs, Try.prog.underlying 36 = some (.struct fs) ∧ ∃ f0 f1 f2 f3, fs[0]? = some f0 ∧ fs[1]? = some f1 ∧ fs[2]? = some f2 ∧ fs[3]? = some f3 ∧ (f0.type = 34 ∧ f0.offset = 0) ∧ (f1.type = 4 ∧ f1.offset = 5) ∧ (f2.type = 2 ∧ f2.offset = 6) ∧ (f3.type = 2 ∧ f3.offset = 7) ∧ fs.size = 4 :=
  ⟨_, und_of (Try.runUnderlying36 default), _, _, _, _, rfl, rfl, rfl, rfl, ⟨rfl, rfl⟩, ⟨rfl, rfl⟩, ⟨rfl, rfl⟩, ⟨rfl, rfl⟩, rfl⟩
theorem u_pin : ∃ fs, Try.prog.underlying 38 = some (.struct fs) ∧ ∃ f0 f1, fs[0]? = some f0 ∧ fs[1]? = some f1 ∧ (f0.type = 2 ∧ f0.offset = 0) ∧ (f1.type = 2 ∧ f1.offset = 1) ∧ fs.size = 2 :=
  ⟨_, und_of (Try.runUnderlying38 default), _, _, rfl, rfl, ⟨rfl, rfl⟩, ⟨rfl, rfl⟩, rfl⟩
theorem u_op10 : ∃ fs, Try.prog.underlying 40 = some (.struct fs) ∧ ∃ f0 f1 f2 f3, fs[0]? = some f0 ∧ fs[1]? = some f1 ∧ fs[2]? = some f2 ∧ fs[3]? = some f3 ∧ (f0.type = 5 ∧ f0.offset = 0) ∧ (f1.type = 36 ∧ f1.offset = 1) ∧ (f2.type = 2 ∧ f2.offset = 9) ∧ (f3.type = 38 ∧ f3.offset = 10) ∧ fs.size = 4 :=
  ⟨_, und_of (Try.runUnderlying40 default), _, _, _, _, rfl, rfl, rfl, rfl, ⟨rfl, rfl⟩, ⟨rfl, rfl⟩, ⟨rfl, rfl⟩, ⟨rfl, rfl⟩, rfl⟩
section
variable {H : Type} {ec : TypeId × Value → H} {w : World} {base : Nat} {spare : Nat → Bool} {held : Bool}
theorem open_val {n : Nat} {cs : List Value} {x : DataW H × List MemPlace} (h : DataW.trod ec Try.prog w base spare held n 32 cs = some x) : ∃ b s, cs = [.bool b, .string s] := by
  obtain ⟨fs, hu, f0, f1, e0, e1, ⟨t0, o0⟩, ⟨t1, o1⟩, hs⟩ := u_val
  obtain ⟨xs, m, rfl, rfl, hl, hxl, hx⟩ := DataW.trod_struct hu h
  rw [co32] at hl
  have h0 := hx 0 f0 e0
  have h1 := hx 1 f1 e1
  rw [t0, o0, co4, List.getElem?_eq_getElem (by omega)] at h0
  rw [t1, o1, co9, List.getElem?_eq_getElem (by omega)] at h1
  obtain ⟨b, hb, _⟩ := DataW.trod_bool un4 h0
  obtain ⟨s, hs2, _⟩ := DataW.trod_string un9 h1
  obtain ⟨c0, c1, rfl⟩ : ∃ c0 c1, cs = [c0, c1] := by
    match cs, hl with
    | [a, b], _ => exact ⟨a, b, rfl⟩
  simp at hb hs2
  exact ⟨b, s, by rw [hb, hs2]⟩
theorem open_pin {n : Nat} {cs : List Value} {x : DataW H × List MemPlace} (h : DataW.trod ec Try.prog w base spare held n 38 cs = some x) : ∃ a b, cs = [.int .i64 a, .int .i64 b] := by
  obtain ⟨fs, hu, f0, f1, e0, e1, ⟨t0, o0⟩, ⟨t1, o1⟩, hs⟩ := u_pin
  obtain ⟨xs, m, rfl, rfl, hl, hxl, hx⟩ := DataW.trod_struct hu h
  rw [coP] at hl
  have h0 := hx 0 f0 e0
  have h1 := hx 1 f1 e1
  rw [t0, o0, co2, List.getElem?_eq_getElem (by omega)] at h0
  rw [t1, o1, co2, List.getElem?_eq_getElem (by omega)] at h1
  obtain ⟨a, ha, _⟩ := DataW.trod_int un2 h0
  obtain ⟨b, hb, _⟩ := DataW.trod_int un2 h1
  obtain ⟨c0, c1, rfl⟩ : ∃ c0 c1, cs = [c0, c1] := by
    match cs, hl with
    | [a, b], _ => exact ⟨a, b, rfl⟩
  simp at ha hb
  exact ⟨a, b, by rw [ha, hb]⟩
theorem open_fct {n : Nat} {cs : List Value} {x : DataW H × List MemPlace} (h : DataW.trod ec Try.prog w base spare held n 34 cs = some x) : ∃ k b d lo hi, cs = [.string k, .bool b, .string d, .int .i64 lo, .int .i64 hi] := by
  obtain ⟨fs, hu, f0, f1, f2, f3, e0, e1, e2, e3, ⟨t0, o0⟩, ⟨t1, o1⟩, ⟨t2, o2⟩, ⟨t3, o3⟩, hs⟩ := u_fct
  obtain ⟨xs, m, rfl, rfl, hl, hxl, hx⟩ := DataW.trod_struct hu h
  rw [coF] at hl
  have h0 := hx 0 f0 e0
  have h1 := hx 1 f1 e1
  have h2 := hx 2 f2 e2
  have h3 := hx 3 f3 e3
  rw [t0, o0, co9, List.getElem?_eq_getElem (by omega)] at h0
  rw [t1, o1, co32, List.getElem?_eq_getElem (by omega)] at h1
  rw [t2, o2, co2, List.getElem?_eq_getElem (by omega)] at h2
  rw [t3, o3, co2, List.getElem?_eq_getElem (by omega)] at h3
  obtain ⟨k, hk, _⟩ := DataW.trod_string un9 h0
  obtain ⟨b, d, hbd⟩ := open_val h1
  obtain ⟨lo, hlo, _⟩ := DataW.trod_int un2 h2
  obtain ⟨hi, hhi, _⟩ := DataW.trod_int un2 h3
  obtain ⟨c0, c1, c2, c3, c4, rfl⟩ : ∃ c0 c1 c2 c3 c4, cs = [c0, c1, c2, c3, c4] := by
    match cs, hl with
    | [a, b, c, d, e], _ => exact ⟨a, b, c, d, e, rfl⟩
  simp at hk hbd hlo hhi
  exact ⟨k, b, d, lo, hi, by rw [hk, hbd.1, hbd.2, hlo, hhi]⟩
theorem open_ent {n : Nat} {cs : List Value} {x : DataW H × List MemPlace} (h : DataW.trod ec Try.prog w base spare held n 36 cs = some x) : ∃ e : Ent, cs = encEnt e := by
  obtain ⟨fs, hu, f0, f1, f2, f3, e0, e1, e2, e3, ⟨t0, o0⟩, ⟨t1, o1⟩, ⟨t2, o2⟩, ⟨t3, o3⟩, hs⟩ := u_ent
  obtain ⟨xs, m, rfl, rfl, hl, hxl, hx⟩ := DataW.trod_struct hu h
  rw [coE] at hl
  have h0 := hx 0 f0 e0
  have h1 := hx 1 f1 e1
  have h2 := hx 2 f2 e2
  have h3 := hx 3 f3 e3
  rw [t0, o0, coF, List.getElem?_eq_getElem (by omega)] at h0
  rw [t1, o1, co4, List.getElem?_eq_getElem (by omega)] at h1
  rw [t2, o2, co2, List.getElem?_eq_getElem (by omega)] at h2
  rw [t3, o3, co2, List.getElem?_eq_getElem (by omega)] at h3
  obtain ⟨k, b, d, lo, hi, hf⟩ := open_fct h0
  obtain ⟨hot, hh, _⟩ := DataW.trod_bool un4 h1
  obtain ⟨st, hst, _⟩ := DataW.trod_int un2 h2
  obtain ⟨ins, hin, _⟩ := DataW.trod_int un2 h3
  obtain ⟨c0, c1, c2, c3, c4, c5, c6, c7, rfl⟩ : ∃ c0 c1 c2 c3 c4 c5 c6 c7, cs = [c0, c1, c2, c3, c4, c5, c6, c7] := by
    match cs, hl with
    | [a, b, c, d, e, f, g, h], _ => exact ⟨a, b, c, d, e, f, g, h, rfl⟩
  simp at hf hh hst hin
  obtain ⟨r0, r1, r2, r3, r4⟩ := hf
  exact ⟨⟨k, b, d, lo, hi, hot, st, ins⟩, by rw [r0, r1, r2, r3, r4, hh, hst, hin]; rfl⟩
theorem open_op10 {n : Nat} {cs : List Value} {x : DataW H × List MemPlace} (h : DataW.trod ec Try.prog w base spare held n 40 cs = some x) : ∃ o : Op10, cs = encOp10 o ∧ True := by
  obtain ⟨fs, hu, f0, f1, f2, f3, e0, e1, e2, e3, ⟨t0, o0⟩, ⟨t1, o1⟩, ⟨t2, o2⟩, ⟨t3, o3⟩, hs⟩ := u_op10
  obtain ⟨xs, m, rfl, rfl, hl, hxl, hx⟩ := DataW.trod_struct hu h
  rw [coOp10] at hl
  have h0 := hx 0 f0 e0
  have h1 := hx 1 f1 e1
  have h2 := hx 2 f2 e2
  have h3 := hx 3 f3 e3
  rw [t0, o0, co5, List.getElem?_eq_getElem (by omega)] at h0
  rw [t1, o1, coE, List.getElem?_eq_getElem (by omega)] at h1
  rw [t2, o2, co2, List.getElem?_eq_getElem (by omega)] at h2
  rw [t3, o3, coP, List.getElem?_eq_getElem (by omega)] at h3
  obtain ⟨k, hk, _⟩ := DataW.trod_int un5 h0
  obtain ⟨e, he⟩ := open_ent h1
  obtain ⟨a, ha, _⟩ := DataW.trod_int un2 h2
  obtain ⟨lo, hi, hp⟩ := open_pin h3
  obtain ⟨c0, c1, c2, c3, c4, c5, c6, c7, c8, c9, cA, cB, rfl⟩ : ∃ c0 c1 c2 c3 c4 c5 c6 c7 c8 c9 cA cB, cs = [c0, c1, c2, c3, c4, c5, c6, c7, c8, c9, cA, cB] := by
    match cs, hl with
    | [a, b, c, d, e, f, g, h, i, j, k, l], _ => exact ⟨a, b, c, d, e, f, g, h, i, j, k, l, rfl⟩
  simp [encEnt] at hk he ha hp
  obtain ⟨r0, r1, r2, r3, r4, r5, r6, r7⟩ := he
  exact ⟨⟨k, e, a, lo, hi⟩, by rw [hk, r0, r1, r2, r3, r4, r5, r6, r7, ha, hp.1, hp.2]; rfl, trivial⟩
end
end Go.Proofs.Ytldmkhakjnglmaa
