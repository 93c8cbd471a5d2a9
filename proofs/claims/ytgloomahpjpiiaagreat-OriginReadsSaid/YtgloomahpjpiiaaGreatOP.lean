/- Messages among the arguments, opened. -/
import Derived.Test.YtgloomahpjpiiaaGreatON
import Derived.Test.YtgloomahpjpiiaaGreatC9
import Derived.Test.YtgloomahpjpiiaaGreatRows
set_option linter.unusedVariables false
set_option linter.unusedSimpArgs false
set_option maxRecDepth 10000
namespace Go.Proofs.YtgloomahpjpiiaaGreat.Or
open Go.VW
theorem un2 : Tryz.prog.underlying 2 = some (.int .i64) := by kernel_rfl
theorem un3 : Tryz.prog.underlying 3 = some (.int .i64) := by kernel_rfl
theorem untErrno : Tryz.prog.underlying 36 = some (.int .i64) := by kernel_rfl
theorem un4 : Tryz.prog.underlying 4 = some .bool := by kernel_rfl
theorem un9 : Tryz.prog.underlying 9 = some .string := by kernel_rfl
theorem unWs : Tryz.prog.underlying 37 = some (.slice 66) := by kernel_rfl
theorem unKs : Tryz.prog.underlying 38 = some (.slice 9) := by kernel_rfl
theorem unMs : Tryz.prog.underlying 24 = some (.slice 40) := by kernel_rfl
theorem co2 : Tryz.prog.cellsOf 2 = 1 := by kernel_rfl
theorem co3 : Tryz.prog.cellsOf 3 = 1 := by kernel_rfl
theorem co4 : Tryz.prog.cellsOf 4 = 1 := by kernel_rfl
theorem co9 : Tryz.prog.cellsOf 9 = 1 := by kernel_rfl
theorem cotErrno : Tryz.prog.cellsOf 36 = 1 := by kernel_rfl
theorem cotPinE : Tryz.prog.cellsOf 33 = 2 := by kernel_rfl
theorem cotVal : Tryz.prog.cellsOf 35 = 2 := by kernel_rfl
theorem cotWr : Tryz.prog.cellsOf 66 = 3 := by kernel_rfl
theorem cotWrs : Tryz.prog.cellsOf 37 = 1 := by kernel_rfl
theorem cotStrs : Tryz.prog.cellsOf 38 = 1 := by kernel_rfl
theorem cotMsg : Tryz.prog.cellsOf 40 = 16 := by kernel_rfl
theorem u_val : ∃ fs, Tryz.prog.underlying 35 = some (.struct fs) ∧ ∃ f0 f1, fs[0]? = some f0 ∧ fs[1]? = some f1 ∧ (f0.type = 4 ∧ f0.offset = 0) ∧ (f1.type = 9 ∧ f1.offset = 1) ∧ fs.size = 2 :=
 ⟨_, und_of (Tryz.runUnderlying35 default), _, _, rfl, rfl, ⟨rfl, rfl⟩, ⟨rfl, rfl⟩, rfl⟩
theorem u_pin : ∃ fs, Tryz.prog.underlying 33 = some (.struct fs) ∧ ∃ f0 f1, fs[0]? = some f0 ∧ fs[1]? = some f1 ∧ (f0.type = 2 ∧ f0.offset = 0) ∧ (f1.type = 2 ∧ f1.offset = 1) ∧ fs.size = 2 :=
 ⟨_, und_of (Tryz.runUnderlying33 default), _, _, rfl, rfl, ⟨rfl, rfl⟩, ⟨rfl, rfl⟩, rfl⟩
theorem u_wr : ∃ fs, Tryz.prog.underlying 66 = some (.struct fs) ∧ ∃ f0 f1, fs[0]? = some f0 ∧ fs[1]? = some f1 ∧ (f0.type = 9 ∧ f0.offset = 0) ∧ (f1.type = 35 ∧ f1.offset = 1) ∧ fs.size = 2 :=
 ⟨_, und_of (Tryz.runUnderlying66 default), _, _, rfl, rfl, ⟨rfl, rfl⟩, ⟨rfl, rfl⟩, rfl⟩
theorem u_msg : ∃ fs, Tryz.prog.underlying 40 = some (.struct fs) ∧ ∃ f0 f1 f2 f3 f4 f5 f6 f7 f8 f9 f10 f11 f12 f13, fs[0]? = some f0 ∧ fs[1]? = some f1 ∧ fs[2]? = some f2 ∧ fs[3]? = some f3 ∧ fs[4]? = some f4 ∧ fs[5]? = some f5 ∧ fs[6]? = some f6 ∧ fs[7]? = some f7 ∧ fs[8]? = some f8 ∧ fs[9]? = some f9 ∧ fs[10]? = some f10 ∧ fs[11]? = some f11 ∧ fs[12]? = some f12 ∧ fs[13]? = some f13 ∧ (f0.type = 3 ∧ f0.offset = 0) ∧ (f1.type = 3 ∧ f1.offset = 1) ∧ (f2.type = 3 ∧ f2.offset = 2) ∧ (f3.type = 3 ∧ f3.offset = 3) ∧ (f4.type = 3 ∧ f4.offset = 4) ∧ (f5.type = 3 ∧ f5.offset = 5) ∧ (f6.type = 9 ∧ f6.offset = 6) ∧ (f7.type = 33 ∧ f7.offset = 7) ∧ (f8.type = 35 ∧ f8.offset = 9) ∧ (f9.type = 4 ∧ f9.offset = 11) ∧ (f10.type = 36 ∧ f10.offset = 12) ∧ (f11.type = 2 ∧ f11.offset = 13) ∧ (f12.type = 37 ∧ f12.offset = 14) ∧ (f13.type = 38 ∧ f13.offset = 15) ∧ fs.size = 14 :=
 ⟨_, und_of (Tryz.runUnderlying40 default), _, _, _, _, _, _, _, _, _, _, _, _, _, _, rfl, rfl, rfl, rfl, rfl, rfl, rfl, rfl, rfl, rfl, rfl, rfl, rfl, rfl, ⟨rfl, rfl⟩, ⟨rfl, rfl⟩, ⟨rfl, rfl⟩, ⟨rfl, rfl⟩, ⟨rfl, rfl⟩, ⟨rfl, rfl⟩, ⟨rfl, rfl⟩, ⟨rfl, rfl⟩, ⟨rfl, rfl⟩, ⟨rfl, rfl⟩, ⟨rfl, rfl⟩, ⟨rfl, rfl⟩, ⟨rfl, rfl⟩, ⟨rfl, rfl⟩, rfl⟩
section
variable {H : Type} {ec : TypeId × Value → H} {w : World} {base : Nat} {spare : Nat → Bool} {held : Bool}
theorem open_val {n : Nat} {cs : List Value} {x : DataW H × List MemPlace} (h : DataW.trod ec Tryz.prog w base spare held n 35 cs = some x) : ∃ b s, cs = [.bool b, .string s] := by
 obtain ⟨fs, hu, f0, f1, e0, e1, ⟨t0, o0⟩, ⟨t1, o1⟩, hs⟩ := u_val
 obtain ⟨xs, m, rfl, rfl, hl, hxl, hx⟩ := DataW.trod_struct hu h
 rw [cotVal] at hl
 have h0 := hx 0 f0 e0
 rw [t0, o0, co4, List.getElem?_eq_getElem (by omega)] at h0
 have h1 := hx 1 f1 e1
 rw [t1, o1, co9, List.getElem?_eq_getElem (by omega)] at h1
 obtain ⟨a0, g0, _⟩ := DataW.trod_bool un4 h0
 obtain ⟨a1, g1, _⟩ := DataW.trod_string un9 h1
 obtain ⟨c0, c1, rfl⟩ : ∃ c0 c1, cs = [c0, c1] := by
  match cs, hl with
  | [c0, c1], _ => exact ⟨c0, c1, rfl⟩
 simp at g0 g1
 exact ⟨a0, a1, by rw [g0, g1]⟩
theorem open_pin {n : Nat} {cs : List Value} {x : DataW H × List MemPlace} (h : DataW.trod ec Tryz.prog w base spare held n 33 cs = some x) : ∃ a b, cs = [.int .i64 a, .int .i64 b] := by
 obtain ⟨fs, hu, f0, f1, e0, e1, ⟨t0, o0⟩, ⟨t1, o1⟩, hs⟩ := u_pin
 obtain ⟨xs, m, rfl, rfl, hl, hxl, hx⟩ := DataW.trod_struct hu h
 rw [cotPinE] at hl
 have h0 := hx 0 f0 e0
 rw [t0, o0, co2, List.getElem?_eq_getElem (by omega)] at h0
 have h1 := hx 1 f1 e1
 rw [t1, o1, co2, List.getElem?_eq_getElem (by omega)] at h1
 obtain ⟨a0, g0, _⟩ := DataW.trod_int un2 h0
 obtain ⟨a1, g1, _⟩ := DataW.trod_int un2 h1
 obtain ⟨c0, c1, rfl⟩ : ∃ c0 c1, cs = [c0, c1] := by
  match cs, hl with
  | [c0, c1], _ => exact ⟨c0, c1, rfl⟩
 simp at g0 g1
 exact ⟨a0, a1, by rw [g0, g1]⟩
theorem open_wr {n : Nat} {cs : List Value} {x : DataW H × List MemPlace} (h : DataW.trod ec Tryz.prog w base spare held n 66 cs = some x) : ∃ a : St.Wr, cs = St.encWr a := by
 obtain ⟨fs, hu, f0, f1, e0, e1, ⟨t0, o0⟩, ⟨t1, o1⟩, hs⟩ := u_wr
 obtain ⟨xs, m, rfl, rfl, hl, hxl, hx⟩ := DataW.trod_struct hu h
 rw [cotWr] at hl
 have h0 := hx 0 f0 e0
 rw [t0, o0, co9, List.getElem?_eq_getElem (by omega)] at h0
 have h1 := hx 1 f1 e1
 rw [t1, o1, cotVal, List.getElem?_eq_getElem (by omega)] at h1
 obtain ⟨a0, g0, _⟩ := DataW.trod_string un9 h0
 obtain ⟨a1, b1, g1⟩ := open_val h1
 obtain ⟨c0, c1, c2, rfl⟩ : ∃ c0 c1 c2, cs = [c0, c1, c2] := by
  match cs, hl with
  | [c0, c1, c2], _ => exact ⟨c0, c1, c2, rfl⟩
 simp at g0 g1
 exact ⟨⟨a0, a1, b1⟩, by rw [g0, g1.1, g1.2]; rfl⟩
theorem open_ws {n : Nat} {cs : List Value} {x : DataW H × List MemPlace} (h : DataW.trod ec Tryz.prog w base spare held n 37 cs = some x) : ∃ v ws, cs = [v] ∧ SlOf 3 St.encWr w v ws ∧ ws.length ≤ maxLen := by
 obtain ⟨v, xs, h1, h2, h3, _⟩ := open_slOf (enc := St.encWr) (fun _ _ => True) unWs cotWr (by decide) St.encWr_len (fun n cs y hy => by
  obtain ⟨a, ha⟩ := open_wr hy
  exact ⟨a, ha, fun _ => trivial⟩) h
 exact ⟨v, xs, h1, h2, h3⟩
theorem open_ks {n : Nat} {cs : List Value} {x : DataW H × List MemPlace} (h : DataW.trod ec Tryz.prog w base spare held n 38 cs = some x) : ∃ v ks, cs = [v] ∧ SlOf 1 Sm.encS w v ks ∧ ks.length ≤ maxLen := by
 obtain ⟨v, xs, h1, h2, h3, _⟩ := open_slOf (enc := Sm.encS) (fun _ _ => True) unKs co9 (by decide) (fun _ => rfl) (fun n cs y hy => by
  obtain ⟨a, ha, _⟩ := DataW.trod_string un9 hy
  exact ⟨a, ha, fun _ => trivial⟩) h
 exact ⟨v, xs, h1, h2, h3⟩
theorem open_msg {n : Nat} {cs : List Value} {x : DataW H × List MemPlace} (h : DataW.trod ec Tryz.prog w base spare held n 40 cs = some x) : ∃ (m : Msg) (ws : List St.Wr) (ks : List ByteArray), cs = encMsg m ∧ MsgAt w m ws ks := by
 obtain ⟨fs, hu, f0, f1, f2, f3, f4, f5, f6, f7, f8, f9, f10, f11, f12, f13, e0, e1, e2, e3, e4, e5, e6, e7, e8, e9, e10, e11, e12, e13, ⟨t0, o0⟩, ⟨t1, o1⟩, ⟨t2, o2⟩, ⟨t3, o3⟩, ⟨t4, o4⟩, ⟨t5, o5⟩, ⟨t6, o6⟩, ⟨t7, o7⟩, ⟨t8, o8⟩, ⟨t9, o9⟩, ⟨t10, o10⟩, ⟨t11, o11⟩, ⟨t12, o12⟩, ⟨t13, o13⟩, hs⟩ := u_msg
 obtain ⟨xs, m, rfl, rfl, hl, hxl, hx⟩ := DataW.trod_struct hu h
 rw [cotMsg] at hl
 have h0 := hx 0 f0 e0
 rw [t0, o0, co3, List.getElem?_eq_getElem (by omega)] at h0
 have h1 := hx 1 f1 e1
 rw [t1, o1, co3, List.getElem?_eq_getElem (by omega)] at h1
 have h2 := hx 2 f2 e2
 rw [t2, o2, co3, List.getElem?_eq_getElem (by omega)] at h2
 have h3 := hx 3 f3 e3
 rw [t3, o3, co3, List.getElem?_eq_getElem (by omega)] at h3
 have h4 := hx 4 f4 e4
 rw [t4, o4, co3, List.getElem?_eq_getElem (by omega)] at h4
 have h5 := hx 5 f5 e5
 rw [t5, o5, co3, List.getElem?_eq_getElem (by omega)] at h5
 have h6 := hx 6 f6 e6
 rw [t6, o6, co9, List.getElem?_eq_getElem (by omega)] at h6
 have h7 := hx 7 f7 e7
 rw [t7, o7, cotPinE, List.getElem?_eq_getElem (by omega)] at h7
 have h8 := hx 8 f8 e8
 rw [t8, o8, cotVal, List.getElem?_eq_getElem (by omega)] at h8
 have h9 := hx 9 f9 e9
 rw [t9, o9, co4, List.getElem?_eq_getElem (by omega)] at h9
 have h10 := hx 10 f10 e10
 rw [t10, o10, cotErrno, List.getElem?_eq_getElem (by omega)] at h10
 have h11 := hx 11 f11 e11
 rw [t11, o11, co2, List.getElem?_eq_getElem (by omega)] at h11
 have h12 := hx 12 f12 e12
 rw [t12, o12, cotWrs, List.getElem?_eq_getElem (by omega)] at h12
 have h13 := hx 13 f13 e13
 rw [t13, o13, cotStrs, List.getElem?_eq_getElem (by omega)] at h13
 obtain ⟨a0, g0, _⟩ := DataW.trod_int un3 h0
 obtain ⟨a1, g1, _⟩ := DataW.trod_int un3 h1
 obtain ⟨a2, g2, _⟩ := DataW.trod_int un3 h2
 obtain ⟨a3, g3, _⟩ := DataW.trod_int un3 h3
 obtain ⟨a4, g4, _⟩ := DataW.trod_int un3 h4
 obtain ⟨a5, g5, _⟩ := DataW.trod_int un3 h5
 obtain ⟨a6, g6, _⟩ := DataW.trod_string un9 h6
 obtain ⟨a7, b7, g7⟩ := open_pin h7
 obtain ⟨a8, b8, g8⟩ := open_val h8
 obtain ⟨a9, g9, _⟩ := DataW.trod_bool un4 h9
 obtain ⟨a10, g10, _⟩ := DataW.trod_int untErrno h10
 obtain ⟨a11, g11, _⟩ := DataW.trod_int un2 h11
 obtain ⟨a12, b12, g12, s12, l12⟩ := open_ws h12
 obtain ⟨a13, b13, g13, s13, l13⟩ := open_ks h13
 obtain ⟨c0, c1, c2, c3, c4, c5, c6, c7, c8, c9, c10, c11, c12, c13, c14, c15, rfl⟩ : ∃ c0 c1 c2 c3 c4 c5 c6 c7 c8 c9 c10 c11 c12 c13 c14 c15, cs = [c0, c1, c2, c3, c4, c5, c6, c7, c8, c9, c10, c11, c12, c13, c14, c15] := by
  match cs, hl with
  | [c0, c1, c2, c3, c4, c5, c6, c7, c8, c9, c10, c11, c12, c13, c14, c15], _ => exact ⟨c0, c1, c2, c3, c4, c5, c6, c7, c8, c9, c10, c11, c12, c13, c14, c15, rfl⟩
 simp at g0 g1 g2 g3 g4 g5 g6 g7 g8 g9 g10 g11 g12 g13
 obtain ⟨wa, wc, hw⟩ := s12.form
 obtain ⟨ka, kc, hk⟩ := s13.form
 refine ⟨⟨a0, a1, a2, a3, a4, a5, a6, a7, b7, a8, b8, a9, a10, a11, wa, b12.length, wc, ka, b13.length, kc⟩, b12, b13, ?_, ⟨?_, ?_, ?_, ?_⟩⟩
 ·rw [g0, g1, g2, g3, g4, g5, g6, g7.1, g7.2, g8.1, g8.2, g9, g10, g11, g12, g13, hw, hk]; rfl
 ·rw [hw] at s12; exact s12
 ·rw [hk] at s13; exact s13
 ·exact l12
 ·exact l13
end
end Go.Proofs.YtgloomahpjpiiaaGreat.Or
