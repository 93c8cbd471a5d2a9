/- The config and lists of messages among the arguments, opened. -/
import Derived.Test.YtgloomahpjpiiaaGreatXJ
import Derived.Test.YtgloomahpjpiiaaGreatOP
set_option linter.unusedVariables false
set_option linter.unusedSimpArgs false
set_option maxRecDepth 10000
namespace Go.Proofs.YtgloomahpjpiiaaGreat.Or
open Go.VW
theorem coCfg : Tryz.prog.cellsOf 23 = 8 := by kernel_rfl
theorem u_cfg : ∃ fs, Tryz.prog.underlying 23 = some (.struct fs) ∧ ∃ f0 f1 f2 f3 f4 f5 f6 f7, fs[0]? = some f0 ∧ fs[1]? = some f1 ∧ fs[2]? = some f2 ∧ fs[3]? = some f3 ∧ fs[4]? = some f4 ∧ fs[5]? = some f5 ∧ fs[6]? = some f6 ∧ fs[7]? = some f7 ∧ (f0.type = 3 ∧ f0.offset = 0) ∧ (f1.type = 3 ∧ f1.offset = 1) ∧ (f2.type = 3 ∧ f2.offset = 2) ∧ (f3.type = 3 ∧ f3.offset = 3) ∧ (f4.type = 3 ∧ f4.offset = 4) ∧ (f5.type = 3 ∧ f5.offset = 5) ∧ (f6.type = 3 ∧ f6.offset = 6) ∧ (f7.type = 3 ∧ f7.offset = 7) ∧ fs.size = 8 :=
 ⟨_, und_of (Tryz.runUnderlying23 default), _, _, _, _, _, _, _, _, rfl, rfl, rfl, rfl, rfl, rfl, rfl, rfl, ⟨rfl, rfl⟩, ⟨rfl, rfl⟩, ⟨rfl, rfl⟩, ⟨rfl, rfl⟩, ⟨rfl, rfl⟩, ⟨rfl, rfl⟩, ⟨rfl, rfl⟩, ⟨rfl, rfl⟩, rfl⟩
section
variable {H : Type} {ec : TypeId × Value → H} {w : World} {base : Nat} {spare : Nat → Bool} {held : Bool}
theorem open_cfg {n : Nat} {cs : List Value} {x : DataW H × List MemPlace} (h : DataW.trod ec Tryz.prog w base spare held n 23 cs = some x) : ∃ c : Cfg, cs = encCfg c ∧ True := by
 obtain ⟨fs, hu, f0, f1, f2, f3, f4, f5, f6, f7, e0, e1, e2, e3, e4, e5, e6, e7, ⟨t0, o0⟩, ⟨t1, o1⟩, ⟨t2, o2⟩, ⟨t3, o3⟩, ⟨t4, o4⟩, ⟨t5, o5⟩, ⟨t6, o6⟩, ⟨t7, o7⟩, hs⟩ := u_cfg
 obtain ⟨xs, m, rfl, rfl, hl, hxl, hx⟩ := DataW.trod_struct hu h
 rw [coCfg] at hl
 have h0 := hx 0 f0 e0
 rw [t0, o0, co3, List.getElem?_eq_getElem (by omega)] at h0
 have h1 := hx 1 f1 e1
 rw [t1, o1, co3, List.getElem?_eq_getElem (by omega)] at h1
 have h2 := hx 2 f2 e2
 rw [t2, o2, co3, List.getElem?_eq_getElem (by omega)] at h2
 have h3 := hx 3 f3 e3
 rw [t3, o3, co3, List.getElem?_eq_getElem (by omega)] at h3
 have h4 := hx 4 f4 e4
 rw [t4, o4, co3, List.getElem?_eq_getElem (by omega)] at h4
 have h5 := hx 5 f5 e5
 rw [t5, o5, co3, List.getElem?_eq_getElem (by omega)] at h5
 have h6 := hx 6 f6 e6
 rw [t6, o6, co3, List.getElem?_eq_getElem (by omega)] at h6
 have h7 := hx 7 f7 e7
 rw [t7, o7, co3, List.getElem?_eq_getElem (by omega)] at h7
 obtain ⟨a0, g0, _⟩ := DataW.trod_int un3 h0
 obtain ⟨a1, g1, _⟩ := DataW.trod_int un3 h1
 obtain ⟨a2, g2, _⟩ := DataW.trod_int un3 h2
 obtain ⟨a3, g3, _⟩ := DataW.trod_int un3 h3
 obtain ⟨a4, g4, _⟩ := DataW.trod_int un3 h4
 obtain ⟨a5, g5, _⟩ := DataW.trod_int un3 h5
 obtain ⟨a6, g6, _⟩ := DataW.trod_int un3 h6
 obtain ⟨a7, g7, _⟩ := DataW.trod_int un3 h7
 obtain ⟨c0, c1, c2, c3, c4, c5, c6, c7, rfl⟩ : ∃ c0 c1 c2 c3 c4 c5 c6 c7, cs = [c0, c1, c2, c3, c4, c5, c6, c7] := by
  match cs, hl with
  | [c0, c1, c2, c3, c4, c5, c6, c7], _ => exact ⟨c0, c1, c2, c3, c4, c5, c6, c7, rfl⟩
 simp at g0 g1 g2 g3 g4 g5 g6 g7
 exact ⟨⟨a0, a1, a2, a3, a4, a5, a6, a7⟩, by rw [g0, g1, g2, g3, g4, g5, g6, g7]; rfl, trivial⟩
theorem open_msgs {n : Nat} {cs : List Value} {x : DataW H × List MemPlace} (h : DataW.trod ec Tryz.prog w base spare held n 24 cs = some x) :
  ∃ v ms, cs = [v] ∧ SlOf 16 encMsg w v ms ∧ ms.length ≤ maxLen ∧ ∀ (i : Nat) m, ms[i]? = some m → ∃ ws ks, MsgAt w m ws ks :=
 open_slOf (enc := encMsg) (fun _ m => ∃ ws ks, MsgAt w m ws ks) unMs cotMsg (by decide) encMsg_len (fun n cs y hy => by
  obtain ⟨m, ws, ks, e, hm⟩ := open_msg hy
  exact ⟨m, e, fun _ => ⟨ws, ks, hm⟩⟩) h
end
end Go.Proofs.YtgloomahpjpiiaaGreat.Or
