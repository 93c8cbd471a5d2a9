/- The law ScriptTexts walked. -/
import Derived.Test.YtbbjnplellanaaaDoorQE
set_option linter.unusedVariables false
set_option linter.unusedSimpArgs false
set_option maxRecDepth 100000
namespace Go.Proofs.YtbbjnplellanaaaDoor
open Go.VW
theorem cutH (g n c h : Nat) (hh : h ≤ c) (w : World) : (Instr.sliceAt 23 (.slice (some ⟨g, 0, none⟩) n c) none (some (.int .i64 (h : Int))) none).run Tryd.prog w = .ok (.slice (some ⟨g, 0, none⟩) h c) w := by
 by_cases h0 : c = 0
 ·subst h0
  simp [Instr.sliceAt, Sem.run_bind, Tryd.runUnderlying23, Instr.slice, Instr.sliceBounds, Instr.sliceBound, asIntOf, hh, Tryd.sizeOf33]
 ·simp [Instr.sliceAt, Sem.run_bind, Tryd.runUnderlying23, Instr.slice, Instr.sliceBounds, Instr.sliceBound, asIntOf, hh, Tryd.sizeOf33, h0, add_at]
def st99 : Stp × SlV := (⟨99, 0, 0, 0, 0, [], [], []⟩, (none, 0, 0))
theorem own_cut {w : World} {v : Value} {n : Nat} {cs ds : List Value} (h : Own 8 33 w v (n + 1) (cs ++ ds)) (hc : cs.length = n * 8) :
  ∃ g cap, v = .slice (some ⟨g, 0, none⟩) (n + 1) cap ∧ n ≤ cap ∧ Sl 8 w (.slice (some ⟨g, 0, none⟩) n cap) n cs := by
 rcases h.2 with ⟨_, h0⟩ | ⟨g, cap, cur, hv, _, hg, hn, _, _, ht⟩
 ·omega
 ·refine ⟨g, cap, hv, by omega, hc, .inr ⟨g, 0, cap, cur, _, _, rfl, hg, ?_⟩⟩
  have h1 := congrArg (List.take (n * 8)) ht
  rw [List.take_take, Nat.min_eq_left (by omega), List.take_append_of_le_length (by omega), List.take_of_length_le (l := cs) (by omega)] at h1
  rw [List.drop_zero]; exact h1
set_option maxHeartbeats 16000000 in
theorem texts_spec {w : World} {v : Value} {rows : List (Stp × SlV)} {K : Value → World → Prop} (hv : RowsAt w v rows) (hft : ∀ x ∈ rows, Fits x.1) (hn : rows.length ≤ 4000000) (hm : MaxL w) (ht : TabP w) (hK : ∀ w', Fr [] w w' → K (.bool true) w') : CallsN Tryd.prog 4 [v] w K := by
 have cw := cur w
 obtain ⟨va, vc, rfl⟩ := hv.1.form
 refine call4 ?_
 simp (maxSteps:=4000000)(disch:=first|assumption|(simp only[dz];first|done|assumption|omega)|omega|apply_rules[Fr.refl,Fr.alloc,Fr.drew]|rfl) only [↓gd,gp,Nat.reduceAdd,Nat.reduceEqDiff, ↓hk4]
 refine fixed_spec hm ht fun w1 hf1 => ?_
 have cw1 := cur w1
 have hf6 : Fr [] w1 (w1.alloc (.cells #[] 33)) := (Fr.refl _ _).alloc _
 have hv1 := hv.fr hf1
 obtain ⟨v2, w2, hr2, hown2, hf2, hbk2⟩ := ap23 (ty := 23) (Own.new0 w1) (hv1.1.frN hf6) (cells_oneC (enc := encStp) (fun _ => rfl) rows) (by omega)
 have hg6 : ∀ x, (Value.slice (some ⟨w1.heap.size, 0, none⟩) 0 0).ownBlock = some x → w1.heap.size ≤ x := fun x hx => by simp [Value.ownBlock] at hx; omega
 have hf12 : Fr [] w1 w2 := hf6.trans hf2 fun x hx => .inr (hg6 x (mem_blkL hx))
 have hg2 : ∀ x, v2.ownBlock = some x → w1.heap.size ≤ x := own_fresh hbk2 hg6 (by simp only [size_alloc]; omega)
 have cw2 := cur w2
 have hfx : Fr [] w2 (w2.alloc (.cells (encStp st99).toArray 33 (0, 0))) := (Fr.refl _ _).alloc _
 obtain ⟨v3, w3, hr3, hown3, hf3, hbk3⟩ := ap23 (ty := 23) (Own.frN hown2 hfx) (sl_new (e := 33) (w := w2) (encStp_len st99)) (by rfl) (by omega)
 have hf13 : Fr [] w1 w3 := (hf12.trans' hfx).trans hf3 fun x hx => .inr (hg2 x (mem_blkL hx))
 have cw3 := cur w3
 rw [Nat.zero_add, List.nil_append] at hown3
 obtain ⟨g, cap, rfl, hcap, hcut⟩ := own_cut hown3 (cellsOf_length encStp_len rows)
 obtain ⟨v21, v22, hv2⟩ := hown2.sl.form
 have hst : (encStp st99).toArray = ([.int .i64 99, .int .i64 0, .int .i64 0, .int .i64 0, .int .i64 0, .string ⟨#[]⟩, .slice none 0 0, .string ⟨#[]⟩] : List Value).toArray := rfl
 rw [hst] at hr3
 have hct := fun w => cutH g (rows.length + 1) cap rows.length hcap w
 simp (maxSteps:=4000000)(disch:=first|assumption|(simp only[dz];first|done|assumption|omega)|omega|apply_rules[Fr.refl,Fr.alloc,Fr.drew]|rfl) only [↓gd,gp,Nat.reduceAdd,Nat.reduceEqDiff, ↓hk4, hr2, hr3, hct]
 have hf03 := hf1.trans' hf13
 have hrc : RowsAt w3 (.slice (some ⟨g, 0, none⟩) rows.length cap) rows := ⟨hcut, (hv.fr hf03).2⟩
 refine text_spec hrc hft (by omega) (ht.fr hf03) fun w4 hf4 => ?_
 have cw4 := cur w4
 simp (maxSteps:=4000000)(disch:=first|assumption|(simp only[dz];first|done|assumption|omega)|omega|apply_rules[Fr.refl,Fr.alloc,Fr.drew]|rfl) only [↓gd,gp,Nat.reduceAdd,Nat.reduceEqDiff, ↓hk4]
 have hf04 := hf03.trans' hf4
 refine rtext_spec (hv.fr hf04) hft (by omega) fun w5 hf5 => ?_
 have cw5 := cur w5
 have hf05 := hf04.trans' hf5
 have dd : ∀ n : Int, decide (n = n) = true := fun n => decide_eq_true rfl
 have ds : ∀ b : ByteArray, decide (b = b) = true := fun n => decide_eq_true rfl
 simp (maxSteps:=4000000)(disch:=first|assumption|(simp only[dz];first|done|assumption|omega)|omega|apply_rules[Fr.refl,Fr.alloc,Fr.drew]|rfl) only [↓gd,gp,Nat.reduceAdd,Nat.reduceEqDiff, ↓hk4, dd, ds, hct]
 refine rsame_spec ((hrc.fr hf4).fr hf5) (hv.fr hf05) (by omega) (fun x hx => by have := (hft x hx).ws; omega) fun w6 hf6 => ?_
 have cw6 := cur w6
 have hd : decide (rows.map Prod.fst = rows.map Prod.fst) = true := decide_eq_true rfl
 have hs3 : SlOf 8 encStp w3 (.slice (some ⟨g, 0, none⟩) (rows.length + 1) cap) (rows ++ [st99]) := by
  have := hown3.sl
  unfold SlOf
  rw [cellsOf_append, cellsOf_one, List.length_append]
  exact this
 have hs6 := ((hs3.frN hf4).frN hf5).frN hf6
 obtain ⟨b1, off1, cap1, ob1, hv1, hob1, _, _, hc1⟩ := hs6.read encStp_len rows.length st99 (by simp)
 simp only [Value.slice.injEq, Option.some.injEq, Addr.mk.injEq, and_true] at hv1
 obtain ⟨⟨rfl, rfl⟩, _, rfl⟩ := hv1
 have k1 : ∀ orig K, ldV orig (some ob1) (rows.length * 8) K = K (.int .i64 99) := fun orig K => by
  have := hc1 0 (.int .i64 99) orig K rfl
  rw [Nat.zero_add, Nat.add_zero] at this; exact this
 have i0 : (0 : Int) ≤ (rows.length : Int) := by omega
 have i1 : (rows.length : Int) < ((rows.length + 1 : Nat) : Int) := by omega
 simp (maxSteps:=4000000)(disch:=first|assumption|(simp only[dz];first|done|assumption|omega)|omega|apply_rules[Fr.refl,Fr.alloc,Fr.drew]|rfl) only [↓gd,gp,Nat.reduceAdd,Nat.reduceEqDiff, ↓hk4, hd, i0, i1, Int.toNat_natCast, hob1, k1, dd]
 exact hK _ (hf05.trans' hf6)
end Go.Proofs.YtbbjnplellanaaaDoor
