/- slices.Delete of one entry, walked. -/
import Derived.Test.YtldmkhakjnglmaaA3
set_option linter.unusedVariables false
set_option linter.unusedSimpArgs false
set_option maxRecDepth 10000
namespace Go.Proofs.Ytldmkhakjnglmaa
open Go.VW
theorem zeroEnt (w : World) : (zeroValue 36).run Try.prog w = .ok (.agg (encEnt ⟨⟨#[]⟩, false, ⟨#[]⟩, 0, 0, false, 0, 0⟩).toArray) w := by
  have hi : Try.prog.info? 36 = some Try.t36 := by kernel_rfl
  simp only [zeroValue, typeInfo, Sem.run_bind, hi]
  rfl
set_option maxHeartbeats 16000000 in
theorem del_spec {w : World} {v : Value} {l : Ents} {i : Nat} {K : Value → World → Prop} (h : Own 8 36 w v l.length (cellsOf encEnt l)) (hi : i < l.length) (hl : l.length ≤ 1000000000000)
    (hK : ∀ v' w', Own 8 36 w' v' (l.length - 1) (cellsOf encEnt (delL l i)) → v'.ownBlock = v.ownBlock → Fr (blkL v) w w' → K v' w') :
    CallsN Try.prog 37 [v, .int .i64 i, .int .i64 ((i : Int) + 1)] w K := by
  have cw := cur w
  obtain ⟨g, cap, hvg⟩ : ∃ g cap, v = .slice (some ⟨g, 0, none⟩) l.length cap := by
    rcases h.2 with ⟨_, h0⟩ | ⟨g, cap, cur', e', _⟩
    · omega
    · exact ⟨g, cap, e'⟩
  subst hvg
  obtain ⟨D, hb, hD, hnc, hcm, hT⟩ := own_blkD h
  have hgl := lt_of_get _ _ hb
  have hDl : l.length * 8 ≤ D.length := by rw [hD]; exact Nat.mul_le_mul_right 8 hnc
  have ei : (i : Int) + 1 = ((i + 1 : Nat) : Int) := by omega
  obtain ⟨v1, c0⟩ := cut_three0 (P := Try.prog) Try.runUnderlying27 Try.sizeOf36 g l.length cap i (i + 1) l.length (by omega) (by omega) hnc w
  have c1 := fun W => cut_high0 (P := Try.prog) Try.runUnderlying27 Try.sizeOf36 g l.length cap i (by omega) W
  have c2 := fun W => cut_low0 (P := Try.prog) Try.runUnderlying27 Try.sizeOf36 g l.length cap (i + 1) (by omega) hnc W
  rw [← ei] at c0 c2
  have p1 := fun K => takeP_xv (P := Try.prog) (M := none) (w0 := w.drew) c1 K
  have p2 := fun K => takeP_xv (P := Try.prog) (M := none) (w0 := w.drew) c2 K
  have d1 : decide ((i : Int) = (i : Int) + 1) = false := decide_eq_false (by omega)
  have hsuf : (D.drop ((i + 1) * 8)).take ((l.length - (i + 1)) * 8) = cellsOf encEnt (l.drop (i + 1)) := by
    rw [← cellsOf_drop encEnt_len, ← hT, List.drop_take]
    congr 1; omega
  have hsl : (cellsOf encEnt (l.drop (i + 1))).length = (l.length - (i + 1)) * 8 := by rw [cellsOf_length encEnt_len, List.length_drop]
  have hr := fun ty c => append_row (P := Try.prog) (w := w.drew) (t := 27) (ty := ty) (i0 := Try.t36) (k := 8) uEnts (by kernel_rfl) rfl (n := i) (cap := cap) (a := ⟨g, if cap = i + 1 then 0 else (i + 1) * 8, none⟩) (m := l.length - (i + 1)) (c := c) (cs := cellsOf encEnt (l.drop (i + 1))) hb hsl (fun j v hv => by
    split
    · rw [List.drop_of_length_le (by omega)] at hv
      simp [cellsOf] at hv
    · exact Blk.cellT (w := w.drew) hb ((i + 1) * 8) ((l.length - (i + 1)) * 8) j v (by rw [hsuf]; exact hv)) (by omega) (by rw [hsl]; omega) (cellsE_one _)
  refine call37 ?_
  simp (maxSteps := 4000000) (disch := (first | assumption | exact List.not_mem_nil | exact Fr.refl _ _ | ((repeat (first | assumption | apply cur_alloc | apply cur_setB | apply cur_drew | apply cur_drewN)); done) | omega | (simp only [gz, Value.cells, oneC]; first | done | omega) | ((simp only [List.mem_cons, List.not_mem_nil, or_false, gz]); omega) | rfl)) only [↓gsd, gs, ev, Nat.reduceAdd, Nat.reduceEqDiff, oneC, Value.cells, Option.isNone, gt, frT_self, frT_drew, frT_drew0, frT_alloc, ↓hk37, c0, d1, p1, p2, hr]
  have hnl : i + (l.length - (i + 1)) = l.length - 1 := by omega
  generalize hD1 : D.take (i * 8) ++ cellsOf encEnt (l.drop (i + 1)) ++ D.drop (i * 8 + (cellsOf encEnt (l.drop (i + 1))).length) = D1
  have hl1 : D1.length = D.length := by rw [← hD1]; simp only [List.length_append, List.length_take, List.length_drop, hsl]; omega
  have hb1 : Blk (w.drew.setB g (.cells D1.toArray 36 (0, 0))) g 36 D1 := Blk.set (w := w.drew) hb D1
  have ht1 : D1.take ((l.length - 1) * 8) = cellsOf encEnt (delL l i) := by
    unfold delL
    rw [cellsOf_append, ← cells_take, ← hT, List.take_take, Nat.min_eq_left (by omega), ← hD1]
    have q1 : (D.take (i * 8)).length = i * 8 := by rw [List.length_take]; omega
    rw [List.take_append_of_le_length (by simp only [List.length_append, q1, hsl]; omega), List.take_of_length_le (by simp only [List.length_append, q1, hsl]; omega)]
  rw [hnl]
  have c3 := fun W => cut_both0 (P := Try.prog) Try.runUnderlying27 Try.sizeOf36 g (l.length - 1) cap (l.length - 1) l.length (by omega) hnc W
  have hcn : ¬ cap = l.length - 1 := by omega
  simp only [if_neg hcn] at c3
  obtain ⟨D2, hcl, hl2, ht2⟩ := clear_row (P := Try.prog) (t := 27) (ty := 0) (n := l.length - (l.length - 1)) (c := cap - (l.length - 1)) (o := (l.length - 1) * 8) Try.runUnderlying27 zeroEnt hb1 (by simp only [hl1]; show _ + _ * 8 ≤ _; omega) (by rfl)
  simp (maxSteps := 4000000) (disch := (first | assumption | exact List.not_mem_nil | exact Fr.refl _ _ | ((repeat (first | assumption | apply cur_alloc | apply cur_setB | apply cur_drew | apply cur_drewN)); done) | omega | (simp only [gz, Value.cells, oneC]; first | done | omega) | ((simp only [List.mem_cons, List.not_mem_nil, or_false, gz]); omega) | rfl)) only [↓gsd, gs, ev, Nat.reduceAdd, Nat.reduceEqDiff, oneC, Value.cells, Option.isNone, gt, frT_self, frT_drew, frT_drew0, frT_alloc, ↓hk37, c3, nx_clear, vR_ok, hcl]
  try simp only [setB_setB]
  refine hK _ _ (own_of_blk (D := D2) (Blk.set (w := w.drew) hb D2) (by rw [hl2, hl1, hD]) (by omega) hcm (by rw [ht2 _ (Nat.le_refl _), ht1])) rfl ?_
  simpa [blkL, Value.ownBlock] using (Fr.refl [g] w).drew.setB g _ (.inl (by simp))
end Go.Proofs.Ytldmkhakjnglmaa
