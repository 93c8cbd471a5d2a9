/- slices.Insert of one entry, walked. -/
import Derived.Test.YtldmkhakjnglmaaA2
set_option linter.unusedVariables false
set_option linter.unusedSimpArgs false
set_option maxRecDepth 10000
namespace Go.Proofs.Ytldmkhakjnglmaa
open Go.VW
theorem one_sl {w : World} {vb : Nat} {x : Ent} (hx : Blk w vb 36 (encEnt x)) : SlOf 8 encEnt w (.slice (some ⟨vb, 0, none⟩) 1 1) [x] :=
  ⟨rfl, .inr ⟨vb, 0, 1, (encEnt x).toArray, 36, (0, 0), rfl, hx, rfl⟩⟩
theorem encEnt_one (x : Ent) : (encEnt x).all oneC = true := rfl
theorem cellsE_one (l : Ents) : (cellsOf encEnt l).all oneC = true := cells_oneC (enc := encEnt) (fun _ => rfl) l
set_option maxHeartbeats 16000000 in
theorem ins_spec {w : World} {v : Value} {l : Ents} {i vb : Nat} {x : Ent} {K : Value → World → Prop} (h : Own 8 36 w v l.length (cellsOf encEnt l)) (hi : i ≤ l.length) (hl : l.length ≤ 1000000000000) (hx : Blk w vb 36 (encEnt x)) (hne : v.ownBlock ≠ some vb)
    (hK : ∀ v' w', Own 8 36 w' v' (l.length + 1) (cellsOf encEnt (insL l i x)) → (v'.ownBlock = v.ownBlock ∨ ∃ b, v'.ownBlock = some b ∧ w.heap.size ≤ b) → Fr (blkL v) w w' → K v' w') :
    CallsN Try.prog 32 [v, .int .i64 i, .slice (some ⟨vb, 0, none⟩) 1 1] w K := by
  have cw := cur w
  have hvlt := lt_of_get _ _ hx
  obtain ⟨va, vc, hv⟩ := h.sl.form
  have hcap : ∀ a m c, v = .slice a m c → m ≤ c := by
    intro a m c e
    rcases h.2 with ⟨e', _⟩ | ⟨g, cap, cur', e', _, _, hnc, _⟩
    · rw [e'] at e; cases e; omega
    · rw [e'] at e; cases e; exact hnc
  obtain ⟨v1, hcut, _⟩ := run_cut_low (P := Try.prog) (t := 27) Try.runUnderlying27 Try.sizeOf36 h.sl hcap .i64 i hi
  have hcells : cellsOf encEnt (insL l i x) = (cellsOf encEnt l).take (i * 8) ++ encEnt x ++ cellsOf encEnt (l.drop i) := by
    unfold insL
    rw [cells_take, cellsOf_append]
    simp [cellsOf]
  have z1 : decide ((1 : Int) = 0) = false := rfl
  refine call32 ?_
  by_cases hin : i = l.length
  · subst hin
    have d1 : decide ((l.length : Int) = (l.length : Int)) = true := decide_eq_true rfl
    have hil : insL l l.length x = l ++ [x] := by unfold insL; rw [List.take_length, List.drop_length]
    obtain ⟨v2, w2, hr, hown, hf, hbk⟩ := ap27 (ty := 27) h (one_sl hx) (cellsE_one [x]) (by simp; omega)
    rw [← cellsOf_append, ← hil] at hown
    rw [hv] at hcut hr
    simp (maxSteps := 4000000) (disch := (first | assumption | exact List.not_mem_nil | exact Fr.refl _ _ | ((repeat (first | assumption | apply cur_alloc | apply cur_setB | apply cur_drew | apply cur_drewN)); done) | omega | (simp only [gz, Value.cells, oneC]; first | done | omega) | ((simp only [List.mem_cons, List.not_mem_nil, or_false, gz]); omega) | rfl)) only [↓gsd, gs, ev, Nat.reduceAdd, Nat.reduceEqDiff, oneC, Value.cells, Option.isNone, gt, frT_self, frT_drew, frT_drew0, frT_alloc, ↓hk32, hv, hcut, d1, Int.natCast_one, z1, hr]
    exact hK _ _ (by simpa using hown) hbk hf
  have hil : i < l.length := by omega
  have d1 : decide ((i : Int) = (l.length : Int)) = false := decide_eq_false (by omega)
  obtain ⟨g, cap, hvg⟩ : ∃ g cap, v = .slice (some ⟨g, 0, none⟩) l.length cap := by
    rcases h.2 with ⟨_, h0⟩ | ⟨g, cap, cur', e', _⟩
    · omega
    · exact ⟨g, cap, e'⟩
  subst hvg
  obtain ⟨D, hb, hD, hnc, hcm, hT⟩ := own_blkD h
  have hgl := lt_of_get _ _ hb
  have hvbg : vb ≠ g := fun e => hne (by rw [e]; rfl)
  have hDl : l.length * 8 ≤ D.length := by rw [hD]; exact Nat.mul_le_mul_right 8 hnc
  have hpre : D.take (i * 8) = (cellsOf encEnt l).take (i * 8) := by rw [← hT, List.take_take, Nat.min_eq_left (by omega)]
  have hsuf : (D.drop (i * 8)).take ((l.length - i) * 8) = cellsOf encEnt (l.drop i) := by
    rw [← cellsOf_drop encEnt_len, ← hT, List.drop_take]
    congr 1; omega
  have hsl : (cellsOf encEnt (l.drop i)).length = (l.length - i) * 8 := by rw [cellsOf_length encEnt_len, List.length_drop]
  have wr1 : IntKind.i64.wrap ((l.length : Int) + 1) = (l.length : Int) + 1 := wrap64 (by omega) (by omega)
  have wr2 : IntKind.i64.wrap ((i : Int) + 1) = (i : Int) + 1 := wrap64 (by omega) (by omega)
  have wr3 : IntKind.i64.wrap ((l.length : Int) + 1 - (i : Int)) = ((l.length + 1 - i : Nat) : Int) := by rw [wrap64 (by omega) (by omega)]; omega
  have hcp : ∀ ty (a : Option Addr) (n c : Nat) W, (Builtin.cap_ #[27] ty #[.slice a n c]).run Try.prog W = .ok (.int .i64 c) W := fun ty a n c W => by
    simp [Builtin.cap_, Sem.run_bind, run_underlying uEnts, goInt]
  have en : (l.length : Int) + 1 = ((l.length + 1 : Nat) : Int) := by omega
  have ei : (i : Int) + 1 = ((i + 1 : Nat) : Int) := by omega
  have hmin1 : (l.length - i) * 8 = min (l.length + 1 - i) (l.length + 1 - (i + 1)) * 8 := by congr 1; omega
  have hmin2 : (encEnt x).length = min 1 (l.length + 1 - i) * 8 := by rw [Nat.min_eq_left (by omega)]; rfl
  have hmin3 : (l.length - i) * 8 = min (l.length - i) (l.length + 1 - (i + 1)) * 8 := by congr 1; omega
  have hxl : (encEnt x).length = 8 := rfl
  by_cases hroom : l.length + 1 ≤ cap
  case neg =>
    have d2 : decide ((cap : Int) < (l.length : Int) + 1) = true := decide_eq_true (by omega)
    have c1 := fun W => cut_high0 (P := Try.prog) Try.runUnderlying27 Try.sizeOf36 g l.length cap i (by omega) W
    obtain ⟨G, ROW, w1, hr1, hb1, hR, hnG, hGm, hRt, hf1, hz1⟩ := grow_zeros (P := Try.prog) (t := 27) (tn := 3) (ty := 27) (i0 := Try.t36) (k := 8) (bytes := 80) uEnts (by kernel_rfl) (by kernel_rfl) rfl rfl rfl rfl (by decide) (n := i) (cap := cap) (m := l.length + 1 - i) hb (by omega) (by omega) (by omega) (by omega) (by decide)
    have hin1 : i + (l.length + 1 - i) = l.length + 1 := by omega
    rw [hin1] at hr1 hnG
    have cw1 := cur w1
    have hR8 : (l.length + 1) * 8 ≤ ROW.length := by rw [hR]; exact Nat.mul_le_mul_right 8 hnG
    have gi : ¬ G = i := by omega
    have gi1 : ¬ G = i + 1 := by omega
    have k1 := fun W => cut_low0 (P := Try.prog) Try.runUnderlying27 Try.sizeOf36 w.heap.size (l.length + 1) G i (by omega) hnG W
    have k2 := fun W => cut_low0 (P := Try.prog) Try.runUnderlying27 Try.sizeOf36 w.heap.size (l.length + 1) G (i + 1) (by omega) hnG W
    have k3 := fun W => cut_low0 (P := Try.prog) Try.runUnderlying27 Try.sizeOf36 g l.length cap i (by omega) hnc W
    have ci : ¬ cap = i := by omega
    simp only [if_neg gi, if_neg gi1, if_neg ci] at k1 k2 k3
    rw [← ei] at k2
    have hx1 : Blk w1 vb 36 (encEnt x) := hf1.getN hx
    have hbo1 : Blk w1 g 36 D := hf1.getN hb
    have hr2 := fun ty dc => copy_row (P := Try.prog) (dT := 27) (sT := 27) (ty := ty) Try.runUnderlying27 Try.sizeOf36 (o := i * 8) (dLen := l.length + 1 - i) (dCap := dc) (sLen := 1) (sCap := 1) hb1 hmin2 (fun j v hv => hx1.cell 0 j v (by simpa using hv)) (by omega) (encEnt_one x)
    generalize hR1 : ROW.take (i * 8) ++ encEnt x ++ ROW.drop (i * 8 + (encEnt x).length) = ROW1 at hr2
    have hb2 : Blk (w1.setB w.heap.size (.cells ROW1.toArray 36 (0, 0))) w.heap.size 36 ROW1 := hb1.set ROW1
    have hf2 : Fr [] w (w1.setB w.heap.size (.cells ROW1.toArray 36 (0, 0))) := hf1.setB _ _ (.inr (Nat.le_refl _))
    have hbo2 : Blk (w1.setB w.heap.size (.cells ROW1.toArray 36 (0, 0))) g 36 D := hf2.getN hb
    have hl1 : ROW1.length = ROW.length := by rw [← hR1]; simp only [List.length_append, List.length_take, List.length_drop, hxl]; omega
    simp (maxSteps := 4000000) (disch := (first | assumption | exact List.not_mem_nil | exact Fr.refl _ _ | ((repeat (first | assumption | apply cur_alloc | apply cur_setB | apply cur_drew | apply cur_drewN)); done) | omega | (simp only [gz, Value.cells, oneC]; first | done | omega) | ((simp only [List.mem_cons, List.not_mem_nil, or_false, gz]); omega) | rfl)) only [↓gsd, gs, ev, Nat.reduceAdd, Nat.reduceEqDiff, oneC, Value.cells, Option.isNone, gt, frT_self, frT_drew, frT_drew0, frT_alloc, nx_copy, vR_ok, ↓hk32, hcut, d1, Int.natCast_one, z1, hcp, wr1, wr2, wr3, d2, c1, hr1, k1, hr2]
    generalize hw2 : w1.setB w.heap.size (.cells ROW1.toArray 36 (0, 0)) = w2 at *
    have cw2 := cur w2
    have hr3 := fun ty dc sc => copy_row (P := Try.prog) (w := w2.drew) (dT := 27) (sT := 27) (ty := ty) Try.runUnderlying27 Try.sizeOf36 (o := (i + 1) * 8) (dLen := l.length + 1 - (i + 1)) (dCap := dc) (a := ⟨g, i * 8, none⟩) (sLen := l.length - i) (sCap := sc) (cs := cellsOf encEnt (l.drop i)) hb2 (by rw [hsl]; exact hmin3) (fun j v hv => Blk.cellT (w := w2.drew) hbo2 (i * 8) ((l.length - i) * 8) j v (by rw [hsuf]; exact hv)) (by rw [hsl]; omega) (cellsE_one _)
    have p2 := fun K => takeP_xv (P := Try.prog) (M := none) (w0 := w2.drew) k2 K
    have p3 := fun K => takeP_xv (P := Try.prog) (M := none) (w0 := w2.drew) k3 K
    simp (maxSteps := 4000000) (disch := (first | assumption | exact List.not_mem_nil | exact Fr.refl _ _ | ((repeat (first | assumption | apply cur_alloc | apply cur_setB | apply cur_drew | apply cur_drewN)); done) | omega | (simp only [gz, Value.cells, oneC]; first | done | omega) | ((simp only [List.mem_cons, List.not_mem_nil, or_false, gz]); omega) | rfl)) only [↓gsd, gs, ev, Nat.reduceAdd, Nat.reduceEqDiff, oneC, Value.cells, Option.isNone, gt, frT_self, frT_drew, frT_drew0, frT_alloc, nx_copy, vR_ok, ↓hk32, wr2, p2, p3, hr3]
    refine hK _ _ (own_of_blk (D := _) (Blk.set (w := w2.drew) hb2 _) ?_ hnG hGm ?_) (.inr ⟨_, rfl, Nat.le_refl _⟩) ?_
    · simp only [List.length_append, List.length_take, List.length_drop, hsl, hl1]; omega
    · rw [hcells]
      exact ins_cells2 (R := ROW) hR8 hxl hi (by rw [hRt, hpre]) hsl hR1.symm
    · exact Fr.trans (M' := []) (Fr.refl _ w) ((hf2.drew).setB _ _ (.inr (Nat.le_refl _))) (by simp)
  have d2 : decide ((cap : Int) < (l.length : Int) + 1) = false := decide_eq_false (by omega)
  have c1 := fun W => cut_high0 (P := Try.prog) Try.runUnderlying27 Try.sizeOf36 g l.length cap (l.length + 1) hroom W
  have c2 := fun W => cut_low0 (P := Try.prog) Try.runUnderlying27 Try.sizeOf36 g (l.length + 1) cap (i + 1) (by omega) hroom W
  have c3 := fun W => cut_low0 (P := Try.prog) Try.runUnderlying27 Try.sizeOf36 g (l.length + 1) cap i (by omega) hroom W
  have ci : ¬ cap = i := by omega
  have ci1 : ¬ cap = i + 1 := by omega
  simp only [if_neg ci, if_neg ci1] at c2 c3
  rw [← en] at c1
  rw [← ei] at c2
  have hov := fun o lb cb => nx_xext (P := Try.prog) (ovl_run (o := o) (lb := lb) (cb := cb) hx hb hvbg (by omega))
  have hD8 : (l.length + 1) * 8 ≤ D.length := by rw [hD]; exact Nat.mul_le_mul_right 8 hroom
  have hr1 := fun ty dc sc => copy_row (P := Try.prog) (w := w.drew) (dT := 27) (sT := 27) (ty := ty) Try.runUnderlying27 Try.sizeOf36 (o := (i + 1) * 8) (dLen := l.length + 1 - (i + 1)) (dCap := dc) (a := ⟨g, i * 8, none⟩) (sLen := l.length + 1 - i) (sCap := sc) (cs := cellsOf encEnt (l.drop i)) hb (by rw [hsl]; exact hmin1) (fun j v hv => Blk.cellT (w := w.drew) hb (i * 8) ((l.length - i) * 8) j v (by rw [hsuf]; exact hv)) (by rw [hsl]; omega) (cellsE_one _)
  have p2 := fun K => takeP_xv (P := Try.prog) (M := none) (w0 := w.drew) c2 K
  have p3 := fun K => takeP_xv (P := Try.prog) (M := none) (w0 := w.drew) c3 K
  simp (maxSteps := 4000000) (disch := (first | assumption | exact List.not_mem_nil | exact Fr.refl _ _ | ((repeat (first | assumption | apply cur_alloc | apply cur_setB | apply cur_drew | apply cur_drewN)); done) | omega | (simp only [gz, Value.cells, oneC]; first | done | omega) | ((simp only [List.mem_cons, List.not_mem_nil, or_false, gz]); omega) | rfl)) only [↓gsd, gs, ev, Nat.reduceAdd, Nat.reduceEqDiff, oneC, Value.cells, Option.isNone, gt, frT_self, frT_drew, frT_drew0, frT_alloc, nx_copy, vR_ok, ↓hk32, hcut, d1, Int.natCast_one, z1, hcp, wr1, wr2, wr3, d2, c1, c2, c3, hov, p2, p3, hr1]
  generalize hD1 : D.take ((i + 1) * 8) ++ cellsOf encEnt (l.drop i) ++ D.drop ((i + 1) * 8 + (cellsOf encEnt (l.drop i)).length) = D1
  have hl1 : D1.length = D.length := by rw [← hD1]; simp only [List.length_append, List.length_take, List.length_drop, hsl]; omega
  have hb1 : Blk (w.drew.setB g (.cells D1.toArray 36 (0, 0))) g 36 D1 := Blk.set (w := w.drew) hb D1
  have hx1 : Blk (w.drew.setB g (.cells D1.toArray 36 (0, 0))) vb 36 (encEnt x) := Blk.ne (w := w.drew) hx _ (fun e => hvbg e.symm)
  have hr2 := fun ty dc => copy_row (P := Try.prog) (dT := 27) (sT := 27) (ty := ty) Try.runUnderlying27 Try.sizeOf36 (o := i * 8) (dLen := l.length + 1 - i) (dCap := dc) (sLen := 1) (sCap := 1) hb1 hmin2 (fun j v hv => hx1.cell 0 j v (by simpa using hv)) (by omega) (encEnt_one x)
  simp (maxSteps := 4000000) (disch := (first | assumption | exact List.not_mem_nil | exact Fr.refl _ _ | ((repeat (first | assumption | apply cur_alloc | apply cur_setB | apply cur_drew | apply cur_drewN)); done) | omega | (simp only [gz, Value.cells, oneC]; first | done | omega) | ((simp only [List.mem_cons, List.not_mem_nil, or_false, gz]); omega) | rfl)) only [↓gsd, gs, ev, Nat.reduceAdd, Nat.reduceEqDiff, oneC, Value.cells, Option.isNone, gt, frT_self, frT_drew, frT_drew0, frT_alloc, nx_copy, vR_ok, ↓hk32, hr2]
  have hfg : Fr [g] w (w.drew.setB g (.cells D1.toArray 36 (0, 0))) := (Fr.refl [g] w).drew.setB _ _ (.inl (by simp))
  have hD1' : D1 = D.take ((i + 1) * 8) ++ (D.drop (i * 8)).take ((l.length - i) * 8) ++ D.drop ((i + 1) * 8 + (l.length - i) * 8) := by rw [← hD1, hsuf, hsl]
  try simp only [setB_setB]
  refine hK _ _ (own_of_blk (D := D1.take (i * 8) ++ encEnt x ++ D1.drop (i * 8 + (encEnt x).length)) (Blk.set (w := w.drew) hb _) ?_ hroom hcm ?_) (.inl rfl) ?_
  · simp only [List.length_append, List.length_take, List.length_drop, hl1, hxl]; omega
  · rw [hcells, ← hpre, ← hsuf]
    exact ins_cells hD8 hxl hi hD1'
  · simpa [blkL, Value.ownBlock] using (Fr.refl [g] w).drew.setB g _ (.inl (by simp))
end Go.Proofs.Ytldmkhakjnglmaa
