/- at: what a key was behind the first c commits. -/
import Derived.Test.YtenokheiindfkaaS9
set_option linter.unusedVariables false
set_option linter.unusedSimpArgs false
set_option maxRecDepth 10000
namespace Go.Proofs.Ytenokheiindfkaa
open Go.VW
def atW (key : ByteArray) (v : Bool × ByteArray) (x : Wr) : Bool × ByteArray := if x.key = key then (x.has, x.data) else v
def atL (key : ByteArray) (v : Bool × ByteArray) (ws : List Wr) : Bool × ByteArray := ws.foldl (atW key) v
def atP (ls : List (List Wr)) (key : ByteArray) (c : Nat) : Bool × ByteArray := (ls.take c).foldl (atL key) (false, ⟨#[]⟩)
def encVal (v : Bool × ByteArray) : List Value := [.bool v.1, .string v.2]
theorem hpairW {w : World} {v : Value} {xs : List Wr} {i : Nat} {x : Wr} (h : SlOf 3 encWr w v xs) (hx : xs[i]? = some x) {b off cap : Nat} {o : Obj} (hv : v = .slice (some ⟨b, off, none⟩) xs.length cap) (ho : w.heap[b]? = some o) (orig : Prop) (K : Value → Prop) :
    ldnV orig 2 (some o) (off + i * 3 + 1) K = K (.agg ([.bool x.has, .string x.data] : List Value).toArray) := by
  obtain ⟨b', off', cap', c, et, fr, rfl, hb, hg, hd⟩ := h.elem encWr_len i x hx
  simp only [Value.slice.injEq, Option.some.injEq, Addr.mk.injEq] at hv
  obtain ⟨⟨rfl, rfl, _⟩, _, _⟩ := hv
  rw [hb] at ho
  cases ho
  have e : (c.toList.drop (off' + i * 3 + 1)).take 2 = [.bool x.has, .string x.data] := by
    have : (c.toList.drop (off' + i * 3 + 1)).take 2 = ((c.toList.drop (off' + i * 3)).take 3).drop 1 := by
      rw [List.drop_take, List.drop_drop]
    rw [this, hd]; rfl
  rw [ldnV_cells _ _ _ _ _ _ _ (by rw [e]; rfl), e]
set_option maxHeartbeats 4000000 in
theorem at_spec {w : World} {lv : Value} {vs : List Value} {ls : List (List Wr)} {key : ByteArray} {c : Nat} {K : Value → World → Prop} (h : ListAt w lv vs ls) (hc : c ≤ ls.length) (hmx : ls.length ≤ 9223372036854775806) (hm8 : ∀ ws ∈ ls, ws.length ≤ 8)
    (hK : ∀ w', Fr [] w w' → K (.agg (encVal (atP ls key c)).toArray) w') : CallsN Try.prog 20 [lv, .string key, .int .i64 c] w K := by
  have cw := cur w
  refine call20 ?_
  simp (maxSteps := 4000000) (disch := (first | assumption | exact List.not_mem_nil | exact Fr.refl _ _ | ((repeat (first | assumption | apply cur_alloc | apply cur_setB | apply cur_drew | apply cur_drewN)); done) | omega | (simp only [gz, Value.cells, oneC]; first | done | omega) | ((simp only [List.mem_cons, List.not_mem_nil, or_false, gz]); omega) | rfl)) only [↓gsd, gs, ev, Nat.reduceAdd, Nat.reduceEqDiff, oneC, Value.cells, Option.isNone, gt, ↓hk20]
  obtain ⟨vi, hvi⟩ : ∃ v, v = (false, (⟨#[]⟩ : ByteArray)) := ⟨_, rfl⟩
  refine loop_intro (fun e w' => ∃ i : Nat, i ≤ c ∧ e 0 = lv ∧ e 1 = .string key ∧ e 2 = .int .i64 c ∧ e 6 = .pointer (some ⟨w.heap.size, 0, none⟩) ∧ e 7 = .pointer (some ⟨w.heap.size + 1, 0, none⟩) ∧ e 8 = .int .i64 i ∧
      w'.heap[w.heap.size]? = some (.cells ([.bool false, .string ⟨#[]⟩] : List Value).toArray 29 (0, 0)) ∧ w'.heap[w.heap.size + 1]? = some (.cells (encVal (atP ls key i)).toArray 29 (0, 0)) ∧ Fr [] w w')
    (fun e _ => c - (numOf (e 8)).toNat) ?_ ?_
  · refine ⟨0, Nat.zero_le _, ?_⟩
    simp (maxSteps := 4000000) (disch := (first | assumption | exact List.not_mem_nil | exact Fr.refl _ _ | ((repeat (first | assumption | apply cur_alloc | apply cur_setB | apply cur_drew | apply cur_drewN)); done) | omega | (simp only [gz, Value.cells, oneC]; first | done | omega) | ((simp only [List.mem_cons, List.not_mem_nil, or_false, gz]); omega) | rfl)) only [↓gsd, gs, ev, Nat.reduceAdd, Nat.reduceEqDiff, oneC, Value.cells, Option.isNone, Int.natCast_zero, atP, encVal, List.foldl_nil]
    (repeat (first | exact Fr.refl _ _ | assumption | with_reducible apply Fr.alloc | with_reducible apply Fr.drew | with_reducible refine Fr.setB ?_ _ _ (.inr (by first | omega | (simp only [gz]; omega))) | with_reducible refine Fr.setB ?_ _ _ (.inl (by first | assumption | simp)) | with_reducible refine Fr.trans' ?_ (by assumption)))
  · rintro e w1 k ⟨i, hi, e0, e1, e2, e6, e7, e8, h6, h7, hf⟩ hk
    have cw1 := cur w1
    have hz1 := hf.size
    have hlt6 := lt_of_get _ _ h6
    have hlt7 := lt_of_get _ _ h7
    by_cases hlt : i < c
    · have el : decide ((i : Int) < (c : Int)) = true := decide_eq_true (by omega)
      simp (maxSteps := 4000000) (disch := (first | assumption | exact List.not_mem_nil | exact Fr.refl _ _ | ((repeat (first | assumption | apply cur_alloc | apply cur_setB | apply cur_drew | apply cur_drewN)); done) | omega | (simp only [gz, Value.cells, oneC]; first | done | omega) | ((simp only [List.mem_cons, List.not_mem_nil, or_false, gz]); omega) | rfl)) only [↓gsd, gs, ev, Nat.reduceAdd, Nat.reduceEqDiff, oneC, Value.cells, Option.isNone, gt, ↓hk20, e0, e1, e2, e6, e7, e8, el]
      have hvlen := h.len
      have E8 := e8
      obtain ⟨v, hv⟩ : ∃ v, vs[i]? = some v := ⟨vs[i], List.getElem?_eq_getElem (by omega)⟩
      obtain ⟨ws, hws⟩ : ∃ ws, ls[i]? = some ws := ⟨ls[i], List.getElem?_eq_getElem (by omega)⟩
      have hw8 := hm8 ws (List.mem_of_getElem? hws)
      have i0 : (0 : Int) ≤ (i : Int) := by omega
      have i1 : (i : Int) < (vs.length : Int) := by omega
      have hat : atP ls key (i + 1) = ws.foldl (atW key) (atP ls key i) := by
        unfold atP
        rw [List.take_add_one, hws, List.foldl_append]; rfl
      refine loop_intro (fun e w' => ∃ t : Nat, t ≤ ws.length ∧ e 0 = lv ∧ e 1 = .string key ∧ e 2 = .int .i64 c ∧ e 6 = .pointer (some ⟨w.heap.size, 0, none⟩) ∧ e 7 = .pointer (some ⟨w.heap.size + 1, 0, none⟩) ∧ e 8 = .int .i64 i ∧ e 9 = .int .i64 t ∧
          w'.heap[w.heap.size]? = some (.cells ([.bool false, .string ⟨#[]⟩] : List Value).toArray 29 (0, 0)) ∧ w'.heap[w.heap.size + 1]? = some (.cells (encVal ((ws.take t).foldl (atW key) (atP ls key i))).toArray 29 (0, 0)) ∧ Fr [] w w')
        (fun e _ => ws.length - (numOf (e 9)).toNat) ?_ ?_
      · refine ⟨0, Nat.zero_le _, ?_⟩
        simp (maxSteps := 4000000) (disch := (first | assumption | exact List.not_mem_nil | exact Fr.refl _ _ | ((repeat (first | assumption | apply cur_alloc | apply cur_setB | apply cur_drew | apply cur_drewN)); done) | omega | (simp only [gz, Value.cells, oneC]; first | done | omega) | ((simp only [List.mem_cons, List.not_mem_nil, or_false, gz]); omega) | rfl)) only [↓gsd, gs, ev, Nat.reduceAdd, Nat.reduceEqDiff, oneC, Value.cells, Option.isNone, e0, e1, e2, e6, e7, e8, Int.natCast_zero, List.foldl_nil]
        exact ⟨h6, h7, hf⟩
      · rintro e' w2 k' ⟨t, ht, e0, e1, e2, e6, e7, e8, e9, h6, h7, hf2⟩ hk'
        have cw2 := cur w2
        have hz2 := hf2.size
        have hlt6 := lt_of_get _ _ h6
        have hlt7 := lt_of_get _ _ h7
        have hl2 := h.frN hf2
        obtain ⟨bb, off, cap, ob, hlv1, hob, hbl, hrw, hcell⟩ := hl2.sl.read one1_len i v hv
        have hc0 := fun orig K => hcell 0 v orig K rfl
        simp only [Nat.add_zero, Nat.mul_one] at hc0
        have hvs := hl2.at_ i v ws hv hws
        obtain ⟨va, vc, hvf⟩ := hvs.form
        rw [hvf] at hc0
        by_cases htl : t < ws.length
        · have et : decide ((t : Int) < (ws.length : Int)) = true := decide_eq_true (by omega)
          obtain ⟨x, hx⟩ : ∃ x, ws[t]? = some x := ⟨ws[t], List.getElem?_eq_getElem htl⟩
          obtain ⟨b3, off3, cap3, o3, hv3, ho3, hbl3, hrw3, hcell3⟩ := hvs.read encWr_len t x hx
          have hq := hpairW hvs hx hv3 ho3
          have hd0 := fun orig K => hcell3 0 _ orig K rfl
          simp only [Nat.add_zero] at hd0
          have t0 : (0 : Int) ≤ (t : Int) := by omega
          have t1 : (t : Int) < (ws.length : Int) := by omega
          rw [← hvf, hv3] at hc0
          have hfold : (ws.take (t + 1)).foldl (atW key) (atP ls key i) = atW key ((ws.take t).foldl (atW key) (atP ls key i)) x := by
            rw [List.take_add_one, hx, List.foldl_append]; rfl
          unfold encVal at h7
          by_cases hk1 : x.key = key
          · have ek : decide (x.key = key) = true := decide_eq_true hk1
            simp (maxSteps := 4000000) (disch := (first | assumption | exact List.not_mem_nil | exact Fr.refl _ _ | ((repeat (first | assumption | apply cur_alloc | apply cur_setB | apply cur_drew | apply cur_drewN)); done) | omega | (simp only [gz, Value.cells, oneC]; first | done | omega) | ((simp only [List.mem_cons, List.not_mem_nil, or_false, gz]); omega) | rfl)) only [↓gsd, gs, ev, Nat.reduceAdd, Nat.reduceEqDiff, oneC, Value.cells, Option.isNone, gt, ↓hk20, e0, e1, e2, e6, e7, e8, e9, hlv1, i0, i1, Int.toNat_natCast, Nat.mul_one, hob, hc0, et, t0, t1, ho3, hd0, ek, hq, h7]
            refine hk' _ _ ⟨t + 1, by omega, ?_⟩ ?_
            · rw [hfold]
              simp (maxSteps := 4000000) (disch := (first | assumption | exact List.not_mem_nil | exact Fr.refl _ _ | ((repeat (first | assumption | apply cur_alloc | apply cur_setB | apply cur_drew | apply cur_drewN)); done) | omega | (simp only [gz, Value.cells, oneC]; first | done | omega) | ((simp only [List.mem_cons, List.not_mem_nil, or_false, gz]); omega) | rfl)) only [↓gsd, gs, ev, Nat.reduceAdd, Nat.reduceEqDiff, oneC, Value.cells, Option.isNone, e0, e1, e2, e6, e7, e8, e9, h6, Int.natCast_add, Int.natCast_one, hlv1, encVal, atW, hk1]
              (repeat (first | exact Fr.refl _ _ | assumption | with_reducible apply Fr.alloc | with_reducible apply Fr.drew | with_reducible refine Fr.setB ?_ _ _ (.inr (by first | omega | (simp only [gz]; omega))) | with_reducible refine Fr.setB ?_ _ _ (.inl (by first | assumption | simp)) | with_reducible refine Fr.trans' ?_ (by assumption)))
            · have e3 : ((t : Int) + 1).toNat = t + 1 := by omega
              simp (maxSteps := 4000000) (disch := (first | assumption | exact List.not_mem_nil | exact Fr.refl _ _ | ((repeat (first | assumption | apply cur_alloc | apply cur_setB | apply cur_drew | apply cur_drewN)); done) | omega | (simp only [gz, Value.cells, oneC]; first | done | omega) | ((simp only [List.mem_cons, List.not_mem_nil, or_false, gz]); omega) | rfl)) only [↓gsd, gs, ev, Nat.reduceAdd, Nat.reduceEqDiff, oneC, Value.cells, Option.isNone, e9, numOf, Int.toNat_natCast, e3]; omega
          · have ek : decide (x.key = key) = false := decide_eq_false hk1
            simp (maxSteps := 4000000) (disch := (first | assumption | exact List.not_mem_nil | exact Fr.refl _ _ | ((repeat (first | assumption | apply cur_alloc | apply cur_setB | apply cur_drew | apply cur_drewN)); done) | omega | (simp only [gz, Value.cells, oneC]; first | done | omega) | ((simp only [List.mem_cons, List.not_mem_nil, or_false, gz]); omega) | rfl)) only [↓gsd, gs, ev, Nat.reduceAdd, Nat.reduceEqDiff, oneC, Value.cells, Option.isNone, gt, ↓hk20, e0, e1, e2, e6, e7, e8, e9, hlv1, i0, i1, Int.toNat_natCast, Nat.mul_one, hob, hc0, et, t0, t1, ho3, hd0, ek]
            refine hk' _ _ ⟨t + 1, by omega, ?_⟩ ?_
            · rw [hfold]
              simp (maxSteps := 4000000) (disch := (first | assumption | exact List.not_mem_nil | exact Fr.refl _ _ | ((repeat (first | assumption | apply cur_alloc | apply cur_setB | apply cur_drew | apply cur_drewN)); done) | omega | (simp only [gz, Value.cells, oneC]; first | done | omega) | ((simp only [List.mem_cons, List.not_mem_nil, or_false, gz]); omega) | rfl)) only [↓gsd, gs, ev, Nat.reduceAdd, Nat.reduceEqDiff, oneC, Value.cells, Option.isNone, e0, e1, e2, e6, e7, e8, e9, h6, h7, Int.natCast_add, Int.natCast_one, hlv1, encVal, atW, hk1]
              (repeat (first | exact Fr.refl _ _ | assumption | with_reducible apply Fr.alloc | with_reducible apply Fr.drew | with_reducible refine Fr.setB ?_ _ _ (.inr (by first | omega | (simp only [gz]; omega))) | with_reducible refine Fr.setB ?_ _ _ (.inl (by first | assumption | simp)) | with_reducible refine Fr.trans' ?_ (by assumption)))
            · have e3 : ((t : Int) + 1).toNat = t + 1 := by omega
              simp (maxSteps := 4000000) (disch := (first | assumption | exact List.not_mem_nil | exact Fr.refl _ _ | ((repeat (first | assumption | apply cur_alloc | apply cur_setB | apply cur_drew | apply cur_drewN)); done) | omega | (simp only [gz, Value.cells, oneC]; first | done | omega) | ((simp only [List.mem_cons, List.not_mem_nil, or_false, gz]); omega) | rfl)) only [↓gsd, gs, ev, Nat.reduceAdd, Nat.reduceEqDiff, oneC, Value.cells, Option.isNone, e9, numOf, Int.toNat_natCast, e3]; omega
        · have et : decide ((t : Int) < (ws.length : Int)) = false := decide_eq_false (by omega)
          have hw0 : ws.take t = ws := List.take_of_length_le (by omega)
          rw [hw0, ← hat] at h7
          simp (maxSteps := 4000000) (disch := (first | assumption | exact List.not_mem_nil | exact Fr.refl _ _ | ((repeat (first | assumption | apply cur_alloc | apply cur_setB | apply cur_drew | apply cur_drewN)); done) | omega | (simp only [gz, Value.cells, oneC]; first | done | omega) | ((simp only [List.mem_cons, List.not_mem_nil, or_false, gz]); omega) | rfl)) only [↓gsd, gs, ev, Nat.reduceAdd, Nat.reduceEqDiff, oneC, Value.cells, Option.isNone, gt, ↓hk20, e0, e1, e2, e6, e7, e8, e9, hlv1, i0, i1, Int.toNat_natCast, Nat.mul_one, hob, hc0, et]
          refine hk _ _ ⟨i + 1, by omega, ?_⟩ ?_
          · simp (maxSteps := 4000000) (disch := (first | assumption | exact List.not_mem_nil | exact Fr.refl _ _ | ((repeat (first | assumption | apply cur_alloc | apply cur_setB | apply cur_drew | apply cur_drewN)); done) | omega | (simp only [gz, Value.cells, oneC]; first | done | omega) | ((simp only [List.mem_cons, List.not_mem_nil, or_false, gz]); omega) | rfl)) only [↓gsd, gs, ev, Nat.reduceAdd, Nat.reduceEqDiff, oneC, Value.cells, Option.isNone, e0, e1, e2, e6, e7, e8, e9, h6, h7, Int.natCast_add, Int.natCast_one, hlv1]
            (repeat (first | exact Fr.refl _ _ | assumption | with_reducible apply Fr.alloc | with_reducible apply Fr.drew | with_reducible refine Fr.setB ?_ _ _ (.inr (by first | omega | (simp only [gz]; omega))) | with_reducible refine Fr.setB ?_ _ _ (.inl (by first | assumption | simp)) | with_reducible refine Fr.trans' ?_ (by assumption)))
          · have e3 : ((i : Int) + 1).toNat = i + 1 := by omega
            simp (maxSteps := 4000000) (disch := (first | assumption | exact List.not_mem_nil | exact Fr.refl _ _ | ((repeat (first | assumption | apply cur_alloc | apply cur_setB | apply cur_drew | apply cur_drewN)); done) | omega | (simp only [gz, Value.cells, oneC]; first | done | omega) | ((simp only [List.mem_cons, List.not_mem_nil, or_false, gz]); omega) | rfl)) only [↓gsd, gs, ev, Nat.reduceAdd, Nat.reduceEqDiff, oneC, Value.cells, Option.isNone, e8, E8, numOf, Int.toNat_natCast, e3]; omega
    · have el : decide ((i : Int) < (c : Int)) = false := decide_eq_false (by omega)
      obtain rfl : i = c := by omega
      unfold encVal at hK h7
      simp (maxSteps := 4000000) (disch := (first | assumption | exact List.not_mem_nil | exact Fr.refl _ _ | ((repeat (first | assumption | apply cur_alloc | apply cur_setB | apply cur_drew | apply cur_drewN)); done) | omega | (simp only [gz, Value.cells, oneC]; first | done | omega) | ((simp only [List.mem_cons, List.not_mem_nil, or_false, gz]); omega) | rfl)) only [↓gsd, gs, ev, Nat.reduceAdd, Nat.reduceEqDiff, oneC, Value.cells, Option.isNone, gt, ↓hk20, e0, e1, e2, e6, e7, e8, el, h6, h7]
      refine hK _ ?_
      (repeat (first | exact Fr.refl _ _ | assumption | with_reducible apply Fr.alloc | with_reducible apply Fr.drew | with_reducible refine Fr.setB ?_ _ _ (.inr (by first | omega | (simp only [gz]; omega))) | with_reducible refine Fr.setB ?_ _ _ (.inl (by first | assumption | simp)) | with_reducible refine Fr.trans' ?_ (by assumption)))
end Go.Proofs.Ytenokheiindfkaa
