/- slices.Sorted over slices.Values of strings; slices.Compact. -/
import Derived.Test.YtenokheiindfkabB2
import Derived.Test.YtenokheiindfkabLS
import Derived.Test.YtenokheiindfkabCA
import Derived.Sort.OwnSorted
set_option linter.unusedVariables false
set_option linter.unusedSimpArgs false
set_option maxRecDepth 10000
namespace Go.Proofs.Ytenokheiindfkab
open Go.RowKit Go.Shelf Go.Sort Go.VW
def bl (s : ByteArray) : List UInt8 := s.data.toList
theorem encStr_bl (s : ByteArray) : encStr (bl s) = .string s := by
  cases s; rfl
theorem map_encStr_bl (ks : List ByteArray) : (ks.map bl).map encStr = ks.map Value.string := by
  rw [List.map_map]; exact List.map_congr_left fun x _ => encStr_bl x
theorem bl_inj {a b : ByteArray} (h : bl a = bl b) : a = b := by
  cases a; cases b; simp [bl] at h; simp [h]
theorem Fr.of_grown {w w' : World} {v : Value} (hg : w.grownBy w' v.ownBlock) : Fr (blkL v) w w' :=
  ⟨hg.os, hg.tape, hg.output, hg.size, fun b hb hn => hg.block b hb fun e => hn (by simp [blkL, ← e])⟩
def sortL (zs : List (List UInt8)) : List (List UInt8) := zs.mergeSort fun x y => decide (x ≤ y)
set_option maxHeartbeats 1000000 in
theorem sorted_spec {w : World} {v : Value} {ks : List ByteArray} {K : Value → World → Prop} (h : SlOf 1 encS w v ks) (hl : ks.length * 16 ≤ 140737488351232)
    (hK : ∀ v' w', VW.Own 1 9 w' v' ks.length ((sortL (ks.map bl)).map encStr) → Fr [] w w' → (∀ b, v'.ownBlock = some b → w.heap.size ≤ b) → K v' w') :
    CallsN Try.prog 29 [.func (.func 36) #[] #[.pointer (some ⟨w.heap.size, 0, none⟩)]] (w.alloc (.cells #[v] 30)) K := by
  have cw := cur (w.alloc (.cells #[v] 30))
  have hf0 : Fr [] w (w.alloc (.cells #[v] 30)) := (Fr.refl [] w).alloc _
  have hc : (w.alloc (.cells #[v] 30)).cell? ⟨w.heap.size, 0, none⟩ = some v := by
    simp only [World.cell?, get_alloc_new]; rfl
  have cA := appendSeq_in Fence.wide 3 trivial trivial rfl (by omega) w.heap.size v ks hl (w.alloc (.cells #[v] 30)) (by simp) hc (Strs.of (h.frN hf0))
  have cB : ∀ K' : Value → World → Prop, (∀ v' w', VW.Own 1 9 w' v' ks.length (ks.map Value.string) → Fr [] w w' → (∀ b, v'.ownBlock = some b → w.heap.size ≤ b) → K' v' w') → CallsN Try.prog 37 [.slice none 0 0, .func (.func 36) #[] #[.pointer (some ⟨w.heap.size, 0, none⟩)]] (w.alloc (.cells #[v] 30)) K' := fun K' hK' =>
    CallsN.of ((callsIn_wide.1 cA).mono fun e w' he => by
      obtain ⟨v', rfl, hrow, hb⟩ := he
      obtain ⟨ho, hfr⟩ := VW.Own.of_row hrow
      refine ⟨v', rfl, hK' v' w' ho (hf0.trans' (Fr.of_below hb)) fun b hb' => ?_⟩
      have := hfr b hb'
      rw [size_alloc] at this
      omega)
  refine call29 ?_
  simp (maxSteps := 4000000) (disch := (first | assumption | exact List.not_mem_nil | exact Fr.refl _ _ | ((repeat (first | assumption | apply cur_alloc | apply cur_setB | apply cur_drew | apply cur_drewN)); done) | omega | (simp only [gz, Value.cells, oneC]; first | done | omega) | ((simp only [List.mem_cons, List.not_mem_nil, or_false, gz]); omega) | rfl)) only [↓gsd, gs, ev, Nat.reduceAdd, Nat.reduceEqDiff, oneC, Value.cells, Option.isNone, gt, ↓hk29]
  refine call34 ?_
  simp (maxSteps := 4000000) (disch := (first | assumption | exact List.not_mem_nil | exact Fr.refl _ _ | ((repeat (first | assumption | apply cur_alloc | apply cur_setB | apply cur_drew | apply cur_drewN)); done) | omega | (simp only [gz, Value.cells, oneC]; first | done | omega) | ((simp only [List.mem_cons, List.not_mem_nil, or_false, gz]); omega) | rfl)) only [↓gsd, gs, ev, Nat.reduceAdd, Nat.reduceEqDiff, oneC, Value.cells, Option.isNone, gt, ↓hk34]
  refine cB _ fun v1 w1 hown hf1 hfr1 => ?_
  have cw1 := cur w1
  have hz1 := hf1.size
  simp (maxSteps := 4000000) (disch := (first | assumption | exact List.not_mem_nil | exact Fr.refl _ _ | ((repeat (first | assumption | apply cur_alloc | apply cur_setB | apply cur_drew | apply cur_drewN)); done) | omega | (simp only [gz, Value.cells, oneC]; first | done | omega) | ((simp only [List.mem_cons, List.not_mem_nil, or_false, gz]); omega) | rfl)) only [↓gsd, gs, ev, Nat.reduceAdd, Nat.reduceEqDiff, oneC, Value.cells, Option.isNone, gt, ↓hk29, ↓hk34]
  rw [← map_encStr_bl] at hown
  rcases hown.2 with ⟨rfl, hz⟩ | ⟨gb, cap, cur, rfl, hbase, hgb, r1, r2, r3, r4⟩
  · have hks : ks = [] := List.eq_nil_of_length_eq_zero hz
    subst hks
    refine CallsN.of ((AnyM.slices_Sort_string_none Ytenokheiindfkab.sortS none 0 w1).mono fun e w' he => ?_)
    obtain ⟨rfl, rfl⟩ := he
    refine ⟨_, rfl, ?_⟩
    simp (maxSteps := 4000000) (disch := (first | assumption | exact List.not_mem_nil | exact Fr.refl _ _ | ((repeat (first | assumption | apply cur_alloc | apply cur_setB | apply cur_drew | apply cur_drewN)); done) | omega | (simp only [gz, Value.cells, oneC]; first | done | omega) | ((simp only [List.mem_cons, List.not_mem_nil, or_false, gz]); omega) | rfl)) only [↓gsd, gs, ev, Nat.reduceAdd, Nat.reduceEqDiff, oneC, Value.cells, Option.isNone, gt, ↓hk29]
    exact hK _ _ (by simpa [sortL] using hown) hf1 (fun b hb => by simp [Value.ownBlock] at hb)
  · have hlen : (ks.map bl).length = ks.length := by simp
    have hH : Holds encStr w1 gb 0 (ks.map bl).toArray := holds_of_block hgb (by simpa using r4)
    have hgl : gb < w1.heap.size := lt_of_get _ _ hgb
    have hsz : (ks.map bl).length < 4611686018427387904 := by rw [hlen]; omega
    have cS := AnyM.slices_Sort_string Ytenokheiindfkab.sortS gb 0 cap (ks.map bl) w1 hH hgl hsz
    rw [hlen] at cS
    refine CallsN.of (cS.mono fun e w' he => ?_)
    obtain ⟨rfl, nn, os, rfl⟩ := he
    refine ⟨_, rfl, ?_⟩
    generalize hW : grow _ os = w2
    have hown2 : VW.Own 1 9 w2 (.slice (some ⟨gb, 0, none⟩) ks.length cap) ks.length ((sortL (ks.map bl)).map encStr) := by
      rw [← hW]
      have := ownsRow_sorted (n := nn) (os := os) (ss := ks.map bl) (ts := sortL (ks.map bl)) (by simp [sortL]) (Nat.zero_le gb) hgb (by rw [hlen]; exact r1) r2 r3
      rw [hlen] at this
      exact this
    have hf2 : Fr [gb] w1 w2 := by
      rw [← hW]
      have := Fr.of_grown (v := .slice (some ⟨gb, 0, none⟩) ks.length cap) (by simpa [Value.ownBlock] using grownBy_sorted (w := w1) (g := gb) (n := nn) (os := os) (sortL (ks.map bl)).toArray)
      simpa [blkL, Value.ownBlock, sortL] using this
    clear hW
    have cw2 : Cur w2 := trivial
    have hg0 := hfr1 gb (by simp [Value.ownBlock])
    simp (maxSteps := 4000000) (disch := (first | assumption | exact List.not_mem_nil | exact Fr.refl _ _ | ((repeat (first | assumption | apply cur_alloc | apply cur_setB | apply cur_drew | apply cur_drewN)); done) | omega | (simp only [gz, Value.cells, oneC]; first | done | omega) | ((simp only [List.mem_cons, List.not_mem_nil, or_false, gz]); omega) | rfl)) only [↓gsd, gs, ev, Nat.reduceAdd, Nat.reduceEqDiff, oneC, Value.cells, Option.isNone, gt, ↓hk29]
    exact hK _ _ hown2 (hf1.trans hf2 (fun x hx => by simp at hx; exact .inr (by omega))) (fun b hb => by simp [Value.ownBlock] at hb; omega)
set_option maxHeartbeats 1000000 in
theorem compact_spec {w : World} {v : Value} {zs : List (List UInt8)} {K : Value → World → Prop} (h : VW.Own 1 9 w v zs.length (zs.map encStr)) (hl : zs.length ≤ 9223372036854775807)
    (hK : ∀ a c w', Fr (blkL v) w w' → K (.slice a (Lib.compact zs).length c) w') : CallsN Try.prog 31 [v] w K := by
  rcases h.2 with ⟨rfl, hz⟩ | ⟨gb, cap, cur, rfl, hbase, hgb, r1, r2, r3, r4⟩
  · have hks : zs = [] := List.eq_nil_of_length_eq_zero hz
    subst hks
    refine CallsN.of ((Any.slices_Compact_string_empty Ytenokheiindfkab.cpS none 0 w).mono fun e w' he => ?_)
    obtain ⟨rfl, rfl⟩ := he
    exact ⟨_, rfl, hK _ _ _ (Fr.refl _ _)⟩
  · have hH : Holds encStr w gb 0 zs.toArray := holds_of_block hgb (by simpa using r4)
    refine CallsN.of ((Any.slices_Compact_string Ytenokheiindfkab.cpS gb 0 cap zs w hH hl r1).mono fun e w' he => ?_)
    obtain ⟨rfl, q, rfl⟩ := he
    refine ⟨_, rfl, hK _ _ _ ?_⟩
    have := Fr.of_grown (v := .slice (some ⟨gb, 0, none⟩) zs.length cap) (by simpa [Value.ownBlock] using grownBy_sorted (w := w) (g := gb) (n := q) (os := #[]) (Lib.compact zs ++ List.replicate (zs.length - (Lib.compact zs).length) []).toArray)
    simpa [grow_empty] using this
end Go.Proofs.Ytenokheiindfkab
