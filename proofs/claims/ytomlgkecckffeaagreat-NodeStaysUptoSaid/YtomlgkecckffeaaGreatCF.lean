/- The generic engine, part 12: rows worked on in place (copy, append with room, clear, cuts). -/
import Derived.Test.YtomlgkecckffeaaGreatCB
import Derived.Laws.CopyRow
import Derived.Lib.AppendZerosOnto
set_option linter.unusedVariables false
set_option linter.unusedSimpArgs false
set_option linter.unusedSectionVars false
namespace Go.VW
section
variable {P : Program}
theorem setRow_setB {w : World} {g : Nat} {cur : Array Value} {t : TypeId} {fr : Nat × Nat} (hg : w.heap[g]? = some (.cells cur t fr)) (cs : Array Value) : w.setRow g cs = w.setB g (.cells cs t fr) := by
  obtain ⟨hlt, hv⟩ := Array.getElem?_eq_some_iff.1 hg
  unfold World.setRow World.setB
  cases w with
  | mk heap tape drawn os output =>
    congr 1
    apply Array.ext
    · simp
    · intro k h1 h2
      simp only [Array.getElem_modify]
      split
      · rename_i hk; subst hk; simp at hv; simp [hv]
      · rename_i hk; exact (Array.getElem_setIfInBounds_ne (by simpa using h1) hk).symm
abbrev Blk (w : World) (g : Nat) (e : TypeId) (D : List Value) : Prop := w.heap[g]? = some (Obj.cells D.toArray e (0, 0))
theorem Blk.cell {w : World} {g : Nat} {e : TypeId} {D : List Value} (h : Blk w g e D) (o : Nat) (j : Nat) (v : Value) (hv : (D.drop o)[j]? = some v) : w.cell? ((⟨g, o, none⟩ : Addr).add j) = some v := by
  rw [add_at]
  rw [List.getElem?_drop] at hv
  simp only [World.cell?, h]
  simpa using hv
theorem Blk.cellT {w : World} {g : Nat} {e : TypeId} {D : List Value} (h : Blk w g e D) (o m : Nat) (j : Nat) (v : Value) (hv : ((D.drop o).take m)[j]? = some v) : w.cell? ((⟨g, o, none⟩ : Addr).add j) = some v := by
  refine h.cell o j v ?_
  rw [List.getElem?_take] at hv
  split at hv
  · exact hv
  · cases hv
theorem Blk.ne {w : World} {g g' : Nat} {e : TypeId} {D : List Value} (h : Blk w g e D) (o : Obj) (hn : g' ≠ g) : Blk (w.setB g' o) g e D := by
  show (w.setB g' o).heap[g]? = _
  rw [get_setB_ne _ _ _ _ hn]; exact h
theorem nx_xext {f : FuncId} {args : List Value} {w : World} {v : Value} (hc : (callFunc f args.toArray).run P w = .ok (.value v) w) (K : Value → World → Prop) : nx P (xcall (.func (.func f) #[] #[]) args) w K = K v w := by
  unfold nx xcall
  simp only [Deferred.ofValue, sem_pure_bind, invoke, Array.empty_append, Array.append_empty, hc]
theorem ins_cells {k n i : Nat} {D y : List Value} (hD : (n + 1) * k ≤ D.length) (hy : y.length = k) (hi : i ≤ n) {D1 : List Value} (h1 : D1 = D.take ((i + 1) * k) ++ (D.drop (i * k)).take ((n - i) * k) ++ D.drop ((i + 1) * k + (n - i) * k)) :
    (D1.take (i * k) ++ y ++ D1.drop (i * k + k)).take ((n + 1) * k) = D.take (i * k) ++ y ++ (D.drop (i * k)).take ((n - i) * k) := by
  have e1 : (i + 1) * k = i * k + k := by rw [Nat.add_mul, Nat.one_mul]
  have e2 : (n + 1) * k = i * k + k + (n - i) * k := by rw [← e1, ← Nat.add_mul]; congr 1; omega
  have l1 : (D.take ((i + 1) * k)).length = i * k + k := by rw [List.length_take, e1]; omega
  have l2 : ((D.drop (i * k)).take ((n - i) * k)).length = (n - i) * k := by rw [List.length_take, List.length_drop]; omega
  have t1 : D1.take (i * k) = D.take (i * k) := by
    rw [h1, List.append_assoc, List.take_append_of_le_length (by omega), List.take_take, e1, Nat.min_eq_left (by omega)]
  have t2 : D1.drop (i * k + k) = (D.drop (i * k)).take ((n - i) * k) ++ D.drop ((i + 1) * k + (n - i) * k) := by
    rw [h1, List.append_assoc, List.drop_append_of_le_length (by omega), List.drop_of_length_le (by omega), List.nil_append]
  have l3 : (D.take (i * k)).length = i * k := by rw [List.length_take]; omega
  rw [t1, t2, e2, ← List.append_assoc, List.take_append_of_le_length (by simp only [List.length_append, l3, hy, l2]; omega), List.take_of_length_le (by simp only [List.length_append, l3, hy, l2]; omega)]
theorem ins_cells2 {k n i : Nat} {R pre y suf : List Value} (hR : (n + 1) * k ≤ R.length) (hy : y.length = k) (hi : i ≤ n) (hp : R.take (i * k) = pre) (hs : suf.length = (n - i) * k) {R1 : List Value} (h1 : R1 = R.take (i * k) ++ y ++ R.drop (i * k + y.length)) :
    (R1.take ((i + 1) * k) ++ suf ++ R1.drop ((i + 1) * k + suf.length)).take ((n + 1) * k) = pre ++ y ++ suf := by
  have e1 : (i + 1) * k = i * k + k := by rw [Nat.add_mul, Nat.one_mul]
  have e2 : (n + 1) * k = i * k + k + (n - i) * k := by rw [← e1, ← Nat.add_mul]; congr 1; omega
  have l1 : (R.take (i * k)).length = i * k := by rw [List.length_take]; omega
  have t1 : R1.take ((i + 1) * k) = pre ++ y := by
    rw [h1, e1, List.take_append_of_le_length (by simp only [List.length_append, l1, hy]; omega), List.take_of_length_le (by simp only [List.length_append, l1, hy]; omega), hp]
  have lp : pre.length = i * k := by rw [← hp]; exact l1
  rw [t1, e2, List.take_append_of_le_length (by simp only [List.length_append, lp, hy, hs]; omega), List.take_of_length_le (by simp only [List.length_append, lp, hy, hs]; omega)]
theorem Blk.set {w : World} {g : Nat} {e : TypeId} {D : List Value} (h : Blk w g e D) (D' : List Value) : Blk (w.setB g (.cells D'.toArray e (0, 0))) g e D' := get_setB_same _ _ _ (lt_of_get _ _ h)
theorem own_blkD {k n cap g : Nat} {e : TypeId} {w : World} {cs : List Value} (h : Own k e w (.slice (some ⟨g, 0, none⟩) n cap) n cs) : ∃ D, Blk w g e D ∧ D.length = cap * k ∧ n ≤ cap ∧ cap ≤ maxLen ∧ D.take (n * k) = cs := by
  rcases h.2 with ⟨h0, _⟩ | ⟨y, cap', cur', hvx, hb0, hgx, hnc, hcm, hcs, htk⟩
  · cases h0
  · simp only [Value.slice.injEq, Option.some.injEq, Addr.mk.injEq, and_true, true_and] at hvx
    obtain ⟨rfl, rfl⟩ := hvx
    exact ⟨cur'.toList, by simpa using hgx, by simpa using hcs, hnc, hcm, htk⟩
theorem own_of_blk {k n cap g : Nat} {e : TypeId} {w : World} {D cs : List Value} (h : Blk w g e D) (hD : D.length = cap * k) (hn : n ≤ cap) (hc : cap ≤ maxLen) (ht : D.take (n * k) = cs) : Own k e w (.slice (some ⟨g, 0, none⟩) n cap) n cs :=
  ⟨by rw [← ht, List.length_take, hD, Nat.min_eq_left (Nat.mul_le_mul_right k hn)], .inr ⟨g, cap, _, rfl, Nat.zero_le _, h, hn, hc, by simpa using hD, by simpa using ht⟩⟩
theorem store_row {w : World} {g o : Nat} {e : TypeId} {D vs : List Value} (h : Blk w g e D) (hl : o + vs.length ≤ D.length) (h1 : vs.all oneC = true) :
    (storeCells ⟨g, o, none⟩ vs).run P w = .ok () (w.setB g (.cells (D.take o ++ vs ++ D.drop (o + vs.length)).toArray e (0, 0))) := by
  have := run_storeCells_at P g o e vs 0 D.toArray w h (by simpa using hl) (fun u hu => oneC' (List.all_eq_true.1 h1 u hu))
  simp only [Nat.add_zero] at this
  rw [this, setRow_setB h]
theorem copy_row {w : World} {dT sT ty e : TypeId} {k : Nat} (hu : ∀ w, (underlying dT).run P w = .ok (.slice e) w) (hs : ∀ w, (sizeOf e).run P w = .ok k w) {g o dLen dCap : Nat} {a : Addr} {sLen sCap : Nat} {D cs : List Value}
    (h : Blk w g e D) (hn : cs.length = min sLen dLen * k) (hsrc : ∀ j v, cs[j]? = some v → w.cell? (a.add j) = some v) (hfit : o + cs.length ≤ D.length) (h1 : cs.all oneC = true) :
    (Builtin.copy_ #[dT, sT] ty #[.slice (some ⟨g, o, none⟩) dLen dCap, .slice (some a) sLen sCap]).run P w = .ok (goInt ((min sLen dLen : Nat) : Int)) (w.setB g (.cells (D.take o ++ cs ++ D.drop (o + cs.length)).toArray e (0, 0))) := by
  have hl := run_loadCells_list (P := P) w a cs hsrc
  have hst := store_row (P := P) h hfit h1
  rw [hn] at hl
  have hm : Nat.min sLen dLen = min sLen dLen := rfl
  simp only [Builtin.copy_, Sem.run_bind, List.getElem?_toArray, List.getElem?_cons_zero, List.getElem?_cons_succ, hu, Result.andThen_ok, Builtin.lenOf, Sem.run_pure, hs, Builtin.firstCells, hm, hl, hst]
  try omega
theorem append_row {w : World} {t ty e : TypeId} {i0 : TypeInfo} {k : Nat} (ht : P.underlying t = some (.slice e)) (hi : P.info? e = some i0) (hk : i0.size = k) {g n cap : Nat} {a : Addr} {m c : Nat} {D cs : List Value}
    (h : Blk w g e D) (hn : cs.length = m * k) (hsrc : ∀ j v, cs[j]? = some v → w.cell? (a.add j) = some v) (hroom : n + m ≤ cap) (hfit : n * k + cs.length ≤ D.length) (h1 : cs.all oneC = true) :
    (Builtin.append_ #[t, t] ty #[.slice (some ⟨g, 0, none⟩) n cap, .slice (some a) m c]).run P w = .ok (.slice (some ⟨g, 0, none⟩) (n + m) cap) (w.setB g (.cells (D.take (n * k) ++ cs ++ D.drop (n * k + cs.length)).toArray e (0, 0))) := by
  subst hk
  have := run_append_room (P := P) w t ty e i0 ht hi g n cap D.toArray h a m c cs hn hsrc (fun u hu => oneC' (List.all_eq_true.1 h1 u hu)) hroom (by simpa using hfit)
  rw [this, setRow_setB h]
theorem grow_zeros {t tn ty e : TypeId} {i0 : TypeInfo} {z : Value} {k bytes : Nat} (ht : P.underlying t = some (.slice e)) (htn : P.underlying tn = some (.int .i64)) (hi : P.info? e = some i0) (hz : i0.zero = some z) (hsize : i0.size = k) (hby : i0.bytes = bytes) (hzs : z.cells.size = k) (hk : 0 < k)
    {w : World} {g n cap m : Nat} {D : List Value} (hb : Blk w g e D) (hn : n * k ≤ D.length) (h0 : 0 < m) (hg : cap < n + m) (hlen : (n + m) * bytes ≤ 140737488355328) (hb0 : 0 < bytes) :
    ∃ (G : Nat) (ROW : List Value) (w' : World), (Builtin.append_ #[t, tn] ty #[.slice (some ⟨g, 0, none⟩) n cap, .int .i64 m]).run P w = .ok (.slice (some ⟨w.heap.size, 0, none⟩) (n + m) G) w' ∧ Blk w' w.heap.size e ROW ∧ ROW.length = G * k ∧ n + m ≤ G ∧ G ≤ maxLen ∧
      ROW.take (n * k) = D.take (n * k) ∧ Fr [] w w' ∧ w'.heap.size = w.heap.size + 1 := by
  subst hsize
  subst hby
  have hnm : n + m ≤ maxLen := by
    have : n + m ≤ (n + m) * i0.bytes := Nat.le_mul_of_pos_right _ hb0
    simp only [maxLen]; omega
  have hm63 : ((n + m : Nat) : Int) ≤ 9223372036854775807 := by simp only [maxLen] at hnm; omega
  have hmb : m * i0.bytes ≤ (n + m) * i0.bytes := Nat.mul_le_mul_right _ (by omega)
  have hb' : Blk w.drew g e D := hb
  have hold := run_firstCells_some (P := P) w.drew i0.size n ⟨g, 0, none⟩ n cap (D.take (n * i0.size)) (by rw [List.length_take]; omega) (fun j v hv => hb'.cellT 0 (n * i0.size) j v (by simpa using hv))
  have h := Lib.run_append_grow_zeros (P := P) w t tn ty e i0 z .i64 .i64 ht htn hi hz (some ⟨g, 0, none⟩) n cap (D.take (n * i0.size)) hold m h0 hk hg hm63 (by omega) (growslice_fits hg hlen)
  have hge := grownCap_ge w (n + m) cap e
  have hgm := grownCap_le_maxLen w (n + m) cap e hnm
  generalize grownCap w (n + m) cap e = G at h hge hgm
  refine ⟨G, D.take (n * i0.size) ++ (Builtin.zeroCells z.cells m).toList ++ (Builtin.zeroCells z.cells (G - (n + m))).toList, _, h, ?_, ?_, hge, hgm, ?_, (Fr.refl _ _).drew.alloc _, by simp [World.alloc]⟩
  · show (w.drew.alloc _).heap[w.heap.size]? = _
    have := get_alloc_new w.drew (Obj.cells ((D.take (n * i0.size)).toArray ++ Builtin.zeroCells z.cells m ++ Builtin.zeroCells z.cells (G - (n + m))) e)
    rw [size_drew] at this
    rw [this]
    simp
  · simp only [List.length_append, List.length_take, Array.length_toList, size_zeroCells, hzs]
    rw [Nat.min_eq_left hn, ← Nat.add_mul, ← Nat.add_mul]
    congr 1; omega
  · rw [List.append_assoc, List.take_append_of_le_length (by rw [List.length_take]; omega), List.take_take, Nat.min_self]
theorem clear_row {w : World} {t ty e : TypeId} {z : Value} (hu : ∀ w, (underlying t).run P w = .ok (.slice e) w) (hz : ∀ w, (zeroValue e).run P w = .ok z w) {g o n c : Nat} {D : List Value} (h : Blk w g e D)
    (hfit : o + n * z.cells.size ≤ D.length) (h1 : z.cells.toList.all oneC = true) :
    ∃ D' : List Value, (Builtin.clear_ #[t] ty #[.slice (some ⟨g, o, none⟩) n c]).run P w = .ok (.tuple #[]) (w.setB g (.cells D'.toArray e (0, 0))) ∧ D'.length = D.length ∧ ∀ q, q ≤ o → D'.take q = D.take q := by
  have hzl : (Builtin.zeroCells z.cells n).toList.length = n * z.cells.size := by simp [Builtin.zeroCells]
  by_cases hn : n = 0
  · subst hn
    refine ⟨D, ?_, rfl, fun _ _ => rfl⟩
    have hself : w.setB g (.cells D.toArray e (0, 0)) = w := by rw [← setRow_setB h, setRow_self w g D.toArray e (0, 0) h]
    rw [hself]
    simp [Builtin.clear_, Sem.run_bind, hu]
  · obtain ⟨m, rfl⟩ : ∃ m, n = m + 1 := ⟨n - 1, by omega⟩
    have h1' : (Builtin.zeroCells z.cells (m + 1)).toList.all oneC = true := by
      rw [List.all_eq_true] at h1 ⊢
      intro x hx
      simp only [Builtin.zeroCells, Array.toList_map, List.mem_map] at hx
      obtain ⟨q, _, rfl⟩ := hx
      by_cases hs : q % z.cells.size < z.cells.size
      · rw [getElem!_pos z.cells _ hs]
        exact h1 _ (by simp)
      · rw [getElem!_neg z.cells _ hs]; rfl
    have hst := store_row (P := P) (o := o) h (by rw [hzl]; exact hfit) h1'
    refine ⟨D.take o ++ (Builtin.zeroCells z.cells (m + 1)).toList ++ D.drop (o + (Builtin.zeroCells z.cells (m + 1)).toList.length), ?_, ?_, fun q hq => ?_⟩
    · simp only [Builtin.clear_, Sem.run_bind, List.getElem?_toArray, List.getElem?_cons_zero, hu, Result.andThen_ok, hz, hst, Sem.run_pure]
    · simp only [List.length_append, List.length_take, List.length_drop, hzl]; omega
    · rw [List.append_assoc, List.take_append_of_le_length (by rw [List.length_take]; omega), List.take_take, Nat.min_eq_left hq]
theorem cut_high0 {t e : TypeId} {k : Nat} (hu : ∀ w, (underlying t).run P w = .ok (.slice e) w) (hs : ∀ w, (sizeOf e).run P w = .ok k w) (g n c h : Nat) (hh : h ≤ c) (w : World) :
    (Instr.sliceAt t (.slice (some ⟨g, 0, none⟩) n c) none (some (.int .i64 (h : Int))) none).run P w = .ok (.slice (some ⟨g, 0, none⟩) h c) w := by
  by_cases h0 : c = 0
  · subst h0
    simp [Instr.sliceAt, Sem.run_bind, hu, Instr.slice, Instr.sliceBounds, Instr.sliceBound, asIntOf, hh, hs]
  · simp [Instr.sliceAt, Sem.run_bind, hu, Instr.slice, Instr.sliceBounds, Instr.sliceBound, asIntOf, hh, hs, h0, add_at]
theorem cut_low0 {t e : TypeId} {k : Nat} (hu : ∀ w, (underlying t).run P w = .ok (.slice e) w) (hs : ∀ w, (sizeOf e).run P w = .ok k w) (g n c l : Nat) (hl : l ≤ n) (hc : n ≤ c) (w : World) :
    (Instr.sliceAt t (.slice (some ⟨g, 0, none⟩) n c) (some (.int .i64 (l : Int))) none none).run P w = .ok (.slice (some ⟨g, if c = l then 0 else l * k, none⟩) (n - l) (c - l)) w := by
  have hl' : 0 ≤ (l : Int) ∧ (l : Int) ≤ n := by omega
  by_cases h0 : c = l
  · simp [Instr.sliceAt, Sem.run_bind, hu, Instr.slice, Instr.sliceBounds, Instr.sliceBound, asIntOf, hl, hs, h0]
  · simp [Instr.sliceAt, Sem.run_bind, hu, Instr.slice, Instr.sliceBounds, Instr.sliceBound, asIntOf, hl, hs, h0, add_at]
theorem cut_both0 {t e : TypeId} {k : Nat} (hu : ∀ w, (underlying t).run P w = .ok (.slice e) w) (hs : ∀ w, (sizeOf e).run P w = .ok k w) (g n c l h : Nat) (hl : l ≤ h) (hh : h ≤ c) (w : World) :
    (Instr.sliceAt t (.slice (some ⟨g, 0, none⟩) n c) (some (.int .i64 (l : Int))) (some (.int .i64 (h : Int))) none).run P w = .ok (.slice (some ⟨g, if c = l then 0 else l * k, none⟩) (h - l) (c - l)) w := by
  have hl' : 0 ≤ (l : Int) ∧ (l : Int) ≤ h := by omega
  by_cases h0 : c = l
  · obtain rfl : h = l := by omega
    simp [Instr.sliceAt, Sem.run_bind, hu, Instr.slice, Instr.sliceBounds, Instr.sliceBound, asIntOf, hl, hh, hs, h0]
  · simp [Instr.sliceAt, Sem.run_bind, hu, Instr.slice, Instr.sliceBounds, Instr.sliceBound, asIntOf, hl, hh, hs, h0, add_at]
theorem cut_three0 {t e : TypeId} {k : Nat} (hu : ∀ w, (underlying t).run P w = .ok (.slice e) w) (hs : ∀ w, (sizeOf e).run P w = .ok k w) (g n c l h m : Nat) (hl : l ≤ h) (hh : h ≤ m) (hm : m ≤ c) (w : World) :
    ∃ v, (Instr.sliceAt t (.slice (some ⟨g, 0, none⟩) n c) (some (.int .i64 (l : Int))) (some (.int .i64 (h : Int))) (some (.int .i64 (m : Int)))).run P w = .ok v w := by
  have hl' : 0 ≤ (l : Int) ∧ (l : Int) ≤ h := by omega
  simp [Instr.sliceAt, Sem.run_bind, hu, Instr.slice, Instr.sliceBounds, Instr.sliceBound, asIntOf, hl, hh, hm, hs]
end
end Go.VW
