/- The generic engine, part 6: frames; slices that are read, slices that are owned; structs and slices that are built; append; cuts. -/
import Derived.Test.YtomlgkecckffeaaGreatC5
import Derived.Maps.AppendAt
import Derived.Laws.OwnMore
set_option linter.unusedVariables false
set_option linter.unusedSimpArgs false
set_option linter.unusedSectionVars false
namespace Go.VW
noncomputable section

/-! ### 1. Frames: but for the blocks M, and new ones, w' is as w was -/
structure Fr (M : List Nat) (w w' : World) : Prop where
  os : w'.os = w.os
  tape : w'.tape = w.tape
  output : w'.output = w.output
  size : w.heap.size ≤ w'.heap.size
  keep : ∀ b, b < w.heap.size → b ∉ M → w'.heap[b]? = w.heap[b]?
theorem Fr.refl (M : List Nat) (w : World) : Fr M w w := ⟨rfl, rfl, rfl, Nat.le_refl _, fun _ _ _ => rfl⟩
theorem frS_refl (M : List Nat) (w : World) : Fr M w w = True := eq_true (Fr.refl M w)
theorem curE_alloc (w : World) (o : Obj) : Cur (w.alloc o) = Cur w := nr rfl
theorem curE_setB (w : World) (b : Nat) (o : Obj) : Cur (w.setB b o) = Cur w := nr rfl
theorem curE_drew (w : World) : Cur w.drew = Cur w := nr rfl
theorem curE_drewN (w : World) (n : Nat) : Cur (w.drewN n) = Cur w := nr rfl
theorem Fr.trans {M M' : List Nat} {a b c : World} (h : Fr M a b) (k : Fr M' b c) (hM : ∀ x ∈ M', x ∈ M ∨ a.heap.size ≤ x) : Fr M a c :=
  ⟨k.os.trans h.os, k.tape.trans h.tape, k.output.trans h.output, Nat.le_trans h.size k.size, fun x hx hn => by
    rw [k.keep x (Nat.lt_of_lt_of_le hx h.size) (fun hm => by rcases hM x hm with h' | h'; exact hn h'; omega)]
    exact h.keep x hx hn⟩
theorem Fr.trans' {M : List Nat} {a b c : World} (h : Fr M a b) (k : Fr [] b c) : Fr M a c := h.trans k (fun x hx => by simp at hx)
theorem Fr.transM {M : List Nat} {a b c : World} (h : Fr M a b) (k : Fr M b c) : Fr M a c := h.trans k (fun x hx => .inl hx)
theorem Fr.mono {M M' : List Nat} {a b : World} (h : Fr M a b) (hM : ∀ x ∈ M, x ∈ M') : Fr M' a b := ⟨h.os, h.tape, h.output, h.size, fun x hx hn => h.keep x hx fun hm => hn (hM x hm)⟩
theorem Fr.alloc {M : List Nat} {a w : World} (h : Fr M a w) (o : Obj) : Fr M a (w.alloc o) :=
  h.trans' ⟨rfl, rfl, rfl, by rw [size_alloc]; omega, fun b hb _ => get_alloc_old w b o hb⟩
theorem Fr.setB {M : List Nat} {a w : World} (h : Fr M a w) (b : Nat) (o : Obj) (hb : b ∈ M ∨ a.heap.size ≤ b) : Fr M a (w.setB b o) :=
  h.trans (M' := [b]) ⟨rfl, rfl, rfl, by rw [size_setB]; omega, fun x hx hn => get_setB_ne w x b o (fun e => hn (by simp [e]))⟩ (fun x hx => by simp at hx; subst hx; exact hb)
theorem Fr.drew {M : List Nat} {a w : World} (h : Fr M a w) : Fr M a w.drew := ⟨h.os, h.tape, h.output, h.size, h.keep⟩
theorem Fr.drewN {M : List Nat} {a w : World} (h : Fr M a w) (n : Nat) : Fr M a (w.drewN n) := ⟨h.os, h.tape, h.output, h.size, h.keep⟩
theorem Fr.get {M : List Nat} {a w : World} (h : Fr M a w) {b : Nat} {o : Obj} (hb : a.heap[b]? = some o) (hn : b ∉ M) : w.heap[b]? = some o := by
  rw [h.keep b (lt_of_get a b hb) hn, hb]
theorem Fr.getN {a w : World} (h : Fr [] a w) {b : Nat} {o : Obj} (hb : a.heap[b]? = some o) : w.heap[b]? = some o := h.get hb (by simp)
theorem Fr.below {a w : World} (h : Fr [] a w) : RowKit.Below a.heap.size a w := ⟨h.os, h.tape, h.output, h.size, fun b hb => h.keep b hb (by simp)⟩
theorem Fr.of_below {a w : World} (h : RowKit.Below a.heap.size a w) : Fr [] a w := ⟨h.os, h.tape, h.output, h.size, fun b hb _ => h.block b hb⟩
theorem Fr.lt {M : List Nat} {a w : World} (h : Fr M a w) {b : Nat} (hb : b < a.heap.size) : b < w.heap.size := Nat.lt_of_lt_of_le hb h.size

/-! ### 2. Slices that are read -/
def Sl (k : Nat) (w : World) (v : Value) (n : Nat) (cs : List Value) : Prop :=
  cs.length = n * k ∧ ((n = 0 ∧ ∃ a c, v = .slice a 0 c) ∨
    ∃ b off cap c et fr, v = .slice (some ⟨b, off, none⟩) n cap ∧ w.heap[b]? = some (.cells c et fr) ∧ (c.toList.drop off).take (n * k) = cs)
def offV (v : Value) (b : Nat) : Prop := ∀ a n c, v = .slice (some a) n c → a.block ≠ b
section
variable {k : Nat} {w w' : World} {v : Value} {n : Nat} {cs : List Value}
theorem Sl.form (h : Sl k w v n cs) : ∃ a c, v = .slice a n c := by
  rcases h.2 with ⟨rfl, a, c, rfl⟩ | ⟨b, off, cap, c, et, fr, rfl, _⟩
  · exact ⟨a, c, rfl⟩
  · exact ⟨_, cap, rfl⟩
theorem Sl.nil : Sl k w (.slice none 0 0) 0 [] := ⟨by simp, .inl ⟨rfl, none, 0, rfl⟩⟩
theorem Sl.len (h : Sl k w v n cs) : cs.length = n * k := h.1
theorem Sl.keep (h : Sl k w v n cs) (hk : ∀ b c et fr, (∃ a m cp, v = .slice (some a) m cp ∧ a.block = b) → w.heap[b]? = some (.cells c et fr) → w'.heap[b]? = some (.cells c et fr)) : Sl k w' v n cs := by
  refine ⟨h.1, ?_⟩
  rcases h.2 with h0 | ⟨b, off, cap, c, et, fr, rfl, hb, hc⟩
  · exact .inl h0
  · exact .inr ⟨b, off, cap, c, et, fr, rfl, hk b c et fr ⟨_, _, _, rfl, rfl⟩ hb, hc⟩
theorem Sl.fr (h : Sl k w v n cs) {M : List Nat} (hf : Fr M w w') (hM : ∀ b ∈ M, offV v b) : Sl k w' v n cs :=
  h.keep fun b c et fr ⟨a, m, cp, hv, hab⟩ hb => hf.get hb fun hm => hM b hm a m cp hv hab
theorem Sl.frN (h : Sl k w v n cs) (hf : Fr [] w w') : Sl k w' v n cs := h.fr hf (by simp)
theorem Sl.at_ (h : Sl k w v n cs) (hn : 0 < n) : ∃ b off cap c et fr, v = .slice (some ⟨b, off, none⟩) n cap ∧ w.heap[b]? = some (.cells c et fr) ∧ ∀ j, j < n * k → c.toList[off + j]? = cs[j]? := by
  rcases h.2 with ⟨rfl, _⟩ | ⟨b, off, cap, c, et, fr, rfl, hb, hc⟩
  · omega
  · refine ⟨b, off, cap, c, et, fr, rfl, hb, fun j hj => ?_⟩
    rw [← hc, List.getElem?_take, if_pos hj, List.getElem?_drop]
theorem Sl.lt (h : Sl k w v n cs) (hn : 0 < n) : ∃ b off cap, v = .slice (some ⟨b, off, none⟩) n cap ∧ b < w.heap.size := by
  obtain ⟨b, off, cap, c, et, fr, rfl, hb, _⟩ := h.at_ hn
  exact ⟨b, off, cap, rfl, lt_of_get w b hb⟩
end
/-! Lists of elements, each of k cells. -/
section
variable {α : Type} {k : Nat} {enc : α → List Value}
def cellsOf (enc : α → List Value) (xs : List α) : List Value := xs.flatMap enc
theorem cellsOf_length (hk : ∀ x, (enc x).length = k) (xs : List α) : (cellsOf enc xs).length = xs.length * k := by
  induction xs with
  | nil => simp [cellsOf]
  | cons x xs ih => simp only [cellsOf, List.flatMap_cons, List.length_append, hk, List.length_cons] at *; rw [ih, Nat.add_mul]; omega
theorem cellsOf_drop (hk : ∀ x, (enc x).length = k) (xs : List α) (i : Nat) : (cellsOf enc xs).drop (i * k) = cellsOf enc (xs.drop i) := by
  induction i generalizing xs with
  | zero => simp
  | succ i ih =>
    cases xs with
    | nil => simp [cellsOf]
    | cons x xs =>
      rw [List.drop_succ_cons, ← ih]
      simp only [cellsOf, List.flatMap_cons]
      have : (i + 1) * k = (enc x).length + i * k := by rw [hk, Nat.add_mul]; omega
      rw [this, List.drop_length_add_append]
theorem cellsOf_get (hk : ∀ x, (enc x).length = k) (xs : List α) (i : Nat) (x : α) (h : xs[i]? = some x) (j : Nat) (hj : j < k) : (cellsOf enc xs)[i * k + j]? = (enc x)[j]? := by
  rw [← List.getElem?_drop, cellsOf_drop hk]
  have hi := (List.getElem?_eq_some_iff.1 h).1
  rw [List.drop_eq_getElem_cons hi]
  have : xs[i] = x := (List.getElem?_eq_some_iff.1 h).2
  simp only [cellsOf, List.flatMap_cons, this]
  rw [List.getElem?_append_left (by rw [hk]; exact hj)]
theorem cellsOf_append (xs ys : List α) : cellsOf enc (xs ++ ys) = cellsOf enc xs ++ cellsOf enc ys := by simp [cellsOf]
theorem cellsOf_one (x : α) : cellsOf enc [x] = enc x := by simp [cellsOf]
def SlOf (k : Nat) (enc : α → List Value) (w : World) (v : Value) (xs : List α) : Prop := Sl k w v xs.length (cellsOf enc xs)
variable {w w' : World} {v : Value} {xs : List α}
theorem SlOf.elem (h : SlOf k enc w v xs) (hk : ∀ x, (enc x).length = k) (i : Nat) (x : α) (hx : xs[i]? = some x) :
    ∃ b off cap c et fr, v = .slice (some ⟨b, off, none⟩) xs.length cap ∧ w.heap[b]? = some (.cells c et fr) ∧ (∀ j, j < k → c.toList[off + i * k + j]? = (enc x)[j]?) ∧ (c.toList.drop (off + i * k)).take k = enc x := by
  have hi := (List.getElem?_eq_some_iff.1 hx).1
  obtain ⟨b, off, cap, c, et, fr, rfl, hb, hc⟩ := Sl.at_ h (by omega)
  have hik : ∀ j, j < k → i * k + j < xs.length * k := fun j hj => by
    have : (i + 1) * k ≤ xs.length * k := Nat.mul_le_mul_right k hi
    rw [Nat.add_mul] at this; omega
  have hg : ∀ j, j < k → c.toList[off + i * k + j]? = (enc x)[j]? := fun j hj => by
    rw [Nat.add_assoc, hc _ (hik j hj), cellsOf_get hk xs i x hx j hj]
  refine ⟨b, off, cap, c, et, fr, rfl, hb, hg, ?_⟩
  apply List.ext_getElem?
  intro j
  by_cases hj : j < k
  · rw [List.getElem?_take, if_pos hj, List.getElem?_drop, hg j hj]
  · rw [List.getElem?_take, if_neg hj, List.getElem?_eq_none (by rw [hk]; omega)]
end

section
variable {α : Type} {k : Nat} {enc : α → List Value} {w w' : World} {v : Value} {xs : List α}
theorem SlOf.read (h : SlOf k enc w v xs) (hk : ∀ x, (enc x).length = k) (i : Nat) (x : α) (hx : xs[i]? = some x) :
    ∃ b off cap o, v = .slice (some ⟨b, off, none⟩) xs.length cap ∧ w.heap[b]? = some o ∧ b < w.heap.size ∧ (∀ orig K, ldnV orig k (some o) (off + i * k) K = K (.agg (enc x).toArray)) ∧
      (∀ j y orig K, (enc x)[j]? = some y → ldV orig (some o) (off + i * k + j) K = K y) := by
  obtain ⟨b, off, cap, c, et, fr, rfl, hb, hg, hd⟩ := h.elem hk i x hx
  refine ⟨b, off, cap, _, rfl, hb, lt_of_get w b hb, fun orig K => ?_, fun j y orig K hj => ?_⟩
  · rw [ldnV_cells _ _ _ _ _ _ _ (by rw [hd, hk]), hd]
  · have hjk : j < k := by
      have := (List.getElem?_eq_some_iff.1 hj).1
      rw [hk] at this; exact this
    rw [ldV_cells, hg j hjk, hj, oV_some]
theorem SlOf.fr (h : SlOf k enc w v xs) {M : List Nat} (hf : Fr M w w') (hM : ∀ b ∈ M, offV v b) : SlOf k enc w' v xs := Sl.fr h hf hM
theorem SlOf.frN (h : SlOf k enc w v xs) (hf : Fr [] w w') : SlOf k enc w' v xs := Sl.frN h hf
theorem SlOf.form (h : SlOf k enc w v xs) : ∃ a c, v = .slice a xs.length c := Sl.form h
end
theorem Fr.keepN {a w : World} (h : Fr [] a w) (b : Nat) (hb : b < a.heap.size) : w.heap[b]? = a.heap[b]? := h.keep b hb (by simp)
theorem loop_intro {body : Env → World → (Env → World → Prop) → Prop} {e : Env} {w : World} (I : Env → World → Prop) (μ : Env → World → Nat) (h0 : I e w)
    (hr : ∀ e w k, I e w → (∀ e' w', I e' w' → μ e' w' < μ e w → k e' w') → body e w k) : LoopP body e w :=
  ⟨I, μ, h0, fun e w hI => hr e w _ hI fun e' w' h1 h2 => ⟨h1, h2⟩⟩
def numOf : Value → Int
  | .int _ n => n
  | _ => 0

/-! ### 3. What is built -/
def fillL (pl : List (Nat × Nat)) : List Value → List (Nat × Value) → Option (List Value)
  | cells, [] => some cells
  | cells, (i, v) :: rest => match pl[i]? with
    | none => none
    | some (off, size) => if v.cells.toList.length = size ∧ off + size ≤ cells.length then fillL pl (cells.take off ++ v.cells.toList ++ cells.drop (off + size)) rest else none
theorem foldl_set (off : Nat) : ∀ (vs : List Value) (j : Nat) (cells : List Value), off + j + vs.length ≤ cells.length →
    ((vs.zipIdx j).foldl (fun (cs : Array Value) (p : Value × Nat) => cs.setIfInBounds (off + p.2) p.1) cells.toArray) = (cells.take (off + j) ++ vs ++ cells.drop (off + j + vs.length)).toArray
  | [], j, cells, h => by simp
  | v :: vs, j, cells, h => by
    simp only [List.length_cons] at h
    simp only [List.zipIdx_cons, List.foldl_cons]
    have hs : cells.toArray.setIfInBounds (off + j) v = (cells.set (off + j) v).toArray := by simp
    rw [hs, foldl_set off vs (j + 1) _ (by simp; omega)]
    congr 1
    have h0 : off + j < cells.length := by omega
    rw [List.set_eq_take_append_cons_drop, if_pos h0]
    have ht : (cells.take (off + j)).length = off + j := by simp; omega
    have e1 : off + (j + 1) = (cells.take (off + j)).length + 1 := by rw [ht]; omega
    rw [e1, List.take_length_add_append]
    have e2 : (cells.take (off + j)).length + 1 + vs.length = (cells.take (off + j)).length + (vs.length + 1) := by omega
    rw [e2, List.drop_length_add_append, List.drop_succ_cons, List.drop_drop]
    have e4 : off + j + 1 + vs.length = off + j + (vs.length + 1) := by omega
    rw [e4]
    simp
theorem fill_eq (pl : List (Nat × Nat)) (place : Nat → Option (Nat × Nat)) (hp : ∀ i, place i = pl[i]?) : ∀ (parts : List (Nat × Value)) (cells : List Value),
    Instr.fill place cells.toArray parts = (fillL pl cells parts).map List.toArray
  | [], cells => by simp [Instr.fill, fillL]
  | (i, v) :: rest, cells => by
    unfold Instr.fill fillL
    rw [hp]
    cases hpl : pl[i]? with
    | none => rfl
    | some p =>
      obtain ⟨off, size⟩ := p
      simp only [List.size_toArray]
      by_cases h : v.cells.toList.length = size ∧ off + size ≤ cells.length
      · obtain ⟨h1, h2⟩ := h
        have h1' : v.cells.size = size := by simpa using h1
        have : ¬ (v.cells.size ≠ size ∨ off + v.cells.size > cells.length) := by omega
        simp only [h1, h2, and_self, if_true]
        have hcond : (decide (v.cells.size ≠ size) || decide (off + v.cells.size > cells.length)) = false := by simp; omega
        rw [if_neg (by simpa using this)]
        rw [← fill_eq pl place hp rest]
        congr 1
        have hz : v.cells.zipIdx.foldl (fun (cs : Array Value) (x : Value × Nat) => cs.setIfInBounds (off + x.2) x.1) cells.toArray = ((v.cells.toList.zipIdx 0).foldl (fun (cs : Array Value) (p : Value × Nat) => cs.setIfInBounds (off + p.2) p.1) cells.toArray) := by
          rw [← Array.foldl_toList, Array.toList_zipIdx]
        refine Eq.trans ?_ (hz.trans ?_)
        · rfl
        · rw [foldl_set off _ 0 cells (by simpa [h1'] using h2)]
          simp [h1']
      · rw [if_neg h, if_pos]
        · rfl
        · simp at h ⊢
          omega
section
variable {P : Program}
theorem run_build {t : TypeId} {fs : Array Field} {zs : List Value} {pl : List (Nat × Nat)} (hz : ∀ w, (zeroValue t).run P w = .ok (.agg zs.toArray) w) (hu : ∀ w, (underlying t).run P w = .ok (.struct fs) w)
    (hp : ∀ w, (fs.mapM fun (f : Field) => do pure (f.offset, ← sizeOf f.type)).run P w = .ok pl.toArray w) {parts : List (Nat × Value)} {cs : List Value} (hf : fillL pl zs parts = some cs) (w : World) :
    (Instr.build t parts.toArray).run P w = .ok (.agg cs.toArray) w := by
  simp only [Instr.build, Sem.run_bind, hz, Result.andThen_ok, hu, hp]
  have := fill_eq pl (fun i => pl.toArray[i]?) (fun i => by simp) parts zs
  simp only [Value.cells, this, hf, Option.map_some, Sem.run_pure]
theorem fill_rows (k : Nat) : ∀ (vs : List Value) (j : Nat) (pre post : List Value), (∀ v ∈ vs, v.cells.toList.length = k) → pre.length = j * k → post.length = vs.length * k →
    Instr.fill (fun i => some (i * k, k)) (pre ++ post).toArray ((vs.zipIdx j).map fun p => (p.2, p.1)) = some (pre ++ vs.flatMap fun v => v.cells.toList).toArray
  | [], j, pre, post, h, hp, hq => by
    obtain rfl : post = [] := List.eq_nil_of_length_eq_zero (by simpa using hq)
    simp [Instr.fill]
  | v :: vs, j, pre, post, h, hp, hq => by
    have hv : v.cells.toList.length = k := h v (by simp)
    have hv' : v.cells.size = k := by simpa using hv
    simp only [List.length_cons, Nat.add_mul, Nat.one_mul] at hq
    simp only [List.zipIdx_cons, List.map_cons, Instr.fill]
    rw [if_neg (by simp [hv']; omega)]
    have hz : v.cells.zipIdx.foldl (fun (cs : Array Value) (x : Value × Nat) => cs.setIfInBounds (j * k + x.2) x.1) (pre ++ post).toArray = ((v.cells.toList.zipIdx 0).foldl (fun (cs : Array Value) (p : Value × Nat) => cs.setIfInBounds (j * k + p.2) p.1) (pre ++ post).toArray) := by
      rw [← Array.foldl_toList, Array.toList_zipIdx]
    have e : (match ((v, j) : Value × Nat) with | (c, j) => (pre ++ post).toArray) = (pre ++ post).toArray := rfl
    refine Eq.trans (congrArg (fun a => Instr.fill (fun i => some (i * k, k)) a ((vs.zipIdx (j + 1)).map fun p => (p.2, p.1))) (hz.trans (foldl_set (j * k) v.cells.toList 0 (pre ++ post) (by simp [hv']; omega)))) ?_
    simp only [Nat.add_zero, hv]
    rw [List.take_append_of_le_length (by omega), List.take_of_length_le (by omega)]
    have hd : (pre ++ post).drop (j * k + k) = post.drop k := by
      rw [← hp, List.drop_length_add_append]
    rw [hd, fill_rows k vs (j + 1) (pre ++ v.cells.toList) (post.drop k) (fun u hu => h u (by simp [hu])) (by simp [hv', Nat.add_mul]; omega) (by simp; omega)]
    simp
theorem run_buildSlice {t e : TypeId} {z : Value} {k : Nat} (hu : ∀ w, (underlying t).run P w = .ok (.slice e) w) (hs : ∀ w, (sizeOf e).run P w = .ok k w) (hz : ∀ w, (zeroValue e).run P w = .ok z w) (hzk : z.cells.size = k) (hk : 0 < k)
    (vs : List Value) (hv : ∀ v ∈ vs, v.cells.toList.length = k) (hl : vs.length * k ≤ 2 ^ 24) (hn : 0 < vs.length) (w : World) :
    (Instr.buildSlice t vs.length ((vs.zipIdx 0).map fun p => (p.2, p.1)).toArray).run P w = .ok (.slice (some ⟨w.heap.size, 0, none⟩) vs.length vs.length) (w.alloc (.cells (vs.flatMap fun v => v.cells.toList).toArray e)) := by
  have h0 : ¬ vs.length * k > 2 ^ 24 := by omega
  have h1 : ¬ vs.length * k = 0 := by
    have : 0 < vs.length * k := Nat.mul_pos hn hk
    omega
  simp only [Instr.buildSlice, Sem.run_bind, hu, Result.andThen_ok, hs]
  rw [if_neg h0]
  simp only [h1, if_false, Sem.run_bind, hz, Result.andThen_ok, Sem.run_pure]
  have hf := fill_rows k vs 0 [] ((Array.range (vs.length * k)).map (fun i => z.cells[i % z.cells.size]!)).toList hv (by simp) (by simp)
  simp only [List.nil_append, Array.toArray_toList] at hf
  rw [hf]
  simp only [newRow, newObj, Sem.run_bind, Sem.run, Result.andThen_ok, Sem.run_pure]
  rfl

/-! ### 4. Slices that are owned: append -/
def Own (k : Nat) (e : TypeId) (w : World) (v : Value) (n : Nat) (cs : List Value) : Prop := w.ownsRow 0 e k v n cs
theorem Own.sl {k : Nat} {e : TypeId} {w : World} {v : Value} {n : Nat} {cs : List Value} (h : Own k e w v n cs) : Sl k w v n cs := by
  refine ⟨h.1, ?_⟩
  rcases h.2 with ⟨rfl, rfl⟩ | ⟨g, cap, cur, rfl, _, hg, _, _, _, ht⟩
  · exact .inl ⟨rfl, none, 0, rfl⟩
  · exact .inr ⟨g, 0, cap, cur, e, (0, 0), rfl, hg, by simpa using ht⟩
theorem Own.nil {k : Nat} {e : TypeId} {w : World} : Own k e w (.slice none 0 0) 0 [] := World.ownsRow_nil w 0 e k
theorem Own.keep {k : Nat} {e : TypeId} {w w' : World} {v : Value} {n : Nat} {cs : List Value} (h : Own k e w v n cs) (hk : ∀ b, v.ownBlock = some b → w'.heap[b]? = w.heap[b]?) : Own k e w' v n cs := by
  refine ⟨h.1, ?_⟩
  rcases h.2 with h0 | ⟨g, cap, cur, rfl, hb, hg, rest⟩
  · exact .inl h0
  · exact .inr ⟨g, cap, cur, rfl, hb, by rw [hk g rfl]; exact hg, rest⟩
theorem Own.lt {k : Nat} {e : TypeId} {w : World} {v : Value} {n : Nat} {cs : List Value} (h : Own k e w v n cs) {b : Nat} (hb : v.ownBlock = some b) : b < w.heap.size := by
  rcases h.2 with ⟨rfl, _⟩ | ⟨g, cap, cur, rfl, _, hg, _⟩
  · simp [Value.ownBlock] at hb
  · simp [Value.ownBlock] at hb; subst hb; exact lt_of_get w _ hg
theorem Own.fr {k : Nat} {e : TypeId} {w w' : World} {v : Value} {n : Nat} {cs : List Value} (h : Own k e w v n cs) {M : List Nat} (hf : Fr M w w') (hM : ∀ b ∈ M, v.ownBlock ≠ some b) : Own k e w' v n cs :=
  h.keep fun b hb => hf.keep b (h.lt hb) fun hm => hM b hm hb
theorem oneC' {v : Value} (h : oneC v = true) : v.oneCell' = true := by cases v <;> first | rfl | cases h
def blkL (v : Value) : List Nat := match v.ownBlock with
  | some b => [b]
  | none => []
theorem run_append {t ty e : TypeId} {i : TypeInfo} {z : Value} {k bytes : Nat} (ht : P.underlying t = some (.slice e)) (hi : P.info? e = some i) (hz : i.zero = some z) (hsize : i.size = k) (hby : i.bytes = bytes)
    (hzs : z.cells.size = k) (hk : 0 < k) {w : World} {v x : Value} {n m : Nat} {cs ds : List Value} (h : Own k e w v n cs) (hx : Sl k w x m ds) (h1 : ds.all oneC = true) (hlen : (n + m) * bytes ≤ 140737488355328) (hb0 : 0 < bytes) :
    ∃ v' w', (Builtin.append_ #[t, t] ty #[v, x]).run P w = .ok v' w' ∧ Own k e w' v' (n + m) (cs ++ ds) ∧ Fr (blkL v) w w' ∧ (v'.ownBlock = v.ownBlock ∨ ∃ b, v'.ownBlock = some b ∧ w.heap.size ≤ b) := by
  have hnm : n + m ≤ maxLen := by
    have : n + m ≤ (n + m) * bytes := Nat.le_mul_of_pos_right _ hb0
    simp only [maxLen]; omega
  have hfr : ∀ {w' : World}, w.grownBy w' v.ownBlock → Fr (blkL v) w w' := fun hg => ⟨hg.os, hg.tape, hg.output, hg.size, fun b hb hn => hg.block b hb fun e => hn (by simp [blkL, ← e])⟩
  obtain ⟨a, c, rfl⟩ := hx.form
  cases a with
  | some a =>
    have hcells : ∀ j u, ds[j]? = some u → w.cell? (a.add j) = some u := by
      intro j u hu
      have hj := (List.getElem?_eq_some_iff.1 hu).1
      rw [hx.1] at hj
      have hm : 0 < m := by
        rcases Nat.eq_zero_or_pos m with h | h
        · subst h; simp at hj
        · exact h
      obtain ⟨b, off, cap, c', et, fr, he, hb, hc⟩ := hx.at_ hm
      simp only [Value.slice.injEq, Option.some.injEq] at he
      obtain ⟨rfl, _, rfl⟩ := he
      rw [add_at]
      simp only [World.cell?, hb]
      have := hc j hj
      rw [hu] at this
      simpa using this
    obtain ⟨v', w', hr, ho, hg, _, hat⟩ := run_append_own_at (P := P) w 0 t ty e i z k bytes ht hi hz hsize hby hzs hk v n cs h a m c ds hx.1 hcells (fun u hu => oneC' (List.all_eq_true.1 h1 u hu)) hnm hlen (Nat.zero_le _)
    exact ⟨v', w', hr, ho, hfr hg, hat.imp id fun h => ⟨_, h, Nat.le_refl _⟩⟩
  | none =>
    have hm : m = 0 := by
      rcases hx.2 with ⟨h, _⟩ | ⟨b, off, cap, c', et, fr, he, _⟩
      · exact h
      · cases he
    subst hm
    obtain rfl : ds = [] := List.eq_nil_of_length_eq_zero (by simpa using hx.1)
    refine ⟨v, w, ?_, by simpa using h, Fr.refl _ _, .inl rfl⟩
    rcases h.2 with ⟨rfl, rfl⟩ | ⟨g, cap, cur, rfl, _, _, hnc, _⟩
    · simp [Builtin.append_, run_underlying ht, sizeOf, typeInfo, hi, Builtin.lenOf, Builtin.firstCells]
    · simp [Builtin.append_, run_underlying ht, sizeOf, typeInfo, hi, Builtin.lenOf, Builtin.firstCells, hnc, storeCells]
/-! ### 5. Cuts -/
theorem run_cut_low {t e : TypeId} {k : Nat} (hu : ∀ w, (underlying t).run P w = .ok (.slice e) w) (hs : ∀ w, (sizeOf e).run P w = .ok k w) {w : World} {v : Value} {n : Nat} {cs : List Value} (h : Sl k w v n cs)
    (hcap : ∀ a m c, v = .slice a m c → m ≤ c) (q : IntKind) (l : Nat) (hl : l ≤ n) :
    ∃ v', (Instr.sliceAt t v (some (.int q l)) none none).run P w = .ok v' w ∧ Sl k w v' (n - l) (cs.drop (l * k)) ∧ (∀ a m c, v' = .slice a m c → m ≤ c) ∧ (∀ b, offV v b → offV v' b) := by
  obtain ⟨a, c, rfl⟩ := h.form
  have hnc := hcap a n c rfl
  have hrun : (Instr.sliceAt t (.slice a n c) (some (.int q l)) none none).run P w = .ok (.slice (if c = l then a else a.map (·.add (l * k))) (n - l) (c - l)) w := by
    have hl' : 0 ≤ (l : Int) ∧ (l : Int) ≤ n := by omega
    simp [Instr.sliceAt, Sem.run_bind, hu, Instr.slice, Instr.sliceBounds, Instr.sliceBound, asIntOf, hl, hs]
  refine ⟨_, hrun, ⟨?_, ?_⟩, ?_, ?_⟩
  · rw [List.length_drop, h.1, Nat.sub_mul]
  · rcases h.2 with ⟨rfl, a', c', he⟩ | ⟨b, off, cap, c', et, fr, he, hb, hc⟩
    · exact .inl ⟨by omega, _, _, by rw [show 0 - l = 0 by omega]⟩
    · simp only [Value.slice.injEq] at he
      obtain ⟨rfl, _, rfl⟩ := he
      by_cases hcl : c = l
      · have : n = l := by omega
        exact .inl ⟨by omega, _, _, by rw [show n - l = 0 by omega]⟩
      · refine .inr ⟨b, off + l * k, c - l, c', et, fr, by simp [hcl, add_at], hb, ?_⟩
        rw [← hc, List.drop_take, List.drop_drop, Nat.sub_mul]
  · intro a' m c' he
    simp only [Value.slice.injEq] at he
    omega
  · intro b ho a' m c' he
    simp only [Value.slice.injEq] at he
    obtain ⟨he, _⟩ := he
    split at he
    · subst he; exact ho a' n c rfl
    · cases a with
      | none => cases he
      | some a0 =>
        simp only [Option.map_some, Option.some.injEq] at he
        subst he
        have := ho a0 n c rfl
        unfold Addr.add
        split <;> exact this
end
end
end Go.VW
