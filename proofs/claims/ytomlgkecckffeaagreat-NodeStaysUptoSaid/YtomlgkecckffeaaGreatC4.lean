/- The generic engine, part 4: what one operation does (loads, stores, new blocks, fields, indexes, arithmetic, comparisons), as equations. -/
import Derived.Test.YtomlgkecckffeaaGreatC3
set_option linter.unusedVariables false
set_option linter.unusedSimpArgs false
namespace Go.VW
noncomputable section
variable {P : Program} {w : World} {K : Value → World → Prop}

/-! ### 1. Places of memory -/
def oneC : Value → Bool
  | .agg _ => false
  | .tuple _ => false
  | _ => true
def ldO (P : Program) (t : TypeId) (b i : Nat) (w : World) (K : Value → World → Prop) : Prop := vR ((Instr.loadAt t (.pointer (some ⟨b, i, none⟩))).run P w) K
def stO (P : Program) (t : TypeId) (b i : Nat) (v : Value) (w : World) (K : Value → World → Prop) : Prop := uR ((Instr.storeAt t (.pointer (some ⟨b, i, none⟩)) v).run P w) K
def fdO (P : Program) (t : TypeId) (cs : List Value) (j : Nat) (w : World) (K : Value → World → Prop) : Prop := vR ((Instr.field t (.agg cs.toArray) j).run P w) K
def ixO (P : Program) (t : TypeId) (b o len cap : Nat) (k : IntKind) (i : Int) (w : World) (K : Value → World → Prop) : Prop := vR ((Instr.indexAt t (.slice (some ⟨b, o, none⟩) len cap) (.int k i)).run P w) K
def exO (P : Program) (vs : List Value) (i : Nat) (w : World) (K : Value → World → Prop) : Prop := vR ((Instr.extract (.tuple vs.toArray) i).run P w) K
def oV (orig : Prop) (o : Option Value) (k : Value → Prop) : Prop := match o with
  | some v => k v
  | none => orig
def ldV (orig : Prop) (o : Option Obj) (i : Nat) (k : Value → Prop) : Prop := match o with
  | some (.cells c _ _) => oV orig c.toList[i]? k
  | _ => orig
def ldnV (orig : Prop) (n : Nat) (o : Option Obj) (i : Nat) (k : Value → Prop) : Prop := match o with
  | some (.cells c _ _) => if ((c.toList.drop i).take n).length = n then k (.agg ((c.toList.drop i).take n).toArray) else orig
  | _ => orig
def stV (orig : Prop) (n : Nat) (o : Option Obj) (i : Nat) (vs : List Value) (k : Obj → Prop) : Prop := match o with
  | some (.cells c t fr) => if vs.length = n ∧ fr = (0, 0) ∧ i + vs.length ≤ c.toList.length ∧ vs.all oneC = true then k (.cells (c.toList.take i ++ vs ++ c.toList.drop (i + vs.length)).toArray t (0, 0)) else orig
  | _ => orig
def ifV (orig : Prop) (c : Prop) (k : Prop) : Prop := (c → k) ∧ (¬ c → orig)
theorem oV_congr {orig : Prop} {o o' : Option Value} {k : Value → Prop} (h : o = o') : oV orig o k = oV orig o' k := by rw [h]
theorem ldV_congr {orig : Prop} {o o' : Option Obj} {i i' : Nat} {k : Value → Prop} (h : o = o') (hi : i = i') : ldV orig o i k = ldV orig o' i' k := by rw [h, hi]
theorem ldnV_congr {orig : Prop} {n : Nat} {o o' : Option Obj} {i i' : Nat} {k : Value → Prop} (h : o = o') (hi : i = i') : ldnV orig n o i k = ldnV orig n o' i' k := by rw [h, hi]
theorem stV_congr {orig : Prop} {n : Nat} {o o' : Option Obj} {i i' : Nat} {vs vs' : List Value} {k : Obj → Prop} (h : o = o') (hi : i = i') (hv : vs = vs') : stV orig n o i vs k = stV orig n o' i' vs' k := by rw [h, hi, hv]
theorem ifV_congr {orig c c' k : Prop} (h : c = c') : ifV orig c k = ifV orig c' k := by rw [h]
attribute [congr] oV_congr ldV_congr ldnV_congr stV_congr ifV_congr
theorem oV_some (orig : Prop) (v : Value) (k : Value → Prop) : oV orig (some v) k = k v := nr rfl
theorem ldV_cells (orig : Prop) (c : Array Value) (t : TypeId) (fr : Nat × Nat) (i : Nat) (k : Value → Prop) : ldV orig (some (.cells c t fr)) i k = oV orig c.toList[i]? k := nr rfl
theorem ldnV_cells (orig : Prop) (n : Nat) (c : Array Value) (t : TypeId) (fr : Nat × Nat) (i : Nat) (k : Value → Prop) (h : ((c.toList.drop i).take n).length = n) :
    ldnV orig n (some (.cells c t fr)) i k = k (.agg ((c.toList.drop i).take n).toArray) := by simp only [ldnV, h, if_true]
theorem stV_cells (orig : Prop) (n : Nat) (c : Array Value) (t : TypeId) (i : Nat) (vs : List Value) (k : Obj → Prop) (hn : vs.length = n) (h : i + vs.length ≤ c.toList.length) (h1 : vs.all oneC = true) :
    stV orig n (some (.cells c t (0, 0))) i vs k = k (.cells (c.toList.take i ++ vs ++ c.toList.drop (i + vs.length)).toArray t (0, 0)) := by unfold stV; exact if_pos ⟨hn, rfl, h, h1⟩
theorem ifV_T {orig k : Prop} : ifV orig True k = k := by simp [ifV]
theorem add_at (b o n : Nat) : Addr.add ⟨b, o, none⟩ n = ⟨b, o + n, none⟩ := by
  unfold Addr.add
  split
  · subst_vars; rfl
  · rfl
theorem run_load1 {b i : Nat} {c : Array Value} {t : TypeId} {fr : Nat × Nat} {v : Value} (hb : w.heap[b]? = some (.cells c t fr)) (hv : c.toList[i]? = some v) : (load ⟨b, i, none⟩).run P w = .ok v w := by
  have hc : w.cell? ⟨b, i, none⟩ = some v := by simp [World.cell?, hb]; simpa using hv
  simp only [load, Sem.run, hc]
theorem run_loadFrom {b i : Nat} {c : Array Value} {t : TypeId} {fr : Nat × Nat} (hb : w.heap[b]? = some (.cells c t fr)) :
    ∀ (n j : Nat) (acc : Array Value), ((c.toList.drop (i + j)).take n).length = n → (loadCellsFrom ⟨b, i, none⟩ j n acc).run P w = .ok (acc ++ ((c.toList.drop (i + j)).take n).toArray) w
  | 0, j, acc, _ => by simp [loadCellsFrom]
  | n + 1, j, acc, h => by
    cases hd : c.toList.drop (i + j) with
    | nil => simp [hd] at h
    | cons v l =>
      have hv : c.toList[i + j]? = some v := by
        have := congrArg (fun l => l[0]?) hd
        simpa [List.getElem?_drop] using this
      have hl : c.toList.drop (i + (j + 1)) = l := by
        have : c.toList.drop (i + j + 1) = (c.toList.drop (i + j)).drop 1 := by rw [List.drop_drop]
        rw [← Nat.add_assoc, this, hd]; rfl
      unfold loadCellsFrom
      simp only [Sem.run_bind, add_at, run_load1 hb hv, Result.andThen_ok]
      rw [run_loadFrom hb n (j + 1) _ (by rw [hl]; simpa [hd] using h), hl]
      congr 1
      apply Array.ext'
      simp
theorem run_loadAt1 {t : TypeId} (ha : ∀ w, (isAgg t).run P w = .ok false w) (b i : Nat) (w : World) (K : Value → World → Prop) :
    vR ((Instr.loadAt t (.pointer (some ⟨b, i, none⟩))).run P w) K = ldV (ldO P t b i w K) w.heap[b]? i (fun v => K v w) := by
  unfold ldV
  split
  · rename_i c et fr hb
    unfold oV
    split
    · rename_i v hv
      have : (Instr.loadAt t (.pointer (some ⟨b, i, none⟩))).run P w = .ok v w := by
        simp only [Instr.loadAt, Instr.sureAddr, sem_pure_bind, loadVar, Sem.run_bind, ha, Result.andThen_ok, Bool.false_eq_true, if_false, run_load1 hb hv]
      rw [this]; rfl
    · rfl
  · rfl
theorem run_loadAtN {t : TypeId} {n : Nat} (ha : ∀ w, (isAgg t).run P w = .ok true w) (hs : ∀ w, (sizeOf t).run P w = .ok n w) (b i : Nat) (w : World) (K : Value → World → Prop) :
    vR ((Instr.loadAt t (.pointer (some ⟨b, i, none⟩))).run P w) K = ldnV (ldO P t b i w K) n w.heap[b]? i (fun v => K v w) := by
  unfold ldnV
  split
  · rename_i c et fr hb
    split
    · rename_i hl
      have : (Instr.loadAt t (.pointer (some ⟨b, i, none⟩))).run P w = .ok (.agg ((c.toList.drop i).take n).toArray) w := by
        simp only [Instr.loadAt, Instr.sureAddr, sem_pure_bind, loadVar, Sem.run_bind, ha, Result.andThen_ok, if_true, hs, loadCells]
        rw [run_loadFrom hb n 0 _ (by simpa using hl)]
        simp
      rw [this]; rfl
    · rfl
  · rfl
theorem run_store1 {b i : Nat} {c : Array Value} {t : TypeId} {v : Value} (hb : w.heap[b]? = some (.cells c t (0, 0))) (hi : i < c.toList.length) (hv : oneC v = true) :
    (store ⟨b, i, none⟩ v).run P w = .ok () (w.setB b (.cells (c.toList.set i v).toArray t (0, 0))) := by
  have hi' : i < c.size := by simpa using hi
  have hc : w.cell? ⟨b, i, none⟩ = some c[i] := by simp [World.cell?, hb, hi']
  have hf : w.frozen? ⟨b, i, none⟩ = false := by simp [World.frozen?, hb]
  have hs : w.setCell ⟨b, i, none⟩ v = w.setB b (.cells (c.toList.set i v).toArray t (0, 0)) := by
    have hlt := lt_of_get w b hb
    unfold World.setCell World.setB
    congr 1
    apply Array.ext
    · simp
    · intro j h1 h2
      have hg : w.heap[b] = .cells c t (0, 0) := by
        rw [Array.getElem?_eq_getElem hlt] at hb; exact Option.some.inj hb
      have h3 : j < w.heap.size := by simpa using h2
      rw [Array.getElem_modify, Array.getElem_setIfInBounds (hj := h3)]
      by_cases hj : b = j
      · subst hj
        simp only [if_true, hg, Option.isSome_none, Bool.false_eq_true, if_false]
        congr 1
        apply Array.ext'
        simp
      · simp [hj]
  cases v <;> first | (cases hv; done) | (simp only [store, Sem.run, hc, hf, hs]; rfl)
theorem setB_setB (w : World) (b : Nat) (o o' : Obj) : (w.setB b o).setB b o' = w.setB b o' := by
  unfold World.setB
  simp
theorem run_storeFrom {b : Nat} {t : TypeId} : ∀ (vs : List Value) (w : World) (i j : Nat) (c : Array Value), w.heap[b]? = some (.cells c t (0, 0)) → i + j + vs.length ≤ c.toList.length → vs.all oneC = true →
    (storeCells ⟨b, i, none⟩ vs j).run P w = .ok () (match vs with | [] => w | _ => w.setB b (.cells (c.toList.take (i + j) ++ vs ++ c.toList.drop (i + j + vs.length)).toArray t (0, 0)))
  | [], w, i, j, c, hb, hl, h1 => by simp [storeCells]
  | v :: vs, w, i, j, c, hb, hl, h1 => by
    simp only [List.all_cons, Bool.and_eq_true] at h1
    simp only [List.length_cons] at hl
    unfold storeCells
    have hlt := lt_of_get w b hb
    simp only [Sem.run_bind, add_at, run_store1 hb (show i + j < c.toList.length by omega) h1.1, Result.andThen_ok]
    have hb' := get_setB_same w b (.cells (c.toList.set (i + j) v).toArray t (0, 0)) hlt
    rw [run_storeFrom vs _ i (j + 1) _ hb' (by simp; simp at hl; omega) h1.2]
    congr 1
    cases vs with
    | nil =>
      simp only
      congr 1
      congr 1
      have : i + j < c.toList.length := by omega
      rw [List.set_eq_take_append_cons_drop, if_pos this]
      simp
    | cons u us =>
      simp only
      unfold World.setB
      simp only [Array.setIfInBounds_setIfInBounds]
      congr 3
      have h0 : i + j < c.toList.length := by omega
      rw [List.set_eq_take_append_cons_drop, if_pos h0]
      have ht : (c.toList.take (i + j)).length = i + j := by simp; simp at h0; omega
      have e1 : i + (j + 1) = (c.toList.take (i + j)).length + 1 := by rw [ht]; omega
      rw [e1]
      rw [List.take_length_add_append]
      have e2 : (c.toList.take (i + j)).length + 1 + (u :: us).length = (c.toList.take (i + j)).length + (1 + (u :: us).length) := by omega
      rw [e2, List.drop_length_add_append]
      simp only [List.take_succ_cons, List.take_zero, List.length_cons]
      have e3 : 1 + (us.length + 1) = (us.length + 1) + 1 := by omega
      rw [e3, List.drop_succ_cons, List.drop_drop]
      have e4 : i + j + 1 + (us.length + 1) = i + j + (us.length + 1 + 1) := by omega
      rw [e4]
      simp
theorem run_storeAt {t : TypeId} {n : Nat} (hs : ∀ w, (sizeOf t).run P w = .ok n w) (hn : 0 < n) (b i : Nat) (v : Value) (w : World) (K : Value → World → Prop) :
    uR ((Instr.storeAt t (.pointer (some ⟨b, i, none⟩)) v).run P w) K = stV (stO P t b i v w K) n w.heap[b]? i v.cells.toList (fun o => K undef (w.setB b o)) := by
  unfold stV
  split
  · rename_i c et fr hb
    split
    · rename_i h
      obtain ⟨hv, rfl, h2, h3⟩ := h
      have : (Instr.storeAt t (.pointer (some ⟨b, i, none⟩)) v).run P w = .ok () (w.setB b (.cells (c.toList.take i ++ v.cells.toList ++ c.toList.drop (i + v.cells.toList.length)).toArray et (0, 0))) := by
        have hsz : ¬ v.cells.size ≠ n := by simpa using hv
        simp only [Instr.storeAt, Instr.sureAddr, sem_pure_bind, storeVar, Sem.run_bind, hs, Result.andThen_ok]
        rw [if_neg hsz]
        rw [run_storeFrom v.cells.toList w i 0 c hb (by simpa using h2) h3]
        have hne : v.cells.toList ≠ [] := fun e => by rw [e] at hv; simp at hv; omega
        cases hc : v.cells.toList with
        | nil => exact absurd hc hne
        | cons x xs => simp
      rw [this]; rfl
    · rfl
  · rfl

theorem push_set (h : Array Obj) (o o' : Obj) : (h.push o).setIfInBounds h.size o' = h.push o' := by
  apply Array.ext_getElem?
  intro i
  rw [Array.getElem?_setIfInBounds, Array.getElem?_push, Array.getElem?_push]
  by_cases hi : h.size = i
  · subst hi; simp
  · have : ¬ i = h.size := fun e => hi e.symm
    simp [hi, this]
theorem setB_alloc (w : World) (o o' : Obj) : (w.alloc o).setB w.heap.size o' = w.alloc o' := by
  show ({ w with heap := (w.heap.push o).setIfInBounds w.heap.size o' } : World) = { w with heap := w.heap.push o' }
  rw [push_set]

/-! ### 2. New blocks -/
theorem run_newVar (t : TypeId) (v : Value) (w : World) : (newVar t v).run P w = .ok ⟨w.heap.size, 0, none⟩ (w.alloc (.cells v.cells t)) := by
  simp only [newVar, newRow, newObj, Sem.run_bind, Sem.run, Result.andThen_ok, Sem.run_pure]
  rfl
theorem run_alloc {t : TypeId} {z : Value} (hz : ∀ w, (zeroValue t).run P w = .ok z w) (x : Value) (w : World) :
    (Instr.alloc t true x).run P w = .ok (.pointer (some ⟨w.heap.size, 0, none⟩)) (w.alloc (.cells z.cells t)) := by
  simp only [Instr.alloc, Sem.run_bind, hz, Result.andThen_ok, run_newVar, Sem.run_pure]
theorem run_box (t : TypeId) (v : Value) (w : World) : (Instr.box t v).run P w = .ok (.pointer (some ⟨w.heap.size, 0, none⟩)) (w.alloc (.cells v.cells t)) := by
  simp only [Instr.box, Sem.run_bind, Result.andThen_ok, run_newVar, Sem.run_pure]

/-! ### 3. Fields, indexes -/
theorem run_fieldAt {s : TypeId} {fs : Array Field} {j : Nat} {f : Field} {n : Nat} (hu : ∀ w, (underlying s).run P w = .ok (.struct fs) w) (hf : fs[j]? = some f)
    (hs : ∀ w, (sizeOf f.type).run P w = .ok n w) (hn : 0 < n) (b i : Nat) (w : World) : (Instr.fieldAt s (.pointer (some ⟨b, i, none⟩)) j).run P w = .ok (.pointer (some ⟨b, i + f.offset, none⟩)) w := by
  have : ¬ n = 0 := by omega
  simp only [Instr.fieldAt, Sem.run_bind, hu, Result.andThen_ok, hf, Instr.sureAddr, sem_pure_bind, fieldPlace, hs, Sem.run_pure, add_at]
  rw [if_neg this]
  simp [add_at]
theorem run_field1 {s : TypeId} {fs : Array Field} {j : Nat} {f : Field} (hu : ∀ w, (underlying s).run P w = .ok (.struct fs) w) (hf : fs[j]? = some f)
    (ha : ∀ w, (isAgg f.type).run P w = .ok false w) (cs : List Value) (w : World) (K : Value → World → Prop) :
    vR ((Instr.field s (.agg cs.toArray) j).run P w) K = oV (fdO P s cs j w K) cs[f.offset]? (fun v => K v w) := by
  unfold oV
  split
  · rename_i v hv
    have : (Instr.field s (.agg cs.toArray) j).run P w = .ok v w := by
      simp only [Instr.field, Sem.run_bind, hu, Result.andThen_ok, hf, asAgg, sem_pure_bind, part, ha, Bool.false_eq_true, if_false, List.getElem?_toArray, hv, Sem.run_pure]
    rw [this]; rfl
  · rfl
theorem run_fieldN {s : TypeId} {fs : Array Field} {j : Nat} {f : Field} {n : Nat} (hu : ∀ w, (underlying s).run P w = .ok (.struct fs) w) (hf : fs[j]? = some f)
    (ha : ∀ w, (isAgg f.type).run P w = .ok true w) (hs : ∀ w, (sizeOf f.type).run P w = .ok n w) (cs : List Value) (w : World) :
    (Instr.field s (.agg cs.toArray) j).run P w = .ok (.agg ((cs.drop f.offset).take n).toArray) w := by
  simp only [Instr.field, Sem.run_bind, hu, Result.andThen_ok, hf, asAgg, sem_pure_bind, part, ha, if_true, hs, Sem.run_pure]
  congr 2
  apply Array.ext'
  simp [List.extract_eq_take_drop]
theorem run_indexAt {t e : TypeId} {n : Nat} (hu : ∀ w, (underlying t).run P w = .ok (.slice e) w) (hs : ∀ w, (sizeOf e).run P w = .ok n w) (b o len cap : Nat) (k : IntKind) (i : Int) (w : World) (K : Value → World → Prop) :
    vR ((Instr.indexAt t (.slice (some ⟨b, o, none⟩) len cap) (.int k i)).run P w) K =
      ifV (ixO P t b o len cap k i w K) (0 ≤ i ∧ i < len) (K (.pointer (some ⟨b, o + i.toNat * n, none⟩)) w) := by
  unfold ifV
  by_cases h : 0 ≤ i ∧ i < len
  · have : (Instr.indexAt t (.slice (some ⟨b, o, none⟩) len cap) (.int k i)).run P w = .ok (.pointer (some ⟨b, o + i.toNat * n, none⟩)) w := by
      simp only [Instr.indexAt, asIntOf, sem_pure_bind, Sem.run_bind, hu, Result.andThen_ok]
      simp [h, hu, hs, add_at, Sem.run_bind]
    rw [this]
    simp [h, vR]
  · simp [h, ixO]

/-! ### 4. Small operations -/
theorem run_extract (vs : List Value) (i : Nat) (w : World) (K : Value → World → Prop) :
    vR ((Instr.extract (.tuple vs.toArray) i).run P w) K = oV (exO P vs i w K) vs[i]? (fun v => K v w) := by
  unfold oV
  split
  · rename_i v hv
    have : (Instr.extract (.tuple vs.toArray) i).run P w = .ok v w := by simp [Instr.extract, hv]
    rw [this]; rfl
  · rfl
theorem run_makeFunc (fn : Fn) (a c : Array Value) (w : World) : (Instr.makeFunc fn a c).run P w = .ok (.func fn a c) w := rfl
theorem run_len_slice' {t e : TypeId} (hu : ∀ w, (underlying t).run P w = .ok (.slice e) w) (ty : TypeId) (a : Option Addr) (n c : Nat) (w : World) :
    (Builtin.len_ #[t] ty #[.slice a n c]).run P w = .ok (.int .i64 n) w := by
  simp [Builtin.len_, Sem.run_bind, hu, goInt]
theorem run_len_string' {t : TypeId} (hu : ∀ w, (underlying t).run P w = .ok .string w) (ty : TypeId) (s : ByteArray) (w : World) :
    (Builtin.len_ #[t] ty #[.string s]).run P w = .ok (.int .i64 s.size) w := by
  simp [Builtin.len_, Sem.run_bind, hu, goInt]
theorem run_min2 (tys : Array TypeId) (ty : TypeId) (k k' : IntKind) (x y : Int) (w : World) :
    (Builtin.min_ tys ty #[.int k x, .int k' y]).run P w = .ok (.int k (min x y)) w := by
  simp only [Builtin.min_, List.foldlM_cons, List.foldlM_nil, Builtin.min2, sem_pure_bind, Sem.run_pure]
  congr 2
  omega
theorem run_max2 (tys : Array TypeId) (ty : TypeId) (k k' : IntKind) (x y : Int) (w : World) :
    (Builtin.max_ tys ty #[.int k x, .int k' y]).run P w = .ok (.int k (max x y)) w := by
  simp only [Builtin.max_, List.foldlM_cons, List.foldlM_nil, Builtin.max2, sem_pure_bind, Sem.run_pure]
  congr 2
  omega
def xpick (c a b : Value) : Sem Next := do pure (.value (if ← asBool c then a else b))
theorem nx_pick (b : Bool) (x y : Value) (w : World) (K : Value → World → Prop) : nx P (xpick (.bool b) x y) w K = K (if b = true then x else y) w := nr (by
  simp only [xpick, asBool, sem_pure_bind]; rfl)
def xnil (x : Value) : Sem Next := execOp (fun _ => x) { dst := none, op := .nilCheck (.tmp 0), type := 0, pos := "", after := #[], guard := none }
theorem nx_nil_ptr (a : Addr) (w : World) (K : Value → World → Prop) : nx P (xnil (.pointer (some a))) w K = K (.pointer (some a)) w := nr rfl
theorem nx_nil_func (f : FuncId) (x c : Array Value) (w : World) (K : Value → World → Prop) : nx P (xnil (.func (.func f) x c)) w K = K (.func (.func f) x c) w := nr rfl
theorem run_not (b : Bool) (w : World) : (Op.unary .not (.bool b)).run P w = .ok (.bool !b) w := rfl
/-! ### 5. Operators -/
theorem wrap64 {a : Int} (h1 : -9223372036854775808 ≤ a) (h2 : a ≤ 9223372036854775807) : IntKind.i64.wrap a = a := by
  have e1 : (2 : Int) ^ IntKind.i64.bits = 18446744073709551616 := by decide
  have e2 : (2 : Int) ^ (IntKind.i64.bits - 1) = 9223372036854775808 := by decide
  simp only [IntKind.wrap, e1, e2, IntKind.signed, Bool.true_and, decide_eq_true_eq]
  split <;> omega
def xbin (op : BinOp) (t : TypeId) (x y : Operand) (a b : Value) : Sem Value := do
  eqGuard op t x y a b
  binOp op t a b
section
variable (t : TypeId) (x y : Operand) (k : IntKind) (a b : Int) (w : World)
theorem run_add : (xbin .add t x y (.int k a) (.int k b)).run P w = .ok (.int k (k.wrap (a + b))) w := by simp [xbin, go_sem, Op.intArith]
theorem run_sub : (xbin .sub t x y (.int k a) (.int k b)).run P w = .ok (.int k (k.wrap (a - b))) w := by simp [xbin, go_sem, Op.intArith]
theorem run_mul : (xbin .mul t x y (.int k a) (.int k b)).run P w = .ok (.int k (k.wrap (a * b))) w := by simp [xbin, go_sem, Op.intArith]
theorem run_rem (h : b ≠ 0) : (xbin .rem t x y (.int k a) (.int k b)).run P w = .ok (.int k (a.tmod b)) w := by simp [xbin, go_sem, Op.intDiv, h]
theorem run_eqi : (xbin .eql t x y (.int k a) (.int k b)).run P w = .ok (.bool (decide (a = b))) w := by
  simp only [xbin, eqGuard_at_int, sem_pure_bind, binOp_eql, Sem.run_pure]; rfl
theorem run_nei : (xbin .neq t x y (.int k a) (.int k b)).run P w = .ok (.bool (!decide (a = b))) w := by
  simp only [xbin, eqGuard_at_int, sem_pure_bind, binOp_neq, Sem.run_pure]; rfl
theorem run_lti : (xbin .lss t x y (.int k a) (.int k b)).run P w = .ok (.bool (decide (a < b))) w := by simp [xbin, go_sem]
theorem run_lei : (xbin .leq t x y (.int k a) (.int k b)).run P w = .ok (.bool (decide (a ≤ b))) w := by simp [xbin, go_sem]
theorem run_gti : (xbin .gtr t x y (.int k a) (.int k b)).run P w = .ok (.bool (decide (b < a))) w := by simp [xbin, go_sem]
theorem run_gei : (xbin .geq t x y (.int k a) (.int k b)).run P w = .ok (.bool (decide (b ≤ a))) w := by simp [xbin, go_sem]
end
theorem toList_inj {x y : ByteArray} (h : x.toList = y.toList) : x = y := by
  have : x.data.toList = y.data.toList := by simpa [ByteArray.toList_eq] using h
  cases x; cases y; simp at this; simp [this]
theorem beq_toList (x y : ByteArray) : (x.toList == y.toList) = decide (x = y) := by
  by_cases h : x = y
  · subst h; simp
  · have : ¬ x.toList = y.toList := fun e => h (toList_inj e)
    simp [h, this]
section
variable (t : TypeId) (x y : Operand) (a b : ByteArray) (w : World)
theorem run_eqs : (xbin .eql t x y (.string a) (.string b)).run P w = .ok (.bool (decide (a = b))) w := by
  simp only [xbin, eqGuard_at_string, sem_pure_bind, binOp, Op.stringOp, Sem.run_pure, beq_toList]
theorem run_nes : (xbin .neq t x y (.string a) (.string b)).run P w = .ok (.bool (!decide (a = b))) w := by
  simp only [xbin, eqGuard_at_string, sem_pure_bind, binOp, Op.stringOp, Sem.run_pure, beq_toList]
theorem run_lts : (xbin .lss t x y (.string a) (.string b)).run P w = .ok (.bool (Op.bytesLess a.toList b.toList)) w := by
  simp only [xbin, eqGuard_at_string, sem_pure_bind, binOp, Op.stringOp, Sem.run_pure]
end
theorem run_eql_of {t : TypeId} {a b : Value} {r : Bool} (h1 : binOp .eql t a b = (do pure (.bool (← Op.equal t a b)))) (h2 : (Op.equal t a b).run P w = .ok r w) : (binOp .eql t a b).run P w = .ok (.bool r) w := by
  rw [h1]; simp only [Sem.run_bind, h2, Result.andThen_ok, Sem.run_pure]
theorem run_neq_of {t : TypeId} {a b : Value} {r : Bool} (h1 : binOp .neq t a b = (do pure (.bool (!(← Op.equal t a b))))) (h2 : (Op.equal t a b).run P w = .ok r w) : (binOp .neq t a b).run P w = .ok (.bool !r) w := by
  rw [h1]; simp only [Sem.run_bind, h2, Result.andThen_ok, Sem.run_pure]
theorem equal_b {t : TypeId} (hu : ∀ w, (underlying t).run P w = .ok .bool w) (a b : Bool) (w : World) : (Op.equal t (.bool a) (.bool b)).run P w = .ok (a == b) w := by
  unfold Op.equal Op.maxDepth; unfold Op.equalIn
  simp only [Sem.run_bind, hu, Result.andThen_ok, Sem.run_pure]
theorem equal_p {t e : TypeId} (hu : ∀ w, (underlying t).run P w = .ok (.pointer e) w) (a : Option Addr) (w : World) : (Op.equal t (.pointer a) (.pointer none)).run P w = .ok a.isNone w := by
  unfold Op.equal Op.maxDepth; unfold Op.equalIn
  cases a <;> simp only [Sem.run_bind, hu, Result.andThen_ok, Sem.run_pure, Option.isNone]
theorem equal_sl {t e : TypeId} (hu : ∀ w, (underlying t).run P w = .ok (.slice e) w) (a : Option Addr) (n c : Nat) (w : World) : (Op.equal t (.slice a n c) (.slice none 0 0)).run P w = .ok a.isNone w := by
  unfold Op.equal Op.maxDepth; unfold Op.equalIn
  cases a <;> simp only [Sem.run_bind, hu, Result.andThen_ok, Sem.run_pure, Option.isNone]
theorem equal_m {t k e : TypeId} (hu : ∀ w, (underlying t).run P w = .ok (.map k e) w) (a : Option Nat) (w : World) : (Op.equal t (.map a) (.map none)).run P w = .ok a.isNone w := by
  unfold Op.equal Op.maxDepth; unfold Op.equalIn
  cases a <;> simp only [Sem.run_bind, hu, Result.andThen_ok, Sem.run_pure, Option.isNone]
theorem run_eqb {t : TypeId} (hu : ∀ w, (underlying t).run P w = .ok .bool w) (x y : Operand) (a b : Bool) (w : World) : (xbin .eql t x y (.bool a) (.bool b)).run P w = .ok (.bool (a == b)) w := by
  simp only [xbin, eqGuard_at_bool, sem_pure_bind]
  exact run_eql_of rfl (equal_b hu a b w)
theorem run_neb {t : TypeId} (hu : ∀ w, (underlying t).run P w = .ok .bool w) (x y : Operand) (a b : Bool) (w : World) : (xbin .neq t x y (.bool a) (.bool b)).run P w = .ok (.bool (!(a == b))) w := by
  simp only [xbin, eqGuard_at_bool, sem_pure_bind]
  exact run_neq_of rfl (equal_b hu a b w)
theorem run_eqp {t e : TypeId} (hu : ∀ w, (underlying t).run P w = .ok (.pointer e) w) (x y : Operand) (a : Option Addr) (w : World) : (xbin .eql t x y (.pointer a) (.pointer none)).run P w = .ok (.bool a.isNone) w := by
  simp only [xbin, eqGuard_at_pointer, sem_pure_bind]
  exact run_eql_of (by cases a <;> rfl) (equal_p hu a w)
theorem run_nep {t e : TypeId} (hu : ∀ w, (underlying t).run P w = .ok (.pointer e) w) (x y : Operand) (a : Option Addr) (w : World) : (xbin .neq t x y (.pointer a) (.pointer none)).run P w = .ok (.bool (!a.isNone)) w := by
  simp only [xbin, eqGuard_at_pointer, sem_pure_bind]
  exact run_neq_of (by cases a <;> rfl) (equal_p hu a w)
theorem run_eqsl {t e : TypeId} (hu : ∀ w, (underlying t).run P w = .ok (.slice e) w) (x y : Operand) (a : Option Addr) (n c : Nat) (w : World) : (xbin .eql t x y (.slice a n c) (.slice none 0 0)).run P w = .ok (.bool a.isNone) w := by
  simp only [xbin, eqGuard_at_slice, sem_pure_bind]
  exact run_eql_of rfl (equal_sl hu a n c w)
theorem run_eqm {t k e : TypeId} (hu : ∀ w, (underlying t).run P w = .ok (.map k e) w) (x y : Operand) (a : Option Nat) (w : World) : (xbin .eql t x y (.map a) (.map none)).run P w = .ok (.bool a.isNone) w := by
  simp only [xbin, eqGuard_at_map, sem_pure_bind]
  exact run_eql_of rfl (equal_m hu a w)
end
end Go.VW
