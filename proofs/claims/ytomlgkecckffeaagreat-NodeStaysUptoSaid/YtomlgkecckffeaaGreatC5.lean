/- What all equations lean on. The generic engine, part 5: maps, as lists of keys with values. -/
import Derived.Test.YtomlgkecckffeaaGreatC4
import Derived.Test.YtomlgkecckffeaaGreatProg
namespace Go.Proofs.YtomlgkecckffeaaGreat
theorem mixed : Tryz.prog.follows .mixedOrders = true := by kernel_rfl
end Go.Proofs.YtomlgkecckffeaaGreat

set_option linter.unusedVariables false
set_option linter.unusedSimpArgs false
set_option linter.unusedSectionVars false
namespace Go.VW
noncomputable section

/-! ### 1. Lists of keys with values -/
section
variable {κ α : Type} [DecidableEq κ]
def aget : List (κ × α) → κ → Option α
  | [], _ => none
  | p :: r, k => if p.1 = k then some p.2 else aget r k
def aset : List (κ × α) → κ → α → List (κ × α)
  | [], k, v => [(k, v)]
  | p :: r, k, v => if p.1 = k then (k, v) :: r else p :: aset r k v
def adel : List (κ × α) → κ → List (κ × α)
  | [], _ => []
  | p :: r, k => if p.1 = k then r else p :: adel r k
def aidx {α : Type} : List (κ × α) → κ → Nat
  | [], _ => 0
  | p :: r, k => if p.1 = k then 0 else aidx r k + 1
theorem aidx_lt (l : List (κ × α)) (k : κ) (h : k ∈ l.map (·.1)) : ∃ hl : aidx l k < l.length, (l[aidx l k]'hl).1 = k := by
  induction l with
  | nil => simp at h
  | cons p r ih =>
    by_cases hp : p.1 = k
    · exact ⟨by simp [aidx, hp], by simp [aidx, hp]⟩
    · have hk : k ∈ r.map (·.1) := by
        rcases List.mem_cons.1 (by simpa using h : k ∈ p.1 :: r.map (·.1)) with h | h
        · exact absurd h.symm hp
        · exact h
      obtain ⟨h1, h2⟩ := ih hk
      exact ⟨by simp [aidx, hp]; omega, by simp [aidx, hp, h2]⟩
theorem aget_aset (l : List (κ × α)) (k k' : κ) (v : α) : aget (aset l k v) k' = if k = k' then some v else aget l k' := by
  induction l with
  | nil => simp [aset, aget]
  | cons p r ih =>
    by_cases h : p.1 = k
    · simp only [aset, h, if_true, aget]
      by_cases h' : k = k' <;> simp [h']
    · simp only [aset, h, if_false, aget, ih]
      by_cases h' : p.1 = k'
      · have : ¬ k = k' := fun e => h (h'.trans e.symm)
        simp [h', this]
      · simp [h']
theorem keys_aset (l : List (κ × α)) (k : κ) (v : α) : (aset l k v).map (·.1) = if k ∈ l.map (·.1) then l.map (·.1) else l.map (·.1) ++ [k] := by
  induction l with
  | nil => simp [aset]
  | cons p r ih =>
    by_cases h : p.1 = k
    · simp [aset, h]
    · have h' : ¬ k = p.1 := fun e => h e.symm
      simp only [aset, h, if_false, List.map_cons, ih, List.mem_cons, h', false_or]
      split <;> simp
theorem mem_keys_aget (l : List (κ × α)) (k : κ) : k ∈ l.map (·.1) ↔ ∃ v, aget l k = some v := by
  induction l with
  | nil => simp [aget]
  | cons p r ih =>
    by_cases h : p.1 = k
    · simp [aget, h]
    · have h' : ¬ k = p.1 := fun e => h e.symm
      simp only [List.map_cons, List.mem_cons, h', false_or, ih, aget, h, if_false]
theorem aget_none (l : List (κ × α)) (k : κ) : aget l k = none ↔ k ∉ l.map (·.1) := by
  rw [mem_keys_aget]
  cases aget l k <;> simp
theorem aget_adel (l : List (κ × α)) (hn : (l.map (·.1)).Nodup) (k k' : κ) : aget (adel l k) k' = if k = k' then none else aget l k' := by
  induction l with
  | nil => simp [adel, aget]
  | cons p r ih =>
    simp only [List.map_cons, List.nodup_cons] at hn
    by_cases h : p.1 = k
    · simp only [adel, h, if_true, aget]
      by_cases h' : k = k'
      · subst h'
        simp only [if_true]
        rw [aget_none]; exact h ▸ hn.1
      · simp [h']
    · simp only [adel, h, if_false, aget, ih hn.2]
      by_cases h' : p.1 = k'
      · have : ¬ k = k' := fun e => h (h'.trans e.symm)
        simp [h', this]
      · simp [h']
theorem nodup_aset (l : List (κ × α)) (k : κ) (v : α) (hn : (l.map (·.1)).Nodup) : ((aset l k v).map (·.1)).Nodup := by
  rw [keys_aset]
  split
  · exact hn
  · rename_i h
    rw [List.nodup_append]
    exact ⟨hn, by simp, fun a ha b hb => by simp at hb; subst hb; exact fun e => h (e ▸ ha)⟩
theorem keys_adel (l : List (κ × α)) (k : κ) (hn : (l.map (·.1)).Nodup) : (adel l k).map (·.1) = (l.map (·.1)).filter (fun x => !decide (x = k)) := by
  induction l with
  | nil => simp [adel]
  | cons p r ih =>
    simp only [List.map_cons, List.nodup_cons] at hn
    by_cases h : p.1 = k
    · simp only [adel, h, if_true, List.map_cons, List.filter_cons, decide_true, Bool.not_true]
      simp only [Bool.false_eq_true, if_false]
      symm
      rw [List.filter_eq_self]
      intro a ha
      have : a ≠ k := fun e => hn.1 (h ▸ e ▸ ha)
      simp [this]
    · simp [adel, h, ih hn.2]
theorem nodup_adel (l : List (κ × α)) (k : κ) (hn : (l.map (·.1)).Nodup) : ((adel l k).map (·.1)).Nodup := by
  rw [keys_adel l k hn]; exact hn.filter _
end

/-! ### 2. A map's block -/
structure KeyOK {κ : Type} [DecidableEq κ] (P : Program) (kt : TypeId) (kv : κ → Value) : Prop where
  under : ∃ d, (∀ w, (underlying kt).run P w = .ok d w) ∧ ∀ a b, Instr.sameNow d (kv a) (kv b) = some (decide (a = b))
  check : ∀ em w k, (Instr.checkKey em 10000 kt (kv k)).run P w = .ok () w
  stays : ∀ w k, (Instr.keyThatStays (kv k) (kv k)).run P w = .ok (kv k) w
  inj : ∀ a b, kv a = kv b → a = b
theorem bytes_beq (a b : ByteArray) : (a == b) = decide (a = b) := by
  cases a with
  | mk x =>
    cases b with
    | mk y =>
      show (x == y) = _
      by_cases h : x = y <;> simp [h]
theorem keyOK_string {P : Program} {kt : TypeId} (hu : ∀ w, (underlying kt).run P w = .ok .string w) : KeyOK P kt Value.string where
  under := ⟨.string, hu, fun a b => by
    simp only [Instr.sameNow]
    rw [bytes_beq]⟩
  check := fun em w k => by unfold Instr.checkKey; simp only [Sem.run_bind, hu, Result.andThen_ok, Sem.run_pure]
  stays := fun w k => by simp [Instr.keyThatStays, Instr.sameBits, bytes_beq]
  inj := fun a b h => by simpa using h
theorem keyOK_int {P : Program} {kt : TypeId} {q : IntKind} (hu : ∀ w, (underlying kt).run P w = .ok (.int q) w) : KeyOK P kt (Value.int q) where
  under := ⟨.int q, hu, fun a b => by
    simp only [Instr.sameNow, if_true]
    congr 1⟩
  check := fun em w k => by unfold Instr.checkKey; simp only [Sem.run_bind, hu, Result.andThen_ok, Sem.run_pure]
  stays := fun w k => by simp [Instr.keyThatStays, Instr.sameBits]
  inj := fun a b h => by simpa using h
section
variable {κ : Type} [DecidableEq κ] {P : Program} {kt : TypeId} {kv : κ → Value}
def entL (ents : Array MapEntry) : List (Value × Value) := ents.toList.map fun e => (e.key, e.val)
structure MapAt (kv : κ → Value) (o : Option Obj) (es : List (κ × Value)) : Prop where
  ex : ∃ ents clock, o = some (.map ents clock) ∧ entL ents = es.map (fun p => (kv p.1, p.2)) ∧ (∀ e ∈ ents.toList, e.born < clock) ∧ (ents.toList.map (·.born)).Nodup
  nd : (es.map (·.1)).Nodup
theorem findNow_is {d : TypeDesc} (hd : ∀ a b, Instr.sameNow d (kv a) (kv b) = some (decide (a = b))) (k : κ) : ∀ (l : List MapEntry) (es : List (κ × Value)) (i : Nat),
    l.map (fun e => (e.key, e.val)) = es.map (fun p => (kv p.1, p.2)) →
    Instr.findNow d (kv k) l i = some ((aget es k).map fun v => (i + aidx es k, v))
  | [], es, i, h => by
    cases es with
    | nil => rfl
    | cons p r => simp at h
  | e :: l, [], i, h => by simp at h
  | e :: l, p :: r, i, h => by
    simp only [List.map_cons, List.cons.injEq, Prod.mk.injEq] at h
    obtain ⟨⟨h1, h2⟩, h3⟩ := h
    unfold Instr.findNow
    rw [h1, hd]
    by_cases hk : k = p.1
    · subst hk
      simp [aget, aidx, h2]
    · have hk' : ¬ p.1 = k := fun e => hk e.symm
      simp only [hk, decide_false, aget, hk', if_false]
      rw [findNow_is hd k l r (i + 1) h3]
      simp only [aidx, hk', if_false]
      cases aget r k <;> simp
      omega
theorem MapAt.find (hK : KeyOK P kt kv) {ents : Array MapEntry} {es : List (κ × Value)} (he : entL ents = es.map (fun p => (kv p.1, p.2))) (k : κ) (w : World) :
    (Instr.findKey kt (kv k) ents.toList).run P w = .ok ((aget es k).map fun v => (aidx es k, v)) w := by
  obtain ⟨d, hu, hd⟩ := hK.under
  unfold Instr.findKey
  simp only [Sem.run_bind, hu, Result.andThen_ok, findNow_is hd k ents.toList es 0 he, Sem.run_pure, Nat.zero_add]
theorem run_getObj {w : World} {r : Nat} {ents : Array MapEntry} {clock : Nat} (h : w.heap[r]? = some (.map ents clock)) : (getObj r).run P w = .ok (.map ents clock) w := by
  simp only [getObj, Sem.run, h]
theorem run_setObj {w : World} {r : Nat} {ents : Array MapEntry} {clock : Nat} (h : w.heap[r]? = some (.map ents clock)) (o : Obj) : (setObj r o).run P w = .ok () (w.setB r o) := by
  simp only [setObj, Sem.run, h]; rfl
theorem map_lookup {t et : TypeId} {z : Value} (hu : ∀ w, (underlying t).run P w = .ok (.map kt et) w) (hK : KeyOK P kt kv) (hz : ∀ w, (zeroValue et).run P w = .ok z w)
    {w : World} {r : Nat} {es : List (κ × Value)} (h : MapAt kv w.heap[r]? es) (k : κ) : (Instr.lookup t (.map (some r)) (kv k) false).run P w = .ok ((aget es k).getD z) w := by
  obtain ⟨ents, clock, hb, he, _⟩ := h.ex
  simp only [Instr.lookup, Sem.run_bind, hu, Result.andThen_ok, run_getObj hb, Sem.run_pure, hK.check, MapAt.find hK he]
  cases aget es k <;> simp [hz]
theorem map_lookup2 {t et : TypeId} {z : Value} (hu : ∀ w, (underlying t).run P w = .ok (.map kt et) w) (hK : KeyOK P kt kv) (hz : ∀ w, (zeroValue et).run P w = .ok z w)
    {w : World} {r : Nat} {es : List (κ × Value)} (h : MapAt kv w.heap[r]? es) (k : κ) : (Instr.lookup t (.map (some r)) (kv k) true).run P w = .ok (.tuple #[(aget es k).getD z, .bool (aget es k).isSome]) w := by
  obtain ⟨ents, clock, hb, he, _⟩ := h.ex
  simp only [Instr.lookup, Sem.run_bind, hu, Result.andThen_ok, run_getObj hb, Sem.run_pure, hK.check, MapAt.find hK he]
  cases aget es k <;> simp [hz]
theorem map_lookup_nil {t et : TypeId} {z : Value} (hu : ∀ w, (underlying t).run P w = .ok (.map kt et) w) (hK : KeyOK P kt kv) (hz : ∀ w, (zeroValue et).run P w = .ok z w)
    (w : World) (k : κ) : (Instr.lookup t (.map none) (kv k) false).run P w = .ok z w := by
  have hf := MapAt.find (es := []) hK (ents := #[]) rfl k w
  simp only [Instr.lookup, Sem.run_bind, hu, Result.andThen_ok, Sem.run_pure, hK.check, hf]
  simp [hz, aget]
theorem entL_modify {ents : Array MapEntry} {es : List (κ × Value)} (he : entL ents = es.map (fun p => (kv p.1, p.2))) (k : κ) (v : Value) (hk : k ∈ es.map (·.1)) :
    entL (ents.modify (aidx es k) fun e => { e with key := kv k, val := v }) = (aset es k v).map (fun p => (kv p.1, p.2)) ∧
      (ents.modify (aidx es k) fun e => { e with key := kv k, val := v }).toList.map (·.born) = ents.toList.map (·.born) := by
  unfold entL at *
  rw [Array.toList_modify]
  generalize ents.toList = l at *
  clear ents
  induction es generalizing l with
  | nil => simp at hk
  | cons p r ih =>
    cases l with
    | nil => simp at he
    | cons e l =>
      simp only [List.map_cons, List.cons.injEq, Prod.mk.injEq] at he
      obtain ⟨⟨h1, h2⟩, h3⟩ := he
      by_cases hp : p.1 = k
      · subst hp
        simp [aset, aidx, h3]
      · have hk' : k ∈ r.map (·.1) := by
          rcases List.mem_cons.1 (by simpa using hk : k ∈ p.1 :: r.map (·.1)) with h | h
          · exact absurd h.symm hp
          · exact h
        have := ih hk' l h3
        simp only [List.map_cons, aset, hp, if_false, aidx]
        simp only [List.modify_succ_cons, List.map_cons, h1, h2]
        exact ⟨by rw [this.1], by rw [this.2]⟩
def updO (kv : κ → Value) (es : List (κ × Value)) (o : Option Obj) (k : κ) (v : Value) : Obj := match o with
  | some (.map ents clock) => if k ∈ es.map (·.1) then .map (ents.modify (aidx es k) fun e => { e with key := kv k, val := v }) clock else .map (ents.push { key := kv k, val := v, born := clock }) (clock + 1)
  | _ => .map #[] 0
theorem map_updateX {t et : TypeId} (hu : ∀ w, (underlying t).run P w = .ok (.map kt et) w) (hK : KeyOK P kt kv) {w : World} {r : Nat} {es : List (κ × Value)} (h : MapAt kv w.heap[r]? es) (k : κ) (v : Value) :
    (Instr.mapUpdate t (.map (some r)) (kv k) v).run P w = .ok () (w.setB r (updO kv es w.heap[r]? k v)) ∧ MapAt kv (some (updO kv es w.heap[r]? k v)) (aset es k v) := by
  obtain ⟨ents, clock, hb, he, hc, hn⟩ := h.ex
  by_cases hk : k ∈ es.map (·.1)
  · obtain ⟨u, hu'⟩ := (mem_keys_aget es k).1 hk
    have hkey : ((ents[aidx es k]?).map (·.key)).getD (kv k) = kv k := by
      obtain ⟨hlt, hget⟩ := aidx_lt es k hk
      have h1 : (entL ents)[aidx es k]? = (es.map (fun p => (kv p.1, p.2)))[aidx es k]? := by rw [he]
      simp only [entL, List.getElem?_map, List.getElem?_eq_getElem hlt, Option.map_some, Array.getElem?_toList] at h1
      cases hx : ents[aidx es k]? with
      | none => rfl
      | some e =>
        rw [hx] at h1
        simp only [Option.map_some, Option.some.injEq, Prod.mk.injEq] at h1
        simp only [Option.map_some, Option.getD_some, h1.1, hget]
    have hm := entL_modify he k v hk
    have hx : updO kv es w.heap[r]? k v = .map (ents.modify (aidx es k) fun e => { e with key := kv k, val := v }) clock := by simp only [updO, hb, hk, if_true]
    rw [hx]
    refine ⟨?_, ⟨_, _, rfl, hm.1, ?_, ?_⟩, nodup_aset _ _ _ h.nd⟩
    · simp only [Instr.mapUpdate, Sem.run_bind, hu, Result.andThen_ok, run_getObj hb, hK.check, MapAt.find hK he, hu', Option.map_some, hkey, hK.stays, run_setObj hb]
    · intro e hmem
      have : e.born ∈ ents.toList.map (·.born) := by rw [← hm.2]; exact List.mem_map_of_mem hmem
      obtain ⟨e', he', hb'⟩ := List.mem_map.1 this
      rw [← hb']; exact hc e' he'
    · rw [hm.2]; exact hn
  · have hu' : aget es k = none := (aget_none es k).2 hk
    have has : aset es k v = es ++ [(k, v)] := by
      clear he h
      induction es with
      | nil => rfl
      | cons p r ih =>
        simp only [List.map_cons, List.mem_cons, not_or] at hk
        have hp : ¬ p.1 = k := fun e => hk.1 e.symm
        simp only [aget, hp, if_false] at hu'
        simp [aset, hp, ih hk.2 hu']
    have hx : updO kv es w.heap[r]? k v = .map (ents.push { key := kv k, val := v, born := clock }) (clock + 1) := by simp only [updO, hb, hk, if_false]
    rw [hx]
    refine ⟨?_, ⟨_, _, rfl, ?_, ?_, ?_⟩, nodup_aset _ _ _ h.nd⟩
    · simp only [Instr.mapUpdate, Sem.run_bind, hu, Result.andThen_ok, run_getObj hb, hK.check, MapAt.find hK he, hu', Option.map_none, run_setObj hb]
    · rw [has]
      simp only [entL, Array.toList_push, List.map_append, List.map_cons, List.map_nil]
      unfold entL at he
      rw [he]
    · intro e hmem
      simp only [Array.toList_push, List.mem_append, List.mem_singleton] at hmem
      rcases hmem with hm | rfl
      · have := hc e hm; omega
      · simp
    · simp only [Array.toList_push, List.map_append, List.map_cons, List.map_nil]
      rw [List.nodup_append]
      refine ⟨hn, by simp, fun a ha b hb => ?_⟩
      simp only [List.mem_singleton] at hb
      subst hb
      obtain ⟨e, he', rfl⟩ := List.mem_map.1 ha
      have := hc e he'
      omega
theorem map_make {t kt' et : TypeId} (w : World) : (Instr.makeMap t none).run P w = .ok (.map (some w.heap.size)) (w.alloc (.map #[] 0)) := by
  simp only [Instr.makeMap, newObj, Sem.run_bind, Sem.run, Result.andThen_ok, Sem.run_pure]
  rfl
theorem MapAt.empty : MapAt kv (some (.map #[] 0)) [] := ⟨⟨#[], 0, rfl, rfl, by simp, by simp⟩, by simp⟩
theorem map_len {t et : TypeId} (hu : ∀ w, (underlying t).run P w = .ok (.map kt et) w) (ty : TypeId) {w : World} {r : Nat} {es : List (κ × Value)} (h : MapAt kv w.heap[r]? es) :
    (Builtin.len_ #[t] ty #[.map (some r)]).run P w = .ok (.int .i64 es.length) w := by
  obtain ⟨ents, clock, hb, he, _⟩ := h.ex
  have hl : ents.size = es.length := by have := congrArg List.length he; simpa [entL] using this
  simp [Builtin.len_, Sem.run_bind, hu, run_getObj hb, goInt, hl]
def clrO (o : Option Obj) : Obj := match o with
  | some (.map _ clock) => .map #[] clock
  | _ => .map #[] 0
theorem map_clear {t et : TypeId} (hu : ∀ w, (underlying t).run P w = .ok (.map kt et) w) (ty : TypeId) {w : World} {r : Nat} {es : List (κ × Value)} (h : MapAt kv w.heap[r]? es) :
    (Builtin.clear_ #[t] ty #[.map (some r)]).run P w = .ok (.tuple #[]) (w.setB r (clrO w.heap[r]?)) ∧ MapAt kv (some (clrO w.heap[r]?)) [] := by
  obtain ⟨ents, clock, hb, he, _⟩ := h.ex
  rw [show clrO w.heap[r]? = .map #[] clock by simp only [clrO, hb]]
  refine ⟨?_, ⟨#[], clock, rfl, rfl, by simp, by simp⟩, by simp⟩
  simp [Builtin.clear_, Sem.run_bind, hu, run_getObj hb, run_setObj hb]
def delO (es : List (κ × Value)) (o : Option Obj) (k : κ) : Obj := match o with
  | some (.map ents clock) => if (aget es k).isSome then .map (ents.eraseIdxIfInBounds (aidx es k)) clock else .map ents clock
  | _ => .map #[] 0
theorem map_delete {t kt' et : TypeId} (hu : ∀ w, (underlying t).run P w = .ok (.map kt et) w) (hK : KeyOK P kt kv) (ty : TypeId) {w : World} {r : Nat} {es : List (κ × Value)} (h : MapAt kv w.heap[r]? es) (k : κ) :
    (Builtin.delete_ #[t, kt'] ty #[.map (some r), kv k]).run P w = .ok (.tuple #[]) (w.setB r (delO es w.heap[r]? k)) ∧ MapAt kv (some (delO es w.heap[r]? k)) (adel es k) := by
  obtain ⟨ents, clock, hb, he, hc, hn⟩ := h.ex
  cases hg : aget es k with
  | none =>
    have hd : adel es k = es := by
      clear he h
      induction es with
      | nil => rfl
      | cons p r ih =>
        by_cases hp : p.1 = k
        · simp [aget, hp] at hg
        · simp only [aget, hp, if_false] at hg
          simp [adel, hp, ih hg]
    have hx : delO es w.heap[r]? k = .map ents clock := by simp [delO, hb, hg]
    rw [hx]
    refine ⟨?_, ⟨ents, clock, rfl, by rw [hd]; exact he, hc, hn⟩, by rw [hd]; exact h.nd⟩
    simp [Builtin.delete_, Sem.run_bind, hu, run_getObj hb, run_setObj hb, hK.check, MapAt.find hK he, hg]
  | some v =>
    have hk : k ∈ es.map (·.1) := (mem_keys_aget es k).2 ⟨v, hg⟩
    have key : ∀ (l : List MapEntry) (es : List (κ × Value)), l.map (fun e => (e.key, e.val)) = es.map (fun p => (kv p.1, p.2)) → k ∈ es.map (·.1) →
        (l.eraseIdx (aidx es k)).map (fun e => (e.key, e.val)) = (adel es k).map (fun p => (kv p.1, p.2)) := by
      intro l es
      induction es generalizing l with
      | nil => intro _ h; simp at h
      | cons p r ih =>
        intro he hk
        cases l with
        | nil => simp at he
        | cons e l =>
          simp only [List.map_cons, List.cons.injEq, Prod.mk.injEq] at he
          by_cases hp : p.1 = k
          · subst hp
            simp [adel, aidx, he.2]
          · have hk' : k ∈ r.map (·.1) := by
              rcases List.mem_cons.1 (by simpa using hk : k ∈ p.1 :: r.map (·.1)) with h | h
              · exact absurd h.symm hp
              · exact h
            simp only [adel, aidx, hp, if_false]
            simp only [List.eraseIdx_cons_succ, List.map_cons, ih l he.2 hk', he.1]
    have hlt : aidx es k < ents.size := by
      have h1 := (aidx_lt es k hk).1
      have h2 := congrArg List.length he
      simp [entL] at h2
      omega
    have hsub : (ents.eraseIdxIfInBounds (aidx es k)).toList = ents.toList.eraseIdx (aidx es k) := by
      simp [Array.eraseIdxIfInBounds, hlt]
    have hx : delO es w.heap[r]? k = .map (ents.eraseIdxIfInBounds (aidx es k)) clock := by simp [delO, hb, hg]
    rw [hx]
    refine ⟨?_, ⟨_, _, rfl, ?_, ?_, ?_⟩, nodup_adel _ _ h.nd⟩
    · simp [Builtin.delete_, Sem.run_bind, hu, run_getObj hb, run_setObj hb, hK.check, MapAt.find hK he, hg]
    · unfold entL; rw [hsub]; exact key _ _ he hk
    · intro e hm
      rw [hsub] at hm
      exact hc e ((List.eraseIdx_sublist _ _).subset hm)
    · rw [hsub]
      exact ((List.eraseIdx_sublist _ _).map _).nodup hn
theorem MapAt.uniq (hi : ∀ a b, kv a = kv b → a = b) {o : Option Obj} {es es' : List (κ × Value)} (h : MapAt kv o es) (h' : MapAt kv o es') : es = es' := by
  obtain ⟨ents, clock, hb, he, _⟩ := h.ex
  obtain ⟨ents', clock', hb', he', _⟩ := h'.ex
  rw [hb] at hb'
  cases hb'
  rw [he] at he'
  refine (List.map_inj_right ?_).1 he'
  rintro ⟨a, b⟩ ⟨c, d⟩ hx
  simp only [Prod.mk.injEq] at hx
  rw [hi _ _ hx.1, hx.2]
theorem inj_string : ∀ a b : ByteArray, Value.string a = Value.string b → a = b := fun a b h => by simpa using h
theorem inj_int {q : IntKind} : ∀ a b : Int, Value.int q a = Value.int q b → a = b := fun a b h => by simpa using h
open Classical in
def mapV (kv : κ → Value) (orig : Prop) (o : Option Obj) (K : List (κ × Value) → Prop) : Prop := if h : ∃ es, MapAt kv o es then K (Classical.choose h) else orig
theorem mapV_at (hi : ∀ a b, kv a = kv b → a = b) {o : Option Obj} {es : List (κ × Value)} (h : MapAt kv o es) (orig : Prop) (K : List (κ × Value) → Prop) : mapV kv orig o K = K es := by
  unfold mapV
  have hx : ∃ es, MapAt kv o es := ⟨es, h⟩
  rw [dif_pos hx, MapAt.uniq hi (Classical.choose_spec hx) h]
theorem mapV_of {kv : κ → Value} {A : Prop} {o : Option Obj} {K : List (κ × Value) → Prop} (h : ∀ es, MapAt kv o es → A = K es) : A = mapV kv A o K := by
  unfold mapV
  split
  · rename_i hx; exact h _ (Classical.choose_spec hx)
  · rfl
theorem mapV_congr {kv : κ → Value} {orig : Prop} {o o' : Option Obj} {K : List (κ × Value) → Prop} (h : o = o') : mapV kv orig o K = mapV kv orig o' K := by rw [h]
attribute [congr] mapV_congr
def lkO (P : Program) (t : TypeId) (r : Nat) (k : Value) (c : Bool) (w : World) (K : Value → World → Prop) : Prop := vR ((Instr.lookup t (.map (some r)) k c).run P w) K
theorem lookup_V {t et : TypeId} {z : Value} (hu : ∀ w, (underlying t).run P w = .ok (.map kt et) w) (hK : KeyOK P kt kv) (hz : ∀ w, (zeroValue et).run P w = .ok z w) (r : Nat) (k : κ) (w : World) (K : Value → World → Prop) :
    vR ((Instr.lookup t (.map (some r)) (kv k) false).run P w) K = mapV kv (lkO P t r (kv k) false w K) w.heap[r]? (fun es => K ((aget es k).getD z) w) :=
  mapV_of fun es h => by rw [map_lookup hu hK hz h k]; rfl
theorem lookup2_V {t et : TypeId} {z : Value} (hu : ∀ w, (underlying t).run P w = .ok (.map kt et) w) (hK : KeyOK P kt kv) (hz : ∀ w, (zeroValue et).run P w = .ok z w) (r : Nat) (k : κ) (w : World) (K : Value → World → Prop) :
    vR ((Instr.lookup t (.map (some r)) (kv k) true).run P w) K = mapV kv (lkO P t r (kv k) true w K) w.heap[r]? (fun es => K (.tuple ([(aget es k).getD z, .bool (aget es k).isSome] : List Value).toArray) w) :=
  mapV_of fun es h => by rw [map_lookup2 hu hK hz h k]; rfl
def muO (P : Program) (t : TypeId) (r : Nat) (k v : Value) (w : World) (K : Value → World → Prop) : Prop := uR ((Instr.mapUpdate t (.map (some r)) k v).run P w) K
theorem update_V {t et : TypeId} (hu : ∀ w, (underlying t).run P w = .ok (.map kt et) w) (hK : KeyOK P kt kv) (r : Nat) (k : κ) (v : Value) (w : World) (K : Value → World → Prop) :
    uR ((Instr.mapUpdate t (.map (some r)) (kv k) v).run P w) K = mapV kv (muO P t r (kv k) v w K) w.heap[r]? (fun es => K undef (w.setB r (updO kv es w.heap[r]? k v))) :=
  mapV_of fun es h => by rw [(map_updateX hu hK h k v).1]; rfl
def mbO (P : Program) (s : Sem Value) (w : World) (K : Value → World → Prop) : Prop := vR (s.run P w) K
theorem mlen_V {t et : TypeId} (hu : ∀ w, (underlying t).run P w = .ok (.map kt et) w) (ty : TypeId) (r : Nat) (w : World) (K : Value → World → Prop) :
    vR ((Builtin.len_ #[t] ty #[.map (some r)]).run P w) K = mapV kv (mbO P (Builtin.len_ #[t] ty #[.map (some r)]) w K) w.heap[r]? (fun es => K (.int .i64 es.length) w) :=
  mapV_of fun es h => by rw [map_len hu ty h]; rfl
theorem clear_V {t et : TypeId} (hu : ∀ w, (underlying t).run P w = .ok (.map kt et) w) (ty : TypeId) (r : Nat) (w : World) (K : Value → World → Prop) :
    vR ((Builtin.clear_ #[t] ty #[.map (some r)]).run P w) K = mapV kv (mbO P (Builtin.clear_ #[t] ty #[.map (some r)]) w K) w.heap[r]? (fun es => K (.tuple #[]) (w.setB r (clrO w.heap[r]?))) :=
  mapV_of fun es h => by rw [(map_clear hu ty h).1]; rfl
theorem delete_V {t kt' et : TypeId} (hu : ∀ w, (underlying t).run P w = .ok (.map kt et) w) (hK : KeyOK P kt kv) (ty : TypeId) (r : Nat) (k : κ) (w : World) (K : Value → World → Prop) :
    vR ((Builtin.delete_ #[t, kt'] ty #[.map (some r), kv k]).run P w) K = mapV kv (mbO P (Builtin.delete_ #[t, kt'] ty #[.map (some r), kv k]) w K) w.heap[r]? (fun es => K (.tuple #[]) (w.setB r (delO es w.heap[r]? k))) :=
  mapV_of fun es h => by rw [(map_delete hu hK ty h k).1]; rfl
theorem MapAt.lt {w : World} {r : Nat} {es : List (κ × Value)} (h : MapAt kv w.heap[r]? es) : r < w.heap.size := by
  obtain ⟨ents, clock, hb, _⟩ := h.ex
  exact lt_of_get w r hb
end
end
end Go.VW
