/- StreamFirst walked. -/
import Derived.Test.YtenokheiindfkabD7
set_option linter.unusedVariables false
set_option linter.unusedSimpArgs false
set_option maxRecDepth 10000
namespace Go.Proofs.Ytenokheiindfkab
open Go.VW
/-- A list of lists of keys. -/
structure ListS (w : World) (lv : Value) (vs : List Value) (kss : List Ks) : Prop where
  sl : SlOf 1 one1 w lv vs
  len : vs.length = kss.length
  at_ : ∀ (i : Nat) v ks, vs[i]? = some v → kss[i]? = some ks → SlOf 1 encS w v ks ∧ ks.length ≤ maxLen
theorem ListS.frN {w w' : World} {lv : Value} {vs : List Value} {kss : List Ks} (h : ListS w lv vs kss) (hf : Fr [] w w') : ListS w' lv vs kss :=
  ⟨h.sl.frN hf, h.len, fun i v ks hv hk => ⟨(h.at_ i v ks hv hk).1.frN hf, (h.at_ i v ks hv hk).2⟩⟩
theorem appL_cases (L : List Ks) (ks : Ks) : ((appL L ks).1.2 ≠ 0 ∧ (appL L ks).2 = L ∧ (appL L ks).1.1 = 0) ∨ ((appL L ks).1.2 = 0 ∧ chkK ks = 0 ∧ L.length < 1099511627776 ∧ (appL L ks).1.1 = (L.length : Int) + 1 ∧ (appL L ks).2 = L ++ [ks]) := by
  by_cases h : chkK ks = 0
  · by_cases hl : 1099511627776 ≤ L.length
    · rw [appL_full h hl]; exact .inl ⟨by simp, rfl, rfl⟩
    · rw [appL_ok h hl]; exact .inr ⟨rfl, h, by omega, rfl, rfl⟩
  · rw [appL_err h]; exact .inl ⟨h, rfl, rfl⟩
theorem hasAt_app (L : List Ks) (ks : Ks) (s : ByteArray) (n : Int) : hasAt (L ++ [ks]) s n ↔ hasAt L s n ∨ (n = (L.length : Int) + 1 ∧ s ∈ ks) := by
  unfold hasAt
  constructor
  · rintro ⟨h1, kk, h2, h3⟩
    by_cases hl : (n - 1).toNat < L.length
    · rw [List.getElem?_append_left hl] at h2
      exact .inl ⟨h1, kk, h2, h3⟩
    · have hil := (List.getElem?_eq_some_iff.1 h2).1
      simp only [List.length_append, List.length_cons, List.length_nil] at hil
      have e : (n - 1).toNat = L.length := by omega
      rw [e, List.getElem?_concat_length] at h2
      cases h2
      exact .inr ⟨by omega, h3⟩
  · rintro (⟨h1, kk, h2, h3⟩ | ⟨h1, h3⟩)
    · have hil := (List.getElem?_eq_some_iff.1 h2).1
      exact ⟨h1, kk, by rw [List.getElem?_append_left hil]; exact h2, h3⟩
    · subst h1
      have e : ((L.length : Int) + 1 - 1).toNat = L.length := by omega
      exact ⟨by omega, ks, by rw [e, List.getElem?_concat_length], h3⟩
/-- The numbers of the records that have the key, in order. -/
structure WantP (L : List Ks) (s : ByteArray) (want : List Int) : Prop where
  inc : want.Pairwise fun x y => x < y
  mem : ∀ n, n ∈ want ↔ hasAt L s n
  len : want.length ≤ L.length
theorem WantP.nil (s : ByteArray) : WantP [] s [] := ⟨.nil, fun n => by simp [hasAt], Nat.le_refl _⟩
open Classical in
theorem WantP.app {L : List Ks} {s : ByteArray} {want : List Int} (h : WantP L s want) (ks : Ks) : WantP (L ++ [ks]) s (want ++ if s ∈ ks then [(L.length : Int) + 1] else []) := by
  by_cases hs : s ∈ ks
  · rw [if_pos hs]
    refine ⟨?_, fun n => ?_, by have := h.len; simp; omega⟩
    · rw [List.pairwise_append]
      refine ⟨h.inc, by simp, fun x hx y hy => ?_⟩
      simp at hy; subst hy
      obtain ⟨_, kk, h2, _⟩ := (h.mem x).1 hx
      have := (List.getElem?_eq_some_iff.1 h2).1
      omega
    · rw [hasAt_app, List.mem_append, h.mem]
      simp [hs]
  · rw [if_neg hs]
    refine ⟨by simpa using h.inc, fun n => ?_, by have := h.len; simp; omega⟩
    rw [hasAt_app, List.append_nil, h.mem]
    simp [hs]
theorem WantP.first {L : List Ks} {s : ByteArray} {want : List Int} (h : WantP L s want) (j : Nat) (hj : j ≤ want.length) {a : Int} (ha : if j = 0 then a = -7 else want[j - 1]? = some a) : FirstP L s a want[j]? := by
  have hin := List.pairwise_iff_getElem.1 h.inc
  have hbelow : ∀ m, a < m → hasAt L s m → ∃ i, ∃ (hi : i < want.length), want[i] = m ∧ j ≤ i := fun m hm hh => by
    obtain ⟨i, hi, e⟩ := List.getElem_of_mem ((h.mem m).2 hh)
    refine ⟨i, hi, e, ?_⟩
    by_cases h0 : j = 0
    · omega
    · rw [if_neg h0] at ha
      obtain ⟨hj1, hja⟩ := List.getElem?_eq_some_iff.1 ha
      apply Nat.le_of_not_lt
      intro hlt
      by_cases hq : i = j - 1
      · subst hq; omega
      · have := hin i (j - 1) hi hj1 (by omega)
        omega
  by_cases hl : j < want.length
  · rw [List.getElem?_eq_getElem hl]
    refine ⟨?_, (h.mem _).1 (List.getElem_mem hl), fun m h1 h2 hh => ?_⟩
    · by_cases h0 : j = 0
      · rw [if_pos h0] at ha
        obtain ⟨h1, _⟩ := (h.mem _).1 (List.getElem_mem hl)
        omega
      · rw [if_neg h0] at ha
        obtain ⟨hj1, hja⟩ := List.getElem?_eq_some_iff.1 ha
        have := hin (j - 1) j hj1 hl (by omega)
        omega
    · obtain ⟨i, hi, e, hji⟩ := hbelow m h1 hh
      by_cases hq : i = j
      · subst hq; omega
      · have := hin j i hl hi (by omega)
        omega
  · rw [List.getElem?_eq_none (by omega)]
    intro m h1 hh
    obtain ⟨i, hi, e, hji⟩ := hbelow m h1 hh
    omega
def encI (n : Int) : List Value := [.int .i64 n]
theorem encI_len (n : Int) : (encI n).length = 1 := rfl
theorem cellsOf_encI (xs : List Int) : cellsOf encI xs = xs.map (Value.int .i64) := by
  induction xs with
  | nil => rfl
  | cons x xs ih => simp only [cellsOf, List.flatMap_cons, encI, List.map_cons] at *; rw [ih]; rfl
/-- The list of numbers is the call's own. -/
structure NumsAt (w0 w : World) (v : Value) (xs : List Int) : Prop where
  own : Own 1 2 w v xs.length (cellsOf encI xs)
  fresh : ∀ b, v.ownBlock = some b → w0.heap.size ≤ b
theorem NumsAt.fr {w0 w w' : World} {v : Value} {xs : List Int} (h : NumsAt w0 w v xs) {M : List Nat} (hf : Fr M w w') (hM : ∀ b, v.ownBlock = some b → b ∉ M) : NumsAt w0 w' v xs := ⟨h.own.fr hf fun b hb e => hM b e hb, h.fresh⟩
theorem NumsAt.frN {w0 w w' : World} {v : Value} {xs : List Int} (h : NumsAt w0 w v xs) (hf : Fr [] w w') : NumsAt w0 w' v xs := h.fr hf (by simp)
theorem NumsAt.app {w0 w : World} {v : Value} {xs : List Int} (h : NumsAt w0 w v xs) (h0 : w0.heap.size ≤ w.heap.size) (n : Int) (hl : xs.length ≤ 2199023255552) {a : Addr} (hx : Sl 1 w (.slice (some a) 1 1) 1 [.int .i64 n]) :
    ∃ v' w', (Builtin.append_ #[26, 26] 26 #[v, .slice (some a) 1 1]).run Try.prog w = .ok v' w' ∧ NumsAt w0 w' v' (xs ++ [n]) ∧ Fr (blkL v) w w' ∧ (v'.ownBlock = v.ownBlock ∨ ∃ b, v'.ownBlock = some b ∧ w.heap.size ≤ b) := by
  obtain ⟨v4, w4, hr4, hown4, hf4, hbk⟩ := ap26 (ty := 26) h.own hx (by rfl) (by omega)
  refine ⟨v4, w4, hr4, ⟨by rw [cellsOf_append, cellsOf_one]; simpa [encI] using hown4, fun b hb => ?_⟩, hf4, hbk⟩
  rcases hbk with e | ⟨b', e1, e2⟩
  · exact h.fresh b (e ▸ hb)
  · rw [e1] at hb; cases hb; omega
/-- One number in a list of its own. -/
theorem sl_int {w : World} (n : Int) : Sl 1 (w.alloc (.cells ([.int .i64 n] : List Value).toArray 2 (0, 0))) (.slice (some ⟨w.heap.size, 0, none⟩) 1 1) 1 [.int .i64 n] :=
  ⟨rfl, .inr ⟨w.heap.size, 0, 1, _, 2, (0, 0), rfl, get_alloc_new _ _, rfl⟩⟩
open Classical in
theorem take_mem_step {ks : Ks} {s x : ByteArray} {j : Nat} (hn : ks.Nodup) (hx : ks[j]? = some x) (n : Int) : (if s ∈ ks.take (j + 1) then [n] else []) = (if s ∈ ks.take j then [n] else []) ++ (if x = s then [n] else []) := by
  have e : ks.take (j + 1) = ks.take j ++ [x] := by rw [List.take_add_one, hx]; rfl
  have hnot : x ∉ ks.take j := by
    have : (ks.take (j + 1)).Nodup := hn.sublist (List.take_sublist _ _)
    rw [e, List.nodup_append] at this
    intro hm
    exact this.2.2 x hm x (by simp) rfl
  rw [e]
  by_cases hs : x = s
  · subst hs; simp [hnot]
  · have : ¬ s = x := fun e => hs e.symm
    simp [hs, this]
end Go.Proofs.Ytenokheiindfkab
