/- OriginTells: the plain law. -/
import Derived.Test.YtgloomahpjpiiaaON
set_option linter.unusedVariables false
set_option linter.unusedSimpArgs false
set_option maxRecDepth 10000
namespace Go.Proofs.Ytgloomahpjpiiaa.Or
open Go.VW
theorem idx_gt_n {l : List St.Ver} {c : Int} : ∀ (x : St.Ver), l[St.idx l c]? = some x → c < x.n := by
  induction l with
  | nil => intro x hx; simp at hx
  | cons a l ih =>
    intro x hx
    by_cases ha : a.n ≤ c
    · exact ih x (by simpa [St.idx, ha] using hx)
    · have : St.idx (a :: l) c = 0 := by simp [St.idx, ha]
      rw [this] at hx
      simp at hx; subst hx; omega
theorem idx_le_n {l : List St.Ver} {c : Int} : ∀ (t : Nat) (x : St.Ver), t < St.idx l c → l[t]? = some x → x.n ≤ c := by
  induction l with
  | nil => intro t x ht hx; simp at hx
  | cons a l ih =>
    intro t x ht hx
    by_cases ha : a.n ≤ c
    · cases t with
      | zero => simp at hx; subst hx; exact ha
      | succ t => exact ih t x (by simp [St.idx, ha] at ht ⊢; omega) (by simpa using hx)
    · simp [St.idx, ha] at ht
theorem sorted_le {l : List St.Ver} (hs : l.Pairwise fun a b => a.n < b.n) {i j : Nat} {x y : St.Ver} (hij : i ≤ j) (hx : l[i]? = some x) (hy : l[j]? = some y) : x.n ≤ y.n := by
  rcases Nat.lt_or_eq_of_le hij with h | h
  · obtain ⟨h1, rfl⟩ := List.getElem?_eq_some_iff.1 hx
    obtain ⟨h2, rfl⟩ := List.getElem?_eq_some_iff.1 hy
    exact Int.le_of_lt (List.pairwise_iff_getElem.1 hs i j h1 h2 h)
  · subst h
    rw [hx] at hy; cases hy; exact Int.le_refl _
/-- A fact holds at each of its commits. -/
theorem idx_same {l : List St.Ver} (hs : l.Pairwise fun a b => a.n < b.n) {key : ByteArray} {c d : Int} (h1 : (St.mkFact key l c).lo ≤ d) (h2 : d < (St.mkFact key l c).hi) (hb : ∀ x ∈ l, x.n < 4611686018427387904) : St.idx l d = St.idx l c := by
  have hle := St.idx_le l c
  refine St.idx_eq hle (fun t x ht hx => ?_) (fun t x ht hx => ?_)
  · have hi : l[St.idx l c - 1]? = some (l[St.idx l c - 1]'(by omega)) := List.getElem?_eq_getElem (by omega)
    have := sorted_le hs (by omega) hx hi
    have e : (St.mkFact key l c).lo = (l[St.idx l c - 1]'(by omega)).n := by
      simp only [St.mkFact, St.prev, if_neg (show ¬ St.idx l c = 0 by omega), hi, Option.map_some, Option.getD_some]
    omega
  · have htl := (List.getElem?_eq_some_iff.1 hx).1
    have hi : l[St.idx l c]? = some (l[St.idx l c]'(by omega)) := List.getElem?_eq_getElem (by omega)
    have := sorted_le hs ht hi hx
    have e : (St.mkFact key l c).hi = (l[St.idx l c]'(by omega)).n := by
      simp only [St.mkFact, hi, Option.map_some, Option.getD_some]
    omega
theorem mkFact_lo {l : List St.Ver} {key : ByteArray} {c : Int} (h0 : 0 ≤ c) : (St.mkFact key l c).lo ≤ c := by
  unfold St.mkFact St.prev
  simp only
  split
  · simpa using h0
  · rename_i h
    have hle := St.idx_le l c
    have hi : l[St.idx l c - 1]? = some (l[St.idx l c - 1]'(by omega)) := List.getElem?_eq_getElem (by omega)
    have := idx_le_n (c := c) (St.idx l c - 1) _ (by omega) hi
    rw [hi]
    exact this
theorem mkFact_hi {l : List St.Ver} {key : ByteArray} {c : Int} (hc : c < 4611686018427387904) : c < (St.mkFact key l c).hi := by
  unfold St.mkFact
  simp only
  cases hx : l[St.idx l c]? with
  | none => exact hc
  | some x => exact idx_gt_n x hx
theorem oldest_nn {st : St.St} (hwf : st.WF) (key : ByteArray) : 0 ≤ st.oldest key := by
  obtain ⟨hlen, hsort, hb, hne⟩ := hwf.row key
  unfold St.St.oldest
  cases hd : (st.row key).dropped with
  | false => simp
  | true =>
    cases hr : (st.row key).list with
    | nil => exact absurd hr (hne hd)
    | cons x l =>
      have := hb x (by rw [hr]; exact List.mem_cons_self ..)
      simp; omega
def m5 (key : ByteArray) (lo hi : Int) : Msg := { msg0 with kind := 5, tx := 1, seq := 9, key := key, plo := lo, phi := hi }
theorem chk_m5 {key : ByteArray} {lo hi : Int} (h0 : 0 ≤ lo) (h1 : hi < 256) : chkM (m5 key lo hi) [] [] = if 1 ≤ key.size ∧ key.size ≤ 32 ∧ lo < hi then 0 else 1 := by
  have z : zB (blankM (m5 key lo hi)) = true := rfl
  have n : numsB (m5 key lo hi) = true := rfl
  have t : thingsB (m5 key lo hi) [] [] = (gKey key && gPin lo hi) := rfl
  have b : btw (m5 key lo hi).kind 1 11 = true := rfl
  unfold chkM
  rw [if_pos b, z, n, t]
  simp only [Bool.true_and]
  have hk : gKey key = true ↔ 1 ≤ key.size ∧ key.size ≤ 32 := by
    unfold gKey
    by_cases h : key = ⟨#[]⟩
    · subst h; decide
    · have : ¬ key.size = 0 := fun e => h (by
        cases hk : key with
        | mk d => rw [hk] at e; have : d.size = 0 := e; rw [Array.eq_empty_of_size_eq_zero this])
      rw [decide_eq_false h]
      simp
      omega
  have hp : gPin lo hi = true ↔ lo < hi := by
    unfold gPin
    simp
    omega
  by_cases h : 1 ≤ key.size ∧ key.size ≤ 32 ∧ lo < hi
  · have e : (gKey key && gPin lo hi) = true := by rw [Bool.and_eq_true]; exact ⟨hk.2 ⟨h.1, h.2.1⟩, hp.2 h.2.2⟩
    rw [if_pos h, e]
    simp
  · have e : (gKey key && gPin lo hi) = false := by
      rw [Bool.eq_false_iff]
      intro q
      rw [Bool.and_eq_true] at q
      exact h ⟨(hk.1 q.1).1, (hk.1 q.1).2, hp.1 q.2⟩
    rw [if_neg h, e]
    simp
def toldA (has : Bool) (data : ByteArray) (lo hi : Int) : Ans := ⟨{ msg0 with kind := 6, tx := 1, seq := 9, vh := has, vd := data, plo := lo, phi := hi }, []⟩
def fillA (node : Int) (key : ByteArray) (has : Bool) (data : ByteArray) (lo hi n : Int) : Ans := ⟨{ msg0 with kind := 7, node := node, key := key, vh := has, vd := data, plo := lo, phi := hi, n := n }, []⟩
def errA (er : Int) : Ans := ⟨{ msg0 with kind := 6, tx := 1, seq := 9, err := er }, []⟩
/-- What a read is told. -/
theorem tells {o : Ori} (hwf : o.st.WF) {key : ByteArray} {lo hi : Int} (h0 : 0 ≤ lo) (h1 : hi < 256) :
    (¬ (1 ≤ key.size ∧ key.size ≤ 32 ∧ lo < hi) ∧ o.handle (m5 key lo hi) [] [] = ([], o)) ∨
    ((1 ≤ key.size ∧ key.size ≤ 32 ∧ lo < hi) ∧ ((∃ er, er ≠ 0 ∧ o.handle (m5 key lo hi) [] [] = ([errA er], o) ∧ ((er = 21 ∧ o.st.last < lo) ∨ (er = 20 ∧ min (hi - 1) o.st.last < o.st.oldest key))) ∨
      ∃ has data flo fhi t node, o.handle (m5 key lo hi) [] [] = ([toldA has data flo t, fillA node key has data flo fhi o.st.last], o) ∧ flo < t ∧ max flo lo < min t hi ∧ t ≤ o.st.last + 1 ∧
        ∀ c, max flo (o.st.oldest key) ≤ c → c < t → (o.st.read key c).2 = 0 ∧ (o.st.read key c).1.has = has ∧ (o.st.read key c).1.data = data)) := by
  have hc := chk_m5 (key := key) (lo := lo) (hi := hi) h0 h1
  by_cases g : 1 ≤ key.size ∧ key.size ≤ 32 ∧ lo < hi
  · rw [if_pos g] at hc
    refine .inr ⟨g, ?_⟩
    have hh : o.handle (m5 key lo hi) [] [] = (o.read (m5 key lo hi), o) := by
      unfold Ori.handle; rw [if_pos hc]; rfl
    rw [hh]
    have hl0 := hwf.l0
    have hl1 := hwf.l1
    by_cases ha : o.st.last < lo
    · refine .inl ⟨21, by decide, ?_, .inl ⟨rfl, ha⟩⟩
      unfold Ori.read
      rw [if_pos (show o.st.last < (m5 key lo hi).plo from ha)]
      rfl
    · have hr : o.rd (m5 key lo hi) = o.st.read key (min (hi - 1) o.st.last) := rfl
      have hgk : St.goodKey key = true := by
        unfold St.goodKey
        simp only [Bool.and_eq_true, decide_eq_true_eq]; omega
      obtain ⟨c0, hc0⟩ : ∃ c0, c0 = min (hi - 1) o.st.last := ⟨_, rfl⟩
      have a1 : ¬ (St.goodKey key = false ∨ c0 < 0) := by simp [hgk]; omega
      by_cases ho : c0 < o.st.oldest key
      · have hrr : o.rd (m5 key lo hi) = (St.fact0, 20) := by
          rw [hr, ← hc0]
          simp only [St.St.read, if_neg a1, if_neg (show ¬ o.st.last < c0 by omega), if_pos ho]
        refine .inl ⟨20, by decide, ?_, .inr ⟨rfl, by rw [← hc0]; exact ho⟩⟩
        unfold Ori.read
        rw [if_neg (show ¬ o.st.last < (m5 key lo hi).plo from ha), hrr]
        rfl
      · obtain ⟨l, hl⟩ : ∃ l, l = (o.st.row key).list := ⟨_, rfl⟩
        have hrd : ∀ c, 0 ≤ c → c ≤ o.st.last → o.st.oldest key ≤ c → o.st.read key c = (St.mkFact key l c, 0) := fun c q0 q1 q2 => by
          have a2 : ¬ (St.goodKey key = false ∨ c < 0) := by simp [hgk]; omega
          simp only [St.St.read, if_neg a2, if_neg (show ¬ o.st.last < c by omega), if_neg (show ¬ c < o.st.oldest key by omega), hl]
        have hrr : o.rd (m5 key lo hi) = (St.mkFact key l c0, 0) := by
          rw [hr, ← hc0]
          exact hrd c0 (by omega) (by omega) (by omega)
        obtain ⟨hlen, hsort, hb, hne⟩ := hwf.row key
        rw [← hl] at hsort hb
        have f1 := mkFact_lo (l := l) (key := key) (c := c0) (by omega)
        have f2 := mkFact_hi (l := l) (key := key) (c := c0) (by omega)
        have f0 : 0 ≤ (St.mkFact key l c0).lo := by
          unfold St.mkFact St.prev
          simp only
          split
          · simp
          · cases hx : l[St.idx l c0 - 1]? with
            | none => simp
            | some x =>
              have := hb x (List.mem_of_getElem? hx)
              simp; omega
        refine .inr ⟨(St.mkFact key l c0).has, (St.mkFact key l c0).data, (St.mkFact key l c0).lo, (St.mkFact key l c0).hi, min (St.mkFact key l c0).hi (o.st.last + 1), toI key o.cfg.nodes, ?_, by omega, by omega, by omega, fun c q1 q2 => ?_⟩
        · unfold Ori.read
          rw [if_neg (show ¬ o.st.last < (m5 key lo hi).plo from ha), hrr]
          rfl
        · rw [hrd c (by omega) (by omega) (by omega)]
          have := idx_same hsort (key := key) (c := c0) (d := c) (by omega) (by omega) (fun x hx => by have := hb x hx; omega)
          refine ⟨rfl, ?_, ?_⟩
          · simp only [St.mkFact, this]
          · simp only [St.mkFact, this]
  · rw [if_neg g] at hc
    refine .inl ⟨g, ?_⟩
    unfold Ori.handle; rw [if_neg (by rw [hc]; decide)]
end Go.Proofs.Ytgloomahpjpiiaa.Or
