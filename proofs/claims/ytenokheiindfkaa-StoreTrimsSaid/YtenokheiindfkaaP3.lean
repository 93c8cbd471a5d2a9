/- The plain law of StoreTrims; Versions. -/
import Derived.Test.YtenokheiindfkaaS9
set_option linter.unusedVariables false
set_option linter.unusedSimpArgs false
set_option maxRecDepth 10000
namespace Go.Proofs.Ytenokheiindfkaa
open Go.VW
/-- What a row is behind i commits of its key, alone, where mo versions stay. -/
structure TI (mo i : Nat) (r : Row) : Prop where
  len : r.list.length = min i mo
  dr : r.dropped = decide (mo < i)
  num : ∀ (t : Nat) x, r.list[t]? = some x → x.n = (i : Int) - r.list.length + 1 + t
theorem TI.put {mo i : Nat} {r : Row} (hm : 1 ≤ mo) (h : TI mo i r) (x : Wr) : TI mo (i + 1) (r.put mo ((i : Int) + 1) x) := by
  have hl := h.len
  unfold Row.put
  split
  · rename_i hlt
    have hl1 : r.list.length = mo := by omega
    have e : r.list.length + 1 - mo = 1 := by omega
    rw [e]
    refine ⟨by simp; omega, (decide_eq_true (by omega)).symm, fun t y hy => ?_⟩
    have e2 : ((r.list ++ [verOf ((i : Int) + 1) x]).drop 1).length = mo := by simp; omega
    simp only [e2]
    rw [List.getElem?_drop] at hy
    rcases Nat.lt_or_ge (1 + t) r.list.length with ht | ht
    · rw [List.getElem?_append_left ht] at hy
      have := h.num _ y hy
      omega
    · rw [List.getElem?_append_right ht] at hy
      have h0 : 1 + t - r.list.length = 0 := by
        cases hq : 1 + t - r.list.length with
        | zero => rfl
        | succ q => rw [hq] at hy; simp at hy
      rw [h0] at hy
      simp at hy
      subst hy
      show (i : Int) + 1 = _
      omega
  · rename_i hlt
    refine ⟨by simp; omega, ?_, fun t y hy => ?_⟩
    · rw [h.dr, decide_eq_false (by omega : ¬ mo < i), decide_eq_false (by omega : ¬ mo < i + 1)]
    · have e2 : (r.list ++ [verOf ((i : Int) + 1) x]).length = r.list.length + 1 := by simp
      simp only [e2]
      rcases Nat.lt_or_ge t r.list.length with ht | ht
      · rw [List.getElem?_append_left ht] at hy
        have := h.num _ y hy
        omega
      · rw [List.getElem?_append_right ht] at hy
        have h0 : t - r.list.length = 0 := by
          cases hq : t - r.list.length with
          | zero => rfl
          | succ q => rw [hq] at hy; simp at hy
        rw [h0] at hy
        simp at hy
        subst hy
        show (i : Int) + 1 = _
        omega
theorem commit1 {st : St} {x : Wr} (hc : chk [x] = 0) (hl : st.last < 1099511627776) : st.commit [x] = ((st.last + 1, 0), ⟨put st.most (st.last + 1) st.rows x, st.most, st.last + 1⟩) := by
  have h2 : ¬ 1099511627776 ≤ st.last := by omega
  simp only [St.commit, hc, ne_eq, not_true_eq_false, if_false, h2, List.foldl_cons, List.foldl_nil]
theorem commit1_row {st : St} {x : Wr} (hc : chk [x] = 0) (hl : st.last < 1099511627776) (k : ByteArray) : (st.commit [x]).2.row k = if x.key = k then (st.row x.key).put st.most (st.last + 1) x else st.row k := by
  rw [commit1 hc hl]
  unfold St.row
  simp only
  unfold put
  rw [aget_aset]
  split <;> rfl
abbrev tK : ByteArray := ⟨#[107]⟩
abbrev tN : ByteArray := ⟨#[110, 111, 110, 101]⟩
abbrev wK : Wr := ⟨⟨#[107]⟩, true, ⟨#[118]⟩⟩
abbrev wO : Wr := ⟨⟨#[111, 116, 104, 101, 114]⟩, true, ⟨#[]⟩⟩
theorem chk_wK : chk [wK] = 0 := by kernel_rfl
theorem chk_wO : chk [wO] = 0 := by kernel_rfl
theorem oldest_TI {mo i : Nat} {st : St} {k : ByteArray} (hm : 1 ≤ mo) (h : TI mo i (st.row k)) : st.oldest k = if mo < i then (i : Int) - mo + 1 else 0 := by
  have hl := h.len
  unfold St.oldest
  rw [h.dr]
  by_cases hlt : mo < i
  · simp only [hlt, decide_true, if_true]
    cases hr : (st.row k).list with
    | nil => rw [hr] at hl; simp at hl; omega
    | cons x l =>
      have := h.num 0 x (by rw [hr]; rfl)
      simp
      omega
  · simp [hlt]
theorem versions_spec {b bm : Nat} {st : St} {w : World} {key : ByteArray} {K : Value → World → Prop} (h : StoreAt w b bm st) (hwf : st.WF)
    (hK : ∀ v w', Own 3 106 w' v (st.row key).list.length (cellsOf encVer (st.row key).list) → Fr [] w w' → (∀ b, v.ownBlock = some b → w.heap.size ≤ b) → K v w') :
    CallsN Try.prog 24 [.pointer (some ⟨b, 0, none⟩), .string key] w K := by
  have cw := cur w
  have hb := h.head
  obtain ⟨es, o, hbo, hm, s, hv, hs, hbt⟩ := h.rows.get key
  change (aget es key).getD rowZ = .agg ([s, .bool (st.row key).dropped] : List Value).toArray at hv
  change SlOf 3 encVer w s (st.row key).list at hs
  have hmv := fun orig K => mapV_at inj_string hm orig K
  obtain ⟨a, cp, hsv⟩ := hs.form
  have hle := (hwf.row key).1
  have hm2 := hwf.m2
  refine call24 ?_
  simp (maxSteps := 4000000) (disch := (first | assumption | exact List.not_mem_nil | ((repeat (first | assumption | apply cur_alloc | apply cur_setB | apply cur_drew | apply cur_drewN)); done) | omega | (simp only [gz, Value.cells, oneC]; first | done | omega) | ((simp only [List.mem_cons, List.not_mem_nil, or_false, gz]); omega) | rfl)) only [↓gsd, gs, ev, Nat.reduceAdd, Nat.reduceEqDiff, oneC, Value.cells, Option.isNone, gt, ↓hk24, hb, hbo, hmv, hv, hsv]
  rw [← hsv]
  exact clone_spec hs (by omega) hK
end Go.Proofs.Ytenokheiindfkaa
