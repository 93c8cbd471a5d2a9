/- The store's whole history, and what a store keeps of it. The reference's store, within the reference's origin: Check, All, Oldest, Truth, Read, Commit. -/
import Derived.Test.YtgloomahpjpiiaaGreatS7
import Derived.Test.YtgloomahpjpiiaaGreatPA
set_option linter.unusedVariables false
set_option linter.unusedSimpArgs false
set_option maxRecDepth 10000
namespace Go.Proofs.YtgloomahpjpiiaaGreat.St
open Go.VW
abbrev Ks := List ByteArray
def fnd (ws : List Wr) (key : ByteArray) : Option Wr := ws.find? fun x => decide (x.key = key)
def hstep (key : ByteArray) (p : Int × List Ver) (ws : List Wr) : Int × List Ver := (p.1 + 1, match fnd ws key with | some x => p.2 ++ [verOf (p.1 + 1) x] | none => p.2)
def hist (own : List (List Wr)) (key : ByteArray) : Int × List Ver := own.foldl (hstep key) (0, [])
def hv (own : List (List Wr)) (key : ByteArray) : List Ver := (hist own key).2
theorem hfold (key : ByteArray) : ∀ (l : List (List Wr)) (p : Int) (H : List Ver), ∃ rest, l.foldl (hstep key) (p, H) = (p + l.length, H ++ rest) ∧ ∀ x ∈ rest, p < x.n ∧ x.n ≤ p + l.length
 | [], p, H => ⟨[], by simp, by simp⟩
 | ws :: l, p, H => by
   simp only [List.foldl_cons, hstep]
   cases hf : fnd ws key with
   | none =>
     obtain ⟨rest, h1, h2⟩ := hfold key l (p + 1) H
     refine ⟨rest, ?_, fun x hx => ?_⟩
     ·rw [h1]; simp; omega
     ·have := h2 x hx
      simp only [List.length_cons]; omega
   | some y =>
     obtain ⟨rest, h1, h2⟩ := hfold key l (p + 1) (H ++ [verOf (p + 1) y])
     refine ⟨verOf (p + 1) y :: rest, ?_, fun x hx => ?_⟩
     ·simp only [h1]; simp; omega
     ·simp only [List.length_cons]
      rcases List.mem_cons.1 hx with rfl | hx
      ·show p < p + 1 ∧ p + 1 ≤ _; omega
      ·have := h2 x hx; omega
theorem hist_len (own : List (List Wr)) (key : ByteArray) : (hist own key).1 = own.length := by
 obtain ⟨rest, h, _⟩ := hfold key own 0 []
 unfold hist; rw [h]; simp
theorem hv_bound (own : List (List Wr)) (key : ByteArray) : ∀ x ∈ hv own key, 0 < x.n ∧ x.n ≤ own.length := by
 obtain ⟨rest, h, h2⟩ := hfold key own 0 []
 unfold hv hist; rw [h]
 intro x hx
 have := h2 x (by simpa using hx)
 omega
theorem hv_snoc (own : List (List Wr)) (ws : List Wr) (key : ByteArray) : hv (own ++ [ws]) key = match fnd ws key with | some x => hv own key ++ [verOf ((own.length : Int) + 1) x] | none => hv own key := by
 unfold hv
 have : hist (own ++ [ws]) key = hstep key (hist own key) ws := by unfold hist; rw [List.foldl_append]; rfl
 rw [this]
 unfold hstep
 rw [hist_len]
theorem fold_row {most : Nat} {n : Int} (key : ByteArray) : ∀ (ws : List Wr) (rows : Rows), (ws.map (·.key)).Nodup →
  (aget (ws.foldl (put most n) rows) key).getD ⟨[], false⟩ = match fnd ws key with | some x => ((aget rows key).getD ⟨[], false⟩).put most n x | none => (aget rows key).getD ⟨[], false⟩
 | [], rows, _ => rfl
 | x :: ws, rows, hn => by
   simp only [List.map_cons, List.nodup_cons] at hn
   rw [List.foldl_cons, fold_row key ws _ hn.2]
   unfold fnd put
   rw [List.find?_cons, aget_aset]
   by_cases hk : x.key = key
   ·have : ws.find? (fun y => decide (y.key = key)) = none := by
     rw [List.find?_eq_none]
     intro y hy
     simp only [decide_eq_true_eq]
     exact fun e => hn.1 (List.mem_map.2 ⟨y, hy, by rw [e, hk]⟩)
    rw [this]
    simp [hk]
   ·simp [hk]
theorem idx_le_n {l : List Ver} {c : Int} : ∀ (t : Nat) (x : Ver), t < idx l c → l[t]? = some x → x.n ≤ c := by
 induction l with
 | nil => intro t x ht hx; simp at hx
 | cons a l ih =>
   intro t x ht hx
   by_cases ha : a.n ≤ c
   ·cases t with
    | zero => simp at hx; subst hx; exact ha
    | succ t => exact ih t x (by simp [idx, ha] at ht ⊢; omega) (by simpa using hx)
   ·simp [idx, ha] at ht
theorem idx_gt_n {l : List Ver} {c : Int} : ∀ (x : Ver), l[idx l c]? = some x → c < x.n := by
 induction l with
 | nil => intro x hx; simp at hx
 | cons a l ih =>
   intro x hx
   by_cases ha : a.n ≤ c
   ·exact ih x (by simpa [idx, ha] using hx)
   ·have : idx (a :: l) c = 0 := by simp [idx, ha]
    rw [this] at hx
    simp at hx; subst hx; omega
theorem size0 {x : ByteArray} (h : x.size = 0) : x = ⟨#[]⟩ := by
 cases x with
 | mk d =>
   have : d.size = 0 := h
   rw [Array.eq_empty_of_size_eq_zero this]
theorem goodKey_iff (k : ByteArray) : goodKey k = (!decide (k = ⟨#[]⟩) && decide ((k.size : Int) ≤ 32)) := by
 unfold goodKey
 by_cases h : k = ⟨#[]⟩
 ·subst h; rfl
 ·have : ¬ k.size = 0 := fun e => h (size0 e)
  rw [decide_eq_false h, decide_eq_true (by omega : (1 : Int) ≤ (k.size : Int))]; rfl
def goodVal (h : Bool) (d : ByteArray) : Bool := decide ((d.size : Int) ≤ 256) && (h || decide (d = ⟨#[]⟩))
theorem goodWr_eq (x : Wr) : goodWr x = (goodKey x.key && goodVal x.has x.data) := rfl
theorem chk_bad {ws : List Wr} (h0 : ¬ (ws.length = 0 ∨ 8 < ws.length)) {x : Wr} (hx : x ∈ ws) (hb : goodWr x = false) : chk ws = 1 := by
 unfold chk
 rw [if_neg h0, if_neg]
 intro h
 rw [List.all_eq_true] at h
 rw [h x hx] at hb; cases hb
theorem chk_end {ws : List Wr} (h0 : ¬ (ws.length = 0 ∨ 8 < ws.length)) (hb : ∀ (j : Nat) y, j < ws.length → ws[j]? = some y → goodWr y = true) : chk ws = if (ws.map (·.key)).Nodup then 0 else 22 := by
 unfold chk
 rw [if_neg h0, if_pos]
 rw [List.all_eq_true]
 intro x hx
 obtain ⟨j, hj⟩ := List.getElem?_of_mem hx
 exact hb j x (List.getElem?_eq_some_iff.1 hj).1 hj
theorem nodup_of {ks : Ks} (h : ∀ j k y z, k < j → j < ks.length → ks[j]? = some y → ks[k]? = some z → z ≠ y) : ks.Nodup := by
 rw [List.Nodup, List.pairwise_iff_getElem]
 intro i j hi hj hij
 exact h j i _ _ hij hj (List.getElem?_eq_getElem hj) (List.getElem?_eq_getElem hi)
theorem not_nodup {ks : Ks} {j k : Nat} {y : ByteArray} (hkj : k < j) (hj : ks[j]? = some y) (hk : ks[k]? = some y) : ¬ ks.Nodup := by
 intro h
 rw [List.Nodup, List.pairwise_iff_getElem] at h
 obtain ⟨h1, h2⟩ := List.getElem?_eq_some_iff.1 hj
 obtain ⟨h3, h4⟩ := List.getElem?_eq_some_iff.1 hk
 exact h k j h3 h1 hkj (by rw [h2, h4])
theorem SlOf.wval {w : World} {v : Value} {ws : List Wr} {i : Nat} {x : Wr} (h : SlOf 3 encWr w v ws) (hx : ws[i]? = some x) : ∃ b off cap o, v = .slice (some ⟨b, off, none⟩) ws.length cap ∧ w.heap[b]? = some o ∧ b < w.heap.size ∧ (∀ orig K, ldV orig (some o) (off + i * 3) K = K (.string x.key)) ∧
  (∀ orig K, ldnV orig 2 (some o) (off + i * 3 + 1) K = K (.agg ([.bool x.has, .string x.data] : List Value).toArray)) ∧ ∀ orig K, ldnV orig 3 (some o) (off + i * 3) K = K (.agg (encWr x).toArray) := by
 obtain ⟨b, off, cap, o, hv, ho, hl, hr, hc⟩ := h.read encWr_len i x hx
 refine ⟨b, off, cap, o, hv, ho, hl, fun orig K => by have := hc 0 (.string x.key) orig K rfl; simpa using this, fun orig K => ?_, hr⟩
 obtain ⟨b', off', cap', c, et, fr, hv', hb, hg, hd⟩ := h.elem encWr_len i x hx
 rw [hv] at hv'
 simp only [Value.slice.injEq, Option.some.injEq, Addr.mk.injEq] at hv'
 obtain ⟨⟨rfl, rfl, _⟩, _, _⟩ := hv'
 rw [hb] at ho
 cases ho
 have e : (c.toList.drop (off + i * 3 + 1)).take 2 = [.bool x.has, .string x.data] := by
  have : (c.toList.drop (off + i * 3 + 1)).take 2 = ((c.toList.drop (off + i * 3)).take 3).drop 1 := by
   rw [List.drop_take, List.drop_drop]
  rw [this, hd]; rfl
 rw [ldnV_cells _ _ _ _ _ _ _ (by rw [e]; rfl), e]
theorem mem_blkL {v : Value} {b : Nat} : b ∈ blkL v ↔ v.ownBlock = some b := by
 unfold blkL
 split
 ·rename_i g hg; rw [hg]; simp; exact eq_comm
 ·rename_i hg; rw [hg]; simp
theorem own_ne {k k' n n' : Nat} {e e' : TypeId} {w : World} {v v' : Value} {cs cs' : List Value} (h : Own k e w v n cs) (h' : Own k' e' w v' n' cs') (he : e ≠ e') : ∀ b, v.ownBlock = some b → v'.ownBlock ≠ some b := by
 intro b hb hb'
 rcases h.2 with ⟨rfl, _⟩ | ⟨g, cap, cur, rfl, _, hg, _⟩
 ·simp [Value.ownBlock] at hb
 ·rcases h'.2 with ⟨rfl, _⟩ | ⟨g', cap', cur', rfl, _, hg', _⟩
  ·simp [Value.ownBlock] at hb'
  ·simp [Value.ownBlock] at hb hb'
   subst hb; subst hb'
   rw [hg] at hg'
   cases hg'
   exact he rfl
theorem own_head {k n : Nat} {e t : TypeId} {w : World} {v : Value} {cs : List Value} {b : Nat} {c : Array Value} {fr : Nat × Nat} (h : Own k e w v n cs) (hb : w.heap[b]? = some (.cells c t fr)) (he : e ≠ t) : v.ownBlock ≠ some b := by
 intro hb'
 rcases h.2 with ⟨rfl, _⟩ | ⟨g, cap, cur, rfl, _, hg, _⟩
 ·simp [Value.ownBlock] at hb'
 ·simp [Value.ownBlock] at hb'
  subst hb'
  rw [hg] at hb
  cases hb
  exact he rfl
theorem Own.frN {k n : Nat} {e : TypeId} {w w' : World} {v : Value} {cs : List Value} (h : Own k e w v n cs) (hf : Fr [] w w') : Own k e w' v n cs := h.fr (M := []) hf (by simp)
theorem fresh_app {w w1 w2 : World} {v : Value} (h1 : ∀ b, v.ownBlock = some b → w.heap.size ≤ b) (hf : Fr (blkL v) w1 w2) (h : Fr [] w w1) : Fr [] w w2 := h.trans hf fun x hx => .inr (h1 x (mem_blkL.1 hx))
abbrev Past := Int × Wr
def encPast (p : Past) : List Value := [.int .i64 p.1, .string p.2.key, .bool p.2.has, .string p.2.data]
theorem encPast_len (p : Past) : (encPast p).length = 4 := rfl
def past (own : List (List Wr)) : List Past := own.zipIdx.flatMap fun q => q.1.map fun x => ((q.2 : Int) + 1, x)
theorem past_snoc (own : List (List Wr)) (ws : List Wr) : past (own ++ [ws]) = past own ++ ws.map fun x => ((own.length : Int) + 1, x) := by
 unfold past
 rw [List.zipIdx_append, List.flatMap_append]
 simp
def allP (ps : List Past) (key : ByteArray) : List Ver := (ps.filter fun p => decide (p.2.key = key)).map fun p => verOf p.1 p.2
theorem allP_app (ps qs : List Past) (key : ByteArray) : allP (ps ++ qs) key = allP ps key ++ allP qs key := by
 unfold allP; rw [List.filter_append, List.map_append]
theorem allP_ws {ws : List Wr} (n : Int) (key : ByteArray) (hn : (ws.map (·.key)).Nodup) : allP (ws.map fun x => (n, x)) key = match fnd ws key with | some x => [verOf n x] | none => [] := by
 induction ws with
 | nil => rfl
 | cons x ws ih =>
   simp only [List.map_cons, List.nodup_cons] at hn
   unfold fnd
   rw [List.find?_cons]
   by_cases hk : x.key = key
   ·have : ∀ l : List Wr, (∀ y ∈ l, y.key ≠ key) → allP (l.map fun x => (n, x)) key = [] := by
     intro l hl
     unfold allP
     rw [List.map_eq_nil_iff, List.filter_eq_nil_iff]
     intro p hp
     obtain ⟨y, hy, rfl⟩ := List.mem_map.1 hp
     simpa using hl y hy
    have h2 := this ws fun y hy e => hn.1 (List.mem_map.2 ⟨y, hy, by rw [e, hk]⟩)
    have h1 : allP ((x :: ws).map fun x => (n, x)) key = verOf n x :: allP (ws.map fun x => (n, x)) key := by simp [allP, hk]
    rw [h1, h2]
    simp [hk]
   ·have h1 : allP ((x :: ws).map fun x => (n, x)) key = allP (ws.map fun x => (n, x)) key := by simp [allP, hk]
    rw [h1, ih hn.2]
    simp [hk, fnd]
theorem list_snoc {α : Type} {P : List α → Prop} (h0 : P []) (h1 : ∀ l a, P l → P (l ++ [a])) : ∀ l, P l := by
 intro l
 have : ∀ r : List α, P r.reverse := fun r => by
  induction r with
  | nil => exact h0
  | cons a r ih => rw [List.reverse_cons]; exact h1 _ _ ih
 have := this l.reverse
 rwa [List.reverse_reverse] at this
theorem all_hv (key : ByteArray) : ∀ own : List (List Wr), (∀ ws ∈ own, chk ws = 0) → allP (past own) key = hv own key := by
 apply list_snoc
 ·intro _; rfl
 ·intro own ws ih hc
  rw [past_snoc, allP_app, ih fun w hw => hc w (List.mem_append_left _ hw), allP_ws _ _ (chk_nodup (hc ws (by simp))), hv_snoc]
  cases fnd ws key <;> simp
theorem past_read {w : World} {v : Value} {ps : List Past} {i : Nat} {p : Past} (h : SlOf 4 encPast w v ps) (hp : ps[i]? = some p) : ∃ b off cap o, v = .slice (some ⟨b, off, none⟩) ps.length cap ∧ w.heap[b]? = some o ∧ b < w.heap.size ∧ (∀ orig K, ldV orig (some o) (off + i * 4) K = K (.int .i64 p.1)) ∧
  (∀ orig K, ldV orig (some o) (off + i * 4 + 1) K = K (.string p.2.key)) ∧ ∀ orig K, ldnV orig 2 (some o) (off + i * 4 + 1 + 1) K = K (.agg ([.bool p.2.has, .string p.2.data] : List Value).toArray) := by
 obtain ⟨b, off, cap, o, hv, ho, hl, hr, hc⟩ := h.read encPast_len i p hp
 refine ⟨b, off, cap, o, hv, ho, hl, fun orig K => by have := hc 0 (.int .i64 p.1) orig K rfl; simpa using this, fun orig K => hc 1 (.string p.2.key) orig K rfl, fun orig K => ?_⟩
 obtain ⟨b', off', cap', c, et, fr, hv', hb, hg, hd⟩ := h.elem encPast_len i p hp
 rw [hv] at hv'
 simp only [Value.slice.injEq, Option.some.injEq, Addr.mk.injEq] at hv'
 obtain ⟨⟨rfl, rfl, _⟩, _, _⟩ := hv'
 rw [hb] at ho
 cases ho
 have e : (c.toList.drop (off + i * 4 + 1 + 1)).take 2 = [.bool p.2.has, .string p.2.data] := by
  have : (c.toList.drop (off + i * 4 + 1 + 1)).take 2 = ((c.toList.drop (off + i * 4)).take 4).drop 2 := by
   rw [List.drop_take, List.drop_drop]
  rw [this, hd]; rfl
 rw [ldnV_cells _ _ _ _ _ _ _ (by rw [e]; rfl), e]
theorem sl_ver {w : World} (x : Ver) : Sl 3 (w.alloc (.cells (encVer x).toArray 94 (0, 0))) (.slice (some ⟨w.heap.size, 0, none⟩) 1 1) 1 (encVer x) :=
 ⟨rfl, .inr ⟨w.heap.size, 0, 1, _, 94, (0, 0), rfl, get_alloc_new _ _, rfl⟩⟩
def keptL (most : Nat) (l : List Ver) : List Ver := l.drop (l.length - most)
theorem Own.cap {k n : Nat} {e : TypeId} {w : World} {v : Value} {cs : List Value} (h : Own k e w v n cs) : ∀ a m c, v = .slice a m c → m ≤ c := by
 intro a m c hv
 rcases h.2 with ⟨rfl, _⟩ | ⟨g, cap, cur, rfl, _, hg, hnc, _⟩
 ·cases hv; exact Nat.le_refl _
 ·cases hv; exact hnc
def oldL (most : Nat) (l : List Ver) : Int := if most < l.length then ((l[l.length - most]?).map (·.n)).getD 0 else 0
/-- The last version that is no newer than c. -/
def loF (l : List Ver) (c : Int) : Option Ver := l.foldl (fun p v => if v.n ≤ c then some v else p) none
theorem loF_snoc (l : List Ver) (x : Ver) (c : Int) : loF (l ++ [x]) c = if x.n ≤ c then some x else loF l c := by
 unfold loF; rw [List.foldl_append]; rfl
theorem loF_prev (c : Int) : ∀ l : List Ver, l.Pairwise (fun a b => a.n < b.n) → loF l c = prev l (idx l c) := by
 apply list_snoc
 ·intro _; rfl
 ·intro l x ih hs
  rw [loF_snoc]
  rw [List.pairwise_append] at hs
  obtain ⟨h1, _, h3⟩ := hs
  have hidx : idx (l ++ [x]) c = if x.n ≤ c then l.length + 1 else idx l c := by
   by_cases hx : x.n ≤ c
   ·rw [if_pos hx]
    refine idx_eq (by simp) (fun t y ht hy => ?_) (fun t y ht hy => ?_)
    ·by_cases htl : t < l.length
     ·rw [List.getElem?_append_left htl] at hy
      have := h3 y (List.mem_of_getElem? hy) x (by simp)
      omega
     ·have : t = l.length := by omega
      subst this
      rw [List.getElem?_concat_length] at hy; cases hy; exact hx
    ·rw [List.getElem?_eq_none (by simp; omega)] at hy; cases hy
   ·rw [if_neg hx]
    have hle := idx_le l c
    refine idx_eq (by simp; omega) (fun t y ht hy => ?_) (fun t y ht hy => ?_)
    ·rw [List.getElem?_append_left (by omega)] at hy
     exact idx_le_n t y ht hy
    ·by_cases htl : t < l.length
     ·rw [List.getElem?_append_left htl] at hy
      by_cases hti : t = idx l c
      ·subst hti; exact idx_gt_n y hy
      ·obtain ⟨z, hz⟩ : ∃ z, l[idx l c]? = some z := ⟨l[idx l c]'(by omega), List.getElem?_eq_getElem (by omega)⟩
       have a1 := idx_gt_n z hz
       obtain ⟨g1, g2⟩ := List.getElem?_eq_some_iff.1 hz
       obtain ⟨g3, g4⟩ := List.getElem?_eq_some_iff.1 hy
       have a2 := List.pairwise_iff_getElem.1 h1 (idx l c) t g1 g3 (by omega)
       rw [g2, g4] at a2
       omega
     ·have hlt := (List.getElem?_eq_some_iff.1 hy).1
      simp only [List.length_append, List.length_cons, List.length_nil] at hlt
      have : t = l.length := by omega
      subst this
      rw [List.getElem?_concat_length] at hy; cases hy; omega
  rw [hidx]
  by_cases hx : x.n ≤ c
  ·rw [if_pos hx, if_pos hx]
   unfold prev
   rw [if_neg (by omega), Nat.add_sub_cancel, List.getElem?_concat_length]
  ·rw [if_neg hx, if_neg hx, ih h1]
   unfold prev
   have hle := idx_le l c
   split
   ·rfl
   ·rw [List.getElem?_append_left (by omega)]
def hiF (l : List Ver) (c : Int) : Option Ver := l.find? fun v => decide (c < v.n)
theorem hiF_idx (l : List Ver) (c : Int) : hiF l c = l[idx l c]? := by
 unfold hiF idx
 induction l with
 | nil => rfl
 | cons x l ih =>
   by_cases hx : x.n ≤ c
   ·have h2 : decide (c < x.n) = false := decide_eq_false (by omega)
    rw [List.find?_cons, h2, List.takeWhile_cons, decide_eq_true hx]
    simpa using ih
   ·have h2 : decide (c < x.n) = true := decide_eq_true (by omega)
    rw [List.find?_cons, h2, List.takeWhile_cons, decide_eq_false hx]
    simp
theorem hiF_drop (l : List Ver) (c : Int) {j : Nat} {x : Ver} (hx : l[j]? = some x) : hiF (l.drop j) c = if c < x.n then some x else hiF (l.drop (j + 1)) c := by
 obtain ⟨h1, h2⟩ := List.getElem?_eq_some_iff.1 hx
 rw [List.drop_eq_getElem_cons h1, h2]
 unfold hiF
 rw [List.find?_cons]
 by_cases hc : c < x.n
 ·rw [decide_eq_true hc, if_pos hc]
 ·rw [decide_eq_false hc, if_neg hc]
/-- A fact of a version that begins it and one that ends it. -/
def fOf (key : ByteArray) (a b : Option Ver) : Fact := ⟨key, (a.map (·.has)).getD false, (a.map (·.data)).getD ⟨#[]⟩, (a.map (·.n)).getD 0, (b.map (·.n)).getD 4611686018427387904⟩
theorem ver_read {w : World} {v : Value} {l : List Ver} {i : Nat} {x : Ver} (h : SlOf 3 encVer w v l) (hx : l[i]? = some x) : ∃ b off cap o, v = .slice (some ⟨b, off, none⟩) l.length cap ∧ w.heap[b]? = some o ∧ b < w.heap.size ∧ (∀ orig K, ldV orig (some o) (off + i * 3) K = K (.int .i64 x.n)) ∧
  (∀ orig K, ldnV orig 2 (some o) (off + i * 3 + 1) K = K (.agg ([.bool x.has, .string x.data] : List Value).toArray)) := by
 obtain ⟨b, off, cap, o, hv, ho, hl, hr, hc⟩ := h.read encVer_len i x hx
 exact ⟨b, off, cap, o, hv, ho, hl, fun orig K => by have := hc 0 (.int .i64 x.n) orig K rfl; simpa using this, fun orig K => hpair encVer_len h hx hv ho orig K⟩
def rread (most : Nat) (own : List (List Wr)) (key : ByteArray) (c : Int) : Fact × Int :=
 if goodKey key = false ∨ c < 0 then (fact0, 1) else if (own.length : Int) < c then (fact0, 21) else if c < oldL most (allP (past own) key) then (fact0, 20) else (fOf key (loF (allP (past own) key) c) (hiF (allP (past own) key) c), 0)
def rcommit (own : List (List Wr)) (ws : List Wr) : (Int × Int) × List (List Wr) := if chk ws ≠ 0 then ((0, chk ws), own) else (((own.length : Int) + 1, 0), own ++ [ws])
theorem past_len8 : ∀ own : List (List Wr), (∀ ws ∈ own, chk ws = 0) → (past own).length ≤ 8 * own.length := by
 apply list_snoc
 ·intro _; simp [past]
 ·intro own ws ih hc
  have h1 := ih fun w hw => hc w (List.mem_append_left _ hw)
  have h2 := hc ws (by simp)
  have h3 : ws.length ≤ 8 := by
   unfold chk at h2
   split at h2
   ·cases h2
   ·omega
  rw [past_snoc]
  simp only [List.length_append, List.length_map, List.length_cons, List.length_nil]
  omega
theorem sl_past {w : World} (p : Past) : Sl 4 (w.alloc (.cells (encPast p).toArray 131 (0, 0))) (.slice (some ⟨w.heap.size, 0, none⟩) 1 1) 1 (encPast p) :=
 ⟨rfl, .inr ⟨w.heap.size, 0, 1, _, 131, (0, 0), rfl, get_alloc_new _ _, rfl⟩⟩
structure HistX (st : St) (own : List (List Wr)) : Prop where
 last : st.last = own.length
 chk : ∀ ws ∈ own, chk ws = 0
 rows : ∀ key, st.row key = ⟨keptL st.most (hv own key), decide (st.most < (hv own key).length)⟩
 keys : ∀ k, k ∈ st.rows.map (·.1) ↔ hv own k ≠ []
 nd : (st.rows.map (·.1)).Nodup
theorem HistX.new (n : Int) : HistX (St.new n) [] := ⟨rfl, by simp, fun key => by show (⟨[], false⟩ : Row) = ⟨keptL _ [], decide (_ < 0)⟩; simp [keptL], fun k => by simp [St.new, hv, hist], by simp [St.new]⟩
theorem keys_fold {most : Nat} {n : Int} : ∀ (ws : List Wr) (rows : Rows) (k : ByteArray), k ∈ (ws.foldl (put most n) rows).map (·.1) ↔ k ∈ rows.map (·.1) ∨ ∃ x ∈ ws, x.key = k
 | [], rows, k => by simp
 | x :: ws, rows, k => by
   rw [List.foldl_cons, keys_fold ws]
   unfold put
   rw [keys_aset]
   by_cases hx : x.key ∈ rows.map (·.1)
   ·rw [if_pos hx]
    constructor
    ·rintro (h | ⟨y, hy, e⟩)
     ·exact .inl h
     ·exact .inr ⟨y, List.mem_cons_of_mem _ hy, e⟩
    ·rintro (h | ⟨y, hy, e⟩)
     ·exact .inl h
     ·rcases List.mem_cons.1 hy with rfl | hy
      ·exact .inl (e ▸ hx)
      ·exact .inr ⟨y, hy, e⟩
   ·rw [if_neg hx, List.mem_append]
    constructor
    ·rintro ((h | h) | ⟨y, hy, e⟩)
     ·exact .inl h
     ·simp at h; exact .inr ⟨x, by simp, h.symm⟩
     ·exact .inr ⟨y, List.mem_cons_of_mem _ hy, e⟩
    ·rintro (h | ⟨y, hy, e⟩)
     ·exact .inl (.inl h)
     ·rcases List.mem_cons.1 hy with rfl | hy
      ·exact .inl (.inr (by simp [e]))
      ·exact .inr ⟨y, hy, e⟩
theorem nd_fold {most : Nat} {n : Int} : ∀ (ws : List Wr) (rows : Rows), (rows.map (·.1)).Nodup → ((ws.foldl (put most n) rows).map (·.1)).Nodup
 | [], rows, h => h
 | x :: ws, rows, h => by
   rw [List.foldl_cons]
   exact nd_fold ws _ (nodup_aset _ _ _ h)
theorem fnd_some {ws : List Wr} {k : ByteArray} : (∃ x, fnd ws k = some x) ↔ ∃ x ∈ ws, x.key = k := by
 unfold fnd
 constructor
 ·rintro ⟨x, hx⟩
  have h1 := List.mem_of_find?_eq_some hx
  have h2 := List.find?_some hx
  exact ⟨x, h1, by simpa using h2⟩
 ·rintro ⟨x, hx, e⟩
  cases hf : ws.find? fun x => decide (x.key = k) with
  | some y => exact ⟨y, rfl⟩
  | none =>
    rw [List.find?_eq_none] at hf
    exact absurd e (by simpa using hf x hx)
theorem HistX.commit {st : St} {own : List (List Wr)} (h : HistX st own) (hm1 : 1 ≤ st.most) {ws : List Wr} (hc : Go.Proofs.YtgloomahpjpiiaaGreat.St.chk ws = 0) (hl : st.last < 1099511627776) : HistX (st.commit ws).2 (own ++ [ws]) := by
 have hl' : ¬ 1099511627776 ≤ st.last := by omega
 have e : st.commit ws = ((st.last + 1, 0), ⟨ws.foldl (put st.most (st.last + 1)) st.rows, st.most, st.last + 1⟩) := by simp only [St.commit, hc, ne_eq, not_true_eq_false, if_false, hl']
 rw [e]
 refine ⟨by simp [h.last], fun w hw => ?_, fun key => ?_, fun k => ?_, nd_fold _ _ h.nd⟩
 ·rcases List.mem_append.1 hw with hw | hw
  ·exact h.chk w hw
  ·simp at hw; subst hw; exact hc
 ·have hrow : (⟨ws.foldl (put st.most (st.last + 1)) st.rows, st.most, st.last + 1⟩ : St).row key = match fnd ws key with | some x => (st.row key).put st.most (st.last + 1) x | none => st.row key := fold_row key ws st.rows (chk_nodup hc)
  rw [hrow, hv_snoc]
  cases fnd ws key with
  | none => exact h.rows key
  | some x =>
    simp only
    rw [h.rows key, ← h.last]
    obtain ⟨l, hl⟩ : ∃ l, l = hv own key := ⟨_, rfl⟩
    rw [← hl]
    unfold Row.put
    simp only
    have hkl : (keptL st.most l).length = l.length - (l.length - st.most) := by unfold keptL; rw [List.length_drop]
    by_cases hq : st.most ≤ l.length
    ·rw [if_pos (by omega), decide_eq_true (by simp; omega)]
     congr 1
     have e1 : (keptL st.most l).length + 1 - st.most = 1 := by omega
     rw [e1]
     unfold keptL
     rw [List.length_append, List.length_cons, List.length_nil]
     rw [← List.drop_append_of_le_length (by omega : l.length - st.most ≤ l.length), List.drop_drop]
     congr 1
     omega
    ·rw [if_neg (by omega), decide_eq_false (by omega), decide_eq_false (by simp; omega)]
     congr 1
     unfold keptL
     rw [List.length_append, List.length_cons, List.length_nil]
     rw [show l.length - st.most = 0 by omega, show l.length + (0 + 1) - st.most = 0 by omega]
     rfl
 ·rw [keys_fold, hv_snoc, h.keys, ← fnd_some]
  cases hf : fnd ws k with
  | none => simp
  | some x => simp
theorem hv_sorted (key : ByteArray) : ∀ own : List (List Wr), (hv own key).Pairwise fun a b => a.n < b.n := by
 apply list_snoc
 ·exact .nil
 ·intro own ws ih
  rw [hv_snoc]
  cases fnd ws key with
  | none => exact ih
  | some x =>
    simp only
    rw [List.pairwise_append]
    refine ⟨ih, by simp, fun a ha b hb => ?_⟩
    simp at hb; subst hb
    have := hv_bound own key a ha
    show a.n < (own.length : Int) + 1
    omega
theorem idx_drop {l : List Ver} {c : Int} {d : Nat} (h : ∀ t x, t < d → l[t]? = some x → x.n ≤ c) (hd : d ≤ l.length) : idx l c = d + idx (l.drop d) c := by
 unfold idx
 conv => lhs; rw [← List.take_append_drop d l]
 rw [List.takeWhile_append_of_pos]
 ·rw [List.length_append, List.length_take]; omega
 ·intro x hx
  obtain ⟨i, hi⟩ := List.getElem?_of_mem hx
  have hil := (List.getElem?_eq_some_iff.1 hi).1
  rw [List.length_take] at hil
  rw [List.getElem?_take, if_pos (by omega)] at hi
  exact decide_eq_true (h i x (by omega) hi)
theorem read_eq {st : St} {own : List (List Wr)} (h : HistX st own) (hm1 : 1 ≤ st.most) (key : ByteArray) (c : Int) : st.read key c = rread st.most own key c := by
 have hall := all_hv key own h.chk
 have hold : st.oldest key = oldL st.most (hv own key) := by
  unfold St.oldest oldL
  rw [h.rows key]
  by_cases hq : st.most < (hv own key).length
  ·simp only [hq, decide_true, if_true]
   unfold keptL
   rw [List.head?_drop]
  ·simp [hq]
 unfold St.read rread
 rw [hall, h.last, hold]
 by_cases h1 : goodKey key = false ∨ c < 0
 ·rw [if_pos h1, if_pos h1]
 rw [if_neg h1, if_neg h1]
 by_cases h2 : (own.length : Int) < c
 ·rw [if_pos h2, if_pos h2]
 rw [if_neg h2, if_neg h2]
 by_cases h3 : c < oldL st.most (hv own key)
 ·rw [if_pos h3, if_pos h3]
 rw [if_neg h3, if_neg h3]
 congr 1
 rw [loF_prev c _ (hv_sorted key own), hiF_idx, h.rows key]
 obtain ⟨l, hl⟩ : ∃ l, l = hv own key := ⟨_, rfl⟩
 rw [← hl] at h3 ⊢
 have hs : l.Pairwise fun a b => a.n < b.n := by rw [hl]; exact hv_sorted key own
 have hmk : ∀ l', mkFact key l' c = fOf key (prev l' (idx l' c)) l'[idx l' c]? := fun _ => rfl
 rw [hmk]
 simp only
 unfold keptL
 by_cases hq : st.most < l.length
 ·obtain ⟨x, hx⟩ : ∃ x, l[l.length - st.most]? = some x := ⟨l[l.length - st.most]'(by omega), List.getElem?_eq_getElem (by omega)⟩
  have hxc : x.n ≤ c := by
   unfold oldL at h3
   rw [if_pos hq, hx] at h3
   simpa using h3
  obtain ⟨g1, g2⟩ := List.getElem?_eq_some_iff.1 hx
  have hid := idx_drop (l := l) (c := c) (d := l.length - st.most) (fun t y ht hy => by
   obtain ⟨g3, g4⟩ := List.getElem?_eq_some_iff.1 hy
   have := List.pairwise_iff_getElem.1 hs t (l.length - st.most) g3 g1 ht
   rw [g2, g4] at this
   omega) (by omega)
  have hpos : 1 ≤ idx (l.drop (l.length - st.most)) c := by
   rw [List.drop_eq_getElem_cons g1, g2]
   unfold idx
   rw [List.takeWhile_cons, decide_eq_true hxc]
   simp
  rw [hid]
  congr 1
  ·unfold prev
   rw [if_neg (by omega), if_neg (by omega), List.getElem?_drop]
   congr 1
   omega
  ·rw [List.getElem?_drop]
 ·rw [show l.length - st.most = 0 by omega]; rfl
end Go.Proofs.YtgloomahpjpiiaaGreat.St
namespace Go.Proofs.YtgloomahpjpiiaaGreat.St
open Go.VW
/-- What stands ahead of the store, and behind it, in its block. -/
structure P8 where
 a0 : Value
 a1 : Value
 a2 : Value
 a3 : Value
 a4 : Value
 a5 : Value
 a6 : Value
 a7 : Value
 vl : Value
 qs : List Value
abbrev P8.cells (x : P8) (v m l : Value) : List Value := x.a0 :: x.a1 :: x.a2 :: x.a3 :: x.a4 :: x.a5 :: x.a6 :: x.a7 :: v :: m :: l :: x.vl :: x.qs
structure R5At (w : World) (rb : Nat) (X : P8) (v : Value) (most : Nat) (own : List (List Wr)) : Prop where
 head : w.heap[rb]? = some (.cells (X.cells v (.int .i64 most) (.int .i64 own.length)).toArray 52 (0, 0))
 own : Own 4 131 w v (past own).length (cellsOf encPast (past own))
theorem R5At.fr {w w' : World} {rb most : Nat} {X : P8} {v : Value} {own : List (List Wr)} (h : R5At w rb X v most own) {M : List Nat} (hf : Fr M w w') (hrb : rb ∉ M) (hv : ∀ b, v.ownBlock = some b → b ∉ M) : R5At w' rb X v most own :=
 ⟨hf.get h.head hrb, h.own.fr hf fun b hb e => hv b e hb⟩
theorem R5At.frN {w w' : World} {rb most : Nat} {X : P8} {v : Value} {own : List (List Wr)} (h : R5At w rb X v most own) (hf : Fr [] w w') : R5At w' rb X v most own := h.fr hf (by simp) (by simp)
theorem R5At.lt {w : World} {rb most : Nat} {X : P8} {v : Value} {own : List (List Wr)} (h : R5At w rb X v most own) : rb < w.heap.size ∧ ∀ b, v.ownBlock = some b → b < w.heap.size := ⟨lt_of_get _ _ h.head, fun b hb => h.own.lt hb⟩
theorem r5goodKey {key : ByteArray} {w : World} {K : Value → World → Prop} (hK : K (.bool (goodKey key)) w) : CallsN Tryz.prog 41 [.string key] w K := by
 have cw := cur w
 rw [goodKey_iff] at hK
 refine call41 ?_
 by_cases h : key = ⟨#[]⟩
 ·have d : decide (key = ⟨#[]⟩) = true := decide_eq_true h
  rw [d] at hK
  simp (maxSteps:=4000000)(disch:=first|assumption|(simp only[dz];first|done|assumption|omega)|omega|apply_rules[Fr.refl,Fr.alloc,Fr.drew]|rfl) only [↓gd,gp,Nat.reduceAdd,Nat.reduceEqDiff, ↓hk41, d]
  exact hK
 ·have d : decide (key = ⟨#[]⟩) = false := decide_eq_false h
  rw [d] at hK
  simp (maxSteps:=4000000)(disch:=first|assumption|(simp only[dz];first|done|assumption|omega)|omega|apply_rules[Fr.refl,Fr.alloc,Fr.drew]|rfl) only [↓gd,gp,Nat.reduceAdd,Nat.reduceEqDiff, ↓hk41, d]
  exact hK
theorem r5goodVal {h : Bool} {d : ByteArray} {w : World} {K : Value → World → Prop} (hK : ∀ w', Fr [] w w' → K (.bool (goodVal h d)) w') : CallsN Tryz.prog 64 [.agg ([.bool h, .string d] : List Value).toArray] w K := by
 have cw := cur w
 refine call64 ?_
 cases h with
 | true =>
   have e : goodVal true d = decide ((d.size : Int) ≤ 256) := by simp [goodVal]
   rw [e] at hK
   simp (maxSteps:=4000000)(disch:=first|assumption|(simp only[dz];first|done|assumption|omega)|omega|apply_rules[Fr.refl,Fr.alloc,Fr.drew]|rfl) only [↓gd,gp,Nat.reduceAdd,Nat.reduceEqDiff, ↓hk64]
   exact hK _ (by (repeat (first | exact Fr.refl _ _ | assumption | with_reducible apply Fr.alloc | with_reducible apply Fr.drew | with_reducible refine Fr.setB ?_ _ _ (.inr (by first | omega | (simp only [gz]; omega))) | with_reducible refine Fr.setB ?_ _ _ (.inl (by first | assumption | simp)) | with_reducible refine Fr.trans' ?_ (by assumption))))
 | false =>
   have e : goodVal false d = decide (d = ⟨#[]⟩) := by
    unfold goodVal
    by_cases hd : d = ⟨#[]⟩
    ·subst hd; rfl
    ·rw [decide_eq_false hd]; simp
   rw [e] at hK
   simp (maxSteps:=4000000)(disch:=first|assumption|(simp only[dz];first|done|assumption|omega)|omega|apply_rules[Fr.refl,Fr.alloc,Fr.drew]|rfl) only [↓gd,gp,Nat.reduceAdd,Nat.reduceEqDiff, ↓hk64]
   exact hK _ (by (repeat (first | exact Fr.refl _ _ | assumption | with_reducible apply Fr.alloc | with_reducible apply Fr.drew | with_reducible refine Fr.setB ?_ _ _ (.inr (by first | omega | (simp only [gz]; omega))) | with_reducible refine Fr.setB ?_ _ _ (.inl (by first | assumption | simp)) | with_reducible refine Fr.trans' ?_ (by assumption))))
set_option maxHeartbeats 8000000 in
theorem r5check {w : World} {v : Value} {ws : List Wr} {K : Value → World → Prop} (h : SlOf 3 encWr w v ws) (hl : ws.length ≤ 9223372036854775807)
  (hK : ∀ w', Fr [] w w' → K (.int .i64 (chk ws)) w') : CallsN Tryz.prog 93 [v] w K := by
 have cw := cur w
 obtain ⟨a, c, hv⟩ := SlOf.form h
 refine call93 ?_
 by_cases hA : ws.length = 0 ∨ 8 < ws.length
 ·have hc : chk ws = 1 := by unfold chk; rw [if_pos hA]
  rw [hc] at hK
  by_cases h0 : ws.length = 0
  ·have d0 : decide ((ws.length : Int) < 1) = true := decide_eq_true (by omega)
   simp (maxSteps:=4000000)(disch:=first|assumption|(simp only[dz];first|done|assumption|omega)|omega|apply_rules[Fr.refl,Fr.alloc,Fr.drew]|rfl) only [↓gd,gp,Nat.reduceAdd,Nat.reduceEqDiff, ↓hk93, hv, d0]
   exact hK _ (Fr.refl _ _)
  ·have d0 : decide ((ws.length : Int) < 1) = false := decide_eq_false (by omega)
   have d1 : decide ((8 : Int) < (ws.length : Int)) = true := decide_eq_true (by omega)
   simp (maxSteps:=4000000)(disch:=first|assumption|(simp only[dz];first|done|assumption|omega)|omega|apply_rules[Fr.refl,Fr.alloc,Fr.drew]|rfl) only [↓gd,gp,Nat.reduceAdd,Nat.reduceEqDiff, ↓hk93, hv, d0, d1]
   exact hK _ (Fr.refl _ _)
 have d0 : decide ((ws.length : Int) < 1) = false := decide_eq_false (by omega)
 have d1 : decide ((8 : Int) < (ws.length : Int)) = false := decide_eq_false (by omega)
 simp (maxSteps:=4000000)(disch:=first|assumption|(simp only[dz];first|done|assumption|omega)|omega|apply_rules[Fr.refl,Fr.alloc,Fr.drew]|rfl) only [↓gd,gp,Nat.reduceAdd,Nat.reduceEqDiff, ↓hk93, hv, d0, d1]
 rw [← hv]
 refine loop_intro (fun e w' => ∃ i : Nat, i ≤ ws.length ∧ e 0 = v ∧ e 3 = .int .i64 i ∧ (∀ (j : Nat) y, j < i → ws[j]? = some y → goodWr y = true) ∧ Fr [] w w')
  (fun e _ => ws.length - (numOf (e 3)).toNat) ?_ ?_
 ·refine ⟨0, Nat.zero_le _, ?_⟩
  simp (maxSteps:=4000000)(disch:=first|assumption|(simp only[dz];first|done|assumption|omega)|omega|apply_rules[Fr.refl,Fr.alloc,Fr.drew]|rfl) only [↓gsd,gs,gv,Nat.reduceAdd,Nat.reduceEqDiff, Int.natCast_zero]
  exact ⟨fun j y hj => absurd hj (by omega), Fr.refl _ _⟩
 rintro e w1 k ⟨i, hi, e0, e3, hno, hf⟩ hk
 have cw1 := cur w1
 have hz1 := hf.size
 by_cases hlt : i < ws.length
 ·have el : decide ((i : Int) < (ws.length : Int)) = true := decide_eq_true (by omega)
  have i0 : (0 : Int) ≤ (i : Int) := by omega
  have i1 : (i : Int) < (ws.length : Int) := by omega
  have i3 : ((i : Int) + 1).toNat = i + 1 := by omega
  obtain ⟨x, hx⟩ : ∃ x, ws[i]? = some x := ⟨ws[i], List.getElem?_eq_getElem hlt⟩
  obtain ⟨b, off, cap, o, hvb, hob, hbl, hc0, hc1, _⟩ := SlOf.wval (h.frN hf) hx
  simp (maxSteps:=4000000)(disch:=first|assumption|(simp only[dz];first|done|assumption|omega)|omega|apply_rules[Fr.refl,Fr.alloc,Fr.drew]|rfl) only [↓gd,gp,Nat.reduceAdd,Nat.reduceEqDiff, ↓hk93, e0, e3, el, hvb, i0, i1, Int.toNat_natCast, hob, hc0]
  refine r5goodKey ?_
  by_cases hg : goodKey x.key = true
  ·simp (maxSteps:=4000000)(disch:=first|assumption|(simp only[dz];first|done|assumption|omega)|omega|apply_rules[Fr.refl,Fr.alloc,Fr.drew]|rfl) only [↓gd,gp,Nat.reduceAdd,Nat.reduceEqDiff, ↓hk93, e0, e3, hvb, i0, i1, Int.toNat_natCast, hob, hc1, hg]
   refine r5goodVal fun w2 hf2 => ?_
   have cw2 := cur w2
   have hF := hf.trans' hf2
   by_cases hgv : goodVal x.has x.data = true
   ·simp (maxSteps:=4000000)(disch:=first|assumption|(simp only[dz];first|done|assumption|omega)|omega|apply_rules[Fr.refl,Fr.alloc,Fr.drew]|rfl) only [↓gd,gp,Nat.reduceAdd,Nat.reduceEqDiff, ↓hk93, e0, e3, hgv]
    refine hk _ _ ⟨i + 1, by omega, ?_⟩ ?_
    ·simp (maxSteps:=4000000)(disch:=first|assumption|(simp only[dz];first|done|assumption|omega)|omega|apply_rules[Fr.refl,Fr.alloc,Fr.drew]|rfl) only [↓gsd,gs,gv,Nat.reduceAdd,Nat.reduceEqDiff, e0, e3, hvb, Int.natCast_add, Int.natCast_one]
     refine ⟨fun j y hj hy => ?_, hF⟩
     by_cases hji : j = i
     ·subst hji; rw [hx] at hy; cases hy
      rw [goodWr_eq, hg, hgv]; rfl
     ·exact hno j y (by omega) hy
    ·simp (maxSteps:=4000000)(disch:=first|assumption|(simp only[dz];first|done|assumption|omega)|omega|apply_rules[Fr.refl,Fr.alloc,Fr.drew]|rfl) only [↓gsd,gs,gv,Nat.reduceAdd,Nat.reduceEqDiff, e3, numOf, Int.toNat_natCast, i3]; omega
   ·have hgv' : goodVal x.has x.data = false := by simpa using hgv
    rw [chk_bad hA (List.mem_of_getElem? hx) (by rw [goodWr_eq, hgv']; simp)] at hK
    simp (maxSteps:=4000000)(disch:=first|assumption|(simp only[dz];first|done|assumption|omega)|omega|apply_rules[Fr.refl,Fr.alloc,Fr.drew]|rfl) only [↓gd,gp,Nat.reduceAdd,Nat.reduceEqDiff, ↓hk93, e0, e3, hgv']
    exact hK _ hF
  ·have hg' : goodKey x.key = false := by simpa using hg
   rw [chk_bad hA (List.mem_of_getElem? hx) (by rw [goodWr_eq, hg']; rfl)] at hK
   simp (maxSteps:=4000000)(disch:=first|assumption|(simp only[dz];first|done|assumption|omega)|omega|apply_rules[Fr.refl,Fr.alloc,Fr.drew]|rfl) only [↓gd,gp,Nat.reduceAdd,Nat.reduceEqDiff, ↓hk93, e0, e3, hg']
   exact hK _ hf
 have el : decide ((i : Int) < (ws.length : Int)) = false := decide_eq_false (by omega)
 have hend := chk_end hA (fun j y hj => hno j y (by omega))
 rw [hend] at hK
 simp (maxSteps:=4000000)(disch:=first|assumption|(simp only[dz];first|done|assumption|omega)|omega|apply_rules[Fr.refl,Fr.alloc,Fr.drew]|rfl) only [↓gd,gp,Nat.reduceAdd,Nat.reduceEqDiff, ↓hk93, e0, e3, hv, el]
 refine loop_intro (fun e w' => ∃ i : Nat, i ≤ ws.length ∧ e 0 = v ∧ e 4 = .int .i64 i ∧ (∀ j k y z, k < j → j < i → (ws.map (·.key))[j]? = some y → (ws.map (·.key))[k]? = some z → z ≠ y) ∧ Fr [] w w')
  (fun e _ => ws.length - (numOf (e 4)).toNat) ?_ ?_
 ·refine ⟨0, Nat.zero_le _, ?_⟩
  simp (maxSteps:=4000000)(disch:=first|assumption|(simp only[dz];first|done|assumption|omega)|omega|apply_rules[Fr.refl,Fr.alloc,Fr.drew]|rfl) only [↓gsd,gs,gv,Nat.reduceAdd,Nat.reduceEqDiff, e0, Int.natCast_zero]
  exact ⟨fun j k y z _ hj => absurd hj (by omega), hf⟩
 rintro e w2 k ⟨i, hi, e0, e4, hno2, hf2⟩ hk
 have cw2 := cur w2
 by_cases hlt : i < ws.length
 ·have el : decide ((i : Int) < (ws.length : Int)) = true := decide_eq_true (by omega)
  have i0 : (0 : Int) ≤ (i : Int) := by omega
  have i1 : (i : Int) < (ws.length : Int) := by omega
  have i3 : ((i : Int) + 1).toNat = i + 1 := by omega
  obtain ⟨x, hx⟩ : ∃ x, ws[i]? = some x := ⟨ws[i], List.getElem?_eq_getElem hlt⟩
  have E4 := e4
  simp (maxSteps:=4000000)(disch:=first|assumption|(simp only[dz];first|done|assumption|omega)|omega|apply_rules[Fr.refl,Fr.alloc,Fr.drew]|rfl) only [↓gd,gp,Nat.reduceAdd,Nat.reduceEqDiff, ↓hk93, e0, e4, el, hv]
  refine loop_intro (fun e w' => ∃ j : Nat, j ≤ i ∧ e 0 = v ∧ e 4 = .int .i64 i ∧ e 5 = .int .i64 j ∧ (∀ k z, k < j → (ws.map (·.key))[k]? = some z → z ≠ x.key) ∧ Fr [] w w')
   (fun e _ => i - (numOf (e 5)).toNat) ?_ ?_
  ·refine ⟨0, Nat.zero_le _, ?_⟩
   simp (maxSteps:=4000000)(disch:=first|assumption|(simp only[dz];first|done|assumption|omega)|omega|apply_rules[Fr.refl,Fr.alloc,Fr.drew]|rfl) only [↓gsd,gs,gv,Nat.reduceAdd,Nat.reduceEqDiff, e0, e4, Int.natCast_zero]
   exact ⟨fun k z hj => absurd hj (by omega), hf2⟩
  rintro e w3 k' ⟨j, hj, e0, e4, e5, hno3, hf3⟩ hk'
  have cw3 := cur w3
  by_cases hjl : j < i
  ·have dj : decide ((j : Int) < (i : Int)) = true := decide_eq_true (by omega)
   have j0 : (0 : Int) ≤ (j : Int) := by omega
   have j1 : (j : Int) < (ws.length : Int) := by omega
   have j3 : ((j : Int) + 1).toNat = j + 1 := by omega
   obtain ⟨y, hy⟩ : ∃ y, ws[j]? = some y := ⟨ws[j]'(by omega), List.getElem?_eq_getElem (by omega)⟩
   obtain ⟨b, off, cap, o, hvb, hob, hbl, hc0, _⟩ := SlOf.wval (h.frN hf3) hx
   obtain ⟨b2, off2, cap2, o2, hvb2, hob2, hbl2, hc2, _⟩ := SlOf.wval (h.frN hf3) hy
   rw [hvb] at hvb2
   simp only [Value.slice.injEq, Option.some.injEq, Addr.mk.injEq] at hvb2
   obtain ⟨⟨rfl, rfl, _⟩, _, rfl⟩ := hvb2
   have : o = o2 := Option.some.inj (hob.symm.trans hob2)
   subst this
   have hxk : (ws.map (·.key))[i]? = some x.key := by rw [List.getElem?_map, hx]; rfl
   have hyk : (ws.map (·.key))[j]? = some y.key := by rw [List.getElem?_map, hy]; rfl
   by_cases hyx : y.key = x.key
   ·have dy : decide (y.key = x.key) = true := decide_eq_true hyx
    rw [if_neg (not_nodup hjl hxk (hyx ▸ hyk))] at hK
    simp (maxSteps:=4000000)(disch:=first|assumption|(simp only[dz];first|done|assumption|omega)|omega|apply_rules[Fr.refl,Fr.alloc,Fr.drew]|rfl) only [↓gd,gp,Nat.reduceAdd,Nat.reduceEqDiff, ↓hk93, e0, e4, e5, dj, hvb, i0, i1, j0, j1, Int.toNat_natCast, hob, hc0, hc2, dy]
    exact hK _ hf3.drew
   ·have dy : decide (y.key = x.key) = false := decide_eq_false hyx
    simp (maxSteps:=4000000)(disch:=first|assumption|(simp only[dz];first|done|assumption|omega)|omega|apply_rules[Fr.refl,Fr.alloc,Fr.drew]|rfl) only [↓gd,gp,Nat.reduceAdd,Nat.reduceEqDiff, ↓hk93, e0, e4, e5, dj, hvb, i0, i1, j0, j1, Int.toNat_natCast, hob, hc0, hc2, dy]
    refine hk' _ _ ⟨j + 1, by omega, ?_⟩ ?_
    ·simp (maxSteps:=4000000)(disch:=first|assumption|(simp only[dz];first|done|assumption|omega)|omega|apply_rules[Fr.refl,Fr.alloc,Fr.drew]|rfl) only [↓gsd,gs,gv,Nat.reduceAdd,Nat.reduceEqDiff, e0, e4, e5, hvb, Int.natCast_add, Int.natCast_one]
     refine ⟨fun k z hkj hz => ?_, hf3.drew⟩
     by_cases hkj' : k = j
     ·subst hkj'; rw [hyk] at hz; cases hz; exact hyx
     ·exact hno3 k z (by omega) hz
    ·simp (maxSteps:=4000000)(disch:=first|assumption|(simp only[dz];first|done|assumption|omega)|omega|apply_rules[Fr.refl,Fr.alloc,Fr.drew]|rfl) only [↓gsd,gs,gv,Nat.reduceAdd,Nat.reduceEqDiff, e5, numOf, Int.toNat_natCast, j3]; omega
  ·have dj : decide ((j : Int) < (i : Int)) = false := decide_eq_false (by omega)
   simp (maxSteps:=4000000)(disch:=first|assumption|(simp only[dz];first|done|assumption|omega)|omega|apply_rules[Fr.refl,Fr.alloc,Fr.drew]|rfl) only [↓gd,gp,Nat.reduceAdd,Nat.reduceEqDiff, ↓hk93, e0, e4, e5, dj]
   refine hk _ _ ⟨i + 1, by omega, ?_⟩ ?_
   ·simp (maxSteps:=4000000)(disch:=first|assumption|(simp only[dz];first|done|assumption|omega)|omega|apply_rules[Fr.refl,Fr.alloc,Fr.drew]|rfl) only [↓gsd,gs,gv,Nat.reduceAdd,Nat.reduceEqDiff, e0, e4, e5, Int.natCast_add, Int.natCast_one]
    refine ⟨fun j' k y z hkj hj' hy hz => ?_, hf3⟩
    by_cases hji : j' = i
    ·subst hji
     rw [List.getElem?_map, hx] at hy
     simp only [Option.map_some, Option.some.injEq] at hy
     subst hy
     exact hno3 k z (by omega) hz
    ·exact hno2 j' k y z hkj (by omega) hy hz
   ·simp (maxSteps:=4000000)(disch:=first|assumption|(simp only[dz];first|done|assumption|omega)|omega|apply_rules[Fr.refl,Fr.alloc,Fr.drew]|rfl) only [↓gsd,gs,gv,Nat.reduceAdd,Nat.reduceEqDiff, e4, E4, numOf, Int.toNat_natCast, i3]; omega
 ·have el : decide ((i : Int) < (ws.length : Int)) = false := decide_eq_false (by omega)
  rw [if_pos (nodup_of fun j k y z hkj hj => hno2 j k y z hkj (by rw [List.length_map] at hj; omega))] at hK
  simp (maxSteps:=4000000)(disch:=first|assumption|(simp only[dz];first|done|assumption|omega)|omega|apply_rules[Fr.refl,Fr.alloc,Fr.drew]|rfl) only [↓gd,gp,Nat.reduceAdd,Nat.reduceEqDiff, ↓hk93, e0, e4, hv, el]
  exact hK _ hf2
set_option maxHeartbeats 8000000 in
theorem r5all {w : World} {rb most : Nat} {X : P8} {v : Value} {own : List (List Wr)} {key : ByteArray} {K : Value → World → Prop} (h : R5At w rb X v most own) (hl : (past own).length ≤ 1100000000000)
  (hK : ∀ vo w', Own 3 94 w' vo (allP (past own) key).length (cellsOf encVer (allP (past own) key)) → (∀ b, vo.ownBlock = some b → w.heap.size ≤ b) → Fr [] w w' → K vo w') : CallsN Tryz.prog 44 [.pointer (some ⟨rb, 8, none⟩), .string key] w K := by
 have cw := cur w
 obtain ⟨a, c, hv⟩ := h.own.sl.form
 have hh := h.head
 have hlt := lt_of_get _ _ hh
 rw [hv] at hh
 obtain ⟨ps, hps⟩ : ∃ ps, ps = past own := ⟨_, rfl⟩
 have how := h.own
 rw [← hps] at hh how hl hK hv
 have hall : ∀ i, (allP (ps.take i) key).length ≤ i := fun i => by
  unfold allP
  rw [List.length_map]
  have h1 := List.length_filter_le (fun p : Past => decide (p.2.key = key)) (ps.take i)
  have h2 := List.length_take_le i ps
  omega
 refine call44 ?_
 simp (maxSteps:=4000000)(disch:=first|assumption|(simp only[dz];first|done|assumption|omega)|omega|apply_rules[Fr.refl,Fr.alloc,Fr.drew]|rfl) only [↓gd,gp,Nat.reduceAdd,Nat.reduceEqDiff, ↓hk44]
 refine loop_intro (fun e w' => ∃ (i : Nat) (vo : Value), i ≤ ps.length ∧ e 0 = .pointer (some ⟨rb, 8, none⟩) ∧ e 1 = .string key ∧ e 5 = vo ∧ e 6 = .int .i64 i ∧ Own 3 94 w' vo (allP (ps.take i) key).length (cellsOf encVer (allP (ps.take i) key)) ∧ (∀ b, vo.ownBlock = some b → w.heap.size ≤ b) ∧ Fr [] w w') (fun e _ => ps.length - (numOf (e 6)).toNat) ?_ ?_
 ·refine ⟨0, .slice none 0 0, Nat.zero_le _, ?_⟩
  simp (maxSteps:=4000000)(disch:=first|assumption|(simp only[dz];first|done|assumption|omega)|omega|apply_rules[Fr.refl,Fr.alloc,Fr.drew]|rfl) only [↓gsd,gs,gv,Nat.reduceAdd,Nat.reduceEqDiff, Int.natCast_zero]
  exact ⟨Own.nil, fun b hb => by simp [Value.ownBlock] at hb, Fr.refl _ _⟩
 rintro e w1 k ⟨i, vo, hi, e0, e1, e5, e6, hown, hfr, hf⟩ hk
 have cw1 := cur w1
 have hz1 := hf.size
 have hh1 := hf.getN hh
 obtain ⟨oa, oc, hvo⟩ := hown.sl.form
 by_cases hil : i < ps.length
 ·have d : decide ((i : Int) < (ps.length : Int)) = true := decide_eq_true (by omega)
  have i0 : (0 : Int) ≤ (i : Int) := by omega
  have i1 : (i : Int) < (ps.length : Int) := by omega
  have i3 : ((i : Int) + 1).toNat = i + 1 := by omega
  obtain ⟨p, hp⟩ : ∃ p, ps[i]? = some p := ⟨ps[i], List.getElem?_eq_getElem hil⟩
  obtain ⟨b1, o1, p1, ob1, hv1, hb1, hbl1, hn, hkk, hvl⟩ := past_read (show SlOf 4 encPast w1 v ps from how.sl.frN hf) hp
  rw [hv] at hv1
  simp only [Value.slice.injEq] at hv1
  obtain ⟨rfl, _, rfl⟩ := hv1
  have htk : ps.take (i + 1) = ps.take i ++ [p] := by rw [List.take_add_one, hp]; rfl
  by_cases hq : p.2.key = key
  ·have dq : decide (p.2.key = key) = true := decide_eq_true hq
   simp (maxSteps:=4000000)(disch:=first|assumption|(simp only[dz];first|done|assumption|omega)|omega|apply_rules[Fr.refl,Fr.alloc,Fr.drew]|rfl) only [↓gd,gp,Nat.reduceAdd,Nat.reduceEqDiff, ↓hk44, e0, e1, e5, e6, hh1, d, i0, i1, Int.toNat_natCast, hb1, hn, hkk, hvl, dq]
   generalize hW : World.alloc w1.drew _ = w2
   have hf2 : Fr [] w1 w2 := by rw [← hW]; exact (Fr.refl _ _).drew.alloc _
   have hsl : Sl 3 w2 (.slice (some ⟨w1.heap.size, 0, none⟩) 1 1) 1 (encVer (verOf p.1 p.2)) := by rw [← hW]; exact sl_ver (w := w1.drew) (verOf p.1 p.2)
   clear hW
   have cw2 := cur w2
   have hz2 := hf2.size
   have := hall i
   obtain ⟨v4, w4, hr4, hown4, hf4, hbk⟩ := ap91 (ty := 91) (Own.frN hown hf2) hsl rfl (by omega)
   have cw4 := cur w4
   have hF4 := fresh_app hfr hf4 (hf.trans' hf2)
   simp (maxSteps:=4000000)(disch:=first|assumption|(simp only[dz];first|done|assumption|omega)|omega|apply_rules[Fr.refl,Fr.alloc,Fr.drew]|rfl) only [↓gd,gp,Nat.reduceAdd,Nat.reduceEqDiff, eq_true hf2, ↓hk44, e0, e1, e5, e6, hr4]
   refine hk _ _ ⟨i + 1, v4, by omega, ?_⟩ ?_
   ·simp (maxSteps:=4000000)(disch:=first|assumption|(simp only[dz];first|done|assumption|omega)|omega|apply_rules[Fr.refl,Fr.alloc,Fr.drew]|rfl) only [↓gsd,gs,gv,Nat.reduceAdd,Nat.reduceEqDiff, e0, e1, e5, e6, Int.natCast_add i 1, Int.natCast_one]
    have e1' : allP (ps.take (i + 1)) key = allP (ps.take i) key ++ [verOf p.1 p.2] := by rw [htk, allP_app]; simp [allP, hq]
    rw [e1', cellsOf_append, cellsOf_one, List.length_append]
    refine ⟨hown4, fun b hb => ?_, hF4⟩
    rcases hbk with e | ⟨b', e, e2⟩
    ·exact hfr b (e ▸ hb)
    ·rw [e] at hb; cases hb; omega
   ·simp (maxSteps:=4000000)(disch:=first|assumption|(simp only[dz];first|done|assumption|omega)|omega|apply_rules[Fr.refl,Fr.alloc,Fr.drew]|rfl) only [↓gsd,gs,gv,Nat.reduceAdd,Nat.reduceEqDiff, e6, numOf, Int.toNat_natCast, i3]; omega
  ·have dq : decide (p.2.key = key) = false := decide_eq_false hq
   simp (maxSteps:=4000000)(disch:=first|assumption|(simp only[dz];first|done|assumption|omega)|omega|apply_rules[Fr.refl,Fr.alloc,Fr.drew]|rfl) only [↓gd,gp,Nat.reduceAdd,Nat.reduceEqDiff, ↓hk44, e0, e1, e5, e6, hh1, d, i0, i1, Int.toNat_natCast, hb1, hn, hkk, hvl, dq]
   refine hk _ _ ⟨i + 1, vo, by omega, ?_⟩ ?_
   ·simp (maxSteps:=4000000)(disch:=first|assumption|(simp only[dz];first|done|assumption|omega)|omega|apply_rules[Fr.refl,Fr.alloc,Fr.drew]|rfl) only [↓gsd,gs,gv,Nat.reduceAdd,Nat.reduceEqDiff, e0, e1, e5, e6, Int.natCast_add i 1, Int.natCast_one]
    have e1' : allP (ps.take (i + 1)) key = allP (ps.take i) key := by rw [htk, allP_app]; simp [allP, hq]
    rw [e1']
    exact ⟨hown, hfr, hf⟩
   ·simp (maxSteps:=4000000)(disch:=first|assumption|(simp only[dz];first|done|assumption|omega)|omega|apply_rules[Fr.refl,Fr.alloc,Fr.drew]|rfl) only [↓gsd,gs,gv,Nat.reduceAdd,Nat.reduceEqDiff, e6, numOf, Int.toNat_natCast, i3]; omega
 ·have d : decide ((i : Int) < (ps.length : Int)) = false := decide_eq_false (by omega)
  simp (maxSteps:=4000000)(disch:=first|assumption|(simp only[dz];first|done|assumption|omega)|omega|apply_rules[Fr.refl,Fr.alloc,Fr.drew]|rfl) only [↓gd,gp,Nat.reduceAdd,Nat.reduceEqDiff, ↓hk44, e0, e1, e5, e6, hh1, d]
  rw [List.take_of_length_le (by omega)] at hown
  exact hK _ _ hown hfr hf
theorem r5oldest {w : World} {rb most : Nat} {X : P8} {v : Value} {own : List (List Wr)} {key : ByteArray} {K : Value → World → Prop} (h : R5At w rb X v most own) (hl : (past own).length ≤ 1100000000000) (hm : most ≤ 64) (hm1 : 1 ≤ most)
  (hK : ∀ w', Fr [] w w' → K (.int .i64 (oldL most (allP (past own) key))) w') : CallsN Tryz.prog 19 [.pointer (some ⟨rb, 8, none⟩), .string key] w K := by
 have cw := cur w
 have hh := h.head
 refine call19 ?_
 simp (maxSteps:=4000000)(disch:=first|assumption|(simp only[dz];first|done|assumption|omega)|omega|apply_rules[Fr.refl,Fr.alloc,Fr.drew]|rfl) only [↓gd,gp,Nat.reduceAdd,Nat.reduceEqDiff, ↓hk19]
 refine r5all h hl fun vo w1 hown hfr hf => ?_
 have cw1 := cur w1
 have hz1 := hf.size
 have hh1 := hf.getN hh
 have hlt1 := lt_of_get _ _ hh1
 obtain ⟨l, hl'⟩ : ∃ l, l = allP (past own) key := ⟨_, rfl⟩
 rw [← hl'] at hown hK
 have hll : l.length ≤ 1100000000000 := by
  rw [hl']; unfold allP
  rw [List.length_map]
  have := List.length_filter_le (fun p : Past => decide (p.2.key = key)) (past own)
  omega
 obtain ⟨oa, oc, hvo⟩ := hown.sl.form
 by_cases hq : most < l.length
 ·have dq : decide ((most : Int) < (l.length : Int)) = true := decide_eq_true (by omega)
  have wr : IntKind.i64.wrap ((l.length : Int) - (most : Int)) = ((l.length - most : Nat) : Int) := by rw [wrap64 (by omega) (by omega)]; omega
  obtain ⟨x, hx⟩ : ∃ x, l[l.length - most]? = some x := ⟨l[l.length - most]'(by omega), List.getElem?_eq_getElem (by omega)⟩
  obtain ⟨b, off, cap, o, hsv, ho, hbl, hrow, hcell⟩ := (show SlOf 3 encVer w1 vo l from hown.sl).read encVer_len _ x hx
  have hc0 := fun orig K => hcell 0 (.int .i64 x.n) orig K rfl
  simp only [Nat.add_zero] at hc0
  have i0 : (0 : Int) ≤ ((l.length - most : Nat) : Int) := by omega
  have i1 : ((l.length - most : Nat) : Int) < (l.length : Int) := by omega
  have e : oldL most l = x.n := by unfold oldL; rw [if_pos hq, hx]; rfl
  rw [e] at hK
  simp (maxSteps:=4000000)(disch:=first|assumption|(simp only[dz];first|done|assumption|omega)|omega|apply_rules[Fr.refl,Fr.alloc,Fr.drew]|rfl) only [↓gd,gp,Nat.reduceAdd,Nat.reduceEqDiff, ↓hk19, hsv, hh1, dq, wr, i0, i1, Int.toNat_natCast, ho, hc0]
  exact hK _ hf
 ·have dq : decide ((most : Int) < (l.length : Int)) = false := decide_eq_false (by omega)
  have e : oldL most l = 0 := by unfold oldL; rw [if_neg hq]
  rw [e] at hK
  simp (maxSteps:=4000000)(disch:=first|assumption|(simp only[dz];first|done|assumption|omega)|omega|apply_rules[Fr.refl,Fr.alloc,Fr.drew]|rfl) only [↓gd,gp,Nat.reduceAdd,Nat.reduceEqDiff, ↓hk19, hvo, hh1, dq]
  exact hK _ hf
set_option maxHeartbeats 16000000 in
theorem r5truth {w : World} {rb most : Nat} {X : P8} {v : Value} {own : List (List Wr)} {key : ByteArray} {c : Int} {K : Value → World → Prop} (h : R5At w rb X v most own) (hl : (past own).length ≤ 1100000000000)
  (hK : ∀ w', Fr [] w w' → K (.agg (encFact (fOf key (loF (allP (past own) key) c) (hiF (allP (past own) key) c))).toArray) w') : CallsN Tryz.prog 42 [.pointer (some ⟨rb, 8, none⟩), .string key, .int .i64 c] w K := by
 have cw := cur w
 refine call42 ?_
 simp (maxSteps:=4000000)(disch:=first|assumption|(simp only[dz];first|done|assumption|omega)|omega|apply_rules[Fr.refl,Fr.alloc,Fr.drew]|rfl) only [↓gd,gp,Nat.reduceAdd,Nat.reduceEqDiff, ↓hk42]
 generalize hW : World.alloc (World.alloc w _) _ = w1
 have hf1 : Fr [] w w1 := by rw [← hW]; (repeat (first | exact Fr.refl _ _ | assumption | with_reducible apply Fr.alloc | with_reducible apply Fr.drew | with_reducible refine Fr.setB ?_ _ _ (.inr (by first | omega | (simp only [gz]; omega))) | with_reducible refine Fr.setB ?_ _ _ (.inl (by first | assumption | simp)) | with_reducible refine Fr.trans' ?_ (by assumption)))
 have hz1 : w1.heap.size = w.heap.size + 2 := by rw [← hW]; simp only [gz]
 have hfb : w1.heap[w.heap.size + 1]? = some (.cells (encFact (fOf key none none)).toArray 57 (0, 0)) := by rw [← hW]; simp (maxSteps:=4000000)(disch:=first|assumption|(simp only[dz];first|done|assumption|omega)|omega|apply_rules[Fr.refl,Fr.alloc,Fr.drew]|rfl) only [↓gsd,gs,gv,Nat.reduceAdd,Nat.reduceEqDiff]; rfl
 have hrb : w1.heap[w.heap.size]? = some (.cells (encFact fact0).toArray 57 (0, 0)) := by rw [← hW]; simp (maxSteps:=4000000)(disch:=first|assumption|(simp only[dz];first|done|assumption|omega)|omega|apply_rules[Fr.refl,Fr.alloc,Fr.drew]|rfl) only [↓gsd,gs,gv,Nat.reduceAdd,Nat.reduceEqDiff]; rfl
 clear hW
 have cw1 := cur w1
 refine r5all (h.frN hf1) hl fun vo w2 hown hfr hf2 => ?_
 have cw2 := cur w2
 have hz2 := hf2.size
 obtain ⟨l, hl'⟩ : ∃ l, l = allP (past own) key := ⟨_, rfl⟩
 rw [← hl'] at hown hK
 have hll : l.length ≤ 1100000000000 := by
  rw [hl']; unfold allP
  rw [List.length_map]
  have := List.length_filter_le (fun p : Past => decide (p.2.key = key)) (past own)
  omega
 obtain ⟨oa, oc, hvo⟩ := hown.sl.form
 have hF2 := hf1.trans' hf2
 have hfb2 := hf2.getN hfb
 have hrb2 := hf2.getN hrb
 have hne : vo.ownBlock ≠ some (w.heap.size + 1) := own_head hown hfb2 (by decide)
 simp (maxSteps:=4000000)(disch:=first|assumption|(simp only[dz];first|done|assumption|omega)|omega|apply_rules[Fr.refl,Fr.alloc,Fr.drew]|rfl) only [↓gd,gp,Nat.reduceAdd,Nat.reduceEqDiff, ↓hk42]
 refine loop_intro (fun e w' => ∃ (i : Nat), i ≤ l.length ∧ e 2 = .int .i64 c ∧ e 6 = .pointer (some ⟨w.heap.size, 0, none⟩) ∧ e 7 = .pointer (some ⟨w.heap.size + 1, 0, none⟩) ∧ e 8 = vo ∧ e 9 = .int .i64 i ∧
   w'.heap[w.heap.size + 1]? = some (.cells (encFact (fOf key (loF (l.take i) c) none)).toArray 57 (0, 0)) ∧ Fr [w.heap.size + 1] w2 w') (fun e _ => l.length - (numOf (e 9)).toNat) ?_ ?_
 ·refine ⟨0, Nat.zero_le _, ?_⟩
  simp (maxSteps:=4000000)(disch:=first|assumption|(simp only[dz];first|done|assumption|omega)|omega|apply_rules[Fr.refl,Fr.alloc,Fr.drew]|rfl) only [↓gsd,gs,gv,Nat.reduceAdd,Nat.reduceEqDiff, Int.natCast_zero]
  exact ⟨hfb2, Fr.refl _ _⟩
 rintro e w3 k ⟨i, hi, e2, e6, e7, e8, e9, hg, hf⟩ hk
 have cw3 := cur w3
 have hz3 := hf.size
 have hlt := lt_of_get _ _ hg
 have hsl3 : SlOf 3 encVer w3 vo l := (hown.fr hf (by simpa using hne)).sl
 by_cases hil : i < l.length
 ·have d : decide ((i : Int) < (l.length : Int)) = true := decide_eq_true (by omega)
  have i0 : (0 : Int) ≤ (i : Int) := by omega
  have i1 : (i : Int) < (l.length : Int) := by omega
  have i3 : ((i : Int) + 1).toNat = i + 1 := by omega
  obtain ⟨x, hx⟩ : ∃ x, l[i]? = some x := ⟨l[i], List.getElem?_eq_getElem hil⟩
  obtain ⟨b, off, cap, o, hv1, ho, hbl, hc0, hc1⟩ := ver_read hsl3 hx
  have htk : loF (l.take (i + 1)) c = if x.n ≤ c then some x else loF (l.take i) c := by rw [List.take_add_one, hx]; exact loF_snoc _ _ _
  have hbne : b ≠ w.heap.size + 1 := fun e => hne (by
   rw [hv1] at hvo
   rw [hv1]
   rcases hown.2 with ⟨rfl, _⟩ | ⟨g, cap', cur', hgv, _⟩
   ·cases hv1
   ·rw [hv1] at hgv; simp only [Value.slice.injEq, Option.some.injEq, Addr.mk.injEq] at hgv
    rw [hgv.1.2.1]; simp [Value.ownBlock, e])
  by_cases hq : x.n ≤ c
  ·have dq : decide (x.n ≤ c) = true := decide_eq_true hq
   unfold encFact fOf at hg
   simp (maxSteps:=4000000)(disch:=first|assumption|(simp only[dz];first|done|assumption|omega)|omega|apply_rules[Fr.refl,Fr.alloc,Fr.drew]|rfl) only [↓gd,gp,Nat.reduceAdd,Nat.reduceEqDiff, ↓hk42, e2, e6, e7, e8, e9, hv1, d, i0, i1, Int.toNat_natCast, ho, hc0, hc1, dq, hg]
   refine hk _ _ ⟨i + 1, by omega, ?_⟩ ?_
   ·rw [htk, if_pos hq]
    simp (maxSteps:=4000000)(disch:=first|assumption|(simp only[dz];first|done|assumption|omega)|omega|apply_rules[Fr.refl,Fr.alloc,Fr.drew]|rfl) only [↓gsd,gs,gv,Nat.reduceAdd,Nat.reduceEqDiff, e2, e6, e7, e8, e9, hv1, Int.natCast_add i 1, Int.natCast_one]
    exact ⟨rfl, (hf.setB _ _ (.inl (by simp)))⟩
   ·simp (maxSteps:=4000000)(disch:=first|assumption|(simp only[dz];first|done|assumption|omega)|omega|apply_rules[Fr.refl,Fr.alloc,Fr.drew]|rfl) only [↓gsd,gs,gv,Nat.reduceAdd,Nat.reduceEqDiff, e9, numOf, Int.toNat_natCast, i3]; omega
  ·have dq : decide (x.n ≤ c) = false := decide_eq_false hq
   simp (maxSteps:=4000000)(disch:=first|assumption|(simp only[dz];first|done|assumption|omega)|omega|apply_rules[Fr.refl,Fr.alloc,Fr.drew]|rfl) only [↓gd,gp,Nat.reduceAdd,Nat.reduceEqDiff, ↓hk42, e2, e6, e7, e8, e9, hv1, d, i0, i1, Int.toNat_natCast, ho, hc0, hc1, dq]
   refine hk _ _ ⟨i + 1, by omega, ?_⟩ ?_
   ·rw [htk, if_neg hq]
    simp (maxSteps:=4000000)(disch:=first|assumption|(simp only[dz];first|done|assumption|omega)|omega|apply_rules[Fr.refl,Fr.alloc,Fr.drew]|rfl) only [↓gsd,gs,gv,Nat.reduceAdd,Nat.reduceEqDiff, e2, e6, e7, e8, e9, hv1, Int.natCast_add i 1, Int.natCast_one]
    exact ⟨hg, hf⟩
   ·simp (maxSteps:=4000000)(disch:=first|assumption|(simp only[dz];first|done|assumption|omega)|omega|apply_rules[Fr.refl,Fr.alloc,Fr.drew]|rfl) only [↓gsd,gs,gv,Nat.reduceAdd,Nat.reduceEqDiff, e9, numOf, Int.toNat_natCast, i3]; omega
 have d : decide ((i : Int) < (l.length : Int)) = false := decide_eq_false (by omega)
 have hie : i = l.length := by omega
 subst hie
 rw [List.take_length] at hg
 have wr : IntKind.i64.wrap ((l.length : Int) - 1) = (l.length : Int) - 1 := wrap64 (by omega) (by omega)
 simp (maxSteps:=4000000)(disch:=first|assumption|(simp only[dz];first|done|assumption|omega)|omega|apply_rules[Fr.refl,Fr.alloc,Fr.drew]|rfl) only [↓gd,gp,Nat.reduceAdd,Nat.reduceEqDiff, ↓hk42, e2, e6, e7, e8, e9, hvo, d, wr]
 refine loop_intro (fun e w' => ∃ (j : Nat), j ≤ l.length ∧ e 2 = .int .i64 c ∧ e 6 = .pointer (some ⟨w.heap.size, 0, none⟩) ∧ e 7 = .pointer (some ⟨w.heap.size + 1, 0, none⟩) ∧ e 8 = vo ∧ e 10 = .int .i64 ((j : Int) - 1) ∧
   w'.heap[w.heap.size + 1]? = some (.cells (encFact (fOf key (loF l c) (hiF (l.drop j) c))).toArray 57 (0, 0)) ∧ Fr [w.heap.size + 1] w2 w') (fun e _ => (numOf (e 10) + 1).toNat) ?_ ?_
 ·refine ⟨l.length, Nat.le_refl _, ?_⟩
  simp (maxSteps:=4000000)(disch:=first|assumption|(simp only[dz];first|done|assumption|omega)|omega|apply_rules[Fr.refl,Fr.alloc,Fr.drew]|rfl) only [↓gsd,gs,gv,Nat.reduceAdd,Nat.reduceEqDiff, e2, e6, e7, e8, hvo, List.drop_length]
  exact ⟨hg, hf⟩
 rintro e w4 k ⟨j, hj, e2, e6, e7, e8, e10, hg, hf⟩ hk
 have cw4 := cur w4
 have hlt := lt_of_get _ _ hg
 have hz4 := hf.size
 by_cases hj0 : 1 ≤ j
 ·have d : decide ((0 : Int) ≤ (j : Int) - 1) = true := decide_eq_true (by omega)
  have i0 : (0 : Int) ≤ (j : Int) - 1 := by omega
  have i1 : (j : Int) - 1 < (l.length : Int) := by omega
  have i3 : ((j : Int) - 1).toNat = j - 1 := by omega
  have wr : IntKind.i64.wrap ((j : Int) - 1 - 1) = ((j - 1 : Nat) : Int) - 1 := by rw [wrap64 (by omega) (by omega)]; omega
  obtain ⟨x, hx⟩ : ∃ x, l[j - 1]? = some x := ⟨l[j - 1]'(by omega), List.getElem?_eq_getElem (by omega)⟩
  have hsl4 : SlOf 3 encVer w4 vo l := (hown.fr hf (by simpa using hne)).sl
  obtain ⟨b, off, cap, o, hv1, ho, hbl, hc0, hc1⟩ := ver_read hsl4 hx
  have hdr := hiF_drop l c hx
  rw [show j - 1 + 1 = j by omega] at hdr
  by_cases hq : c < x.n
  ·have dq : decide (c < x.n) = true := decide_eq_true hq
   unfold encFact fOf at hg
   simp (maxSteps:=4000000)(disch:=first|assumption|(simp only[dz];first|done|assumption|omega)|omega|apply_rules[Fr.refl,Fr.alloc,Fr.drew]|rfl) only [↓gd,gp,Nat.reduceAdd,Nat.reduceEqDiff, ↓hk42, e2, e6, e7, e8, e10, hv1, d, i0, i1, i3, wr, ho, hc0, dq, hg]
   refine hk _ _ ⟨j - 1, by omega, ?_⟩ ?_
   ·rw [hdr, if_pos hq]
    simp (maxSteps:=4000000)(disch:=first|assumption|(simp only[dz];first|done|assumption|omega)|omega|apply_rules[Fr.refl,Fr.alloc,Fr.drew]|rfl) only [↓gsd,gs,gv,Nat.reduceAdd,Nat.reduceEqDiff, e2, e6, e7, e8, e10, hv1]
    exact ⟨rfl, (hf.setB _ _ (.inl (by simp)))⟩
   ·simp (maxSteps:=4000000)(disch:=first|assumption|(simp only[dz];first|done|assumption|omega)|omega|apply_rules[Fr.refl,Fr.alloc,Fr.drew]|rfl) only [↓gsd,gs,gv,Nat.reduceAdd,Nat.reduceEqDiff, e10, numOf]; omega
  ·have dq : decide (c < x.n) = false := decide_eq_false hq
   simp (maxSteps:=4000000)(disch:=first|assumption|(simp only[dz];first|done|assumption|omega)|omega|apply_rules[Fr.refl,Fr.alloc,Fr.drew]|rfl) only [↓gd,gp,Nat.reduceAdd,Nat.reduceEqDiff, ↓hk42, e2, e6, e7, e8, e10, hv1, d, i0, i1, i3, wr, ho, hc0, dq]
   refine hk _ _ ⟨j - 1, by omega, ?_⟩ ?_
   ·rw [hdr, if_neg hq]
    simp (maxSteps:=4000000)(disch:=first|assumption|(simp only[dz];first|done|assumption|omega)|omega|apply_rules[Fr.refl,Fr.alloc,Fr.drew]|rfl) only [↓gsd,gs,gv,Nat.reduceAdd,Nat.reduceEqDiff, e2, e6, e7, e8, e10, hv1]
    exact ⟨hg, hf⟩
   ·simp (maxSteps:=4000000)(disch:=first|assumption|(simp only[dz];first|done|assumption|omega)|omega|apply_rules[Fr.refl,Fr.alloc,Fr.drew]|rfl) only [↓gsd,gs,gv,Nat.reduceAdd,Nat.reduceEqDiff, e10, numOf]; omega
 ·have d : decide ((0 : Int) ≤ (j : Int) - 1) = false := decide_eq_false (by omega)
  have : j = 0 := by omega
  subst this
  rw [List.drop_zero] at hg
  have hrb4 := hf.get hrb2 (by simp)
  have hltr := lt_of_get _ _ hrb4
  unfold encFact fOf at hg hK
  unfold encFact fact0 at hrb4
  simp (maxSteps:=4000000)(disch:=first|assumption|(simp only[dz];first|done|assumption|omega)|omega|apply_rules[Fr.refl,Fr.alloc,Fr.drew]|rfl) only [↓gd,gp,Nat.reduceAdd,Nat.reduceEqDiff, ↓hk42, e2, e6, e7, e8, e10, d, hg, hrb4]
  refine hK _ ((hF2.trans hf fun x hx => by simp at hx; subst hx; right; omega).setB _ _ (.inr (by omega)))
set_option maxHeartbeats 8000000 in
theorem r5read {w : World} {rb most : Nat} {X : P8} {v : Value} {own : List (List Wr)} {key : ByteArray} {c : Int} {K : Value → World → Prop} (h : R5At w rb X v most own) (hl : (past own).length ≤ 1100000000000) (hm : most ≤ 64) (hm1 : 1 ≤ most)
  (hK : ∀ w', Fr [] w w' → K (.tuple ([.agg (encFact (rread most own key c).1).toArray, .int .i64 (rread most own key c).2] : List Value).toArray) w') : CallsN Tryz.prog 17 [.pointer (some ⟨rb, 8, none⟩), .string key, .int .i64 c] w K := by
 have cw := cur w
 refine call17 ?_
 have hh := h.head
 have hlt := lt_of_get _ _ hh
 by_cases hg : goodKey key = true
 case neg =>
  have hg' : goodKey key = false := by simpa using hg
  have e : rread most own key c = (fact0, 1) := by unfold rread; rw [if_pos (.inl hg')]
  rw [e] at hK
  unfold encFact fact0 at hK
  simp (maxSteps:=4000000)(disch:=first|assumption|(simp only[dz];first|done|assumption|omega)|omega|apply_rules[Fr.refl,Fr.alloc,Fr.drew]|rfl) only [↓gd,gp,Nat.reduceAdd,Nat.reduceEqDiff, ↓hk17]
  refine r5goodKey ?_
  simp (maxSteps:=4000000)(disch:=first|assumption|(simp only[dz];first|done|assumption|omega)|omega|apply_rules[Fr.refl,Fr.alloc,Fr.drew]|rfl) only [↓gd,gp,Nat.reduceAdd,Nat.reduceEqDiff, ↓hk17, hg']
  exact hK _ (by (repeat (first | exact Fr.refl _ _ | assumption | with_reducible apply Fr.alloc | with_reducible apply Fr.drew | with_reducible refine Fr.setB ?_ _ _ (.inr (by first | omega | (simp only [gz]; omega))) | with_reducible refine Fr.setB ?_ _ _ (.inl (by first | assumption | simp)) | with_reducible refine Fr.trans' ?_ (by assumption))))
 by_cases hc : c < 0
 ·have dc : decide (c < 0) = true := decide_eq_true hc
  have e : rread most own key c = (fact0, 1) := by unfold rread; rw [if_pos (.inr hc)]
  rw [e] at hK
  unfold encFact fact0 at hK
  simp (maxSteps:=4000000)(disch:=first|assumption|(simp only[dz];first|done|assumption|omega)|omega|apply_rules[Fr.refl,Fr.alloc,Fr.drew]|rfl) only [↓gd,gp,Nat.reduceAdd,Nat.reduceEqDiff, ↓hk17]
  refine r5goodKey ?_
  simp (maxSteps:=4000000)(disch:=first|assumption|(simp only[dz];first|done|assumption|omega)|omega|apply_rules[Fr.refl,Fr.alloc,Fr.drew]|rfl) only [↓gd,gp,Nat.reduceAdd,Nat.reduceEqDiff, ↓hk17, hg, dc]
  exact hK _ (by (repeat (first | exact Fr.refl _ _ | assumption | with_reducible apply Fr.alloc | with_reducible apply Fr.drew | with_reducible refine Fr.setB ?_ _ _ (.inr (by first | omega | (simp only [gz]; omega))) | with_reducible refine Fr.setB ?_ _ _ (.inl (by first | assumption | simp)) | with_reducible refine Fr.trans' ?_ (by assumption))))
 have dc : decide (c < 0) = false := decide_eq_false hc
 have hn1 : ¬ (goodKey key = false ∨ c < 0) := by simp [hg]; omega
 by_cases hcl : (own.length : Int) < c
 ·have dl : decide ((own.length : Int) < c) = true := decide_eq_true hcl
  have e : rread most own key c = (fact0, 21) := by unfold rread; rw [if_neg hn1, if_pos hcl]
  rw [e] at hK
  unfold encFact fact0 at hK
  simp (maxSteps:=4000000)(disch:=first|assumption|(simp only[dz];first|done|assumption|omega)|omega|apply_rules[Fr.refl,Fr.alloc,Fr.drew]|rfl) only [↓gd,gp,Nat.reduceAdd,Nat.reduceEqDiff, ↓hk17]
  refine r5goodKey ?_
  simp (maxSteps:=4000000)(disch:=first|assumption|(simp only[dz];first|done|assumption|omega)|omega|apply_rules[Fr.refl,Fr.alloc,Fr.drew]|rfl) only [↓gd,gp,Nat.reduceAdd,Nat.reduceEqDiff, ↓hk17, hg, dc, hh, dl]
  exact hK _ (by (repeat (first | exact Fr.refl _ _ | assumption | with_reducible apply Fr.alloc | with_reducible apply Fr.drew | with_reducible refine Fr.setB ?_ _ _ (.inr (by first | omega | (simp only [gz]; omega))) | with_reducible refine Fr.setB ?_ _ _ (.inl (by first | assumption | simp)) | with_reducible refine Fr.trans' ?_ (by assumption))))
 have dl : decide ((own.length : Int) < c) = false := decide_eq_false hcl
 have hfa : Fr [] w (w.alloc (.cells (encFact fact0).toArray 57)) := (Fr.refl _ _).alloc _
 simp (maxSteps:=4000000)(disch:=first|assumption|(simp only[dz];first|done|assumption|omega)|omega|apply_rules[Fr.refl,Fr.alloc,Fr.drew]|rfl) only [↓gd,gp,Nat.reduceAdd,Nat.reduceEqDiff, ↓hk17]
 refine r5goodKey ?_
 simp (maxSteps:=4000000)(disch:=first|assumption|(simp only[dz];first|done|assumption|omega)|omega|apply_rules[Fr.refl,Fr.alloc,Fr.drew]|rfl) only [↓gd,gp,Nat.reduceAdd,Nat.reduceEqDiff, ↓hk17, hg, dc, hh, dl]
 refine r5oldest (h.frN hfa) hl hm hm1 fun w2 hf2 => ?_
 have cw2 := cur w2
 have hg2 := hf2.getN (get_alloc_new w (.cells (encFact fact0).toArray 57))
 have hlt2 := lt_of_get _ _ hg2
 have hF2 := hfa.trans' hf2
 unfold encFact fact0 at hg2
 by_cases ho : c < oldL most (allP (past own) key)
 ·have do_ : decide (c < oldL most (allP (past own) key)) = true := decide_eq_true ho
  have e : rread most own key c = (fact0, 20) := by unfold rread; rw [if_neg hn1, if_neg hcl, if_pos ho]
  rw [e] at hK
  unfold encFact fact0 at hK
  simp (maxSteps:=4000000)(disch:=first|assumption|(simp only[dz];first|done|assumption|omega)|omega|apply_rules[Fr.refl,Fr.alloc,Fr.drew]|rfl) only [↓gd,gp,Nat.reduceAdd,Nat.reduceEqDiff, ↓hk17, do_, hg2]
  exact hK _ (hF2.setB _ _ (.inr (Nat.le_refl _)))
 have do_ : decide (c < oldL most (allP (past own) key)) = false := decide_eq_false ho
 have e : rread most own key c = (fOf key (loF (allP (past own) key) c) (hiF (allP (past own) key) c), 0) := by unfold rread; rw [if_neg hn1, if_neg hcl, if_neg ho]
 rw [e] at hK
 simp (maxSteps:=4000000)(disch:=first|assumption|(simp only[dz];first|done|assumption|omega)|omega|apply_rules[Fr.refl,Fr.alloc,Fr.drew]|rfl) only [↓gd,gp,Nat.reduceAdd,Nat.reduceEqDiff, ↓hk17, do_]
 refine r5truth (h.frN hF2) hl fun w3 hf3 => ?_
 have cw3 := cur w3
 have hg3 := hf3.getN hg2
 have hlt3 := lt_of_get _ _ hg3
 unfold encFact fOf at hK ⊢
 simp (maxSteps:=4000000)(disch:=first|assumption|(simp only[dz];first|done|assumption|omega)|omega|apply_rules[Fr.refl,Fr.alloc,Fr.drew]|rfl) only [↓gd,gp,Nat.reduceAdd,Nat.reduceEqDiff, ↓hk17, hg3]
 exact hK _ ((hF2.trans' hf3).setB _ _ (.inr (Nat.le_refl _)))
set_option maxHeartbeats 8000000 in
theorem r5commit {w : World} {rb most : Nat} {X : P8} {v wv : Value} {own : List (List Wr)} {ws : List Wr} {K : Value → World → Prop} (h : R5At w rb X v most own) (hw : ∀ w', Fr (rb :: blkL v) w w' → SlOf 3 encWr w' wv ws) (hwl : ws.length ≤ 9223372036854775807) (hl : (past own).length + 8 ≤ 1100000000000) (hol : own.length ≤ 1100000000000)
  (hK : ∀ v' w', R5At w' rb X v' most (rcommit own ws).2 → (∀ b, v'.ownBlock = some b → v.ownBlock = some b ∨ w.heap.size ≤ b) → Fr (rb :: blkL v) w w' → K (.tuple ([.int .i64 (rcommit own ws).1.1, .int .i64 (rcommit own ws).1.2] : List Value).toArray) w') : CallsN Tryz.prog 66 [.pointer (some ⟨rb, 8, none⟩), wv] w K := by
 have cw := cur w
 have hw0 := hw w (Fr.refl _ _)
 refine call66 ?_
 simp (maxSteps:=4000000)(disch:=first|assumption|(simp only[dz];first|done|assumption|omega)|omega|apply_rules[Fr.refl,Fr.alloc,Fr.drew]|rfl) only [↓gd,gp,Nat.reduceAdd,Nat.reduceEqDiff, ↓hk66]
 refine r5check hw0 hwl fun w1 hf1 => ?_
 have cw1 := cur w1
 have hz1 := hf1.size
 have h1 := h.frN hf1
 have hfM : Fr (rb :: blkL v) w w1 := Fr.trans (M' := []) (Fr.refl _ w) hf1 (by simp)
 by_cases hc : chk ws = 0
 case neg =>
  have d : decide (chk ws = 0) = false := decide_eq_false hc
  have e : rcommit own ws = ((0, chk ws), own) := by unfold rcommit; rw [if_pos hc]
  rw [e] at hK
  simp (maxSteps:=4000000)(disch:=first|assumption|(simp only[dz];first|done|assumption|omega)|omega|apply_rules[Fr.refl,Fr.alloc,Fr.drew]|rfl) only [↓gd,gp,Nat.reduceAdd,Nat.reduceEqDiff, ↓hk66, d]
  exact hK v w1 h1 (fun b hb => .inl hb) hfM
 have e : rcommit own ws = (((own.length : Int) + 1, 0), own ++ [ws]) := by unfold rcommit; rw [if_neg (by simp [hc])]
 rw [e] at hK
 rw [hc]
 have hw8 : ws.length ≤ 8 := by
  unfold chk at hc
  split at hc
  ·cases hc
  ·omega
 have hh1 := h1.head
 have hlt1 := lt_of_get _ _ hh1
 have hlv := h1.lt.2
 obtain ⟨va, vc, hv⟩ := h1.own.sl.form
 have hnb : v.ownBlock ≠ some rb := own_head h1.own hh1 (by decide)
 rw [hv] at hh1
 have wr : IntKind.i64.wrap ((own.length : Int) + 1) = (own.length : Int) + 1 := wrap64 (by omega) (by omega)
 simp (maxSteps:=4000000)(disch:=first|assumption|(simp only[dz];first|done|assumption|omega)|omega|apply_rules[Fr.refl,Fr.alloc,Fr.drew]|rfl) only [↓gd,gp,Nat.reduceAdd,Nat.reduceEqDiff, ↓hk66, hh1, wr]
 rw [← hv]
 obtain ⟨wa, wc, hwv⟩ := hw0.form
 refine loop_intro (fun e w' => ∃ (i : Nat) (vi : Value), i ≤ ws.length ∧ e 0 = .pointer (some ⟨rb, 8, none⟩) ∧ e 1 = wv ∧ e 7 = .int .i64 i ∧ w'.heap[rb]? = some (.cells (X.cells vi (.int .i64 most) (.int .i64 ((own.length : Int) + 1))).toArray 52 (0, 0)) ∧
   Own 4 131 w' vi ((past own).length + i) (cellsOf encPast (past own ++ (ws.take i).map fun x => ((own.length : Int) + 1, x))) ∧ (∀ b, vi.ownBlock = some b → v.ownBlock = some b ∨ w.heap.size ≤ b) ∧ Fr (rb :: blkL v) w w') (fun e _ => ws.length - (numOf (e 7)).toNat) ?_ ?_
 ·refine ⟨0, v, Nat.zero_le _, ?_⟩
  simp (maxSteps:=4000000)(disch:=first|assumption|(simp only[dz];first|done|assumption|omega)|omega|apply_rules[Fr.refl,Fr.alloc,Fr.drew]|rfl) only [↓gsd,gs,gv,Nat.reduceAdd,Nat.reduceEqDiff, Int.natCast_zero]
  refine ⟨?_, fun b hb => .inl hb, hfM.setB _ _ (.inl (List.mem_cons_self ..))⟩
  have hkeep : ∀ o, Own 4 131 (w1.setB rb o) v (past own).length (cellsOf encPast (past own)) := fun o => h1.own.fr (M := [rb]) ((Fr.refl _ w1).setB rb o (.inl (List.mem_cons_self ..))) (by intro x hx; simp at hx; subst hx; exact hnb)
  simpa using hkeep _
 rintro e w2 k ⟨i, vi, hi, e0, e1, e7, hg, hown, hbl, hf⟩ hk
 have cw2 := cur w2
 have hz2 := hf.size
 have hlt2 := lt_of_get _ _ hg
 obtain ⟨ia, ic, hvi⟩ := hown.sl.form
 have hnbi : vi.ownBlock ≠ some rb := own_head hown hg (by decide)
 have hG := hg
 rw [hvi] at hg
 by_cases hil : i < ws.length
 ·have d : decide ((i : Int) < (ws.length : Int)) = true := decide_eq_true (by omega)
  have i0 : (0 : Int) ≤ (i : Int) := by omega
  have i1 : (i : Int) < (ws.length : Int) := by omega
  have i3 : ((i : Int) + 1).toNat = i + 1 := by omega
  obtain ⟨x, hx⟩ : ∃ x, ws[i]? = some x := ⟨ws[i], List.getElem?_eq_getElem hil⟩
  obtain ⟨b, off, cap, o, hv1, ho, hb1, _, _, hrow⟩ := SlOf.wval (hw w2 hf) hx
  unfold encWr at hrow
  simp (maxSteps:=4000000)(disch:=first|assumption|(simp only[dz];first|done|assumption|omega)|omega|apply_rules[Fr.refl,Fr.alloc,Fr.drew]|rfl) only [↓gd,gp,Nat.reduceAdd,Nat.reduceEqDiff, ↓hk66, e0, e1, e7, hv1, hg, d, i0, i1, Int.toNat_natCast, ho, hrow]
  generalize hW : World.alloc w2.drew _ = w3
  have hf3 : Fr [] w2 w3 := by rw [← hW]; exact (Fr.refl _ _).drew.alloc _
  have hz3 : w3.heap.size = w2.heap.size + 1 := by rw [← hW, size_alloc, size_drew]
  have hsl : Sl 4 w3 (.slice (some ⟨w2.heap.size, 0, none⟩) 1 1) 1 (encPast ((own.length : Int) + 1, x)) := by rw [← hW]; exact sl_past (w := w2.drew) ((own.length : Int) + 1, x)
  clear hW
  have cw3 := cur w3
  obtain ⟨v4, w4, hr4, hown4, hf4, hbk⟩ := ap42 (ty := 42) (Own.frN hown hf3) hsl rfl (by omega)
  obtain ⟨a4, c4, hv4⟩ := hown4.sl.form
  have cw4 := cur w4
  have hz4 := hf4.size
  have hg4 := hf4.get (hf3.getN hG) (fun hm => hnbi (mem_blkL.1 hm))
  have hlt4 := lt_of_get _ _ hg4
  rw [hvi] at hr4 hg4
  rw [hv4] at hr4
  simp (maxSteps:=4000000)(disch:=first|assumption|(simp only[dz];first|done|assumption|omega)|omega|apply_rules[Fr.refl,Fr.alloc,Fr.drew]|rfl) only [↓gd,gp,Nat.reduceAdd,Nat.reduceEqDiff, eq_true hf3, ↓hk66, e0, e1, e7, hr4, hg4]
  refine hk _ _ ⟨i + 1, v4, by omega, ?_⟩ ?_
  ·simp (maxSteps:=4000000)(disch:=first|assumption|(simp only[dz];first|done|assumption|omega)|omega|apply_rules[Fr.refl,Fr.alloc,Fr.drew]|rfl) only [↓gsd,gs,gv,Nat.reduceAdd,Nat.reduceEqDiff, e0, e1, e7, hv1, hv4, Int.natCast_add i 1, Int.natCast_one]
   rw [← hv4]
   have htk : (ws.take (i + 1)).map (fun x => ((own.length : Int) + 1, x)) = (ws.take i).map (fun x => ((own.length : Int) + 1, x)) ++ [((own.length : Int) + 1, x)] := by
    rw [List.take_add_one, hx, List.map_append]; rfl
   refine ⟨?_, fun b hb => ?_, ?_⟩
   ·rw [htk, ← List.append_assoc, cellsOf_append, cellsOf_one]
    have h4 : Own 4 131 w4 v4 ((past own).length + (i + 1)) (cellsOf encPast (past own ++ (ws.take i).map fun x => ((own.length : Int) + 1, x)) ++ encPast ((own.length : Int) + 1, x)) := hown4
    exact h4.fr (M := [rb]) ((Fr.refl _ w4).setB rb _ (.inl (List.mem_cons_self ..))) (by
     intro y hy; simp at hy; subst hy
     exact own_head h4 (hf4.get (hf3.getN hG) (fun hm => hnbi (mem_blkL.1 hm))) (by decide))
   ·rcases hbk with e | ⟨b', e, e2⟩
    ·exact hbl b (e ▸ hb)
    ·rw [e] at hb; cases hb; right; omega
   ·refine Fr.setB ?_ _ _ (.inl (List.mem_cons_self ..))
    exact (hf.trans' hf3).trans hf4 fun y hy => by
     rcases hbl y (mem_blkL.1 hy) with q | q
     ·exact .inl (List.mem_cons_of_mem _ (mem_blkL.2 q))
     ·exact .inr q
  ·simp (maxSteps:=4000000)(disch:=first|assumption|(simp only[dz];first|done|assumption|omega)|omega|apply_rules[Fr.refl,Fr.alloc,Fr.drew]|rfl) only [↓gsd,gs,gv,Nat.reduceAdd,Nat.reduceEqDiff, e7, numOf, Int.toNat_natCast, i3]; omega
 ·have d : decide ((i : Int) < (ws.length : Int)) = false := decide_eq_false (by omega)
  have : i = ws.length := by omega
  subst this
  simp (maxSteps:=4000000)(disch:=first|assumption|(simp only[dz];first|done|assumption|omega)|omega|apply_rules[Fr.refl,Fr.alloc,Fr.drew]|rfl) only [↓gd,gp,Nat.reduceAdd,Nat.reduceEqDiff, ↓hk66, e0, e1, e7, hwv, hg, d]
  refine hK vi w2 ⟨?_, ?_⟩ hbl hf
  ·rw [hG]; simp
  ·rw [past_snoc, List.length_append, List.length_map]
   rw [List.take_length] at hown
   exact hown
end Go.Proofs.YtgloomahpjpiiaaGreat.St
