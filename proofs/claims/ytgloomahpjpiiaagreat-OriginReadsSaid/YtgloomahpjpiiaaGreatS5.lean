/- Read. Commit. -/
import Derived.Test.YtgloomahpjpiiaaGreatS3
set_option linter.unusedVariables false
set_option linter.unusedSimpArgs false
set_option maxRecDepth 10000
namespace Go.Proofs.YtgloomahpjpiiaaGreat.St
open Go.VW
structure Fact where
 key : ByteArray
 has : Bool
 data : ByteArray
 lo : Int
 hi : Int
 deriving DecidableEq
def encFact (f : Fact) : List Value := [.string f.key, .bool f.has, .string f.data, .int .i64 f.lo, .int .i64 f.hi]
def fact0 : Fact := ⟨⟨#[]⟩, false, ⟨#[]⟩, 0, 0⟩
def prev (l : List Ver) (i : Nat) : Option Ver := if i = 0 then none else l[i - 1]?
def mkFact (key : ByteArray) (l : List Ver) (c : Int) : Fact :=
 ⟨key, ((prev l (idx l c)).map (·.has)).getD false, ((prev l (idx l c)).map (·.data)).getD ⟨#[]⟩, ((prev l (idx l c)).map (·.n)).getD 0, ((l[idx l c]?).map (·.n)).getD 4611686018427387904⟩
def St.read (st : St) (key : ByteArray) (c : Int) : Fact × Int :=
 if goodKey key = false ∨ c < 0 then (fact0, 1) else if st.last < c then (fact0, 21) else if c < st.oldest key then (fact0, 20) else (mkFact key (st.row key).list c, 0)
theorem idx_le (l : List Ver) (c : Int) : idx l c ≤ l.length := by
 unfold idx
 exact (List.takeWhile_sublist _).length_le
theorem hpair {w : World} {v : Value} {xs : List Ver} {i : Nat} {x : Ver} (hk : ∀ x, (encVer x).length = 3) (h : SlOf 3 encVer w v xs) (hx : xs[i]? = some x) {b off cap : Nat} {o : Obj} (hv : v = .slice (some ⟨b, off, none⟩) xs.length cap) (ho : w.heap[b]? = some o) (orig : Prop) (K : Value → Prop) :
  ldnV orig 2 (some o) (off + i * 3 + 1) K = K (.agg ([.bool x.has, .string x.data] : List Value).toArray) := by
 obtain ⟨b', off', cap', c, et, fr, rfl, hb, hg, hd⟩ := h.elem hk i x hx
 simp only [Value.slice.injEq, Option.some.injEq, Addr.mk.injEq] at hv
 obtain ⟨⟨rfl, rfl, _⟩, _, _⟩ := hv
 rw [hb] at ho
 cases ho
 have e : (c.toList.drop (off' + i * 3 + 1)).take 2 = [.bool x.has, .string x.data] := by
  have : (c.toList.drop (off' + i * 3 + 1)).take 2 = ((c.toList.drop (off' + i * 3)).take 3).drop 1 := by
   rw [List.drop_take, List.drop_drop]
  rw [this, hd]; rfl
 rw [ldnV_cells _ _ _ _ _ _ _ (by rw [e]; rfl), e]
set_option maxHeartbeats 4000000 in
theorem read_spec {b bm : Nat} {st : St} {w : World} {key : ByteArray} {c : Int} {K : Value → World → Prop} (h : StoreAt w b bm st) (hwf : st.WF)
  (hK : ∀ w', Fr [] w w' → K (.tuple ([.agg (encFact (st.read key c).1).toArray, .int .i64 (st.read key c).2] : List Value).toArray) w') :
  CallsN Tryz.prog 40 [.pointer (some ⟨b, 0, none⟩), .string key, .int .i64 c] w K := by
 have cw := cur w
 have hb := h.head
 have hblt := h.lt.1
 refine call40 ?_
 simp (maxSteps:=4000000)(disch:=first|assumption|(simp only[dz];first|done|assumption|omega)|omega|apply_rules[Fr.refl,Fr.alloc,Fr.drew]|rfl) only [↓gd,gp,Nat.reduceAdd,Nat.reduceEqDiff, ↓hk40]
 refine goodKey_spec ?_
 by_cases hg : goodKey key = true ∧ 0 ≤ c
 ·obtain ⟨hg, hc0⟩ := hg
  have hc0' : decide (c < 0) = false := decide_eq_false (by omega)
  simp (maxSteps:=4000000)(disch:=first|assumption|(simp only[dz];first|done|assumption|omega)|omega|apply_rules[Fr.refl,Fr.alloc,Fr.drew]|rfl) only [↓gd,gp,Nat.reduceAdd,Nat.reduceEqDiff, ↓hk40, hg, hc0']
  by_cases hl : st.last < c
  ·have hl' : decide (st.last < c) = true := decide_eq_true hl
   have e : st.read key c = (fact0, 21) := by
    have : ¬ c < 0 := by omega
    simp [St.read, hg, this, hl]
   simp only [e, fact0, encFact] at hK
   simp (maxSteps:=4000000)(disch:=first|assumption|(simp only[dz];first|done|assumption|omega)|omega|apply_rules[Fr.refl,Fr.alloc,Fr.drew]|rfl) only [↓gd,gp,Nat.reduceAdd,Nat.reduceEqDiff, ↓hk40, hb, hl']
   refine hK _ ?_
   (repeat (first | exact Fr.refl _ _ | assumption | with_reducible apply Fr.alloc | with_reducible apply Fr.drew | with_reducible refine Fr.setB ?_ _ _ (.inr (by first | omega | (simp only [gz]; omega))) | with_reducible refine Fr.setB ?_ _ _ (.inl (by first | assumption | simp)) | with_reducible refine Fr.trans' ?_ (by assumption)))
  ·have hl' : decide (st.last < c) = false := decide_eq_false hl
   simp (maxSteps:=4000000)(disch:=first|assumption|(simp only[dz];first|done|assumption|omega)|omega|apply_rules[Fr.refl,Fr.alloc,Fr.drew]|rfl) only [↓gd,gp,Nat.reduceAdd,Nat.reduceEqDiff, ↓hk40, hb, hl']
   refine oldest_spec (h.frN (by (repeat (first | exact Fr.refl _ _ | assumption | with_reducible apply Fr.alloc | with_reducible apply Fr.drew | with_reducible refine Fr.setB ?_ _ _ (.inr (by first | omega | (simp only [gz]; omega))) | with_reducible refine Fr.setB ?_ _ _ (.inl (by first | assumption | simp)) | with_reducible refine Fr.trans' ?_ (by assumption))))) hwf ?_
   by_cases ho : c < st.oldest key
   ·have ho' : decide (c < st.oldest key) = true := decide_eq_true ho
    have e : st.read key c = (fact0, 20) := by
     have : ¬ c < 0 := by omega
     simp [St.read, hg, this, hl, ho]
    simp only [e, fact0, encFact] at hK
    simp (maxSteps:=4000000)(disch:=first|assumption|(simp only[dz];first|done|assumption|omega)|omega|apply_rules[Fr.refl,Fr.alloc,Fr.drew]|rfl) only [↓gd,gp,Nat.reduceAdd,Nat.reduceEqDiff, ↓hk40, hb, ho']
    refine hK _ ?_
    (repeat (first | exact Fr.refl _ _ | assumption | with_reducible apply Fr.alloc | with_reducible apply Fr.drew | with_reducible refine Fr.setB ?_ _ _ (.inr (by first | omega | (simp only [gz]; omega))) | with_reducible refine Fr.setB ?_ _ _ (.inl (by first | assumption | simp)) | with_reducible refine Fr.trans' ?_ (by assumption)))
   ·have ho' : decide (c < st.oldest key) = false := decide_eq_false ho
    have e : st.read key c = (mkFact key (st.row key).list c, 0) := by
     have : ¬ c < 0 := by omega
     simp [St.read, hg, this, hl, ho]
    simp only [e, mkFact, encFact] at hK
    obtain ⟨es, o, hbo, hm, s, hv, hs, hbt⟩ := h.rows.get key
    change (aget es key).getD rowZ = .agg ([s, .bool (st.row key).dropped] : List Value).toArray at hv
    change SlOf 3 encVer w s (st.row key).list at hs
    have hmv := fun orig K => mapV_at inj_string hm orig K
    obtain ⟨a, cp, hsv⟩ := hs.form
    have hbm := h.lt.2.1
    have hso := (hwf.row key).2.1
    have hle := (hwf.row key).1
    have hm2 := hwf.m2
    simp (maxSteps:=4000000)(disch:=first|assumption|(simp only[dz];first|done|assumption|omega)|omega|apply_rules[Fr.refl,Fr.alloc,Fr.drew]|rfl) only [↓gd,gp,Nat.reduceAdd,Nat.reduceEqDiff, ↓hk40, hb, ho', hbo, hmv, hv, hsv]
    rw [← hsv]
    generalize hW : World.alloc _ (Obj.cells ([s] : List Value).toArray 91) = W1
    have hf1 : Fr [] w W1 := by rw [← hW]; (repeat (first | exact Fr.refl _ _ | assumption | with_reducible apply Fr.alloc | with_reducible apply Fr.drew | with_reducible refine Fr.setB ?_ _ _ (.inr (by first | omega | (simp only [gz]; omega))) | with_reducible refine Fr.setB ?_ _ _ (.inl (by first | assumption | simp)) | with_reducible refine Fr.trans' ?_ (by assumption)))
    have hz1 : W1.heap.size = w.heap.size + 1 + 1 + 1 := by rw [← hW]; simp only [gz]
    have h8 : W1.heap[w.heap.size + 1 + 1]? = some (.cells ([s] : List Value).toArray 91 (0, 0)) := by rw [← hW]; simp (maxSteps:=4000000)(disch:=first|assumption|(simp only[dz];first|done|assumption|omega)|omega|apply_rules[Fr.refl,Fr.alloc,Fr.drew]|rfl) only [↓gsd,gs,gv,Nat.reduceAdd,Nat.reduceEqDiff]
    have h5 : W1.heap[w.heap.size]? = some (.cells ([.int .i64 c] : List Value).toArray 2 (0, 0)) := by rw [← hW]; simp (maxSteps:=4000000)(disch:=first|assumption|(simp only[dz];first|done|assumption|omega)|omega|apply_rules[Fr.refl,Fr.alloc,Fr.drew]|rfl) only [↓gsd,gs,gv,Nat.reduceAdd,Nat.reduceEqDiff]
    have h6 : W1.heap[w.heap.size + 1]? = some (.cells ([.string ⟨#[]⟩, .bool false, .string ⟨#[]⟩, .int .i64 0, .int .i64 0] : List Value).toArray 57 (0, 0)) := by rw [← hW]; simp (maxSteps:=4000000)(disch:=first|assumption|(simp only[dz];first|done|assumption|omega)|omega|apply_rules[Fr.refl,Fr.alloc,Fr.drew]|rfl) only [↓gsd,gs,gv,Nat.reduceAdd,Nat.reduceEqDiff]
    clear hW
    refine search_spec h8 h5 (hs.frN hf1) hso (by omega) ?_
    intro w2 hf2
    have cw2 := cur w2
    have hz2 := hf2.size
    have hfw := hf1.trans' hf2
    replace h8 := hf2.getN h8
    replace h6 := hf2.getN h6
    have hs2 := hs.frN hfw
    obtain ⟨i, hi⟩ : ∃ i, i = idx (st.row key).list c := ⟨_, rfl⟩
    have hile := idx_le (st.row key).list c
    rw [← hi] at hile hK ⊢
    have hd0' : decide (0 < (i : Int)) = decide (0 < i) := by simp
    have hdl : decide ((i : Int) < ((st.row key).list.length : Int)) = decide (i < (st.row key).list.length) := by simp
    by_cases hil : i < (st.row key).list.length
    ·have hil' : decide (i < (st.row key).list.length) = true := decide_eq_true hil
     obtain ⟨x, hx⟩ : ∃ x, (st.row key).list[i]? = some x := ⟨(st.row key).list[i], List.getElem?_eq_getElem hil⟩
     obtain ⟨bb, off, cap, o, hsv, ho, hbl, hrow, hcell⟩ := hs2.read encVer_len i x hx
     have i0 : (0 : Int) ≤ (i : Int) := by omega
     have i1 : (i : Int) < ((st.row key).list.length : Int) := by omega
     have hc0 := fun orig K => hcell 0 (.int .i64 x.n) orig K rfl
     simp only [Nat.add_zero] at hc0
     by_cases hi0 : 0 < i
     ·have hi0' : decide (0 < i) = true := decide_eq_true hi0
      have hsub : (i : Int) - 1 = ((i - 1 : Nat) : Int) := by omega
      obtain ⟨y, hy⟩ : ∃ y, (st.row key).list[i - 1]? = some y := ⟨(st.row key).list[i - 1], List.getElem?_eq_getElem (by omega)⟩
      have hpv : prev (st.row key).list i = some y := by rw [prev, if_neg (by omega), hy]
      obtain ⟨bb', off', cap', o', hsv', ho', hbl', hrow', hcell'⟩ := hs2.read encVer_len (i - 1) y hy
      have j0 : (0 : Int) ≤ ((i - 1 : Nat) : Int) := by omega
      have j1 : ((i - 1 : Nat) : Int) < ((st.row key).list.length : Int) := by omega
      have hd0 := fun orig K => hcell' 0 (.int .i64 y.n) orig K rfl
      have hd1 := fun orig K => hcell' 1 (.bool y.has) orig K rfl
      have hd2 := fun orig K => hcell' 2 (.string y.data) orig K rfl
      simp only [Nat.add_zero] at hd0
      have hq : ∀ orig K, ldnV orig 2 (some o') (off' + (i - 1) * 3 + 1) K = K (.agg ([.bool y.has, .string y.data] : List Value).toArray) := hpair encVer_len hs2 hy hsv' ho'
      rw [hpv, hx] at hK
      simp only [Option.map_some, Option.map_none, Option.getD_some, Option.getD_none] at hK
      rw [hsv] at hsv'
      simp only [Value.slice.injEq, Option.some.injEq, Addr.mk.injEq] at hsv'
      obtain ⟨⟨rfl, rfl, _⟩, _, rfl⟩ := hsv'
      have hoo : o = o' := Option.some.inj (ho.symm.trans ho')
      subst hoo
      have hl6 := lt_of_get _ _ h6
      simp (maxSteps:=4000000)(disch:=first|assumption|(simp only[dz];first|done|assumption|omega)|omega|apply_rules[Fr.refl,Fr.alloc,Fr.drew]|rfl) only [↓gd,gp,Nat.reduceAdd,Nat.reduceEqDiff, ↓hk40, h8, hdl, hil', hd0', hi0', hsv, i0, i1, Int.toNat_natCast, ho, hc0, h6, hsub, j0, j1, hd0, hq]
      refine hK _ ?_
      (repeat (first | exact Fr.refl _ _ | assumption | with_reducible apply Fr.alloc | with_reducible apply Fr.drew | with_reducible refine Fr.setB ?_ _ _ (.inr (by first | omega | (simp only [gz]; omega))) | with_reducible refine Fr.setB ?_ _ _ (.inl (by first | assumption | simp)) | with_reducible refine Fr.trans' ?_ (by assumption)))
     ·have hi0' : decide (0 < i) = false := decide_eq_false hi0
      have hpv : prev (st.row key).list i = none := by rw [prev, if_pos (by omega)]
      rw [hpv, hx] at hK
      simp only [Option.map_some, Option.map_none, Option.getD_some, Option.getD_none] at hK
      simp (maxSteps:=4000000)(disch:=first|assumption|(simp only[dz];first|done|assumption|omega)|omega|apply_rules[Fr.refl,Fr.alloc,Fr.drew]|rfl) only [↓gd,gp,Nat.reduceAdd,Nat.reduceEqDiff, ↓hk40, h8, hdl, hil', hd0', hi0', hsv, i0, i1, Int.toNat_natCast, ho, hc0, h6]
      refine hK _ ?_
      (repeat (first | exact Fr.refl _ _ | assumption | with_reducible apply Fr.alloc | with_reducible apply Fr.drew | with_reducible refine Fr.setB ?_ _ _ (.inr (by first | omega | (simp only [gz]; omega))) | with_reducible refine Fr.setB ?_ _ _ (.inl (by first | assumption | simp)) | with_reducible refine Fr.trans' ?_ (by assumption)))
    ·have hil' : decide (i < (st.row key).list.length) = false := decide_eq_false hil
     have hx : (st.row key).list[i]? = none := List.getElem?_eq_none (by omega)
     by_cases hi0 : 0 < i
     ·have hi0' : decide (0 < i) = true := decide_eq_true hi0
      have hsub : (i : Int) - 1 = ((i - 1 : Nat) : Int) := by omega
      obtain ⟨y, hy⟩ : ∃ y, (st.row key).list[i - 1]? = some y := ⟨(st.row key).list[i - 1], List.getElem?_eq_getElem (by omega)⟩
      have hpv : prev (st.row key).list i = some y := by rw [prev, if_neg (by omega), hy]
      obtain ⟨bb', off', cap', o', hsv', ho', hbl', hrow', hcell'⟩ := hs2.read encVer_len (i - 1) y hy
      have j0 : (0 : Int) ≤ ((i - 1 : Nat) : Int) := by omega
      have j1 : ((i - 1 : Nat) : Int) < ((st.row key).list.length : Int) := by omega
      have hd0 := fun orig K => hcell' 0 (.int .i64 y.n) orig K rfl
      have hd1 := fun orig K => hcell' 1 (.bool y.has) orig K rfl
      have hd2 := fun orig K => hcell' 2 (.string y.data) orig K rfl
      simp only [Nat.add_zero] at hd0
      have hq : ∀ orig K, ldnV orig 2 (some o') (off' + (i - 1) * 3 + 1) K = K (.agg ([.bool y.has, .string y.data] : List Value).toArray) := hpair encVer_len hs2 hy hsv' ho'
      rw [hpv, hx] at hK
      simp only [Option.map_some, Option.map_none, Option.getD_some, Option.getD_none] at hK
      have hl6 := lt_of_get _ _ h6
      simp (maxSteps:=4000000)(disch:=first|assumption|(simp only[dz];first|done|assumption|omega)|omega|apply_rules[Fr.refl,Fr.alloc,Fr.drew]|rfl) only [↓gd,gp,Nat.reduceAdd,Nat.reduceEqDiff, ↓hk40, h8, hdl, hil', hd0', hi0', hsv', h6, hsub, j0, j1, Int.toNat_natCast, ho', hd0, hq]
      refine hK _ ?_
      (repeat (first | exact Fr.refl _ _ | assumption | with_reducible apply Fr.alloc | with_reducible apply Fr.drew | with_reducible refine Fr.setB ?_ _ _ (.inr (by first | omega | (simp only [gz]; omega))) | with_reducible refine Fr.setB ?_ _ _ (.inl (by first | assumption | simp)) | with_reducible refine Fr.trans' ?_ (by assumption)))
     ·have hi0' : decide (0 < i) = false := decide_eq_false hi0
      have hpv : prev (st.row key).list i = none := by rw [prev, if_pos (by omega)]
      rw [hpv, hx] at hK
      simp only [Option.map_some, Option.map_none, Option.getD_some, Option.getD_none] at hK
      simp (maxSteps:=4000000)(disch:=first|assumption|(simp only[dz];first|done|assumption|omega)|omega|apply_rules[Fr.refl,Fr.alloc,Fr.drew]|rfl) only [↓gd,gp,Nat.reduceAdd,Nat.reduceEqDiff, ↓hk40, h8, hdl, hil', hd0', hi0', hsv, h6]
      refine hK _ ?_
      (repeat (first | exact Fr.refl _ _ | assumption | with_reducible apply Fr.alloc | with_reducible apply Fr.drew | with_reducible refine Fr.setB ?_ _ _ (.inr (by first | omega | (simp only [gz]; omega))) | with_reducible refine Fr.setB ?_ _ _ (.inl (by first | assumption | simp)) | with_reducible refine Fr.trans' ?_ (by assumption)))
 ·have e : st.read key c = (fact0, 1) := by
   have : goodKey key = false ∨ c < 0 := by
    cases hk : goodKey key
    ·exact .inl rfl
    ·exact .inr (by have : ¬ 0 ≤ c := fun h => hg ⟨hk, h⟩
                    omega)
   simp [St.read, this]
  simp only [e, fact0, encFact] at hK
  cases hk : goodKey key with
  | false =>
    simp (maxSteps:=4000000)(disch:=first|assumption|(simp only[dz];first|done|assumption|omega)|omega|apply_rules[Fr.refl,Fr.alloc,Fr.drew]|rfl) only [↓gd,gp,Nat.reduceAdd,Nat.reduceEqDiff, ↓hk40]
    refine hK _ ?_
    (repeat (first | exact Fr.refl _ _ | assumption | with_reducible apply Fr.alloc | with_reducible apply Fr.drew | with_reducible refine Fr.setB ?_ _ _ (.inr (by first | omega | (simp only [gz]; omega))) | with_reducible refine Fr.setB ?_ _ _ (.inl (by first | assumption | simp)) | with_reducible refine Fr.trans' ?_ (by assumption)))
  | true =>
    have hc : decide (c < 0) = true := decide_eq_true (by
     have : ¬ 0 ≤ c := fun h => hg ⟨hk, h⟩
     omega)
    simp (maxSteps:=4000000)(disch:=first|assumption|(simp only[dz];first|done|assumption|omega)|omega|apply_rules[Fr.refl,Fr.alloc,Fr.drew]|rfl) only [↓gd,gp,Nat.reduceAdd,Nat.reduceEqDiff, ↓hk40, hc]
    refine hK _ ?_
    (repeat (first | exact Fr.refl _ _ | assumption | with_reducible apply Fr.alloc | with_reducible apply Fr.drew | with_reducible refine Fr.setB ?_ _ _ (.inr (by first | omega | (simp only [gz]; omega))) | with_reducible refine Fr.setB ?_ _ _ (.inl (by first | assumption | simp)) | with_reducible refine Fr.trans' ?_ (by assumption)))
end Go.Proofs.YtgloomahpjpiiaaGreat.St
namespace Go.Proofs.YtgloomahpjpiiaaGreat.St
open Go.VW
abbrev Rows := List (ByteArray × Row)
abbrev verOf (n : Int) (x : Wr) : Ver := ⟨n, x.has, x.data⟩
def Row.put (most : Nat) (n : Int) (r : Row) (x : Wr) : Row :=
 if most < r.list.length + 1 then ⟨(r.list ++ [verOf n x]).drop (r.list.length + 1 - most), true⟩ else ⟨r.list ++ [verOf n x], r.dropped⟩
def put (most : Nat) (n : Int) (rows : Rows) (x : Wr) : Rows := aset rows x.key (((aget rows x.key).getD ⟨[], false⟩).put most n x)
def St.commit (st : St) (ws : List Wr) : (Int × Int) × St :=
 if chk ws ≠ 0 then ((0, chk ws), st) else if 1099511627776 ≤ st.last then ((0, 2), st) else ((st.last + 1, 0), ⟨ws.foldl (put st.most (st.last + 1)) st.rows, st.most, st.last + 1⟩)
theorem BlkT.of_own {e : TypeId} {k n : Nat} {w : World} {v : Value} {cs : List Value} (h : Own k e w v n cs) : BlkT e w v := by
 rcases h.2 with ⟨rfl, rfl⟩ | ⟨g, cap, cur, rfl, _, hg, hnc, _⟩
 ·exact BlkT.nil
 ·intro a m c hs
  simp only [Value.slice.injEq] at hs
  obtain ⟨rfl, rfl, rfl⟩ := hs
  refine ⟨hnc, fun a' ha => ?_⟩
  cases ha
  exact ⟨cur, _, hg⟩
theorem BlkT.cut {e : TypeId} {w : World} {a : Option Addr} {n c l k : Nat} (h : BlkT e w (.slice a n c)) (hl : l ≤ n) : BlkT e w (.slice (if c = l then a else a.map (·.add (l * k))) (n - l) (c - l)) := by
 intro a1 n1 c1 hs
 simp only [Value.slice.injEq] at hs
 obtain ⟨h1, h2, h3⟩ := hs
 obtain ⟨hnc, hb⟩ := h a n c rfl
 refine ⟨by omega, fun a' ha => ?_⟩
 subst ha
 split at h1
 ·exact hb a' h1
 ·cases a with
  | none => cases h1
  | some a0 =>
    simp only [Option.map_some, Option.some.injEq] at h1
    subst h1
    have := hb a0 rfl
    unfold Addr.add
    split <;> exact this
/-- The row that is put. -/
theorem row_put {w : World} {v : Value} {r : Row} {most : Nat} {n : Int} {x : Wr} (h : Own 3 94 w v (r.list.length + 1) (cellsOf encVer (r.list ++ [verOf n x]))) (hm : 1 ≤ most) :
  if most < r.list.length + 1 then ∃ v', (Instr.sliceAt 91 v (some (.int .i64 ((r.list.length + 1 - most : Nat) : Int))) none none).run Tryz.prog w = .ok v' w ∧ (∃ a m c, v' = .slice a m c) ∧ RowV w (.agg ([v', .bool true] : List Value).toArray) (r.put most n x)
  else RowV w (.agg ([v, .bool r.dropped] : List Value).toArray) (r.put most n x) := by
 have hb := BlkT.of_own h
 have hs := h.sl
 obtain ⟨a, c, rfl⟩ := hs.form
 split
 ·rename_i hlt
  obtain ⟨v', hr, hs', hc, ho⟩ := run_cut_low (P := Tryz.prog) (t := 91) Tryz.runUnderlying91 Tryz.sizeOf94 hs (fun a m c h => (hb a m c h).1) .i64 (r.list.length + 1 - most) (by omega)
  have hnc := (hb a _ c rfl).1
  have hr' : (Instr.sliceAt 91 (.slice a (r.list.length + 1) c) (some (.int .i64 ((r.list.length + 1 - most : Nat) : Int))) none none).run Tryz.prog w = .ok (.slice (if c = r.list.length + 1 - most then a else a.map (·.add ((r.list.length + 1 - most) * 3))) (r.list.length + 1 - (r.list.length + 1 - most)) (c - (r.list.length + 1 - most))) w := by
   have hl' : 0 ≤ ((r.list.length + 1 - most : Nat) : Int) ∧ ((r.list.length + 1 - most : Nat) : Int) ≤ (r.list.length + 1 : Nat) := by omega
   have hl0 := hl'.1
   have hl1 := hl'.2
   simp only [Instr.sliceAt, Sem.run_bind, Tryz.runUnderlying91, Result.andThen_ok, Instr.slice, Instr.sliceBounds, Instr.sliceBound, asIntOf, Tryz.sizeOf94]
   simp only [Int.natCast_add, Int.natCast_one] at hl1 ⊢
   simp [hl0, hl1, sem_pure_bind, Sem.run_bind, Tryz.sizeOf94]
  have e := hr.symm.trans hr'
  simp only [Result.ok.injEq, and_true] at e
  refine ⟨v', hr, ⟨_, _, _, e⟩, v', ?_, ?_, ?_⟩
  ·simp [Row.put, hlt]
  ·have hl : (r.put most n x).list = (r.list ++ [verOf n x]).drop (r.list.length + 1 - most) := by simp [Row.put, hlt]
   rw [hl]
   unfold SlOf
   rw [← cellsOf_drop encVer_len]
   have : ((r.list ++ [verOf n x]).drop (r.list.length + 1 - most)).length = r.list.length + 1 - (r.list.length + 1 - most) := by simp
   rw [this]; exact hs'
  ·rw [e]; exact hb.cut (by omega)
 ·rename_i hlt
  refine ⟨_, ?_, ?_, hb⟩
  ·simp [Row.put, hlt]
  ·have hl : (r.put most n x).list = r.list ++ [verOf n x] := by simp [Row.put, hlt]
   rw [hl]
   unfold SlOf
   simpa using hs
end Go.Proofs.YtgloomahpjpiiaaGreat.St
