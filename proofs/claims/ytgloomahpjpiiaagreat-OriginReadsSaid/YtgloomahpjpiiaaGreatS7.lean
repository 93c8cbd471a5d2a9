/- Commit walked. What Commit keeps; put; the fixed part of the laws. -/
import Derived.Test.YtgloomahpjpiiaaGreatS5
import Derived.Test.YtgloomahpjpiiaaGreatOR
set_option linter.unusedVariables false
set_option linter.unusedSimpArgs false
set_option maxRecDepth 10000
namespace Go.Proofs.YtgloomahpjpiiaaGreat.St
open Go.VW
def RowsLen (most : Nat) (rows : Rows) : Prop := ∀ k, ((aget rows k).getD ⟨[], false⟩).list.length ≤ most
theorem Row.put_len {most : Nat} {n : Int} {r : Row} {x : Wr} (h : r.list.length ≤ most) : (r.put most n x).list.length ≤ most := by
 unfold Row.put
 split <;> simp <;> omega
theorem RowsLen.put {most : Nat} {n : Int} {rows : Rows} {x : Wr} (h : RowsLen most rows) : RowsLen most (put most n rows x) := by
 intro k
 unfold Go.Proofs.YtgloomahpjpiiaaGreat.St.put
 rw [aget_aset]
 split
 ·exact Row.put_len (h _)
 ·exact h k
theorem RowsAt.get' {w : World} {o : Option Obj} {rows : Rows} (h : RowsAt w o rows) (k : ByteArray) : ∃ es o', o = some o' ∧ MapAt Value.string (some o') es ∧ es.map (·.1) = rows.map (·.1) ∧
  (∀ k v r, aget es k = some v → aget rows k = some r → RowV w v r) ∧ RowV w ((aget es k).getD rowZ) ((aget rows k).getD ⟨[], false⟩) := by
 obtain ⟨es, hm, hk, hr⟩ := id h
 obtain ⟨es', o', ho, hm', hrow⟩ := h.get k
 have := MapAt.uniq inj_string (ho ▸ hm) hm'
 subst this
 exact ⟨es, o', ho, hm', hk, hr, hrow⟩
theorem RowsAt.put {w : World} {o : Option Obj} {rows : Rows} {es : List (ByteArray × Value)} {k : ByteArray} {v : Value} {r : Row} (hk : es.map (·.1) = rows.map (·.1)) (hr : ∀ k v r, aget es k = some v → aget rows k = some r → RowV w v r)
  (hm : MapAt Value.string o (aset es k v)) (hv : RowV w v r) : RowsAt w o (aset rows k r) := by
 refine ⟨_, hm, by rw [keys_aset, keys_aset, hk], fun k' v' r' h1 h2 => ?_⟩
 rw [aget_aset] at h1 h2
 by_cases h : k = k'
 ·simp only [h, if_true, Option.some.injEq] at h1 h2
  rw [← h1, ← h2]; exact hv
 ·simp only [h, if_false] at h1 h2
  exact hr k' v' r' h1 h2
set_option maxHeartbeats 4000000 in
theorem commit_spec {b bm : Nat} {st : St} {w : World} {wv : Value} {ws : List Wr} {K : Value → World → Prop} (h : StoreAt w b bm st) (hwf : st.WF) (hwF : ∀ w', Fr [b, bm] w w' → SlOf 3 encWr w' wv ws)
  (hK : ∀ w', Fr [b, bm] w w' → StoreAt w' b bm (st.commit ws).2 → K (.tuple ([.int .i64 (st.commit ws).1.1, .int .i64 (st.commit ws).1.2] : List Value).toArray) w') :
  CallsN Tryz.prog 56 [.pointer (some ⟨b, 0, none⟩), wv] w K := by
 have cw := cur w
 have hw := hwF w (Fr.refl _ _)
 obtain ⟨hb0, hbm0, hne⟩ := h.lt
 refine call56 ?_
 simp (maxSteps:=4000000)(disch:=first|assumption|(simp only[dz];first|done|assumption|omega)|omega|apply_rules[Fr.refl,Fr.alloc,Fr.drew]|rfl) only [↓gsd,gs,gv,Nat.reduceAdd,Nat.reduceEqDiff, gt, ↓hk56]
 refine check_spec hw ?_
 intro w1 hf1
 have cw1 := cur w1
 have hz1 := hf1.size
 have h1 := h.frN hf1
 have hb := h1.head
 have hw1 := hw.frN hf1
 by_cases hc : chk ws = 0
 ·by_cases hl : 1099511627776 ≤ st.last
  ·have hK' := hK w1 (hf1.mono (by simp))
   have e : st.commit ws = ((0, 2), st) := by simp [St.commit, hc, hl]
   rw [e] at hK'
   simp (maxSteps:=4000000)(disch:=first|assumption|(simp only[dz];first|done|assumption|omega)|omega|apply_rules[Fr.refl,Fr.alloc,Fr.drew]|rfl) only [↓gsd,gs,gv,Nat.reduceAdd,Nat.reduceEqDiff, gt, ↓hk56, hc, hb, hl]
   exact hK' h1
  ·obtain ⟨a, c, hv⟩ := hw.form
   have hl' : decide (1099511627776 ≤ st.last) = false := decide_eq_false hl
   have hl0 := hwf.l0
   simp (maxSteps:=4000000)(disch:=first|assumption|(simp only[dz];first|done|assumption|omega)|omega|apply_rules[Fr.refl,Fr.alloc,Fr.drew]|rfl) only [↓gsd,gs,gv,Nat.reduceAdd,Nat.reduceEqDiff, gt, ↓hk56, hc, hb, hl', hv]
   rw [← hv]
   obtain ⟨n, hn⟩ : ∃ n, n = st.last + 1 := ⟨_, rfl⟩
   rw [← hn]
   have hrl : RowsLen st.most st.rows := fun k => (hwf.row k).1
   have h8 : ws.length ≤ 8 := Nat.le_of_not_lt fun hh => by simp [chk, hh] at hc
   have hm1 := hwf.m1
   have hm2 := hwf.m2
   refine loop_intro (fun e w' => ∃ i : Nat, i ≤ ws.length ∧ e 0 = .pointer (some ⟨b, 0, none⟩) ∧ e 30 = wv ∧ e 31 = .int .i64 ws.length ∧ e 32 = .int .i64 i ∧
     w'.heap[b]? = some (.cells ([.map (some bm), .int .i64 st.most, .int .i64 n] : List Value).toArray 103 (0, 0)) ∧ RowsAt w' w'.heap[bm]? ((ws.take i).foldl (put st.most n) st.rows) ∧
     RowsLen st.most ((ws.take i).foldl (put st.most n) st.rows) ∧ Fr [b, bm] w w')
    (fun e _ => ws.length - (numOf (e 32)).toNat) ?_ ?_
   ·have hF : Fr [b] w1 (w1.setB b (.cells ([.map (some bm), .int .i64 st.most, .int .i64 n] : List Value).toArray 103)) := (Fr.refl _ _).setB _ _ (.inl (by simp))
    refine ⟨0, Nat.zero_le _, ?_⟩
    simp (maxSteps:=4000000)(disch:=first|assumption|(simp only[dz];first|done|assumption|omega)|omega|apply_rules[Fr.refl,Fr.alloc,Fr.drew]|rfl) only [↓gsd,gs,gv,Nat.reduceAdd,Nat.reduceEqDiff, Int.natCast_zero, List.foldl_nil]
    refine ⟨?_, hrl, (hf1.mono (by simp)).trans hF fun x hx => .inl (by simp at hx; simp [hx])⟩
    refine h1.rows.fr hF fun x hx cs fr => ?_
    obtain rfl : x = b := by simpa using hx
    rw [hb]; simp
   ·rintro e w2 k ⟨i, hi, e0, e30, e31, e32, hb2, hrow, hrl, hf⟩ hk
    have cw2 := cur w2
    have hz2 := hf.size
    by_cases hlt : i < ws.length
    ·have el : decide ((i : Int) < (ws.length : Int)) = true := decide_eq_true (by omega)
     obtain ⟨x, hx⟩ : ∃ x, ws[i]? = some x := ⟨ws[i], List.getElem?_eq_getElem hlt⟩
     have hw2 := hwF w2 hf
     obtain ⟨bb, off, cap, ob, hwv, hob, hbl, hrw, hcell⟩ := hw2.read encWr_len i x hx
     have i0 : (0 : Int) ≤ (i : Int) := by omega
     have i1 : (i : Int) < (ws.length : Int) := by omega
     obtain ⟨rows, hrows⟩ : ∃ rows, rows = (ws.take i).foldl (put st.most n) st.rows := ⟨_, rfl⟩
     rw [← hrows] at hrow hrl
     obtain ⟨es, o, hbo, hm, hkeys, hall, s, hv, hs, hbt⟩ := hrow.get' x.key
     obtain ⟨r, hr⟩ : ∃ r, r = (aget rows x.key).getD ⟨[], false⟩ := ⟨_, rfl⟩
     have hlen := hrl x.key
     rw [← hr] at hv hs hlen
     obtain ⟨a', c', hsv⟩ := hs.form
     rw [hsv] at hv
     have hmv := fun orig K => mapV_at inj_string hm orig K
     have hbm2 : bm < w2.heap.size := by omega
     have hb2' : b < w2.heap.size := by omega
     simp (maxSteps:=4000000)(disch:=first|assumption|(simp only[dz];first|done|assumption|omega)|omega|apply_rules[Fr.refl,Fr.alloc,Fr.drew]|rfl) only [↓gsd,gs,gv,Nat.reduceAdd,Nat.reduceEqDiff, gt, ↓hk56, e0, e30, e31, e32, el, hwv, i0, i1, Int.toNat_natCast, hob, hrw, encWr]
     refine draw_intro [] ?_
     simp (maxSteps:=4000000)(disch:=first|assumption|(simp only[dz];first|done|assumption|omega)|omega|apply_rules[Fr.refl,Fr.alloc,Fr.drew]|rfl) only [↓gsd,gs,gv,Nat.reduceAdd,Nat.reduceEqDiff, gt, ↓hk56, e0, hb2, hbo, hmv, hv]
     refine ⟨by (repeat (first | exact Fr.refl _ _ | assumption | with_reducible apply Fr.alloc | with_reducible apply Fr.drew | with_reducible refine Fr.setB ?_ _ _ (.inr (by first | omega | (simp only [gz]; omega))) | with_reducible refine Fr.setB ?_ _ _ (.inl (by first | assumption | simp)) | with_reducible refine Fr.trans' ?_ (by assumption))), ?_⟩
     refine draw_intro [] ?_
     have hoff : offV s b := hbt.off (by intro cs fr; rw [hb2]; simp)
     simp (maxSteps:=4000000)(disch:=first|assumption|(simp only[dz];first|done|assumption|omega)|omega|apply_rules[Fr.refl,Fr.alloc,Fr.drew]|rfl) only [↓gsd,gs,gv,Nat.reduceAdd,Nat.reduceEqDiff, gt, ↓hk56, hb2, e0]
     rw [← hsv]
     generalize hW : (World.alloc _ (Obj.cells ([s, Value.bool r.dropped] : List Value).toArray 128)).drew = W3
     have hf3 : Fr [] w2 W3 := by rw [← hW]; (repeat (first | exact Fr.refl _ _ | assumption | with_reducible apply Fr.alloc | with_reducible apply Fr.drew | with_reducible refine Fr.setB ?_ _ _ (.inr (by first | omega | (simp only [gz]; omega))) | with_reducible refine Fr.setB ?_ _ _ (.inl (by first | assumption | simp)) | with_reducible refine Fr.trans' ?_ (by assumption)))
     have hz3 : W3.heap.size = w2.heap.size + 1 + 1 := by rw [← hW]; simp only [gz]
     have g8 : W3.heap[w2.heap.size]? = some (.cells ([.string x.key, .bool x.has, .string x.data] : List Value).toArray 66 (0, 0)) := by rw [← hW]; simp (maxSteps:=4000000)(disch:=first|assumption|(simp only[dz];first|done|assumption|omega)|omega|apply_rules[Fr.refl,Fr.alloc,Fr.drew]|rfl) only [↓gsd,gs,gv,Nat.reduceAdd,Nat.reduceEqDiff]
     have g9 : W3.heap[w2.heap.size + 1]? = some (.cells ([s, .bool r.dropped] : List Value).toArray 128 (0, 0)) := by rw [← hW]; simp (maxSteps:=4000000)(disch:=first|assumption|(simp only[dz];first|done|assumption|omega)|omega|apply_rules[Fr.refl,Fr.alloc,Fr.drew]|rfl) only [↓gsd,gs,gv,Nat.reduceAdd,Nat.reduceEqDiff]
     have hs3 := hs.frN hf3
     have cw3 := cur W3
     clear hW
     have hupm := fun v => (map_updateX Tryz.runUnderlying101 kOK101 (w := w2) (r := bm) (by rw [hbo]; exact hm) x.key v).2
     have fin : ∀ (e' : Env) (v : Value) (w5 : World), Fr [] w2 w5 → e' 0 = .pointer (some ⟨b, 0, none⟩) → e' 30 = wv → e' 31 = .int .i64 ws.length → e' 32 = .int .i64 ((i : Int) + 1) → RowV w5 v (r.put st.most n x) →
       k e' (w5.setB bm (updO Value.string es (some o) x.key v)) := by
      intro e' v w5 hf5 h0 h30 h31 h32 hrv
      have hz5 := hf5.size
      have hF : Fr [bm] w5 (w5.setB bm (updO Value.string es (some o) x.key v)) := (Fr.refl _ _).setB _ _ (.inl (by simp))
      have hbo5 := hf5.getN hbo
      have hnot : ∀ y ∈ [bm], ∀ cs fr, w5.heap[y]? ≠ some (.cells cs 94 fr) := fun y hy cs fr => by
       obtain rfl : y = bm := by simpa using hy
       rw [hbo5]
       obtain ⟨ents, clock, ho', _⟩ := hm.ex
       rw [ho']; simp
      have hfold : (ws.take (i + 1)).foldl (put st.most n) st.rows = put st.most n rows x := by
       rw [List.take_add_one, hx, List.foldl_append, ← hrows]; rfl
      have hup := hupm v
      rw [hbo] at hup
      refine hk _ _ ⟨i + 1, by omega, h0, h30, h31, by rw [h32]; simp, ?_, ?_, ?_, ?_⟩ ?_
      ·rw [get_setB_ne _ _ _ _ (fun e => hne e.symm)]; exact hf5.getN hb2
      ·rw [hfold, get_setB_same _ _ _ (by omega)]
       unfold put
       rw [← hr]
       exact RowsAt.put hkeys (fun k v r h1 h2 => ((hall k v r h1 h2).fr hf5 (by simp)).fr hF hnot) hup (hrv.fr hF hnot)
      ·rw [hfold]; exact hrl.put
      ·exact (hf.trans' hf5).trans hF fun y hy => .inl (by simp at hy; simp [hy])
      ·simp only [h32, e32, numOf]; omega
     have key : ∀ (v4 : Value) (w4 : World), Own 3 94 w4 v4 (r.list.length + 1) (cellsOf encVer (r.list ++ [verOf n x])) → Fr [] W3 w4 →
       W Tryz.prog 87 V56 c56_18
         (blockQ 1
          (seqQ
           (fun e w => W Tryz.prog 87 V56 c56_13
             (seqQ k (blockQ 0 (seqQ (fun e w => W Tryz.prog 87 V56 c56_6 (retQ Tryz.prog [ResultVar.tmp 4, ResultVar.tmp 5] K) e w) (retQ Tryz.prog [ResultVar.tmp 4, ResultVar.tmp 5] K)))) e w)
           (seqQ k (blockQ 0 (seqQ (fun e w => W Tryz.prog 87 V56 c56_6 (retQ Tryz.prog [ResultVar.tmp 4, ResultVar.tmp 5] K) e w) (retQ Tryz.prog [ResultVar.tmp 4, ResultVar.tmp 5] K))))))
         ((((e.p 33 (Value.bool true)).p 8 (Value.pointer (some ⟨w2.heap.size, 0, none⟩))).p 9 (Value.pointer (some ⟨w2.heap.size + 1, 0, none⟩))).p 10 v4) w4 := by
      intro v4 w4 hown hf4
      have cw4 := cur w4
      have hz4 := hf4.size
      replace g8 := hf4.getN g8
      replace g9 := hf4.getN g9
      have hb4 := hf4.getN (hf3.getN hb2)
      have hbo4 := hf4.getN (hf3.getN hbo)
      have hrp := row_put hown hm1
      obtain ⟨a4, c4, hv4⟩ := hown.sl.form
      by_cases hmo : st.most < r.list.length + 1
      ·rw [if_pos hmo] at hrp
       obtain ⟨v5, hsl, ⟨a5, n5, c5, hv5⟩, hrv⟩ := hrp
       rw [hv4] at hsl
       have hmo' : decide ((st.most : Int) < ((r.list.length + 1 : Nat) : Int)) = true := decide_eq_true (by omega)
       have hsub : ((r.list.length + 1 : Nat) : Int) - (st.most : Int) = ((r.list.length + 1 - st.most : Nat) : Int) := by omega
       simp (maxSteps:=4000000)(disch:=first|assumption|(simp only[dz];first|done|assumption|omega)|omega|apply_rules[Fr.refl,Fr.alloc,Fr.drew]|rfl) only [↓gsd,gs,gv,Nat.reduceAdd,Nat.reduceEqDiff, gt, ↓hk56, hv4, e0, hb4, hmo', hsub, hsl, g9]
       refine draw_intro [] ?_
       simp (maxSteps:=4000000)(disch:=first|assumption|(simp only[dz];first|done|assumption|omega)|omega|apply_rules[Fr.refl,Fr.alloc,Fr.drew]|rfl) only [↓gsd,gs,gv,Nat.reduceAdd,Nat.reduceEqDiff, gt, ↓hk56, hv5, e0, e32, hb4, g8, g9, hbo4, hmv]
       rw [← hv5]
       have hF4 : Fr [w2.heap.size + 1] w4 (w4.setB (w2.heap.size + 1) (.cells ([s, .bool true] : List Value).toArray 128)).drew := ((Fr.refl _ _).setB _ _ (.inl (by simp))).drew
       have hf24 := hf3.trans' hf4
       refine fin _ _ _ ?_ ?_ ?_ ?_ ?_ (hrv.fr hF4 fun y hy cs fr => ?_)
       ·(repeat (first | exact Fr.refl _ _ | assumption | with_reducible apply Fr.alloc | with_reducible apply Fr.drew | with_reducible refine Fr.setB ?_ _ _ (.inr (by first | omega | (simp only [gz]; omega))) | with_reducible refine Fr.setB ?_ _ _ (.inl (by first | assumption | simp)) | with_reducible refine Fr.trans' ?_ (by assumption)))
       ·simp (maxSteps:=4000000)(disch:=first|assumption|(simp only[dz];first|done|assumption|omega)|omega|apply_rules[Fr.refl,Fr.alloc,Fr.drew]|rfl) only [↓gsd,gs,gv,Nat.reduceAdd,Nat.reduceEqDiff, e0]
       ·simp (maxSteps:=4000000)(disch:=first|assumption|(simp only[dz];first|done|assumption|omega)|omega|apply_rules[Fr.refl,Fr.alloc,Fr.drew]|rfl) only [↓gsd,gs,gv,Nat.reduceAdd,Nat.reduceEqDiff, e30]
       ·simp (maxSteps:=4000000)(disch:=first|assumption|(simp only[dz];first|done|assumption|omega)|omega|apply_rules[Fr.refl,Fr.alloc,Fr.drew]|rfl) only [↓gsd,gs,gv,Nat.reduceAdd,Nat.reduceEqDiff, e31]
       ·simp (maxSteps:=4000000)(disch:=first|assumption|(simp only[dz];first|done|assumption|omega)|omega|apply_rules[Fr.refl,Fr.alloc,Fr.drew]|rfl) only [↓gsd,gs,gv,Nat.reduceAdd,Nat.reduceEqDiff]
       ·obtain rfl : y = w2.heap.size + 1 := by simpa using hy
        rw [g9]; simp
      ·rw [if_neg hmo] at hrp
       have hmo' : decide ((st.most : Int) < ((r.list.length + 1 : Nat) : Int)) = false := decide_eq_false (by omega)
       simp (maxSteps:=4000000)(disch:=first|assumption|(simp only[dz];first|done|assumption|omega)|omega|apply_rules[Fr.refl,Fr.alloc,Fr.drew]|rfl) only [↓gsd,gs,gv,Nat.reduceAdd,Nat.reduceEqDiff, gt, ↓hk56, hv4, e0, hb4, hmo', g9]
       refine draw_intro [] ?_
       simp (maxSteps:=4000000)(disch:=first|assumption|(simp only[dz];first|done|assumption|omega)|omega|apply_rules[Fr.refl,Fr.alloc,Fr.drew]|rfl) only [↓gsd,gs,gv,Nat.reduceAdd,Nat.reduceEqDiff, gt, ↓hk56, e0, e32, hb4, g8, g9, hbo4, hmv]
       rw [← hv4]
       have hf24 := hf3.trans' hf4
       refine fin _ _ _ ?_ ?_ ?_ ?_ ?_ (hrp.fr ((Fr.refl [] _).drew) (by simp))
       ·(repeat (first | exact Fr.refl _ _ | assumption | with_reducible apply Fr.alloc | with_reducible apply Fr.drew | with_reducible refine Fr.setB ?_ _ _ (.inr (by first | omega | (simp only [gz]; omega))) | with_reducible refine Fr.setB ?_ _ _ (.inl (by first | assumption | simp)) | with_reducible refine Fr.trans' ?_ (by assumption)))
       ·simp (maxSteps:=4000000)(disch:=first|assumption|(simp only[dz];first|done|assumption|omega)|omega|apply_rules[Fr.refl,Fr.alloc,Fr.drew]|rfl) only [↓gsd,gs,gv,Nat.reduceAdd,Nat.reduceEqDiff, e0]
       ·simp (maxSteps:=4000000)(disch:=first|assumption|(simp only[dz];first|done|assumption|omega)|omega|apply_rules[Fr.refl,Fr.alloc,Fr.drew]|rfl) only [↓gsd,gs,gv,Nat.reduceAdd,Nat.reduceEqDiff, e30]
       ·simp (maxSteps:=4000000)(disch:=first|assumption|(simp only[dz];first|done|assumption|omega)|omega|apply_rules[Fr.refl,Fr.alloc,Fr.drew]|rfl) only [↓gsd,gs,gv,Nat.reduceAdd,Nat.reduceEqDiff, e31]
       ·simp (maxSteps:=4000000)(disch:=first|assumption|(simp only[dz];first|done|assumption|omega)|omega|apply_rules[Fr.refl,Fr.alloc,Fr.drew]|rfl) only [↓gsd,gs,gv,Nat.reduceAdd,Nat.reduceEqDiff]
     refine ⟨?_, by (repeat (first | exact Fr.refl _ _ | assumption | with_reducible apply Fr.alloc | with_reducible apply Fr.drew | with_reducible refine Fr.setB ?_ _ _ (.inr (by first | omega | (simp only [gz]; omega))) | with_reducible refine Fr.setB ?_ _ _ (.inl (by first | assumption | simp)) | with_reducible refine Fr.trans' ?_ (by assumption))), ?_⟩
     ·refine clone_spec hs3 (by omega) ?_
      intro v' w' hown hfw hfresh
      have hown' := hown.fr (M := []) ((Fr.refl [] w').alloc (.cells ([.int .i64 n, .bool x.has, .string x.data] : List Value).toArray 94)) (by simp)
      have hsl : Sl 3 (w'.alloc (.cells ([.int .i64 n, .bool x.has, .string x.data] : List Value).toArray 94)) (.slice (some ⟨w'.heap.size, 0, none⟩) 1 1) 1 (encVer (verOf n x)) := ⟨rfl, .inr ⟨_, 0, 1, _, 94, (0, 0), rfl, get_alloc_new _ _, rfl⟩⟩
      obtain ⟨v4, w4, hr4, hown4, hf4, _⟩ := ap91 (ty := 91) hown' hsl rfl (by omega)
      refine ⟨hfw, by (repeat (first | exact Fr.refl _ _ | assumption | with_reducible apply Fr.alloc | with_reducible apply Fr.drew | with_reducible refine Fr.setB ?_ _ _ (.inr (by first | omega | (simp only [gz]; omega))) | with_reducible refine Fr.setB ?_ _ _ (.inl (by first | assumption | simp)) | with_reducible refine Fr.trans' ?_ (by assumption))), ?_⟩
      rw [hr4]
      simp only [vR_ok]
      have hf4' : Fr [] W3 w4 := (hfw.alloc _).trans hf4 fun y hy => .inr (by
       simp only [blkL] at hy
       split at hy
       ·rename_i b' hb'
        have := hfresh b' hb'
        simp at hy; omega
       ·simp at hy)
      refine ⟨hf4', key v4 w4 ?_ hf4'⟩
      rw [cellsOf_append, cellsOf_one]; exact hown4
     ·refine clone_spec (hs3.frN ((Fr.refl [] W3).alloc _)) (by omega) ?_
      intro v' w' hown hfw hfresh
      have hf3' : Fr [] W3 w' := ((Fr.refl [] W3).alloc _).trans' hfw
      have hsl : Sl 3 w' (.slice (some ⟨w2.heap.size + 1 + 1, 0, none⟩) 1 1) 1 (encVer (verOf n x)) := ⟨rfl, .inr ⟨_, 0, 1, _, 94, (0, 0), rfl, hfw.getN (by rw [← hz3]; exact get_alloc_new _ _), rfl⟩⟩
      obtain ⟨v4, w4, hr4, hown4, hf4, _⟩ := ap91 (ty := 91) hown hsl rfl (by omega)
      refine ⟨hf3', ?_⟩
      rw [hr4]
      simp only [vR_ok]
      have hf4' : Fr [] W3 w4 := hf3'.trans hf4 fun y hy => .inr (by
       simp only [blkL] at hy
       split at hy
       ·rename_i b' hb'
        have := hfresh b' hb'
        rw [size_alloc] at this
        simp at hy; omega
       ·simp at hy)
      refine ⟨hf4', key v4 w4 ?_ hf4'⟩
      rw [cellsOf_append, cellsOf_one]; exact hown4
    ·have el : decide ((i : Int) < (ws.length : Int)) = false := decide_eq_false (by omega)
     have hw0 : ws.take i = ws := List.take_of_length_le (by omega)
     rw [hw0] at hrow hrl
     have e : st.commit ws = ((n, 0), ⟨ws.foldl (put st.most n) st.rows, st.most, n⟩) := by simp [St.commit, hc, hl, hn]
     have hK' := hK w2 hf
     rw [e] at hK'
     have hK'' := hK' ⟨hb2, hrow⟩
     simp (maxSteps:=4000000)(disch:=first|assumption|(simp only[dz];first|done|assumption|omega)|omega|apply_rules[Fr.refl,Fr.alloc,Fr.drew]|rfl) only [↓gsd,gs,gv,Nat.reduceAdd,Nat.reduceEqDiff, gt, ↓hk56, e0, e30, e31, e32, el, hb2]
     exact hK''
 ·have hK' := hK w1 (hf1.mono (by simp))
  have e : st.commit ws = ((0, chk ws), st) := by simp [St.commit, hc]
  rw [e] at hK'
  have hc' : decide (chk ws = 0) = false := decide_eq_false hc
  simp (maxSteps:=4000000)(disch:=first|assumption|(simp only[dz];first|done|assumption|omega)|omega|apply_rules[Fr.refl,Fr.alloc,Fr.drew]|rfl) only [↓gsd,gs,gv,Nat.reduceAdd,Nat.reduceEqDiff, gt, ↓hk56, hc']
  exact hK' h1
end Go.Proofs.YtgloomahpjpiiaaGreat.St
namespace Go.Proofs.YtgloomahpjpiiaaGreat.St
open Go.VW
/-- What holds of the rows while the commit number n is written, with the keys ks still to come. -/
def RowsOK (most : Nat) (n : Int) (ks : List ByteArray) (rows : Rows) : Prop :=
 ∀ k r, aget rows k = some r → r.list ≠ [] ∧ r.list.length ≤ most ∧ r.list.Pairwise (fun a b => a.n < b.n) ∧ (∀ x ∈ r.list, 1 ≤ x.n ∧ x.n ≤ n) ∧ (k ∈ ks → ∀ x ∈ r.list, x.n < n)
theorem row_put_ok {most : Nat} {n : Int} {r : Row} {x : Wr} (hm : 1 ≤ most) (hn : 1 ≤ n) (h1 : r.list.length ≤ most) (h2 : r.list.Pairwise (fun a b => a.n < b.n)) (h3 : ∀ x ∈ r.list, 1 ≤ x.n ∧ x.n < n) :
  (r.put most n x).list ≠ [] ∧ (r.put most n x).list.length ≤ most ∧ (r.put most n x).list.Pairwise (fun a b => a.n < b.n) ∧ ∀ y ∈ (r.put most n x).list, 1 ≤ y.n ∧ y.n ≤ n := by
 have hl := Row.put_len (n := n) (x := x) h1
 have hfull : (r.list ++ [verOf n x]).Pairwise (fun a b => a.n < b.n) := by
  rw [List.pairwise_append]
  refine ⟨h2, by simp, fun a ha b hb => ?_⟩
  simp at hb
  subst hb
  exact (h3 a ha).2
 have hall : ∀ y ∈ r.list ++ [verOf n x], 1 ≤ y.n ∧ y.n ≤ n := by
  intro y hy
  rcases List.mem_append.1 hy with h | h
  ·have := h3 y h; omega
  ·simp at h; subst h; exact ⟨hn, Int.le_refl _⟩
 unfold Row.put at hl ⊢
 split
 ·rename_i hlt
  simp only [hlt, if_true] at hl
  refine ⟨?_, hl, hfull.sublist (List.drop_sublist _ _), fun y hy => hall y (List.mem_of_mem_drop hy)⟩
  intro e
  have := congrArg List.length e
  simp at this
  omega
 ·rename_i hlt
  simp only [hlt, if_false] at hl
  exact ⟨by simp, hl, hfull, hall⟩
theorem rowsOK_put {most : Nat} {n : Int} {ks : List ByteArray} {rows : Rows} {x : Wr} (hm : 1 ≤ most) (hn : 1 ≤ n) (hx : x.key ∉ ks) (h : RowsOK most n (x.key :: ks) rows) : RowsOK most n ks (put most n rows x) := by
 intro k r hr
 unfold Go.Proofs.YtgloomahpjpiiaaGreat.St.put at hr
 rw [aget_aset] at hr
 by_cases hk : x.key = k
 ·simp only [hk, if_true, Option.some.injEq] at hr
  subst hr
  have : ((aget rows k).getD ⟨[], false⟩).list.length ≤ most ∧ ((aget rows k).getD ⟨[], false⟩).list.Pairwise (fun a b => a.n < b.n) ∧ ∀ y ∈ ((aget rows k).getD ⟨[], false⟩).list, 1 ≤ y.n ∧ y.n < n := by
   cases ha : aget rows k with
   | none => simp
   | some r =>
     obtain ⟨_, h2, h3, h4, h5⟩ := h k r ha
     exact ⟨h2, h3, fun y hy => ⟨(h4 y hy).1, h5 (by simp [hk]) y hy⟩⟩
  obtain ⟨a, b, c, d⟩ := row_put_ok (x := x) hm hn this.1 this.2.1 this.2.2
  exact ⟨a, b, c, d, fun hks => absurd hks (hk ▸ hx)⟩
 ·simp only [hk, if_false] at hr
  obtain ⟨a, b, c, d, e⟩ := h k r hr
  exact ⟨a, b, c, d, fun hks => e (List.mem_cons_of_mem _ hks)⟩
theorem rowsOK_fold {most : Nat} {n : Int} (hm : 1 ≤ most) (hn : 1 ≤ n) : ∀ (ws : List Wr) (rows : Rows), (ws.map (·.key)).Nodup → RowsOK most n (ws.map (·.key)) rows → RowsOK most n [] (ws.foldl (put most n) rows)
 | [], rows, _, h => h
 | x :: ws, rows, hnd, h => by
   simp only [List.map_cons, List.nodup_cons] at hnd
   exact rowsOK_fold hm hn ws _ hnd.2 (rowsOK_put hm hn hnd.1 h)
theorem chk_nodup {ws : List Wr} (h : chk ws = 0) : (ws.map (·.key)).Nodup := by
 unfold chk at h
 split at h
 ·cases h
 ·split at h
  ·split at h
   ·assumption
   ·cases h
  ·cases h
theorem St.WF.commit {st : St} (h : st.WF) (ws : List Wr) : (st.commit ws).2.WF := by
 unfold St.commit
 split
 ·exact h
 ·rename_i hc
  split
  ·exact h
  ·rename_i hl
   have hn := chk_nodup (by simpa using hc)
   have := rowsOK_fold (n := st.last + 1) h.m1 (by have := h.l0; omega) ws st.rows hn fun k r hr => by
    obtain ⟨a, b, c, d⟩ := h.rows k r hr
    exact ⟨a, b, c, fun x hx => by have := d x hx; omega, fun _ x hx => by have := d x hx; omega⟩
   exact ⟨h.m1, h.m2, by have := h.l0; show 0 ≤ st.last + 1; omega, by show st.last + 1 ≤ _; omega, fun k r hr => by
    obtain ⟨a, b, c, d, _⟩ := this k r hr
    exact ⟨a, b, c, d⟩⟩
end Go.Proofs.YtgloomahpjpiiaaGreat.St
