/- The policy: slices.DeleteFunc at numbers; Demote. -/
import Derived.Test.YtomlgkecckffeaaGreatP3
set_option linter.unusedVariables false
set_option linter.unusedSimpArgs false
set_option maxRecDepth 10000
namespace Go.Proofs.YtomlgkecckffeaaGreat
open Go.VW
def PrdAt (b : Nat) (w0 : World) (fv : Value) (n : Nat) (p : Nat → Bool) : Prop :=
 ∀ (w : World) (x : Nat) (K : Value → World → Prop), Fr [b] w0 w → x < n → (∀ w', Fr [] w w' → K (.bool (p x)) w') → nx Tryz.prog (xcall fv [.int .i64 x]) w K
theorem PrdAt.fr {b : Nat} {w0 w1 : World} {fv : Value} {n : Nat} {p : Nat → Bool} (h : PrdAt b w0 fv n p) (hf : Fr [b] w0 w1) : PrdAt b w1 fv n p := fun w x K hf' => h w x K (hf.transM hf')
set_option maxHeartbeats 4000000 in
theorem idxF_spec {b n cap : Nat} {fv : Value} {p : Nat → Bool} {L : List Nat} {R : List Value} {w : World} {K : Value → World → Prop} (h : RowI w b L R) (hp : PrdAt b w fv n p) (hn : L.length = n) (hlt : ∀ x ∈ L, x < n) (hb : n ≤ 1000000000)
  (hN : ∀ w', Fr [] w w' → (∀ x ∈ L, p x = false) → K (.int .i64 (-1)) w') (hS : ∀ w' i x, Fr [] w w' → L[i]? = some x → p x = true → (∀ y ∈ L.take i, p y = false) → K (.int .i64 i) w') : CallsN Tryz.prog 207 [rowV b n cap, fv] w K := by
 have cw := cur w
 refine call207 ?_
 simp (maxSteps:=9^7)(disch:=first|assumption|(simp only[dz];first|done|assumption|omega)|omega|apply_rules[Fr.refl,Fr.alloc,Fr.drew]|rfl) only [↓gd,gp,Nat.reduceAdd,Nat.reduceEqDiff, ↓hk207]
 refine for_intro n 8 0 (fun i e w' => e 0 = rowV b n cap ∧ e 1 = fv ∧ e 7 = .int .i64 n ∧ (∀ y ∈ L.take i, p y = false) ∧ Fr [] w w') ?_ (Nat.zero_le _) ?_ ?_
 ·simp (maxSteps:=9^7)(disch:=first|assumption|(simp only[dz];first|done|assumption|omega)|omega|apply_rules[Fr.refl,Fr.alloc,Fr.drew]|rfl) only [↓gsd,gs,gv,Nat.reduceAdd,Nat.reduceEqDiff, Int.natCast_zero]
 ·simp (maxSteps:=9^7)(disch:=first|assumption|(simp only[dz];first|done|assumption|omega)|omega|apply_rules[Fr.refl,Fr.alloc,Fr.drew]|rfl) only [↓gsd,gs,gv,Nat.reduceAdd,Nat.reduceEqDiff]
  exact ⟨by simp, Fr.refl _ _⟩
 rintro i e w1 kk hi eS ⟨e0, e1, e7, hall, hf⟩ hkk
 have cw1 := cur w1
 have h1 : RowI w1 b L R := hf.getN h
 by_cases hil : i < n
 ·have d1 : decide ((i : Int) < (n : Int)) = true := decide_eq_true (by omega)
  obtain ⟨x, hx⟩ : ∃ x, L[i]? = some x := ⟨L[i]'(by omega), List.getElem?_eq_getElem _⟩
  have r1 := fun orig K => rowO_ld (R := R) hx orig K
  have i0 : (0 : Int) ≤ (i : Int) := by omega
  have i1 : (i : Int) < (n : Int) := by omega
  have wi : IntKind.i64.wrap ((i : Int) + 1) = (i : Int) + 1 := wrap64 (by omega) (by omega)
  simp (maxSteps:=9^7)(disch:=first|assumption|(simp only[dz];first|done|assumption|omega)|omega|apply_rules[Fr.refl,Fr.alloc,Fr.drew]|rfl) only [↓gd,gp,Nat.reduceAdd,Nat.reduceEqDiff, ↓hk207, e0, e1, e7, eS, d1, i0, i1, Int.toNat_natCast, Nat.mul_one, Nat.zero_add, h1, r1]
  refine hp _ x _ (Fr.trans (M' := []) (Fr.refl [b] w) fr_ (by simp)) (hlt x (List.mem_of_getElem? hx)) fun w2 hf2 => ?_
  have cw2 := cur w2
  have hF2 : Fr [] w w2 := hf.trans' (Fr.trans' fr_ hf2)
  cases hpx : p x with
  | true =>
    simp (maxSteps:=9^7)(disch:=first|assumption|(simp only[dz];first|done|assumption|omega)|omega|apply_rules[Fr.refl,Fr.alloc,Fr.drew]|rfl) only [↓gd,gp,Nat.reduceAdd,Nat.reduceEqDiff, ↓hk207, e0, e1, e7, eS, wi]
    exact hS w2 i x hF2 hx hpx hall
  | false =>
    simp (maxSteps:=9^7)(disch:=first|assumption|(simp only[dz];first|done|assumption|omega)|omega|apply_rules[Fr.refl,Fr.alloc,Fr.drew]|rfl) only [↓gd,gp,Nat.reduceAdd,Nat.reduceEqDiff, ↓hk207, e0, e1, e7, eS, wi]
    refine hkk _ _ hil rfl ?_
    simp (maxSteps:=9^7)(disch:=first|assumption|(simp only[dz];first|done|assumption|omega)|omega|apply_rules[Fr.refl,Fr.alloc,Fr.drew]|rfl) only [↓gsd,gs,gv,Nat.reduceAdd,Nat.reduceEqDiff, e0, e1, e7]
    refine ⟨fun y hy => ?_, hF2⟩
    rw [List.take_add_one, hx] at hy
    rcases List.mem_append.1 hy with hy | hy
    ·exact hall y hy
    ·simp at hy; subst hy; exact hpx
 ·have d1 : decide ((i : Int) < (n : Int)) = false := decide_eq_false (by omega)
  simp (maxSteps:=9^7)(disch:=first|assumption|(simp only[dz];first|done|assumption|omega)|omega|apply_rules[Fr.refl,Fr.alloc,Fr.drew]|rfl) only [↓gd,gp,Nat.reduceAdd,Nat.reduceEqDiff, ↓hk207, e0, e1, e7, eS, d1]
  rw [List.take_of_length_le (by omega)] at hall
  exact hN w1 hf hall
theorem row_sl {w : World} {b : Nat} {L F : List Nat} {R : List Value} {cap : Nat} (h : RowI w b L R) (hF : L.take F.length = F) : SlOf 1 encN w (rowV b F.length cap) F := by
 unfold SlOf
 rw [encN_cells]
 refine ⟨by simp, .inr ⟨b, 0, cap, _, 3, (0, 0), rfl, h, ?_⟩⟩
 have hl : F.length ≤ L.length := by rw [← hF, List.length_take]; omega
 simp only [List.drop_zero, Nat.mul_one]
 rw [List.take_append_of_le_length (by simpa using hl), ← List.map_take, hF]
set_option maxHeartbeats 8000000 in
theorem delF_spec {b n cap : Nat} {fv : Value} {p : Nat → Bool} {L : List Nat} {R : List Value} {w : World} {K : Value → World → Prop} (h : RowI w b L R) (hp : PrdAt b w fv n p) (hn : L.length = n) (hlt : ∀ x ∈ L, x < n) (hb : n ≤ 1000000000) (hcap : n ≤ cap) (hR : n + R.length = cap)
  (hK : ∀ w', Fr [b] w w' → SlOf 1 encN w' (rowV b (L.filter fun x => !p x).length cap) (L.filter fun x => !p x) → K (rowV b (L.filter fun x => !p x).length cap) w') : CallsN Tryz.prog 183 [rowV b n cap, fv] w K := by
 have cw := cur w
 refine call183 ?_
 simp (maxSteps:=9^7)(disch:=first|assumption|(simp only[dz];first|done|assumption|omega)|omega|apply_rules[Fr.refl,Fr.alloc,Fr.drew]|rfl) only [↓gd,gp,Nat.reduceAdd,Nat.reduceEqDiff, ↓hk183]
 refine idxF_spec (cap := cap) h hp hn hlt hb (fun w1 hf1 hall => ?_) fun w1 i0 x0 hf1 hx0 hp0 hall => ?_
 ·have cw1 := cur w1
  have d1 : decide ((-1 : Int) = -1) = true := rfl
  simp (maxSteps:=9^7)(disch:=first|assumption|(simp only[dz];first|done|assumption|omega)|omega|apply_rules[Fr.refl,Fr.alloc,Fr.drew]|rfl) only [↓gd,gp,Nat.reduceAdd,Nat.reduceEqDiff, ↓hk183, d1]
  have hfil : (L.filter fun x => !p x) = L := by
   rw [List.filter_eq_self]
   intro x hx; rw [hall x hx]; rfl
  rw [hfil, hn] at hK
  refine hK w1 (Fr.trans (M' := []) (Fr.refl [b] w) hf1 (by simp)) ?_
  have := row_sl (cap := cap) (F := L) (hf1.getN h) (by rw [List.take_length])
  rwa [hn] at this
 have cw1 := cur w1
 have hi0 := (List.getElem?_eq_some_iff.1 hx0).1
 have d1 : decide ((i0 : Int) = -1) = false := decide_eq_false (by omega)
 have w0 : IntKind.i64.wrap ((i0 : Int) + 1) = ((i0 + 1 : Nat) : Int) := by rw [wrap64 (by omega) (by omega)]; omega
 have h1 : RowI w1 b L R := hf1.getN h
 have hF1 : Fr [b] w w1 := Fr.trans (M' := []) (Fr.refl [b] w) hf1 (by simp)
 simp (maxSteps:=9^7)(disch:=first|assumption|(simp only[dz];first|done|assumption|omega)|omega|apply_rules[Fr.refl,Fr.alloc,Fr.drew]|rfl) only [↓gd,gp,Nat.reduceAdd,Nat.reduceEqDiff, ↓hk183, d1, w0]
 refine loop_intro (fun e w' => ∃ (j c : Nat) (L' : List Nat), j ≤ n ∧ c < j ∧ e 0 = rowV b n cap ∧ e 1 = fv ∧ e 5 = .int .i64 c ∧ e 6 = .int .i64 j ∧ L'.length = n ∧ L'.take c = (L.take j).filter (fun x => !p x) ∧ L'.drop j = L.drop j ∧ RowI w' b L' R ∧ Fr [b] w w')
  (fun e _ => n - (numOf (e 6)).toNat) ?_ ?_
 ·refine ⟨i0 + 1, i0, L, by omega, by omega, ?_⟩
  simp (maxSteps:=9^7)(disch:=first|assumption|(simp only[dz];first|done|assumption|omega)|omega|apply_rules[Fr.refl,Fr.alloc,Fr.drew]|rfl) only [↓gsd,gs,gv,Nat.reduceAdd,Nat.reduceEqDiff]
  refine ⟨hn, ?_, h1, hF1⟩
  rw [List.take_add_one, hx0, List.filter_append]
  have e1 : (L.take i0).filter (fun x => !p x) = L.take i0 := by
   rw [List.filter_eq_self]
   intro x hx; rw [hall x hx]; rfl
  rw [e1]
  simp [hp0]
 rintro e w2 kk ⟨j, c, L', hj, hcj, e0, e1, e5, e6, hl', htk, hdr, h2, hf2⟩ hkk
 have cw2 := cur w2
 have hbl2 := lt_of_get _ _ h2
 have hcl : ((L.take j).filter fun x => !p x).length = c := by rw [← htk, List.length_take]; omega
 by_cases hjn : j < n
 ·have d2 : decide ((j : Int) < (n : Int)) = true := decide_eq_true (by omega)
  obtain ⟨x, hx⟩ : ∃ x, L[j]? = some x := ⟨L[j]'(by omega), List.getElem?_eq_getElem _⟩
  have hx' : L'[j]? = some x := by
   have := congrArg (fun l => l[0]?) hdr
   simpa [List.getElem?_drop, hx] using this
  have r1 := fun orig K => rowO_ld (R := R) hx' orig K
  have j0 : (0 : Int) ≤ (j : Int) := by omega
  have j1 : (j : Int) < (n : Int) := by omega
  have c0 : (0 : Int) ≤ (c : Int) := by omega
  have c1 : (c : Int) < (n : Int) := by omega
  have wj : IntKind.i64.wrap ((j : Int) + 1) = ((j + 1 : Nat) : Int) := by rw [wrap64 (by omega) (by omega)]; omega
  have wc : IntKind.i64.wrap ((c : Int) + 1) = ((c + 1 : Nat) : Int) := by rw [wrap64 (by omega) (by omega)]; omega
  have htj : (L.take (j + 1)).filter (fun x => !p x) = (L.take j).filter (fun x => !p x) ++ (if p x = true then [] else [x]) := by
   rw [List.take_add_one, hx, List.filter_append]
   cases hpx : p x <;> simp [hpx]
  have hdj : ∀ q : List Nat, q.drop j = L.drop j → q.drop (j + 1) = L.drop (j + 1) := fun q hq => by
   have := congrArg (List.drop 1) hq
   rwa [List.drop_drop, List.drop_drop] at this
  simp (maxSteps:=9^7)(disch:=first|assumption|(simp only[dz];first|done|assumption|omega)|omega|apply_rules[Fr.refl,Fr.alloc,Fr.drew]|rfl) only [↓gd,gp,Nat.reduceAdd,Nat.reduceEqDiff, ↓hk183, e0, e1, e5, e6, d2, j0, j1, Int.toNat_natCast, Nat.mul_one, Nat.zero_add, h2, r1]
  refine hp _ x _ fr_ (hlt x (List.mem_of_getElem? hx)) fun w3 hf3 => ?_
  have cw3 := cur w3
  have h3 : RowI w3 b L' R := hf3.getN h2
  have hF3 : Fr [b] w w3 := hf2.trans' fr_
  have hbl3 := lt_of_get _ _ h3
  cases hpx : p x with
  | true =>
    rw [hpx] at htj
    simp (maxSteps:=9^7)(disch:=first|assumption|(simp only[dz];first|done|assumption|omega)|omega|apply_rules[Fr.refl,Fr.alloc,Fr.drew]|rfl) only [↓gd,gp,Nat.reduceAdd,Nat.reduceEqDiff, ↓hk183, e0, e1, e5, e6, wj]
    refine hkk _ _ ⟨j + 1, c, L', by omega, by omega, ?_⟩ ?_
    ·simp (maxSteps:=9^7)(disch:=first|assumption|(simp only[dz];first|done|assumption|omega)|omega|apply_rules[Fr.refl,Fr.alloc,Fr.drew]|rfl) only [↓gsd,gs,gv,Nat.reduceAdd,Nat.reduceEqDiff, e0, e1, e5, e6]
     exact ⟨hl', by rw [htj, htk]; simp, hdj L' hdr, h3, hF3⟩
    ·simp (maxSteps:=9^7)(disch:=first|assumption|(simp only[dz];first|done|assumption|omega)|omega|apply_rules[Fr.refl,Fr.alloc,Fr.drew]|rfl) only [↓gsd,gs,gv,Nat.reduceAdd,Nat.reduceEqDiff, e6, numOf, Int.toNat_natCast]; omega
  | false =>
    rw [hpx] at htj
    have s1 := fun orig K => rowO_st (R := R) (i := c) (L := L') x (by omega) orig K
    simp (maxSteps:=9^7)(disch:=first|assumption|(simp only[dz];first|done|assumption|omega)|omega|apply_rules[Fr.refl,Fr.alloc,Fr.drew]|rfl) only [↓gd,gp,Nat.reduceAdd,Nat.reduceEqDiff, ↓hk183, e0, e1, e5, e6, c0, c1, Int.toNat_natCast, Nat.mul_one, Nat.zero_add, h3, s1, wj, wc]
    refine hkk _ _ ⟨j + 1, c + 1, L'.set c x, by omega, by omega, ?_⟩ ?_
    ·simp (maxSteps:=9^7)(disch:=first|assumption|(simp only[dz];first|done|assumption|omega)|omega|apply_rules[Fr.refl,Fr.alloc,Fr.drew]|rfl) only [↓gsd,gs,gv,Nat.reduceAdd,Nat.reduceEqDiff, e0, e1, e5, e6]
     refine ⟨by rw [List.length_set]; exact hl', ?_, ?_, by unfold RowI; simp (maxSteps:=9^7)(disch:=first|assumption|(simp only[dz];first|done|assumption|omega)|omega|apply_rules[Fr.refl,Fr.alloc,Fr.drew]|rfl) only [↓gsd,gs,gv,Nat.reduceAdd,Nat.reduceEqDiff], fr_⟩
     ·rw [htj, ← htk, List.take_add_one, List.take_set, List.set_eq_of_length_le (by rw [List.length_take]; omega), List.getElem?_set, if_pos rfl, if_pos (by omega)]
      rfl
     ·refine hdj _ ?_
      rw [List.drop_set_of_lt hcj]; exact hdr
    ·simp (maxSteps:=9^7)(disch:=first|assumption|(simp only[dz];first|done|assumption|omega)|omega|apply_rules[Fr.refl,Fr.alloc,Fr.drew]|rfl) only [↓gsd,gs,gv,Nat.reduceAdd,Nat.reduceEqDiff, e6, numOf, Int.toNat_natCast]; omega
 ·have d2 : decide ((j : Int) < (n : Int)) = false := decide_eq_false (by omega)
  have hfull : L.take j = L := List.take_of_length_le (by omega)
  rw [hfull] at htk hcl
  have hblk : Blk w2 b 3 ((L'.map fun i : Nat => Value.int .i64 (i : Int)) ++ R) := h2
  have k1 := fun W => cut_low0 (P := Tryz.prog) Tryz.runUnderlying63 Tryz.sizeOf3 b n cap c (by omega) hcap W
  have k2 := fun W => cut_high0 (P := Tryz.prog) Tryz.runUnderlying63 Tryz.sizeOf3 b n cap c (by omega) W
  rw [if_neg (by omega)] at k1
  obtain ⟨D', hcl', hl2, ht2⟩ := clear_row (P := Tryz.prog) (t := 63) (ty := 0) (n := n - c) (c := cap - c) (o := c * 1) Tryz.runUnderlying63 Tryz.zeroValue3 hblk (by simp [Value.cells, hl']; omega) (by rfl)
  simp (maxSteps:=9^7)(disch:=first|assumption|(simp only[dz];first|done|assumption|omega)|omega|apply_rules[Fr.refl,Fr.alloc,Fr.drew]|rfl) only [↓gd,gp,Nat.reduceAdd,Nat.reduceEqDiff, ↓hk183, e0, e1, e5, e6, d2, k1, nx_clear, vR_ok, hcl']
  have k2' := k2 (w2.setB b (.cells D'.toArray 3 (0, 0)))
  simp (maxSteps:=9^7)(disch:=first|assumption|(simp only[dz];first|done|assumption|omega)|omega|apply_rules[Fr.refl,Fr.alloc,Fr.drew]|rfl) only [↓gd,gp,Nat.reduceAdd,Nat.reduceEqDiff, ↓hk183, k2]
  rw [hcl] at hK
  refine hK _ fr_ ?_
  unfold SlOf
  rw [encN_cells, hcl]
  refine ⟨by simp [hcl], .inr ⟨b, 0, cap, D'.toArray, 3, (0, 0), rfl, get_setB_same _ _ _ hbl2, ?_⟩⟩
  rw [List.drop_zero, Nat.mul_one]
  show D'.take c = _
  rw [ht2 c (by omega), List.take_append_of_le_length (by simp; omega), ← List.map_take, htk]
def hotI (l : Ents) (i : Nat) : Bool := ((l[i]?).getD entZ).hot
theorem prd_demote {w : World} {v : Value} {l : Ents} {b p2 : Nat} (h : SlOf 8 encEnt w v l) (hoff : offV v b) (h2 : w.heap[p2]? = some (.cells ([v] : List Value).toArray 41 (0, 0))) (hb2 : p2 ≠ b) :
  PrdAt b w (.func (.func 184) #[] #[.pointer (some ⟨p2, 0, none⟩)]) l.length (fun i => !hotI l i) := by
 intro w1 x K hf hx hK
 have cw1 := cur w1
 rw [nx_xcall Tryz.call184]
 have h1 := h.fr hf (by intro q hq; simp at hq; subst hq; exact hoff)
 have h21 := hf.get h2 (by simp; exact hb2)
 obtain ⟨ex, hex⟩ : ∃ e, l[x]? = some e := ⟨l[x], List.getElem?_eq_getElem hx⟩
 obtain ⟨b1, o1, p1, ob1, hv1, hb1, hbl1, _, hc1⟩ := h1.read encEnt_len x ex hex
 have q5 := fun orig K => hc1 5 (.bool ex.hot) orig K rfl
 have x0 : (0 : Int) ≤ (x : Int) := by omega
 have x1 : (x : Int) < (l.length : Int) := by omega
 rw [hv1] at h21
 have ha : [Value.int .i64 (x : Int)] ++ (#[Value.pointer (some ⟨p2, 0, none⟩)] : Array Value).toList = [.int .i64 x, .pointer (some ⟨p2, 0, none⟩)] := rfl
 rw [ha]
 refine call184 ?_
 have hh : hotI l x = ex.hot := by unfold hotI; rw [hex]; rfl
 simp (maxSteps:=9^7)(disch:=first|assumption|(simp only[dz];first|done|assumption|omega)|omega|apply_rules[Fr.refl,Fr.alloc,Fr.drew]|rfl) only [↓gd,gp,Nat.reduceAdd,Nat.reduceEqDiff, ↓hk184, h21, x0, x1, Int.toNat_natCast, hb1, q5]
 have := hK w1 (Fr.refl _ _)
 simpa only [hh] using this
theorem sl_take {w : World} {b cap k : Nat} {F : List Nat} (h : SlOf 1 encN w (rowV b F.length cap) F) (hk : k ≤ F.length) : SlOf 1 encN w (rowV b k cap) (F.take k) := by
 unfold SlOf at *
 have hl : (F.take k).length = k := by rw [List.length_take]; omega
 rw [hl, encN_cells]
 rw [encN_cells] at h
 refine ⟨by simp; omega, ?_⟩
 by_cases hk0 : k = 0
 ·exact .inl ⟨hk0, _, _, by rw [hk0]⟩
 rcases h.2 with ⟨e, _⟩ | ⟨b', off, cap', c, et, fr, he, hb, hc⟩
 ·omega
 ·refine .inr ⟨b', off, cap', c, et, fr, ?_, hb, ?_⟩
  ·simp only [Value.slice.injEq] at he ⊢
   exact ⟨he.1, trivial, he.2.2⟩
  ·have := congrArg (List.take k) hc
   rw [List.take_take] at this
   rw [Nat.mul_one] at this ⊢
   rw [Nat.min_eq_left hk] at this
   rw [this, List.map_take]
def demN (most : Int) (m : Nat) : Nat := (max ((m : Int) - max most 0) 0).toNat
set_option maxHeartbeats 4000000 in
theorem demote_spec {w : World} {v : Value} {l : Ents} {most : Int} {K : Value → World → Prop} (h : SlOf 8 encEnt w v l) (h0 : 0 < l.length) (hb : l.length ≤ 1000000000) (hvl : ∀ a n c, v = .slice (some a) n c → a.block < w.heap.size) (hm : most ≤ 1000000000)
  (hK : ∀ w' L v', Fr [] w w' → L.Perm (List.range l.length) → SortL (ltI oldE l) L → SlOf 1 encN w' v' ((L.filter (hotI l)).take (demN most (L.filter (hotI l)).length)) → (∃ b m cap, v' = rowV b m cap ∧ w.heap.size ≤ b ∧ b < w'.heap.size) → K v' w') : CallsN Tryz.prog 142 [v, .int .i64 most] w K := by
 have cw := cur w
 obtain ⟨va, vc, hv⟩ := h.form
 refine call142 ?_
 simp (maxSteps:=9^7)(disch:=first|assumption|(simp only[dz];first|done|assumption|omega)|omega|apply_rules[Fr.refl,Fr.alloc,Fr.drew]|rfl) only [↓gd,gp,Nat.reduceAdd,Nat.reduceEqDiff, ↓hk142, hv]
 rw [← hv]
 generalize hW : World.alloc w _ = w1
 have hf1 : Fr [] w w1 := by rw [← hW]; exact fr_
 have hsz : w1.heap.size = w.heap.size + 1 := by rw [← hW]; simp only [gz]
 have g2 : w1.heap[w.heap.size]? = some (.cells ([v] : List Value).toArray 41 (0, 0)) := by rw [← hW]; simp (maxSteps:=9^7)(disch:=first|assumption|(simp only[dz];first|done|assumption|omega)|omega|apply_rules[Fr.refl,Fr.alloc,Fr.drew]|rfl) only [↓gsd,gs,gv,Nat.reduceAdd,Nat.reduceEqDiff]
 clear hW
 have cw1 := cur w1
 refine places_spec ord_old oldE_sw (h.frN hf1) h0 hb (fun a n c q => by have := hvl a n c q; omega) fun w2 L b cap R hf2 hbw hp hs hrow hcap hR => ?_
 have cw2 := cur w2
 have hz2 := hf2.size
 have hll : L.length = l.length := by rw [hp.length_eq, List.length_range]
 have hpr := prd_demote (b := b) (p2 := w.heap.size) ((h.frN hf1).frN hf2) (fun a n c q => by have := hvl a n c q; omega) (hf2.getN g2) (by omega)
 simp (maxSteps:=9^7)(disch:=first|assumption|(simp only[dz];first|done|assumption|omega)|omega|apply_rules[Fr.refl,Fr.alloc,Fr.drew]|rfl) only [↓gd,gp,Nat.reduceAdd,Nat.reduceEqDiff, ↓hk142]
 refine delF_spec hrow hpr hll (fun x hx => by have := hp.mem_iff.1 hx; simpa using this) hb hcap hR fun w3 hf3 hsl => ?_
 have cw3 := cur w3
 have hff : (L.filter fun x => !(!hotI l x)) = L.filter (hotI l) := by congr 1; funext x; simp
 rw [hff] at hsl
 rw [hff]
 have hfl : (L.filter (hotI l)).length ≤ l.length := by rw [← hll]; exact List.length_filter_le _ _
 obtain ⟨F, hF⟩ : ∃ F, F = L.filter (hotI l) := ⟨_, rfl⟩
 rw [← hF] at hsl hfl ⊢
 have wr : IntKind.i64.wrap ((F.length : Int) - max most 0) = (F.length : Int) - max most 0 := wrap64 (by omega) (by omega)
 obtain ⟨k, hk⟩ : ∃ k, k = demN most F.length := ⟨_, rfl⟩
 have hk' : max ((F.length : Int) - max most 0) 0 = (k : Int) := by rw [hk]; unfold demN; omega
 have k2 := fun W => cut_high0 (P := Tryz.prog) Tryz.runUnderlying63 Tryz.sizeOf3 b F.length cap k (by omega) W
 simp (maxSteps:=9^7)(disch:=first|assumption|(simp only[dz];first|done|assumption|omega)|omega|apply_rules[Fr.refl,Fr.alloc,Fr.drew]|rfl) only [↓gd,gp,Nat.reduceAdd,Nat.reduceEqDiff, ↓hk142, wr, hk', k2]
 refine hK w3 L _ ((hf1.trans' hf2).trans hf3 fun y hy => by simp at hy; subst hy; exact .inr (by omega)) hp hs ?_ ⟨b, k, cap, rfl, by omega, ?_⟩
 ·rw [← hF, ← hk]
  exact sl_take hsl (by unfold demN at hk; omega)
 ·have := lt_of_get _ _ hrow
  have := hf3.size
  omega
end Go.Proofs.YtomlgkecckffeaaGreat
