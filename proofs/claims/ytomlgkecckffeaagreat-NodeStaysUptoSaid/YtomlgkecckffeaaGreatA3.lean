/- Table: entries; the place of an entry (slices.BinarySearchFunc). slices.Insert and slices.Delete of entries. slices.Insert of one entry, walked. -/
import Derived.Test.YtomlgkecckffeaaGreatK1
import Derived.Test.YtomlgkecckffeaaGreatCF
import Derived.Lib.Overlaps
import Derived.Laws.Externs
set_option linter.unusedVariables false
set_option linter.unusedSimpArgs false
set_option maxRecDepth 10000
namespace Go.Proofs.YtomlgkecckffeaaGreat
open Go.VW
structure Ent where
 key : ByteArray
 has : Bool
 data : ByteArray
 lo : Int
 hi : Int
 hot : Bool
 stamp : Int
 ins : Int
def encEnt (e : Ent) : List Value := [.string e.key, .bool e.has, .string e.data, .int .i64 e.lo, .int .i64 e.hi, .bool e.hot, .int .i64 e.stamp, .int .i64 e.ins]
theorem encEnt_len (e : Ent) : (encEnt e).length = 8 := rfl
abbrev Ents := List Ent
def SortE (l : Ents) : Prop := l.Pairwise fun a b => a.lo < b.lo
def idxE (l : Ents) (lo : Int) : Nat := (l.takeWhile fun e => decide (e.lo < lo)).length
def hasE (l : Ents) (lo : Int) : Bool := match l[idxE l lo]? with | some e => decide (e.lo = lo) | none => false
theorem idxE_le (l : Ents) (lo : Int) : idxE l lo ≤ l.length := by
 unfold idxE
 exact List.IsPrefix.length_le (List.takeWhile_prefix _)
theorem idxE_lt {l : Ents} (hs : SortE l) {lo : Int} : ∀ {t : Nat} {e : Ent}, l[t]? = some e → (t < idxE l lo ↔ e.lo < lo) := by
 induction l with
 | nil => intro t e h; simp at h
 | cons x l ih =>
   intro t e h
   unfold SortE at hs
   rw [List.pairwise_cons] at hs
   unfold idxE
   rw [List.takeWhile_cons]
   by_cases hx : x.lo < lo
   ·rw [if_pos (decide_eq_true hx)]
    cases t with
    | zero => simp at h; subst h; simp [hx]
    | succ t =>
      have := @ih hs.2 t e (by simpa using h)
      unfold idxE at this
      simpa using this
   ·rw [if_neg (by simp; omega)]
    cases t with
    | zero => simp at h; subst h; simp [hx]
    | succ t =>
      have := hs.1 e (List.mem_of_getElem? (by simpa using h : l[t]? = some e))
      simp
      omega
theorem nan_spec {x : Int} {w : World} {K : Value → World → Prop} (hK : K (.bool false) w) : CallsN Tryz.prog 206 [.int .i64 x] w K := by
 have cw := cur w
 refine call206 ?_
 have d : decide (x = x) = true := decide_eq_true rfl
 simp (maxSteps:=9^7)(disch:=first|assumption|(simp only[dz];first|done|assumption|omega)|omega|apply_rules[Fr.refl,Fr.alloc,Fr.drew]|rfl) only [↓gd,gp,Nat.reduceAdd,Nat.reduceEqDiff, ↓hk206, d]
 exact hK
def cmpI (x y : Int) : Int := if x < y then -1 else if y < x then 1 else 0
theorem cmp_spec {x y : Int} {w : World} {K : Value → World → Prop} (hK : K (.int .i64 (cmpI x y)) w) : CallsN Tryz.prog 182 [.int .i64 x, .int .i64 y] w K := by
 have cw := cur w
 refine call182 ?_
 simp (maxSteps:=9^7)(disch:=first|assumption|(simp only[dz];first|done|assumption|omega)|omega|apply_rules[Fr.refl,Fr.alloc,Fr.drew]|rfl) only [↓gd,gp,Nat.reduceAdd,Nat.reduceEqDiff, ↓hk182]
 refine nan_spec ?_
 simp (maxSteps:=9^7)(disch:=first|assumption|(simp only[dz];first|done|assumption|omega)|omega|apply_rules[Fr.refl,Fr.alloc,Fr.drew]|rfl) only [↓gd,gp,Nat.reduceAdd,Nat.reduceEqDiff, ↓hk182]
 refine nan_spec ?_
 unfold cmpI at hK
 by_cases h1 : x < y
 ·have d1 : decide (x < y) = true := decide_eq_true h1
  rw [if_pos h1] at hK
  simp (maxSteps:=9^7)(disch:=first|assumption|(simp only[dz];first|done|assumption|omega)|omega|apply_rules[Fr.refl,Fr.alloc,Fr.drew]|rfl) only [↓gd,gp,Nat.reduceAdd,Nat.reduceEqDiff, ↓hk182, d1]
  exact hK
 ·have d1 : decide (x < y) = false := decide_eq_false h1
  rw [if_neg h1] at hK
  by_cases h2 : y < x
  ·have d2 : decide (y < x) = true := decide_eq_true h2
   rw [if_pos h2] at hK
   simp (maxSteps:=9^7)(disch:=first|assumption|(simp only[dz];first|done|assumption|omega)|omega|apply_rules[Fr.refl,Fr.alloc,Fr.drew]|rfl) only [↓gd,gp,Nat.reduceAdd,Nat.reduceEqDiff, ↓hk182, d1, d2]
   exact hK
  ·have d2 : decide (y < x) = false := decide_eq_false h2
   rw [if_neg h2] at hK
   simp (maxSteps:=9^7)(disch:=first|assumption|(simp only[dz];first|done|assumption|omega)|omega|apply_rules[Fr.refl,Fr.alloc,Fr.drew]|rfl) only [↓gd,gp,Nat.reduceAdd,Nat.reduceEqDiff, ↓hk182, d1, d2]
   exact hK
theorem cmpE_spec {e : Ent} {lo : Int} {w : World} {K : Value → World → Prop} (hK : ∀ w', Fr [] w w' → K (.int .i64 (cmpI e.lo lo)) w') : CallsN Tryz.prog 187 [.agg (encEnt e).toArray, .int .i64 lo] w K := by
 have cw := cur w
 refine call187 ?_
 unfold encEnt
 simp (maxSteps:=9^7)(disch:=first|assumption|(simp only[dz];first|done|assumption|omega)|omega|apply_rules[Fr.refl,Fr.alloc,Fr.drew]|rfl) only [↓gd,gp,Nat.reduceAdd,Nat.reduceEqDiff, ↓hk187]
 refine cmp_spec ?_
 try simp (maxSteps:=9^7)(disch:=first|assumption|(simp only[dz];first|done|assumption|omega)|omega|apply_rules[Fr.refl,Fr.alloc,Fr.drew]|rfl) only [↓gd,gp,Nat.reduceAdd,Nat.reduceEqDiff, ↓hk187]
 exact hK _ fr_
set_option maxHeartbeats 4000000 in
theorem bs_spec {w : World} {v : Value} {l : Ents} {lo : Int} {K : Value → World → Prop} (h : SlOf 8 encEnt w v l) (hs : SortE l) (hl : l.length ≤ 1000000000000)
  (hK : ∀ w', Fr [] w w' → K (.tuple ([.int .i64 (idxE l lo), .bool (hasE l lo)] : List Value).toArray) w') : CallsN Tryz.prog 186 [v, .int .i64 lo, .func (.func 187) #[] #[]] w K := by
 have cw := cur w
 obtain ⟨va, vc, hv⟩ := h.form
 have hil := idxE_le l lo
 have d0 : decide ((0 : Int) = 0) = true := rfl
 refine call186 ?_
 simp (maxSteps:=9^7)(disch:=first|assumption|(simp only[dz];first|done|assumption|omega)|omega|apply_rules[Fr.refl,Fr.alloc,Fr.drew]|rfl) only [↓gd,gp,Nat.reduceAdd,Nat.reduceEqDiff, ↓hk186, hv]
 rw [← hv]
 refine loop_intro (fun e w' => ∃ (i j : Nat), i ≤ idxE l lo ∧ idxE l lo ≤ j ∧ j ≤ l.length ∧ e 0 = v ∧ e 1 = .int .i64 lo ∧ e 2 = .func (.func 187) #[] #[] ∧ e 8 = .int .i64 l.length ∧ e 9 = .int .i64 i ∧ e 10 = .int .i64 j ∧ Fr [] w w')
  (fun e _ => (numOf (e 10)).toNat - (numOf (e 9)).toNat) ?_ ?_
 ·refine ⟨0, l.length, Nat.zero_le _, hil, Nat.le_refl _, ?_⟩
  simp (maxSteps:=9^7)(disch:=first|assumption|(simp only[dz];first|done|assumption|omega)|omega|apply_rules[Fr.refl,Fr.alloc,Fr.drew]|rfl) only [↓gsd,gs,gv,Nat.reduceAdd,Nat.reduceEqDiff, hv, Int.natCast_zero]
  exact Fr.refl _ _
 rintro e w1 k ⟨i, j, hi, hj, hjl, e0, e1, e2, e8, e9, e10, hf⟩ hk
 have cw1 := cur w1
 have hz1 := hf.size
 by_cases hij : i < j
 ·have d : decide ((i : Int) < (j : Int)) = true := decide_eq_true (by omega)
  obtain ⟨m, hm⟩ : ∃ m, m = (i + j) / 2 := ⟨_, rfl⟩
  have hmj : m < j := by omega
  have him : i ≤ m := by omega
  obtain ⟨x, hx⟩ : ∃ x, l[m]? = some x := ⟨l[m]'(by omega), List.getElem?_eq_getElem (by omega)⟩
  obtain ⟨bb, off, cap, ob, hv1, hob, _, hrow, _⟩ := (h.frN hf).read encEnt_len m x hx
  have hlt := idxE_lt hs (lo := lo) hx
  have hw : IntKind.i64.wrap (((i : Int) + (j : Int)).fdiv 2) = (m : Int) := by
   rw [Int.fdiv_eq_ediv_of_nonneg _ (by decide), wrap64 (by omega) (by omega)]; omega
  have m0 : (0 : Int) ≤ (m : Int) := by omega
  have m1 : (m : Int) < (l.length : Int) := by omega
  simp (maxSteps:=9^7)(disch:=first|assumption|(simp only[dz];first|done|assumption|omega)|omega|apply_rules[Fr.refl,Fr.alloc,Fr.drew]|rfl) only [↓gd,gp,Nat.reduceAdd,Nat.reduceEqDiff, ↓hk186, e0, e1, e2, e8, e9, e10, d, hw, hv1, m0, m1, Int.toNat_natCast, hob, hrow, encEnt]
  refine cmpE_spec fun w2 hf2 => ?_
  have cw2 := cur w2
  unfold cmpI
  by_cases hc : x.lo < lo
  ·have := hlt.2 hc
   have dc : decide ((-1 : Int) < 0) = true := rfl
   rw [if_pos hc]
   have wr : IntKind.i64.wrap ((m : Int) + 1) = ((m + 1 : Nat) : Int) := by rw [wrap64 (by omega) (by omega)]; omega
   simp (maxSteps:=9^7)(disch:=first|assumption|(simp only[dz];first|done|assumption|omega)|omega|apply_rules[Fr.refl,Fr.alloc,Fr.drew]|rfl) only [↓gd,gp,Nat.reduceAdd,Nat.reduceEqDiff, ↓hk186, e0, e1, e2, e8, e9, e10, dc, wr]
   refine hk _ _ ⟨m + 1, j, by omega, hj, hjl, ?_⟩ ?_
   ·simp (maxSteps:=9^7)(disch:=first|assumption|(simp only[dz];first|done|assumption|omega)|omega|apply_rules[Fr.refl,Fr.alloc,Fr.drew]|rfl) only [↓gsd,gs,gv,Nat.reduceAdd,Nat.reduceEqDiff, e0, e1, e2, e8, e9, e10]
    exact hf.trans' hf2
   ·simp (maxSteps:=9^7)(disch:=first|assumption|(simp only[dz];first|done|assumption|omega)|omega|apply_rules[Fr.refl,Fr.alloc,Fr.drew]|rfl) only [↓gsd,gs,gv,Nat.reduceAdd,Nat.reduceEqDiff, e9, e10, numOf, Int.toNat_natCast]; omega
  ·have hn : ¬ m < idxE l lo := fun q => hc (hlt.1 q)
   have dc : decide ((if x.lo < lo then (-1 : Int) else if lo < x.lo then 1 else 0) < 0) = false := by
    rw [if_neg hc]; split <;> rfl
   simp (maxSteps:=9^7)(disch:=first|assumption|(simp only[dz];first|done|assumption|omega)|omega|apply_rules[Fr.refl,Fr.alloc,Fr.drew]|rfl) only [↓gd,gp,Nat.reduceAdd,Nat.reduceEqDiff, ↓hk186, e0, e1, e2, e8, e9, e10, dc]
   refine hk _ _ ⟨i, m, hi, by omega, by omega, ?_⟩ ?_
   ·simp (maxSteps:=9^7)(disch:=first|assumption|(simp only[dz];first|done|assumption|omega)|omega|apply_rules[Fr.refl,Fr.alloc,Fr.drew]|rfl) only [↓gsd,gs,gv,Nat.reduceAdd,Nat.reduceEqDiff, e0, e1, e2, e8, e9, e10]
    exact hf.trans' hf2
   ·simp (maxSteps:=9^7)(disch:=first|assumption|(simp only[dz];first|done|assumption|omega)|omega|apply_rules[Fr.refl,Fr.alloc,Fr.drew]|rfl) only [↓gsd,gs,gv,Nat.reduceAdd,Nat.reduceEqDiff, e9, e10, numOf, Int.toNat_natCast]; omega
 ·have d : decide ((i : Int) < (j : Int)) = false := decide_eq_false (by omega)
  obtain rfl : i = idxE l lo := by omega
  by_cases hin : idxE l lo < l.length
  ·have d2 : decide ((idxE l lo : Int) < (l.length : Int)) = true := decide_eq_true (by omega)
   obtain ⟨x, hx⟩ : ∃ x, l[idxE l lo]? = some x := ⟨l[idxE l lo], List.getElem?_eq_getElem hin⟩
   obtain ⟨bb, off, cap, ob, hv1, hob, _, hrow, _⟩ := (h.frN hf).read encEnt_len _ x hx
   have m0 : (0 : Int) ≤ (idxE l lo : Int) := by omega
   have m1 : (idxE l lo : Int) < (l.length : Int) := by omega
   have hlt := idxE_lt hs (lo := lo) hx
   have hc : ¬ x.lo < lo := fun q => Nat.lt_irrefl _ (hlt.2 q)
   simp (maxSteps:=9^7)(disch:=first|assumption|(simp only[dz];first|done|assumption|omega)|omega|apply_rules[Fr.refl,Fr.alloc,Fr.drew]|rfl) only [↓gd,gp,Nat.reduceAdd,Nat.reduceEqDiff, ↓hk186, e0, e1, e2, e8, e9, e10, d, d2, hv1, m0, m1, Int.toNat_natCast, hob, hrow, encEnt]
   refine cmpE_spec fun w2 hf2 => ?_
   have cw2 := cur w2
   have hh : decide (cmpI x.lo lo = 0) = hasE l lo := by
    unfold hasE cmpI
    rw [hx, if_neg hc]
    by_cases q : lo < x.lo
    ·rw [if_pos q]; simp; omega
    ·rw [if_neg q]; simp; omega
   simp (maxSteps:=9^7)(disch:=first|assumption|(simp only[dz];first|done|assumption|omega)|omega|apply_rules[Fr.refl,Fr.alloc,Fr.drew]|rfl) only [↓gd,gp,Nat.reduceAdd,Nat.reduceEqDiff, ↓hk186, e0, e1, e2, e8, e9, e10, hh]
   exact hK _ (hf.trans' hf2)
  ·have d2 : decide ((idxE l lo : Int) < (l.length : Int)) = false := decide_eq_false (by omega)
   have hh : hasE l lo = false := by
    unfold hasE
    rw [List.getElem?_eq_none (by omega)]
   rw [hh] at hK
   simp (maxSteps:=9^7)(disch:=first|assumption|(simp only[dz];first|done|assumption|omega)|omega|apply_rules[Fr.refl,Fr.alloc,Fr.drew]|rfl) only [↓gd,gp,Nat.reduceAdd,Nat.reduceEqDiff, ↓hk186, e0, e1, e2, e8, e9, e10, d, d2]
   exact hK _ hf
def insL (l : Ents) (i : Nat) (x : Ent) : Ents := l.take i ++ x :: l.drop i
def delL (l : Ents) (i : Nat) : Ents := l.take i ++ l.drop (i + 1)
theorem uEnts : Tryz.prog.underlying 41 = some (.slice 52) := by kernel_rfl
theorem cells_take (l : Ents) (i : Nat) : (cellsOf encEnt l).take (i * 8) = cellsOf encEnt (l.take i) := by
 by_cases hi : i ≤ l.length
 ·conv => lhs; rw [← List.take_append_drop i l]
  rw [cellsOf_append]
  have h1 : (cellsOf encEnt (l.take i)).length = i * 8 := by rw [cellsOf_length encEnt_len, List.length_take, Nat.min_eq_left hi]
  rw [List.take_append_of_le_length (by omega), List.take_of_length_le (by omega)]
 ·rw [List.take_of_length_le (by rw [cellsOf_length encEnt_len]; omega), List.take_of_length_le (by omega)]
theorem ovl_run {w : World} {vb g o lb cb : Nat} {x : Ent} {D : List Value} (hx : Blk w vb 52 (encEnt x)) (hg : Blk w g 52 D) (hne : vb ≠ g) (hD : 0 < D.length) :
  (callFunc 198 [(.slice (some ⟨vb, 0, none⟩) 1 1 : Value), .slice (some ⟨g, o, none⟩) lb cb].toArray).run Tryz.prog w = .ok (.value (.bool false)) w := by
 rw [run_callFunc_extern (f := 198) (fn := Tryz.f198) (by kernel_rfl) (by kernel_rfl) (by kernel_rfl) (by kernel_rfl) (e := Extern.SlicesOverlaps.overlaps #[41, 41] #[4]) (by kernel_rfl)]
 rw [Lib.run_overlaps_apart w 41 4 52 uEnts 8 Tryz.sizeOf52 ⟨vb, 0, none⟩ ⟨g, o, none⟩ 1 1 lb cb hne 52 52 8 D.length (by simp [World.shape?, hx, encEnt]) (by simp [World.shape?, hg]) (by omega) (by simp [World.frozen?, hx]) (by simp [World.frozen?, hx])]
 rfl
theorem one_sl {w : World} {vb : Nat} {x : Ent} (hx : Blk w vb 52 (encEnt x)) : SlOf 8 encEnt w (.slice (some ⟨vb, 0, none⟩) 1 1) [x] :=
 ⟨rfl, .inr ⟨vb, 0, 1, (encEnt x).toArray, 52, (0, 0), rfl, hx, rfl⟩⟩
theorem encEnt_one (x : Ent) : (encEnt x).all oneC = true := rfl
theorem cellsE_one (l : Ents) : (cellsOf encEnt l).all oneC = true := cells_oneC (enc := encEnt) (fun _ => rfl) l
set_option maxHeartbeats 16000000 in
theorem ins_spec {w : World} {v : Value} {l : Ents} {i vb : Nat} {x : Ent} {K : Value → World → Prop} (h : Own 8 52 w v l.length (cellsOf encEnt l)) (hi : i ≤ l.length) (hl : l.length ≤ 1000000000000) (hx : Blk w vb 52 (encEnt x)) (hne : v.ownBlock ≠ some vb)
  (hK : ∀ v' w', Own 8 52 w' v' (l.length + 1) (cellsOf encEnt (insL l i x)) → (v'.ownBlock = v.ownBlock ∨ ∃ b, v'.ownBlock = some b ∧ w.heap.size ≤ b) → Fr (blkL v) w w' → K v' w') :
  CallsN Tryz.prog 169 [v, .int .i64 i, .slice (some ⟨vb, 0, none⟩) 1 1] w K := by
 have cw := cur w
 have hvlt := lt_of_get _ _ hx
 obtain ⟨va, vc, hv⟩ := h.sl.form
 have hcap : ∀ a m c, v = .slice a m c → m ≤ c := by
  intro a m c e
  rcases h.2 with ⟨e', _⟩ | ⟨g, cap, cur', e', _, _, hnc, _⟩
  ·rw [e'] at e; cases e; omega
  ·rw [e'] at e; cases e; exact hnc
 obtain ⟨v1, hcut, _⟩ := run_cut_low (P := Tryz.prog) (t := 41) Tryz.runUnderlying41 Tryz.sizeOf52 h.sl hcap .i64 i hi
 have hcells : cellsOf encEnt (insL l i x) = (cellsOf encEnt l).take (i * 8) ++ encEnt x ++ cellsOf encEnt (l.drop i) := by
  unfold insL
  rw [cells_take, cellsOf_append]
  simp [cellsOf]
 have z1 : decide ((1 : Int) = 0) = false := rfl
 refine call169 ?_
 by_cases hin : i = l.length
 ·subst hin
  have d1 : decide ((l.length : Int) = (l.length : Int)) = true := decide_eq_true rfl
  have hil : insL l l.length x = l ++ [x] := by unfold insL; rw [List.take_length, List.drop_length]
  obtain ⟨v2, w2, hr, hown, hf, hbk⟩ := ap41 (ty := 41) h (one_sl hx) (cellsE_one [x]) (by simp; omega)
  rw [← cellsOf_append, ← hil] at hown
  rw [hv] at hcut hr
  simp (maxSteps:=9^7)(disch:=first|assumption|(simp only[dz];first|done|assumption|omega)|omega|apply_rules[Fr.refl,Fr.alloc,Fr.drew]|rfl) only [↓gd,gp,Nat.reduceAdd,Nat.reduceEqDiff, ↓hk169, hv, hcut, d1, Int.natCast_one, z1, hr]
  exact hK _ _ (by simpa using hown) hbk hf
 have hil : i < l.length := by omega
 have d1 : decide ((i : Int) = (l.length : Int)) = false := decide_eq_false (by omega)
 obtain ⟨g, cap, hvg⟩ : ∃ g cap, v = .slice (some ⟨g, 0, none⟩) l.length cap := by
  rcases h.2 with ⟨_, h0⟩ | ⟨g, cap, cur', e', _⟩
  ·omega
  ·exact ⟨g, cap, e'⟩
 subst hvg
 obtain ⟨D, hb, hD, hnc, hcm, hT⟩ := own_blkD h
 have hgl := lt_of_get _ _ hb
 have hvbg : vb ≠ g := fun e => hne (by rw [e]; rfl)
 have hDl : l.length * 8 ≤ D.length := by rw [hD]; exact Nat.mul_le_mul_right 8 hnc
 have hpre : D.take (i * 8) = (cellsOf encEnt l).take (i * 8) := by rw [← hT, List.take_take, Nat.min_eq_left (by omega)]
 have hsuf : (D.drop (i * 8)).take ((l.length - i) * 8) = cellsOf encEnt (l.drop i) := by
  rw [← cellsOf_drop encEnt_len, ← hT, List.drop_take]
  congr 1; omega
 have hsl : (cellsOf encEnt (l.drop i)).length = (l.length - i) * 8 := by rw [cellsOf_length encEnt_len, List.length_drop]
 have wr1 : IntKind.i64.wrap ((l.length : Int) + 1) = (l.length : Int) + 1 := wrap64 (by omega) (by omega)
 have wr2 : IntKind.i64.wrap ((i : Int) + 1) = (i : Int) + 1 := wrap64 (by omega) (by omega)
 have wr3 : IntKind.i64.wrap ((l.length : Int) + 1 - (i : Int)) = ((l.length + 1 - i : Nat) : Int) := by rw [wrap64 (by omega) (by omega)]; omega
 have hcp : ∀ ty (a : Option Addr) (n c : Nat) W, (Builtin.cap_ #[41] ty #[.slice a n c]).run Tryz.prog W = .ok (.int .i64 c) W := fun ty a n c W => by
  simp [Builtin.cap_, Sem.run_bind, run_underlying uEnts, goInt]
 have en : (l.length : Int) + 1 = ((l.length + 1 : Nat) : Int) := by omega
 have ei : (i : Int) + 1 = ((i + 1 : Nat) : Int) := by omega
 have hmin1 : (l.length - i) * 8 = min (l.length + 1 - i) (l.length + 1 - (i + 1)) * 8 := by congr 1; omega
 have hmin2 : (encEnt x).length = min 1 (l.length + 1 - i) * 8 := by rw [Nat.min_eq_left (by omega)]; rfl
 have hmin3 : (l.length - i) * 8 = min (l.length - i) (l.length + 1 - (i + 1)) * 8 := by congr 1; omega
 have hxl : (encEnt x).length = 8 := rfl
 by_cases hroom : l.length + 1 ≤ cap
 case neg =>
  have d2 : decide ((cap : Int) < (l.length : Int) + 1) = true := decide_eq_true (by omega)
  have c1 := fun W => cut_high0 (P := Tryz.prog) Tryz.runUnderlying41 Tryz.sizeOf52 g l.length cap i (by omega) W
  obtain ⟨G, ROW, w1, hr1, hb1, hR, hnG, hGm, hRt, hf1, hz1⟩ := grow_zeros (P := Tryz.prog) (t := 41) (tn := 3) (ty := 41) (i0 := Tryz.t52) (k := 8) (bytes := 80) uEnts (by kernel_rfl) (by kernel_rfl) rfl rfl rfl rfl (by decide) (n := i) (cap := cap) (m := l.length + 1 - i) hb (by omega) (by omega) (by omega) (by omega) (by decide)
  have hin1 : i + (l.length + 1 - i) = l.length + 1 := by omega
  rw [hin1] at hr1 hnG
  have cw1 := cur w1
  have hR8 : (l.length + 1) * 8 ≤ ROW.length := by rw [hR]; exact Nat.mul_le_mul_right 8 hnG
  have gi : ¬ G = i := by omega
  have gi1 : ¬ G = i + 1 := by omega
  have k1 := fun W => cut_low0 (P := Tryz.prog) Tryz.runUnderlying41 Tryz.sizeOf52 w.heap.size (l.length + 1) G i (by omega) hnG W
  have k2 := fun W => cut_low0 (P := Tryz.prog) Tryz.runUnderlying41 Tryz.sizeOf52 w.heap.size (l.length + 1) G (i + 1) (by omega) hnG W
  have k3 := fun W => cut_low0 (P := Tryz.prog) Tryz.runUnderlying41 Tryz.sizeOf52 g l.length cap i (by omega) hnc W
  have ci : ¬ cap = i := by omega
  simp only [if_neg gi, if_neg gi1, if_neg ci] at k1 k2 k3
  rw [← ei] at k2
  have hx1 : Blk w1 vb 52 (encEnt x) := hf1.getN hx
  have hbo1 : Blk w1 g 52 D := hf1.getN hb
  have hr2 := fun ty dc => copy_row (P := Tryz.prog) (dT := 41) (sT := 41) (ty := ty) Tryz.runUnderlying41 Tryz.sizeOf52 (o := i * 8) (dLen := l.length + 1 - i) (dCap := dc) (sLen := 1) (sCap := 1) hb1 hmin2 (fun j v hv => hx1.cell 0 j v (by simpa using hv)) (by omega) (encEnt_one x)
  generalize hR1 : ROW.take (i * 8) ++ encEnt x ++ ROW.drop (i * 8 + (encEnt x).length) = ROW1 at hr2
  have hb2 : Blk (w1.setB w.heap.size (.cells ROW1.toArray 52 (0, 0))) w.heap.size 52 ROW1 := hb1.set ROW1
  have hf2 : Fr [] w (w1.setB w.heap.size (.cells ROW1.toArray 52 (0, 0))) := hf1.setB _ _ (.inr (Nat.le_refl _))
  have hbo2 : Blk (w1.setB w.heap.size (.cells ROW1.toArray 52 (0, 0))) g 52 D := hf2.getN hb
  have hl1 : ROW1.length = ROW.length := by rw [← hR1]; simp only [List.length_append, List.length_take, List.length_drop, hxl]; omega
  simp (maxSteps:=9^7)(disch:=first|assumption|(simp only[dz];first|done|assumption|omega)|omega|apply_rules[Fr.refl,Fr.alloc,Fr.drew]|rfl) only [↓gd,gp,Nat.reduceAdd,Nat.reduceEqDiff, nx_copy, vR_ok, ↓hk169, hcut, d1, Int.natCast_one, z1, hcp, wr1, wr2, wr3, d2, c1, hr1, k1, hr2]
  generalize hw2 : w1.setB w.heap.size (.cells ROW1.toArray 52 (0, 0)) = w2 at *
  have cw2 := cur w2
  have hr3 := fun ty dc sc => copy_row (P := Tryz.prog) (w := w2.drew) (dT := 41) (sT := 41) (ty := ty) Tryz.runUnderlying41 Tryz.sizeOf52 (o := (i + 1) * 8) (dLen := l.length + 1 - (i + 1)) (dCap := dc) (a := ⟨g, i * 8, none⟩) (sLen := l.length - i) (sCap := sc) (cs := cellsOf encEnt (l.drop i)) hb2 (by rw [hsl]; exact hmin3) (fun j v hv => Blk.cellT (w := w2.drew) hbo2 (i * 8) ((l.length - i) * 8) j v (by rw [hsuf]; exact hv)) (by rw [hsl]; omega) (cellsE_one _)
  have p2 := fun K => takeP_xv (P := Tryz.prog) (M := none) (w0 := w2.drew) k2 K
  have p3 := fun K => takeP_xv (P := Tryz.prog) (M := none) (w0 := w2.drew) k3 K
  simp (maxSteps:=9^7)(disch:=first|assumption|(simp only[dz];first|done|assumption|omega)|omega|apply_rules[Fr.refl,Fr.alloc,Fr.drew]|rfl) only [↓gd,gp,Nat.reduceAdd,Nat.reduceEqDiff, nx_copy, vR_ok, ↓hk169, wr2, p2, p3, hr3]
  refine hK _ _ (own_of_blk (D := _) (Blk.set (w := w2.drew) hb2 _) ?_ hnG hGm ?_) (.inr ⟨_, rfl, Nat.le_refl _⟩) ?_
  ·simp only [List.length_append, List.length_take, List.length_drop, hsl, hl1]; omega
  ·rw [hcells]
   exact ins_cells2 (R := ROW) hR8 hxl hi (by rw [hRt, hpre]) hsl hR1.symm
  ·exact Fr.trans (M' := []) (Fr.refl _ w) ((hf2.drew).setB _ _ (.inr (Nat.le_refl _))) (by simp)
 have d2 : decide ((cap : Int) < (l.length : Int) + 1) = false := decide_eq_false (by omega)
 have c1 := fun W => cut_high0 (P := Tryz.prog) Tryz.runUnderlying41 Tryz.sizeOf52 g l.length cap (l.length + 1) hroom W
 have c2 := fun W => cut_low0 (P := Tryz.prog) Tryz.runUnderlying41 Tryz.sizeOf52 g (l.length + 1) cap (i + 1) (by omega) hroom W
 have c3 := fun W => cut_low0 (P := Tryz.prog) Tryz.runUnderlying41 Tryz.sizeOf52 g (l.length + 1) cap i (by omega) hroom W
 have ci : ¬ cap = i := by omega
 have ci1 : ¬ cap = i + 1 := by omega
 simp only [if_neg ci, if_neg ci1] at c2 c3
 rw [← en] at c1
 rw [← ei] at c2
 have hov := fun o lb cb => nx_xext (P := Tryz.prog) (ovl_run (o := o) (lb := lb) (cb := cb) hx hb hvbg (by omega))
 have hD8 : (l.length + 1) * 8 ≤ D.length := by rw [hD]; exact Nat.mul_le_mul_right 8 hroom
 have hr1 := fun ty dc sc => copy_row (P := Tryz.prog) (w := w.drew) (dT := 41) (sT := 41) (ty := ty) Tryz.runUnderlying41 Tryz.sizeOf52 (o := (i + 1) * 8) (dLen := l.length + 1 - (i + 1)) (dCap := dc) (a := ⟨g, i * 8, none⟩) (sLen := l.length + 1 - i) (sCap := sc) (cs := cellsOf encEnt (l.drop i)) hb (by rw [hsl]; exact hmin1) (fun j v hv => Blk.cellT (w := w.drew) hb (i * 8) ((l.length - i) * 8) j v (by rw [hsuf]; exact hv)) (by rw [hsl]; omega) (cellsE_one _)
 have p2 := fun K => takeP_xv (P := Tryz.prog) (M := none) (w0 := w.drew) c2 K
 have p3 := fun K => takeP_xv (P := Tryz.prog) (M := none) (w0 := w.drew) c3 K
 simp (maxSteps:=9^7)(disch:=first|assumption|(simp only[dz];first|done|assumption|omega)|omega|apply_rules[Fr.refl,Fr.alloc,Fr.drew]|rfl) only [↓gd,gp,Nat.reduceAdd,Nat.reduceEqDiff, nx_copy, vR_ok, ↓hk169, hcut, d1, Int.natCast_one, z1, hcp, wr1, wr2, wr3, d2, c1, c2, c3, hov, p2, p3, hr1]
 generalize hD1 : D.take ((i + 1) * 8) ++ cellsOf encEnt (l.drop i) ++ D.drop ((i + 1) * 8 + (cellsOf encEnt (l.drop i)).length) = D1
 have hl1 : D1.length = D.length := by rw [← hD1]; simp only [List.length_append, List.length_take, List.length_drop, hsl]; omega
 have hb1 : Blk (w.drew.setB g (.cells D1.toArray 52 (0, 0))) g 52 D1 := Blk.set (w := w.drew) hb D1
 have hx1 : Blk (w.drew.setB g (.cells D1.toArray 52 (0, 0))) vb 52 (encEnt x) := Blk.ne (w := w.drew) hx _ (fun e => hvbg e.symm)
 have hr2 := fun ty dc => copy_row (P := Tryz.prog) (dT := 41) (sT := 41) (ty := ty) Tryz.runUnderlying41 Tryz.sizeOf52 (o := i * 8) (dLen := l.length + 1 - i) (dCap := dc) (sLen := 1) (sCap := 1) hb1 hmin2 (fun j v hv => hx1.cell 0 j v (by simpa using hv)) (by omega) (encEnt_one x)
 simp (maxSteps:=9^7)(disch:=first|assumption|(simp only[dz];first|done|assumption|omega)|omega|apply_rules[Fr.refl,Fr.alloc,Fr.drew]|rfl) only [↓gd,gp,Nat.reduceAdd,Nat.reduceEqDiff, nx_copy, vR_ok, ↓hk169, hr2]
 have hfg : Fr [g] w (w.drew.setB g (.cells D1.toArray 52 (0, 0))) := (Fr.refl [g] w).drew.setB _ _ (.inl (by simp))
 have hD1' : D1 = D.take ((i + 1) * 8) ++ (D.drop (i * 8)).take ((l.length - i) * 8) ++ D.drop ((i + 1) * 8 + (l.length - i) * 8) := by rw [← hD1, hsuf, hsl]
 try simp only [setB_setB]
 refine hK _ _ (own_of_blk (D := D1.take (i * 8) ++ encEnt x ++ D1.drop (i * 8 + (encEnt x).length)) (Blk.set (w := w.drew) hb _) ?_ hroom hcm ?_) (.inl rfl) ?_
 ·simp only [List.length_append, List.length_take, List.length_drop, hl1, hxl]; omega
 ·rw [hcells, ← hpre, ← hsuf]
  exact ins_cells hD8 hxl hi hD1'
 ·simpa [blkL, Value.ownBlock] using (Fr.refl [g] w).drew.setB g _ (.inl (by simp))
end Go.Proofs.YtomlgkecckffeaaGreat
