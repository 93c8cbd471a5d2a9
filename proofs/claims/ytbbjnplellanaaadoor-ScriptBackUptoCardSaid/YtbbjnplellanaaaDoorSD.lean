/- Numbers and writes, as the program reads them. Writes and pieces, as the program reads them. -/
import Derived.Test.YtbbjnplellanaaaDoorSA
set_option linter.unusedVariables false
set_option linter.unusedSimpArgs false
set_option maxRecDepth 10000
namespace Go.Proofs.YtbbjnplellanaaaDoor
open Go.VW
theorem wrap32 {a : Int} (h1 : -2147483648 ≤ a) (h2 : a ≤ 2147483647) : IntKind.i32.wrap a = a := by
 have e1 : (2 : Int) ^ IntKind.i32.bits = 4294967296 := by decide
 have e2 : (2 : Int) ^ (IntKind.i32.bits - 1) = 2147483648 := by decide
 simp only [IntKind.wrap, e1, e2, IntKind.signed, Bool.true_and, decide_eq_true_eq]
 split <;> omega
def iterPos (w : World) (k : Nat) : Nat := match w.heap[k]? with
 | some (.stringIter _ p) => p
 | _ => 0
def numRes (l : Bs) : Value := .tuple #[.int .i64 ((numO l).getD 0), .bool (numO l).isSome]
theorem pow_le9 {i : Nat} (h : i ≤ 9) : (10 : Int) ^ i ≤ 1000000000 := by
 have : i = 0 ∨ i = 1 ∨ i = 2 ∨ i = 3 ∨ i = 4 ∨ i = 5 ∨ i = 6 ∨ i = 7 ∨ i = 8 ∨ i = 9 := by omega
 rcases this with rfl | rfl | rfl | rfl | rfl | rfl | rfl | rfl | rfl | rfl <;> decide
theorem num_step {l : Bs} {i : Nat} {c : UInt8} {n : Int} (h : numGo l 0 = numGo (l.drop i) n) (hc : l[i]? = some c) (h1 : 48 ≤ c.toNat) (h2 : c.toNat ≤ 57) : numGo l 0 = numGo (l.drop (i + 1)) (10 * n + ((c.toNat : Int) - 48)) := by
 rw [h, drop_at hc, numGo, if_neg (by omega)]
theorem num_stop {l : Bs} {i : Nat} {c : UInt8} {n : Int} (h : numGo l 0 = numGo (l.drop i) n) (hc : l[i]? = some c) (h1 : c.toNat < 48 ∨ 57 < c.toNat) : numGo l 0 = none := by
 rw [h, drop_at hc, numGo, if_pos h1]
theorem num_end {l : Bs} {n : Int} (h : numGo l 0 = numGo (l.drop l.length) n) : numGo l 0 = some n := by
 rw [h, List.drop_length]; rfl
theorem num_bd {i : Nat} {n d : Int} (h0 : 0 ≤ n) (h1 : n + 1 ≤ 10 ^ i) (hd0 : 0 ≤ d) (hd : d ≤ 9) : 0 ≤ 10 * n + d ∧ 10 * n + d + 1 ≤ 10 ^ (i + 1) := by
 rw [Int.pow_succ]; omega
set_option maxHeartbeats 4000000 in
theorem number_loop {l : Bs} {w : World} {e : Env} {K : Value → World → Prop} (e0 : e 0 = .string (B l)) (hb : numBad l = false) (hl : l.length ≤ 9) (hK : ∀ w', Fr [] w w' → K (numRes l) w') : W3 Tryd.prog 42 V36 c36_2 (retQ Tryd.prog [.tmp 2, .tmp 3] K) e w := by
 have cw := cur w
 have hnum : numO l = numGo l 0 := by unfold numO; rw [hb]; rfl
 simp (maxSteps:=4000000)(disch:=first|assumption|(simp only[dz];first|done|assumption|omega)|omega|apply_rules[Fr.refl,Fr.alloc,Fr.drew]|rfl) only [↓gd,gp,Nat.reduceAdd,Nat.reduceEqDiff, ↓hk36, e0, rg9]
 obtain ⟨k, hk⟩ : ∃ k, k = w.heap.size := ⟨_, rfl⟩
 rw [← hk]
 refine loop_intro (fun e w' => ∃ (i : Nat) (n : Int), e 0 = .string (B l) ∧ e 25 = .pointer (some ⟨k, 0, none⟩) ∧ e 4 = .int .i64 n ∧ w'.heap[k]? = some (.stringIter (B l) i) ∧ i ≤ l.length ∧ 0 ≤ n ∧ n + 1 ≤ 10 ^ i ∧ numGo l 0 = numGo (l.drop i) n ∧ Fr [] w w') (fun e w' => l.length - iterPos w' k) ?_ ?_
 ·refine ⟨0, 0, ?_, ?_, ?_, ?_, Nat.zero_le _, by omega, by decide, rfl, (Fr.refl _ _).alloc _⟩
  ·simp (maxSteps:=4000000)(disch:=first|assumption|(simp only[dz];first|done|assumption|omega)|omega|apply_rules[Fr.refl,Fr.alloc,Fr.drew]|rfl) only [↓gsd,gs,gv,Nat.reduceAdd,Nat.reduceEqDiff, e0]
  ·simp (maxSteps:=4000000)(disch:=first|assumption|(simp only[dz];first|done|assumption|omega)|omega|apply_rules[Fr.refl,Fr.alloc,Fr.drew]|rfl) only [↓gsd,gs,gv,Nat.reduceAdd,Nat.reduceEqDiff]
  ·simp (maxSteps:=4000000)(disch:=first|assumption|(simp only[dz];first|done|assumption|omega)|omega|apply_rules[Fr.refl,Fr.alloc,Fr.drew]|rfl) only [↓gsd,gs,gv,Nat.reduceAdd,Nat.reduceEqDiff]
  ·rw [hk]; exact get_alloc_new _ _
 rintro e w1 kk ⟨i, n, e0, e25, e4, hit, hil, hn0, hn1, hg, hf⟩ hkk
 have cw1 := cur w1
 have hks : w.heap.size ≤ k := by omega
 by_cases hlt : i < l.length
 ·obtain ⟨c, hc⟩ : ∃ c, l[i]? = some c := ⟨l[i], List.getElem?_eq_getElem hlt⟩
  have hnx := fun ty => run_nextB (P := Tryd.prog) hit (by rw [B_size]; exact hlt) ty
  have hp9 := pow_le9 (show i ≤ 9 by omega)
  by_cases hb : c.toNat < 128
  ·rw [dec_lt hc hb] at hnx
   simp only at hnx
   have hf2 : Fr [] w (w1.setB k (.stringIter (B l) (i + 1))) := hf.setB _ _ (.inr hks)
   have cw2 := cur (w1.setB k (.stringIter (B l) (i + 1)))
   by_cases q1 : c.toNat < 48
   ·have d1 : decide ((c.toNat : Int) < 48) = true := decide_eq_true (by omega)
    simp (maxSteps:=4000000)(disch:=first|assumption|(simp only[dz];first|done|assumption|omega)|omega|apply_rules[Fr.refl,Fr.alloc,Fr.drew]|rfl) only [↓gd,gp,Nat.reduceAdd,Nat.reduceEqDiff, ↓hk36, e0, e25, e4, hnx, d1]
    have := hK _ hf2
    unfold numRes at this
    rw [hnum, num_stop hg hc (.inl q1)] at this
    exact this
   ·have d1 : decide ((c.toNat : Int) < 48) = false := decide_eq_false (by omega)
    by_cases q2 : 57 < c.toNat
    ·have d2 : decide ((57 : Int) < (c.toNat : Int)) = true := decide_eq_true (by omega)
     simp (maxSteps:=4000000)(disch:=first|assumption|(simp only[dz];first|done|assumption|omega)|omega|apply_rules[Fr.refl,Fr.alloc,Fr.drew]|rfl) only [↓gd,gp,Nat.reduceAdd,Nat.reduceEqDiff, ↓hk36, e0, e25, e4, hnx, d1, d2]
     have := hK _ hf2
     unfold numRes at this
     rw [hnum, num_stop hg hc (.inr q2)] at this
     exact this
    ·have d2 : decide ((57 : Int) < (c.toNat : Int)) = false := decide_eq_false (by omega)
     have w1' : IntKind.i32.wrap ((c.toNat : Int) - 48) = (c.toNat : Int) - 48 := wrap32 (by omega) (by omega)
     have w2' : IntKind.i64.wrap ((c.toNat : Int) - 48) = (c.toNat : Int) - 48 := wrap64 (by omega) (by omega)
     have w3' : IntKind.i64.wrap (10 * n) = 10 * n := wrap64 (by omega) (by omega)
     have w4' : IntKind.i64.wrap (10 * n + ((c.toNat : Int) - 48)) = 10 * n + ((c.toNat : Int) - 48) := wrap64 (by omega) (by omega)
     obtain ⟨b0, b1⟩ := num_bd hn0 hn1 (d := (c.toNat : Int) - 48) (by omega) (by omega)
     simp (maxSteps:=4000000)(disch:=first|assumption|(simp only[dz];first|done|assumption|omega)|omega|apply_rules[Fr.refl,Fr.alloc,Fr.drew]|rfl) only [↓gd,gp,Nat.reduceAdd,Nat.reduceEqDiff, ↓hk36, e0, e25, e4, hnx, d1, d2, w1', w2', w3', w4']
     refine hkk _ _ ⟨i + 1, 10 * n + ((c.toNat : Int) - 48), ?_, ?_, ?_, get_setB_same _ _ _ (lt_of_get _ _ hit), hlt, b0, b1, num_step hg hc (by omega) (by omega), hf2⟩ ?_
     ·simp (maxSteps:=4000000)(disch:=first|assumption|(simp only[dz];first|done|assumption|omega)|omega|apply_rules[Fr.refl,Fr.alloc,Fr.drew]|rfl) only [↓gsd,gs,gv,Nat.reduceAdd,Nat.reduceEqDiff, e0]
     ·simp (maxSteps:=4000000)(disch:=first|assumption|(simp only[dz];first|done|assumption|omega)|omega|apply_rules[Fr.refl,Fr.alloc,Fr.drew]|rfl) only [↓gsd,gs,gv,Nat.reduceAdd,Nat.reduceEqDiff, e25]
     ·simp (maxSteps:=4000000)(disch:=first|assumption|(simp only[dz];first|done|assumption|omega)|omega|apply_rules[Fr.refl,Fr.alloc,Fr.drew]|rfl) only [↓gsd,gs,gv,Nat.reduceAdd,Nat.reduceEqDiff]
     ·unfold iterPos
      rw [get_setB_same _ _ _ (lt_of_get _ _ hit), hit]; simp only; omega
  ·have hge := dec_ge hc hb
   generalize Utf8.decode (B l) i = d at *
   obtain ⟨R, W⟩ := d
   simp only at hge hnx
   have hf2 : Fr [] w (w1.setB k (.stringIter (B l) (i + W))) := hf.setB _ _ (.inr hks)
   have cw2 := cur (w1.setB k (.stringIter (B l) (i + W)))
   have d1 : decide ((R : Int) < 48) = false := decide_eq_false (by omega)
   have d2 : decide ((57 : Int) < (R : Int)) = true := decide_eq_true (by omega)
   simp (maxSteps:=4000000)(disch:=first|assumption|(simp only[dz];first|done|assumption|omega)|omega|apply_rules[Fr.refl,Fr.alloc,Fr.drew]|rfl) only [↓gd,gp,Nat.reduceAdd,Nat.reduceEqDiff, ↓hk36, e0, e25, e4, hnx, d1, d2]
   have := hK _ hf2
   unfold numRes at this
   rw [hnum, num_stop hg hc (.inr (by omega))] at this
   exact this
 ·have hi : i = l.length := by omega
  have hnx := fun ty => run_nextB_end (P := Tryd.prog) hit (by rw [B_size]; exact hlt) ty
  simp (maxSteps:=4000000)(disch:=first|assumption|(simp only[dz];first|done|assumption|omega)|omega|apply_rules[Fr.refl,Fr.alloc,Fr.drew]|rfl) only [↓gd,gp,Nat.reduceAdd,Nat.reduceEqDiff, ↓hk36, e0, e25, e4, hnx]
  have := hK _ hf
  unfold numRes at this
  rw [hnum, num_end (hi ▸ hg)] at this
  exact this
set_option maxHeartbeats 4000000 in
theorem number_spec {l : Bs} {w : World} {K : Value → World → Prop} (hK : ∀ w', Fr [] w w' → K (numRes l) w') : CallsN Tryd.prog 36 [.string (B l)] w K := by
 have cw := cur w
 refine call36 ?_
 have bad : numBad l = true → ∀ w', Fr [] w w' → K (.tuple #[.int .i64 0, .bool false]) w' := fun hb w' hf => by
  have := hK w' hf
  unfold numRes numO at this; rw [if_pos hb] at this; exact this
 have dl : decide (B l = ⟨#[]⟩) = decide (l.length < 1) := by
  cases l with
  | nil => rfl
  | cons c r => simp [B_lit]
 by_cases q1 : l.length < 1
 ·have d1 : decide (l.length < 1) = true := decide_eq_true q1
  simp (maxSteps:=4000000)(disch:=first|assumption|(simp only[dz];first|done|assumption|omega)|omega|apply_rules[Fr.refl,Fr.alloc,Fr.drew]|rfl) only [↓gd,gp,Nat.reduceAdd,Nat.reduceEqDiff, ↓hk36, dl, d1]
  exact bad (by unfold numBad; rw [d1]; rfl) _ (Fr.refl _ _)
 have d1 : decide (l.length < 1) = false := decide_eq_false q1
 obtain ⟨c, r, hl⟩ : ∃ c r, l = c :: r := by
  cases l with
  | nil => simp at q1
  | cons c r => exact ⟨c, r, rfl⟩
 have h0 : l[0]? = some c := by rw [hl]; rfl
 have hh : l.head? = some c := by rw [hl]; rfl
 by_cases q2 : 9 < l.length
 ·have d2 : decide ((9 : Int) < (l.length : Int)) = true := decide_eq_true (by omega)
  simp (maxSteps:=4000000)(disch:=first|assumption|(simp only[dz];first|done|assumption|omega)|omega|apply_rules[Fr.refl,Fr.alloc,Fr.drew]|rfl) only [↓gd,gp,Nat.reduceAdd,Nat.reduceEqDiff, ↓hk36, dl, d1, B_size, d2]
  exact bad (by unfold numBad; rw [decide_eq_true q2]; simp) _ (Fr.refl _ _)
 have d2 : decide ((9 : Int) < (l.length : Int)) = false := decide_eq_false (by omega)
 have d2' : decide (9 < l.length) = false := decide_eq_false q2
 by_cases q3 : c = 48
 ·have d3 : decide ((c.toNat : Int) = 48) = true := by rw [q3]; rfl
  by_cases q4 : 1 < l.length
  ·have d4 : decide ((1 : Int) < (l.length : Int)) = true := decide_eq_true (by omega)
   simp (maxSteps:=4000000)(disch:=first|assumption|(simp only[dz];first|done|assumption|omega)|omega|apply_rules[Fr.refl,Fr.alloc,Fr.drew]|rfl) only [↓gd,gp,Nat.reduceAdd,Nat.reduceEqDiff, ↓hk36, dl, d1, B_size, d2, ix9_0 h0, d3, d4]
   exact bad (by unfold numBad; rw [hh, q3, decide_eq_true q4]; simp) _ (Fr.refl _ _)
  ·have d4 : decide ((1 : Int) < (l.length : Int)) = false := decide_eq_false (by omega)
   simp (maxSteps:=4000000)(disch:=first|assumption|(simp only[dz];first|done|assumption|omega)|omega|apply_rules[Fr.refl,Fr.alloc,Fr.drew]|rfl) only [↓gd,gp,Nat.reduceAdd,Nat.reduceEqDiff, ↓c36_4_s, ↓c36_13_s, ↓c36_16_s, ↓c36_15_s, ↓c36_14_s, ↓c36_12_s, ↓c36_11_s, ↓c36_10_s, ↓c36_17_s, ↓c36_9_s, ↓c36_8_s, ↓c36_7_s, ↓c36_6_s, ↓c36_5_s, ↓c36_3_s, ↓c36_20_s, ↓c36_19_s, ↓c36_18_s, ↓c36_1_s, ↓c36_s, ↓w3t_36, dl, d1, B_size, d2, ix9_0 h0, d3, d4]
   exact number_loop rfl (by unfold numBad; rw [d1, d2', decide_eq_false q4]; rfl) (by omega) hK
 ·have d3 : decide ((c.toNat : Int) = 48) = false := decide_eq_false (fun h => q3 (UInt8.toNat_inj.1 (by have : (48 : UInt8).toNat = 48 := rfl; omega)))
  simp (maxSteps:=4000000)(disch:=first|assumption|(simp only[dz];first|done|assumption|omega)|omega|apply_rules[Fr.refl,Fr.alloc,Fr.drew]|rfl) only [↓gd,gp,Nat.reduceAdd,Nat.reduceEqDiff, ↓c36_4_s, ↓c36_13_s, ↓c36_16_s, ↓c36_15_s, ↓c36_14_s, ↓c36_12_s, ↓c36_11_s, ↓c36_10_s, ↓c36_17_s, ↓c36_9_s, ↓c36_8_s, ↓c36_7_s, ↓c36_6_s, ↓c36_5_s, ↓c36_3_s, ↓c36_20_s, ↓c36_19_s, ↓c36_18_s, ↓c36_1_s, ↓c36_s, ↓w3t_36, dl, d1, B_size, d2, ix9_0 h0, d3]
  exact number_loop rfl (by unfold numBad; rw [d1, d2', hh]; simp [q3]) (by omega) hK
end Go.Proofs.YtbbjnplellanaaaDoor
namespace Go.Proofs.YtbbjnplellanaaaDoor
open Go.VW
/-- The package's number MaxLen is there. -/
def MaxL (w : World) : Prop := ∃ m, w.cell? ⟨cutC_ren.g 1, 0, none⟩ = some (.int .i64 m)
theorem cell_fr {w w' : World} (hf : Fr [] w w') {b i : Nat} {v : Value} (h : w.cell? ⟨b, i, none⟩ = some v) : w'.cell? ⟨b, i, none⟩ = some v := by
 simp only [World.cell?] at h ⊢
 have hb : b < w.heap.size := by
  rcases Nat.lt_or_ge b w.heap.size with h1 | h1
  ·exact h1
  ·rw [Array.getElem?_eq_none h1] at h; cases h
 rw [hf.keepN b hb]; exact h
theorem MaxL.fr {w w' : World} (h : MaxL w) (hf : Fr [] w w') : MaxL w' := by
 obtain ⟨m, hm⟩ := h
 exact ⟨m, cell_fr hf hm⟩
theorem fr_drewN (w : World) (n : Nat) : Fr [] w (w.drewN n) := (Fr.refl _ _).drewN n
theorem cut_eq (l : Bs) : Lib.cut l [61] = match eqAt l with
  | some i => (l.take i, l.drop (i + 1), true)
  | none => (l, [], false) := by
 unfold Lib.cut
 rw [eqAt_index]
 cases eqAt l with
 | none => rfl
 | some i => simp
theorem cut_spec {l : Bs} {w : World} {K : Value → World → Prop} (hm : MaxL w) (hl : l.length ≤ 4000000000)
  (hK : ∀ w', Fr [] w w' → K (match eqAt l with
   | some i => .tuple #[.string (B (l.take i)), .string (B (l.drop (i + 1))), .bool true]
   | none => .tuple #[.string (B l), .string ⟨#[]⟩, .bool false]) w') : CallsN Tryd.prog 51 [.string (B l), .string ⟨#[61]⟩] w K := by
 obtain ⟨m, hm⟩ := hm
 have hc := Any.strings_Cut cutC (B l) ⟨#[61]⟩ m w (by rw [B_size]; omega) hm
 refine CallsN.of (hc.mono fun e w' he => ?_)
 obtain ⟨rfl, n, rfl⟩ := he
 refine ⟨_, rfl, ?_⟩
 have := hK _ (fr_drewN w n)
 have e61 : (⟨#[61]⟩ : ByteArray).data.toList = [61] := rfl
 rw [B_list, e61, cut_eq]
 cases h : eqAt l with
 | none => rw [h] at this; exact this
 | some i => rw [h] at this; exact this
theorem suf_eq (l : Bs) : Lib.hasSuffix l [33] = decide (l[l.length - 1]? = some 33) := by
 unfold Lib.hasSuffix
 rcases List.eq_nil_or_concat l with rfl | ⟨r, x, rfl⟩
 ·rfl
 ·have : (r.concat x)[(r.concat x).length - 1]? = some x := by simp
  rw [this]
  simp only [List.isSuffixOf, List.concat_eq_append, List.reverse_append, List.reverse_cons, List.reverse_nil, List.nil_append, List.cons_append, List.isPrefixOf, Bool.and_true, Option.some.injEq]
  by_cases h : x = 33
  ·subst h; rfl
  ·rw [decide_eq_false h]; exact beq_eq_false_iff_ne.2 (Ne.symm h)
theorem cutSuf_spec {l : Bs} {w : World} {K : Value → World → Prop} (hl : l.length ≤ 4000000000)
  (hK : K (.tuple #[.string (B (if l[l.length - 1]? = some 33 then l.take (l.length - 1) else l)), .bool (decide (l[l.length - 1]? = some 33))]) w) : CallsN Tryd.prog 52 [.string (B l), .string ⟨#[33]⟩] w K := by
 have hc := Any.strings_CutSuffix cutSufC (B l) ⟨#[33]⟩ w (by rw [B_size]; omega)
 refine CallsN.of (hc.mono fun e w' he => ?_)
 obtain ⟨rfl, rfl⟩ := he
 refine ⟨_, rfl, ?_⟩
 have e33 : (⟨#[33]⟩ : ByteArray).data.toList = [33] := rfl
 rw [B_list, e33, suf_eq]
 unfold Lib.trimSuffix
 rw [suf_eq]
 have e : B (if l[l.length - 1]? = some 33 then l.take (l.length - 1) else l) = ⟨(if decide (l[l.length - 1]? = some 33) = true then l.take (l.length - [(33 : UInt8)].length) else l).toArray⟩ := by
  simp only [decide_eq_true_eq]; rfl
 rw [← e]; exact hK
theorem eqAt_lt : ∀ {l : Bs} {i : Nat}, eqAt l = some i → i < l.length
 | [], i, h => by cases h
 | x :: r, i, h => by
   rw [eqAt] at h
   split at h
   ·cases h; simp
   ·obtain ⟨j, hj, rfl⟩ := Option.map_eq_some_iff.1 h
    have := eqAt_lt hj; simp; omega
/-- What comes of a word that is to be a write. -/
def ResW (o : Option Wr) (y : Wr) (ok : Bool) : Prop := (o = some y ∧ ok = true) ∨ (o = none ∧ ok = false)
set_option maxHeartbeats 4000000 in
theorem write_spec {l : Bs} {w : World} {K : Value → World → Prop} (hm : MaxL w) (hl : l.length ≤ 4000000000)
  (hK : ∀ y ok w', Fr [] w w' → ResW (writeO l) y ok → K (.tuple #[.agg (encWr y).toArray, .bool ok]) w') : CallsN Tryd.prog 37 [.string (B l)] w K := by
 have cw := cur w
 refine call37 ?_
 simp (maxSteps:=4000000)(disch:=first|assumption|(simp only[dz];first|done|assumption|omega)|omega|apply_rules[Fr.refl,Fr.alloc,Fr.drew]|rfl) only [↓gd,gp,Nat.reduceAdd,Nat.reduceEqDiff, ↓hk37]
 refine cut_spec (hm.fr ((Fr.refl _ _).alloc _)) hl fun w2 hf2 => ?_
 have cw2 := cur w2
 have hf2' : Fr [] w w2 := ((Fr.refl _ _).alloc _).trans' hf2
 have hb : w.heap.size < w2.heap.size := by have := hf2.size; rw [size_alloc] at this; omega
 have g2 : w2.heap[w.heap.size]? = some (.cells ([.string ⟨#[]⟩, .bool false, .string ⟨#[]⟩] : List Value).toArray 60 (0, 0)) := by
  rw [hf2.keepN _ (by rw [size_alloc]; omega)]; exact get_alloc_new _ _
 unfold writeO at hK
 cases h : eqAt l with
 | some i =>
   rw [h] at hK
   simp only at hK
   have dn : decide (B (l.take i) = ⟨#[]⟩) = !decide (0 < i) := by
    have hi : i < l.length := eqAt_lt h
    simp only [B_lit]
    cases i with
    | zero => simp
    | succ i => cases l with
      | nil => simp at hi
      | cons x r => simp
   simp (maxSteps:=4000000)(disch:=first|assumption|(simp only[dz];first|done|assumption|omega)|omega|apply_rules[Fr.refl,Fr.alloc,Fr.drew]|rfl) only [↓gd,gp,Nat.reduceAdd,Nat.reduceEqDiff, ↓hk37, h, g2, dn]
   refine hK ⟨l.take i, true, l.drop (i + 1)⟩ _ _ (hf2'.setB _ _ (.inr (Nat.le_refl _))) ?_
   by_cases q : 0 < i
   ·rw [if_pos q, decide_eq_true q]; exact .inl ⟨rfl, rfl⟩
   ·rw [if_neg q, decide_eq_false q]; exact .inr ⟨rfl, rfl⟩
 | none =>
   rw [h] at hK
   simp only at hK
   simp (maxSteps:=4000000)(disch:=first|assumption|(simp only[dz];first|done|assumption|omega)|omega|apply_rules[Fr.refl,Fr.alloc,Fr.drew]|rfl) only [↓gd,gp,Nat.reduceAdd,Nat.reduceEqDiff, ↓hk37, h, g2]
   refine cutSuf_spec hl ?_
   by_cases q : l[l.length - 1]? = some 33
   ·have hl0 : 0 < l.length := by
     cases l with
     | nil => simp at q
     | cons x r => simp
    have dn : decide (B (l.take (l.length - 1)) = ⟨#[]⟩) = !decide (2 ≤ l.length) := by
     simp only [B_lit]
     cases l with
     | nil => simp at hl0
     | cons x r => cases r with
       | nil => simp
       | cons y r => simp
    simp (maxSteps:=4000000)(disch:=first|assumption|(simp only[dz];first|done|assumption|omega)|omega|apply_rules[Fr.refl,Fr.alloc,Fr.drew]|rfl) only [↓gd,gp,Nat.reduceAdd,Nat.reduceEqDiff, ↓hk37, q, g2, dn]
    refine hK ⟨l.take (l.length - 1), false, []⟩ _ _ (hf2'.setB _ _ (.inr (Nat.le_refl _))) ?_
    by_cases q2 : 2 ≤ l.length
    ·rw [if_pos ⟨q2, q⟩, decide_eq_true q2]; exact .inl ⟨rfl, rfl⟩
    ·rw [if_neg (fun h => q2 h.1), decide_eq_false q2]; exact .inr ⟨rfl, rfl⟩
   ·have qd := decide_eq_false q
    simp (maxSteps:=4000000)(disch:=first|assumption|(simp only[dz];first|done|assumption|omega)|omega|apply_rules[Fr.refl,Fr.alloc,Fr.drew]|rfl) only [↓gd,gp,Nat.reduceAdd,Nat.reduceEqDiff, ↓hk37, q, qd, g2]
    refine hK ⟨l, false, []⟩ _ _ (hf2'.setB _ _ (.inr (Nat.le_refl _))) ?_
    rw [if_neg (fun h => q h.2)]; exact .inr ⟨rfl, rfl⟩
theorem split_spec {l : Bs} {w : World} {K : Value → World → Prop} (hm : MaxL w) (hl : l.length ≤ 4000000000)
  (hK : ∀ v w', SlOf 1 encB w' v (splitL 10 l) → Fr [] w w' → K v w') : CallsN Tryd.prog 16 [.string (B l), .string ⟨#[10]⟩] w K := by
 obtain ⟨m, hm⟩ := hm
 have hc := Any.strings_Split splitC (by kernel_rfl) (B l) ⟨#[10]⟩ m w (by rw [B_size]; omega) hm (by decide)
 refine CallsN.of (hc.mono fun e w' he => ?_)
 obtain ⟨rfl, rfl⟩ := he
 refine ⟨_, rfl, ?_⟩
 have hlen := Lib.splitB_all ⟨#[10]⟩ (by decide) 0 _ (B l) rfl
 rw [splitB_eq, List.length_map] at hlen
 rw [splitB_eq, ← hlen, List.map_map]
 refine hK _ _ ⟨?_, .inr ⟨_, 0, _, _, _, _, rfl, get_alloc_new _ _, ?_⟩⟩ ((Fr.refl _ _).alloc _)
 ·exact cellsOf_length encB_len _
 ·rw [cellsOf_encB]
  simp only [List.drop_zero, List.toList_toArray, Nat.mul_one]
  exact List.take_of_length_le (by simp)
end Go.Proofs.YtbbjnplellanaaaDoor
