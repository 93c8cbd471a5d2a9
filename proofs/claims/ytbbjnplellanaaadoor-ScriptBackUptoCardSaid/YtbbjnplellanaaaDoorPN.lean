/- Is a string a plain word? strings.ContainsAny at every string. The line of a step: the program's writes. The line of a step, as the program makes it. -/
import Derived.Test.YtbbjnplellanaaaDoorUC
import Derived.Test.YtbbjnplellanaaaDoorSA
import Derived.Laws.Runes
import Derived.Lib.QuoteLoop
import Derived.Test.YtbbjnplellanaaaDoorSF
import Derived.Lib.ItoaLen
import Derived.Lib.AppendIntMem
set_option linter.unusedVariables false
set_option linter.unusedSimpArgs false
set_option maxRecDepth 1000000
namespace Go.Proofs.YtbbjnplellanaaaDoor
open Go.VW
def iterAt (w : World) (k : Nat) : Nat := match w.heap[k]? with
 | some (.stringIter _ p) => p
 | _ => 0
def blB (b : UInt8) : Bool := decide (b = 32) || decide (b = 10)
def blanks : ByteArray := ⟨#[32, 10]⟩
theorem B_get (l : Bs) (i : Nat) (h1 : i < (B l).size) (hi : i < l.length) : (B l)[i]'h1 = l[i]'hi := by simp [B, ByteArray.getElem_eq_getElem_data]
theorem valid_spec {r : Nat} {w : World} {K : Value → World → Prop} (hr : r < 55296 ∨ (57343 < r ∧ r ≤ 1114111)) (hK : K (.bool true) w) : CallsN Tryd.prog 86 [.int .i32 r] w K := by
 have cw := cur w
 refine call86 ?_
 have d0 : decide ((0 : Int) ≤ (r : Int)) = true := decide_eq_true (by omega)
 by_cases q : r < 55296
 ·have d1 : decide ((r : Int) < 55296) = true := decide_eq_true (by omega)
  simp (maxSteps:=4000000)(disch:=first|assumption|(simp only[dz];first|done|assumption|omega)|omega|apply_rules[Fr.refl,Fr.alloc,Fr.drew]|rfl) only [↓gd,gp,Nat.reduceAdd,Nat.reduceEqDiff, ↓hk86, d0, d1]
  exact hK
 ·have d1 : decide ((r : Int) < 55296) = false := decide_eq_false (by omega)
  have d2 : decide ((57343 : Int) < (r : Int)) = true := decide_eq_true (by omega)
  have d3 : decide ((r : Int) ≤ 1114111) = true := decide_eq_true (by omega)
  simp (maxSteps:=4000000)(disch:=first|assumption|(simp only[dz];first|done|assumption|omega)|omega|apply_rules[Fr.refl,Fr.alloc,Fr.drew]|rfl) only [↓gd,gp,Nat.reduceAdd,Nat.reduceEqDiff, ↓hk86, d0, d1, d2, d3]
  exact hK
theorem cv21_9 (n : Int) (w : World) : (convert 21 9 (.int .i32 n)).run Tryd.prog w = .ok (.string (Utf8.encode n)) w := run_convert_int_string w 21 9 .i32 n (by kernel_rfl) Tryd.underlying9
set_option maxHeartbeats 8000000 in
/-- No rune beyond ASCII is a blank or a line end. -/
theorem rune_far {r : Nat} {w : World} {K : Value → World → Prop} (h128 : 128 ≤ r) (hr : r < 55296 ∨ (57343 < r ∧ r ≤ 1114111)) (hK : ∀ w', Fr [] w w' → K (.int .i64 (-1)) w') : CallsN Tryd.prog 74 [.string blanks, .int .i32 r] w K := by
 have cw := cur w
 refine call74 ?_
 have d0 : decide ((0 : Int) ≤ (r : Int)) = true := decide_eq_true (by omega)
 have d1 : decide ((r : Int) < 128) = false := decide_eq_false (by omega)
 have hbl : blanks = B [32, 10] := rfl
 by_cases q : r = 65533
 ·have d2 : decide ((r : Int) = 65533) = true := decide_eq_true (by omega)
  simp (maxSteps:=4000000)(disch:=first|assumption|(simp only[dz];first|done|assumption|omega)|omega|apply_rules[Fr.refl,Fr.alloc,Fr.drew]|rfl) only [↓gd,gp,Nat.reduceAdd,Nat.reduceEqDiff, ↓hk74, d0, d1, d2, rg9]
  obtain ⟨k, hk⟩ : ∃ k, k = w.heap.size := ⟨_, rfl⟩
  rw [← hk]
  refine loop_intro (fun e w' => ∃ i : Nat, e 175 = .pointer (some ⟨k, 0, none⟩) ∧ w'.heap[k]? = some (.stringIter blanks i) ∧ i ≤ 2 ∧ Fr [] w w') (fun e w' => 2 - iterAt w' k) ?_ ?_
  ·refine ⟨0, ?_, ?_, by omega, (Fr.refl _ _).alloc _⟩
   ·simp (maxSteps:=4000000)(disch:=first|assumption|(simp only[dz];first|done|assumption|omega)|omega|apply_rules[Fr.refl,Fr.alloc,Fr.drew]|rfl) only [↓gsd,gs,gv,Nat.reduceAdd,Nat.reduceEqDiff]
   ·rw [hk]; exact get_alloc_new _ _
  rintro e w1 kk ⟨i, e175, hit, hi, hf⟩ hkk
  have cw1 := cur w1
  by_cases hlt : i < 2
  ·obtain ⟨c, hc, hc1⟩ : ∃ c, ([32, 10] : List UInt8)[i]? = some c ∧ c.toNat < 128 := by
    have : i = 0 ∨ i = 1 := by omega
    rcases this with rfl | rfl
    ·exact ⟨32, rfl, by decide⟩
    ·exact ⟨10, rfl, by decide⟩
   have hnx := fun ty => run_nextB (P := Tryd.prog) hit (by rw [hbl, B_size]; exact hlt) ty
   rw [hbl, dec_lt hc hc1] at hnx
   simp only at hnx
   have d3 : decide ((c.toNat : Int) = 65533) = false := decide_eq_false (by omega)
   have cw2 := cur (w1.setB k (.stringIter (B [32, 10]) (i + 1)))
   simp (maxSteps:=4000000)(disch:=first|assumption|(simp only[dz];first|done|assumption|omega)|omega|apply_rules[Fr.refl,Fr.alloc,Fr.drew]|rfl) only [↓gd,gp,Nat.reduceAdd,Nat.reduceEqDiff, ↓hk74, e175, hnx, d3]
   refine hkk _ _ ⟨i + 1, ?_, get_setB_same _ _ _ (lt_of_get _ _ hit), hlt, hf.setB _ _ (.inr (by omega))⟩ ?_
   ·simp (maxSteps:=4000000)(disch:=first|assumption|(simp only[dz];first|done|assumption|omega)|omega|apply_rules[Fr.refl,Fr.alloc,Fr.drew]|rfl) only [↓gsd,gs,gv,Nat.reduceAdd,Nat.reduceEqDiff, e175]
   ·unfold iterAt
    rw [get_setB_same _ _ _ (lt_of_get _ _ hit), hit]; simp only; omega
  ·have hnx := fun ty => run_nextB_end (P := Tryd.prog) hit (by rw [hbl, B_size]; exact hlt) ty
   simp (maxSteps:=4000000)(disch:=first|assumption|(simp only[dz];first|done|assumption|omega)|omega|apply_rules[Fr.refl,Fr.alloc,Fr.drew]|rfl) only [↓gd,gp,Nat.reduceAdd,Nat.reduceEqDiff, ↓hk74, e175, hnx]
   exact hK _ hf
 ·have d2 : decide ((r : Int) = 65533) = false := decide_eq_false (by omega)
  simp (maxSteps:=4000000)(disch:=first|assumption|(simp only[dz];first|done|assumption|omega)|omega|apply_rules[Fr.refl,Fr.alloc,Fr.drew]|rfl) only [↓gd,gp,Nat.reduceAdd,Nat.reduceEqDiff, ↓hk74, d0, d1, d2]
  refine valid_spec hr ?_
  have hv : Utf8.valid (r : Int) = true := by
   unfold Utf8.valid
   simp only [Bool.or_eq_true, Bool.and_eq_true, decide_eq_true_eq]; omega
  obtain ⟨z1, z2, z3⟩ := encode_facts (r : Int) hv (by omega)
  obtain ⟨l, hl⟩ := B_of (Utf8.encode (r : Int))
  rw [hl, B_size] at z1 z2
  have wr : IntKind.i64.wrap ((l.length : Int) - 1) = (l.length : Int) - 1 := wrap64 (by omega) (by omega)
  have hn : (l.length : Int) - 1 = ((l.length - 1 : Nat) : Int) := by omega
  simp (maxSteps:=4000000)(disch:=first|assumption|(simp only[dz];first|done|assumption|omega)|omega|apply_rules[Fr.refl,Fr.alloc,Fr.drew]|rfl) only [↓gd,gp,Nat.reduceAdd,Nat.reduceEqDiff, ↓hk74, cv21_9, hl, B_size, wr, hn]
  obtain ⟨c, hc⟩ : ∃ c, l[l.length - 1]? = some c := ⟨l[l.length - 1]'(by omega), List.getElem?_eq_getElem (by omega)⟩
  have hc128 : 128 ≤ c.toNat := by
   rw [hl] at z3
   have h := z3 (by rw [B_size]; omega)
   have hlt : (B l).size - 1 < l.length := by rw [B_size]; omega
   have hc2 : l[(B l).size - 1]? = some c := by rw [B_size]; exact hc
   have e1 : (B l)[(B l).size - 1]'(by rw [B_size]; omega) = c := by rw [B_get l _ _ hlt]; exact (List.getElem?_eq_some_iff.1 hc2).2
   rw [e1] at h; exact h
  refine for_intro (l.length - 1) 9 (l.length - 1) (fun i e w' => e 0 = .string (B [32, 10]) ∧ e 7 = .string (B l) ∧ e 8 = .int .i64 ((l.length - 1 : Nat) : Int) ∧ i = l.length - 1 ∧ w' = w) ?_ (Nat.le_refl _) ?_ ?_
  ·simp (maxSteps:=4000000)(disch:=first|assumption|(simp only[dz];first|done|assumption|omega)|omega|apply_rules[Fr.refl,Fr.alloc,Fr.drew]|rfl) only [↓gsd,gs,gv,Nat.reduceAdd,Nat.reduceEqDiff]
  ·refine ⟨?_, ?_, ?_, rfl, rfl⟩
   ·simp (maxSteps:=4000000)(disch:=first|assumption|(simp only[dz];first|done|assumption|omega)|omega|apply_rules[Fr.refl,Fr.alloc,Fr.drew]|rfl) only [↓gsd,gs,gv,Nat.reduceAdd,Nat.reduceEqDiff]; rfl
   ·simp (maxSteps:=4000000)(disch:=first|assumption|(simp only[dz];first|done|assumption|omega)|omega|apply_rules[Fr.refl,Fr.alloc,Fr.drew]|rfl) only [↓gsd,gs,gv,Nat.reduceAdd,Nat.reduceEqDiff]
   ·simp (maxSteps:=4000000)(disch:=first|assumption|(simp only[dz];first|done|assumption|omega)|omega|apply_rules[Fr.refl,Fr.alloc,Fr.drew]|rfl) only [↓gsd,gs,gv,Nat.reduceAdd,Nat.reduceEqDiff]
  rintro i e w1 kk hi e9 ⟨e0, e7, e8, hil, rfl⟩ hkk
  have cw1 := cur w1
  have l2 : ([32, 10] : Bs).length = 2 := rfl
  by_cases h2 : l.length = 2
  ·have hi1 : l.length - 1 = 1 := by omega
   rw [hi1] at hil e8 hc
   subst hil
   have d3 : decide (((1 : Nat) : Int) < ((2 : Nat) : Int)) = true := rfl
   have hix1 : ([32, 10] : Bs)[1]? = some 10 := rfl
   have t1 := fun M w0 k K => @tix9 M w0 [32, 10] 1 10 hix1 k K
   have t2 := fun M w0 k K => @tix9 M w0 l 1 c hc k K
   have d4 : decide (((10 : UInt8).toNat : Int) = (c.toNat : Int)) = false := decide_eq_false (by have : (10 : UInt8).toNat = 10 := rfl; omega)
   have wr2 : IntKind.i64.wrap (((1 : Nat) : Int) + 1) = ((2 : Nat) : Int) := by rw [wrap64 (by decide) (by decide)]; rfl
   have t3 := fun M w0 k K => @tsl9l M w0 [32, 10] 2 (by decide) k K
   have hdr : ([32, 10] : Bs).drop 2 = [] := rfl
   simp (maxSteps:=4000000)(disch:=first|assumption|(simp only[dz];first|done|assumption|omega)|omega|apply_rules[Fr.refl,Fr.alloc,Fr.drew]|rfl) only [↓gd,gp,Nat.reduceAdd,Nat.reduceEqDiff, ↓hk74, e0, e7, e8, e9, B_size, l2, d3, t1, t2, t3, d4, wr2, hdr]
   have hcb := Any.strings_IndexByte indexByteC (B []) (c.toNat : Int) w1.drew.drew
   refine CallsN.of (hcb.mono fun e' w' he => ?_)
   obtain ⟨rfl, rfl⟩ := he
   refine ⟨_, rfl, ?_⟩
   have cw2 := cur w1.drew.drew
   have e1 : Lib.indexByte (B []).data.toList (c.toNat : Int).toNat.toUInt8 = -1 := rfl
   rw [e1]
   have d5 : decide ((-1 : Int) < 0) = true := rfl
   simp (maxSteps:=4000000)(disch:=first|assumption|(simp only[dz];first|done|assumption|omega)|omega|apply_rules[Fr.refl,Fr.alloc,Fr.drew]|rfl) only [↓gd,gp,Nat.reduceAdd,Nat.reduceEqDiff, ↓hk74, d5]
   exact hK _ (Fr.refl _ _).drew.drew
  ·have d3 : decide ((i : Int) < ((2 : Nat) : Int)) = false := decide_eq_false (by omega)
   simp (maxSteps:=4000000)(disch:=first|assumption|(simp only[dz];first|done|assumption|omega)|omega|apply_rules[Fr.refl,Fr.alloc,Fr.drew]|rfl) only [↓gd,gp,Nat.reduceAdd,Nat.reduceEqDiff, ↓hk74, e0, e9, B_size, l2, d3]
   exact hK _ (Fr.refl _ _)
theorem rune_near {c : UInt8} {w : World} {K : Value → World → Prop} (hc : c.toNat < 128) (hK : ∀ r : Int, decide (0 ≤ r) = blB c → K (.int .i64 r) w) : CallsN Tryd.prog 74 [.string blanks, .int .i32 c.toNat] w K := by
 have hcb := Any.strings_IndexRune_ascii indexRuneC blanks (c.toNat : Int) w (by omega) (by omega)
 refine CallsN.of (hcb.mono fun e' w' he => ?_)
 obtain ⟨rfl, rfl⟩ := he
 refine ⟨_, rfl, hK _ ?_⟩
 have e : (c.toNat : Int).toNat.toUInt8 = c := by simp
 rw [e]
 show decide (0 ≤ Lib.indexByte [32, 10] c) = blB c
 unfold blB
 by_cases h1 : c = 32
 ·subst h1; rfl
 ·by_cases h2 : c = 10
  ·subst h2; rfl
  ·have b1 : ((32 : UInt8) == c) = false := beq_eq_false_iff_ne.2 (Ne.symm h1)
   have b2 : ((10 : UInt8) == c) = false := beq_eq_false_iff_ne.2 (Ne.symm h2)
   simp [Lib.indexByte, b1, b2, h1, h2]
theorem any_idx : ∀ l : Bs, decide (0 ≤ Lib.indexAny l [32, 10]) = l.any blB
 | [] => rfl
 | x :: r => by
   have ih := any_idx r
   have hge := Lib.indexAny_ge [32, 10] r
   have hx : ([32, 10] : Bs).contains x = blB x := by
    unfold blB
    simp only [List.contains_cons, List.contains_nil, Bool.or_false]
    by_cases h1 : x = 32
    ·subst h1; rfl
    ·by_cases h2 : x = 10
     ·subst h2; rfl
     ·have b1 : (x == 32) = false := beq_eq_false_iff_ne.2 h1
      have b2 : (x == 10) = false := beq_eq_false_iff_ne.2 h2
      simp [b1, b2, h1, h2]
   rw [Lib.indexAny, hx, List.any_cons]
   cases blB x with
   | true => rfl
   | false =>
     simp only [Bool.false_eq_true, if_false, Bool.false_or]
     rw [← ih]
     by_cases hm : Lib.indexAny r [32, 10] = -1
     ·rw [hm]; rfl
     ·have hb : (Lib.indexAny r [32, 10] == -1) = false := beq_eq_false_iff_ne.2 hm
      rw [hb]
      simp only [Bool.false_eq_true, if_false]
      rw [decide_eq_true (by omega), decide_eq_true (by omega)]
theorem far_skip {l : Bs} {pos : Nat} {x : UInt8} (hx : l[pos]? = some x) (hb : ¬ x.toNat < 128) : (l.drop pos).any blB = (l.drop (pos + (Utf8.decode (B l) pos).2)).any blB ∧ pos + (Utf8.decode (B l) pos).2 ≤ l.length ∧ 1 ≤ (Utf8.decode (B l) pos).2 := by
 have hpl := (List.getElem?_eq_some_iff.1 hx).1
 have hN := Lib.decode_N (B l) pos
 rw [B_list] at hN
 obtain ⟨c2, c3, c4, c5⟩ := Lib.decodeN_conts (l.length - pos) (l.getD pos 0).toNat (l.getD (pos + 1) 0).toNat (l.getD (pos + 2) 0).toNat (l.getD (pos + 3) 0).toNat
 have hle := Lib.decodeN_le_n' (l.length - pos) (l.getD pos 0).toNat (l.getD (pos + 1) 0).toNat (l.getD (pos + 2) 0).toNat (l.getD (pos + 3) 0).toNat (by omega)
 have hpos := Lib.width_pos (B l) pos
 rw [← hN] at c2 c3 c4 c5 hle
 refine ⟨?_, by omega, hpos⟩
 generalize (Utf8.decode (B l) pos).2 = k at *
 have hd : l.drop pos = (l.drop pos).take k ++ l.drop (pos + k) := by rw [← List.drop_drop, List.take_append_drop]
 conv => lhs; rw [hd]
 rw [List.any_append]
 have : ((l.drop pos).take k).any blB = false := by
  rw [List.any_eq_false]
  intro y hy hbl
  obtain ⟨j, hj⟩ := List.mem_iff_getElem?.1 hy
  rw [List.getElem?_take] at hj
  split at hj
  ·rename_i hjk
   rw [List.getElem?_drop] at hj
   have hg : l.getD (pos + j) 0 = y := by simp [List.getD_eq_getElem?_getD, hj]
   have hy64 : y.toNat / 64 ≠ 2 ∧ y.toNat < 128 := by
    unfold blB at hbl
    simp only [Bool.or_eq_true, decide_eq_true_eq] at hbl
    rcases hbl with rfl | rfl <;> decide
   have : j = 0 ∨ j = 1 ∨ j = 2 ∨ j = 3 := by omega
   rcases this with rfl | rfl | rfl | rfl
   ·rw [Nat.add_zero, hx] at hj; simp at hj; subst hj; exact hb hy64.2
   ·have := (c2 (by omega)).1; rw [hg] at this; exact hy64.1 this
   ·have := (c3 (by omega)).1; rw [hg] at this; exact hy64.1 this
   ·have := (c4 (by omega)).1; rw [hg] at this; exact hy64.1 this
  ·cases hj
 rw [this, Bool.false_or]
theorem any_at {l : Bs} {i : Nat} {x : UInt8} (hx : l[i]? = some x) : (l.drop i).any blB = (blB x || (l.drop (i + 1)).any blB) := by
 rw [drop_at hx, List.any_cons]
theorem useSet_spec {n : Nat} {w : World} {K : Value → World → Prop} (hK : K (.bool (decide ((8 : Int) < (n : Int)))) w) : CallsN Tryd.prog 75 [.int .i64 n] w K := by
 have cw := cur w
 refine call75 ?_
 simp (maxSteps:=4000000)(disch:=first|assumption|(simp only[dz];first|done|assumption|omega)|omega|apply_rules[Fr.refl,Fr.alloc,Fr.drew]|rfl) only [↓gd,gp,Nat.reduceAdd,Nat.reduceEqDiff, ↓hk75]
 exact hK
set_option maxHeartbeats 8000000 in
theorem indexAny_spec {l : Bs} {w : World} {K : Value → World → Prop} (hl : l.length ≤ 4000000000) (hK : ∀ (r : Int) w', Fr [] w w' → decide (0 ≤ r) = l.any blB → K (.int .i64 r) w') : CallsN Tryd.prog 63 [.string (B l), .string blanks] w K := by
 by_cases h8 : 8 < l.length
 ·have hc := Any.strings_IndexAny_long indexAnyC (fun w => by exact Tryd.zeroValue112 w) (by kernel_rfl) (B l) blanks w (by decide) (by rw [B_size]; exact h8) (by rw [B_size]; omega) (by decide) (by
   intro j b hj
   have : (blanks).data.toList = [32, 10] := rfl
   rw [this] at hj
   have hm := List.mem_of_getElem? hj
   simp at hm
   rcases hm with rfl | rfl <;> decide)
  refine CallsN.of (hc.mono fun e w' he => ?_)
  obtain ⟨rfl, rfl⟩ := he
  refine ⟨_, rfl, hK _ _ (((Fr.refl _ _).alloc _).alloc _) ?_⟩
  rw [B_list]
  exact any_idx l
 have cw := cur w
 have d8 : decide ((8 : Int) < (l.length : Int)) = false := decide_eq_false (by omega)
 refine call63 ?_
 have hbl : blanks.size = 2 := rfl
 have e0 : decide (blanks = ⟨#[]⟩) = false := decide_eq_false (fun h => by have := congrArg ByteArray.size h; rw [hbl] at this; cases this)
 have e1 : decide (((2 : Nat) : Int) = 1) = false := rfl
 simp (maxSteps:=4000000)(disch:=first|assumption|(simp only[dz];first|done|assumption|omega)|omega|apply_rules[Fr.refl,Fr.alloc,Fr.drew]|rfl) only [↓gd,gp,Nat.reduceAdd,Nat.reduceEqDiff, ↓hk63, e0, hbl, e1, B_size]
 refine useSet_spec ?_
 simp (maxSteps:=4000000)(disch:=first|assumption|(simp only[dz];first|done|assumption|omega)|omega|apply_rules[Fr.refl,Fr.alloc,Fr.drew]|rfl) only [↓gd,gp,Nat.reduceAdd,Nat.reduceEqDiff, ↓hk63, d8, rg9]
 obtain ⟨k, hk⟩ : ∃ k, k = w.heap.size := ⟨_, rfl⟩
 rw [← hk]
 refine loop_intro (fun e w' => ∃ i : Nat, e 1 = .string blanks ∧ e 45 = .pointer (some ⟨k, 0, none⟩) ∧ w'.heap[k]? = some (.stringIter (B l) i) ∧ i ≤ l.length ∧ l.any blB = (l.drop i).any blB ∧ Fr [] w w') (fun e w' => l.length - iterAt w' k) ?_ ?_
 ·refine ⟨0, ?_, ?_, ?_, Nat.zero_le _, rfl, (Fr.refl _ _).alloc _⟩
  ·simp (maxSteps:=4000000)(disch:=first|assumption|(simp only[dz];first|done|assumption|omega)|omega|apply_rules[Fr.refl,Fr.alloc,Fr.drew]|rfl) only [↓gsd,gs,gv,Nat.reduceAdd,Nat.reduceEqDiff]
  ·simp (maxSteps:=4000000)(disch:=first|assumption|(simp only[dz];first|done|assumption|omega)|omega|apply_rules[Fr.refl,Fr.alloc,Fr.drew]|rfl) only [↓gsd,gs,gv,Nat.reduceAdd,Nat.reduceEqDiff]
  ·rw [hk]; exact get_alloc_new _ _
 rintro e w1 kk ⟨i, e1', e45, hit, hi, hany, hf⟩ hkk
 have cw1 := cur w1
 have hkl := lt_of_get _ _ hit
 by_cases hlt : i < l.length
 ·obtain ⟨c, hc⟩ : ∃ c, l[i]? = some c := ⟨l[i], List.getElem?_eq_getElem hlt⟩
  have hnx := fun ty => run_nextB (P := Tryd.prog) hit (by rw [B_size]; exact hlt) ty
  by_cases hb : c.toNat < 128
  ·rw [dec_lt hc hb] at hnx
   simp only at hnx
   have cw2 := cur (w1.setB k (.stringIter (B l) (i + 1)))
   simp (maxSteps:=4000000)(disch:=first|assumption|(simp only[dz];first|done|assumption|omega)|omega|apply_rules[Fr.refl,Fr.alloc,Fr.drew]|rfl) only [↓gd,gp,Nat.reduceAdd,Nat.reduceEqDiff, ↓hk63, e1', e45, hnx]
   refine rune_near hb fun r hr => ?_
   rw [any_at hc] at hany
   cases hq : blB c with
   | true =>
     rw [hq] at hr hany
     simp (maxSteps:=4000000)(disch:=first|assumption|(simp only[dz];first|done|assumption|omega)|omega|apply_rules[Fr.refl,Fr.alloc,Fr.drew]|rfl) only [↓gd,gp,Nat.reduceAdd,Nat.reduceEqDiff, ↓hk63, hr]
     refine hK _ _ (hf.setB _ _ (.inr (by omega))) ?_
     rw [hany, decide_eq_true (by omega)]; rfl
   | false =>
     rw [hq] at hr hany
     simp (maxSteps:=4000000)(disch:=first|assumption|(simp only[dz];first|done|assumption|omega)|omega|apply_rules[Fr.refl,Fr.alloc,Fr.drew]|rfl) only [↓gd,gp,Nat.reduceAdd,Nat.reduceEqDiff, ↓hk63, hr]
     refine hkk _ _ ⟨i + 1, ?_, ?_, get_setB_same _ _ _ hkl, hlt, hany, hf.setB _ _ (.inr (by omega))⟩ ?_
     ·simp (maxSteps:=4000000)(disch:=first|assumption|(simp only[dz];first|done|assumption|omega)|omega|apply_rules[Fr.refl,Fr.alloc,Fr.drew]|rfl) only [↓gsd,gs,gv,Nat.reduceAdd,Nat.reduceEqDiff, e1']
     ·simp (maxSteps:=4000000)(disch:=first|assumption|(simp only[dz];first|done|assumption|omega)|omega|apply_rules[Fr.refl,Fr.alloc,Fr.drew]|rfl) only [↓gsd,gs,gv,Nat.reduceAdd,Nat.reduceEqDiff, e45]
     ·unfold iterAt
      rw [get_setB_same _ _ _ hkl, hit]; simp only; omega
  ·have hge := dec_ge hc hb
   have hN := Lib.decode_N (B l) i
   have hval := Lib.decodeN_valid ((B l).data.toList.length - i) ((B l).data.toList.getD i 0).toNat ((B l).data.toList.getD (i + 1) 0).toNat ((B l).data.toList.getD (i + 2) 0).toNat ((B l).data.toList.getD (i + 3) 0).toNat (UInt8.toNat_lt _)
   rw [← hN] at hval
   have hcn : blB c = false := by
    unfold blB
    have h1 : c ≠ 32 := fun e => by subst e; exact hb (by decide)
    have h2 : c ≠ 10 := fun e => by subst e; exact hb (by decide)
    simp [h1, h2]
   have hsk : (l.drop i).any blB = (l.drop (i + (Utf8.decode (B l) i).2)).any blB ∧ i + (Utf8.decode (B l) i).2 ≤ l.length ∧ 1 ≤ (Utf8.decode (B l) i).2 := far_skip hc hb
   obtain ⟨hs1, hs2, hs3⟩ := hsk
   generalize Utf8.decode (B l) i = dd at *
   obtain ⟨R, W⟩ := dd
   simp only at hge hnx hval hs1 hs2 hs3
   have cw2 := cur (w1.setB k (.stringIter (B l) (i + W)))
   simp (maxSteps:=4000000)(disch:=first|assumption|(simp only[dz];first|done|assumption|omega)|omega|apply_rules[Fr.refl,Fr.alloc,Fr.drew]|rfl) only [↓gd,gp,Nat.reduceAdd,Nat.reduceEqDiff, ↓hk63, e1', e45, hnx]
   refine rune_far hge hval fun w3 hf3 => ?_
   have cw3 := cur w3
   have d0 : decide ((0 : Int) ≤ -1) = false := rfl
   simp (maxSteps:=4000000)(disch:=first|assumption|(simp only[dz];first|done|assumption|omega)|omega|apply_rules[Fr.refl,Fr.alloc,Fr.drew]|rfl) only [↓gd,gp,Nat.reduceAdd,Nat.reduceEqDiff, ↓hk63, d0]
   have hit3 : w3.heap[k]? = some (.stringIter (B l) (i + W)) := hf3.getN (get_setB_same _ _ _ hkl)
   refine hkk _ _ ⟨i + W, ?_, ?_, hit3, hs2, hany.trans hs1, (hf.setB _ _ (.inr (by omega))).trans' hf3⟩ ?_
   ·simp (maxSteps:=4000000)(disch:=first|assumption|(simp only[dz];first|done|assumption|omega)|omega|apply_rules[Fr.refl,Fr.alloc,Fr.drew]|rfl) only [↓gsd,gs,gv,Nat.reduceAdd,Nat.reduceEqDiff, e1']
   ·simp (maxSteps:=4000000)(disch:=first|assumption|(simp only[dz];first|done|assumption|omega)|omega|apply_rules[Fr.refl,Fr.alloc,Fr.drew]|rfl) only [↓gsd,gs,gv,Nat.reduceAdd,Nat.reduceEqDiff, e45]
   ·unfold iterAt
    rw [hit3, hit]; simp only; omega
 ·have hi' : i = l.length := by omega
  have hnx := fun ty => run_nextB_end (P := Tryd.prog) hit (by rw [B_size]; exact hlt) ty
  simp (maxSteps:=4000000)(disch:=first|assumption|(simp only[dz];first|done|assumption|omega)|omega|apply_rules[Fr.refl,Fr.alloc,Fr.drew]|rfl) only [↓gd,gp,Nat.reduceAdd,Nat.reduceEqDiff, ↓hk63, e1', e45, hnx]
  refine hK _ _ hf ?_
  rw [hany, hi', List.drop_length]; rfl
def plainB (l : Bs) : Bool := !l.any blB
theorem plain_spec {l : Bs} {w : World} {K : Value → World → Prop} (hl : l.length ≤ 4000000000) (hK : ∀ w', Fr [] w w' → K (.bool (plainB l)) w') : CallsN Tryd.prog 42 [.string (B l)] w K := by
 have cw := cur w
 refine call42 ?_
 simp (maxSteps:=4000000)(disch:=first|assumption|(simp only[dz];first|done|assumption|omega)|omega|apply_rules[Fr.refl,Fr.alloc,Fr.drew]|rfl) only [↓gd,gp,Nat.reduceAdd,Nat.reduceEqDiff, ↓hk42]
 refine call54 ?_
 simp (maxSteps:=4000000)(disch:=first|assumption|(simp only[dz];first|done|assumption|omega)|omega|apply_rules[Fr.refl,Fr.alloc,Fr.drew]|rfl) only [↓gd,gp,Nat.reduceAdd,Nat.reduceEqDiff, ↓hk54]
 refine indexAny_spec hl fun r w2 hf2 hr => ?_
 have cw2 := cur w2
 simp (maxSteps:=4000000)(disch:=first|assumption|(simp only[dz];first|done|assumption|omega)|omega|apply_rules[Fr.refl,Fr.alloc,Fr.drew]|rfl) only [↓gd,gp,Nat.reduceAdd,Nat.reduceEqDiff, ↓hk54, ↓hk42, hr]
 exact hK _ hf2
end Go.Proofs.YtbbjnplellanaaaDoor
namespace Go.Proofs.YtbbjnplellanaaaDoor
open Go.VW
theorem add9 (x y : Operand) (a b : Bs) (h : a.length + b.length ≤ 9223372036854775807) (w : World) : (xbin .add 9 x y (.string (B a)) (.string (B b))).run Tryd.prog w = .ok (.string (B (a ++ b))) w := run_addB x y a b h w
theorem add9r (x y : Operand) (a b : Bs) (h : a.length + b.length ≤ 9223372036854775807) (w : World) : (xbin .add 9 x y (.string (B a)) (.string ⟨b.toArray⟩)).run Tryd.prog w = .ok (.string (B (a ++ b))) w := run_addB x y a b h w
theorem add9l (x y : Operand) (a b : Bs) (h : a.length + b.length ≤ 9223372036854775807) (w : World) : (xbin .add 9 x y (.string ⟨a.toArray⟩) (.string (B b))).run Tryd.prog w = .ok (.string (B (a ++ b))) w := run_addB x y a b h w
def Stp.getN (nf : Nat) (s : Stp) : Int := match nf with
 | 1 => s.s
 | 2 => s.t
 | 3 => s.i
 | 4 => s.n
 | _ => 0
def Stp.getR (rf : Nat) (s : Stp) : Bs := match rf with
 | 1 => s.key
 | 2 => s.text
 | _ => []
def wOK (w : Wr) : Bool := decide (w.key ≠ []) && (plainB w.key && (decide (61 ∉ w.key) && (plainB w.data && (w.has || decide (w.data = [])))))
def wTxt (w : Wr) : Bs := 32 :: (w.key ++ (if w.has then 61 :: w.data else [33]))
def wrsO : List Wr → Option Bs
 | [] => some []
 | w :: r => if wOK w then (wrsO r).map (wTxt w ++ ·) else none
def numT (nf : Nat) (s : Stp) : Option Bs := if nf = 0 then some [] else if 0 ≤ s.getN nf ∧ s.getN nf ≤ 999999999 then some (32 :: Lib.itoa (s.getN nf)) else none
def restT (f : Form) (s : Stp) : Option Bs := if f.rf ≠ 0 then (if s.getR f.rf ≠ [] ∧ plainB (s.getR f.rf) = true then some (32 :: s.getR f.rf) else none) else if f.kind ≠ 2 then some [] else wrsO s.ws
def lineF (f : Form) (s : Stp) : Option Bs := (numT f.nf s).bind fun a => (restT f s).map fun b => f.word ++ a ++ b
/-- Strings that are not too long. -/
structure Fits (s : Stp) : Prop where
 key : s.key.length ≤ 2097152
 text : s.text.length ≤ 2097152
 ws : s.ws.length ≤ 2097152
 wk : ∀ x ∈ s.ws, x.key.length ≤ 2097152 ∧ x.data.length ≤ 2097152
def ResL (o : Option Bs) (v : Bs) (ok : Bool) : Prop := (o = some v ∧ ok = true) ∨ (o = none ∧ ok = false)
theorem wrs_on {ws : List Wr} {i : Nat} {x : Wr} {pre out : Bs} (h : (wrsO ws).map (pre ++ ·) = (wrsO (ws.drop i)).map (out ++ ·)) (hx : ws[i]? = some x) (hw : wOK x = true) : (wrsO ws).map (pre ++ ·) = (wrsO (ws.drop (i + 1))).map ((out ++ wTxt x) ++ ·) := by
 have hi := (List.getElem?_eq_some_iff.1 hx)
 have : ws.drop i = x :: ws.drop (i + 1) := by rw [List.drop_eq_getElem_cons hi.1, hi.2]
 rw [h, this, wrsO, if_pos hw, Option.map_map]
 congr 1; funext z; simp
theorem wrs_stop {ws : List Wr} {i : Nat} {x : Wr} {pre out : Bs} (h : (wrsO ws).map (pre ++ ·) = (wrsO (ws.drop i)).map (out ++ ·)) (hx : ws[i]? = some x) (hw : wOK x = false) : (wrsO ws).map (pre ++ ·) = none := by
 have hi := (List.getElem?_eq_some_iff.1 hx)
 have : ws.drop i = x :: ws.drop (i + 1) := by rw [List.drop_eq_getElem_cons hi.1, hi.2]
 rw [h, this, wrsO, if_neg (by rw [hw]; simp)]; rfl
theorem wrs_end {ws : List Wr} {pre out : Bs} (h : (wrsO ws).map (pre ++ ·) = (wrsO (ws.drop ws.length)).map (out ++ ·)) : (wrsO ws).map (pre ++ ·) = some out := by
 rw [h, List.drop_length, wrsO]; simp
theorem has_byte {l : Bs} {b : UInt8} : decide (0 ≤ Lib.indexByte l b) = !decide (b ∉ l) := by
 induction l with
 | nil => rfl
 | cons x r ih =>
   have hge := Lib.indexByte_ge r b
   rw [Lib.indexByte]
   by_cases h : x = b
   ·subst h; simp
   ·have hb : (x == b) = false := beq_eq_false_iff_ne.2 h
    rw [hb]
    simp only [Bool.false_eq_true, if_false]
    have hm : decide (b ∉ x :: r) = decide (b ∉ r) := by simp [Ne.symm h]
    rw [hm, ← ih]
    by_cases hm : Lib.indexByte r b = -1
    ·rw [hm]; rfl
    ·have hb : (Lib.indexByte r b == -1) = false := beq_eq_false_iff_ne.2 hm
     rw [hb]
     simp only [Bool.false_eq_true, if_false]
     rw [decide_eq_true (by omega), decide_eq_true (by omega)]
theorem contains_spec {l : Bs} {w : World} {K : Value → World → Prop} (hK : K (.bool (!decide (61 ∉ l))) w) : CallsN Tryd.prog 43 [.string (B l), .string ⟨#[61]⟩] w K := by
 have hc := Any.strings_Contains_one containsC (B l) 61 w
 refine CallsN.of (hc.mono fun e w' he => ?_)
 obtain ⟨rfl, rfl⟩ := he
 refine ⟨_, rfl, ?_⟩
 rw [B_list, has_byte]; exact hK
theorem wTxt_len (x : Wr) (h1 : x.key.length ≤ 2097152) (h2 : x.data.length ≤ 2097152) : (wTxt x).length ≤ 4194306 := by
 unfold wTxt
 split <;> simp only [List.length_cons, List.length_append, List.length_nil] <;> omega
section
variable {s : Stp} {W0 w : World} {e : Env} {sb : Nat} {sv : SlV} {pre : Bs} {K : Value → World → Prop}
set_option maxHeartbeats 16000000 in
theorem lineW_spec (e3 : e 3 = .pointer (some ⟨sb, 0, none⟩)) (e6 : e 6 = .string (B pre)) (hsb : w.heap[sb]? = some (.cells (encStp (s, sv)).toArray 33 (0, 0))) (hsw : SlOf 3 encWr w (.slice sv.1 sv.2.1 sv.2.2) s.ws) (hf : Fr [] W0 w) (hft : Fits s) (hpl : pre.length ≤ 1000)
  (hK : ∀ v ok w', Fr [] W0 w' → ResL ((wrsO s.ws).map (pre ++ ·)) v ok → K (.tuple #[.string (B v), .bool ok]) w') : W3 Tryd.prog 109 V22 c22_5 (retQ Tryd.prog [.tmp 4, .tmp 5] K) e w := by
 have cw := cur w
 obtain ⟨va, vc, hvv⟩ := hsw.form
 have hsb0 := hsb
 unfold encStp at hsb
 simp only at hsb
 rw [hvv] at hsb
 have hwn := hft.ws
 simp (maxSteps:=4000000)(disch:=first|assumption|(simp only[dz];first|done|assumption|omega)|omega|apply_rules[Fr.refl,Fr.alloc,Fr.drew]|rfl) only [↓gd,gp,Nat.reduceAdd,Nat.reduceEqDiff, ↓hk22, e3, hsb]
 rw [← hvv]
 obtain ⟨vv, hvv'⟩ : ∃ vv, vv = Value.slice sv.1 sv.2.1 sv.2.2 := ⟨_, rfl⟩
 rw [← hvv'] at hsw ⊢
 refine for_intro s.ws.length 57 0 (fun i e' w' => ∃ out : Bs, e' 55 = vv ∧ e' 56 = .int .i64 s.ws.length ∧ e' 6 = .string (B out) ∧ out.length ≤ 1000 + i * 4194306 ∧ (wrsO s.ws).map (pre ++ ·) = (wrsO (s.ws.drop i)).map (out ++ ·) ∧ Fr [] w w') ?_ (Nat.zero_le _) ?_ ?_
 ·simp (maxSteps:=4000000)(disch:=first|assumption|(simp only[dz];first|done|assumption|omega)|omega|apply_rules[Fr.refl,Fr.alloc,Fr.drew]|rfl) only [↓gsd,gs,gv,Nat.reduceAdd,Nat.reduceEqDiff]; rfl
 ·refine ⟨pre, ?_, ?_, ?_, by omega, by simp, Fr.refl _ _⟩
  ·simp (maxSteps:=4000000)(disch:=first|assumption|(simp only[dz];first|done|assumption|omega)|omega|apply_rules[Fr.refl,Fr.alloc,Fr.drew]|rfl) only [↓gsd,gs,gv,Nat.reduceAdd,Nat.reduceEqDiff]
  ·simp (maxSteps:=4000000)(disch:=first|assumption|(simp only[dz];first|done|assumption|omega)|omega|apply_rules[Fr.refl,Fr.alloc,Fr.drew]|rfl) only [↓gsd,gs,gv,Nat.reduceAdd,Nat.reduceEqDiff]
  ·simp (maxSteps:=4000000)(disch:=first|assumption|(simp only[dz];first|done|assumption|omega)|omega|apply_rules[Fr.refl,Fr.alloc,Fr.drew]|rfl) only [↓gsd,gs,gv,Nat.reduceAdd,Nat.reduceEqDiff, e6]
 rintro i e1 w1 kk hi e57 ⟨out, e55, e56, e6, hol, hw, hf1⟩ hkk
 have cw1 := cur w1
 have hf01 := hf.trans' hf1
 by_cases hil : i < s.ws.length
 ·have d : decide ((i : Int) < (s.ws.length : Int)) = true := decide_eq_true (by omega)
  obtain ⟨x, hx⟩ : ∃ x, s.ws[i]? = some x := ⟨s.ws[i], List.getElem?_eq_getElem hil⟩
  obtain ⟨bb, off, cap, ob, hv1, hob1, _, hrow, _⟩ := (hsw.frN hf1).read encWr_len i x hx
  have i0 : (0 : Int) ≤ (i : Int) := by omega
  have i1 : (i : Int) < (s.ws.length : Int) := by omega
  have wr : IntKind.i64.wrap ((i : Int) + 1) = (i : Int) + 1 := wrap64 (by omega) (by omega)
  obtain ⟨hxk, hxd⟩ := hft.wk x (List.mem_of_getElem? hx)
  have hxt := wTxt_len x hxk hxd
  have him : i * 4194306 ≤ 2097152 * 4194306 := Nat.mul_le_mul_right _ (by omega)
  unfold encWr at hrow
  have hstop : wOK x = false → ∀ w', Fr [] W0 w' → K (.tuple #[.string ⟨#[]⟩, .bool false]) w' := fun h w' hf' => hK [] _ w' hf' (.inr ⟨wrs_stop hw hx h, rfl⟩)
  have d0 : decide (B x.key = ⟨#[]⟩) = !decide (x.key ≠ []) := by
   simp only [B_lit]; by_cases h : x.key = [] <;> simp [h]
  by_cases q0 : x.key = []
  ·have dq : decide (x.key ≠ []) = false := by simp [q0]
   rw [dq] at d0
   simp (maxSteps:=4000000)(disch:=first|assumption|(simp only[dz];first|done|assumption|omega)|omega|apply_rules[Fr.refl,Fr.alloc,Fr.drew]|rfl) only [↓gd,gp,Nat.reduceAdd,Nat.reduceEqDiff, ↓hk22, e55, e56, e57, hv1, d, i0, i1, Int.toNat_natCast, hob1, hrow, d0]
   exact hstop (by unfold wOK; rw [dq]; rfl) _ (hf01.alloc _)
  have dq0 : decide (x.key ≠ []) = true := decide_eq_true q0
  rw [dq0] at d0
  simp (maxSteps:=4000000)(disch:=first|assumption|(simp only[dz];first|done|assumption|omega)|omega|apply_rules[Fr.refl,Fr.alloc,Fr.drew]|rfl) only [↓gd,gp,Nat.reduceAdd,Nat.reduceEqDiff, ↓hk22, e55, e56, e57, hv1, d, i0, i1, Int.toNat_natCast, hob1, hrow, d0]
  refine plain_spec (by omega) fun w2 hf2 => ?_
  have cw2 := cur w2
  have g2 := hf2.getN (get_alloc_new w1 (.cells ([.string (B x.key), .bool x.has, .string (B x.data)] : List Value).toArray 60 (0, 0)))
  have hf02 : Fr [] W0 w2 := (hf01.alloc _).trans' hf2
  have hf12 : Fr [] w w2 := (hf1.alloc _).trans' hf2
  cases q1 : plainB x.key with
  | false =>
    simp (maxSteps:=4000000)(disch:=first|assumption|(simp only[dz];first|done|assumption|omega)|omega|apply_rules[Fr.refl,Fr.alloc,Fr.drew]|rfl) only [↓gd,gp,Nat.reduceAdd,Nat.reduceEqDiff, ↓hk22, g2]
    exact hstop (by unfold wOK; rw [dq0, q1]; rfl) _ hf02
  | true =>
    simp (maxSteps:=4000000)(disch:=first|assumption|(simp only[dz];first|done|assumption|omega)|omega|apply_rules[Fr.refl,Fr.alloc,Fr.drew]|rfl) only [↓gd,gp,Nat.reduceAdd,Nat.reduceEqDiff, ↓hk22, g2]
    refine contains_spec ?_
    cases q2 : decide (61 ∉ x.key) with
    | false =>
      simp (maxSteps:=4000000)(disch:=first|assumption|(simp only[dz];first|done|assumption|omega)|omega|apply_rules[Fr.refl,Fr.alloc,Fr.drew]|rfl) only [↓gd,gp,Nat.reduceAdd,Nat.reduceEqDiff, ↓hk22, g2]
      exact hstop (by unfold wOK; rw [dq0, q1, q2]; rfl) _ hf02
    | true =>
      simp (maxSteps:=4000000)(disch:=first|assumption|(simp only[dz];first|done|assumption|omega)|omega|apply_rules[Fr.refl,Fr.alloc,Fr.drew]|rfl) only [↓gd,gp,Nat.reduceAdd,Nat.reduceEqDiff, ↓hk22, g2]
      refine plain_spec (by omega) fun w3 hf3 => ?_
      have cw3 := cur w3
      have g3 := hf3.getN g2
      have hf03 := hf02.trans' hf3
      have hf13 := hf12.trans' hf3
      cases q3 : plainB x.data with
      | false =>
        simp (maxSteps:=4000000)(disch:=first|assumption|(simp only[dz];first|done|assumption|omega)|omega|apply_rules[Fr.refl,Fr.alloc,Fr.drew]|rfl) only [↓gd,gp,Nat.reduceAdd,Nat.reduceEqDiff, ↓hk22, g3]
        exact hstop (by unfold wOK; rw [dq0, q1, q2, q3]; rfl) _ hf03
      | true =>
        cases q4 : x.has with
        | true =>
          rw [q4] at g3
          have a1 := fun x' y' w => add9l x' y' [32] x.key (by simp only [List.length_cons, List.length_nil]; omega) w
          have a2 := fun x' y' w => add9r x' y' (32 :: x.key) [61] (by simp only [List.length_append, List.length_cons, List.length_nil]; omega) w
          have a3 := fun x' y' w => add9 x' y' (32 :: (x.key ++ [61])) x.data (by simp only [List.length_append, List.length_cons, List.length_nil]; omega) w
          have a4 := fun x' y' w => add9 x' y' out (32 :: (x.key ++ [61] ++ x.data)) (by simp only [List.length_append, List.length_cons, List.length_nil]; omega) w
          simp (maxSteps:=4000000)(disch:=first|assumption|(simp only[dz];first|done|assumption|omega)|omega|apply_rules[Fr.refl,Fr.alloc,Fr.drew]|rfl) only [↓gd,gp,Nat.reduceAdd,Nat.reduceEqDiff, ↓hk22, e57, e6, g3, a1, a2, a3, a4, wr]
          have hok : wOK x = true := by unfold wOK; rw [dq0, q1, q2, q3, q4]; rfl
          have htx : wTxt x = 32 :: (x.key ++ [61] ++ x.data) := by unfold wTxt; rw [q4]; simp
          rw [← htx]
          refine hkk _ _ hil ?_ ⟨out ++ wTxt x, ?_, ?_, ?_, ?_, wrs_on hw hx hok, hf13⟩
          ·simp (maxSteps:=4000000)(disch:=first|assumption|(simp only[dz];first|done|assumption|omega)|omega|apply_rules[Fr.refl,Fr.alloc,Fr.drew]|rfl) only [↓gsd,gs,gv,Nat.reduceAdd,Nat.reduceEqDiff]
          ·simp (maxSteps:=4000000)(disch:=first|assumption|(simp only[dz];first|done|assumption|omega)|omega|apply_rules[Fr.refl,Fr.alloc,Fr.drew]|rfl) only [↓gsd,gs,gv,Nat.reduceAdd,Nat.reduceEqDiff, e55, hv1]
          ·simp (maxSteps:=4000000)(disch:=first|assumption|(simp only[dz];first|done|assumption|omega)|omega|apply_rules[Fr.refl,Fr.alloc,Fr.drew]|rfl) only [↓gsd,gs,gv,Nat.reduceAdd,Nat.reduceEqDiff, e56]
          ·simp (maxSteps:=4000000)(disch:=first|assumption|(simp only[dz];first|done|assumption|omega)|omega|apply_rules[Fr.refl,Fr.alloc,Fr.drew]|rfl) only [↓gsd,gs,gv,Nat.reduceAdd,Nat.reduceEqDiff]
          ·rw [List.length_append, Nat.add_mul]; omega
        | false =>
          rw [q4] at g3
          have d5 : decide (B x.data = ⟨#[]⟩) = decide (x.data = []) := by simp only [B_lit]
          cases q5 : decide (x.data = []) with
          | false =>
            rw [q5] at d5
            simp (maxSteps:=4000000)(disch:=first|assumption|(simp only[dz];first|done|assumption|omega)|omega|apply_rules[Fr.refl,Fr.alloc,Fr.drew]|rfl) only [↓gd,gp,Nat.reduceAdd,Nat.reduceEqDiff, ↓hk22, g3, d5]
            exact hstop (by unfold wOK; rw [dq0, q1, q2, q3, q4, q5]; rfl) _ hf03
          | true =>
            rw [q5] at d5
            have a1 := fun x' y' w => add9l x' y' [32] x.key (by simp only [List.length_cons, List.length_nil]; omega) w
            have a2 := fun x' y' w => add9r x' y' (32 :: x.key) [33] (by simp only [List.length_append, List.length_cons, List.length_nil]; omega) w
            have a4 := fun x' y' w => add9 x' y' out (32 :: (x.key ++ [33])) (by simp only [List.length_append, List.length_cons, List.length_nil]; omega) w
            simp (maxSteps:=4000000)(disch:=first|assumption|(simp only[dz];first|done|assumption|omega)|omega|apply_rules[Fr.refl,Fr.alloc,Fr.drew]|rfl) only [↓gd,gp,Nat.reduceAdd,Nat.reduceEqDiff, ↓hk22, e57, e6, g3, d5, a1, a2, a4, wr]
            have hok : wOK x = true := by unfold wOK; rw [dq0, q1, q2, q3, q4, q5]; rfl
            have htx : wTxt x = 32 :: (x.key ++ [33]) := by unfold wTxt; rw [q4]; simp
            rw [← htx]
            refine hkk _ _ hil ?_ ⟨out ++ wTxt x, ?_, ?_, ?_, ?_, wrs_on hw hx hok, hf13⟩
            ·simp (maxSteps:=4000000)(disch:=first|assumption|(simp only[dz];first|done|assumption|omega)|omega|apply_rules[Fr.refl,Fr.alloc,Fr.drew]|rfl) only [↓gsd,gs,gv,Nat.reduceAdd,Nat.reduceEqDiff]
            ·simp (maxSteps:=4000000)(disch:=first|assumption|(simp only[dz];first|done|assumption|omega)|omega|apply_rules[Fr.refl,Fr.alloc,Fr.drew]|rfl) only [↓gsd,gs,gv,Nat.reduceAdd,Nat.reduceEqDiff, e55, hv1]
            ·simp (maxSteps:=4000000)(disch:=first|assumption|(simp only[dz];first|done|assumption|omega)|omega|apply_rules[Fr.refl,Fr.alloc,Fr.drew]|rfl) only [↓gsd,gs,gv,Nat.reduceAdd,Nat.reduceEqDiff, e56]
            ·simp (maxSteps:=4000000)(disch:=first|assumption|(simp only[dz];first|done|assumption|omega)|omega|apply_rules[Fr.refl,Fr.alloc,Fr.drew]|rfl) only [↓gsd,gs,gv,Nat.reduceAdd,Nat.reduceEqDiff]
            ·rw [List.length_append, Nat.add_mul]; omega
 ·have d : decide ((i : Int) < (s.ws.length : Int)) = false := decide_eq_false (by omega)
  have hi' : i = s.ws.length := by omega
  simp (maxSteps:=4000000)(disch:=first|assumption|(simp only[dz];first|done|assumption|omega)|omega|apply_rules[Fr.refl,Fr.alloc,Fr.drew]|rfl) only [↓gd,gp,Nat.reduceAdd,Nat.reduceEqDiff, ↓hk22, e55, e56, e57, e6, d]
  exact hK _ _ _ hf01 (.inl ⟨wrs_end (hi' ▸ hw), rfl⟩)
end
end Go.Proofs.YtbbjnplellanaaaDoor
namespace Go.Proofs.YtbbjnplellanaaaDoor
open Go.VW
/-- The package's table of powers of ten is there. -/
def TabP (w : World) : Prop := Lib.TabIs Tryd.prog w "internal/strconv.uint64pow10" .u64 Lib.pow10Tab
theorem TabP.fr {w w' : World} (h : TabP w) (hf : Fr [] w w') : TabP w' := Lib.tabBelow_of_tabIs h w' hf.below
theorem itoa_spec {n : Int} {w : World} {K : Value → World → Prop} (h0 : 0 ≤ n) (h1 : n ≤ 999999999) (ht : TabP w) (hK : ∀ w', Fr [] w w' → K (.string (B (Lib.itoa n))) w') : CallsN Tryd.prog 41 [.int .i64 n] w K := by
 have hc := Any.strconv_Itoa itoaC n (by omega) (by omega) w ht
 refine CallsN.of (hc.mono fun e w' he => ?_)
 obtain ⟨rfl, k, os, rfl⟩ := he
 exact ⟨_, rfl, hK _ (Fr.of_below (Lib.below_grow _ w (Nat.le_refl _) k os))⟩
theorem resL_none {o : Option Bs} (h : o = none) (v : Bs) : ResL o v false := .inr ⟨h, rfl⟩
section
variable {f : Form} {s : Stp} {W0 w : World} {e : Env} {fb sb : Nat} {sv : SlV} {pre : Bs} {K : Value → World → Prop}
set_option maxHeartbeats 16000000 in
theorem lineR_spec (e2 : e 2 = .pointer (some ⟨fb, 0, none⟩)) (e3 : e 3 = .pointer (some ⟨sb, 0, none⟩)) (e6 : e 6 = .string (B pre)) (hfb : w.heap[fb]? = some (.cells (encForm f).toArray 53 (0, 0))) (hsb : w.heap[sb]? = some (.cells (encStp (s, sv)).toArray 33 (0, 0))) (hrf : f.rf ≤ 2)
  (hsw : SlOf 3 encWr w (.slice sv.1 sv.2.1 sv.2.2) s.ws) (hf : Fr [] W0 w) (hft : Fits s) (hpl : pre.length ≤ 1000)
  (hK : ∀ v ok w', Fr [] W0 w' → ResL ((restT f s).map (pre ++ ·)) v ok → K (.tuple #[.string (B v), .bool ok]) w') : W3 Tryd.prog 109 V22 c22_3 (retQ Tryd.prog [.tmp 4, .tmp 5] K) e w := by
 have cw := cur w
 have hfb0 := hfb
 have hsb0 := hsb
 unfold encForm at hfb
 unfold encStp at hsb
 unfold restT at hK
 by_cases hr0 : f.rf = 0
 ·rw [if_neg (by simp [hr0])] at hK
  have hrv : rfV f.rf = .nilFunc := by rw [hr0]; rfl
  rw [hrv] at hfb
  by_cases hk2 : f.kind = 2
  ·rw [if_neg (by simp [hk2])] at hK
   have d : decide ((f.kind : Int) = 2) = true := decide_eq_true (by omega)
   simp (maxSteps:=4000000)(disch:=first|assumption|(simp only[dz];first|done|assumption|omega)|omega|apply_rules[Fr.refl,Fr.alloc,Fr.drew]|rfl) only [↓gd,gp,Nat.reduceAdd,Nat.reduceEqDiff, ↓c22_6_s, ↓c22_13_s, ↓c22_20_s, ↓c22_23_s, ↓c22_24_s, ↓c22_22_s, ↓c22_21_s, ↓c22_19_s, ↓c22_18_s, ↓c22_17_s, ↓c22_27_s, ↓c22_26_s, ↓c22_25_s, ↓c22_16_s, ↓c22_15_s, ↓c22_14_s, ↓c22_12_s, ↓c22_28_s, ↓c22_11_s, ↓c22_10_s, ↓c22_9_s, ↓c22_8_s, ↓c22_7_s, ↓c22_31_s, ↓c22_30_s, ↓c22_29_s, ↓c22_4_s, ↓c22_35_s, ↓c22_34_s, ↓c22_33_s, ↓c22_32_s, ↓c22_3_s, ↓c22_40_s, ↓c22_43_s, ↓c22_42_s, ↓c22_41_s, ↓c22_39_s, ↓c22_38_s, ↓c22_37_s, ↓c22_36_s, ↓c22_2_s, ↓c22_1_s, ↓c22_s, ↓w3t_22, e2, e3, e6, hfb, ne51n, d]
   exact lineW_spec e3 e6 hsb0 hsw hf hft hpl hK
  ·rw [if_pos hk2] at hK
   have d : decide ((f.kind : Int) = 2) = false := decide_eq_false (by omega)
   simp (maxSteps:=4000000)(disch:=first|assumption|(simp only[dz];first|done|assumption|omega)|omega|apply_rules[Fr.refl,Fr.alloc,Fr.drew]|rfl) only [↓gd,gp,Nat.reduceAdd,Nat.reduceEqDiff, ↓hk22, e2, e3, e6, hfb, ne51n, d]
   exact hK _ _ _ hf (.inl ⟨by simp, rfl⟩)
 ·rw [if_pos hr0] at hK
  have h12 : f.rf = 1 ∨ f.rf = 2 := by omega
  have a1 := fun x' y' w => add9r x' y' pre [32] (by simp only [List.length_cons, List.length_nil]; omega) w
  rcases h12 with h | h
  ·have hrv : rfV f.rf = .func (.func 31) #[] #[] := by rw [h]; rfl
   rw [hrv] at hfb
   rw [h] at hK
   have hgr : s.getR 1 = s.key := rfl
   rw [hgr] at hK
   have hlx := hft.key
   have a2 := fun x' y' w => add9 x' y' (pre ++ [32]) s.key (by simp only [List.length_append, List.length_cons, List.length_nil]; omega) w
   simp (maxSteps:=4000000)(disch:=first|assumption|(simp only[dz];first|done|assumption|omega)|omega|apply_rules[Fr.refl,Fr.alloc,Fr.drew]|rfl) only [↓gd,gp,Nat.reduceAdd,Nat.reduceEqDiff, ↓hk22, e2, e3, e6, hfb, ne51, xcF5]
   refine f5_spec ?_
   have d0 : decide (B s.key = ⟨#[]⟩) = decide (s.key = []) := by simp only [B_lit]
   by_cases q : s.key = []
   ·rw [decide_eq_true q] at d0
    simp (maxSteps:=4000000)(disch:=first|assumption|(simp only[dz];first|done|assumption|omega)|omega|apply_rules[Fr.refl,Fr.alloc,Fr.drew]|rfl) only [↓gd,gp,Nat.reduceAdd,Nat.reduceEqDiff, ↓hk22, e2, e3, e6, hsb, a1, a2, d0]
    exact hK _ _ _ hf (.inr ⟨by rw [if_neg (fun h => h.1 q)]; rfl, rfl⟩)
   ·rw [decide_eq_false q] at d0
    simp (maxSteps:=4000000)(disch:=first|assumption|(simp only[dz];first|done|assumption|omega)|omega|apply_rules[Fr.refl,Fr.alloc,Fr.drew]|rfl) only [↓gd,gp,Nat.reduceAdd,Nat.reduceEqDiff, ↓hk22, e2, e3, e6, hsb, a1, a2, d0]
    refine plain_spec (by omega) fun w2 hf2 => ?_
    refine hK _ _ _ (hf.trans' hf2) ?_
    cases q2 : plainB s.key with
    | true => rw [if_pos ⟨q, rfl⟩]; exact .inl ⟨by simp, rfl⟩
    | false => rw [if_neg (fun h => by simp at h)]; exact .inr ⟨rfl, rfl⟩
  ·have hrv : rfV f.rf = .func (.func 32) #[] #[] := by rw [h]; rfl
   rw [hrv] at hfb
   rw [h] at hK
   have hgr : s.getR 2 = s.text := rfl
   rw [hgr] at hK
   have hlx := hft.text
   have a2 := fun x' y' w => add9 x' y' (pre ++ [32]) s.text (by simp only [List.length_append, List.length_cons, List.length_nil]; omega) w
   simp (maxSteps:=4000000)(disch:=first|assumption|(simp only[dz];first|done|assumption|omega)|omega|apply_rules[Fr.refl,Fr.alloc,Fr.drew]|rfl) only [↓gd,gp,Nat.reduceAdd,Nat.reduceEqDiff, ↓hk22, e2, e3, e6, hfb, ne51, xcF6]
   refine f6_spec ?_
   have d0 : decide (B s.text = ⟨#[]⟩) = decide (s.text = []) := by simp only [B_lit]
   by_cases q : s.text = []
   ·rw [decide_eq_true q] at d0
    simp (maxSteps:=4000000)(disch:=first|assumption|(simp only[dz];first|done|assumption|omega)|omega|apply_rules[Fr.refl,Fr.alloc,Fr.drew]|rfl) only [↓gd,gp,Nat.reduceAdd,Nat.reduceEqDiff, ↓hk22, e2, e3, e6, hsb, a1, a2, d0]
    exact hK _ _ _ hf (.inr ⟨by rw [if_neg (fun h => h.1 q)]; rfl, rfl⟩)
   ·rw [decide_eq_false q] at d0
    simp (maxSteps:=4000000)(disch:=first|assumption|(simp only[dz];first|done|assumption|omega)|omega|apply_rules[Fr.refl,Fr.alloc,Fr.drew]|rfl) only [↓gd,gp,Nat.reduceAdd,Nat.reduceEqDiff, ↓hk22, e2, e3, e6, hsb, a1, a2, d0]
    refine plain_spec (by omega) fun w2 hf2 => ?_
    refine hK _ _ _ (hf.trans' hf2) ?_
    cases q2 : plainB s.text with
    | true => rw [if_pos ⟨q, rfl⟩]; exact .inl ⟨by simp, rfl⟩
    | false => rw [if_neg (fun h => by simp at h)]; exact .inr ⟨rfl, rfl⟩
theorem lineF_none {f : Form} {s : Stp} (h : numT f.nf s = none) : lineF f s = none := by unfold lineF; rw [h]; rfl
theorem lineF_some {f : Form} {s : Stp} {a : Bs} (h : numT f.nf s = some a) : lineF f s = (restT f s).map ((f.word ++ a) ++ ·) := by unfold lineF; rw [h]; rfl
set_option maxHeartbeats 16000000 in
theorem line_spec (hnf : f.nf ≤ 4) (hrf : f.rf ≤ 2) (hwl : f.word.length ≤ 100) (hsw : SlOf 3 encWr w (.slice sv.1 sv.2.1 sv.2.2) s.ws) (hft : Fits s) (ht : TabP w)
  (hK : ∀ v ok w', Fr [] w w' → ResL (lineF f s) v ok → K (.tuple #[.string (B v), .bool ok]) w') : CallsN Tryd.prog 22 [.agg (encForm f).toArray, .agg (encStp (s, sv)).toArray] w K := by
 have cw := cur w
 obtain ⟨w1, hw1⟩ : ∃ w1, w1 = (w.alloc (.cells (encForm f).toArray 53 (0, 0))).alloc (.cells (encStp (s, sv)).toArray 33 (0, 0)) := ⟨_, rfl⟩
 have g1 : w1.heap[w.heap.size]? = some (.cells (encForm f).toArray 53 (0, 0)) := by
  rw [hw1, get_alloc_old _ _ _ (by simp only [size_alloc]; omega)]; exact get_alloc_new _ _
 have g2 : w1.heap[w.heap.size + 1]? = some (.cells (encStp (s, sv)).toArray 33 (0, 0)) := by
  have := get_alloc_new (w.alloc (.cells (encForm f).toArray 53 (0, 0))) (.cells (encStp (s, sv)).toArray 33 (0, 0))
  rw [size_alloc] at this; rw [hw1]; exact this
 have hf1 : Fr [] w w1 := by rw [hw1]; exact ((Fr.refl _ _).alloc _).alloc _
 have cw1 := cur w1
 refine call22 ?_
 simp (maxSteps:=4000000)(disch:=first|assumption|(simp only[dz];first|done|assumption|omega)|omega|apply_rules[Fr.refl,Fr.alloc,Fr.drew]|rfl) only [↓gd,gp,Nat.reduceAdd,Nat.reduceEqDiff, ↓c22_6_s, ↓c22_13_s, ↓c22_20_s, ↓c22_23_s, ↓c22_24_s, ↓c22_22_s, ↓c22_21_s, ↓c22_19_s, ↓c22_18_s, ↓c22_17_s, ↓c22_27_s, ↓c22_26_s, ↓c22_25_s, ↓c22_16_s, ↓c22_15_s, ↓c22_14_s, ↓c22_12_s, ↓c22_28_s, ↓c22_11_s, ↓c22_10_s, ↓c22_9_s, ↓c22_8_s, ↓c22_7_s, ↓c22_5_s, ↓c22_31_s, ↓c22_30_s, ↓c22_29_s, ↓c22_4_s, ↓c22_35_s, ↓c22_34_s, ↓c22_33_s, ↓c22_32_s, ↓c22_3_s, ↓c22_40_s, ↓c22_43_s, ↓c22_42_s, ↓c22_41_s, ↓c22_39_s, ↓c22_38_s, ↓c22_37_s, ↓c22_36_s, ↓c22_2_s, ↓c22_s, ↓w3t_22]
 rw [← hw1]
 have g1' := g1
 have g2' := g2
 unfold encForm at g1'
 unfold encStp at g2'
 by_cases hr0 : f.nf = 0
 ·have hrv : nfV f.nf = .nilFunc := by rw [hr0]; rfl
  rw [hrv] at g1'
  have hn : numT f.nf s = some [] := by unfold numT; rw [if_pos hr0]
  rw [lineF_some hn, List.append_nil] at hK
  simp (maxSteps:=4000000)(disch:=first|assumption|(simp only[dz];first|done|assumption|omega)|omega|apply_rules[Fr.refl,Fr.alloc,Fr.drew]|rfl) only [↓gd,gp,Nat.reduceAdd,Nat.reduceEqDiff, ↓c22_6_s, ↓c22_13_s, ↓c22_20_s, ↓c22_23_s, ↓c22_24_s, ↓c22_22_s, ↓c22_21_s, ↓c22_19_s, ↓c22_18_s, ↓c22_17_s, ↓c22_27_s, ↓c22_26_s, ↓c22_25_s, ↓c22_16_s, ↓c22_15_s, ↓c22_14_s, ↓c22_12_s, ↓c22_28_s, ↓c22_11_s, ↓c22_10_s, ↓c22_9_s, ↓c22_8_s, ↓c22_7_s, ↓c22_5_s, ↓c22_31_s, ↓c22_30_s, ↓c22_29_s, ↓c22_4_s, ↓c22_35_s, ↓c22_34_s, ↓c22_33_s, ↓c22_32_s, ↓c22_40_s, ↓c22_43_s, ↓c22_42_s, ↓c22_41_s, ↓c22_39_s, ↓c22_38_s, ↓c22_37_s, ↓c22_36_s, ↓c22_2_s, ↓c22_1_s, ↓c22_s, ↓w3t_22, g1', ne50n]
  exact lineR_spec rfl rfl rfl g1 g2 hrf (hsw.frN hf1) hf1 hft (by omega) hK
 ·have h1234 : f.nf = 1 ∨ f.nf = 2 ∨ f.nf = 3 ∨ f.nf = 4 := by omega
  rcases h1234 with h | h | h | h
  ·have hrv : nfV f.nf = .func (.func 27) #[] #[] := by rw [h]; rfl
   rw [hrv] at g1'
   have hg : s.getN f.nf = s.s := by rw [h]; rfl
   simp (maxSteps:=4000000)(disch:=first|assumption|(simp only[dz];first|done|assumption|omega)|omega|apply_rules[Fr.refl,Fr.alloc,Fr.drew]|rfl) only [↓gd,gp,Nat.reduceAdd,Nat.reduceEqDiff, ↓hk22, g1', ne50, xcF1]
   refine f1_spec ?_
   by_cases q0 : s.s < 0
   ·have d0 : decide (s.s < 0) = true := decide_eq_true q0
    rw [lineF_none (by unfold numT; rw [if_neg hr0, hg, if_neg (by omega)])] at hK
    simp (maxSteps:=4000000)(disch:=first|assumption|(simp only[dz];first|done|assumption|omega)|omega|apply_rules[Fr.refl,Fr.alloc,Fr.drew]|rfl) only [↓gd,gp,Nat.reduceAdd,Nat.reduceEqDiff, ↓hk22, g2', d0]
    exact hK [] _ _ hf1 (.inr ⟨rfl, rfl⟩)
   have d0 : decide (s.s < 0) = false := decide_eq_false q0
   by_cases q1 : 999999999 < s.s
   ·have d1 : decide ((999999999 : Int) < s.s) = true := decide_eq_true q1
    rw [lineF_none (by unfold numT; rw [if_neg hr0, hg, if_neg (by omega)])] at hK
    simp (maxSteps:=4000000)(disch:=first|assumption|(simp only[dz];first|done|assumption|omega)|omega|apply_rules[Fr.refl,Fr.alloc,Fr.drew]|rfl) only [↓gd,gp,Nat.reduceAdd,Nat.reduceEqDiff, ↓hk22, g2', d0, d1]
    exact hK [] _ _ hf1 (.inr ⟨rfl, rfl⟩)
   have d1 : decide ((999999999 : Int) < s.s) = false := decide_eq_false q1
   rw [lineF_some (by unfold numT; rw [if_neg hr0, hg, if_pos (by omega)])] at hK
   simp (maxSteps:=4000000)(disch:=first|assumption|(simp only[dz];first|done|assumption|omega)|omega|apply_rules[Fr.refl,Fr.alloc,Fr.drew]|rfl) only [↓gd,gp,Nat.reduceAdd,Nat.reduceEqDiff, ↓hk22, g2', d0, d1]
   refine itoa_spec (by omega) (by omega) (ht.fr hf1) fun w3 hf3 => ?_
   have cw3 := cur w3
   have hil := Lib.itoa_length_le s.s (by omega) (by omega)
   have a1 := fun x' y' w => add9l x' y' [32] (Lib.itoa s.s) (by simp only [List.length_cons, List.length_nil]; omega) w
   have a2 := fun x' y' w => add9 x' y' f.word (32 :: Lib.itoa s.s) (by simp only [List.length_cons]; omega) w
   simp (maxSteps:=4000000)(disch:=first|assumption|(simp only[dz];first|done|assumption|omega)|omega|apply_rules[Fr.refl,Fr.alloc,Fr.drew]|rfl) only [↓gd,gp,Nat.reduceAdd,Nat.reduceEqDiff, ↓c22_6_s, ↓c22_13_s, ↓c22_20_s, ↓c22_23_s, ↓c22_24_s, ↓c22_22_s, ↓c22_21_s, ↓c22_19_s, ↓c22_18_s, ↓c22_17_s, ↓c22_27_s, ↓c22_26_s, ↓c22_25_s, ↓c22_16_s, ↓c22_15_s, ↓c22_14_s, ↓c22_12_s, ↓c22_28_s, ↓c22_11_s, ↓c22_10_s, ↓c22_9_s, ↓c22_8_s, ↓c22_7_s, ↓c22_5_s, ↓c22_31_s, ↓c22_30_s, ↓c22_29_s, ↓c22_4_s, ↓c22_35_s, ↓c22_34_s, ↓c22_33_s, ↓c22_32_s, ↓c22_40_s, ↓c22_43_s, ↓c22_42_s, ↓c22_41_s, ↓c22_39_s, ↓c22_38_s, ↓c22_37_s, ↓c22_36_s, ↓c22_2_s, ↓c22_1_s, ↓c22_s, ↓w3t_22, a1, a2]
   exact lineR_spec rfl rfl rfl (hf3.getN g1) (hf3.getN g2) hrf ((hsw.frN hf1).frN hf3) (hf1.trans' hf3) hft (by simp only [List.length_append, List.length_cons]; omega) hK
  ·have hrv : nfV f.nf = .func (.func 28) #[] #[] := by rw [h]; rfl
   rw [hrv] at g1'
   have hg : s.getN f.nf = s.t := by rw [h]; rfl
   simp (maxSteps:=4000000)(disch:=first|assumption|(simp only[dz];first|done|assumption|omega)|omega|apply_rules[Fr.refl,Fr.alloc,Fr.drew]|rfl) only [↓gd,gp,Nat.reduceAdd,Nat.reduceEqDiff, ↓hk22, g1', ne50, xcF2]
   refine f2_spec ?_
   by_cases q0 : s.t < 0
   ·have d0 : decide (s.t < 0) = true := decide_eq_true q0
    rw [lineF_none (by unfold numT; rw [if_neg hr0, hg, if_neg (by omega)])] at hK
    simp (maxSteps:=4000000)(disch:=first|assumption|(simp only[dz];first|done|assumption|omega)|omega|apply_rules[Fr.refl,Fr.alloc,Fr.drew]|rfl) only [↓gd,gp,Nat.reduceAdd,Nat.reduceEqDiff, ↓hk22, g2', d0]
    exact hK [] _ _ hf1 (.inr ⟨rfl, rfl⟩)
   have d0 : decide (s.t < 0) = false := decide_eq_false q0
   by_cases q1 : 999999999 < s.t
   ·have d1 : decide ((999999999 : Int) < s.t) = true := decide_eq_true q1
    rw [lineF_none (by unfold numT; rw [if_neg hr0, hg, if_neg (by omega)])] at hK
    simp (maxSteps:=4000000)(disch:=first|assumption|(simp only[dz];first|done|assumption|omega)|omega|apply_rules[Fr.refl,Fr.alloc,Fr.drew]|rfl) only [↓gd,gp,Nat.reduceAdd,Nat.reduceEqDiff, ↓hk22, g2', d0, d1]
    exact hK [] _ _ hf1 (.inr ⟨rfl, rfl⟩)
   have d1 : decide ((999999999 : Int) < s.t) = false := decide_eq_false q1
   rw [lineF_some (by unfold numT; rw [if_neg hr0, hg, if_pos (by omega)])] at hK
   simp (maxSteps:=4000000)(disch:=first|assumption|(simp only[dz];first|done|assumption|omega)|omega|apply_rules[Fr.refl,Fr.alloc,Fr.drew]|rfl) only [↓gd,gp,Nat.reduceAdd,Nat.reduceEqDiff, ↓hk22, g2', d0, d1]
   refine itoa_spec (by omega) (by omega) (ht.fr hf1) fun w3 hf3 => ?_
   have cw3 := cur w3
   have hil := Lib.itoa_length_le s.t (by omega) (by omega)
   have a1 := fun x' y' w => add9l x' y' [32] (Lib.itoa s.t) (by simp only [List.length_cons, List.length_nil]; omega) w
   have a2 := fun x' y' w => add9 x' y' f.word (32 :: Lib.itoa s.t) (by simp only [List.length_cons]; omega) w
   simp (maxSteps:=4000000)(disch:=first|assumption|(simp only[dz];first|done|assumption|omega)|omega|apply_rules[Fr.refl,Fr.alloc,Fr.drew]|rfl) only [↓gd,gp,Nat.reduceAdd,Nat.reduceEqDiff, ↓c22_6_s, ↓c22_13_s, ↓c22_20_s, ↓c22_23_s, ↓c22_24_s, ↓c22_22_s, ↓c22_21_s, ↓c22_19_s, ↓c22_18_s, ↓c22_17_s, ↓c22_27_s, ↓c22_26_s, ↓c22_25_s, ↓c22_16_s, ↓c22_15_s, ↓c22_14_s, ↓c22_12_s, ↓c22_28_s, ↓c22_11_s, ↓c22_10_s, ↓c22_9_s, ↓c22_8_s, ↓c22_7_s, ↓c22_5_s, ↓c22_31_s, ↓c22_30_s, ↓c22_29_s, ↓c22_4_s, ↓c22_35_s, ↓c22_34_s, ↓c22_33_s, ↓c22_32_s, ↓c22_40_s, ↓c22_43_s, ↓c22_42_s, ↓c22_41_s, ↓c22_39_s, ↓c22_38_s, ↓c22_37_s, ↓c22_36_s, ↓c22_2_s, ↓c22_1_s, ↓c22_s, ↓w3t_22, a1, a2]
   exact lineR_spec rfl rfl rfl (hf3.getN g1) (hf3.getN g2) hrf ((hsw.frN hf1).frN hf3) (hf1.trans' hf3) hft (by simp only [List.length_append, List.length_cons]; omega) hK
  ·have hrv : nfV f.nf = .func (.func 29) #[] #[] := by rw [h]; rfl
   rw [hrv] at g1'
   have hg : s.getN f.nf = s.i := by rw [h]; rfl
   simp (maxSteps:=4000000)(disch:=first|assumption|(simp only[dz];first|done|assumption|omega)|omega|apply_rules[Fr.refl,Fr.alloc,Fr.drew]|rfl) only [↓gd,gp,Nat.reduceAdd,Nat.reduceEqDiff, ↓hk22, g1', ne50, xcF3]
   refine f3_spec ?_
   by_cases q0 : s.i < 0
   ·have d0 : decide (s.i < 0) = true := decide_eq_true q0
    rw [lineF_none (by unfold numT; rw [if_neg hr0, hg, if_neg (by omega)])] at hK
    simp (maxSteps:=4000000)(disch:=first|assumption|(simp only[dz];first|done|assumption|omega)|omega|apply_rules[Fr.refl,Fr.alloc,Fr.drew]|rfl) only [↓gd,gp,Nat.reduceAdd,Nat.reduceEqDiff, ↓hk22, g2', d0]
    exact hK [] _ _ hf1 (.inr ⟨rfl, rfl⟩)
   have d0 : decide (s.i < 0) = false := decide_eq_false q0
   by_cases q1 : 999999999 < s.i
   ·have d1 : decide ((999999999 : Int) < s.i) = true := decide_eq_true q1
    rw [lineF_none (by unfold numT; rw [if_neg hr0, hg, if_neg (by omega)])] at hK
    simp (maxSteps:=4000000)(disch:=first|assumption|(simp only[dz];first|done|assumption|omega)|omega|apply_rules[Fr.refl,Fr.alloc,Fr.drew]|rfl) only [↓gd,gp,Nat.reduceAdd,Nat.reduceEqDiff, ↓hk22, g2', d0, d1]
    exact hK [] _ _ hf1 (.inr ⟨rfl, rfl⟩)
   have d1 : decide ((999999999 : Int) < s.i) = false := decide_eq_false q1
   rw [lineF_some (by unfold numT; rw [if_neg hr0, hg, if_pos (by omega)])] at hK
   simp (maxSteps:=4000000)(disch:=first|assumption|(simp only[dz];first|done|assumption|omega)|omega|apply_rules[Fr.refl,Fr.alloc,Fr.drew]|rfl) only [↓gd,gp,Nat.reduceAdd,Nat.reduceEqDiff, ↓hk22, g2', d0, d1]
   refine itoa_spec (by omega) (by omega) (ht.fr hf1) fun w3 hf3 => ?_
   have cw3 := cur w3
   have hil := Lib.itoa_length_le s.i (by omega) (by omega)
   have a1 := fun x' y' w => add9l x' y' [32] (Lib.itoa s.i) (by simp only [List.length_cons, List.length_nil]; omega) w
   have a2 := fun x' y' w => add9 x' y' f.word (32 :: Lib.itoa s.i) (by simp only [List.length_cons]; omega) w
   simp (maxSteps:=4000000)(disch:=first|assumption|(simp only[dz];first|done|assumption|omega)|omega|apply_rules[Fr.refl,Fr.alloc,Fr.drew]|rfl) only [↓gd,gp,Nat.reduceAdd,Nat.reduceEqDiff, ↓c22_6_s, ↓c22_13_s, ↓c22_20_s, ↓c22_23_s, ↓c22_24_s, ↓c22_22_s, ↓c22_21_s, ↓c22_19_s, ↓c22_18_s, ↓c22_17_s, ↓c22_27_s, ↓c22_26_s, ↓c22_25_s, ↓c22_16_s, ↓c22_15_s, ↓c22_14_s, ↓c22_12_s, ↓c22_28_s, ↓c22_11_s, ↓c22_10_s, ↓c22_9_s, ↓c22_8_s, ↓c22_7_s, ↓c22_5_s, ↓c22_31_s, ↓c22_30_s, ↓c22_29_s, ↓c22_4_s, ↓c22_35_s, ↓c22_34_s, ↓c22_33_s, ↓c22_32_s, ↓c22_40_s, ↓c22_43_s, ↓c22_42_s, ↓c22_41_s, ↓c22_39_s, ↓c22_38_s, ↓c22_37_s, ↓c22_36_s, ↓c22_2_s, ↓c22_1_s, ↓c22_s, ↓w3t_22, a1, a2]
   exact lineR_spec rfl rfl rfl (hf3.getN g1) (hf3.getN g2) hrf ((hsw.frN hf1).frN hf3) (hf1.trans' hf3) hft (by simp only [List.length_append, List.length_cons]; omega) hK
  ·have hrv : nfV f.nf = .func (.func 30) #[] #[] := by rw [h]; rfl
   rw [hrv] at g1'
   have hg : s.getN f.nf = s.n := by rw [h]; rfl
   simp (maxSteps:=4000000)(disch:=first|assumption|(simp only[dz];first|done|assumption|omega)|omega|apply_rules[Fr.refl,Fr.alloc,Fr.drew]|rfl) only [↓gd,gp,Nat.reduceAdd,Nat.reduceEqDiff, ↓hk22, g1', ne50, xcF4]
   refine f4_spec ?_
   by_cases q0 : s.n < 0
   ·have d0 : decide (s.n < 0) = true := decide_eq_true q0
    rw [lineF_none (by unfold numT; rw [if_neg hr0, hg, if_neg (by omega)])] at hK
    simp (maxSteps:=4000000)(disch:=first|assumption|(simp only[dz];first|done|assumption|omega)|omega|apply_rules[Fr.refl,Fr.alloc,Fr.drew]|rfl) only [↓gd,gp,Nat.reduceAdd,Nat.reduceEqDiff, ↓hk22, g2', d0]
    exact hK [] _ _ hf1 (.inr ⟨rfl, rfl⟩)
   have d0 : decide (s.n < 0) = false := decide_eq_false q0
   by_cases q1 : 999999999 < s.n
   ·have d1 : decide ((999999999 : Int) < s.n) = true := decide_eq_true q1
    rw [lineF_none (by unfold numT; rw [if_neg hr0, hg, if_neg (by omega)])] at hK
    simp (maxSteps:=4000000)(disch:=first|assumption|(simp only[dz];first|done|assumption|omega)|omega|apply_rules[Fr.refl,Fr.alloc,Fr.drew]|rfl) only [↓gd,gp,Nat.reduceAdd,Nat.reduceEqDiff, ↓hk22, g2', d0, d1]
    exact hK [] _ _ hf1 (.inr ⟨rfl, rfl⟩)
   have d1 : decide ((999999999 : Int) < s.n) = false := decide_eq_false q1
   rw [lineF_some (by unfold numT; rw [if_neg hr0, hg, if_pos (by omega)])] at hK
   simp (maxSteps:=4000000)(disch:=first|assumption|(simp only[dz];first|done|assumption|omega)|omega|apply_rules[Fr.refl,Fr.alloc,Fr.drew]|rfl) only [↓gd,gp,Nat.reduceAdd,Nat.reduceEqDiff, ↓hk22, g2', d0, d1]
   refine itoa_spec (by omega) (by omega) (ht.fr hf1) fun w3 hf3 => ?_
   have cw3 := cur w3
   have hil := Lib.itoa_length_le s.n (by omega) (by omega)
   have a1 := fun x' y' w => add9l x' y' [32] (Lib.itoa s.n) (by simp only [List.length_cons, List.length_nil]; omega) w
   have a2 := fun x' y' w => add9 x' y' f.word (32 :: Lib.itoa s.n) (by simp only [List.length_cons]; omega) w
   simp (maxSteps:=4000000)(disch:=first|assumption|(simp only[dz];first|done|assumption|omega)|omega|apply_rules[Fr.refl,Fr.alloc,Fr.drew]|rfl) only [↓gd,gp,Nat.reduceAdd,Nat.reduceEqDiff, ↓c22_6_s, ↓c22_13_s, ↓c22_20_s, ↓c22_23_s, ↓c22_24_s, ↓c22_22_s, ↓c22_21_s, ↓c22_19_s, ↓c22_18_s, ↓c22_17_s, ↓c22_27_s, ↓c22_26_s, ↓c22_25_s, ↓c22_16_s, ↓c22_15_s, ↓c22_14_s, ↓c22_12_s, ↓c22_28_s, ↓c22_11_s, ↓c22_10_s, ↓c22_9_s, ↓c22_8_s, ↓c22_7_s, ↓c22_5_s, ↓c22_31_s, ↓c22_30_s, ↓c22_29_s, ↓c22_4_s, ↓c22_35_s, ↓c22_34_s, ↓c22_33_s, ↓c22_32_s, ↓c22_40_s, ↓c22_43_s, ↓c22_42_s, ↓c22_41_s, ↓c22_39_s, ↓c22_38_s, ↓c22_37_s, ↓c22_36_s, ↓c22_2_s, ↓c22_1_s, ↓c22_s, ↓w3t_22, a1, a2]
   exact lineR_spec rfl rfl rfl (hf3.getN g1) (hf3.getN g2) hrf ((hsw.frN hf1).frN hf3) (hf1.trans' hf3) hft (by simp only [List.length_append, List.length_cons]; omega) hK
end
end Go.Proofs.YtbbjnplellanaaaDoor
