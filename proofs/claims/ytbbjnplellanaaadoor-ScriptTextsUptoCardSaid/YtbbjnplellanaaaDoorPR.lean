/- The law ScriptFull: walked. -/
import Derived.Test.YtbbjnplellanaaaDoorPQ
import Derived.Test.YtbbjnplellanaaaDoorMK
import Derived.Laws.IdiomStrings
set_option linter.unusedVariables false
set_option linter.unusedSimpArgs false
set_option maxRecDepth 100000
namespace Go.Proofs.YtbbjnplellanaaaDoor
open Go.VW
def encU (b : UInt8) : List Value := [.int .u8 b.toNat]
theorem encU_len (b : UInt8) : (encU b).length = 1 := rfl
theorem cellsU (xs : List UInt8) : cellsOf encU xs = xs.map fun b => Value.int .u8 b.toNat := by
 unfold cellsOf
 induction xs with
 | nil => rfl
 | cons x xs ih => rw [List.flatMap_cons, ih]; rfl
theorem fill_set (k i : Nat) (h : i < k) : (List.replicate i (32 : UInt8) ++ List.replicate (k - i) 0).set i 32 = List.replicate (i + 1) 32 ++ List.replicate (k - (i + 1)) 0 := by
 rw [List.set_append_right _ _ (by simp), List.length_replicate, Nat.sub_self]
 obtain ⟨m, hm⟩ : ∃ m, k - i = m + 1 := ⟨k - i - 1, by omega⟩
 rw [hm, List.replicate_succ, List.set_cons_zero, show k - (i + 1) = m by omega, List.replicate_succ']
 simp
theorem cvU {w : World} {g n c : Nat} {l : List UInt8} (h : Own 1 5 w (.slice (some ⟨g, 0, none⟩) n c) n (cellsOf encU l)) (hl : l.length = n) : (convert 43 9 (.slice (some ⟨g, 0, none⟩) n c)).run Tryd.prog w = .ok (.string (B l)) w := by
 rw [← hl]
 refine run_convert_bytes_back w 43 9 5 ⟨g, 0, none⟩ c l Tryd.underlying43 Tryd.underlying5 Tryd.underlying9 fun j hj => ?_
 rcases h.2 with ⟨h0, _⟩ | ⟨y, cap', cur', hvx, hb0, hgx, hnc, hcm, hcs, htk⟩
 ·cases h0
 ·simp only [Value.slice.injEq, Option.some.injEq, Addr.mk.injEq, and_true, true_and] at hvx
  obtain ⟨rfl, rfl⟩ := hvx
  have hcj : cur'.toList[j]? = some (.int .u8 (l[j].toNat : Int)) := by
   have h1 : (cur'.toList.take (n * 1))[j]? = cur'.toList[j]? := by rw [List.getElem?_take, if_pos (by omega)]
   rw [← h1, htk, cellsU]; simp [hj]
  simp only [add_at, World.cell?, hgx, Nat.zero_add]
  simpa using hcj
set_option maxHeartbeats 8000000 in
theorem full_spec {n : Int} {w : World} {K : Value → World → Prop} (h0 : 0 ≤ n) (h1 : n ≤ 65535) (hm : MaxL w) (ht : TabP w) (hK : ∀ w', Fr [] w w' → K (.bool true) w') : CallsN Tryd.prog 7 [.int .u16 n] w K := by
 have cw := cur w
 refine call7 ?_
 simp (maxSteps:=4000000)(disch:=first|assumption|(simp only[dz];first|done|assumption|omega)|omega|apply_rules[Fr.refl,Fr.alloc,Fr.drew]|rfl) only [↓gd,gp,Nat.reduceAdd,Nat.reduceEqDiff, ↓hk7]
 refine fixed_spec hm ht fun w1 hf1 => ?_
 have cw1 := cur w1
 simp (maxSteps:=4000000)(disch:=first|assumption|(simp only[dz];first|done|assumption|omega)|omega|apply_rules[Fr.refl,Fr.alloc,Fr.drew]|rfl) only [↓gd,gp,Nat.reduceAdd,Nat.reduceEqDiff, ↓hk7]
 obtain ⟨k, hk⟩ : ∃ k : Nat, k = 65400 + n.toNat % 300 := ⟨_, rfl⟩
 have hkr : IntKind.i64.wrap (65400 + n.tmod 300) = (k : Int) := by
  have ht : n.tmod 300 = n % 300 := Int.tmod_eq_emod_of_nonneg h0
  rw [ht, wrap64 (by omega) (by omega), hk]; omega
 have hmk := make_own (t := 43) (e := 5) (z := .int .u8 0) (n := k) (bytes := 1) (i := (Tryd.prog.info? 5).get (by kernel_rfl)) (by kernel_rfl) (by kernel_rfl) (by kernel_rfl) (by kernel_rfl) (by kernel_rfl) rfl (by omega) (by unfold maxLen; omega) w1
 obtain ⟨hmr, hmo⟩ := hmk
 obtain ⟨w2, hw2⟩ : ∃ w2, w2 = w1.alloc (.cells (List.replicate k (Value.int .u8 0)).toArray 5) := ⟨_, rfl⟩
 rw [← hw2] at hmr hmo
 have cw2 := cur w2
 have hf2 : Fr [] w w2 := by rw [hw2]; exact hf1.alloc _
 have hz : List.replicate k (Value.int .u8 0) = cellsOf encU (List.replicate 0 32 ++ List.replicate (k - 0) 0) := by rw [cellsU]; simp
 rw [hz] at hmo
 obtain ⟨g, hg⟩ : ∃ g, g = w1.heap.size := ⟨_, rfl⟩
 rw [← hg] at hmr hmo
 have hgw : w.heap.size ≤ g := by rw [hg]; exact hf1.size
 have hone : ∀ b : UInt8, (encU b).all oneC = true := fun b => rfl
 simp (maxSteps:=4000000)(disch:=first|assumption|(simp only[dz];first|done|assumption|omega)|omega|apply_rules[Fr.refl,Fr.alloc,Fr.drew]|rfl) only [↓gd,gp,Nat.reduceAdd,Nat.reduceEqDiff, ↓hk7, run_rem _ _ _ _ _ _ _ (show (300 : Int) ≠ 0 by decide), hkr, hmr]
 refine for_intro k 5 0 (fun i e w' => e 3 = .int .i64 k ∧ e 4 = .slice (some ⟨g, 0, none⟩) k k ∧ Own 1 5 w' (.slice (some ⟨g, 0, none⟩) k k) k (cellsOf encU (List.replicate i 32 ++ List.replicate (k - i) 0)) ∧ Fr [] w w') ?_ (Nat.zero_le _) ?_ ?_
 ·simp (maxSteps:=4000000)(disch:=first|assumption|(simp only[dz];first|done|assumption|omega)|omega|apply_rules[Fr.refl,Fr.alloc,Fr.drew]|rfl) only [↓gsd,gs,gv,Nat.reduceAdd,Nat.reduceEqDiff]; rfl
 ·refine ⟨?_, ?_, hmo, hf2⟩
  ·simp (maxSteps:=4000000)(disch:=first|assumption|(simp only[dz];first|done|assumption|omega)|omega|apply_rules[Fr.refl,Fr.alloc,Fr.drew]|rfl) only [↓gsd,gs,gv,Nat.reduceAdd,Nat.reduceEqDiff]
  ·simp (maxSteps:=4000000)(disch:=first|assumption|(simp only[dz];first|done|assumption|omega)|omega|apply_rules[Fr.refl,Fr.alloc,Fr.drew]|rfl) only [↓gsd,gs,gv,Nat.reduceAdd,Nat.reduceEqDiff]
 rintro i e w3 kk hi e5 ⟨e3, e4, ho, hf3⟩ hkk
 have cw3 := cur w3
 have wr : IntKind.i64.wrap ((i : Int) + 1) = (i : Int) + 1 := wrap64 (by omega) (by omega)
 by_cases hik : i < k
 ·have d : decide ((i : Int) < (k : Int)) = true := decide_eq_true (by omega)
  obtain ⟨o, o', hgo, hgl, hst, ho'⟩ := own_storeN encU_len hone ho (by simp only [List.length_append, List.length_replicate]; omega) hik 32
  rw [fill_set k i hik] at ho'
  unfold encU at hst
  simp only [Nat.mul_one] at hst
  have i0 : (0 : Int) ≤ (i : Int) := by omega
  have i1 : (i : Int) < (k : Int) := by omega
  have e32 : (((32 : UInt8).toNat : Nat) : Int) = 32 := rfl
  rw [e32] at hst
  simp (maxSteps:=4000000)(disch:=first|assumption|(simp only[dz];first|done|assumption|omega)|omega|apply_rules[Fr.refl,Fr.alloc,Fr.drew]|rfl) only [↓gd,gp,Nat.reduceAdd,Nat.reduceEqDiff, ↓hk7, e3, e4, e5, d, i0, i1, Int.toNat_natCast, Nat.mul_one, Nat.zero_add, hgo, hst, wr]
  refine hkk _ _ hik ?_ ⟨?_, ?_, ho', hf3.setB _ _ (.inr hgw)⟩
  ·simp (maxSteps:=4000000)(disch:=first|assumption|(simp only[dz];first|done|assumption|omega)|omega|apply_rules[Fr.refl,Fr.alloc,Fr.drew]|rfl) only [↓gsd,gs,gv,Nat.reduceAdd,Nat.reduceEqDiff]
  ·simp (maxSteps:=4000000)(disch:=first|assumption|(simp only[dz];first|done|assumption|omega)|omega|apply_rules[Fr.refl,Fr.alloc,Fr.drew]|rfl) only [↓gsd,gs,gv,Nat.reduceAdd,Nat.reduceEqDiff, e3]
  ·simp (maxSteps:=4000000)(disch:=first|assumption|(simp only[dz];first|done|assumption|omega)|omega|apply_rules[Fr.refl,Fr.alloc,Fr.drew]|rfl) only [↓gsd,gs,gv,Nat.reduceAdd,Nat.reduceEqDiff, e4]
 ·have d : decide ((i : Int) < (k : Int)) = false := decide_eq_false (by omega)
  have hi' : i = k := by omega
  have hk0 : 65400 ≤ k := by omega
  rw [hi', Nat.sub_self, List.replicate_zero, List.append_nil] at ho
  obtain ⟨o, o', hgo, hgl, hst, ho'⟩ := own_storeN encU_len hone ho (by simp) (show 0 < k by omega) 35
  have hfl : (List.replicate k (32 : UInt8)).set 0 35 = fullT k := by
   obtain ⟨m, rfl⟩ : ∃ m, k = m + 1 := ⟨k - 1, by omega⟩
   rw [List.replicate_succ, List.set_cons_zero]; rfl
  rw [hfl] at ho'
  unfold encU at hst
  simp only [Nat.zero_mul] at hst
  have e35 : (((35 : UInt8).toNat : Nat) : Int) = 35 := rfl
  rw [e35] at hst
  have hlen : (fullT k).length = k := by unfold fullT; simp only [List.length_cons, List.length_replicate]; omega
  have hcv := cvU ho' hlen
  have i1 : (0 : Int) < (k : Int) := by omega
  have cw4 := cur (w3.setB g o')
  simp (maxSteps:=4000000)(disch:=first|assumption|(simp only[dz];first|done|assumption|omega)|omega|apply_rules[Fr.refl,Fr.alloc,Fr.drew]|rfl) only [↓gd,gp,Nat.reduceAdd,Nat.reduceEqDiff, ↓hk7, e3, e4, e5, d, Int.le_refl, i1, Int.toNat_zero, Nat.zero_mul, Nat.zero_add, hgo, hst, hcv]
  have hf4 : Fr [] w (w3.setB g o') := hf3.setB _ _ (.inr hgw)
  refine parse_spec (hm.fr hf4) fun v5 w5 ho5 hf5 => ?_
  have cw5 := cur w5
  have hp := parse_full (show 1 ≤ k by omega)
  have hf05 := hf4.trans' hf5
  obtain ⟨rows, hrows, hoo⟩ := ho5
  obtain ⟨va, vc, hv5⟩ := hoo.own.sl.form
  have d00 : decide (((0 : Nat) : Int) = 0) = true := rfl
  have d01 : decide ((0 : Int) = 0) = true := rfl
  have d22 : decide ((2 : Int) = 2) = true := rfl
  by_cases q : k ≤ 65536
  ·have dq : decide ((k : Int) ≤ 65536) = true := decide_eq_true (by omega)
   rw [if_pos q] at hp
   rw [hp] at hrows ⊢
   have hr0 : rows = [] := by simpa using hrows
   rw [hr0] at hv5
   simp (maxSteps:=4000000)(disch:=first|assumption|(simp only[dz];first|done|assumption|omega)|omega|apply_rules[Fr.refl,Fr.alloc,Fr.drew]|rfl) only [↓gd,gp,Nat.reduceAdd,Nat.reduceEqDiff, ↓hk7, e3, hv5, dq, d00, d01, d22, List.length_nil]
   exact hK _ hf05
  ·have dq : decide ((k : Int) ≤ 65536) = false := decide_eq_false (by omega)
   rw [if_neg q] at hp
   rw [hp] at hrows ⊢
   have hr0 : rows = [] := by simpa using hrows
   rw [hr0] at hv5
   simp (maxSteps:=4000000)(disch:=first|assumption|(simp only[dz];first|done|assumption|omega)|omega|apply_rules[Fr.refl,Fr.alloc,Fr.drew]|rfl) only [↓gd,gp,Nat.reduceAdd,Nat.reduceEqDiff, ↓hk7, e3, hv5, dq, d00, d01, d22, List.length_nil]
   exact hK _ hf05
end Go.Proofs.YtbbjnplellanaaaDoor
