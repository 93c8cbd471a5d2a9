/- The reference's line: the whole. -/
import Derived.Test.YtbbjnplellanaaaDoorQC
set_option linter.unusedVariables false
set_option linter.unusedSimpArgs false
set_option maxRecDepth 100000
namespace Go.Proofs.YtbbjnplellanaaaDoor
open Go.VW
section
variable {f : Form} {s : Stp} {W0 w : World} {e : Env} {sb : Nat} {sv : SlV} {pre : Bs} {K : Value → World → Prop} {Q : Exit → Env → World → Prop}
set_option maxHeartbeats 64000000 in
theorem rlineR_spec (e1 : e 1 = .pointer (some ⟨sb, 0, none⟩)) (e4 : e 4 = .string (B pre)) (hsb : w.heap[sb]? = some (.cells (encStp (s, sv)).toArray 33 (0, 0))) (hfm : f ∈ formsL) (hk : s.kind = f.kind) (h1 : f.kind ≠ 1) (hsw : SlOf 3 encWr w (.slice sv.1 sv.2.1 sv.2.2) s.ws) (hf : Fr [] W0 w) (hft : Fits s) (hpl : pre.length ≤ 1000)
  (hK : ∀ v ok w', Fr [] W0 w' → ResL ((restT f s).map (pre ++ ·)) v ok → K (.tuple #[.string (B v), .bool ok]) w') : W3 Tryd.prog 149 V26 c26_8 (retQ Tryd.prog [.tmp 2, .tmp 3] K) e w := by
 have cw := cur w
 have hsb0 := hsb
 unfold encStp at hsb
 have hplain : ∀ {f : Form}, f.rf = 0 → f.kind ≠ 2 → restT f s = some [] := fun h h2 => by unfold restT; rw [if_neg (by simp [h]), if_pos h2]
 simp only [formsL, List.mem_cons, List.not_mem_nil, or_false] at hfm
 rcases hfm with rfl | rfl | rfl | rfl | rfl | rfl | rfl | rfl | rfl | rfl | rfl | rfl | rfl | rfl | rfl | rfl
 ·exact absurd rfl h1
 ·have hk' : s.kind = 2 := hk
  simp only [hk'] at hsb
  simp (maxSteps:=4000000)(disch:=first|assumption|(simp only[dz];first|done|assumption|omega)|omega|apply_rules[Fr.refl,Fr.alloc,Fr.drew]|rfl) only [↓gd,gp,Nat.reduceAdd,Nat.reduceEqDiff, ↓c26_10_s, ↓c26_16_s, ↓c26_22_s, ↓c26_23_s, ↓c26_21_s, ↓c26_20_s, ↓c26_26_s, ↓c26_25_s, ↓c26_24_s, ↓c26_19_s, ↓c26_18_s, ↓c26_17_s, ↓c26_15_s, ↓c26_28_s, ↓c26_27_s, ↓c26_14_s, ↓c26_13_s, ↓c26_12_s, ↓c26_11_s, ↓c26_33_s, ↓c26_36_s, ↓c26_35_s, ↓c26_34_s, ↓c26_32_s, ↓c26_31_s, ↓c26_30_s, ↓c26_29_s, ↓c26_8_s, ↓c26_7_s, ↓c26_39_s, ↓c26_38_s, ↓c26_37_s, ↓c26_6_s, ↓c26_44_s, ↓c26_47_s, ↓c26_50_s, ↓c26_49_s, ↓c26_55_s, ↓c26_54_s, ↓c26_53_s, ↓c26_52_s, ↓c26_51_s, ↓c26_48_s, ↓c26_46_s, ↓c26_60_s, ↓c26_59_s, ↓c26_58_s, ↓c26_57_s, ↓c26_56_s, ↓c26_45_s, ↓c26_43_s, ↓c26_69_s, ↓c26_68_s, ↓c26_67_s, ↓c26_66_s, ↓c26_65_s, ↓c26_64_s, ↓c26_63_s, ↓c26_62_s, ↓c26_61_s, ↓c26_42_s, ↓c26_41_s, ↓c26_40_s, ↓c26_5_s, ↓c26_4_s, ↓c26_72_s, ↓c26_71_s, ↓c26_70_s, ↓c26_3_s, ↓c26_2_s, ↓c26_75_s, ↓c26_74_s, ↓c26_73_s, ↓c26_1_s, ↓c26_s, ↓w3t_26, e1, e4, hsb, Int.reduceEq]
  refine rlineW_spec ?_ ?_ hsb0 hk' hsw hf hft hpl fun v ok w' hf' hr => hK v ok w' hf' hr
  ·simp (maxSteps:=4000000)(disch:=first|assumption|(simp only[dz];first|done|assumption|omega)|omega|apply_rules[Fr.refl,Fr.alloc,Fr.drew]|rfl) only [↓gsd,gs,gv,Nat.reduceAdd,Nat.reduceEqDiff, e1]
  ·simp (maxSteps:=4000000)(disch:=first|assumption|(simp only[dz];first|done|assumption|omega)|omega|apply_rules[Fr.refl,Fr.alloc,Fr.drew]|rfl) only [↓gsd,gs,gv,Nat.reduceAdd,Nat.reduceEqDiff, e4]
 ·have hk' : s.kind = 3 := hk
  simp only [hk'] at hsb
  rw [hplain rfl (by simp)] at hK
  simp (maxSteps:=4000000)(disch:=first|assumption|(simp only[dz];first|done|assumption|omega)|omega|apply_rules[Fr.refl,Fr.alloc,Fr.drew]|rfl) only [↓gd,gp,Nat.reduceAdd,Nat.reduceEqDiff, ↓hk26, e1, e4, hsb, Int.reduceEq]
  refine loop_intro (fun e' w' => e' 1 = .pointer (some ⟨sb, 0, none⟩) ∧ e' 4 = .string (B pre) ∧ w' = w) (fun _ _ => 0) ?_ ?_
  ·refine ⟨?_, ?_, rfl⟩
   ·simp (maxSteps:=4000000)(disch:=first|assumption|(simp only[dz];first|done|assumption|omega)|omega|apply_rules[Fr.refl,Fr.alloc,Fr.drew]|rfl) only [↓gsd,gs,gv,Nat.reduceAdd,Nat.reduceEqDiff, e1]
   ·simp (maxSteps:=4000000)(disch:=first|assumption|(simp only[dz];first|done|assumption|omega)|omega|apply_rules[Fr.refl,Fr.alloc,Fr.drew]|rfl) only [↓gsd,gs,gv,Nat.reduceAdd,Nat.reduceEqDiff, e4]
  rintro e' w' kk ⟨e1', e4', rfl⟩ _
  simp (maxSteps:=4000000)(disch:=first|assumption|(simp only[dz];first|done|assumption|omega)|omega|apply_rules[Fr.refl,Fr.alloc,Fr.drew]|rfl) only [↓gd,gp,Nat.reduceAdd,Nat.reduceEqDiff, ↓hk26, e1', e4', hsb, Int.reduceEq]
  exact hK _ _ _ hf (.inl ⟨by simp, rfl⟩)
 ·have hk' : s.kind = 4 := hk
  simp only [hk'] at hsb
  rw [hplain rfl (by simp)] at hK
  simp (maxSteps:=4000000)(disch:=first|assumption|(simp only[dz];first|done|assumption|omega)|omega|apply_rules[Fr.refl,Fr.alloc,Fr.drew]|rfl) only [↓gd,gp,Nat.reduceAdd,Nat.reduceEqDiff, ↓hk26, e1, e4, hsb, Int.reduceEq]
  refine loop_intro (fun e' w' => e' 1 = .pointer (some ⟨sb, 0, none⟩) ∧ e' 4 = .string (B pre) ∧ w' = w) (fun _ _ => 0) ?_ ?_
  ·refine ⟨?_, ?_, rfl⟩
   ·simp (maxSteps:=4000000)(disch:=first|assumption|(simp only[dz];first|done|assumption|omega)|omega|apply_rules[Fr.refl,Fr.alloc,Fr.drew]|rfl) only [↓gsd,gs,gv,Nat.reduceAdd,Nat.reduceEqDiff, e1]
   ·simp (maxSteps:=4000000)(disch:=first|assumption|(simp only[dz];first|done|assumption|omega)|omega|apply_rules[Fr.refl,Fr.alloc,Fr.drew]|rfl) only [↓gsd,gs,gv,Nat.reduceAdd,Nat.reduceEqDiff, e4]
  rintro e' w' kk ⟨e1', e4', rfl⟩ _
  simp (maxSteps:=4000000)(disch:=first|assumption|(simp only[dz];first|done|assumption|omega)|omega|apply_rules[Fr.refl,Fr.alloc,Fr.drew]|rfl) only [↓gd,gp,Nat.reduceAdd,Nat.reduceEqDiff, ↓hk26, e1', e4', hsb, Int.reduceEq]
  exact hK _ _ _ hf (.inl ⟨by simp, rfl⟩)
 ·have hk' : s.kind = 5 := hk
  simp only [hk'] at hsb
  have hgr : s.getR 1 = s.key := rfl
  have hrt : restT ⟨[114, 101, 97, 100], 5, 2, 1⟩ s = if s.key ≠ [] ∧ plainB s.key = true then some (32 :: s.key) else none := by unfold restT; rw [if_pos (by simp)]; rfl
  rw [hrt] at hK
  have hlx := hft.key
  have a1 := fun x' y' w => add9r x' y' pre [32] (by simp only [List.length_cons, List.length_nil]; omega) w
  have a2 := fun x' y' w => add9 x' y' (pre ++ [32]) s.key (by simp only [List.length_append, List.length_cons, List.length_nil]; omega) w
  have d0 : decide (B s.key = ⟨#[]⟩) = decide (s.key = []) := by simp only [B_lit]
  by_cases q : s.key = []
  ·rw [decide_eq_true q] at d0
   simp (maxSteps:=4000000)(disch:=first|assumption|(simp only[dz];first|done|assumption|omega)|omega|apply_rules[Fr.refl,Fr.alloc,Fr.drew]|rfl) only [↓gd,gp,Nat.reduceAdd,Nat.reduceEqDiff, ↓hk26, e1, e4, hsb, Int.reduceEq, a1, a2, d0]
   exact hK _ _ _ hf (.inr ⟨by rw [if_neg (fun h => h.1 q)]; rfl, rfl⟩)
  ·rw [decide_eq_false q] at d0
   simp (maxSteps:=4000000)(disch:=first|assumption|(simp only[dz];first|done|assumption|omega)|omega|apply_rules[Fr.refl,Fr.alloc,Fr.drew]|rfl) only [↓gd,gp,Nat.reduceAdd,Nat.reduceEqDiff, ↓hk26, e1, e4, hsb, Int.reduceEq, a1, a2, d0]
   refine rwithout_spec (a := 32) (b := 10) (c := 10) (by omega) ?_
   rw [no_two]
   refine hK _ _ _ hf ?_
   cases q2 : plainB s.key with
   | true => rw [if_pos ⟨q, rfl⟩]; exact .inl ⟨by simp, rfl⟩
   | false => rw [if_neg (fun h => by simp at h)]; exact .inr ⟨rfl, rfl⟩
 ·have hk' : s.kind = 6 := hk
  simp only [hk'] at hsb
  rw [hplain rfl (by simp)] at hK
  simp (maxSteps:=4000000)(disch:=first|assumption|(simp only[dz];first|done|assumption|omega)|omega|apply_rules[Fr.refl,Fr.alloc,Fr.drew]|rfl) only [↓gd,gp,Nat.reduceAdd,Nat.reduceEqDiff, ↓hk26, e1, e4, hsb, Int.reduceEq]
  refine loop_intro (fun e' w' => e' 1 = .pointer (some ⟨sb, 0, none⟩) ∧ e' 4 = .string (B pre) ∧ w' = w) (fun _ _ => 0) ?_ ?_
  ·refine ⟨?_, ?_, rfl⟩
   ·simp (maxSteps:=4000000)(disch:=first|assumption|(simp only[dz];first|done|assumption|omega)|omega|apply_rules[Fr.refl,Fr.alloc,Fr.drew]|rfl) only [↓gsd,gs,gv,Nat.reduceAdd,Nat.reduceEqDiff, e1]
   ·simp (maxSteps:=4000000)(disch:=first|assumption|(simp only[dz];first|done|assumption|omega)|omega|apply_rules[Fr.refl,Fr.alloc,Fr.drew]|rfl) only [↓gsd,gs,gv,Nat.reduceAdd,Nat.reduceEqDiff, e4]
  rintro e' w' kk ⟨e1', e4', rfl⟩ _
  simp (maxSteps:=4000000)(disch:=first|assumption|(simp only[dz];first|done|assumption|omega)|omega|apply_rules[Fr.refl,Fr.alloc,Fr.drew]|rfl) only [↓gd,gp,Nat.reduceAdd,Nat.reduceEqDiff, ↓hk26, e1', e4', hsb, Int.reduceEq]
  exact hK _ _ _ hf (.inl ⟨by simp, rfl⟩)
 ·have hk' : s.kind = 7 := hk
  simp only [hk'] at hsb
  rw [hplain rfl (by simp)] at hK
  simp (maxSteps:=4000000)(disch:=first|assumption|(simp only[dz];first|done|assumption|omega)|omega|apply_rules[Fr.refl,Fr.alloc,Fr.drew]|rfl) only [↓gd,gp,Nat.reduceAdd,Nat.reduceEqDiff, ↓hk26, e1, e4, hsb, Int.reduceEq]
  refine loop_intro (fun e' w' => e' 1 = .pointer (some ⟨sb, 0, none⟩) ∧ e' 4 = .string (B pre) ∧ w' = w) (fun _ _ => 0) ?_ ?_
  ·refine ⟨?_, ?_, rfl⟩
   ·simp (maxSteps:=4000000)(disch:=first|assumption|(simp only[dz];first|done|assumption|omega)|omega|apply_rules[Fr.refl,Fr.alloc,Fr.drew]|rfl) only [↓gsd,gs,gv,Nat.reduceAdd,Nat.reduceEqDiff, e1]
   ·simp (maxSteps:=4000000)(disch:=first|assumption|(simp only[dz];first|done|assumption|omega)|omega|apply_rules[Fr.refl,Fr.alloc,Fr.drew]|rfl) only [↓gsd,gs,gv,Nat.reduceAdd,Nat.reduceEqDiff, e4]
  rintro e' w' kk ⟨e1', e4', rfl⟩ _
  simp (maxSteps:=4000000)(disch:=first|assumption|(simp only[dz];first|done|assumption|omega)|omega|apply_rules[Fr.refl,Fr.alloc,Fr.drew]|rfl) only [↓gd,gp,Nat.reduceAdd,Nat.reduceEqDiff, ↓hk26, e1', e4', hsb, Int.reduceEq]
  exact hK _ _ _ hf (.inl ⟨by simp, rfl⟩)
 ·have hk' : s.kind = 8 := hk
  simp only [hk'] at hsb
  rw [hplain rfl (by simp)] at hK
  simp (maxSteps:=4000000)(disch:=first|assumption|(simp only[dz];first|done|assumption|omega)|omega|apply_rules[Fr.refl,Fr.alloc,Fr.drew]|rfl) only [↓gd,gp,Nat.reduceAdd,Nat.reduceEqDiff, ↓hk26, e1, e4, hsb, Int.reduceEq]
  refine loop_intro (fun e' w' => e' 1 = .pointer (some ⟨sb, 0, none⟩) ∧ e' 4 = .string (B pre) ∧ w' = w) (fun _ _ => 0) ?_ ?_
  ·refine ⟨?_, ?_, rfl⟩
   ·simp (maxSteps:=4000000)(disch:=first|assumption|(simp only[dz];first|done|assumption|omega)|omega|apply_rules[Fr.refl,Fr.alloc,Fr.drew]|rfl) only [↓gsd,gs,gv,Nat.reduceAdd,Nat.reduceEqDiff, e1]
   ·simp (maxSteps:=4000000)(disch:=first|assumption|(simp only[dz];first|done|assumption|omega)|omega|apply_rules[Fr.refl,Fr.alloc,Fr.drew]|rfl) only [↓gsd,gs,gv,Nat.reduceAdd,Nat.reduceEqDiff, e4]
  rintro e' w' kk ⟨e1', e4', rfl⟩ _
  simp (maxSteps:=4000000)(disch:=first|assumption|(simp only[dz];first|done|assumption|omega)|omega|apply_rules[Fr.refl,Fr.alloc,Fr.drew]|rfl) only [↓gd,gp,Nat.reduceAdd,Nat.reduceEqDiff, ↓hk26, e1', e4', hsb, Int.reduceEq]
  exact hK _ _ _ hf (.inl ⟨by simp, rfl⟩)
 ·have hk' : s.kind = 9 := hk
  simp only [hk'] at hsb
  rw [hplain rfl (by simp)] at hK
  simp (maxSteps:=4000000)(disch:=first|assumption|(simp only[dz];first|done|assumption|omega)|omega|apply_rules[Fr.refl,Fr.alloc,Fr.drew]|rfl) only [↓gd,gp,Nat.reduceAdd,Nat.reduceEqDiff, ↓hk26, e1, e4, hsb, Int.reduceEq]
  refine loop_intro (fun e' w' => e' 1 = .pointer (some ⟨sb, 0, none⟩) ∧ e' 4 = .string (B pre) ∧ w' = w) (fun _ _ => 0) ?_ ?_
  ·refine ⟨?_, ?_, rfl⟩
   ·simp (maxSteps:=4000000)(disch:=first|assumption|(simp only[dz];first|done|assumption|omega)|omega|apply_rules[Fr.refl,Fr.alloc,Fr.drew]|rfl) only [↓gsd,gs,gv,Nat.reduceAdd,Nat.reduceEqDiff, e1]
   ·simp (maxSteps:=4000000)(disch:=first|assumption|(simp only[dz];first|done|assumption|omega)|omega|apply_rules[Fr.refl,Fr.alloc,Fr.drew]|rfl) only [↓gsd,gs,gv,Nat.reduceAdd,Nat.reduceEqDiff, e4]
  rintro e' w' kk ⟨e1', e4', rfl⟩ _
  simp (maxSteps:=4000000)(disch:=first|assumption|(simp only[dz];first|done|assumption|omega)|omega|apply_rules[Fr.refl,Fr.alloc,Fr.drew]|rfl) only [↓gd,gp,Nat.reduceAdd,Nat.reduceEqDiff, ↓hk26, e1', e4', hsb, Int.reduceEq]
  exact hK _ _ _ hf (.inl ⟨by simp, rfl⟩)
 ·have hk' : s.kind = 10 := hk
  simp only [hk'] at hsb
  rw [hplain rfl (by simp)] at hK
  simp (maxSteps:=4000000)(disch:=first|assumption|(simp only[dz];first|done|assumption|omega)|omega|apply_rules[Fr.refl,Fr.alloc,Fr.drew]|rfl) only [↓gd,gp,Nat.reduceAdd,Nat.reduceEqDiff, ↓hk26, e1, e4, hsb, Int.reduceEq]
  refine loop_intro (fun e' w' => e' 1 = .pointer (some ⟨sb, 0, none⟩) ∧ e' 4 = .string (B pre) ∧ w' = w) (fun _ _ => 0) ?_ ?_
  ·refine ⟨?_, ?_, rfl⟩
   ·simp (maxSteps:=4000000)(disch:=first|assumption|(simp only[dz];first|done|assumption|omega)|omega|apply_rules[Fr.refl,Fr.alloc,Fr.drew]|rfl) only [↓gsd,gs,gv,Nat.reduceAdd,Nat.reduceEqDiff, e1]
   ·simp (maxSteps:=4000000)(disch:=first|assumption|(simp only[dz];first|done|assumption|omega)|omega|apply_rules[Fr.refl,Fr.alloc,Fr.drew]|rfl) only [↓gsd,gs,gv,Nat.reduceAdd,Nat.reduceEqDiff, e4]
  rintro e' w' kk ⟨e1', e4', rfl⟩ _
  simp (maxSteps:=4000000)(disch:=first|assumption|(simp only[dz];first|done|assumption|omega)|omega|apply_rules[Fr.refl,Fr.alloc,Fr.drew]|rfl) only [↓gd,gp,Nat.reduceAdd,Nat.reduceEqDiff, ↓hk26, e1', e4', hsb, Int.reduceEq]
  exact hK _ _ _ hf (.inl ⟨by simp, rfl⟩)
 ·have hk' : s.kind = 11 := hk
  simp only [hk'] at hsb
  rw [hplain rfl (by simp)] at hK
  simp (maxSteps:=4000000)(disch:=first|assumption|(simp only[dz];first|done|assumption|omega)|omega|apply_rules[Fr.refl,Fr.alloc,Fr.drew]|rfl) only [↓gd,gp,Nat.reduceAdd,Nat.reduceEqDiff, ↓hk26, e1, e4, hsb, Int.reduceEq]
  refine loop_intro (fun e' w' => e' 1 = .pointer (some ⟨sb, 0, none⟩) ∧ e' 4 = .string (B pre) ∧ w' = w) (fun _ _ => 0) ?_ ?_
  ·refine ⟨?_, ?_, rfl⟩
   ·simp (maxSteps:=4000000)(disch:=first|assumption|(simp only[dz];first|done|assumption|omega)|omega|apply_rules[Fr.refl,Fr.alloc,Fr.drew]|rfl) only [↓gsd,gs,gv,Nat.reduceAdd,Nat.reduceEqDiff, e1]
   ·simp (maxSteps:=4000000)(disch:=first|assumption|(simp only[dz];first|done|assumption|omega)|omega|apply_rules[Fr.refl,Fr.alloc,Fr.drew]|rfl) only [↓gsd,gs,gv,Nat.reduceAdd,Nat.reduceEqDiff, e4]
  rintro e' w' kk ⟨e1', e4', rfl⟩ _
  simp (maxSteps:=4000000)(disch:=first|assumption|(simp only[dz];first|done|assumption|omega)|omega|apply_rules[Fr.refl,Fr.alloc,Fr.drew]|rfl) only [↓gd,gp,Nat.reduceAdd,Nat.reduceEqDiff, ↓hk26, e1', e4', hsb, Int.reduceEq]
  exact hK _ _ _ hf (.inl ⟨by simp, rfl⟩)
 ·have hk' : s.kind = 12 := hk
  simp only [hk'] at hsb
  rw [hplain rfl (by simp)] at hK
  simp (maxSteps:=4000000)(disch:=first|assumption|(simp only[dz];first|done|assumption|omega)|omega|apply_rules[Fr.refl,Fr.alloc,Fr.drew]|rfl) only [↓gd,gp,Nat.reduceAdd,Nat.reduceEqDiff, ↓hk26, e1, e4, hsb, Int.reduceEq]
  refine loop_intro (fun e' w' => e' 1 = .pointer (some ⟨sb, 0, none⟩) ∧ e' 4 = .string (B pre) ∧ w' = w) (fun _ _ => 0) ?_ ?_
  ·refine ⟨?_, ?_, rfl⟩
   ·simp (maxSteps:=4000000)(disch:=first|assumption|(simp only[dz];first|done|assumption|omega)|omega|apply_rules[Fr.refl,Fr.alloc,Fr.drew]|rfl) only [↓gsd,gs,gv,Nat.reduceAdd,Nat.reduceEqDiff, e1]
   ·simp (maxSteps:=4000000)(disch:=first|assumption|(simp only[dz];first|done|assumption|omega)|omega|apply_rules[Fr.refl,Fr.alloc,Fr.drew]|rfl) only [↓gsd,gs,gv,Nat.reduceAdd,Nat.reduceEqDiff, e4]
  rintro e' w' kk ⟨e1', e4', rfl⟩ _
  simp (maxSteps:=4000000)(disch:=first|assumption|(simp only[dz];first|done|assumption|omega)|omega|apply_rules[Fr.refl,Fr.alloc,Fr.drew]|rfl) only [↓gd,gp,Nat.reduceAdd,Nat.reduceEqDiff, ↓hk26, e1', e4', hsb, Int.reduceEq]
  exact hK _ _ _ hf (.inl ⟨by simp, rfl⟩)
 ·have hk' : s.kind = 13 := hk
  simp only [hk'] at hsb
  rw [hplain rfl (by simp)] at hK
  simp (maxSteps:=4000000)(disch:=first|assumption|(simp only[dz];first|done|assumption|omega)|omega|apply_rules[Fr.refl,Fr.alloc,Fr.drew]|rfl) only [↓gd,gp,Nat.reduceAdd,Nat.reduceEqDiff, ↓hk26, e1, e4, hsb, Int.reduceEq]
  refine loop_intro (fun e' w' => e' 1 = .pointer (some ⟨sb, 0, none⟩) ∧ e' 4 = .string (B pre) ∧ w' = w) (fun _ _ => 0) ?_ ?_
  ·refine ⟨?_, ?_, rfl⟩
   ·simp (maxSteps:=4000000)(disch:=first|assumption|(simp only[dz];first|done|assumption|omega)|omega|apply_rules[Fr.refl,Fr.alloc,Fr.drew]|rfl) only [↓gsd,gs,gv,Nat.reduceAdd,Nat.reduceEqDiff, e1]
   ·simp (maxSteps:=4000000)(disch:=first|assumption|(simp only[dz];first|done|assumption|omega)|omega|apply_rules[Fr.refl,Fr.alloc,Fr.drew]|rfl) only [↓gsd,gs,gv,Nat.reduceAdd,Nat.reduceEqDiff, e4]
  rintro e' w' kk ⟨e1', e4', rfl⟩ _
  simp (maxSteps:=4000000)(disch:=first|assumption|(simp only[dz];first|done|assumption|omega)|omega|apply_rules[Fr.refl,Fr.alloc,Fr.drew]|rfl) only [↓gd,gp,Nat.reduceAdd,Nat.reduceEqDiff, ↓hk26, e1', e4', hsb, Int.reduceEq]
  exact hK _ _ _ hf (.inl ⟨by simp, rfl⟩)
 ·have hk' : s.kind = 14 := hk
  simp only [hk'] at hsb
  rw [hplain rfl (by simp)] at hK
  simp (maxSteps:=4000000)(disch:=first|assumption|(simp only[dz];first|done|assumption|omega)|omega|apply_rules[Fr.refl,Fr.alloc,Fr.drew]|rfl) only [↓gd,gp,Nat.reduceAdd,Nat.reduceEqDiff, ↓hk26, e1, e4, hsb, Int.reduceEq]
  refine loop_intro (fun e' w' => e' 1 = .pointer (some ⟨sb, 0, none⟩) ∧ e' 4 = .string (B pre) ∧ w' = w) (fun _ _ => 0) ?_ ?_
  ·refine ⟨?_, ?_, rfl⟩
   ·simp (maxSteps:=4000000)(disch:=first|assumption|(simp only[dz];first|done|assumption|omega)|omega|apply_rules[Fr.refl,Fr.alloc,Fr.drew]|rfl) only [↓gsd,gs,gv,Nat.reduceAdd,Nat.reduceEqDiff, e1]
   ·simp (maxSteps:=4000000)(disch:=first|assumption|(simp only[dz];first|done|assumption|omega)|omega|apply_rules[Fr.refl,Fr.alloc,Fr.drew]|rfl) only [↓gsd,gs,gv,Nat.reduceAdd,Nat.reduceEqDiff, e4]
  rintro e' w' kk ⟨e1', e4', rfl⟩ _
  simp (maxSteps:=4000000)(disch:=first|assumption|(simp only[dz];first|done|assumption|omega)|omega|apply_rules[Fr.refl,Fr.alloc,Fr.drew]|rfl) only [↓gd,gp,Nat.reduceAdd,Nat.reduceEqDiff, ↓hk26, e1', e4', hsb, Int.reduceEq]
  exact hK _ _ _ hf (.inl ⟨by simp, rfl⟩)
 ·have hk' : s.kind = 15 := hk
  simp only [hk'] at hsb
  rw [hplain rfl (by simp)] at hK
  simp (maxSteps:=4000000)(disch:=first|assumption|(simp only[dz];first|done|assumption|omega)|omega|apply_rules[Fr.refl,Fr.alloc,Fr.drew]|rfl) only [↓gd,gp,Nat.reduceAdd,Nat.reduceEqDiff, ↓hk26, e1, e4, hsb, Int.reduceEq]
  refine loop_intro (fun e' w' => e' 1 = .pointer (some ⟨sb, 0, none⟩) ∧ e' 4 = .string (B pre) ∧ w' = w) (fun _ _ => 0) ?_ ?_
  ·refine ⟨?_, ?_, rfl⟩
   ·simp (maxSteps:=4000000)(disch:=first|assumption|(simp only[dz];first|done|assumption|omega)|omega|apply_rules[Fr.refl,Fr.alloc,Fr.drew]|rfl) only [↓gsd,gs,gv,Nat.reduceAdd,Nat.reduceEqDiff, e1]
   ·simp (maxSteps:=4000000)(disch:=first|assumption|(simp only[dz];first|done|assumption|omega)|omega|apply_rules[Fr.refl,Fr.alloc,Fr.drew]|rfl) only [↓gsd,gs,gv,Nat.reduceAdd,Nat.reduceEqDiff, e4]
  rintro e' w' kk ⟨e1', e4', rfl⟩ _
  simp (maxSteps:=4000000)(disch:=first|assumption|(simp only[dz];first|done|assumption|omega)|omega|apply_rules[Fr.refl,Fr.alloc,Fr.drew]|rfl) only [↓gd,gp,Nat.reduceAdd,Nat.reduceEqDiff, ↓hk26, e1', e4', hsb, Int.reduceEq]
  exact hK _ _ _ hf (.inl ⟨by simp, rfl⟩)
 ·have hk' : s.kind = 16 := hk
  simp only [hk'] at hsb
  have hgr : s.getR 2 = s.text := rfl
  have hrt : restT ⟨[106, 111, 105, 110], 16, 1, 2⟩ s = if s.text ≠ [] ∧ plainB s.text = true then some (32 :: s.text) else none := by unfold restT; rw [if_pos (by simp)]; rfl
  rw [hrt] at hK
  have hlx := hft.text
  have a1 := fun x' y' w => add9r x' y' pre [32] (by simp only [List.length_cons, List.length_nil]; omega) w
  have a2 := fun x' y' w => add9 x' y' (pre ++ [32]) s.text (by simp only [List.length_append, List.length_cons, List.length_nil]; omega) w
  have d0 : decide (B s.text = ⟨#[]⟩) = decide (s.text = []) := by simp only [B_lit]
  by_cases q : s.text = []
  ·rw [decide_eq_true q] at d0
   simp (maxSteps:=4000000)(disch:=first|assumption|(simp only[dz];first|done|assumption|omega)|omega|apply_rules[Fr.refl,Fr.alloc,Fr.drew]|rfl) only [↓gd,gp,Nat.reduceAdd,Nat.reduceEqDiff, ↓hk26, e1, e4, hsb, Int.reduceEq, a1, a2, d0]
   exact hK _ _ _ hf (.inr ⟨by rw [if_neg (fun h => h.1 q)]; rfl, rfl⟩)
  ·rw [decide_eq_false q] at d0
   simp (maxSteps:=4000000)(disch:=first|assumption|(simp only[dz];first|done|assumption|omega)|omega|apply_rules[Fr.refl,Fr.alloc,Fr.drew]|rfl) only [↓gd,gp,Nat.reduceAdd,Nat.reduceEqDiff, ↓hk26, e1, e4, hsb, Int.reduceEq, a1, a2, d0]
   refine rwithout_spec (a := 32) (b := 10) (c := 10) (by omega) ?_
   rw [no_two]
   refine hK _ _ _ hf ?_
   cases q2 : plainB s.text with
   | true => rw [if_pos ⟨q, rfl⟩]; exact .inl ⟨by simp, rfl⟩
   | false => rw [if_neg (fun h => by simp at h)]; exact .inr ⟨rfl, rfl⟩
set_option maxHeartbeats 16000000 in
theorem rline_spec (hsw : SlOf 3 encWr w (.slice sv.1 sv.2.1 sv.2.2) s.ws) (hft : Fits s)
  (hK : ∀ v ok w', Fr [] w w' → ResL (lineS s) v ok → K (.tuple #[.string (B v), .bool ok]) w') : CallsN Tryd.prog 26 [.agg (encStp (s, sv)).toArray] w K := by
 have cw := cur w
 obtain ⟨w1, hw1⟩ : ∃ w1, w1 = w.alloc (.cells (encStp (s, sv)).toArray 33 (0, 0)) := ⟨_, rfl⟩
 have g1 : w1.heap[w.heap.size]? = some (.cells (encStp (s, sv)).toArray 33 (0, 0)) := by rw [hw1]; exact get_alloc_new _ _
 have hf1 : Fr [] w w1 := by rw [hw1]; exact (Fr.refl _ _).alloc _
 have cw1 := cur w1
 refine call26 ?_
 simp (maxSteps:=4000000)(disch:=first|assumption|(simp only[dz];first|done|assumption|omega)|omega|apply_rules[Fr.refl,Fr.alloc,Fr.drew]|rfl) only [↓gd,gp,Nat.reduceAdd,Nat.reduceEqDiff, ↓c26_10_s, ↓c26_16_s, ↓c26_22_s, ↓c26_23_s, ↓c26_21_s, ↓c26_20_s, ↓c26_26_s, ↓c26_25_s, ↓c26_24_s, ↓c26_19_s, ↓c26_18_s, ↓c26_17_s, ↓c26_15_s, ↓c26_28_s, ↓c26_27_s, ↓c26_14_s, ↓c26_13_s, ↓c26_12_s, ↓c26_11_s, ↓c26_9_s, ↓c26_33_s, ↓c26_36_s, ↓c26_35_s, ↓c26_34_s, ↓c26_32_s, ↓c26_31_s, ↓c26_30_s, ↓c26_29_s, ↓c26_8_s, ↓c26_7_s, ↓c26_39_s, ↓c26_38_s, ↓c26_37_s, ↓c26_6_s, ↓c26_44_s, ↓c26_47_s, ↓c26_50_s, ↓c26_49_s, ↓c26_55_s, ↓c26_54_s, ↓c26_53_s, ↓c26_52_s, ↓c26_51_s, ↓c26_48_s, ↓c26_46_s, ↓c26_60_s, ↓c26_59_s, ↓c26_58_s, ↓c26_57_s, ↓c26_56_s, ↓c26_45_s, ↓c26_43_s, ↓c26_69_s, ↓c26_68_s, ↓c26_67_s, ↓c26_66_s, ↓c26_65_s, ↓c26_64_s, ↓c26_63_s, ↓c26_62_s, ↓c26_61_s, ↓c26_42_s, ↓c26_41_s, ↓c26_40_s, ↓c26_5_s, ↓c26_4_s, ↓c26_72_s, ↓c26_71_s, ↓c26_70_s, ↓c26_3_s, ↓c26_2_s, ↓c26_75_s, ↓c26_74_s, ↓c26_73_s, ↓c26_s, ↓w3t_26]
 rw [← hw1]
 have g1' := g1
 unfold encStp at g1'
 by_cases q0 : s.kind < 1
 ·have d0 : decide (s.kind < 1) = true := decide_eq_true q0
  simp (maxSteps:=4000000)(disch:=first|assumption|(simp only[dz];first|done|assumption|omega)|omega|apply_rules[Fr.refl,Fr.alloc,Fr.drew]|rfl) only [↓gd,gp,Nat.reduceAdd,Nat.reduceEqDiff, ↓hk26, g1', d0]
  exact hK [] _ _ hf1 (.inr ⟨by unfold lineS; rw [if_neg (by omega)], rfl⟩)
 have d0 : decide (s.kind < 1) = false := decide_eq_false q0
 by_cases q1 : 16 < s.kind
 ·have d1 : decide ((16 : Int) < s.kind) = true := decide_eq_true q1
  simp (maxSteps:=4000000)(disch:=first|assumption|(simp only[dz];first|done|assumption|omega)|omega|apply_rules[Fr.refl,Fr.alloc,Fr.drew]|rfl) only [↓gd,gp,Nat.reduceAdd,Nat.reduceEqDiff, ↓hk26, g1', d0, d1]
  exact hK [] _ _ hf1 (.inr ⟨by unfold lineS; rw [if_neg (by omega)], rfl⟩)
 have d1 : decide ((16 : Int) < s.kind) = false := decide_eq_false q1
 obtain ⟨f, hfk, hnf, hrf, hwl⟩ := form_at (k := (s.kind - 1).toNat) (by omega)
 have hls : lineS s = lineF f s := by unfold lineS; rw [if_pos (by omega), hfk]; rfl
 have hfm : f ∈ formsL := List.mem_of_getElem? hfk
 have hkf : s.kind = f.kind := by
  have hkl : (s.kind - 1).toNat < 16 := by omega
  have : ∀ k, k < 16 → ∀ f, formsL[k]? = some f → f.kind = k + 1 := by
   intro k hk f hf
   have : k = 0 ∨ k = 1 ∨ k = 2 ∨ k = 3 ∨ k = 4 ∨ k = 5 ∨ k = 6 ∨ k = 7 ∨ k = 8 ∨ k = 9 ∨ k = 10 ∨ k = 11 ∨ k = 12 ∨ k = 13 ∨ k = 14 ∨ k = 15 := by omega
   rcases this with rfl | rfl | rfl | rfl | rfl | rfl | rfl | rfl | rfl | rfl | rfl | rfl | rfl | rfl | rfl | rfl <;> (cases hf; rfl)
  have := this _ hkl f hfk
  omega
 rw [hls] at hK
 simp (maxSteps:=4000000)(disch:=first|assumption|(simp only[dz];first|done|assumption|omega)|omega|apply_rules[Fr.refl,Fr.alloc,Fr.drew]|rfl) only [↓gd,gp,Nat.reduceAdd,Nat.reduceEqDiff, ↓hk26, g1', d0, d1]
 refine rname_spec (by omega) hfk (by omega) fun w2 hf2 => ?_
 have cw2 := cur w2
 have g2 := hf2.getN g1
 have g2' := g2
 unfold encStp at g2'
 have hf02 := hf1.trans' hf2
 by_cases h1 : f.kind = 1
 ·have dk : decide (s.kind = 1) = true := decide_eq_true (by omega)
  have hfz : f.nf = 0 ∧ f.rf = 0 := by
   simp only [formsL, List.mem_cons, List.not_mem_nil, or_false] at hfm
   rcases hfm with rfl | rfl | rfl | rfl | rfl | rfl | rfl | rfl | rfl | rfl | rfl | rfl | rfl | rfl | rfl | rfl <;> simp at h1 ⊢
  have hl : lineF f s = some f.word := by
   unfold lineF numT restT
   rw [if_pos hfz.1, if_neg (by simp [hfz.2]), if_pos (by omega)]; simp
  simp (maxSteps:=4000000)(disch:=first|assumption|(simp only[dz];first|done|assumption|omega)|omega|apply_rules[Fr.refl,Fr.alloc,Fr.drew]|rfl) only [↓gd,gp,Nat.reduceAdd,Nat.reduceEqDiff, ↓hk26, g2', dk]
  exact hK _ _ _ hf02 (.inl ⟨hl, rfl⟩)
 have dk : decide (s.kind = 1) = false := decide_eq_false (by omega)
 have hnf0 : f.nf ≠ 0 := by
  simp only [formsL, List.mem_cons, List.not_mem_nil, or_false] at hfm
  rcases hfm with rfl | rfl | rfl | rfl | rfl | rfl | rfl | rfl | rfl | rfl | rfl | rfl | rfl | rfl | rfl | rfl <;> simp at h1 ⊢
 simp (maxSteps:=4000000)(disch:=first|assumption|(simp only[dz];first|done|assumption|omega)|omega|apply_rules[Fr.refl,Fr.alloc,Fr.drew]|rfl) only [↓gd,gp,Nat.reduceAdd,Nat.reduceEqDiff, ↓c26_10_s, ↓c26_16_s, ↓c26_22_s, ↓c26_23_s, ↓c26_21_s, ↓c26_20_s, ↓c26_26_s, ↓c26_25_s, ↓c26_24_s, ↓c26_19_s, ↓c26_18_s, ↓c26_17_s, ↓c26_15_s, ↓c26_28_s, ↓c26_27_s, ↓c26_14_s, ↓c26_13_s, ↓c26_12_s, ↓c26_11_s, ↓c26_9_s, ↓c26_33_s, ↓c26_36_s, ↓c26_35_s, ↓c26_34_s, ↓c26_32_s, ↓c26_31_s, ↓c26_30_s, ↓c26_29_s, ↓c26_8_s, ↓c26_7_s, ↓c26_39_s, ↓c26_38_s, ↓c26_37_s, ↓c26_6_s, ↓c26_44_s, ↓c26_47_s, ↓c26_50_s, ↓c26_49_s, ↓c26_55_s, ↓c26_54_s, ↓c26_53_s, ↓c26_52_s, ↓c26_51_s, ↓c26_48_s, ↓c26_46_s, ↓c26_60_s, ↓c26_59_s, ↓c26_58_s, ↓c26_57_s, ↓c26_56_s, ↓c26_45_s, ↓c26_43_s, ↓c26_69_s, ↓c26_68_s, ↓c26_67_s, ↓c26_66_s, ↓c26_65_s, ↓c26_64_s, ↓c26_63_s, ↓c26_62_s, ↓c26_61_s, ↓c26_42_s, ↓c26_41_s, ↓c26_40_s, ↓c26_5_s, ↓c26_72_s, ↓c26_71_s, ↓c26_70_s, ↓c26_3_s, ↓c26_2_s, ↓c26_75_s, ↓c26_74_s, ↓c26_73_s, ↓c26_1_s, ↓c26_s, ↓w3t_26, g2', dk]
 refine rnum_spec (s := s) (sv := sv) (sb := w.heap.size) ?_ g2 hfm hkf h1 fun e' h1' h4' h5' => ?_
 ·simp (maxSteps:=4000000)(disch:=first|assumption|(simp only[dz];first|done|assumption|omega)|omega|apply_rules[Fr.refl,Fr.alloc,Fr.drew]|rfl) only [↓gsd,gs,gv,Nat.reduceAdd,Nat.reduceEqDiff]
 simp (maxSteps:=4000000)(disch:=first|assumption|(simp only[dz];first|done|assumption|omega)|omega|apply_rules[Fr.refl,Fr.alloc,Fr.drew]|rfl) only [↓gsd,gs,gv,Nat.reduceAdd,Nat.reduceEqDiff] at h1' h4'
 by_cases q2 : s.getN f.nf < 0
 ·have d2 : decide (s.getN f.nf < 0) = true := decide_eq_true q2
  simp (maxSteps:=4000000)(disch:=first|assumption|(simp only[dz];first|done|assumption|omega)|omega|apply_rules[Fr.refl,Fr.alloc,Fr.drew]|rfl) only [↓gd,gp,Nat.reduceAdd,Nat.reduceEqDiff, ↓hk26, h5', d2]
  exact hK [] _ _ hf02 (.inr ⟨lineF_none (by unfold numT; rw [if_neg hnf0, if_neg (by omega)]), rfl⟩)
 have d2 : decide (s.getN f.nf < 0) = false := decide_eq_false q2
 by_cases q3 : 999999999 < s.getN f.nf
 ·have d3 : decide ((999999999 : Int) < s.getN f.nf) = true := decide_eq_true q3
  simp (maxSteps:=4000000)(disch:=first|assumption|(simp only[dz];first|done|assumption|omega)|omega|apply_rules[Fr.refl,Fr.alloc,Fr.drew]|rfl) only [↓gd,gp,Nat.reduceAdd,Nat.reduceEqDiff, ↓hk26, h5', d2, d3]
  exact hK [] _ _ hf02 (.inr ⟨lineF_none (by unfold numT; rw [if_neg hnf0, if_neg (by omega)]), rfl⟩)
 have d3 : decide ((999999999 : Int) < s.getN f.nf) = false := decide_eq_false q3
 have hln : lineF f s = (restT f s).map ((f.word ++ [32] ++ Lib.itoa (s.getN f.nf)) ++ ·) := by
  rw [lineF_some (by unfold numT; rw [if_neg hnf0, if_pos (by omega)])]
  congr 1; funext z; simp
 rw [hln] at hK
 have a0 := fun x' y' w => add9r x' y' f.word [32] (by simp only [List.length_cons, List.length_nil]; omega) w
 simp (maxSteps:=4000000)(disch:=first|assumption|(simp only[dz];first|done|assumption|omega)|omega|apply_rules[Fr.refl,Fr.alloc,Fr.drew]|rfl) only [↓gd,gp,Nat.reduceAdd,Nat.reduceEqDiff, ↓hk26, h4', h5', d2, d3, a0]
 refine rdecZ_spec (by omega) (by omega) fun w3 hf3 => ?_
 have cw3 := cur w3
 have hil := Lib.itoa_length_le (s.getN f.nf) (by omega) (by omega)
 have a1 := fun x' y' w => add9 x' y' (f.word ++ [32]) (Lib.itoa (s.getN f.nf)) (by simp only [List.length_append, List.length_cons, List.length_nil]; omega) w
 simp (maxSteps:=4000000)(disch:=first|assumption|(simp only[dz];first|done|assumption|omega)|omega|apply_rules[Fr.refl,Fr.alloc,Fr.drew]|rfl) only [↓gd,gp,Nat.reduceAdd,Nat.reduceEqDiff, ↓c26_10_s, ↓c26_16_s, ↓c26_22_s, ↓c26_23_s, ↓c26_21_s, ↓c26_20_s, ↓c26_26_s, ↓c26_25_s, ↓c26_24_s, ↓c26_19_s, ↓c26_18_s, ↓c26_17_s, ↓c26_15_s, ↓c26_28_s, ↓c26_27_s, ↓c26_14_s, ↓c26_13_s, ↓c26_12_s, ↓c26_11_s, ↓c26_9_s, ↓c26_33_s, ↓c26_36_s, ↓c26_35_s, ↓c26_34_s, ↓c26_32_s, ↓c26_31_s, ↓c26_30_s, ↓c26_29_s, ↓c26_7_s, ↓c26_39_s, ↓c26_38_s, ↓c26_37_s, ↓c26_6_s, ↓c26_44_s, ↓c26_47_s, ↓c26_50_s, ↓c26_49_s, ↓c26_55_s, ↓c26_54_s, ↓c26_53_s, ↓c26_52_s, ↓c26_51_s, ↓c26_48_s, ↓c26_46_s, ↓c26_60_s, ↓c26_59_s, ↓c26_58_s, ↓c26_57_s, ↓c26_56_s, ↓c26_45_s, ↓c26_43_s, ↓c26_69_s, ↓c26_68_s, ↓c26_67_s, ↓c26_66_s, ↓c26_65_s, ↓c26_64_s, ↓c26_63_s, ↓c26_62_s, ↓c26_61_s, ↓c26_42_s, ↓c26_41_s, ↓c26_40_s, ↓c26_5_s, ↓c26_4_s, ↓c26_72_s, ↓c26_71_s, ↓c26_70_s, ↓c26_3_s, ↓c26_2_s, ↓c26_75_s, ↓c26_74_s, ↓c26_73_s, ↓c26_1_s, ↓c26_s, ↓w3t_26, a1]
 refine rlineR_spec (s := s) (sv := sv) (sb := w.heap.size) ?_ ?_ (hf3.getN g2) hfm hkf h1 (hsw.frN (hf02.trans' hf3)) (hf02.trans' hf3) hft (by simp only [List.length_append, List.length_cons, List.length_nil]; omega) hK
 ·simp (maxSteps:=4000000)(disch:=first|assumption|(simp only[dz];first|done|assumption|omega)|omega|apply_rules[Fr.refl,Fr.alloc,Fr.drew]|rfl) only [↓gsd,gs,gv,Nat.reduceAdd,Nat.reduceEqDiff, h1']
 ·simp (maxSteps:=4000000)(disch:=first|assumption|(simp only[dz];first|done|assumption|omega)|omega|apply_rules[Fr.refl,Fr.alloc,Fr.drew]|rfl) only [↓gsd,gs,gv,Nat.reduceAdd,Nat.reduceEqDiff]
end
end Go.Proofs.YtbbjnplellanaaaDoor
