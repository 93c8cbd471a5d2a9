/- A step with its kind's fields only. -/
import Derived.Test.YtbbjnplellanaaaDoorQI
set_option linter.unusedVariables false
set_option linter.unusedSimpArgs false
set_option maxRecDepth 100000
namespace Go.Proofs.YtbbjnplellanaaaDoor
open Go.VW
def bareV (f : Form) (sv : SlV) : SlV := if f.kind = 2 then sv else (none, 0, 0)
set_option maxHeartbeats 16000000 in
theorem bare_spec {w : World} {f : Form} {s : Stp} {sv : SlV} {K : Value → World → Prop} (hfm : f ∈ formsL) (hk : s.kind = (f.kind : Int)) (hK : ∀ w', Fr [] w w' → K (.agg (encStp (bareF f s, bareV f sv)).toArray) w') : CallsN Tryd.prog 14 [.agg (encStp (s, sv)).toArray] w K := by
 have cw := cur w
 refine call14 ?_
 obtain ⟨sk, ss, st, sn, si, skey, sws, stext⟩ := s
 unfold encStp
 simp only [formsL, List.mem_cons, List.not_mem_nil, or_false] at hfm
 rcases hfm with rfl | rfl | rfl | rfl | rfl | rfl | rfl | rfl | rfl | rfl | rfl | rfl | rfl | rfl | rfl | rfl
 ·obtain rfl : sk = 1 := hk
  simp (maxSteps:=4000000)(disch:=first|assumption|(simp only[dz];first|done|assumption|omega)|omega|apply_rules[Fr.refl,Fr.alloc,Fr.drew]|rfl) only [↓gd,gp,Nat.reduceAdd,Nat.reduceEqDiff, ↓hk14, Int.reduceEq]
  exact hK _ (((((Fr.refl _ _).alloc _).alloc _).alloc _).setB _ _ (.inr (by omega)))
 ·obtain rfl : sk = 2 := hk
  simp (maxSteps:=4000000)(disch:=first|assumption|(simp only[dz];first|done|assumption|omega)|omega|apply_rules[Fr.refl,Fr.alloc,Fr.drew]|rfl) only [↓gd,gp,Nat.reduceAdd,Nat.reduceEqDiff, ↓hk14, Int.reduceEq]
  exact hK _ (((((Fr.refl _ _).alloc _).alloc _).alloc _).setB _ _ (.inr (by omega)))
 ·obtain rfl : sk = 3 := hk
  simp (maxSteps:=4000000)(disch:=first|assumption|(simp only[dz];first|done|assumption|omega)|omega|apply_rules[Fr.refl,Fr.alloc,Fr.drew]|rfl) only [↓gd,gp,Nat.reduceAdd,Nat.reduceEqDiff, ↓hk14, Int.reduceEq]
  exact hK _ (((((Fr.refl _ _).alloc _).alloc _).alloc _).setB _ _ (.inr (by omega)))
 ·obtain rfl : sk = 4 := hk
  simp (maxSteps:=4000000)(disch:=first|assumption|(simp only[dz];first|done|assumption|omega)|omega|apply_rules[Fr.refl,Fr.alloc,Fr.drew]|rfl) only [↓gd,gp,Nat.reduceAdd,Nat.reduceEqDiff, ↓hk14, Int.reduceEq]
  exact hK _ (((((Fr.refl _ _).alloc _).alloc _).alloc _).setB _ _ (.inr (by omega)))
 ·obtain rfl : sk = 5 := hk
  simp (maxSteps:=4000000)(disch:=first|assumption|(simp only[dz];first|done|assumption|omega)|omega|apply_rules[Fr.refl,Fr.alloc,Fr.drew]|rfl) only [↓gd,gp,Nat.reduceAdd,Nat.reduceEqDiff, ↓hk14, Int.reduceEq]
  exact hK _ (((((Fr.refl _ _).alloc _).alloc _).alloc _).setB _ _ (.inr (by omega)))
 ·obtain rfl : sk = 6 := hk
  simp (maxSteps:=4000000)(disch:=first|assumption|(simp only[dz];first|done|assumption|omega)|omega|apply_rules[Fr.refl,Fr.alloc,Fr.drew]|rfl) only [↓gd,gp,Nat.reduceAdd,Nat.reduceEqDiff, ↓hk14, Int.reduceEq]
  exact hK _ (((((Fr.refl _ _).alloc _).alloc _).alloc _).setB _ _ (.inr (by omega)))
 ·obtain rfl : sk = 7 := hk
  simp (maxSteps:=4000000)(disch:=first|assumption|(simp only[dz];first|done|assumption|omega)|omega|apply_rules[Fr.refl,Fr.alloc,Fr.drew]|rfl) only [↓gd,gp,Nat.reduceAdd,Nat.reduceEqDiff, ↓hk14, Int.reduceEq]
  exact hK _ (((((Fr.refl _ _).alloc _).alloc _).alloc _).setB _ _ (.inr (by omega)))
 ·obtain rfl : sk = 8 := hk
  simp (maxSteps:=4000000)(disch:=first|assumption|(simp only[dz];first|done|assumption|omega)|omega|apply_rules[Fr.refl,Fr.alloc,Fr.drew]|rfl) only [↓gd,gp,Nat.reduceAdd,Nat.reduceEqDiff, ↓hk14, Int.reduceEq]
  exact hK _ (((((Fr.refl _ _).alloc _).alloc _).alloc _).setB _ _ (.inr (by omega)))
 ·obtain rfl : sk = 9 := hk
  simp (maxSteps:=4000000)(disch:=first|assumption|(simp only[dz];first|done|assumption|omega)|omega|apply_rules[Fr.refl,Fr.alloc,Fr.drew]|rfl) only [↓gd,gp,Nat.reduceAdd,Nat.reduceEqDiff, ↓hk14, Int.reduceEq]
  exact hK _ (((((Fr.refl _ _).alloc _).alloc _).alloc _).setB _ _ (.inr (by omega)))
 ·obtain rfl : sk = 10 := hk
  simp (maxSteps:=4000000)(disch:=first|assumption|(simp only[dz];first|done|assumption|omega)|omega|apply_rules[Fr.refl,Fr.alloc,Fr.drew]|rfl) only [↓gd,gp,Nat.reduceAdd,Nat.reduceEqDiff, ↓hk14, Int.reduceEq]
  exact hK _ (((((Fr.refl _ _).alloc _).alloc _).alloc _).setB _ _ (.inr (by omega)))
 ·obtain rfl : sk = 11 := hk
  simp (maxSteps:=4000000)(disch:=first|assumption|(simp only[dz];first|done|assumption|omega)|omega|apply_rules[Fr.refl,Fr.alloc,Fr.drew]|rfl) only [↓gd,gp,Nat.reduceAdd,Nat.reduceEqDiff, ↓hk14, Int.reduceEq]
  exact hK _ (((((Fr.refl _ _).alloc _).alloc _).alloc _).setB _ _ (.inr (by omega)))
 ·obtain rfl : sk = 12 := hk
  simp (maxSteps:=4000000)(disch:=first|assumption|(simp only[dz];first|done|assumption|omega)|omega|apply_rules[Fr.refl,Fr.alloc,Fr.drew]|rfl) only [↓gd,gp,Nat.reduceAdd,Nat.reduceEqDiff, ↓hk14, Int.reduceEq]
  exact hK _ (((((Fr.refl _ _).alloc _).alloc _).alloc _).setB _ _ (.inr (by omega)))
 ·obtain rfl : sk = 13 := hk
  simp (maxSteps:=4000000)(disch:=first|assumption|(simp only[dz];first|done|assumption|omega)|omega|apply_rules[Fr.refl,Fr.alloc,Fr.drew]|rfl) only [↓gd,gp,Nat.reduceAdd,Nat.reduceEqDiff, ↓hk14, Int.reduceEq]
  exact hK _ (((((Fr.refl _ _).alloc _).alloc _).alloc _).setB _ _ (.inr (by omega)))
 ·obtain rfl : sk = 14 := hk
  simp (maxSteps:=4000000)(disch:=first|assumption|(simp only[dz];first|done|assumption|omega)|omega|apply_rules[Fr.refl,Fr.alloc,Fr.drew]|rfl) only [↓gd,gp,Nat.reduceAdd,Nat.reduceEqDiff, ↓hk14, Int.reduceEq]
  exact hK _ (((((Fr.refl _ _).alloc _).alloc _).alloc _).setB _ _ (.inr (by omega)))
 ·obtain rfl : sk = 15 := hk
  simp (maxSteps:=4000000)(disch:=first|assumption|(simp only[dz];first|done|assumption|omega)|omega|apply_rules[Fr.refl,Fr.alloc,Fr.drew]|rfl) only [↓gd,gp,Nat.reduceAdd,Nat.reduceEqDiff, ↓hk14, Int.reduceEq]
  exact hK _ (((((Fr.refl _ _).alloc _).alloc _).alloc _).setB _ _ (.inr (by omega)))
 ·obtain rfl : sk = 16 := hk
  simp (maxSteps:=4000000)(disch:=first|assumption|(simp only[dz];first|done|assumption|omega)|omega|apply_rules[Fr.refl,Fr.alloc,Fr.drew]|rfl) only [↓gd,gp,Nat.reduceAdd,Nat.reduceEqDiff, ↓hk14, Int.reduceEq]
  exact hK _ (((((Fr.refl _ _).alloc _).alloc _).alloc _).setB _ _ (.inr (by omega)))
end Go.Proofs.YtbbjnplellanaaaDoor
