/- The laws ScriptParses, ScriptFull: walked. -/
import Derived.Test.YtbbjnplellanaaaDoorPF
set_option linter.unusedVariables false
set_option linter.unusedSimpArgs false
set_option maxRecDepth 100000
namespace Go.Proofs.YtbbjnplellanaaaDoor
open Go.VW
theorem own_len {k n : Nat} {e : TypeId} {w : World} {v : Value} {cs : List Value} (h : Own k e w v n cs) : n ≤ 9223372036854775807 := by
 rcases h.2 with ⟨_, rfl⟩ | ⟨g, cap, cur, rfl, _, _, hn, hc, _⟩
 ·exact Nat.zero_le _
 ·unfold maxLen at hc; omega
theorem same_own {C C' : Nat} {w : World} {va vb : Value} {la lb : List Stp} {K : Value → World → Prop} (ha : StepsOwn C w va la) (hb : StepsOwn C' w vb lb)
  (hK : ∀ w', Fr [] w w' → K (.bool (decide (la = lb))) w') : CallsN Tryd.prog 11 [va, vb] w K := by
 obtain ⟨ra, rfl, ha⟩ := ha
 obtain ⟨rb, rfl, hb⟩ := hb
 exact rsame_spec ha.rows hb.rows (own_len ha.own) (fun x hx => own_len (ha.ws x hx)) hK
theorem StepsOwn.fr {C : Nat} {w w' : World} {v : Value} {l : List Stp} (h : StepsOwn C w v l) (hf : Fr [] w w') : StepsOwn C w' v l := by
 obtain ⟨r, h1, h2⟩ := h
 exact ⟨r, h1, h2.fr hf⟩
set_option maxHeartbeats 8000000 in
theorem parses_spec {t : Bs} {w : World} {K : Value → World → Prop} (hm : MaxL w) (ht : TabP w) (hK : ∀ w', Fr [] w w' → K (.bool true) w') : CallsN Tryd.prog 3 [.string (B t)] w K := by
 have cw := cur w
 refine call3 ?_
 simp (maxSteps:=4000000)(disch:=first|assumption|(simp only[dz];first|done|assumption|omega)|omega|apply_rules[Fr.refl,Fr.alloc,Fr.drew]|rfl) only [↓gd,gp,Nat.reduceAdd,Nat.reduceEqDiff, ↓hk3]
 refine fixed_spec hm ht fun w1 hf1 => ?_
 have cw1 := cur w1
 simp (maxSteps:=4000000)(disch:=first|assumption|(simp only[dz];first|done|assumption|omega)|omega|apply_rules[Fr.refl,Fr.alloc,Fr.drew]|rfl) only [↓gd,gp,Nat.reduceAdd,Nat.reduceEqDiff, ↓hk3]
 refine parse_spec (hm.fr hf1) fun va w2 ha hf2 => ?_
 have cw2 := cur w2
 simp (maxSteps:=4000000)(disch:=first|assumption|(simp only[dz];first|done|assumption|omega)|omega|apply_rules[Fr.refl,Fr.alloc,Fr.drew]|rfl) only [↓gd,gp,Nat.reduceAdd,Nat.reduceEqDiff, ↓hk3]
 refine rparse_spec fun vb w3 hb hf3 => ?_
 have cw3 := cur w3
 simp (maxSteps:=4000000)(disch:=first|assumption|(simp only[dz];first|done|assumption|omega)|omega|apply_rules[Fr.refl,Fr.alloc,Fr.drew]|rfl) only [↓gd,gp,Nat.reduceAdd,Nat.reduceEqDiff, ↓hk3]
 refine same_own (ha.fr hf3) hb fun w4 hf4 => ?_
 have cw4 := cur w4
 have d0 : decide ((parseL t).1 = (parseL t).1) = true := decide_eq_true rfl
 have dd : ∀ n : Int, decide (n = n) = true := fun n => decide_eq_true rfl
 simp (maxSteps:=4000000)(disch:=first|assumption|(simp only[dz];first|done|assumption|omega)|omega|apply_rules[Fr.refl,Fr.alloc,Fr.drew]|rfl) only [↓gd,gp,Nat.reduceAdd,Nat.reduceEqDiff, ↓hk3, d0, dd]
 exact hK _ (((hf1.trans' hf2).trans' hf3).trans' hf4)
def fullT (k : Nat) : Bs := 35 :: List.replicate (k - 1) 32
theorem splitL_no {b : UInt8} {l : Bs} (h : ∀ x ∈ l, x ≠ b) : splitL b l = [l] := by
 have := splitL_skip (b := b) (p := l) (r := []) h
 rw [List.append_nil] at this
 rw [this]; simp [splitL, preH]
theorem split_blanks : ∀ n : Nat, nonE (splitL 32 (List.replicate n 32)) = []
 | 0 => rfl
 | n + 1 => by rw [List.replicate_succ, splitL_hit, nonE_cons, if_pos rfl]; exact split_blanks n
theorem nonE_pre (l : List Bs) (p : Bs) (h : p ≠ []) (hl : l ≠ []) : nonE (preH p l) = (p ++ l.headD []) :: nonE l.tail := by
 cases l with
 | nil => exact absurd rfl hl
 | cons x r => simp only [preH, nonE_cons, List.headD_cons, List.tail_cons]; rw [if_neg (by simp [h])]
theorem line_note {r : Bs} (h : ∀ x ∈ r, x ≠ 10) : lineO (35 :: r) = some none := by
 have hw : ∃ q ws, wordsL (35 :: r) = (35 :: q) :: ws := by
  unfold wordsL
  rw [splitL, if_neg (by decide), nonE_pre _ _ (by simp) (splitL_ne _ _)]
  exact ⟨_, _, rfl⟩
 obtain ⟨q, ws, hw⟩ := hw
 unfold lineO
 rw [hw]; simp
theorem parse_full {k : Nat} (hk : 1 ≤ k) : parseL (fullT k) = if k ≤ 65536 then ([], 0, 0) else ([], 0, 2) := by
 have hl : (fullT k).length = k := by unfold fullT; simp only [List.length_cons, List.length_replicate]; omega
 unfold parseL
 rw [hl]
 by_cases h : 65536 < k
 ·rw [if_pos h, if_neg (by omega)]
 ·rw [if_neg h, if_pos (by omega)]
  have hn : ∀ x ∈ fullT k, x ≠ 10 := by
   intro x hx
   unfold fullT at hx
   rcases List.mem_cons.1 hx with rfl | hx
   ·decide
   ·rw [(List.mem_replicate.1 hx).2]; decide
  rw [splitL_no hn, parseGo]
  have := line_note (r := List.replicate (k - 1) 32) (fun x hx => by rw [(List.mem_replicate.1 hx).2]; decide)
  unfold fullT
  rw [this]; rfl
end Go.Proofs.YtbbjnplellanaaaDoor
