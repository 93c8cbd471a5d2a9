/- The reference's numerals, names, plain words. -/
import Derived.Test.YtbbjnplellanaaaDoorUD
import Derived.Test.YtbbjnplellanaaaDoorPO
import Derived.Lib.AppendStr
import Derived.Laws.IdiomStrings
set_option linter.unusedVariables false
set_option linter.unusedSimpArgs false
set_option maxRecDepth 100000
namespace Go.Proofs.YtbbjnplellanaaaDoor
open Go.VW
theorem wrapU8 {a : Int} (h1 : 0 ≤ a) (h2 : a ≤ 255) : IntKind.u8.wrap a = a := by
 have e1 : (2 : Int) ^ IntKind.u8.bits = 256 := by decide
 simp only [IntKind.wrap, e1, IntKind.signed, Bool.false_and, Bool.false_eq_true, if_false]
 omega
theorem cvOne (b : UInt8) (w : World) : (convert 43 9 (.slice (some ⟨w.heap.size, 0, none⟩) 1 1)).run Tryd.prog (w.alloc (.cells ([.int .u8 b.toNat] : List Value).toArray 5)) = .ok (.string (B [b])) (w.alloc (.cells ([.int .u8 b.toNat] : List Value).toArray 5)) := by
 refine run_convert_bytes_back _ 43 9 5 ⟨w.heap.size, 0, none⟩ 1 [b] Tryd.underlying43 Tryd.underlying5 Tryd.underlying9 fun j hj => ?_
 have hj0 : j = 0 := by simpa using hj
 subst hj0
 have hg := get_alloc_new w (.cells ([.int .u8 b.toNat] : List Value).toArray 5)
 simp only [add_at, World.cell?, hg]
 rfl
theorem cvAt {w : World} {g : Nat} {b : UInt8} (hg : w.heap[g]? = some (.cells ([.int .u8 b.toNat] : List Value).toArray 5 (0, 0))) : (convert 43 9 (.slice (some ⟨g, 0, none⟩) 1 1)).run Tryd.prog w = .ok (.string (B [b])) w := by
 refine run_convert_bytes_back _ 43 9 5 ⟨g, 0, none⟩ 1 [b] Tryd.underlying43 Tryd.underlying5 Tryd.underlying9 fun j hj => ?_
 have hj0 : j = 0 := by simpa using hj
 subst hj0
 simp only [add_at, World.cell?, hg]
 rfl
theorem cvTake {w : World} {g : Nat} {b : UInt8} {K : Value → Prop} (hg : w.heap[g]? = some (.cells ([.int .u8 b.toNat] : List Value).toArray 5 (0, 0))) (hK : K (.string (B [b]))) : takeP Tryd.prog (FrX (some []) w) (xv (convert 43 9 (.slice (some ⟨g, 0, none⟩) 1 1))) K :=
 ⟨_, fun w' hf => by
  have hf' : Fr [] w w' := hf
  simp only [xv, Sem.run_bind, cvAt (hf'.getN hg), Result.andThen_ok, Sem.run_pure], hK⟩
theorem digit (u : Nat) (h : u < 10) : ((UInt8.ofNat (48 + u)).toNat : Int) = 48 + (u : Int) := by
 rw [UInt8.toNat_ofNat']; omega
set_option maxHeartbeats 4000000 in
theorem rdec_spec : ∀ (u : Nat), u ≤ 999999999 → ∀ {w : World} {K : Value → World → Prop}, (∀ w', Fr [] w w' → K (.string (B (Lib.decDigits u))) w') → CallsN Tryd.prog 46 [.int .i64 u] w K := by
 intro u
 induction u using Nat.strongRecOn with
 | _ u ih =>
   intro hu w K hK
   have cw := cur w
   refine call46 ?_
   have d0 : decide ((u : Int) < 0) = false := decide_eq_false (by omega)
   rw [Lib.decDigits] at hK
   by_cases h : u < 10
   ·have d1 : decide ((u : Int) < 10) = true := decide_eq_true (by omega)
    rw [dif_pos h] at hK
    have w1 : IntKind.i64.wrap (48 + (u : Int)) = 48 + (u : Int) := wrap64 (by omega) (by omega)
    have w2 : IntKind.u8.wrap (48 + (u : Int)) = ((UInt8.ofNat (48 + u)).toNat : Int) := by rw [digit u h]; exact wrapU8 (by omega) (by omega)
    simp (maxSteps:=4000000)(disch:=first|assumption|(simp only[dz];first|done|assumption|omega)|omega|apply_rules[Fr.refl,Fr.alloc,Fr.drew]|rfl) only [↓gd,gp,Nat.reduceAdd,Nat.reduceEqDiff, ↓hk46, d0, d1, w1, w2, cvOne]
    exact hK _ ((Fr.refl _ _).alloc _)
   ·have d1 : decide ((u : Int) < 10) = false := decide_eq_false (by omega)
    rw [dif_neg h] at hK
    have q0 : IntKind.i64.wrap ((u : Int).tdiv 10) = ((u / 10 : Nat) : Int) := by
     rw [Int.tdiv_eq_ediv_of_nonneg (by omega), wrap64 (by omega) (by omega)]; omega
    have r0 : (u : Int).tmod 10 = ((u % 10 : Nat) : Int) := by rw [Int.tmod_eq_emod_of_nonneg (by omega)]; omega
    have w1 : IntKind.i64.wrap (48 + ((u % 10 : Nat) : Int)) = 48 + ((u % 10 : Nat) : Int) := wrap64 (by omega) (by omega)
    have w2 : IntKind.u8.wrap (48 + ((u % 10 : Nat) : Int)) = ((UInt8.ofNat (48 + u % 10)).toNat : Int) := by rw [digit (u % 10) (by omega)]; exact wrapU8 (by omega) (by omega)
    have tq : ∀ (M : Option (List Nat)) (w0 : World) (x y : Operand) (K : Value → Prop), takeP Tryd.prog (FrX M w0) (xv (xbin .quo 2 x y (.int .i64 (u : Int)) (.int .i64 10))) K = K (.int .i64 ((u / 10 : Nat) : Int)) := fun M w0 x y K => takeP_xv (fun w => by rw [run_quo _ _ _ _ _ _ _ (by decide), q0]) K
    have tr : ∀ (M : Option (List Nat)) (w0 : World) (x y : Operand) (K : Value → Prop), takeP Tryd.prog (FrX M w0) (xv (xbin .rem 2 x y (.int .i64 (u : Int)) (.int .i64 10))) K = K (.int .i64 ((u % 10 : Nat) : Int)) := fun M w0 x y K => takeP_xv (fun w => by rw [run_rem _ _ _ _ _ _ _ (by decide), r0]) K
    simp (maxSteps:=4000000)(disch:=first|assumption|(simp only[dz];first|done|assumption|omega)|omega|apply_rules[Fr.refl,Fr.alloc,Fr.drew]|rfl) only [↓gd,gp,Nat.reduceAdd,Nat.reduceEqDiff, ↓hk46, d0, d1, tq, tr, w1, w2]
    have hlen : (Lib.decDigits (u / 10)).length + ([UInt8.ofNat (48 + u % 10)] : Bs).length ≤ 9223372036854775807 := by
     have := Lib.itoa_length_le ((u / 10 : Nat) : Int) (by omega) (by omega)
     rw [Lib.itoa_nonneg] at this
     simp only [List.length_cons, List.length_nil]; omega
    have ta : ∀ (M : Option (List Nat)) (w0 : World) (x y : Operand) (K : Value → Prop), takeP Tryd.prog (FrX M w0) (xv (xbin .add 9 x y (.string (B (Lib.decDigits (u / 10)))) (.string (B [UInt8.ofNat (48 + u % 10)])))) K = K (.string (B (Lib.decDigits (u / 10) ++ [UInt8.ofNat (48 + u % 10)]))) := fun M w0 x y K => takeP_xv (fun w => add9 x y _ _ hlen w) K
    refine ⟨?_, ?_⟩
    ·refine ih (u / 10) (by omega) (by omega) fun w2 hf2 => ?_
     refine cvTake (get_alloc_new _ _) ?_
     rw [ta]
     exact hK _ ((Fr.refl _ _).drew.trans' hf2 |>.alloc _)
    ·refine cvTake (get_alloc_new w.drew _) ?_
     refine ih (u / 10) (by omega) (by omega) fun w2 hf2 => ?_
     refine ⟨.inl hf2, ?_⟩
     rw [ta]
     exact hK _ (((Fr.refl _ _).drew.alloc _).trans' hf2)
theorem rdecZ_spec {n : Int} {w : World} {K : Value → World → Prop} (h0 : 0 ≤ n) (h1 : n ≤ 999999999) (hK : ∀ w', Fr [] w w' → K (.string (B (Lib.itoa n))) w') : CallsN Tryd.prog 46 [.int .i64 n] w K := by
 obtain ⟨u, rfl⟩ := Int.eq_ofNat_of_zero_le h0
 refine rdec_spec u (by omega) fun w' hf => ?_
 have := hK w' hf
 unfold Lib.itoa at this
 rw [if_neg (by omega)] at this
 exact this
def hasB (a b c : UInt8) (x : UInt8) : Bool := decide (x = a) || (decide (x = b) || decide (x = c))
set_option maxHeartbeats 4000000 in
theorem rwithout_spec {l : Bs} {a b c : UInt8} {w : World} {K : Value → World → Prop} (hl : l.length ≤ 4000000000) (hK : K (.bool (!l.any (hasB a b c))) w) : CallsN Tryd.prog 47 [.string (B l), .int .u8 a.toNat, .int .u8 b.toNat, .int .u8 c.toNat] w K := by
 have cw := cur w
 refine call47 ?_
 simp (maxSteps:=4000000)(disch:=first|assumption|(simp only[dz];first|done|assumption|omega)|omega|apply_rules[Fr.refl,Fr.alloc,Fr.drew]|rfl) only [↓gd,gp,Nat.reduceAdd,Nat.reduceEqDiff, ↓hk47]
 refine for_intro l.length 9 0 (fun i e w' => e 0 = .string (B l) ∧ e 1 = .int .u8 a.toNat ∧ e 2 = .int .u8 b.toNat ∧ e 3 = .int .u8 c.toNat ∧ l.any (hasB a b c) = (l.drop i).any (hasB a b c) ∧ w' = w) ?_ (Nat.zero_le _) ?_ ?_
 ·simp (maxSteps:=4000000)(disch:=first|assumption|(simp only[dz];first|done|assumption|omega)|omega|apply_rules[Fr.refl,Fr.alloc,Fr.drew]|rfl) only [↓gsd,gs,gv,Nat.reduceAdd,Nat.reduceEqDiff]; rfl
 ·simp (maxSteps:=4000000)(disch:=first|assumption|(simp only[dz];first|done|assumption|omega)|omega|apply_rules[Fr.refl,Fr.alloc,Fr.drew]|rfl) only [↓gsd,gs,gv,Nat.reduceAdd,Nat.reduceEqDiff]
  try exact ⟨rfl, rfl⟩
 rintro i e w1 kk hi e9 ⟨e0, e1, e2, e3, hany, rfl⟩ hkk
 have cw1 := cur w1
 have wr : IntKind.i64.wrap ((i : Int) + 1) = (i : Int) + 1 := wrap64 (by omega) (by omega)
 have dec : ∀ x y : UInt8, decide ((x.toNat : Int) = (y.toNat : Int)) = decide (x = y) := fun x y => by
  by_cases h : x = y
  ·subst h; simp
  ·have : ¬ (x.toNat : Int) = (y.toNat : Int) := fun e => h (UInt8.toNat_inj.1 (by omega))
   simp [h, this]
 by_cases hil : i < l.length
 ·have d : decide ((i : Int) < (l.length : Int)) = true := decide_eq_true (by omega)
  obtain ⟨x, hx⟩ : ∃ x, l[i]? = some x := ⟨l[i], List.getElem?_eq_getElem hil⟩
  have hix := fun k w => ix9 hx k w
  have hdr : (l.drop i).any (hasB a b c) = (hasB a b c x || (l.drop (i + 1)).any (hasB a b c)) := by rw [drop_at hx, List.any_cons]
  rw [hdr] at hany
  cases q1 : decide (x = a) with
  | true =>
    simp (maxSteps:=4000000)(disch:=first|assumption|(simp only[dz];first|done|assumption|omega)|omega|apply_rules[Fr.refl,Fr.alloc,Fr.drew]|rfl) only [↓gd,gp,Nat.reduceAdd,Nat.reduceEqDiff, ↓hk47, e0, e1, e2, e3, e9, B_size, d, hix, dec, q1]
    rw [hany] at hK
    unfold hasB at hK
    rw [q1] at hK
    exact hK
  | false =>
    cases q2 : decide (x = b) with
    | true =>
      simp (maxSteps:=4000000)(disch:=first|assumption|(simp only[dz];first|done|assumption|omega)|omega|apply_rules[Fr.refl,Fr.alloc,Fr.drew]|rfl) only [↓gd,gp,Nat.reduceAdd,Nat.reduceEqDiff, ↓hk47, e0, e1, e2, e3, e9, B_size, d, hix, dec, q1, q2]
      rw [hany] at hK
      unfold hasB at hK
      rw [q1, q2] at hK
      exact hK
    | false =>
      cases q3 : decide (x = c) with
      | true =>
        simp (maxSteps:=4000000)(disch:=first|assumption|(simp only[dz];first|done|assumption|omega)|omega|apply_rules[Fr.refl,Fr.alloc,Fr.drew]|rfl) only [↓gd,gp,Nat.reduceAdd,Nat.reduceEqDiff, ↓hk47, e0, e1, e2, e3, e9, B_size, d, hix, dec, q1, q2, q3]
        rw [hany] at hK
        unfold hasB at hK
        rw [q1, q2, q3] at hK
        exact hK
      | false =>
        have hno : hasB a b c x = false := by unfold hasB; rw [q1, q2, q3]; rfl
        rw [hno, Bool.false_or] at hany
        simp (maxSteps:=4000000)(disch:=first|assumption|(simp only[dz];first|done|assumption|omega)|omega|apply_rules[Fr.refl,Fr.alloc,Fr.drew]|rfl) only [↓gd,gp,Nat.reduceAdd,Nat.reduceEqDiff, ↓hk47, e0, e1, e2, e3, e9, B_size, d, hix, dec, q1, q2, q3, wr]
        refine hkk _ _ hil ?_ ⟨?_, ?_, ?_, ?_, hany, rfl⟩
        ·simp (maxSteps:=4000000)(disch:=first|assumption|(simp only[dz];first|done|assumption|omega)|omega|apply_rules[Fr.refl,Fr.alloc,Fr.drew]|rfl) only [↓gsd,gs,gv,Nat.reduceAdd,Nat.reduceEqDiff]
        ·simp (maxSteps:=4000000)(disch:=first|assumption|(simp only[dz];first|done|assumption|omega)|omega|apply_rules[Fr.refl,Fr.alloc,Fr.drew]|rfl) only [↓gsd,gs,gv,Nat.reduceAdd,Nat.reduceEqDiff, e0]
        ·simp (maxSteps:=4000000)(disch:=first|assumption|(simp only[dz];first|done|assumption|omega)|omega|apply_rules[Fr.refl,Fr.alloc,Fr.drew]|rfl) only [↓gsd,gs,gv,Nat.reduceAdd,Nat.reduceEqDiff, e1]
        ·simp (maxSteps:=4000000)(disch:=first|assumption|(simp only[dz];first|done|assumption|omega)|omega|apply_rules[Fr.refl,Fr.alloc,Fr.drew]|rfl) only [↓gsd,gs,gv,Nat.reduceAdd,Nat.reduceEqDiff, e2]
        ·simp (maxSteps:=4000000)(disch:=first|assumption|(simp only[dz];first|done|assumption|omega)|omega|apply_rules[Fr.refl,Fr.alloc,Fr.drew]|rfl) only [↓gsd,gs,gv,Nat.reduceAdd,Nat.reduceEqDiff, e3]
 ·have d : decide ((i : Int) < (l.length : Int)) = false := decide_eq_false (by omega)
  have hi' : i = l.length := by omega
  rw [hi', List.drop_length] at hany
  rw [hany] at hK
  simp (maxSteps:=4000000)(disch:=first|assumption|(simp only[dz];first|done|assumption|omega)|omega|apply_rules[Fr.refl,Fr.alloc,Fr.drew]|rfl) only [↓gd,gp,Nat.reduceAdd,Nat.reduceEqDiff, ↓hk47, e0, e9, B_size, d]
  exact hK
end Go.Proofs.YtbbjnplellanaaaDoor
