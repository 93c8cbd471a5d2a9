/- Facts on strings at this program; words, numbers and writes as the program reads them. -/
import Derived.Test.YtbbjnplellanaaaDoorUA
import Derived.Test.YtbbjnplellanaaaDoorPA
import Derived.Test.YtbbjnplellanaaaDoorSB
set_option linter.unusedVariables false
set_option linter.unusedSimpArgs false
set_option maxRecDepth 10000
namespace Go.Proofs.YtbbjnplellanaaaDoor
open Go.VW
theorem ix9 {l : Bs} {i : Nat} {b : UInt8} (hb : l[i]? = some b) (k : IntKind) (w : World) : (Instr.index 9 (.string (B l)) (.int k i)).run Tryd.prog w = .ok (.int .u8 b.toNat) w := run_index_B Tryd.runUnderlying9 hb k w
theorem ix9_0 {l : Bs} {b : UInt8} (hb : l[0]? = some b) (k : IntKind) (w : World) : (Instr.index 9 (.string (B l)) (.int k 0)).run Tryd.prog w = .ok (.int .u8 b.toNat) w := run_index_B (i := 0) Tryd.runUnderlying9 hb k w
theorem sl9 (l : Bs) {i j : Nat} (h1 : i ≤ j) (h2 : j ≤ l.length) (k k' : IntKind) (w : World) : (Instr.sliceAt 9 (.string (B l)) (some (.int k i)) (some (.int k' j)) none).run Tryd.prog w = .ok (.string (B ((l.drop i).take (j - i)))) w := run_sliceB Tryd.runUnderlying9 l h1 h2 k k' w
theorem sl9h (l : Bs) {j : Nat} (h2 : j ≤ l.length) (k' : IntKind) (w : World) : (Instr.sliceAt 9 (.string (B l)) none (some (.int k' j)) none).run Tryd.prog w = .ok (.string (B (l.take j))) w := run_sliceB_h Tryd.runUnderlying9 l h2 k' w
theorem sl9l (l : Bs) {i : Nat} (h2 : i ≤ l.length) (k' : IntKind) (w : World) : (Instr.sliceAt 9 (.string (B l)) (some (.int k' i)) none none).run Tryd.prog w = .ok (.string (B (l.drop i))) w := run_sliceB_l Tryd.runUnderlying9 l h2 k' w
theorem tix9 {M : Option (List Nat)} {w0 : World} {l : Bs} {i : Nat} {b : UInt8} (hb : l[i]? = some b) (k : IntKind) (K : Value → Prop) : takeP Tryd.prog (FrX M w0) (xv (Instr.index 9 (.string (B l)) (.int k i))) K = K (.int .u8 b.toNat) := takeP_xv (fun w => ix9 hb k w) K
theorem tsl9h {M : Option (List Nat)} {w0 : World} (l : Bs) {j : Nat} (h2 : j ≤ l.length) (k' : IntKind) (K : Value → Prop) : takeP Tryd.prog (FrX M w0) (xv (Instr.sliceAt 9 (.string (B l)) none (some (.int k' j)) none)) K = K (.string (B (l.take j))) := takeP_xv (fun w => sl9h l h2 k' w) K
theorem tsl9l {M : Option (List Nat)} {w0 : World} (l : Bs) {i : Nat} (h2 : i ≤ l.length) (k' : IntKind) (K : Value → Prop) : takeP Tryd.prog (FrX M w0) (xv (Instr.sliceAt 9 (.string (B l)) (some (.int k' i)) none none)) K = K (.string (B (l.drop i))) := takeP_xv (fun w => sl9l l h2 k' w) K
theorem rg9 (s : ByteArray) (w : World) : (Instr.range 9 (.string s)).run Tryd.prog w = .ok (.pointer (some ⟨w.heap.size, 0, none⟩)) (w.alloc (.stringIter s 0)) := run_rangeB Tryd.runUnderlying9 s w
theorem cellsOf_encB (xs : List Bs) : cellsOf encB xs = xs.map (Value.string ∘ B) := by
 unfold cellsOf
 induction xs with
 | nil => rfl
 | cons x xs ih => rw [List.flatMap_cons, ih]; rfl
theorem own_mono {k C n : Nat} {e : TypeId} {w : World} {v : Value} {cs : List Value} (h : w.ownsRow C e k v n cs) : Own k e w v n cs := by
 refine ⟨h.1, ?_⟩
 rcases h.2 with h0 | ⟨g, cap, cur, hv, hb, rest⟩
 ·exact .inl h0
 ·exact .inr ⟨g, cap, cur, hv, Nat.zero_le _, rest⟩
theorem wordsP_spec (W : World) (x : Nat) {K : Value → World → Prop} (hK : K (.bool (isBl x)) W) : CallsN Tryd.prog 35 [.int .i32 x] W K := by
 have cw := cur W
 have e : decide ((x : Int) = 32) = isBl x := by
  unfold isBl
  by_cases h : x = 32
  ·subst h; rfl
  ·have h2 : ¬ (x : Int) = 32 := by omega
   simp [h, h2]
 refine call35 ?_
 simp (maxSteps:=4000000)(disch:=first|assumption|(simp only[dz];first|done|assumption|omega)|omega|apply_rules[Fr.refl,Fr.alloc,Fr.drew]|rfl) only [↓gd,gp,Nat.reduceAdd,Nat.reduceEqDiff, ↓hk35, e]
 exact hK
theorem words_spec {l : Bs} {w : World} {K : Value → World → Prop} (hl : l.length ≤ 65536)
  (hK : ∀ v w', SlOf 1 encB w' v (wordsL l) → (∀ a m c, v = .slice a m c → m ≤ c) → Fr [] w w' → K v w') : CallsN Tryd.prog 17 [.string (B l)] w K := by
 have cw := cur w
 refine call17 ?_
 simp (maxSteps:=4000000)(disch:=first|assumption|(simp only[dz];first|done|assumption|omega)|omega|apply_rules[Fr.refl,Fr.alloc,Fr.drew]|rfl) only [↓gd,gp,Nat.reduceAdd,Nat.reduceEqDiff, ↓hk17]
 have hc := Any.strings_FieldsFunc_runes fieldsC 35 #[] (fun args w => by exact Go.Proofs.enters_of Tryd.func35 (by kernel_rfl) rfl args w) isBl (B l) w (by rw [B_size]; omega)
  (fun W x _ _ => by
   have h := wordsP_spec W x (K := fun v w' => v = .bool (isBl x) ∧ w' = W) ⟨rfl, rfl⟩
   exact (CallsN.calls h).mono fun e w' he => by
    obtain ⟨v, rfl, rfl, rfl⟩ := he
    exact ⟨rfl, 0, rfl⟩) (by kernel_rfl) (by kernel_rfl)
 refine CallsN.of (hc.mono fun e w' he => ?_)
 obtain ⟨A, rfl, hA, hown, hb⟩ := he
 rw [fields_words] at hown ⊢
 have cw2 := cur w'
 refine ⟨_, rfl, ?_⟩
 refine hK _ _ ?_ (fun a m c h => by simp only [Value.slice.injEq] at h; omega) (Fr.of_below hb)
 rw [List.length_map] at hown ⊢
 rw [List.map_map] at hown
 have hs : Own 1 9 w' (.slice (some ⟨A, 0, none⟩) (wordsL l).length (wordsL l).length) (wordsL l).length ((wordsL l).map (Value.string ∘ B)) := own_mono hown
 have := hs.sl
 unfold SlOf
 rw [cellsOf_encB]; exact this
end Go.Proofs.YtbbjnplellanaaaDoor
