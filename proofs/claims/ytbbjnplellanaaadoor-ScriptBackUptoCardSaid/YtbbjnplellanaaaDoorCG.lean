/- Counted loops. -/
import Derived.Test.YtbbjnplellanaaaDoorCE
set_option linter.unusedVariables false
set_option linter.unusedSimpArgs false
namespace Go.VW
/-- A loop whose slot s counts from a number up to N. -/
theorem for_intro {body : Env → World → (Env → World → Prop) → Prop} {e : Env} {w : World} (N s i0 : Nat) (I : Nat → Env → World → Prop) (h0 : e s = .int .i64 i0) (hN : i0 ≤ N) (hI : I i0 e w)
    (hs : ∀ (i : Nat) (e : Env) (w : World) (k : Env → World → Prop), i ≤ N → e s = .int .i64 i → I i e w → (∀ (e' : Env) (w' : World), i < N → e' s = .int .i64 ((i : Int) + 1) → I (i + 1) e' w' → k e' w') → body e w k) : LoopP body e w := by
  refine loop_intro (fun e w => ∃ i : Nat, i ≤ N ∧ e s = .int .i64 i ∧ I i e w) (fun e _ => N - (numOf (e s)).toNat) ⟨i0, hN, h0, hI⟩ ?_
  rintro e w k ⟨i, hi, hes, hIi⟩ hk
  refine hs i e w k hi hes hIi fun e' w' hlt he' hI' => hk e' w' ⟨i + 1, by omega, by rw [he']; congr 1, hI'⟩ ?_
  have h3 : ((i : Int) + 1).toNat = i + 1 := by omega
  simp only [he', hes, numOf, Int.toNat_natCast, h3]; omega
theorem run_xor {P : Program} (t : TypeId) (x y : Operand) (k : IntKind) (a b : Int) (w : World) : (xbin .xor t x y (.int k a) (.int k b)).run P w = .ok (.int k (k.wrap (BitVec.ofInt k.bits a ^^^ BitVec.ofInt k.bits b).toNat)) w := by simp [xbin, go_sem, Op.intBits]
theorem run_or {P : Program} (t : TypeId) (x y : Operand) (k : IntKind) (a b : Int) (w : World) : (xbin .or t x y (.int k a) (.int k b)).run P w = .ok (.int k (k.wrap (BitVec.ofInt k.bits a ||| BitVec.ofInt k.bits b).toNat)) w := by simp [xbin, go_sem, Op.intBits]
theorem run_and {P : Program} (t : TypeId) (x y : Operand) (k : IntKind) (a b : Int) (w : World) : (xbin .and t x y (.int k a) (.int k b)).run P w = .ok (.int k (k.wrap (BitVec.ofInt k.bits a &&& BitVec.ofInt k.bits b).toNat)) w := by simp [xbin, go_sem, Op.intBits]
/-- A byte of a string. -/
def byteAt (s : ByteArray) (i : Nat) : Nat := match s[i]? with
  | some b => b.toNat
  | none => 0
theorem run_index_str {P : Program} {t : TypeId} (hu : ∀ w, (underlying t).run P w = .ok .string w) {s : ByteArray} {i : Nat} (hi : i < s.size) (k : IntKind) (w : World) : (Instr.index t (.string s) (.int k i)).run P w = .ok (.int .u8 (byteAt s i)) w := by
  have h0 : (0 : Int) ≤ (i : Int) := by omega
  have hs : s[i]? = some s[i] := getElem?_pos s i hi
  simp only [Instr.index, asIntOf, sem_pure_bind, Sem.run_bind, hu, Result.andThen_ok, h0, if_true, Int.toNat_natCast, hs, byteAt, Sem.run_pure]
theorem Own.frN {k n : Nat} {e : TypeId} {w w' : World} {v : Value} {cs : List Value} (h : Own k e w v n cs) (hf : Fr [] w w') : Own k e w' v n cs := h.fr (M := []) hf (by simp)
end Go.VW
