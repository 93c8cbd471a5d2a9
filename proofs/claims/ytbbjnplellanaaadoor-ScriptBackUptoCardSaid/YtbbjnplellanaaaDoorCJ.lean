/- The generic engine, part 19: strings as lists of bytes; ranging over a string. -/
import Derived.Test.YtbbjnplellanaaaDoorCI
import Derived.Laws.Strings2
import Derived.Laws.RangeString
import Derived.Lib.OthersKept
import Derived.Lib.TrimUEq
set_option linter.unusedVariables false
set_option linter.unusedSimpArgs false
namespace Go.VW
section
def B (l : List UInt8) : ByteArray := ⟨l.toArray⟩
theorem B_of (s : ByteArray) : ∃ l, s = B l := ⟨s.data.toList, by cases s; simp [B]⟩
theorem B_size (l : List UInt8) : (B l).size = l.length := by simp [B, ByteArray.size]
theorem B_list (l : List UInt8) : (B l).data.toList = l := by simp [B]
theorem B_inj (a b : List UInt8) : (B a = B b) = (a = b) := propext ⟨fun h => by simpa [B] using h, fun h => by rw [h]⟩
theorem B_lit (a b : List UInt8) : (B a = ⟨b.toArray⟩) = (a = b) := B_inj a b
theorem B_lit' (a b : List UInt8) : ((⟨b.toArray⟩ : ByteArray) = B a) = (b = a) := B_inj b a
theorem B_extract (l : List UInt8) (a b : Nat) : (B l).extract a b = B ((l.drop a).take (b - a)) := ByteArray.extract_mk l a b
theorem B_append (a b : List UInt8) : B a ++ B b = B (a ++ b) := by
  apply ByteArray.ext
  simp [B, ByteArray.data_append]
variable {P : Program} {t : TypeId} {w : World}
theorem und_some {u : TypeDesc} (hu : ∀ w, (underlying t).run P w = .ok u w) : P.underlying t = some u := und_of (hu default)
theorem run_index_B (hu : ∀ w, (underlying t).run P w = .ok .string w) {l : List UInt8} {i : Nat} {b : UInt8} (hb : l[i]? = some b) (k : IntKind) (w : World) : (Instr.index t (.string (B l)) (.int k i)).run P w = .ok (.int .u8 b.toNat) w := by
  have hi : i < l.length := (List.getElem?_eq_some_iff.1 hb).1
  rw [run_index_str hu (by rw [B_size]; exact hi)]
  have hs : (B l)[i]? = some b := by
    have h1 : i < (B l).size := by rw [B_size]; exact hi
    rw [getElem?_pos (B l) i h1]
    have : (B l)[i]'h1 = l[i]'hi := by simp [B, ByteArray.getElem_eq_getElem_data]
    rw [this, (List.getElem?_eq_some_iff.1 hb).2]
  simp only [byteAt, hs]
theorem run_index_B0 (hu : ∀ w, (underlying t).run P w = .ok .string w) (b : UInt8) (l : List UInt8) (k : IntKind) (w : World) : (Instr.index t (.string (B (b :: l))) (.int k 0)).run P w = .ok (.int .u8 b.toNat) w := run_index_B (i := 0) hu rfl k w
theorem run_sliceB (hu : ∀ w, (underlying t).run P w = .ok .string w) (l : List UInt8) {i j : Nat} (h1 : i ≤ j) (h2 : j ≤ l.length) (k k' : IntKind) (w : World) :
    (Instr.sliceAt t (.string (B l)) (some (.int k i)) (some (.int k' j)) none).run P w = .ok (.string (B ((l.drop i).take (j - i)))) w := by
  rw [run_sliceAt_string (h := und_some hu), run_slice_string _ _ _ _ _ _ _ (und_some hu) (by omega) (by omega) (by rw [B_size]; omega), B_extract]; simp
theorem run_sliceB_h (hu : ∀ w, (underlying t).run P w = .ok .string w) (l : List UInt8) {j : Nat} (h2 : j ≤ l.length) (k' : IntKind) (w : World) :
    (Instr.sliceAt t (.string (B l)) none (some (.int k' j)) none).run P w = .ok (.string (B (l.take j))) w := by
  rw [run_sliceAt_string (h := und_some hu), run_slice_string_h _ _ _ (und_some hu) _ _ (by omega) (by rw [B_size]; omega), B_extract]; simp
theorem run_sliceB_l (hu : ∀ w, (underlying t).run P w = .ok .string w) (l : List UInt8) {i : Nat} (h2 : i ≤ l.length) (k' : IntKind) (w : World) :
    (Instr.sliceAt t (.string (B l)) (some (.int k' i)) none none).run P w = .ok (.string (B (l.drop i))) w := by
  rw [run_sliceAt_string (h := und_some hu), run_slice_string_l _ _ _ (und_some hu) _ _ (by omega) (by rw [B_size]; omega), B_extract, B_size, List.take_of_length_le (by simp)]; simp
theorem run_addB (x y : Operand) (a b : List UInt8) (h : a.length + b.length ≤ 9223372036854775807) (w : World) : (xbin .add t x y (.string (B a)) (.string (B b))).run P w = .ok (.string (B (a ++ b))) w := by
  have : ¬ (((B a).size + (B b).size : Nat) : Int) > IntKind.i64.max := by rw [B_size, B_size]; simp only [IntKind.max, IntKind.bits, IntKind.signed]; omega
  simp only [xbin, binOp_string_add, Op.stringOp]
  rw [if_neg this, B_append]; rfl
theorem run_rangeB (hu : ∀ w, (underlying t).run P w = .ok .string w) (s : ByteArray) (w : World) : (Instr.range t (.string s)).run P w = .ok (.pointer (some ⟨w.heap.size, 0, none⟩)) (w.alloc (.stringIter s 0)) := by
  rw [run_range_string w t s (und_some hu)]; rfl
theorem run_nextB {k : Nat} {s : ByteArray} {pos : Nat} (hk : w.heap[k]? = some (.stringIter s pos)) (h : pos < s.size) (ty : TypeId) :
    (Instr.next (.pointer (some ⟨k, 0, none⟩)) true ty).run P w = .ok (.tuple ([.bool true, .int .i64 pos, .int .i32 (Utf8.decode s pos).1] : List Value).toArray) (w.setB k (.stringIter s (pos + (Utf8.decode s pos).2))) := Lib.run_next_any_at w k s pos ty hk h
theorem run_nextB_end {k : Nat} {s : ByteArray} {pos : Nat} (hk : w.heap[k]? = some (.stringIter s pos)) (h : ¬ pos < s.size) (ty : TypeId) :
    (Instr.next (.pointer (some ⟨k, 0, none⟩)) true ty).run P w = .ok (.tuple ([.bool false] : List Value).toArray) w := Lib.run_next_end_at w k s pos ty hk h
theorem decN_lt {n b0 b1 b2 b3 : Nat} (h : b0 < 128) : Lib.decodeN n b0 b1 b2 b3 = (b0, 1) := by unfold Lib.decodeN; rw [if_pos h]
theorem decN_ge {n b0 b1 b2 b3 : Nat} (h : ¬ b0 < 128) : 128 ≤ (Lib.decodeN n b0 b1 b2 b3).1 := by
  unfold Lib.decodeN
  repeat' split
  all_goals (simp only; omega)
theorem dec_lt {l : List UInt8} {pos : Nat} {b : UInt8} (h : l[pos]? = some b) (hb : b.toNat < 128) : Utf8.decode (B l) pos = (b.toNat, 1) := by
  rw [Lib.decode_N, B_list]
  have : l.getD pos 0 = b := by simp [List.getD_eq_getElem?_getD, h]
  rw [this]; exact decN_lt hb
theorem dec_ge {l : List UInt8} {pos : Nat} {b : UInt8} (h : l[pos]? = some b) (hb : ¬ b.toNat < 128) : 128 ≤ (Utf8.decode (B l) pos).1 := by
  rw [Lib.decode_N, B_list]
  have : l.getD pos 0 = b := by simp [List.getD_eq_getElem?_getD, h]
  rw [this]; exact decN_ge hb
theorem run_nef {e1 : Array TypeId} {e2 : Array TypeId} {vr : Bool} (hu : ∀ w, (underlying t).run P w = .ok (.func e1 e2 vr) w) (x y : Operand) (f : Fn) (a c : Array Value) (w : World) : (xbin .neq t x y (.func f a c) .nilFunc).run P w = .ok (.bool true) w := by
  simp only [xbin, eqGuard_at_func, sem_pure_bind]
  exact run_neq_of (r := false) rfl (by unfold Op.equal Op.maxDepth; unfold Op.equalIn; simp only [Sem.run_bind, hu, Result.andThen_ok, Sem.run_pure])
theorem run_nenf {e1 : Array TypeId} {e2 : Array TypeId} {vr : Bool} (hu : ∀ w, (underlying t).run P w = .ok (.func e1 e2 vr) w) (x y : Operand) (w : World) : (xbin .neq t x y .nilFunc .nilFunc).run P w = .ok (.bool false) w := by
  simp only [xbin, eqGuard_at_nilFunc, sem_pure_bind]
  exact run_neq_of (r := true) rfl (by unfold Op.equal Op.maxDepth; unfold Op.equalIn; simp only [Sem.run_bind, hu, Result.andThen_ok, Sem.run_pure])
/-- A list of strings in memory. -/
def encB (l : List UInt8) : List Value := [.string (B l)]
theorem encB_len (l : List UInt8) : (encB l).length = 1 := rfl
end
end Go.VW
