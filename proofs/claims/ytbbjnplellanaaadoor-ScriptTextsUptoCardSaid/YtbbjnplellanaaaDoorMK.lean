/- Lists made anew, of one cell an element. -/
import Derived.Test.YtbbjnplellanaaaDoorB6
import Derived.Test.YtbbjnplellanaaaDoorCG
import Derived.Laws.MakeOwn
set_option linter.unusedVariables false
set_option linter.unusedSimpArgs false
set_option maxRecDepth 10000
namespace Go.Proofs.YtbbjnplellanaaaDoor
open Go.VW
theorem made_one (z : Value) (n : Nat) : (madeCells #[z] n).toList = List.replicate n z := by
 apply List.ext_getElem?
 intro i
 by_cases h : i < n
 ·rw [List.getElem?_replicate, if_pos h]
  simp [madeCells, h, Nat.mod_one]
 ·rw [List.getElem?_eq_none (by simp [madeCells]; omega), List.getElem?_eq_none (by simp; omega)]
theorem make_own {t e : TypeId} {i : TypeInfo} {z : Value} {n bytes : Nat} (ht : Tryd.prog.underlying t = some (.slice e)) (hi : Tryd.prog.info? e = some i) (hz : i.zero = some z) (hs : i.size = 1) (hb : i.bytes = bytes) (hzc : z.cells = #[z]) (hn : bytes * n ≤ 281474976710656) (hm : n ≤ maxLen) (w : World) :
  (Instr.makeSlice t (.int .i64 n) (.int .i64 n)).run Tryd.prog w = .ok (.slice (some ⟨w.heap.size, 0, none⟩) n n) (w.alloc (.cells (List.replicate n z).toArray e)) ∧
   Own 1 e (w.alloc (.cells (List.replicate n z).toArray e)) (.slice (some ⟨w.heap.size, 0, none⟩) n n) n (List.replicate n z) := by
 have h63 : (n : Int) ≤ 9223372036854775807 := by
  have h := hm
  simp [maxLen] at h
  omega
 have hb' : (i.bytes : Int) * (n : Int) ≤ 281474976710656 := by
  rw [hb]
  have h : ((bytes * n : Nat) : Int) ≤ 281474976710656 := by omega
  rwa [Int.natCast_mul] at h
 have hr := run_make (P := Tryd.prog) w t e i z ht hi hz .i64 .i64 n n (by omega) (Int.le_refl _) hb' h63
 have hc : madeCells z.cells (n * i.size) = (List.replicate n z).toArray := by
  rw [hs, Nat.mul_one, hzc]
  apply Array.toList_inj.1
  rw [made_one]
 simp only [Int.toNat_natCast, hc] at hr
 refine ⟨hr, by simp, .inr ⟨w.heap.size, n, _, rfl, Nat.zero_le _, get_alloc_new _ _, Nat.le_refl _, hm, by simp, by simp⟩⟩
end Go.Proofs.YtbbjnplellanaaaDoor
