/- OriginOnce walked. -/
import Derived.Test.YtgloomahpjpiiaaOW
set_option linter.unusedVariables false
set_option linter.unusedSimpArgs false
set_option maxRecDepth 10000
namespace Go.Proofs.Ytgloomahpjpiiaa.Or
open Go.VW
def encU (n : Int) : List Value := [.int .u8 n]
theorem encU_len (n : Int) : (encU n).length = 1 := rfl
theorem mod_nat {u : Int} {n : Nat} (h : 0 ≤ u) (hn : 0 < n) : u.tmod (n : Int) = ((u.toNat % n : Nat) : Int) := by
  obtain ⟨k, rfl⟩ : ∃ k : Nat, u = (k : Int) := ⟨u.toNat, by omega⟩
  rw [Int.tmod_eq_emod_of_nonneg h, Int.toNat_natCast, Int.natCast_emod]
theorem OnceM.stored {w0 w w' : World} {a : Ad} {b6 b7 b8 : Nat} {o : Ori} {sn sn' : List Bool} {ns ns' es es' : List Int} {Wr Rd : List Nat}
    (h : OnceM w0 w a b6 b7 b8 o sn ns es Wr Rd) (h6 : VW.Own 1 4 w' (sl64 b6) 64 (cellsOf encB sn')) (h7 : VW.Own 1 2 w' (sl64 b7) 64 (cellsOf encI ns')) (h8 : VW.Own 1 36 w' (sl64 b8) 64 (cellsOf encI es')) (hf : Fr [b6, b7, b8] w w') :
    OnceM w0 w' a b6 b7 b8 o sn' ns' es' Wr Rd := by
  have hz := hf.size
  refine ⟨h.at_.frM hf fun x hx => ?_, h6, h7, h8, h.k6.lts hz, h.k7.lts hz, h.k8.lts hz, h.d67, h.d68, h.d78, h.y, h.n6, h.n7, h.n8, h.fr.trans hf fun x hx => .inr ?_⟩
  · simp only [List.mem_cons, List.not_mem_nil, or_false] at hx
    rcases hx with rfl | rfl | rfl
    · exact ⟨h.k6.ob, h.k6.sb, h.k6.sm, h.k6.qb, h.k6.wr, h.k6.rd, own1_no h.o6 (by decide) (by decide)⟩
    · exact ⟨h.k7.ob, h.k7.sb, h.k7.sm, h.k7.qb, h.k7.wr, h.k7.rd, own1_no h.o7 (by decide) (by decide)⟩
    · exact ⟨h.k8.ob, h.k8.sb, h.k8.sm, h.k8.qb, h.k8.wr, h.k8.rd, own1_no h.o8 (by decide) (by decide)⟩
  · simp only [List.mem_cons, List.not_mem_nil, or_false] at hx
    have := h.n6
    have := h.n7
    have := h.n8
    rcases hx with rfl | rfl | rfl <;> assumption
theorem OnceM.frN {w0 w w' : World} {a : Ad} {b6 b7 b8 : Nat} {o : Ori} {sn : List Bool} {ns es : List Int} {Wr Rd : List Nat} (h : OnceM w0 w a b6 b7 b8 o sn ns es Wr Rd) (hf : Fr [] w w') : OnceM w0 w' a b6 b7 b8 o sn ns es Wr Rd :=
  h.stored (VW.Own.frN h.o6 hf) (VW.Own.frN h.o7 hf) (VW.Own.frN h.o8 hf) (hf.mono (by simp))
/-- What stands behind a call of Handle. -/
theorem OnceM.mid {w0 w w' : World} {a : Ad} {b6 b7 b8 : Nat} {o o' : Ori} {sn : List Bool} {ns es : List Int} {Wr Rd Wr' Rd' : List Nat}
    (h : OnceM w0 w a b6 b7 b8 o sn ns es Wr Rd) (ha : OrAt w' a Wr' Rd' o') (hs : Step w w' a Wr Rd Wr' Rd') : OnceM w0 w' a b6 b7 b8 o' sn ns es Wr' Rd' := by
  have hb : ∀ {b : Nat}, KeepO w a Wr Rd b → ∀ x ∈ a.sb :: a.sm :: a.qb :: Wr, (sl64 b).ownBlock ≠ some x := fun hk x hx e => by
    simp only [Value.ownBlock, Option.some.injEq] at e
    subst e
    exact hk.toKeep.notin hx
  exact ⟨ha, h.o6.fr hs.fr (hb h.k6), h.o7.fr hs.fr (hb h.k7), h.o8.fr hs.fr (hb h.k8), h.k6.step hs, h.k7.step hs, h.k8.step hs, h.d67, h.d68, h.d78, h.y.step h.fr.size hs, h.n6, h.n7, h.n8, h.y.fr h.fr hs⟩
theorem mkB (w : World) : (Instr.makeSlice 29 (.int .i64 64) (.int .i64 64)).run Try.prog w = .ok (sl64 w.heap.size) (w.alloc (.cells (List.replicate 64 (Value.bool false)).toArray 4)) ∧ VW.Own 1 4 (w.alloc (.cells (List.replicate 64 (Value.bool false)).toArray 4)) (sl64 w.heap.size) 64 (cellsOf encB (List.replicate 64 false)) := by
  rw [cellsOf_rep (enc := encB) (x := false) (v := .bool false) rfl]
  exact make_own (n := 64) (bytes := 1) (i := (Try.prog.info? 4).get (by kernel_rfl)) (by kernel_rfl) (by kernel_rfl) (by kernel_rfl) (by kernel_rfl) (by kernel_rfl) rfl (by decide) (by decide) w
theorem mkI (w : World) : (Instr.makeSlice 30 (.int .i64 64) (.int .i64 64)).run Try.prog w = .ok (sl64 w.heap.size) (w.alloc (.cells (List.replicate 64 (Value.int .i64 0)).toArray 2)) ∧ VW.Own 1 2 (w.alloc (.cells (List.replicate 64 (Value.int .i64 0)).toArray 2)) (sl64 w.heap.size) 64 (cellsOf encI (List.replicate 64 0)) := by
  rw [cellsOf_rep (enc := encI) (x := 0) (v := .int .i64 0) rfl]
  exact make_own (n := 64) (bytes := 8) (i := (Try.prog.info? 2).get (by kernel_rfl)) (by kernel_rfl) (by kernel_rfl) (by kernel_rfl) (by kernel_rfl) (by kernel_rfl) rfl (by decide) (by decide) w
theorem mkE (w : World) : (Instr.makeSlice 31 (.int .i64 64) (.int .i64 64)).run Try.prog w = .ok (sl64 w.heap.size) (w.alloc (.cells (List.replicate 64 (Value.int .i64 0)).toArray 36)) ∧ VW.Own 1 36 (w.alloc (.cells (List.replicate 64 (Value.int .i64 0)).toArray 36)) (sl64 w.heap.size) 64 (cellsOf encI (List.replicate 64 0)) := by
  rw [cellsOf_rep (enc := encI) (x := 0) (v := .int .i64 0) rfl]
  exact make_own (n := 64) (bytes := 8) (i := (Try.prog.info? 36).get (by kernel_rfl)) (by kernel_rfl) (by kernel_rfl) (by kernel_rfl) (by kernel_rfl) (by kernel_rfl) rfl (by decide) (by decide) w
end Go.Proofs.Ytgloomahpjpiiaa.Or
