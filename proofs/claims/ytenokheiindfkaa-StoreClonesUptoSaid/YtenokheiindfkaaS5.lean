/- Commit. -/
import Derived.Test.YtenokheiindfkaaS4
set_option linter.unusedVariables false
set_option linter.unusedSimpArgs false
set_option maxRecDepth 10000
namespace Go.Proofs.Ytenokheiindfkaa
open Go.VW
abbrev Rows := List (ByteArray × Row)
abbrev verOf (n : Int) (x : Wr) : Ver := ⟨n, x.has, x.data⟩
def Row.put (most : Nat) (n : Int) (r : Row) (x : Wr) : Row :=
  if most < r.list.length + 1 then ⟨(r.list ++ [verOf n x]).drop (r.list.length + 1 - most), true⟩ else ⟨r.list ++ [verOf n x], r.dropped⟩
def put (most : Nat) (n : Int) (rows : Rows) (x : Wr) : Rows := aset rows x.key (((aget rows x.key).getD ⟨[], false⟩).put most n x)
def St.commit (st : St) (ws : List Wr) : (Int × Int) × St :=
  if chk ws ≠ 0 then ((0, chk ws), st) else if 1099511627776 ≤ st.last then ((0, 2), st) else ((st.last + 1, 0), ⟨ws.foldl (put st.most (st.last + 1)) st.rows, st.most, st.last + 1⟩)
theorem BlkT.of_own {e : TypeId} {k n : Nat} {w : World} {v : Value} {cs : List Value} (h : Own k e w v n cs) : BlkT e w v := by
  rcases h.2 with ⟨rfl, rfl⟩ | ⟨g, cap, cur, rfl, _, hg, hnc, _⟩
  · exact BlkT.nil
  · intro a m c hs
    simp only [Value.slice.injEq] at hs
    obtain ⟨rfl, rfl, rfl⟩ := hs
    refine ⟨hnc, fun a' ha => ?_⟩
    cases ha
    exact ⟨cur, _, hg⟩
theorem BlkT.cut {e : TypeId} {w : World} {a : Option Addr} {n c l k : Nat} (h : BlkT e w (.slice a n c)) (hl : l ≤ n) : BlkT e w (.slice (if c = l then a else a.map (·.add (l * k))) (n - l) (c - l)) := by
  intro a1 n1 c1 hs
  simp only [Value.slice.injEq] at hs
  obtain ⟨h1, h2, h3⟩ := hs
  obtain ⟨hnc, hb⟩ := h a n c rfl
  refine ⟨by omega, fun a' ha => ?_⟩
  subst ha
  split at h1
  · exact hb a' h1
  · cases a with
    | none => cases h1
    | some a0 =>
      simp only [Option.map_some, Option.some.injEq] at h1
      subst h1
      have := hb a0 rfl
      unfold Addr.add
      split <;> exact this
/-- The row that is put. -/
theorem row_put {w : World} {v : Value} {r : Row} {most : Nat} {n : Int} {x : Wr} (h : Own 3 106 w v (r.list.length + 1) (cellsOf encVer (r.list ++ [verOf n x]))) (hm : 1 ≤ most) :
    if most < r.list.length + 1 then ∃ v', (Instr.sliceAt 46 v (some (.int .i64 ((r.list.length + 1 - most : Nat) : Int))) none none).run Try.prog w = .ok v' w ∧ (∃ a m c, v' = .slice a m c) ∧ RowV w (.agg ([v', .bool true] : List Value).toArray) (r.put most n x)
    else RowV w (.agg ([v, .bool r.dropped] : List Value).toArray) (r.put most n x) := by
  have hb := BlkT.of_own h
  have hs := h.sl
  obtain ⟨a, c, rfl⟩ := hs.form
  split
  · rename_i hlt
    obtain ⟨v', hr, hs', hc, ho⟩ := run_cut_low (P := Try.prog) (t := 46) Try.runUnderlying46 Try.sizeOf106 hs (fun a m c h => (hb a m c h).1) .i64 (r.list.length + 1 - most) (by omega)
    have hnc := (hb a _ c rfl).1
    have hr' : (Instr.sliceAt 46 (.slice a (r.list.length + 1) c) (some (.int .i64 ((r.list.length + 1 - most : Nat) : Int))) none none).run Try.prog w = .ok (.slice (if c = r.list.length + 1 - most then a else a.map (·.add ((r.list.length + 1 - most) * 3))) (r.list.length + 1 - (r.list.length + 1 - most)) (c - (r.list.length + 1 - most))) w := by
      have hl' : 0 ≤ ((r.list.length + 1 - most : Nat) : Int) ∧ ((r.list.length + 1 - most : Nat) : Int) ≤ (r.list.length + 1 : Nat) := by omega
      have hl0 := hl'.1
      have hl1 := hl'.2
      simp only [Instr.sliceAt, Sem.run_bind, Try.runUnderlying46, Result.andThen_ok, Instr.slice, Instr.sliceBounds, Instr.sliceBound, asIntOf, Try.sizeOf106]
      simp only [Int.natCast_add, Int.natCast_one] at hl1 ⊢
      simp [hl0, hl1, sem_pure_bind, Sem.run_bind, Try.sizeOf106]
    have e := hr.symm.trans hr'
    simp only [Result.ok.injEq, and_true] at e
    refine ⟨v', hr, ⟨_, _, _, e⟩, v', ?_, ?_, ?_⟩
    · simp [Row.put, hlt]
    · have hl : (r.put most n x).list = (r.list ++ [verOf n x]).drop (r.list.length + 1 - most) := by simp [Row.put, hlt]
      rw [hl]
      unfold SlOf
      rw [← cellsOf_drop encVer_len]
      have : ((r.list ++ [verOf n x]).drop (r.list.length + 1 - most)).length = r.list.length + 1 - (r.list.length + 1 - most) := by simp
      rw [this]; exact hs'
    · rw [e]; exact hb.cut (by omega)
  · rename_i hlt
    refine ⟨_, ?_, ?_, hb⟩
    · simp [Row.put, hlt]
    · have hl : (r.put most n x).list = r.list ++ [verOf n x] := by simp [Row.put, hlt]
      rw [hl]
      unfold SlOf
      simpa using hs
end Go.Proofs.Ytenokheiindfkaa
