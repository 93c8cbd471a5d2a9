/- The generic engine, part 7: regions that draw their order, read by simp (the worlds that may stand there: those that are as w0 was, but for the blocks M and new ones); structs that are built. The generic engine, part 8: structs that are compared. -/
import Derived.Test.YtomlgkecckffeaaGreatC6
import Derived.Laws.StructEq
set_option linter.unusedVariables false
set_option linter.unusedSimpArgs false
set_option linter.unusedSectionVars false
namespace Go.VW
noncomputable section
def FrX : Option (List Nat) → World → World → Prop
  | some M, w0, w => Fr M w0 w
  | none, _, _ => True
theorem FrX.refl (M : Option (List Nat)) (w : World) : FrX M w w := by
  cases M with
  | none => trivial
  | some M => exact Fr.refl M w
theorem FrX_some (M : List Nat) (w0 w : World) : FrX (some M) w0 w = Fr M w0 w := nr rfl
theorem frT_self (M : List Nat) (w : World) : Fr M w w = True := eq_true (Fr.refl _ _)
theorem frT_drew (M : List Nat) (a w : World) : Fr M a w.drew = Fr M a w := propext ⟨fun h => ⟨h.os, h.tape, h.output, h.size, h.keep⟩, fun h => h.drew⟩
theorem frT_drew0 (M : List Nat) (a w : World) : Fr M a.drew w = Fr M a w := propext ⟨fun h => ⟨h.os, h.tape, h.output, h.size, h.keep⟩, fun h => ⟨h.os, h.tape, h.output, h.size, h.keep⟩⟩
theorem frT_alloc {M : List Nat} {a w : World} (o : Obj) (h : Fr M a w) : Fr M a (w.alloc o) = True := eq_true (h.alloc o)
theorem FrX_none (w0 w : World) : FrX none w0 w = True := nr rfl
section
variable {P : Program} {M : Option (List Nat)} {N : List Nat} {w0 : World} {K : Value → Prop}
theorem vR_inv {r : Result Value} {v : Value} {w : World} (h : vR r (fun v' w' => v' = v ∧ w' = w)) : r = .ok v w := by
  unfold vR at h
  split at h
  · rw [h.1, h.2]
  · exact h.elim
theorem xv_run {s : Sem Value} {w : World} {v : Value} (h : s.run P w = .ok v w) : (xv s).run P w = .ok (.value v) w := by
  simp only [xv, Sem.run_bind, h, Result.andThen_ok, Sem.run_pure]
theorem takeP_fr {s : Sem Next} {v : Value} (h : ∀ w, FrX M w0 w → s.run P w = .ok (.value v) w) (K : Value → Prop) : takeP P (FrX M w0) s K = K v := by
  apply propext
  constructor
  · rintro ⟨u, hu, hK⟩
    have := (hu w0 (FrX.refl _ _)).symm.trans (h w0 (FrX.refl _ _))
    simp only [Result.ok.injEq, Next.value.injEq, and_true] at this
    rw [← this]; exact hK
  · exact fun hK => ⟨v, h, hK⟩
theorem takeP_xv {s : Sem Value} {v : Value} (h : ∀ w, s.run P w = .ok v w) (K : Value → Prop) : takeP P (FrX M w0) (xv s) K = K v := takeP_fr (fun w _ => xv_run (h w)) K
theorem takeP_xvf {s : Sem Value} {v : Value} (h : ∀ w, FrX M w0 w → s.run P w = .ok v w) (K : Value → Prop) : takeP P (FrX M w0) (xv s) K = K v := takeP_fr (fun w hw => xv_run (h w hw)) K
theorem takeP_bi {b : Builtin} {tys : Array TypeId} {ty : TypeId} {cs : Array Bool} {args : Array Value} {s : Sem Value} {v : Value} (hb : builtin b tys ty cs args = xv s) (h : ∀ w, s.run P w = .ok v w) (K : Value → Prop) :
    takeP P (FrX M w0) (builtin b tys ty cs args) K = K v := by rw [hb]; exact takeP_xv h K
theorem takeP_nil (a : Addr) (K : Value → Prop) : takeP P (FrX M w0) (xnil (.pointer (some a))) K = K (.pointer (some a)) := takeP_fr (fun _ _ => rfl) K
theorem takeP_nilf (f : FuncId) (x c : Array Value) (K : Value → Prop) : takeP P (FrX M w0) (xnil (.func (.func f) x c)) K = K (.func (.func f) x c) := takeP_fr (fun _ _ => rfl) K
theorem takeP_pick (b : Bool) (x y : Value) (K : Value → Prop) : takeP P (FrX M w0) (xpick (.bool b) x y) K = K (if b = true then x else y) := takeP_fr (fun _ _ => rfl) K
def tkO (P : Program) (M : Option (List Nat)) (w0 : World) (s : Sem Value) (K : Value → Prop) : Prop := takeP P (FrX M w0) (xv s) K
theorem takeP_ld {t : TypeId} {b i : Nat} (h : ∀ w K, vR ((Instr.loadAt t (.pointer (some ⟨b, i, none⟩))).run P w) K = ldV (ldO P t b i w K) w.heap[b]? i (fun v => K v w)) (hb : b ∉ N) (K : Value → Prop) :
    takeP P (FrX (some N) w0) (xv (Instr.loadAt t (.pointer (some ⟨b, i, none⟩)))) K = ldV (tkO P (some N) w0 (Instr.loadAt t (.pointer (some ⟨b, i, none⟩))) K) w0.heap[b]? i K := by
  unfold ldV
  split
  · rename_i c et fr hc
    unfold oV
    split
    · rename_i v hv
      refine takeP_xvf (fun w hw => vR_inv ?_) K
      rw [h, (show Fr N w0 w from hw).get hc hb]
      simp [ldV, hv, oV]
    · rfl
  · rfl
theorem takeP_ldn {t : TypeId} {b i n : Nat} (h : ∀ w K, vR ((Instr.loadAt t (.pointer (some ⟨b, i, none⟩))).run P w) K = ldnV (ldO P t b i w K) n w.heap[b]? i (fun v => K v w)) (hb : b ∉ N) (K : Value → Prop) :
    takeP P (FrX (some N) w0) (xv (Instr.loadAt t (.pointer (some ⟨b, i, none⟩)))) K = ldnV (tkO P (some N) w0 (Instr.loadAt t (.pointer (some ⟨b, i, none⟩))) K) n w0.heap[b]? i K := by
  unfold ldnV
  split
  · rename_i c et fr hc
    split
    · rename_i hn
      refine takeP_xvf (fun w hw => vR_inv ?_) K
      rw [h, (show Fr N w0 w from hw).get hc hb]
      simp only [ldnV]
      rw [if_pos hn]
      exact ⟨trivial, trivial⟩
    · rfl
  · rfl
theorem takeP_oV {s : Sem Value} {o : Option Value} {O : World → (Value → World → Prop) → Prop} (h : ∀ w K, vR (s.run P w) K = oV (O w K) o (fun v => K v w)) (K : Value → Prop) : takeP P (FrX M w0) (xv s) K = oV (tkO P M w0 s K) o K := by
  unfold oV
  split
  · rename_i v
    refine takeP_xvf (fun w hw => vR_inv ?_) K
    rw [h]
    simp [oV]
  · rfl
theorem takeP_ifV {s : Sem Value} {c : Prop} {v : Value} {O : World → (Value → World → Prop) → Prop} (h : ∀ w K, vR (s.run P w) K = ifV (O w K) c (K v w)) (K : Value → Prop) : takeP P (FrX M w0) (xv s) K = ifV (tkO P M w0 s K) c (K v) := by
  unfold ifV
  by_cases hc : c
  · rw [takeP_xvf (v := v) (fun w hw => vR_inv ?_) K]
    · simp [hc]
    · rw [h]
      simp [ifV, hc]
  · simp [hc, tkO]
theorem takeP_extract (vs : List Value) (i : Nat) (K : Value → Prop) : takeP P (FrX M w0) (xv (Instr.extract (.tuple vs.toArray) i)) K = oV (tkO P M w0 (Instr.extract (.tuple vs.toArray) i) K) vs[i]? K := takeP_oV (run_extract vs i) K
theorem takeP_not (b : Bool) (K : Value → Prop) : takeP P (FrX M w0) (xv (Op.unary .not (.bool b))) K = K (.bool !b) := takeP_xv (run_not b) K
section
variable (t : TypeId) (x y : Operand) (k : IntKind) (a b : Int) (K : Value → Prop)
theorem takeP_add : takeP P (FrX M w0) (xv (xbin .add t x y (.int k a) (.int k b))) K = K (.int k (k.wrap (a + b))) := takeP_xv (fun w => run_add (w := w) ..) K
theorem takeP_sub : takeP P (FrX M w0) (xv (xbin .sub t x y (.int k a) (.int k b))) K = K (.int k (k.wrap (a - b))) := takeP_xv (fun w => run_sub (w := w) ..) K
theorem takeP_eqi : takeP P (FrX M w0) (xv (xbin .eql t x y (.int k a) (.int k b))) K = K (.bool (decide (a = b))) := takeP_xv (fun w => run_eqi (w := w) ..) K
theorem takeP_nei : takeP P (FrX M w0) (xv (xbin .neq t x y (.int k a) (.int k b))) K = K (.bool (!decide (a = b))) := takeP_xv (fun w => run_nei (w := w) ..) K
theorem takeP_lti : takeP P (FrX M w0) (xv (xbin .lss t x y (.int k a) (.int k b))) K = K (.bool (decide (a < b))) := takeP_xv (fun w => run_lti (w := w) ..) K
theorem takeP_gti : takeP P (FrX M w0) (xv (xbin .gtr t x y (.int k a) (.int k b))) K = K (.bool (decide (b < a))) := takeP_xv (fun w => run_gti (w := w) ..) K
theorem takeP_lei : takeP P (FrX M w0) (xv (xbin .leq t x y (.int k a) (.int k b))) K = K (.bool (decide (a ≤ b))) := takeP_xv (fun w => run_lei (w := w) ..) K
theorem takeP_gei : takeP P (FrX M w0) (xv (xbin .geq t x y (.int k a) (.int k b))) K = K (.bool (decide (b ≤ a))) := takeP_xv (fun w => run_gei (w := w) ..) K
theorem takeP_eqs (a b : ByteArray) : takeP P (FrX M w0) (xv (xbin .eql t x y (.string a) (.string b))) K = K (.bool (decide (a = b))) := takeP_xv (fun w => run_eqs (w := w) ..) K
theorem takeP_nes (a b : ByteArray) : takeP P (FrX M w0) (xv (xbin .neq t x y (.string a) (.string b))) K = K (.bool (!decide (a = b))) := takeP_xv (fun w => run_nes (w := w) ..) K
end
theorem takeP_V {κ : Type} [DecidableEq κ] {kv : κ → Value} (hi : ∀ a b, kv a = kv b → a = b) {s : Sem Value} {r : Nat} (hr : r ∉ N) {F : List (κ × Value) → Value} {O : World → (Value → World → Prop) → Prop}
    (h : ∀ w K, vR (s.run P w) K = mapV kv (O w K) w.heap[r]? (fun es => K (F es) w)) (K : Value → Prop) : takeP P (FrX (some N) w0) (xv s) K = mapV kv (tkO P (some N) w0 s K) w0.heap[r]? (fun es => K (F es)) := by
  refine mapV_of (A := takeP P (FrX (some N) w0) (xv s) K) fun es hm => takeP_xvf (fun w hw => vR_inv ?_) K
  obtain ⟨ents, clock, hb, _⟩ := hm.ex
  rw [h, (show Fr N w0 w from hw).keep r (lt_of_get _ _ hb) hr]
  unfold mapV
  have hx : ∃ es, MapAt kv w0.heap[r]? es := ⟨es, hm⟩
  rw [dif_pos hx]
  exact ⟨by rw [MapAt.uniq hi (Classical.choose_spec hx) hm], rfl⟩
/-! Structs that are built. -/
def bdO (P : Program) (t : TypeId) (parts : List (Nat × Value)) (w : World) (K : Value → World → Prop) : Prop := vR ((Instr.build t parts.toArray).run P w) K
def oL (orig : Prop) (o : Option (List Value)) (k : List Value → Prop) : Prop := match o with
  | some l => k l
  | none => orig
theorem oL_some (orig : Prop) (l : List Value) (k : List Value → Prop) : oL orig (some l) k = k l := nr rfl
theorem fillL_nil (pl : List (Nat × Nat)) (c : List Value) : fillL pl c [] = some c := rfl
def fillS (pl : List (Nat × Nat)) (c : List Value) (vs : List Value) (r : List (Nat × Value)) : Option (Nat × Nat) → Option (List Value)
  | none => none
  | some (off, size) => if vs.length = size ∧ off + size ≤ c.length then fillL pl (c.take off ++ vs ++ c.drop (off + size)) r else none
theorem fillL_cons (pl : List (Nat × Nat)) (c : List Value) (i : Nat) (v : Value) (r : List (Nat × Value)) : fillL pl c ((i, v) :: r) = fillS pl c v.cells.toList r pl[i]? := by
  conv => lhs; unfold fillL
  cases h : pl[i]? with
  | none => rfl
  | some p => rfl
theorem fillS_some (pl : List (Nat × Nat)) (c : List Value) (vs : List Value) (r : List (Nat × Value)) {off size : Nat} (h1 : vs.length = size) (h2 : off + size ≤ c.length) :
    fillS pl c vs r (some (off, size)) = fillL pl (c.take off ++ vs ++ c.drop (off + size)) r := by simp [fillS, h1, h2]
theorem oL_congr {orig : Prop} {o o' : Option (List Value)} {k : List Value → Prop} (h : o = o') : oL orig o k = oL orig o' k := by rw [h]
attribute [congr] oL_congr
theorem run_buildV {t : TypeId} {fs : Array Field} {zs : List Value} {pl : List (Nat × Nat)} (hz : ∀ w, (zeroValue t).run P w = .ok (.agg zs.toArray) w) (hu : ∀ w, (underlying t).run P w = .ok (.struct fs) w)
    (hp : ∀ w, (fs.mapM fun (f : Field) => do pure (f.offset, ← sizeOf f.type)).run P w = .ok pl.toArray w) (parts : List (Nat × Value)) (w : World) (K : Value → World → Prop) :
    vR ((Instr.build t parts.toArray).run P w) K = oL (bdO P t parts w K) (fillL pl zs parts) fun cs => K (.agg cs.toArray) w := by
  unfold oL
  split
  · rename_i cs hf
    rw [run_build hz hu hp hf]; rfl
  · rfl
theorem takeP_buildV {t : TypeId} {fs : Array Field} {zs : List Value} {pl : List (Nat × Nat)} (hz : ∀ w, (zeroValue t).run P w = .ok (.agg zs.toArray) w) (hu : ∀ w, (underlying t).run P w = .ok (.struct fs) w)
    (hp : ∀ w, (fs.mapM fun (f : Field) => do pure (f.offset, ← sizeOf f.type)).run P w = .ok pl.toArray w) (parts : List (Nat × Value)) (K : Value → Prop) :
    takeP P (FrX M w0) (xv (Instr.build t parts.toArray)) K = oL (tkO P M w0 (Instr.build t parts.toArray) K) (fillL pl zs parts) fun cs => K (.agg cs.toArray) := by
  unfold oL
  split
  · rename_i cs hf
    exact takeP_xv (run_build hz hu hp hf) K
  · rfl
theorem run_buildSlice0 {t e : TypeId} {k : Nat} (hu : ∀ w, (underlying t).run P w = .ok (.slice e) w) (hs : ∀ w, (sizeOf e).run P w = .ok k w) (w : World) :
    (Instr.buildSlice t 0 ([] : List (Nat × Value)).toArray).run P w = .ok (.slice (some ⟨w.heap.size, 0, none⟩) 0 0) (w.alloc (.cells #[] e)) := by
  simp only [Instr.buildSlice, Sem.run_bind, hu, Result.andThen_ok, hs, Nat.zero_mul, if_true, Sem.run_pure]
  simp only [show ¬ (0 > 2 ^ 24) by omega, if_false, Sem.run_pure, Result.andThen_ok, sem_pure_bind, show Array.range 0 = #[] from rfl, Array.map_empty, Instr.fill, Sem.run_bind, newRow, newObj, Sem.run]
  rfl
theorem run_cvII {a b : TypeId} {k k' : IntKind} (hu : ∀ w, (underlying a).run P w = .ok (.int k) w) (hv : ∀ w, (underlying b).run P w = .ok (.int k') w) (n : Int) (w : World) :
    (convert a b (.int k n)).run P w = .ok (.int k' (k'.wrap n)) w := by
  simp [convert, Sem.run_bind, hu, hv, go_sem]
theorem run_shr (t : TypeId) (x y : Operand) (k q : IntKind) (a : Int) (b : Nat) (hb : b ≤ k.bits) (w : World) : (xbin .shr t x y (.int k a) (.int q b)).run P w = .ok (.int k (a.fdiv (2 ^ b))) w := by
  have h0 : ¬ (b : Int) < 0 := by omega
  have h1 : min (b : Int).toNat k.bits = b := by rw [Int.toNat_natCast]; omega
  have e : binOp .shr t (.int k a) (.int q b) = Op.shift .shr k a q b := rfl
  simp only [xbin, eqGuard_at_int, sem_pure_bind, e, Op.shift, h0, if_false, h1, Sem.run_pure]
theorem run_shr1 (t : TypeId) (x y : Operand) (k q : IntKind) (a : Int) (w : World) : (xbin .shr t x y (.int k a) (.int q 1)).run P w = .ok (.int k (a.fdiv 2)) w :=
  run_shr t x y k q a 1 (by cases k <;> decide) w
theorem wrapU64 {a : Int} (h1 : 0 ≤ a) (h2 : a ≤ 18446744073709551615) : IntKind.u64.wrap a = a := by
  have e1 : (2 : Int) ^ IntKind.u64.bits = 18446744073709551616 := by decide
  have e3 : a.emod 18446744073709551616 = a := Int.emod_eq_of_lt h1 (by omega)
  simp only [IntKind.wrap, e1, IntKind.signed, Bool.false_and]
  simp only [Bool.false_eq_true, if_false]
  first | exact e3 | (show a % 18446744073709551616 = a; omega)
theorem Own.new0 {k : Nat} {e : TypeId} (w : World) : Own k e (w.alloc (.cells #[] e)) (.slice (some ⟨w.heap.size, 0, none⟩) 0 0) 0 [] :=
  ⟨by simp, .inr ⟨w.heap.size, 0, #[], rfl, Nat.zero_le _, get_alloc_new _ _, by simp⟩⟩
end
theorem get_alloc_is {w : World} {b : Nat} {o : Obj} (h : b = w.heap.size) : (w.alloc o).heap[b]? = some o := by rw [h]; exact get_alloc_new _ _
theorem setB_alloc_is {w : World} {b : Nat} {o o' : Obj} (h : b = w.heap.size) : (w.alloc o).setB b o' = w.alloc o' := by rw [h]; exact setB_alloc _ _ _
theorem cells_oneC {α : Type} {enc : α → List Value} (h : ∀ x, (enc x).all oneC = true) (xs : List α) : (cellsOf enc xs).all oneC = true := by
  induction xs with
  | nil => rfl
  | cons x xs ih => simp only [cellsOf, List.flatMap_cons, List.all_append, h, Bool.true_and] at *; exact ih
theorem Sl.none {k : Nat} {w : World} {n c : Nat} {cs : List Value} (h : Sl k w (.slice none n c) n cs) : n = 0 := by
  rcases h.2 with ⟨h, _⟩ | ⟨b, off, cap, c', et, fr, he, _⟩
  · exact h
  · cases he
end
noncomputable section
section
variable {P : Program} {d : Nat} {xs ys : Array Value}
theorem und_of {t : TypeId} {k : TypeDesc} {w : World} (h : (underlying t).run P w = .ok k w) : P.underlying t = some k := by
  unfold Go.underlying at h
  simp only [Sem.run_bind, run_program, Result.andThen_ok] at h
  cases hu : P.underlying t with
  | none => rw [hu] at h; cases h
  | some k' =>
    rw [hu] at h
    simp only [Sem.run_pure, Result.ok.injEq, and_true] at h
    rw [h]
theorem eqS {t : TypeId} {fs : Array Field} {r : Bool} (hu : ∀ w, (underlying t).run P w = .ok (.struct fs) w) (hp : P.stoodInHeld t = false) (h : ∀ w, (Op.eqFields d xs ys fs.toList).run P w = .ok r w) (w : World) :
    (Op.equalIn (d + 1) t (.agg xs) (.agg ys)).run P w = .ok r w := by
  have hu' := und_of (hu w)
  have hf : P.fieldsOf t = fs := by simp only [Program.fieldsOf, hu']
  rw [run_equalIn_struct w d t xs ys (by rw [hf]; exact hu') hp, hf]
  exact h w
theorem eqF_nil (w : World) : (Op.eqFields d xs ys []).run P w = .ok true w := rfl
theorem eqF_cons {f : Field} {fs : List Field} {a b : Value} {r s : Bool} (hn : (f.name == "_") = false) (ha : ∀ w, (part f.type xs f.offset).run P w = .ok a w) (hb : ∀ w, (part f.type ys f.offset).run P w = .ok b w)
    (he : ∀ w, (Op.equalIn d f.type a b).run P w = .ok r w) (hr : ∀ w, (Op.eqFields d xs ys fs).run P w = .ok s w) (w : World) : (Op.eqFields d xs ys (f :: fs)).run P w = .ok (r && s) w := by
  have hne : f.name ≠ "_" := fun e => by simp [e] at hn
  simp only [Op.eqFields, hne, ne_eq, not_false_eq_true, if_true, Sem.run_bind, ha, hb, he, Result.andThen_ok]
  cases r
  · simp
  · simp [hr]
theorem part1 {t : TypeId} {off : Nat} {v : Value} (ha : ∀ w, (isAgg t).run P w = .ok false w) (hv : xs[off]? = some v) (w : World) : (part t xs off).run P w = .ok v w := by
  simp only [part, Sem.run_bind, ha, Result.andThen_ok, Bool.false_eq_true, if_false, hv, Sem.run_pure]
theorem partN {t : TypeId} {off n : Nat} {l : List Value} (ha : ∀ w, (isAgg t).run P w = .ok true w) (hs : ∀ w, (sizeOf t).run P w = .ok n w) (hv : (xs.toList.drop off).take n = l) (w : World) : (part t xs off).run P w = .ok (.agg l.toArray) w := by
  simp only [part, Sem.run_bind, ha, Result.andThen_ok, if_true, hs, Sem.run_pure]
  congr 2
  apply Array.ext'
  subst hv
  simp [List.extract_eq_take_drop]
theorem eqv_string {t : TypeId} (hu : ∀ w, (underlying t).run P w = .ok .string w) (a b : ByteArray) (w : World) : (Op.equalIn (d + 1) t (.string a) (.string b)).run P w = .ok (decide (a = b)) w := by
  rw [run_equalIn_string w d t a b (und_of (hu w)), beq_toList]
theorem eqv_bool {t : TypeId} (hu : ∀ w, (underlying t).run P w = .ok .bool w) (a b : Bool) (w : World) : (Op.equalIn (d + 1) t (.bool a) (.bool b)).run P w = .ok (decide (a = b)) w := by
  rw [run_equalIn_bool' w d t a b (und_of (hu w))]
  congr 1
theorem eqv_int {t : TypeId} {k : IntKind} (hu : ∀ w, (underlying t).run P w = .ok (.int k) w) (q : IntKind) (a b : Int) (w : World) : (Op.equalIn (d + 1) t (.int q a) (.int q b)).run P w = .ok (decide (a = b)) w := by
  rw [run_equalIn_int w d t q k a b (und_of (hu w))]
  congr 1
theorem eqX {t : TypeId} {r : Bool} (hm : P.eqGuardType P.depth t = false) (h : ∀ w, (Op.equalIn 10000 t (.agg xs) (.agg ys)).run P w = .ok r w) (x y : Operand) (w : World) : (xbin .eql t x y (.agg xs) (.agg ys)).run P w = .ok (.bool r) w := by
  simp only [xbin, Sem.run_bind, run_eqGuard_agg w .eql t x y xs ys hm, Result.andThen_ok, run_eql_struct, h]
theorem neX {t : TypeId} {r : Bool} (hm : P.eqGuardType P.depth t = false) (h : ∀ w, (Op.equalIn 10000 t (.agg xs) (.agg ys)).run P w = .ok r w) (x y : Operand) (w : World) : (xbin .neq t x y (.agg xs) (.agg ys)).run P w = .ok (.bool !r) w := by
  simp only [xbin, Sem.run_bind, run_eqGuard_agg w .neq t x y xs ys hm, Result.andThen_ok, run_neq_struct, h]
end
section
variable {P : Program} {M : List Nat} {w0 : World}
theorem takeP_biV {κ : Type} [DecidableEq κ] {kv : κ → Value} (hi : ∀ a b, kv a = kv b → a = b) {b : Builtin} {tys : Array TypeId} {ty : TypeId} {cs : Array Bool} {args : Array Value} {s : Sem Value} {r : Nat} (hb : builtin b tys ty cs args = xv s) (hr : r ∉ M)
    {F : List (κ × Value) → Value} {O : World → (Value → World → Prop) → Prop} (h : ∀ w K, vR (s.run P w) K = mapV kv (O w K) w.heap[r]? (fun es => K (F es) w)) (K : Value → Prop) :
    takeP P (FrX (some M) w0) (builtin b tys ty cs args) K = mapV kv (tkO P (some M) w0 s K) w0.heap[r]? (fun es => K (F es)) := by
  rw [hb]; exact takeP_V hi hr h K
end
end
end Go.VW
