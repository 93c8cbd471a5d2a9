/- The generic engine, part 8: structs that are compared. -/
import Derived.Test.YtbbjnplellanaaaDoorC7
import Derived.Laws.StructEq
set_option linter.unusedVariables false
set_option linter.unusedSimpArgs false
set_option linter.unusedSectionVars false
namespace Go.VW
noncomputable section
section
variable {P : Program} {d : Nat} {xs ys : Array Value}
theorem und_of {t : TypeId} {k : TypeDesc} {w : World} (h : (underlying t).run P w = .ok k w) : P.underlying t = some k := by
  unfold Go.underlying at h
  simp only [Sem.run_bind, run_program, Result.andThen_ok] at h
  cases hu : P.underlying t with
  | none => rw [hu] at h; cases h
  | some k' =>
    rw [hu] at h
    simp only [Sem.run_pure, Result.ok.injEq, and_true] at h
    rw [h]
theorem eqS {t : TypeId} {fs : Array Field} {r : Bool} (hu : ∀ w, (underlying t).run P w = .ok (.struct fs) w) (hp : P.stoodInHeld t = false) (h : ∀ w, (Op.eqFields d xs ys fs.toList).run P w = .ok r w) (w : World) :
    (Op.equalIn (d + 1) t (.agg xs) (.agg ys)).run P w = .ok r w := by
  have hu' := und_of (hu w)
  have hf : P.fieldsOf t = fs := by simp only [Program.fieldsOf, hu']
  rw [run_equalIn_struct w d t xs ys (by rw [hf]; exact hu') hp, hf]
  exact h w
theorem eqF_nil (w : World) : (Op.eqFields d xs ys []).run P w = .ok true w := rfl
theorem eqF_cons {f : Field} {fs : List Field} {a b : Value} {r s : Bool} (hn : (f.name == "_") = false) (ha : ∀ w, (part f.type xs f.offset).run P w = .ok a w) (hb : ∀ w, (part f.type ys f.offset).run P w = .ok b w)
    (he : ∀ w, (Op.equalIn d f.type a b).run P w = .ok r w) (hr : ∀ w, (Op.eqFields d xs ys fs).run P w = .ok s w) (w : World) : (Op.eqFields d xs ys (f :: fs)).run P w = .ok (r && s) w := by
  have hne : f.name ≠ "_" := fun e => by simp [e] at hn
  simp only [Op.eqFields, hne, ne_eq, not_false_eq_true, if_true, Sem.run_bind, ha, hb, he, Result.andThen_ok]
  cases r
  · simp
  · simp [hr]
theorem part1 {t : TypeId} {off : Nat} {v : Value} (ha : ∀ w, (isAgg t).run P w = .ok false w) (hv : xs[off]? = some v) (w : World) : (part t xs off).run P w = .ok v w := by
  simp only [part, Sem.run_bind, ha, Result.andThen_ok, Bool.false_eq_true, if_false, hv, Sem.run_pure]
theorem partN {t : TypeId} {off n : Nat} {l : List Value} (ha : ∀ w, (isAgg t).run P w = .ok true w) (hs : ∀ w, (sizeOf t).run P w = .ok n w) (hv : (xs.toList.drop off).take n = l) (w : World) : (part t xs off).run P w = .ok (.agg l.toArray) w := by
  simp only [part, Sem.run_bind, ha, Result.andThen_ok, if_true, hs, Sem.run_pure]
  congr 2
  apply Array.ext'
  subst hv
  simp [List.extract_eq_take_drop]
theorem eqv_string {t : TypeId} (hu : ∀ w, (underlying t).run P w = .ok .string w) (a b : ByteArray) (w : World) : (Op.equalIn (d + 1) t (.string a) (.string b)).run P w = .ok (decide (a = b)) w := by
  rw [run_equalIn_string w d t a b (und_of (hu w)), beq_toList]
theorem eqv_bool {t : TypeId} (hu : ∀ w, (underlying t).run P w = .ok .bool w) (a b : Bool) (w : World) : (Op.equalIn (d + 1) t (.bool a) (.bool b)).run P w = .ok (decide (a = b)) w := by
  rw [run_equalIn_bool' w d t a b (und_of (hu w))]
  congr 1
theorem eqv_int {t : TypeId} {k : IntKind} (hu : ∀ w, (underlying t).run P w = .ok (.int k) w) (q : IntKind) (a b : Int) (w : World) : (Op.equalIn (d + 1) t (.int q a) (.int q b)).run P w = .ok (decide (a = b)) w := by
  rw [run_equalIn_int w d t q k a b (und_of (hu w))]
  congr 1
theorem eqX {t : TypeId} {r : Bool} (hm : P.eqGuardType P.depth t = false) (h : ∀ w, (Op.equalIn 10000 t (.agg xs) (.agg ys)).run P w = .ok r w) (x y : Operand) (w : World) : (xbin .eql t x y (.agg xs) (.agg ys)).run P w = .ok (.bool r) w := by
  simp only [xbin, Sem.run_bind, run_eqGuard_agg w .eql t x y xs ys hm, Result.andThen_ok, run_eql_struct, h]
theorem neX {t : TypeId} {r : Bool} (hm : P.eqGuardType P.depth t = false) (h : ∀ w, (Op.equalIn 10000 t (.agg xs) (.agg ys)).run P w = .ok r w) (x y : Operand) (w : World) : (xbin .neq t x y (.agg xs) (.agg ys)).run P w = .ok (.bool !r) w := by
  simp only [xbin, Sem.run_bind, run_eqGuard_agg w .neq t x y xs ys hm, Result.andThen_ok, run_neq_struct, h]
end
section
variable {P : Program} {M : List Nat} {w0 : World}
theorem takeP_biV {κ : Type} [DecidableEq κ] {kv : κ → Value} (hi : ∀ a b, kv a = kv b → a = b) {b : Builtin} {tys : Array TypeId} {ty : TypeId} {cs : Array Bool} {args : Array Value} {s : Sem Value} {r : Nat} (hb : builtin b tys ty cs args = xv s) (hr : r ∉ M)
    {F : List (κ × Value) → Value} {O : World → (Value → World → Prop) → Prop} (h : ∀ w K, vR (s.run P w) K = mapV kv (O w K) w.heap[r]? (fun es => K (F es) w)) (K : Value → Prop) :
    takeP P (FrX (some M) w0) (builtin b tys ty cs args) K = mapV kv (tkO P (some M) w0 s K) w0.heap[r]? (fun es => K (F es)) := by
  rw [hb]; exact takeP_V hi hr h K
end
end
end Go.VW
