/- The generic engine, part 3: a call out of W; what one operation does, as equations on results; worlds. -/
import Derived.Test.YtomlgkecckffeaaGreatC2
import Derived.Laws.Entries
import Derived.Laws.World
import Derived.WalkKit
import Derived.WalkLawsBesides
import Derived.WalkSpells
set_option linter.unusedVariables false
set_option linter.unusedSimpArgs false
namespace Go.VW
noncomputable section

/-! ### 1. A call -/
def CallsN (P : Program) (f : FuncId) (args : List Value) (w : World) (K : Value → World → Prop) : Prop :=
  Calls P f args.toArray w fun e w' => match e with
    | .returned v => K v w'
    | _ => False
theorem CallsN.mono {P : Program} {f : FuncId} {args : List Value} {w : World} {R R' : Value → World → Prop} (h : CallsN P f args w R) (hr : ∀ v w', R v w' → R' v w') : CallsN P f args w R' :=
  Calls.mono h fun e w' he => by cases e <;> first | exact hr _ _ he | exact he
theorem CallsN.calls {P : Program} {f : FuncId} {args : List Value} {w : World} {R : Value → World → Prop} (h : CallsN P f args w R) :
    Calls P f args.toArray w fun e w' => ∃ v, e = .returned v ∧ R v w' :=
  Calls.mono h fun e w' he => by cases e <;> first | exact ⟨_, rfl, he⟩ | exact he.elim
theorem CallsN.of {P : Program} {f : FuncId} {args : List Value} {w : World} {R : Value → World → Prop} (h : Calls P f args.toArray w fun e w' => ∃ v, e = .returned v ∧ R v w') :
    CallsN P f args w R :=
  Calls.mono h fun e w' he => by obtain ⟨v, rfl, hR⟩ := he; exact hR
def resV (V : Nat → Bool) : List ResultVar → Bool
  | [] => true
  | .tmp t :: r => V t && resV V r
  | .cell t _ :: r => V t && resV V r
theorem resL_mapM (P : Program) (V : Nat → Bool) (e : Env) (tmps : Array Value) : ∀ (rs : List ResultVar), resV V rs = true → (∀ i, V i = true → tmps.getD i undef = e i) →
    rs.mapM (fun r => match r with
      | .tmp t => (pure (tmps.getD t undef) : Sem Value)
      | .cell a t => do loadVar t (← asAddr (tmps.getD a undef))) = resL e rs
  | [], _, _ => rfl
  | .tmp t :: r, h, he => by
    simp only [resV, Bool.and_eq_true] at h
    rw [List.mapM_cons, resL_mapM P V e tmps r h.2 he]
    simp only [resL, he t h.1, pure_bind]
  | .cell a t :: r, h, he => by
    simp only [resV, Bool.and_eq_true] at h
    rw [List.mapM_cons, resL_mapM P V e tmps r h.2 he]
    simp only [resL, he a h.1, bind_assoc]
theorem results_run (P : Program) (fn : Func) (V : Nat → Bool) (e : Env) (tmps : Array Value) (w : World) (hr : resV V fn.results.toList = true) (he : ∀ i, V i = true → tmps.getD i undef = e i)
    {vs : List Value} {w' : World} (h : (resL e fn.results.toList).run P w = .ok vs w') : (results fn tmps).run P w = .ok (one vs) w' := by
  unfold results
  rw [Array.mapM_eq_mapM_toList]
  erw [resL_mapM P V e tmps _ hr he]
  simp only [map_eq_pure_bind, bind_assoc, pure_bind, Sem.run_bind, h, Result.andThen_ok, Sem.run_pure]
  rcases vs with _ | ⟨v, _ | ⟨u, vs⟩⟩ <;> simp [one]
/-! ### 2. Results -/
def uR (r : Result Unit) (K : Value → World → Prop) : Prop := match r with
  | .ok _ w => K undef w
  | _ => False
theorem vR_ok (v : Value) (w : World) (K : Value → World → Prop) : vR (.ok v w) K = K v w := nr rfl
theorem uR_ok (u : Unit) (w : World) (K : Value → World → Prop) : uR (.ok u w) K = K undef w := nr rfl
theorem nx_xv (P : Program) (s : Sem Value) (w : World) (K : Value → World → Prop) : nx P (xv s) w K = vR (s.run P w) K := by
  unfold nx xv vR
  simp only [Sem.run_bind]
  cases s.run P w <;> rfl
theorem nx_xu (P : Program) (s : Sem Unit) (w : World) (K : Value → World → Prop) : nx P (xu s) w K = uR (s.run P w) K := by
  unfold nx xu uR
  simp only [Sem.run_bind]
  cases s.run P w <;> rfl
theorem nx_xcall {P : Program} {f : FuncId} (hc : ∀ args w, (callFunc f args).run P w = .ok (.enter f args) w) (caps : Array Value) (args : List Value) (w : World) (K : Value → World → Prop) :
    nx P (xcall (.func (.func f) #[] caps) args) w K = CallsN P f (args ++ caps.toList) w K := by
  unfold nx xcall CallsN
  simp only [Deferred.ofValue, sem_pure_bind, invoke, hc]
  simp only [Array.empty_append]
  have : args.toArray ++ caps = (args ++ caps.toList).toArray := by simp
  rw [this]
  rfl
theorem nx_bi {P : Program} {b : Builtin} {tys : Array TypeId} {ty : TypeId} {cs : Array Bool} {args : Array Value} {s : Sem Value} (h : builtin b tys ty cs args = xv s) (w : World) (K : Value → World → Prop) :
    nx P (builtin b tys ty cs args) w K = vR (s.run P w) K := by rw [h, nx_xv]
theorem nx_len (P : Program) (tys : Array TypeId) (ty : TypeId) (cs : Array Bool) (args : Array Value) (w : World) (K : Value → World → Prop) :
    nx P (builtin .len tys ty cs args) w K = vR ((Builtin.len_ tys ty args).run P w) K := nx_bi rfl w K
theorem nx_cap (P : Program) (tys : Array TypeId) (ty : TypeId) (cs : Array Bool) (args : Array Value) (w : World) (K : Value → World → Prop) :
    nx P (builtin .cap tys ty cs args) w K = vR ((Builtin.cap_ tys ty args).run P w) K := nx_bi rfl w K
theorem nx_append (P : Program) (tys : Array TypeId) (ty : TypeId) (cs : Array Bool) (args : Array Value) (w : World) (K : Value → World → Prop) :
    nx P (builtin .append tys ty cs args) w K = vR ((Builtin.append_ tys ty args).run P w) K := nx_bi rfl w K
theorem nx_min (P : Program) (tys : Array TypeId) (ty : TypeId) (cs : Array Bool) (args : Array Value) (w : World) (K : Value → World → Prop) :
    nx P (builtin .min tys ty cs args) w K = vR ((Builtin.min_ tys ty args).run P w) K := nx_bi rfl w K
theorem nx_max (P : Program) (tys : Array TypeId) (ty : TypeId) (cs : Array Bool) (args : Array Value) (w : World) (K : Value → World → Prop) :
    nx P (builtin .max tys ty cs args) w K = vR ((Builtin.max_ tys ty args).run P w) K := nx_bi rfl w K
theorem nx_delete (P : Program) (tys : Array TypeId) (ty : TypeId) (cs : Array Bool) (args : Array Value) (w : World) (K : Value → World → Prop) :
    nx P (builtin .delete tys ty cs args) w K = vR ((Builtin.delete_ tys ty args).run P w) K := nx_bi rfl w K
theorem nx_clear (P : Program) (tys : Array TypeId) (ty : TypeId) (cs : Array Bool) (args : Array Value) (w : World) (K : Value → World → Prop) :
    nx P (builtin .clear tys ty cs args) w K = vR ((Builtin.clear_ tys ty args).run P w) K := nx_bi rfl w K
theorem nx_copy (P : Program) (tys : Array TypeId) (ty : TypeId) (cs : Array Bool) (args : Array Value) (w : World) (K : Value → World → Prop) :
    nx P (builtin .copy tys ty cs args) w K = vR ((Builtin.copy_ tys ty args).run P w) K := nx_bi rfl w K

theorem gdP_true (run : (Value → World → Prop) → Prop) (K : Value → World → Prop) (w : World) : gdP true run K w = run K := nr rfl
theorem gdP_false (run : (Value → World → Prop) → Prop) (K : Value → World → Prop) (w : World) : gdP false run K w = K undef w := nr rfl
theorem gdT_true (run : (Value → Prop) → Prop) (K : Value → Prop) : gdT true run K = run K := nr rfl
theorem gdT_false (run : (Value → Prop) → Prop) (K : Value → Prop) : gdT false run K = K undef := nr rfl
theorem isB_t (b : Bool) : isB (.bool b) true = b := rfl
theorem isB_f (b : Bool) : isB (.bool b) false = !b := rfl
theorem isB_u (b : Bool) : isB undef b = false := nr rfl
theorem condP_t (A B : Prop) : condP (.bool true) A B = A := nr rfl
theorem condP_f (A B : Prop) : condP (.bool false) A B = B := nr rfl
theorem orS_t (S : World → Prop) (w : World) (K : Prop) : orS true S w K = K := nr rfl
theorem orS_f (S : World → Prop) (w : World) (K : Prop) : orS false S w K = (S w ∧ K) := nr rfl

/-! ### 3. What is pressed under simp: only the head of a program term is looked at -/
theorem nx_congr {P : Program} {s s' : Sem Next} {w w' : World} {K : Value → World → Prop} (h : s = s') (hw : w = w') : nx P s w K = nx P s' w' K := by rw [h, hw]
theorem vR_congr {r r' : Result Value} {K : Value → World → Prop} (h : r = r') : vR r K = vR r' K := by rw [h]
theorem uR_congr {r r' : Result Unit} {K : Value → World → Prop} (h : r = r') : uR r K = uR r' K := by rw [h]
theorem condP_congr {v v' : Value} {A B : Prop} (h : v = v') : condP v A B = condP v' A B := by rw [h]
theorem gdP_congr {c c' : Bool} {run : (Value → World → Prop) → Prop} {K : Value → World → Prop} {w : World} (h : c = c') : gdP c run K w = gdP c' run K w := by rw [h]
theorem gdT_congr {c c' : Bool} {run : (Value → Prop) → Prop} {K : Value → Prop} (h : c = c') : gdT c run K = gdT c' run K := by rw [h]
theorem rcP_congr {P : Program} {t : TypeId} {v v' : Value} {w : World} {k : Value → Prop} (h : v = v') : rcP P t v w k = rcP P t v' w k := by rw [h]
attribute [congr] rcP_congr
theorem CallsN_congr {P : Program} {f : FuncId} {args args' : List Value} {w w' : World} {K : Value → World → Prop} (h : args = args') (hw : w = w') : CallsN P f args w K = CallsN P f args' w' K := by rw [h, hw]
theorem W_congr {P : Program} {n : Nat} {V : Nat → Bool} {c : Code} {Q : Exit → Env → World → Prop} {e e' : Env} {w w' : World} (h : e = e') (hw : w = w') : W P n V c Q e w = W P n V c Q e' w' := by rw [h, hw]
theorem mv_eq (x : Value) (k : Value → Prop) : mv x k = k x := nr rfl
theorem mv_congr {x x' : Value} {k : Value → Prop} (h : x = x') : mv x k = mv x' k := by rw [h]
theorem takeP_congr {P : Program} {S : World → Prop} {s s' : Sem Next} {K : Value → Prop} (h : s = s') : takeP P S s K = takeP P S s' K := by rw [h]
theorem LoopP_congr {body : Env → World → (Env → World → Prop) → Prop} {e e' : Env} {w w' : World} (h : e = e') (hw : w = w') : LoopP body e w = LoopP body e' w' := by rw [h, hw]
attribute [congr] mv_congr nx_congr vR_congr uR_congr condP_congr gdP_congr gdT_congr CallsN_congr W_congr takeP_congr LoopP_congr

section
variable (k : Env → World → Prop) (Q : Exit → Env → World → Prop) (e : Env) (w : World) (i j d : Nat) (v : Value)
theorem seqQ_n : seqQ k Q .normal e w = k e w := nr rfl
theorem seqQ_r : seqQ k Q .ret e w = Q .ret e w := nr rfl
theorem seqQ_x : seqQ k Q (.exit i) e w = Q (.exit i) e w := nr rfl
theorem blockQ_n : blockQ i Q .normal e w = Q .normal e w := nr rfl
theorem blockQ_r : blockQ i Q .ret e w = Q .ret e w := nr rfl
theorem blockQ_same : blockQ i Q (.exit i) e w = Q .normal e w := by simp [blockQ]
theorem blockQ_ne (h : j ≠ i) : blockQ i Q (.exit j) e w = Q (.exit j) e w := by simp [blockQ, beq_ne h]
theorem p_same : Env.p e d v d = v := by simp [Env.p, Env.put]
theorem p_ne (h : i ≠ d) : Env.p e d v i = e i := by simp [Env.p, Env.put, beq_ne h]
theorem argE_0 (a : Value) (l : List Value) : argE (a :: l) 0 = a := rfl
theorem argE_s (a : Value) (l : List Value) : argE (a :: l) (i + 1) = argE l i := by simp [argE]
theorem argE_nil : argE [] i = undef := by simp [argE]
variable (P : Program) (rs : List ResultVar) (R : Value → World → Prop)
theorem retQ_n : retQ P rs R .normal e w = retP P rs R e w := nr rfl
theorem retQ_r : retQ P rs R .ret e w = retP P rs R e w := nr rfl
theorem retP_0 : retP P [] R e w = R (.tuple #[]) w := by simp [retP, retA, one]
theorem retP_1 : retP P [.tmp i] R e w = R (e i) w := by simp [retP, retA, one]
theorem retP_2 : retP P [.tmp i, .tmp j] R e w = R (.tuple #[e i, e j]) w := by simp [retP, retA, one]
theorem retP_c1 (t : TypeId) : retP P [.cell i t] R e w = rcP P t (e i) w (fun v => R v w) := by simp [retP, retA, one]
theorem retP_ct (t : TypeId) : retP P [.cell i t, .tmp j] R e w = rcP P t (e i) w (fun v => R (.tuple #[v, e j]) w) := by simp [retP, retA, one]
theorem retP_tc (t : TypeId) : retP P [.tmp j, .cell i t] R e w = rcP P t (e i) w (fun v => R (.tuple #[e j, v]) w) := by simp [retP, retA, one]
theorem rcP_ptr (t : TypeId) (a : Addr) (k : Value → Prop) : rcP P t (.pointer (some a)) w k = vR ((Instr.loadAt t (.pointer (some a))).run P w) fun u w' => w' = w ∧ k u := nr rfl
theorem retP_3 (l : Nat) : retP P [.tmp i, .tmp j, .tmp l] R e w = R (.tuple #[e i, e j, e l]) w := by simp [retP, retA, one]
end

section
variable (P : Program) (n : Nat) (V : Nat → Bool) (Q : Exit → Env → World → Prop) (e : Env) (w : World)
end

def Cur (_ : World) : Prop := True
theorem cur (w : World) : Cur w := trivial
/-! ### 4. Worlds -/
def _root_.Go.World.setB (w : World) (b : Nat) (o : Obj) : World := { w with heap := w.heap.setIfInBounds b o }
section
variable (w : World) (b b' : Nat) (o : Obj)
theorem size_alloc : (w.alloc o).heap.size = w.heap.size + 1 := Array.size_push ..
theorem size_setB : (w.setB b o).heap.size = w.heap.size := by simp [World.setB]
theorem size_drew : w.drew.heap.size = w.heap.size := rfl
theorem size_drewN (n : Nat) : (w.drewN n).heap.size = w.heap.size := rfl
theorem get_alloc_new : (w.alloc o).heap[w.heap.size]? = some o := by show (w.heap.push o)[w.heap.size]? = _; simp
theorem get_alloc_old (h : b < w.heap.size) : (w.alloc o).heap[b]? = w.heap[b]? := by
  show (w.heap.push o)[b]? = _
  rw [Array.getElem?_push]
  rw [if_neg (by omega)]
theorem get_setB_same (h : b < w.heap.size) : (w.setB b o).heap[b]? = some o := by simp [World.setB, h]
theorem get_setB_ne (h : b' ≠ b) : (w.setB b' o).heap[b]? = w.heap[b]? := by
  simp only [World.setB, Array.getElem?_setIfInBounds]
  rw [if_neg h]
theorem get_drew : w.drew.heap[b]? = w.heap[b]? := rfl
theorem get_drewN (n : Nat) : (w.drewN n).heap[b]? = w.heap[b]? := rfl
theorem lt_of_get {o : Obj} (h : w.heap[b]? = some o) : b < w.heap.size := (Array.getElem?_eq_some_iff.1 h).1
end

/-! ### 5. Loads and stores -/
end
end Go.VW
