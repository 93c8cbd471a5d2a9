/- The generic engine, part 1: a predicate-transformer semantics W of Go code over environments (a value for each tracked slot), and its soundness over the kit's wp rules. -/
import Derived.Orders
import Derived.OrdersHeld
import Derived.Below
import Derived.KernelRfl
import Derived.Deep.Draws
set_option linter.unusedVariables false
namespace Go.VW
noncomputable section

/-- (An equation that simp is not to take for a definition.) -/
theorem aI {p q : Prop} (a : p) (b : q) : p ∧ q := ⟨a, b⟩
theorem nr {α : Sort _} {a b : α} (h : a = b) : a = b := h
abbrev Env := Nat → Value
def Env.put (e : Env) (d : Option Nat) (v : Value) : Env := match d with
  | some d => fun i => bif Nat.beq i d then v else e i
  | none => e
def putV (V : Nat → Bool) (e : Env) (d : Option Nat) (v : Value) : Env := match d with
  | some d => bif V d then Env.put e (some d) v else e
  | none => e
def ev (e : Env) : Operand → Value
  | .tmp t => e t
  | .const v => v
  | .global g => .pointer (some ⟨g, 0, none⟩)
  | .func f => .func (.func f) #[] #[]
def xv (s : Sem Value) : Sem Next := do pure (.value (← s))
def xu (s : Sem Unit) : Sem Next := do s; pure .skip
def xcall (f : Value) (args : List Value) : Sem Next := do
  let d ← Deferred.ofValue f args.toArray
  invoke d.target d.args
def isC : Operand → Bool
  | .const _ => true
  | _ => false
def execE (ρ : Operand → Value) (o : Oper) : Sem Next :=
  match o.op with
  | .call c => match c.callee with
    | .builtin b => builtin b c.argTypes o.type (c.args.toList.map isC).toArray (c.args.toList.map ρ).toArray
    | .value f => xcall (ρ f) (c.args.toList.map ρ)
    | .invoke _ _ => execOp ρ o
  | .build t parts => xv (Instr.build t (parts.toList.map fun p => (p.1, ρ p.2)).toArray)
  | .buildSlice t len parts => xv (Instr.buildSlice t len (parts.toList.map fun p => (p.1, ρ p.2)).toArray)
  | .makeFunc fn first captured => xv (Instr.makeFunc fn (first.toList.map ρ).toArray (captured.toList.map ρ).toArray)
  | _ => execOp ρ o
theorem map_toArray_list {α β : Type} (f : α → β) (a : Array α) : (a.toList.map f).toArray = a.map f := by
  rw [← Array.toList_map]
theorem sem_pure_bind {α β : Type} (x : α) (f : α → Sem β) : ((pure x : Sem α) >>= f) = f x := rfl
theorem execE_eq (ρ : Operand → Value) (o : Oper) : execE ρ o = execOp ρ o := by
  unfold execE
  split
  · rename_i c hc
    split
    · rename_i b hb
      unfold execOp
      simp only [hc, resolve, hb, map_toArray_list, sem_pure_bind, invoke]
      have e : isC = (fun x => match x with | Operand.const _ => true | _ => false) := by funext x; cases x <;> rfl
      rw [e]
      rfl
    · rename_i f hf
      unfold execOp
      simp only [hc, resolve, hf, xcall, map_toArray_list]
    · rfl
  · rename_i t parts hc
    unfold execOp
    simp only [hc, map_toArray_list]; rfl
  · rename_i t len parts hc
    unfold execOp
    simp only [hc, map_toArray_list]; rfl
  · rename_i fn first captured hc
    unfold execOp
    simp only [hc, map_toArray_list]; rfl
  · rfl

/-! ### One operation -/
def nx (P : Program) (s : Sem Next) (w : World) (k : Value → World → Prop) : Prop :=
  match s.run P w with
  | .ok (.value v) w' => k v w'
  | .ok .skip w' => k undef w'
  | .ok (.enter f args) w' => Calls P f args w' fun e w'' => match e with
      | .returned v => k v w''
      | _ => False
  | _ => False
theorem nx_mono {P : Program} {s : Sem Next} {w : World} {k k' : Value → World → Prop} (h : nx P s w k) (hk : ∀ v w, k v w → k' v w) : nx P s w k' := by
  unfold nx at *
  generalize s.run P w = r at *
  cases r with
  | halt hh w' => exact h
  | ok nxt w' =>
    cases nxt <;> first
      | exact h
      | exact hk _ _ h
      | (refine Calls.mono h fun e w' he => ?_
         cases e <;> first | exact hk _ _ he | exact he)
theorem beq_ne {i d : Nat} (h : i ≠ d) : Nat.beq i d = false := by
  cases hb : Nat.beq i d with
  | false => rfl
  | true => exact absurd (Nat.eq_of_beq_eq_true hb) h
def gdP (c : Bool) (run : (Value → World → Prop) → Prop) (K : Value → World → Prop) (w : World) : Prop := match c with
  | true => run K
  | false => K undef w
def isB (v : Value) (want : Bool) : Bool := match v with
  | .bool b => match want with | true => b | false => !b
  | _ => false
def gv (ops : Array Oper) (el : Env) (o : Oper) : Bool := match o.guard with
  | none => true
  | some (j, want) => match (ops[j]?).bind (·.dst) with
    | some d => isB (el d) want
    | none => false
def rdOK (V : Nat → Bool) (asg : List Nat) (o : Oper) : Bool := o.op.operands.toList.all fun x => match x with
  | .tmp t => V t || asg.elem t
  | _ => true
def gdOK (n : Nat) (V : Nat → Bool) (asg : List Nat) (ops : Array Oper) (o : Oper) : Bool := match o.guard with
  | none => true
  | some (j, _) => match (ops[j]?).bind (·.dst) with
    | some d => (V d || asg.elem d) && Nat.blt d n
    | none => false
def dOK (n : Nat) (o : Oper) : Bool := match o.dst with
  | some d => Nat.blt d n
  | none => true
def selOK (o : Oper) : Bool := match o.op with
  | .select _ _ => false
  | _ => true
def opOK (n : Nat) (V : Nat → Bool) (asg : List Nat) (ops : Array Oper) (o : Oper) : Bool :=
  rdOK V asg o && (gdOK n V asg ops o && (dOK n o && selOK o))
def dstL (o : Oper) (asg : List Nat) : List Nat := match o.dst with
  | some d => d :: asg
  | none => asg

/-- A copy is simply made. -/
def mv (x : Value) (k : Value → Prop) : Prop := k x
def stepE (N : Sem Next → World → (Value → World → Prop) → Prop) (M : Value → (Value → Prop) → Prop) (ρ : Operand → Value) (o : Oper) (w : World) (K : Value → World → Prop) : Prop := match o.op with
  | .move x => M (ρ x) fun v => K v w
  | .assign x => M (ρ x) fun v => K v w
  | _ => N (execE ρ o) w K
theorem stepE_nx {P : Program} {ρ : Operand → Value} {o : Oper} {w : World} {K : Value → World → Prop} (h : stepE (nx P) mv ρ o w K) : nx P (execE ρ o) w K := by
  unfold stepE at h
  split at h
  · rename_i x hx
    simp only [execE, hx, execOp]; exact h
  · rename_i x hx
    simp only [execE, hx, execOp]; exact h
  · exact h
def gG (G : Bool → ((Value → World → Prop) → Prop) → (Value → World → Prop) → World → Prop) (g : Option (Nat × Bool)) (c : Bool) (run : (Value → World → Prop) → Prop) (K : Value → World → Prop) (w : World) : Prop := match g with
  | none => run K
  | some _ => G c run K w
theorem gG_gdP (ops : Array Oper) (el : Env) (o : Oper) (run : (Value → World → Prop) → Prop) (K : Value → World → Prop) (w : World) : gG gdP o.guard (gv ops el o) run K w = gdP (gv ops el o) run K w := by
  unfold gG gv
  cases o.guard <;> rfl
/-- N is 'nx P' (a variable in the printed equations, so that the kernel leaves it alone). -/
def opsW (N : Sem Next → World → (Value → World → Prop) → Prop) (M : Value → (Value → Prop) → Prop) (G : Bool → ((Value → World → Prop) → Prop) → (Value → World → Prop) → World → Prop) (n : Nat) (V : Nat → Bool) (ops : Array Oper) (k : Env → World → Prop) : List Oper → List Nat → Env → Env → World → Prop
  | [], _, _, eg, w => k eg w
  | o :: r, asg, el, eg, w =>
    bif opOK n V asg ops o then
      gG G o.guard (gv ops el o) (fun K => stepE N M (ev el) o w K)
        (fun v w' => opsW N M G n V ops k r (dstL o asg) (Env.put el o.dst v) (putV V eg o.dst v) w') w
    else False

/-! ### The relation -/
def can (V : Nat → Bool) (a : Act) : Env := fun i => bif V i then a.tmps.getD i undef else undef
structure Rel (n : Nat) (V : Nat → Bool) (e : Env) (a : Act) : Prop where
  size : a.tmps.size = n
  defers : a.defers = []
  env : can V a = e
structure RelL (n : Nat) (V : Nat → Bool) (asg : List Nat) (el eg : Env) (a : Act) : Prop where
  rel : Rel n V eg a
  loc : ∀ i, (V i || asg.elem i) = true → a.tmps.getD i undef = el i
theorem Rel.loc {n : Nat} {V : Nat → Bool} {e : Env} {a : Act} (h : Rel n V e a) : RelL n V [] e e a :=
  ⟨h, fun i hi => by
    have hv : V i = true := by simpa using hi
    have := congrFun h.env i
    simp only [can, hv, cond_true] at this
    exact this⟩
theorem getD_put {a : Act} {d : Nat} {v : Value} (hd : d < a.tmps.size) (i : Nat) :
    (a.put (some d) v).tmps.getD i undef = if i = d then v else a.tmps.getD i undef := by
  simp only [Act.put, Array.getD_eq_getD_getElem?, Array.getElem?_setIfInBounds]
  by_cases h : i = d
  · subst h; simp [hd]
  · have : ¬ d = i := fun e => h e.symm
    simp [h, this]
theorem RelL.put {n : Nat} {V : Nat → Bool} {asg : List Nat} {el eg : Env} {a : Act} {o : Oper} (h : RelL n V asg el eg a) (hd : dOK n o = true) (v : Value) :
    RelL n V (dstL o asg) (Env.put el o.dst v) (putV V eg o.dst v) (a.put o.dst v) := by
  unfold dOK at hd
  cases hdst : o.dst with
  | none =>
    simp only [dstL, hdst, Env.put, putV, Act.put]
    exact h
  | some d =>
    simp only [hdst] at hd
    have hlt : d < a.tmps.size := by rw [h.rel.size]; simpa using hd
    refine ⟨⟨?_, ?_, ?_⟩, fun i hi => ?_⟩
    · simp [Act.put, h.rel.size]
    · simp [Act.put, h.rel.defers]
    · funext i
      have he := congrFun h.rel.env i
      simp only [can, getD_put hlt, putV] at he ⊢
      by_cases hi : i = d
      · subst hi
        cases hV : V i
        · simp only [hV, cond_false] at he ⊢; exact he
        · simp [Env.put]
      · have hb : Nat.beq i d = false := beq_ne hi
        cases hV : V d <;> simp [Env.put, hi, hb, ← he]
    · rw [getD_put hlt]
      simp only [Env.put]
      by_cases hi' : i = d
      · subst hi'; simp
      · have hb : Nat.beq i d = false := beq_ne hi'
        simp only [hi', if_false, hb, cond_false]
        refine h.loc i ?_
        have hq : (i == d) = false := by simp [hi']
        simp only [dstL, hdst, List.elem_cons, hq] at hi
        exact hi
theorem RelL.eval {n : Nat} {V : Nat → Bool} {asg : List Nat} {el eg : Env} {a : Act} {o : Oper} (h : RelL n V asg el eg a) (hr : rdOK V asg o = true) :
    ∀ x ∈ o.op.operands, a.eval x = ev el x := by
  intro x hx
  have := List.all_eq_true.1 hr x (by simpa using hx)
  cases x <;> simp only [Act.eval, ev] <;> try rfl
  exact h.loc _ this
theorem RelL.exec {n : Nat} {V : Nat → Bool} {asg : List Nat} {el eg : Env} {a : Act} {o : Oper} (h : RelL n V asg el eg a) (hr : rdOK V asg o = true) (hs : selOK o = true) :
    execOp a.eval o = execE (ev el) o := by
  rw [execE_eq]
  exact execOp_congr o (fun cs b hc => by simp [selOK, hc] at hs) (h.eval hr)
theorem RelL.wanted {n : Nat} {V : Nat → Bool} {asg : List Nat} {el eg : Env} {a : Act} {ops : Array Oper} {o : Oper} (h : RelL n V asg el eg a) (hg : gdOK n V asg ops o = true) :
    Region.wanted o (yielded ops a.tmps) = gv ops el o := by
  unfold gdOK at hg
  unfold Region.wanted gv
  cases hgd : o.guard with
  | none => rfl
  | some p =>
    obtain ⟨j, want⟩ := p
    simp only [hgd] at hg ⊢
    unfold yielded
    cases hj : (ops[j]?).bind (·.dst) with
    | none => simp [hj] at hg
    | some d =>
      simp only [hj, Bool.and_eq_true] at hg ⊢
      have hlt : d < a.tmps.size := by rw [h.rel.size]; simpa using hg.2
      have hl := h.loc d hg.1
      simp only [Array.getD_eq_getD_getElem?, Array.getElem?_eq_getElem hlt, Option.getD_some] at hl
      simp only [Option.bind_some, Array.getElem?_eq_getElem hlt, hl]
      cases hv : el d <;> simp [isB]
      rename_i b
      cases b <;> cases want <;> rfl

/-! ### Regions in the order of the text -/
/-- What the machine's post says. -/
def post (n : Nat) (V : Nat → Bool) (Q : Exit → Env → World → Prop) : Exit → Act → World → Prop := fun x a w => ∃ e, Rel n V e a ∧ Q x e w
theorem nx_wp {P : Program} {o : Oper} {a : Act} {w : World} {next : Act → World → Prop} {Q : Exit → Act → World → Prop} {s : Sem Next} (he : execOp a.eval o = s)
    (h : nx P s w fun v w' => next (a.put o.dst v) w') : o.wp P a w next Q := by
  subst he
  unfold Oper.wp
  unfold nx at h
  split at h <;> rename_i hr <;> simp only [hr, Oper.upon] <;> try exact h
  · refine Calls.mono h fun e w' he => ?_
    cases e <;> first | exact he | exact he.elim
  · exact h.elim
theorem opsW_sound {P : Program} {n : Nat} {V : Nat → Bool} {ops : Array Oper} {Q : Exit → Env → World → Prop} :
    ∀ (l : List Oper) (asg : List Nat) (el eg : Env) (a : Act) (w : World), RelL n V asg el eg a → opsW (nx P) mv gdP n V ops (fun e w => Q .normal e w) l asg el eg w → wpList P ops (post n V Q) l a w
  | [], _, _, eg, a, w, h, hw => ⟨eg, h.rel, hw⟩
  | o :: r, asg, el, eg, a, w, h, hw => by
    unfold opsW at hw
    cases hok : opOK n V asg ops o with
    | false => simp [hok] at hw
    | true =>
      simp only [hok, cond_true, gG_gdP] at hw
      simp only [opOK, Bool.and_eq_true] at hok
      obtain ⟨h1, h2, h3, h4⟩ := hok
      unfold wpList
      rw [h.wanted h2]
      cases hg : gv ops el o with
      | false =>
        simp only [hg, gdP] at hw
        simp only [Bool.false_eq_true, if_false]
        exact opsW_sound r _ _ _ _ w (h.put h3 undef) hw
      | true =>
        simp only [hg, gdP] at hw
        simp only [if_true]
        refine .inl (nx_wp (h.exec h1 h4) (nx_mono (stepE_nx hw) fun v w' hv => ?_))
        exact opsW_sound r _ _ _ _ w' (h.put h3 v) hv
end
end Go.VW
