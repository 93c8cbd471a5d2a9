/- The generic engine, part 1: a predicate-transformer semantics W of Go code over environments (a value for each tracked slot), and its soundness over the kit's wp rules. The generic engine, part 2: regions that draw their order; code; a call. -/
import Derived.Orders
import Derived.OrdersHeld
import Derived.Below
import Derived.KernelRfl
import Derived.Deep.Draws
set_option linter.unusedVariables false
namespace Go.VW
noncomputable section

theorem aI {p q : Prop} (a : p) (b : q) : p ∧ q := ⟨a, b⟩
theorem nr {α : Sort _} {a b : α} (h : a = b) : a = b := h
abbrev Env := Nat → Value
def Env.put (e : Env) (d : Option Nat) (v : Value) : Env := match d with
  | some d => fun i => bif Nat.beq i d then v else e i
  | none => e
def putV (V : Nat → Bool) (e : Env) (d : Option Nat) (v : Value) : Env := match d with
  | some d => bif V d then Env.put e (some d) v else e
  | none => e
def ev (e : Env) : Operand → Value
  | .tmp t => e t
  | .const v => v
  | .global g => .pointer (some ⟨g, 0, none⟩)
  | .func f => .func (.func f) #[] #[]
def xv (s : Sem Value) : Sem Next := do pure (.value (← s))
def xu (s : Sem Unit) : Sem Next := do s; pure .skip
def xcall (f : Value) (args : List Value) : Sem Next := do
  let d ← Deferred.ofValue f args.toArray
  invoke d.target d.args
def isC : Operand → Bool
  | .const _ => true
  | _ => false
def execE (ρ : Operand → Value) (o : Oper) : Sem Next :=
  match o.op with
  | .call c => match c.callee with
    | .builtin b => builtin b c.argTypes o.type (c.args.toList.map isC).toArray (c.args.toList.map ρ).toArray
    | .value f => xcall (ρ f) (c.args.toList.map ρ)
    | .invoke _ _ => execOp ρ o
  | .build t parts => xv (Instr.build t (parts.toList.map fun p => (p.1, ρ p.2)).toArray)
  | .buildSlice t len parts => xv (Instr.buildSlice t len (parts.toList.map fun p => (p.1, ρ p.2)).toArray)
  | .makeFunc fn first captured => xv (Instr.makeFunc fn (first.toList.map ρ).toArray (captured.toList.map ρ).toArray)
  | _ => execOp ρ o
theorem map_toArray_list {α β : Type} (f : α → β) (a : Array α) : (a.toList.map f).toArray = a.map f := by
  rw [← Array.toList_map]
theorem sem_pure_bind {α β : Type} (x : α) (f : α → Sem β) : ((pure x : Sem α) >>= f) = f x := rfl
theorem execE_eq (ρ : Operand → Value) (o : Oper) : execE ρ o = execOp ρ o := by
  unfold execE
  split
  · rename_i c hc
    split
    · rename_i b hb
      unfold execOp
      simp only [hc, resolve, hb, map_toArray_list, sem_pure_bind, invoke]
      have e : isC = (fun x => match x with | Operand.const _ => true | _ => false) := by funext x; cases x <;> rfl
      rw [e]
      rfl
    · rename_i f hf
      unfold execOp
      simp only [hc, resolve, hf, xcall, map_toArray_list]
    · rfl
  · rename_i t parts hc
    unfold execOp
    simp only [hc, map_toArray_list]; rfl
  · rename_i t len parts hc
    unfold execOp
    simp only [hc, map_toArray_list]; rfl
  · rename_i fn first captured hc
    unfold execOp
    simp only [hc, map_toArray_list]; rfl
  · rfl

/-! ### One operation -/
def nx (P : Program) (s : Sem Next) (w : World) (k : Value → World → Prop) : Prop :=
  match s.run P w with
  | .ok (.value v) w' => k v w'
  | .ok .skip w' => k undef w'
  | .ok (.enter f args) w' => Calls P f args w' fun e w'' => match e with
      | .returned v => k v w''
      | _ => False
  | _ => False
theorem nx_mono {P : Program} {s : Sem Next} {w : World} {k k' : Value → World → Prop} (h : nx P s w k) (hk : ∀ v w, k v w → k' v w) : nx P s w k' := by
  unfold nx at *
  generalize s.run P w = r at *
  cases r with
  | halt hh w' => exact h
  | ok nxt w' =>
    cases nxt <;> first
      | exact h
      | exact hk _ _ h
      | (refine Calls.mono h fun e w' he => ?_
         cases e <;> first | exact hk _ _ he | exact he)
theorem beq_ne {i d : Nat} (h : i ≠ d) : Nat.beq i d = false := by
  cases hb : Nat.beq i d with
  | false => rfl
  | true => exact absurd (Nat.eq_of_beq_eq_true hb) h
def gdP (c : Bool) (run : (Value → World → Prop) → Prop) (K : Value → World → Prop) (w : World) : Prop := match c with
  | true => run K
  | false => K undef w
def isB (v : Value) (want : Bool) : Bool := match v with
  | .bool b => match want with | true => b | false => !b
  | _ => false
def gv (ops : Array Oper) (el : Env) (o : Oper) : Bool := match o.guard with
  | none => true
  | some (j, want) => match (ops[j]?).bind (·.dst) with
    | some d => isB (el d) want
    | none => false
def rdOK (V : Nat → Bool) (asg : List Nat) (o : Oper) : Bool := o.op.operands.toList.all fun x => match x with
  | .tmp t => V t || asg.elem t
  | _ => true
def gdOK (n : Nat) (V : Nat → Bool) (asg : List Nat) (ops : Array Oper) (o : Oper) : Bool := match o.guard with
  | none => true
  | some (j, _) => match (ops[j]?).bind (·.dst) with
    | some d => (V d || asg.elem d) && Nat.blt d n
    | none => false
def dOK (n : Nat) (o : Oper) : Bool := match o.dst with
  | some d => Nat.blt d n
  | none => true
def selOK (o : Oper) : Bool := match o.op with
  | .select _ _ => false
  | _ => true
def opOK (n : Nat) (V : Nat → Bool) (asg : List Nat) (ops : Array Oper) (o : Oper) : Bool :=
  rdOK V asg o && (gdOK n V asg ops o && (dOK n o && selOK o))
def dstL (o : Oper) (asg : List Nat) : List Nat := match o.dst with
  | some d => d :: asg
  | none => asg

def mv (x : Value) (k : Value → Prop) : Prop := k x
def stepE (N : Sem Next → World → (Value → World → Prop) → Prop) (M : Value → (Value → Prop) → Prop) (ρ : Operand → Value) (o : Oper) (w : World) (K : Value → World → Prop) : Prop := match o.op with
  | .move x => M (ρ x) fun v => K v w
  | .assign x => M (ρ x) fun v => K v w
  | _ => N (execE ρ o) w K
theorem stepE_nx {P : Program} {ρ : Operand → Value} {o : Oper} {w : World} {K : Value → World → Prop} (h : stepE (nx P) mv ρ o w K) : nx P (execE ρ o) w K := by
  unfold stepE at h
  split at h
  · rename_i x hx
    simp only [execE, hx, execOp]; exact h
  · rename_i x hx
    simp only [execE, hx, execOp]; exact h
  · exact h
def gG (G : Bool → ((Value → World → Prop) → Prop) → (Value → World → Prop) → World → Prop) (g : Option (Nat × Bool)) (c : Bool) (run : (Value → World → Prop) → Prop) (K : Value → World → Prop) (w : World) : Prop := match g with
  | none => run K
  | some _ => G c run K w
theorem gG_gdP (ops : Array Oper) (el : Env) (o : Oper) (run : (Value → World → Prop) → Prop) (K : Value → World → Prop) (w : World) : gG gdP o.guard (gv ops el o) run K w = gdP (gv ops el o) run K w := by
  unfold gG gv
  cases o.guard <;> rfl
def opsW (N : Sem Next → World → (Value → World → Prop) → Prop) (M : Value → (Value → Prop) → Prop) (G : Bool → ((Value → World → Prop) → Prop) → (Value → World → Prop) → World → Prop) (n : Nat) (V : Nat → Bool) (ops : Array Oper) (k : Env → World → Prop) : List Oper → List Nat → Env → Env → World → Prop
  | [], _, _, eg, w => k eg w
  | o :: r, asg, el, eg, w =>
    bif opOK n V asg ops o then
      gG G o.guard (gv ops el o) (fun K => stepE N M (ev el) o w K)
        (fun v w' => opsW N M G n V ops k r (dstL o asg) (Env.put el o.dst v) (putV V eg o.dst v) w') w
    else False

/-! ### The relation -/
def can (V : Nat → Bool) (a : Act) : Env := fun i => bif V i then a.tmps.getD i undef else undef
structure Rel (n : Nat) (V : Nat → Bool) (e : Env) (a : Act) : Prop where
  size : a.tmps.size = n
  defers : a.defers = []
  env : can V a = e
structure RelL (n : Nat) (V : Nat → Bool) (asg : List Nat) (el eg : Env) (a : Act) : Prop where
  rel : Rel n V eg a
  loc : ∀ i, (V i || asg.elem i) = true → a.tmps.getD i undef = el i
theorem Rel.loc {n : Nat} {V : Nat → Bool} {e : Env} {a : Act} (h : Rel n V e a) : RelL n V [] e e a :=
  ⟨h, fun i hi => by
    have hv : V i = true := by simpa using hi
    have := congrFun h.env i
    simp only [can, hv, cond_true] at this
    exact this⟩
theorem getD_put {a : Act} {d : Nat} {v : Value} (hd : d < a.tmps.size) (i : Nat) :
    (a.put (some d) v).tmps.getD i undef = if i = d then v else a.tmps.getD i undef := by
  simp only [Act.put, Array.getD_eq_getD_getElem?, Array.getElem?_setIfInBounds]
  by_cases h : i = d
  · subst h; simp [hd]
  · have : ¬ d = i := fun e => h e.symm
    simp [h, this]
theorem RelL.put {n : Nat} {V : Nat → Bool} {asg : List Nat} {el eg : Env} {a : Act} {o : Oper} (h : RelL n V asg el eg a) (hd : dOK n o = true) (v : Value) :
    RelL n V (dstL o asg) (Env.put el o.dst v) (putV V eg o.dst v) (a.put o.dst v) := by
  unfold dOK at hd
  cases hdst : o.dst with
  | none =>
    simp only [dstL, hdst, Env.put, putV, Act.put]
    exact h
  | some d =>
    simp only [hdst] at hd
    have hlt : d < a.tmps.size := by rw [h.rel.size]; simpa using hd
    refine ⟨⟨?_, ?_, ?_⟩, fun i hi => ?_⟩
    · simp [Act.put, h.rel.size]
    · simp [Act.put, h.rel.defers]
    · funext i
      have he := congrFun h.rel.env i
      simp only [can, getD_put hlt, putV] at he ⊢
      by_cases hi : i = d
      · subst hi
        cases hV : V i
        · simp only [hV, cond_false] at he ⊢; exact he
        · simp [Env.put]
      · have hb : Nat.beq i d = false := beq_ne hi
        cases hV : V d <;> simp [Env.put, hi, hb, ← he]
    · rw [getD_put hlt]
      simp only [Env.put]
      by_cases hi' : i = d
      · subst hi'; simp
      · have hb : Nat.beq i d = false := beq_ne hi'
        simp only [hi', if_false, hb, cond_false]
        refine h.loc i ?_
        have hq : (i == d) = false := by simp [hi']
        simp only [dstL, hdst, List.elem_cons, hq] at hi
        exact hi
theorem RelL.eval {n : Nat} {V : Nat → Bool} {asg : List Nat} {el eg : Env} {a : Act} {o : Oper} (h : RelL n V asg el eg a) (hr : rdOK V asg o = true) :
    ∀ x ∈ o.op.operands, a.eval x = ev el x := by
  intro x hx
  have := List.all_eq_true.1 hr x (by simpa using hx)
  cases x <;> simp only [Act.eval, ev] <;> try rfl
  exact h.loc _ this
theorem RelL.exec {n : Nat} {V : Nat → Bool} {asg : List Nat} {el eg : Env} {a : Act} {o : Oper} (h : RelL n V asg el eg a) (hr : rdOK V asg o = true) (hs : selOK o = true) :
    execOp a.eval o = execE (ev el) o := by
  rw [execE_eq]
  exact execOp_congr o (fun cs b hc => by simp [selOK, hc] at hs) (h.eval hr)
theorem RelL.wanted {n : Nat} {V : Nat → Bool} {asg : List Nat} {el eg : Env} {a : Act} {ops : Array Oper} {o : Oper} (h : RelL n V asg el eg a) (hg : gdOK n V asg ops o = true) :
    Region.wanted o (yielded ops a.tmps) = gv ops el o := by
  unfold gdOK at hg
  unfold Region.wanted gv
  cases hgd : o.guard with
  | none => rfl
  | some p =>
    obtain ⟨j, want⟩ := p
    simp only [hgd] at hg ⊢
    unfold yielded
    cases hj : (ops[j]?).bind (·.dst) with
    | none => simp [hj] at hg
    | some d =>
      simp only [hj, Bool.and_eq_true] at hg ⊢
      have hlt : d < a.tmps.size := by rw [h.rel.size]; simpa using hg.2
      have hl := h.loc d hg.1
      simp only [Array.getD_eq_getD_getElem?, Array.getElem?_eq_getElem hlt, Option.getD_some] at hl
      simp only [Option.bind_some, Array.getElem?_eq_getElem hlt, hl]
      cases hv : el d <;> simp [isB]
      rename_i b
      cases b <;> cases want <;> rfl

/-! ### Regions in the order of the text -/
def post (n : Nat) (V : Nat → Bool) (Q : Exit → Env → World → Prop) : Exit → Act → World → Prop := fun x a w => ∃ e, Rel n V e a ∧ Q x e w
theorem nx_wp {P : Program} {o : Oper} {a : Act} {w : World} {next : Act → World → Prop} {Q : Exit → Act → World → Prop} {s : Sem Next} (he : execOp a.eval o = s)
    (h : nx P s w fun v w' => next (a.put o.dst v) w') : o.wp P a w next Q := by
  subst he
  unfold Oper.wp
  unfold nx at h
  split at h <;> rename_i hr <;> simp only [hr, Oper.upon] <;> try exact h
  · refine Calls.mono h fun e w' he => ?_
    cases e <;> first | exact he | exact he.elim
  · exact h.elim
theorem opsW_sound {P : Program} {n : Nat} {V : Nat → Bool} {ops : Array Oper} {Q : Exit → Env → World → Prop} :
    ∀ (l : List Oper) (asg : List Nat) (el eg : Env) (a : Act) (w : World), RelL n V asg el eg a → opsW (nx P) mv gdP n V ops (fun e w => Q .normal e w) l asg el eg w → wpList P ops (post n V Q) l a w
  | [], _, _, eg, a, w, h, hw => ⟨eg, h.rel, hw⟩
  | o :: r, asg, el, eg, a, w, h, hw => by
    unfold opsW at hw
    cases hok : opOK n V asg ops o with
    | false => simp [hok] at hw
    | true =>
      simp only [hok, cond_true, gG_gdP] at hw
      simp only [opOK, Bool.and_eq_true] at hok
      obtain ⟨h1, h2, h3, h4⟩ := hok
      unfold wpList
      rw [h.wanted h2]
      cases hg : gv ops el o with
      | false =>
        simp only [hg, gdP] at hw
        simp only [Bool.false_eq_true, if_false]
        exact opsW_sound r _ _ _ _ w (h.put h3 undef) hw
      | true =>
        simp only [hg, gdP] at hw
        simp only [if_true]
        refine .inl (nx_wp (h.exec h1 h4) (nx_mono (stepE_nx hw) fun v w' hv => ?_))
        exact opsW_sound r _ _ _ _ w' (h.put h3 v) hv
end
noncomputable section

/-! ### Regions that draw their order -/
def takeK (o : Oper) : Bool := match o.op with
  | .move _ | .assign _ | .pick _ _ _ | .load _ _ | .nilCheck _ | .binOp _ _ _ _ _ | .unOp _ _ _ | .convert _ _ _ | .field _ _ _ | .fieldAddr _ _ _ | .index _ _ _ | .indexAddr _ _ _
  | .lookup _ _ _ _ | .extract _ _ | .build _ _ | .slice _ _ _ _ _ | .makeInterface _ _ | .makeFunc _ _ _ | .typeAssert _ _ _ _ => true
  | .call c => match c.callee with
    | .builtin .len | .builtin .cap | .builtin .min | .builtin .max => true
    | _ => false
  | _ => false
def canTake (ops : Array Oper) (listed : Array Bool) (i : Nat) : Bool := match ops[i]? with
  | some o => takeK o && Region.free .any ops listed i
  | none => false
def crossOK (ops : Array Oper) (j : Nat) : Bool := (List.range ops.size).all fun i => Nat.beq i j || match ops[i]? with
  | some oi => !takeK oi || (match ops[j]? with
    | some oj => oj.after.any fun e => Region.binds .any e && e.on == i
    | none => false)
  | none => true
def takeP (P : Program) (S : World → Prop) (s : Sem Next) (K : Value → Prop) : Prop := ∃ v, (∀ w, S w → s.run P w = .ok (.value v) w) ∧ K v
def takeE (T : Sem Next → (Value → Prop) → Prop) (M : Value → (Value → Prop) → Prop) (ρ : Operand → Value) (o : Oper) (K : Value → Prop) : Prop := match o.op with
  | .move x => M (ρ x) K
  | .assign x => M (ρ x) K
  | _ => T (execE ρ o) K
theorem takeE_takeP {P : Program} {S : World → Prop} {ρ : Operand → Value} {o : Oper} {K : Value → Prop} (h : takeE (takeP P S) mv ρ o K) : takeP P S (execE ρ o) K := by
  unfold takeE at h
  split at h
  · rename_i x hx
    exact ⟨_, fun w _ => by simp only [execE, hx, execOp]; rfl, h⟩
  · rename_i x hx
    exact ⟨_, fun w _ => by simp only [execE, hx, execOp]; rfl, h⟩
  · exact h
def gdT (c : Bool) (run : (Value → Prop) → Prop) (K : Value → Prop) : Prop := match c with
  | true => run K
  | false => K undef
def gT (H : Bool → ((Value → Prop) → Prop) → (Value → Prop) → Prop) (g : Option (Nat × Bool)) (c : Bool) (run : (Value → Prop) → Prop) (K : Value → Prop) : Prop := match g with
  | none => run K
  | some _ => H c run K
theorem gT_gdT (ops : Array Oper) (el : Env) (o : Oper) (run : (Value → Prop) → Prop) (K : Value → Prop) : gT gdT o.guard (gv ops el o) run K = gdT (gv ops el o) run K := by
  unfold gT gv
  cases o.guard <;> rfl
def allP (f : Nat → Prop) : List Nat → Prop
  | [] => True
  | [i] => f i
  | i :: r => f i ∧ allP f r
theorem allP_mem {f : Nat → Prop} : ∀ {l : List Nat}, allP f l → ∀ i ∈ l, f i
  | [], _, _, h => by cases h
  | [i], h, j, hj => by obtain rfl : j = i := by simpa using hj
                        exact h
  | i :: k :: r, h, j, hj => by
    rcases List.mem_cons.1 hj with rfl | hj
    · exact h.1
    · exact allP_mem h.2 j hj
def orS (c : Bool) (S : World → Prop) (w : World) (K : Prop) : Prop := match c with
  | true => K
  | false => S w ∧ K

def drawGo (N : Sem Next → World → (Value → World → Prop) → Prop) (T : Sem Next → (Value → Prop) → Prop) (M : Value → (Value → Prop) → Prop) (G : Bool → ((Value → World → Prop) → Prop) → (Value → World → Prop) → World → Prop) (H : Bool → ((Value → Prop) → Prop) → (Value → Prop) → Prop) (n : Nat) (V : Nat → Bool) (ops : Array Oper) (S : World → Prop) (k : Env → World → Prop) : Nat → Bool → Array Bool → List Nat → Env → Env → World → Prop
  | 0, _, listed, _, _, eg, w => match Region.ready .any ops listed with
    | [] => k eg w
    | _ => False
  | f + 1, ok, listed, asg, el, eg, w => match Region.ready .any ops listed with
    | [] => k eg w
    | i0 :: is => match (i0 :: is).find? fun i => canTake ops listed i with
      | some i => match ops[i]? with
        | some o => bif ok && opOK n V asg ops o then
            gT H o.guard (gv ops el o) (fun K => takeE T M (ev el) o K)
              (fun v => drawGo N T M G H n V ops S k f ok (listed.setIfInBounds i true) (dstL o asg) (Env.put el o.dst v) (putV V eg o.dst v) w)
          else False
        | none => False
      | none => allP (fun i => match ops[i]? with
        | some o => bif opOK n V asg ops o then
            gG G o.guard (gv ops el o) (fun K => stepE N M (ev el) o w K)
              (fun v w' => orS (crossOK ops i) S w' (drawGo N T M G H n V ops S k f (!crossOK ops i) (listed.setIfInBounds i true) (dstL o asg) (Env.put el o.dst v) (putV V eg o.dst v) w')) w
          else False
        | none => False) (i0 :: is)
def drawW (P : Program) (n : Nat) (V : Nat → Bool) (ops : Array Oper) (k : Env → World → Prop) (e : Env) (w : World) : Prop :=
  ∃ S : World → Prop, S w.drew ∧ drawGo (nx P) (takeP P S) mv gdP gdT n V ops S k ops.size true (Array.replicate ops.size false) [] e e w.drew

section
variable {P : Program} {ops : Array Oper} {Q : Exit → Act → World → Prop} {S : World → Prop}
end

/-! ### Code -/
def condP (v : Value) (A B : Prop) : Prop := match v with
  | .bool true => A
  | .bool false => B
  | _ => False
def seqQ (k : Env → World → Prop) (Q : Exit → Env → World → Prop) : Exit → Env → World → Prop
  | .normal, e, w => k e w
  | x, e, w => Q x e w
def blockQ (id : Nat) (Q : Exit → Env → World → Prop) : Exit → Env → World → Prop
  | .exit id', e, w => bif Nat.beq id' id then Q .normal e w else Q (.exit id') e w
  | x, e, w => Q x e w
def LoopP (body : Env → World → (Env → World → Prop) → Prop) (e : Env) (w : World) : Prop :=
  ∃ (I : Env → World → Prop) (μ : Env → World → Nat), I e w ∧ ∀ e w, I e w → body e w fun e' w' => I e' w' ∧ μ e' w' < μ e w
def opV (V : Nat → Bool) : Operand → Bool
  | .tmp t => V t
  | _ => true
def W (P : Program) (n : Nat) (V : Nat → Bool) : Code → (Exit → Env → World → Prop) → Env → World → Prop
  | .skip, Q, e, w => Q .normal e w
  | .label _, Q, e, w => Q .normal e w
  | .region _ ops d, Q, e, w => match d with
    | false => opsW (nx P) mv gdP n V ops (fun e w => Q .normal e w) ops.toList [] e e w
    | true => drawW P n V ops (fun e w => Q .normal e w) e w
  | .seq a b, Q, e, w => W P n V a (seqQ (fun e w => W P n V b Q e w) Q) e w
  | .cond c a b, Q, e, w => bif opV V c then condP (ev e c) (W P n V a Q e w) (W P n V b Q e w) else False
  | .block id b, Q, e, w => W P n V b (blockQ id Q) e w
  | .loop b, Q, e, w => LoopP (fun e w k => W P n V b (seqQ k Q) e w) e w
  | .exit id, Q, e, w => Q (.exit id) e w
  | .ret, Q, e, w => Q .ret e w
  | _, _, _, _ => False
def Code.selOK : Code → Bool
  | .region _ ops _ => Region.noSelect ops
  | .seq a b => Code.selOK a && Code.selOK b
  | .cond _ a b => Code.selOK a && Code.selOK b
  | .block _ b => Code.selOK b
  | .loop b => Code.selOK b
  | .scope b => Code.selOK b
  | _ => true
def Env.p (e : Env) (d : Nat) (v : Value) : Env := Env.put e (some d) v
def cL : Code → Code
  | .seq a _ => a
  | .cond _ a _ => a
  | .block _ a => a
  | .loop a => a
  | .scope a => a
  | c => c
def cR : Code → Code
  | .seq _ b => b
  | .cond _ _ b => b
  | c => c
def rO : Code → Array Oper
  | .region _ ops _ => ops
  | _ => #[]
section
variable (P : Program) (n : Nat) (V : Nat → Bool) (Q : Exit → Env → World → Prop) (e : Env) (w : World)
end
/-! ### A call -/
def resL (e : Env) : List ResultVar → Sem (List Value)
  | [] => pure []
  | .tmp t :: r => do pure (e t :: (← resL e r))
  | .cell a t :: r => do
    let v ← loadVar t (← asAddr (e a))
    pure (v :: (← resL e r))
def one : List Value → Value
  | [v] => v
  | vs => .tuple vs.toArray
def vR (r : Result Value) (K : Value → World → Prop) : Prop := match r with
  | .ok v w => K v w
  | _ => False
def rcP (P : Program) (t : TypeId) (v : Value) (w : World) (k : Value → Prop) : Prop := match v with
  | .pointer (some a) => vR ((Instr.loadAt t (.pointer (some a))).run P w) fun u w' => w' = w ∧ k u
  | _ => False
def retA (P : Program) (e : Env) (w : World) : List ResultVar → (List Value → Prop) → Prop
  | [], k => k []
  | .tmp t :: r, k => retA P e w r fun vs => k (e t :: vs)
  | .cell a t :: r, k => rcP P t (e a) w fun v => retA P e w r fun vs => k (v :: vs)
theorem retA_run {P : Program} {e : Env} {w : World} : ∀ {rs : List ResultVar} {k : List Value → Prop}, retA P e w rs k → ∃ vs, (resL e rs).run P w = .ok vs w ∧ k vs
  | [], k, h => ⟨[], rfl, h⟩
  | .tmp t :: r, k, h => by
    obtain ⟨vs, h1, h2⟩ := retA_run (rs := r) h
    exact ⟨_, by simp only [resL, Sem.run_bind, h1, Result.andThen_ok, Sem.run_pure], h2⟩
  | .cell a t :: r, k, h => by
    unfold retA rcP at h
    split at h
    · rename_i ad hv
      unfold vR at h
      split at h
      · rename_i u w' hr
        obtain ⟨rfl, h⟩ := h
        obtain ⟨vs, h1, h2⟩ := retA_run (rs := r) h
        refine ⟨_, ?_, h2⟩
        have hl : (loadVar t ad).run P w' = .ok u w' := by simpa only [Instr.loadAt, Instr.sureAddr, sem_pure_bind] using hr
        simp only [resL, hv, asAddr, sem_pure_bind, Sem.run_bind, hl, Result.andThen_ok, h1, Sem.run_pure]
      · exact h.elim
    · exact h.elim
def retP (P : Program) (rs : List ResultVar) (R : Value → World → Prop) (e : Env) (w : World) : Prop := retA P e w rs fun vs => R (one vs) w
def retQ (P : Program) (rs : List ResultVar) (R : Value → World → Prop) : Exit → Env → World → Prop
  | .normal, e, w | .ret, e, w => retP P rs R e w
  | _, _, _ => False
def argE (l : List Value) : Env := fun i => l.getD i undef
def CallsR (P : Program) (f : FuncId) (args : List Value) (w : World) (R : Value → World → Prop) : Prop :=
  (∃ fn, P.funcs[f]? = some fn ∧ fn.body.isSome = true ∧ (fn.name == "runtime.NumGoroutine") = false) ∧
  Calls P f args.toArray w fun e w' => match e with
    | .returned v => R v w'
    | _ => False
theorem CallsR.mono {P : Program} {f : FuncId} {args : List Value} {w : World} {R R' : Value → World → Prop} (h : CallsR P f args w R) (hr : ∀ v w', R v w' → R' v w') : CallsR P f args w R' :=
  ⟨h.1, Calls.mono h.2 fun e w' he => by cases e <;> first | exact hr _ _ he | exact he⟩
end
end Go.VW
