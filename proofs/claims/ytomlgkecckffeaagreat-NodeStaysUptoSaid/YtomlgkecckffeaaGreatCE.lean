/- The generic engine, part 14: drawn regions, a third rule: a value that is taken without a look at memory holds in every world; any other holds in the worlds that are, but for new blocks, as the one where it was taken. Nothing is chosen by hand. -/
import Derived.Test.YtomlgkecckffeaaGreatCB
import Derived.Scope
set_option linter.unusedVariables false
set_option linter.unusedSimpArgs false
set_option linter.unusedSectionVars false
namespace Go.VW
noncomputable section
def andS3 (w : World) : List (Nat × (World → Prop)) → Prop → Prop
  | [], K => K
  | i :: r, K => i.2 w ∧ andS3 w r K
theorem andS3_mem {w : World} {K : Prop} : ∀ {l : List (Nat × (World → Prop))}, andS3 w l K → (∀ i ∈ l, i.2 w) ∧ K
  | [], h => ⟨by simp, h⟩
  | i :: r, h => by
    obtain ⟨h1, h2⟩ := andS3_mem h.2
    exact ⟨fun j hj => by
      rcases List.mem_cons.1 hj with rfl | hj
      · exact h.1
      · exact h1 j hj, h2⟩
/-! ### What is to be known of a region's orders, as a table of numbers (bits): the kernel reckons with them quickly. -/
def bitsL (l : List Nat) : Nat := l.foldr (fun i s => s ||| (1 <<< i)) 0
theorem testBit_shl (a i : Nat) : (1 <<< a).testBit i = decide (i = a) := by
  rw [Nat.testBit_shiftLeft, Bool.eq_iff_iff]
  simp [Nat.testBit_one_eq_true_iff_self_eq_zero]
  omega
theorem testBit_bitsL (l : List Nat) (i : Nat) : (bitsL l).testBit i = decide (i ∈ l) := by
  induction l with
  | nil => simp [bitsL]
  | cons a l ih =>
    show (bitsL l ||| (1 <<< a)).testBit i = _
    rw [Nat.testBit_or, ih, testBit_shl, Bool.eq_iff_iff]
    simp [or_comm]
def aftL (o : Oper) : List Nat := (o.after.toList.filter (Region.binds .any)).map (·.on)
theorem mem_aftL {o : Oper} {i : Nat} : i ∈ aftL o ↔ ∃ e ∈ o.after, Region.binds .any e = true ∧ e.on = i := by
  unfold aftL
  simp only [List.mem_map, List.mem_filter, Array.mem_toList_iff]
  constructor
  · rintro ⟨e, ⟨h1, h2⟩, h3⟩; exact ⟨e, h1, h2, h3⟩
  · rintro ⟨e, h1, h2, h3⟩; exact ⟨e, ⟨h1, h2⟩, h3⟩
abbrev Row := Nat × Nat × Nat × Nat × Bool
def amR (tb : List Row) (i : Nat) : Nat := (tb.getD i (0, 0, 0, 0, false)).1
def rmR (tb : List Row) (i : Nat) : Nat := (tb.getD i (0, 0, 0, 0, false)).2.1
def lmR (tb : List Row) (i : Nat) : Nat := (tb.getD i (0, 0, 0, 0, false)).2.2.1
def dR (tb : List Row) (i : Nat) : Nat := (tb.getD i (0, 0, 0, 0, false)).2.2.2.1
def tkR (tb : List Row) (i : Nat) : Bool := (tb.getD i (0, 0, 0, 0, false)).2.2.2.2
def dN : Option Nat → Nat
  | none => 0
  | some d => d + 1
def rmF (tb : List Row) (j : Nat) : Nat := (List.range j).foldr (fun i s => bif (amR tb j).testBit i then s ||| (1 <<< i) ||| rmR tb i else s) 0
def rowOK (ops : Array Oper) (tb : List Row) (j : Nat) (o : Oper) : Bool :=
  Nat.beq (amR tb j) (bitsL (aftL o)) && (Nat.blt (amR tb j) (1 <<< j) && (Nat.beq (rmR tb j) (rmF tb j) && (Nat.beq (lmR tb j) (bitsL (o.looksAt ops)) && (Nat.beq (dR tb j) (dN o.dst) && (tkR tb j == takeK o)))))
def chkGo (ops : Array Oper) (tb : List Row) : List Oper → Nat → Bool
  | [], _ => true
  | o :: r, j => rowOK ops tb j o && chkGo ops tb r (j + 1)
def chkTab (ops : Array Oper) (tb : List Row) : Bool := Nat.beq tb.length ops.size && chkGo ops tb ops.toList 0
theorem chkGo_at {ops : Array Oper} {tb : List Row} : ∀ {l : List Oper} {k : Nat}, chkGo ops tb l k = true → ∀ (j : Nat) o, l[j]? = some o → rowOK ops tb (k + j) o = true
  | [], _, _, j, o, h => by simp at h
  | x :: l, k, h, j, o, ho => by
    simp only [chkGo, Bool.and_eq_true] at h
    cases j with
    | zero => simp at ho; subst ho; exact h.1
    | succ j =>
      have := chkGo_at h.2 j o (by simpa using ho)
      rwa [show k + 1 + j = k + (j + 1) by omega] at this
structure RowIs (ops : Array Oper) (tb : List Row) (j : Nat) (o : Oper) : Prop where
  am : amR tb j = bitsL (aftL o)
  lt : amR tb j < 1 <<< j
  rm : rmR tb j = rmF tb j
  lm : lmR tb j = bitsL (o.looksAt ops)
  d : dR tb j = dN o.dst
  tk : tkR tb j = takeK o
theorem chk_row {ops : Array Oper} {tb : List Row} (h : chkTab ops tb = true) {j : Nat} {o : Oper} (ho : ops[j]? = some o) : RowIs ops tb j o := by
  simp only [chkTab, Bool.and_eq_true] at h
  have := chkGo_at h.2 j o (by simpa using ho)
  rw [Nat.zero_add] at this
  simp only [rowOK, Bool.and_eq_true, Nat.beq_eq, Nat.blt_eq, beq_iff_eq] at this
  obtain ⟨h1, h2, h3, h4, h5, h6⟩ := this
  exact ⟨h1, h2, h3, h4, h5, h6⟩
theorem foldr_congr' {α β : Type} {f g : α → β → β} {b : β} : ∀ {l : List α}, (∀ a ∈ l, ∀ s, f a s = g a s) → l.foldr f b = l.foldr g b
  | [], _ => rfl
  | a :: l, h => by rw [List.foldr_cons, List.foldr_cons, foldr_congr' fun x hx => h x (List.mem_cons_of_mem _ hx), h a (List.mem_cons_self ..)]
theorem tab_uniq {ops : Array Oper} {t1 t2 : List Row} (h1 : chkTab ops t1 = true) (h2 : chkTab ops t2 = true) : t1 = t2 := by
  have l1 : t1.length = ops.size := by simp only [chkTab, Bool.and_eq_true, Nat.beq_eq] at h1; exact h1.1
  have l2 : t2.length = ops.size := by simp only [chkTab, Bool.and_eq_true, Nat.beq_eq] at h2; exact h2.1
  have hr : ∀ j, j < ops.size → rmR t1 j = rmR t2 j := by
    intro j
    induction j using Nat.strongRecOn with
    | ind j ih =>
      intro hj
      have ho : ops[j]? = some ops[j] := Array.getElem?_eq_getElem hj
      have r1 := chk_row h1 ho
      have r2 := chk_row h2 ho
      rw [r1.rm, r2.rm]
      unfold rmF
      rw [r1.am, r2.am]
      refine foldr_congr' fun i hi s => ?_
      rw [List.mem_range] at hi
      rw [ih i hi (by omega)]
  apply List.ext_getElem (by omega)
  intro j g1 g2
  have hj : j < ops.size := by omega
  have ho : ops[j]? = some ops[j] := Array.getElem?_eq_getElem hj
  have r1 := chk_row h1 ho
  have r2 := chk_row h2 ho
  have e1 : t1.getD j (0, 0, 0, 0, false) = t1[j] := by simp [List.getD_eq_getElem?_getD, g1]
  have e2 : t2.getD j (0, 0, 0, 0, false) = t2[j] := by simp [List.getD_eq_getElem?_getD, g2]
  have q1 := r1.am.trans r2.am.symm
  have q2 := hr j hj
  have q3 := r1.lm.trans r2.lm.symm
  have q4 := r1.d.trans r2.d.symm
  have q5 := r1.tk.trans r2.tk.symm
  unfold amR at q1
  unfold rmR at q2
  unfold lmR at q3
  unfold dR at q4
  unfold tkR at q5
  rw [e1, e2] at q1 q2 q3 q4 q5
  exact Prod.ext q1 (Prod.ext q2 (Prod.ext q3 (Prod.ext q4 q5)))
open Classical in
def tabOf (ops : Array Oper) : List Row := if h : ∃ tb, chkTab ops tb = true then Classical.choose h else []
theorem tabOf_eq {ops : Array Oper} {tb : List Row} (h : chkTab ops tb = true) : tabOf ops = tb := by
  have hex : ∃ tb, chkTab ops tb = true := ⟨tb, h⟩
  unfold tabOf
  rw [dif_pos hex]
  exact tab_uniq (Classical.choose_spec hex) h
theorem testBit_rmF {tb : List Row} {j i : Nat} (h : (rmF tb j).testBit i = true) : ∃ a, a < j ∧ (amR tb j).testBit a = true ∧ (i = a ∨ (rmR tb a).testBit i = true) := by
  unfold rmF at h
  have key : ∀ l : List Nat, (∀ a ∈ l, a < j) → (l.foldr (fun i s => bif (amR tb j).testBit i then s ||| (1 <<< i) ||| rmR tb i else s) 0).testBit i = true → ∃ a, a < j ∧ (amR tb j).testBit a = true ∧ (i = a ∨ (rmR tb a).testBit i = true) := by
    intro l
    induction l with
    | nil => intro _ h; simp at h
    | cons a l ih =>
      intro hl h
      rw [List.foldr_cons] at h
      cases hb : (amR tb j).testBit a with
      | false => rw [hb, cond_false] at h; exact ih (fun x hx => hl x (List.mem_cons_of_mem _ hx)) h
      | true =>
        rw [hb, cond_true, Nat.testBit_or, Nat.testBit_or, testBit_shl] at h
        simp only [Bool.or_eq_true, decide_eq_true_eq] at h
        rcases h with (h | h) | h
        · exact ih (fun x hx => hl x (List.mem_cons_of_mem _ hx)) h
        · exact ⟨a, hl a (List.mem_cons_self ..), hb, .inl h⟩
        · exact ⟨a, hl a (List.mem_cons_self ..), hb, .inr h⟩
  exact key _ (fun a ha => List.mem_range.1 ha) h
def pass3 (tb : List Row) (j i : Nat) : Bool := !(rmR tb j).testBit i
def readyT (tb : List Row) (n m : Nat) : List Nat := (List.range n).filter fun i => !m.testBit i && Nat.beq (amR tb i &&& m) (amR tb i)
def apartT (tb : List Row) (i j : Nat) : Bool := (match dR tb i with
  | 0 => true
  | d + 1 => !(lmR tb j).testBit d && !Nat.beq (dR tb j) (d + 1)) && (match dR tb j with
  | 0 => true
  | d + 1 => !(lmR tb i).testBit d)
def freeT (tb : List Row) (n m i : Nat) : Bool := (List.range n).all fun j => Nat.beq j i || (m.testBit j || ((amR tb j).testBit i || apartT tb i j))
def canT (tb : List Row) (n m i : Nat) : Bool := tkR tb i && freeT tb n m i
structure Corr (ops : Array Oper) (m : Nat) (listed : Array Bool) : Prop where
  size : listed.size = ops.size
  bit : ∀ i, i < ops.size → listed.getD i true = m.testBit i
theorem Corr.set {ops : Array Oper} {m : Nat} {listed : Array Bool} (h : Corr ops m listed) (i : Nat) : Corr ops (m ||| (1 <<< i)) (listed.setIfInBounds i true) := by
  refine ⟨by simp [h.size], fun j hj => ?_⟩
  rw [Nat.testBit_or, testBit_shl, ← h.bit j hj]
  simp only [Array.getD_eq_getD_getElem?, Array.getElem?_setIfInBounds]
  have hjl : j < listed.size := by rw [h.size]; exact hj
  by_cases hij : i = j
  · subst hij; simp [hjl]
  · have : ¬ j = i := fun e => hij e.symm
    simp [hij, this]
theorem Corr.zero (ops : Array Oper) : Corr ops 0 (Array.replicate ops.size false) := ⟨by simp, fun i hi => by simp [hi]⟩
theorem getD_ft {listed : Array Bool} {i : Nat} (h : i < listed.size) : listed.getD i false = listed.getD i true := by simp [h]
theorem ready_eq {ops : Array Oper} {tb : List Row} (hc : chkTab ops tb = true) {m : Nat} {listed : Array Bool} (h : Corr ops m listed) : readyT tb ops.size m = Region.ready .any ops listed := by
  unfold readyT Region.ready
  refine List.filter_congr fun i hi => ?_
  rw [List.mem_range] at hi
  have ho : ops[i]? = some ops[i] := Array.getElem?_eq_getElem hi
  have r := chk_row hc ho
  rw [h.bit i hi, ho]
  congr 1
  rw [Option.map_some, Option.getD_some, Bool.eq_iff_iff, Nat.beq_eq, Array.all_eq_true_iff_forall_mem]
  constructor
  · intro he e hm
    cases hb : Region.binds .any e with
    | false => rfl
    | true =>
      have hin : e.on ∈ aftL ops[i] := mem_aftL.2 ⟨e, hm, hb, rfl⟩
      have h1 : (amR tb i).testBit e.on = true := by rw [r.am, testBit_bitsL]; exact decide_eq_true hin
      have h2 : (amR tb i &&& m).testBit e.on = true := by rw [he]; exact h1
      rw [Nat.testBit_and, h1, Bool.true_and] at h2
      have hlt : e.on < i := by
        have h3 := Nat.ge_two_pow_of_testBit h1
        have h4 := r.lt
        rw [Nat.one_shiftLeft] at h4
        exact (Nat.pow_lt_pow_iff_right (by decide)).1 (Nat.lt_of_le_of_lt h3 h4)
      simp only [Bool.not_true, Bool.false_or]
      rw [getD_ft (by rw [h.size]; omega), h.bit _ (by omega)]
      exact h2
  · intro ha
    apply Nat.eq_of_testBit_eq
    intro x
    rw [Nat.testBit_and]
    cases hx : (amR tb i).testBit x with
    | false => rfl
    | true =>
      have hin := hx
      rw [r.am, testBit_bitsL, decide_eq_true_eq] at hin
      obtain ⟨e, hm, hb, rfl⟩ := mem_aftL.1 hin
      have := ha e hm
      rw [hb] at this
      simp only [Bool.not_true, Bool.false_or] at this
      have hlt : e.on < i := by
        have h3 := Nat.ge_two_pow_of_testBit hx
        have h4 := r.lt
        rw [Nat.one_shiftLeft] at h4
        exact (Nat.pow_lt_pow_iff_right (by decide)).1 (Nat.lt_of_le_of_lt h3 h4)
      rw [getD_ft (by rw [h.size]; omega), h.bit _ (by omega)] at this
      rw [this]; rfl
theorem canT_take {ops : Array Oper} {tb : List Row} (hc : chkTab ops tb = true) {m : Nat} {listed : Array Bool} (h : Corr ops m listed) {i : Nat} {o : Oper} (ho : ops[i]? = some o) (hk : canT tb ops.size m i = true) :
    takeK o = true ∧ ∀ j oj, ops[j]? = some oj → j ≠ i → listed.getD j true = false → (∀ e ∈ oj.after, Region.binds .any e = true → e.on ≠ i) → o.apart ops oj = true := by
  simp only [canT, Bool.and_eq_true] at hk
  have ri := chk_row hc ho
  refine ⟨by rw [← ri.tk]; exact hk.1, fun j oj hj hji hun hno => ?_⟩
  have hjl := (Array.getElem?_eq_some_iff.1 hj).1
  have rj := chk_row hc hj
  have := List.all_eq_true.1 hk.2 j (List.mem_range.2 hjl)
  simp only [Bool.or_eq_true, Nat.beq_eq] at this
  rcases this with q | q | q | q
  · exact absurd q hji
  · rw [h.bit j hjl] at hun; rw [q] at hun; cases hun
  · rw [rj.am, testBit_bitsL, decide_eq_true_eq] at q
    obtain ⟨e, hm, hb, he⟩ := mem_aftL.1 q
    exact absurd he (hno e hm hb)
  · unfold apartT at q
    rw [ri.d, rj.d, ri.lm, rj.lm, Bool.and_eq_true] at q
    unfold Oper.apart
    rw [Bool.and_eq_true]
    refine ⟨?_, ?_⟩
    · have q1 := q.1
      cases hd : o.dst with
      | none => rfl
      | some d =>
        rw [hd] at q1
        simp only [dN, Bool.and_eq_true, Bool.not_eq_true', testBit_bitsL, decide_eq_false_iff_not] at q1
        simp only [Bool.and_eq_true, Bool.not_eq_true', List.contains_eq_mem, decide_eq_false_iff_not, bne_iff_ne, ne_eq]
        refine ⟨q1.1, fun e => ?_⟩
        rw [e] at q1
        simp [dN] at q1
    · have q2 := q.2
      cases hd : oj.dst with
      | none => rfl
      | some d =>
        rw [hd] at q2
        simp only [dN, Bool.not_eq_true', testBit_bitsL, decide_eq_false_iff_not] at q2
        simp only [Bool.not_eq_true', List.contains_eq_mem, decide_eq_false_iff_not]
        exact q2
def Closed (ops : Array Oper) (listed : Array Bool) : Prop := ∀ k ok, listed.getD k false = true → ops[k]? = some ok → ∀ e ∈ ok.after, Region.binds .any e = true → listed.getD e.on false = true
theorem getD_setT {listed : Array Bool} {j k : Nat} (h : listed.getD k false = true) : (listed.setIfInBounds j true).getD k false = true := by
  simp only [Array.getD_eq_getD_getElem?, Array.getElem?_setIfInBounds] at h ⊢
  by_cases hjk : j = k
  · subst hjk
    by_cases hl : j < listed.size
    · simp [hl]
    · rw [Array.getElem?_eq_none (by omega)] at h; simp at h
  · simp [hjk, h]
theorem getD_setF {listed : Array Bool} {j k : Nat} (h : (listed.setIfInBounds j true).getD k false = true) : k = j ∨ listed.getD k false = true := by
  by_cases hjk : j = k
  · exact .inl hjk.symm
  · simp only [Array.getD_eq_getD_getElem?, Array.getElem?_setIfInBounds, hjk, if_false] at h ⊢
    exact .inr h
theorem Closed.set {ops : Array Oper} {listed : Array Bool} (h : Closed ops listed) {j : Nat} (hj : j ∈ Region.ready .any ops listed) : Closed ops (listed.setIfInBounds j true) := by
  obtain ⟨_, oj, hoj, hall⟩ := mem_ready.1 hj
  intro k ok hk hok e he hb
  rcases getD_setF hk with rfl | hk
  · rw [hoj] at hok; cases hok
    exact getD_setT (hall e he hb)
  · exact getD_setT (h k ok hk hok e he hb)
theorem reach_listed {ops : Array Oper} {tb : List Row} (hk : chkTab ops tb = true) {listed : Array Bool} (hc : Closed ops listed) : ∀ (j : Nat) (oj : Oper), ops[j]? = some oj → (∀ e ∈ oj.after, Region.binds .any e = true → listed.getD e.on false = true) →
    ∀ i, (rmR tb j).testBit i = true → listed.getD i false = true := by
  intro j
  induction j using Nat.strongRecOn with
  | ind j ih =>
    intro oj hoj hj i hi
    have r := chk_row hk hoj
    rw [r.rm] at hi
    obtain ⟨a, ha, hb, hor⟩ := testBit_rmF hi
    rw [r.am, testBit_bitsL, decide_eq_true_eq] at hb
    obtain ⟨e, hm, hbi, rfl⟩ := mem_aftL.1 hb
    have hl := hj e hm hbi
    rcases hor with rfl | hor
    · exact hl
    · have hjl := (Array.getElem?_eq_some_iff.1 hoj).1
      have ho : ops[e.on]? = some (ops[e.on]'(by omega)) := Array.getElem?_eq_getElem _
      exact ih e.on ha _ ho (fun e' he' hb' => hc e.on _ hl ho e' he' hb') i hor
theorem pass3_of {ops : Array Oper} {tb : List Row} (hk : chkTab ops tb = true) {listed : Array Bool} {i j : Nat} (hc : Closed ops listed) (hj : j ∈ Region.ready .any ops listed) (hi : listed.getD i true = false) : pass3 tb j i = true := by
  unfold pass3
  cases hr : (rmR tb j).testBit i with
  | false => rfl
  | true =>
    obtain ⟨_, oj, hoj, hall⟩ := mem_ready.1 hj
    have := reach_listed hk hc j oj hoj hall i hr
    rcases Nat.lt_or_ge i listed.size with g | g
    · simp [g] at this hi; rw [this] at hi; cases hi
    · simp [Array.getElem?_eq_none g] at this
def stays (P : Program) (c : Bool) (s : Sem Next) (v : Value) (w w' : World) : Prop := match c with
  | true => Fr [] w w' ∨ s.run P w' = .ok (.value v) w'
  | false => True
theorem stays_f (P : Program) (s : Sem Next) (v : Value) (w w' : World) : stays P false s v w w' = True := nr rfl
theorem stays_fr {P : Program} {s : Sem Next} {v : Value} {w w' : World} (h : Fr [] w w') : stays P true s v w w' = True := eq_true (.inl h)
theorem stays_xv (P : Program) (s : Sem Value) (v : Value) (w w' : World) : stays P true (xv s) v w w' = (Fr [] w w' ∨ vR (s.run P w') fun u w'' => u = v ∧ w'' = w') := by
  show (Fr [] w w' ∨ _) = _
  have e : ((xv s).run P w' = .ok (.value v) w') = vR (s.run P w') (fun u w'' => u = v ∧ w'' = w') := by
    simp only [xv, Sem.run_bind]
    cases s.run P w' with
    | ok u w'' => simp [Result.andThen_ok, Sem.run_pure, vR]
    | halt h w'' => simp [Result.andThen, vR]
  rw [e]
def drawGo3 (N : Sem Next → World → (Value → World → Prop) → Prop) (T : (World → Prop) → Sem Next → (Value → Prop) → Prop) (M : Value → (Value → Prop) → Prop) (G : Bool → ((Value → World → Prop) → Prop) → (Value → World → Prop) → World → Prop) (H : Bool → ((Value → Prop) → Prop) → (Value → Prop) → Prop) (Y : Bool → Sem Next → Value → World → World → Prop) (n : Nat) (V : Nat → Bool) (ops : Array Oper) (tb : List Row) (pu : Nat → Bool) (k : Env → World → Prop) : Nat → List (Nat × (World → Prop)) → Nat → List Nat → Env → Env → World → Prop
  | 0, _, m, _, _, eg, w => match readyT tb ops.size m with
    | [] => k eg w
    | _ => False
  | f + 1, X, m, asg, el, eg, w => match readyT tb ops.size m with
    | [] => k eg w
    | i0 :: is => match (i0 :: is).find? fun i => canT tb ops.size m i with
      | some i => match ops[i]? with
        | some o => bif opOK n V asg ops o then
            gT H o.guard (gv ops el o) (fun K => takeE (T (FrX (bif pu i then none else some []) w)) M (ev el) o K)
              (fun v => drawGo3 N T M G H Y n V ops tb pu k f (bif pu i then X else (i, Y (gv ops el o) (execE (ev el) o) v w) :: X) (m ||| (1 <<< i)) (dstL o asg) (Env.put el o.dst v) (putV V eg o.dst v) w)
          else False
        | none => False
      | none => allP (fun i => match ops[i]? with
        | some o => bif opOK n V asg ops o then
            gG G o.guard (gv ops el o) (fun K => stepE N M (ev el) o w K)
              (fun v w' => andS3 w' (X.filter (fun p => pass3 tb i p.1)) (drawGo3 N T M G H Y n V ops tb pu k f (X.filter (fun p => pass3 tb i p.1)) (m ||| (1 <<< i)) (dstL o asg) (Env.put el o.dst v) (putV V eg o.dst v) w')) w
          else False
        | none => False) (i0 :: is)
def purK (o : Oper) : Bool := match o.op with
  | .move _ | .assign _ | .pick _ _ _ | .nilCheck _ | .binOp _ _ _ _ _ | .unOp _ _ _ | .field _ _ _ | .fieldAddr _ _ _ | .indexAddr _ _ _ | .extract _ _ | .build _ _ | .slice _ _ _ _ _ | .makeFunc _ _ _ => true
  | _ => false
def puK (ops : Array Oper) (i : Nat) : Bool := match ops[i]? with
  | some o => purK o
  | none => true
def drawW3 (P : Program) (n : Nat) (V : Nat → Bool) (ops : Array Oper) (k : Env → World → Prop) (e : Env) (w : World) : Prop :=
  chkTab ops (tabOf ops) = true ∧ drawGo3 (nx P) (takeP P) mv gdP gdT (stays P) n V ops (tabOf ops) (puK ops) k ops.size [] 0 [] e e w.drew
section
variable {P : Program} {ops : Array Oper} {tb : List Row} {Q : Exit → Act → World → Prop}
def wpAnyT3 (P : Program) (ops : Array Oper) (tb : List Row) (Q : Exit → Act → World → Prop) : Nat → List (Nat × (World → Prop)) → Array Bool → Act → World → Prop
  | 0, _, listed, a, w => Region.ready .any ops listed = [] ∧ Q .normal a w
  | fuel + 1, X, listed, a, w =>
    (Region.ready .any ops listed = [] → Q .normal a w) ∧
    ∀ j ∈ Region.ready .any ops listed, wpOp P ops Q j (fun a' w' => (∀ p ∈ X.filter (fun p => pass3 tb j p.1), p.2 w') ∧ wpAnyT3 P ops tb Q fuel (X.filter (fun p => pass3 tb j p.1)) (listed.setIfInBounds j true) a' w') a w
theorem wpAny_of_T3 : ∀ (fuel : Nat) (X : List (Nat × (World → Prop))) (listed : Array Bool) (a : Act) (w : World), wpAnyT3 P ops tb Q fuel X listed a w → wpAny P .any ops Q fuel listed a w
  | 0, _, _, _, _, h => h
  | fuel + 1, _, _, _, _, h => ⟨h.1, fun i hi => wpOp_mono (fun a' w' h' => wpAny_of_T3 fuel _ _ a' w' h'.2) (h.2 i hi)⟩
theorem wpAnyT3_mono : ∀ (fuel : Nat) (X X' : List (Nat × (World → Prop))) (listed : Array Bool) (a : Act) (w : World), (∀ p ∈ X', p ∈ X ∨ ∀ w, p.2 w) → wpAnyT3 P ops tb Q fuel X listed a w → wpAnyT3 P ops tb Q fuel X' listed a w
  | 0, _, _, _, _, _, _, h => h
  | fuel + 1, X, X', _, _, _, hx, h => ⟨h.1, fun j hj => wpOp_mono (fun a' w' h' => by
      have hf : ∀ p ∈ X'.filter (fun p => pass3 tb j p.1), p ∈ X.filter (fun p => pass3 tb j p.1) ∨ ∀ w, p.2 w := fun p hp => by
        rw [List.mem_filter] at hp
        rcases hx p hp.1 with h | h
        · exact .inl (List.mem_filter.2 ⟨h, hp.2⟩)
        · exact .inr h
      exact ⟨fun p hp => (hf p hp).elim (fun h => h'.1 p h) (fun h => h w'), wpAnyT3_mono fuel _ _ _ a' w' hf h'.2⟩) (h.2 j hj)⟩
theorem wpAnyT_first3 (hk : chkTab ops tb = true) {i : Nat} {oi : Oper} {v : Value} {S : World → Prop} (hi : ops[i]? = some oi) (ht : takeK oi = true) (hsel : ∀ (j : Nat) (o : Oper) cs b, ops[j]? = some o → o.op ≠ .select cs b)
    (hQ : ∀ c a w, Q (.panic c) (a.put oi.dst v) w → Q (.panic c) a w) :
    ∀ (fuel : Nat) (X : List (Nat × (World → Prop))) (listed : Array Bool) (a : Act) (w : World),
      (∀ j oj, ops[j]? = some oj → j ≠ i → listed.getD j true = false → (∀ e ∈ oj.after, Region.binds .any e = true → e.on ≠ i) → oi.apart ops oj = true) →
      Closed ops listed → i ∈ Region.ready .any ops listed → YieldsIf P ops S oi v a → S w → (∀ p ∈ X, p.2 w) →
      wpAnyT3 P ops tb Q fuel ((i, S) :: X) (listed.setIfInBounds i true) (a.put oi.dst v) w → wpAnyT3 P ops tb Q (fuel + 1) X listed a w := by
  intro fuel
  induction fuel with
  | zero =>
    intro X listed a w _ hcl hr hy hS hX H
    refine ⟨fun h => (by rw [h] at hr; cases hr), fun j hj => ?_⟩
    by_cases hji : j = i
    · subst hji; exact hy.wpOp hi hS ⟨fun i' hi' => hX i' (List.mem_filter.1 hi').1, H⟩
    · have := ready_mono hj hji
      rw [H.1] at this
      cases this
  | succ fuel ih =>
    intro X listed a w hfree hcl hr hy hS hX H
    refine ⟨fun h => (by rw [h] at hr; cases hr), fun j hj => ?_⟩
    by_cases hji : j = i
    · subst hji; exact hy.wpOp hi hS ⟨fun i' hi' => hX i' (List.mem_filter.1 hi').1, wpAnyT3_mono _ _ _ _ _ _ (fun i' hi' => .inl (List.mem_cons_of_mem _ (List.mem_filter.1 hi').1)) H⟩
    · have h1 := H.2 j (ready_mono hj hji)
      obtain ⟨hjun, oj, hoj, hall⟩ := mem_ready.1 hj
      have hnot : ∀ e ∈ oj.after, Region.binds .any e = true → e.on ≠ i := fun e he hb heq => by
        have g1 := hall e he hb
        have g0 := (mem_ready.1 hr).1
        rw [heq] at g1
        rcases Nat.lt_or_ge i listed.size with g | g
        · simp [g] at g0 g1; rw [g0] at g1; cases g1
        · simp [Array.getElem?_eq_none g] at g1
      rw [List.filter_cons_of_pos (p := fun p : Nat × (World → Prop) => pass3 tb j p.1) (a := (i, S)) (pass3_of hk hcl hj (mem_ready.1 hr).1)] at h1
      have h2 := wpOp_putIf hoj (hfree j oj hoj hji hjun hnot) (fun cs b => hsel i oi cs b hi) (fun cs b => hsel j oj cs b hoj) hQ hy h1
      have hfree' : ∀ k ok, ops[k]? = some ok → k ≠ i → (listed.setIfInBounds j true).getD k true = false →
          (∀ e ∈ ok.after, Region.binds .any e = true → e.on ≠ i) → oi.apart ops ok = true := fun k ok hk hki hun hno => by
        refine hfree k ok hk hki ?_ hno
        by_cases hjk : j = k
        · subst hjk; exact hjun
        · rw [getD_set_ne true hjk] at hun; exact hun
      refine wpOp_mono (fun a' w' h3 => ⟨fun i' hi' => h3.2.1 i' (List.mem_cons_of_mem _ hi'), ih _ (listed.setIfInBounds j true) a' w' hfree' (hcl.set hj) (ready_mono hr (Ne.symm hji)) h3.1 (h3.2.1 (i, S) (List.mem_cons_self ..)) (fun i' hi' => h3.2.1 i' (List.mem_cons_of_mem _ hi')) ?_⟩) h2
      rw [Array.setIfInBounds_comm _ _ hji]
      exact h3.2.2
end
theorem drawGo_sound3 {P : Program} {n : Nat} {V : Nat → Bool} {ops : Array Oper} {tb : List Row} {pu : Nat → Bool} {Q : Exit → Env → World → Prop} (hk : chkTab ops tb = true) (hsel : Region.noSelect ops = true)
    (hQ : ∀ c e w, ¬ Q (.panic c) e w) :
    ∀ (f : Nat) (X : List (Nat × (World → Prop))) (m : Nat) (listed : Array Bool) (asg : List Nat) (el eg : Env) (a : Act) (w : World), RelL n V asg el eg a → Corr ops m listed → Closed ops listed → (∀ p ∈ X, p.2 w) →
      drawGo3 (nx P) (takeP P) mv gdP gdT (stays P) n V ops tb pu (fun e w => Q .normal e w) f X m asg el eg w → wpAnyT3 P ops tb (post n V Q) f X listed a w := by
  intro f
  induction f with
  | zero =>
    intro X m listed asg el eg a w h hco hcl hS hw
    unfold drawGo3 at hw
    rw [ready_eq hk hco] at hw
    split at hw
    · rename_i hr
      exact ⟨hr, eg, h.rel, hw⟩
    · exact hw.elim
  | succ f ih =>
    intro X m listed asg el eg a w h hco hcl hS hw
    unfold drawGo3 at hw
    rw [ready_eq hk hco] at hw
    split at hw
    · rename_i hr
      exact ⟨fun _ => ⟨eg, h.rel, hw⟩, by rw [hr]; simp⟩
    · rename_i i0 is hr
      split at hw
      · rename_i i hfind
        split at hw
        · rename_i o ho
          cases hok : opOK n V asg ops o with
          | false => simp [hok] at hw
          | true =>
            simp only [hok, cond_true, gT_gdT] at hw
            simp only [opOK, Bool.and_eq_true] at hok
            obtain ⟨h1, h2, h3, h4⟩ := hok
            have hmem : i ∈ Region.ready .any ops listed := by rw [hr]; exact List.mem_of_find?_eq_some hfind
            obtain ⟨htk, hfree⟩ := canT_take hk hco ho (by simpa using List.find?_some hfind)
            have hnq : ∀ v, ∀ c a w, post n V Q (.panic c) (a.put o.dst v) w → post n V Q (.panic c) a w := fun v c a w hp => by
              obtain ⟨e, _, hq⟩ := hp
              exact absurd hq (hQ c e w)
            have key : ∀ v, drawGo3 (nx P) (takeP P) mv gdP gdT (stays P) n V ops tb pu (fun e w => Q .normal e w) f (bif pu i then X else (i, stays P (gv ops el o) (execE (ev el) o) v w) :: X) (m ||| (1 <<< i)) (dstL o asg) (Env.put el o.dst v) (putV V eg o.dst v) w →
                wpAnyT3 P ops tb (post n V Q) f ((i, bif pu i then (fun _ => True) else stays P (gv ops el o) (execE (ev el) o) v w) :: X) (listed.setIfInBounds i true) (a.put o.dst v) w := fun v hv => by
              cases hpu : pu i with
              | true =>
                rw [hpu] at hv
                simp only [cond_true] at hv ⊢
                exact wpAnyT3_mono _ _ _ _ _ _ (fun p hp => by
                  rcases List.mem_cons.1 hp with rfl | hp
                  · exact .inr fun w => trivial
                  · exact .inl hp) (ih _ _ _ _ _ _ _ w (h.put h3 v) (hco.set i) (hcl.set hmem) hS hv)
              | false =>
                rw [hpu] at hv
                simp only [cond_false] at hv ⊢
                exact ih _ _ _ _ _ _ _ w (h.put h3 v) (hco.set i) (hcl.set hmem) (fun p hp => by
                  rcases List.mem_cons.1 hp with rfl | hp
                  · cases gv ops el o
                    · trivial
                    · exact .inl (Fr.refl _ _)
                  · exact hS p hp) hv
            have hst : ∀ v, (bif pu i then (fun _ => True) else stays P (gv ops el o) (execE (ev el) o) v w : World → Prop) w := fun v => by
              cases pu i with
              | true => trivial
              | false =>
                show stays P _ _ _ w w
                cases gv ops el o
                · trivial
                · exact .inl (Fr.refl _ _)
            cases hg : gv ops el o with
            | false =>
              rw [hg] at key hst
              simp only [hg, gdT] at hw
              exact wpAnyT_first3 hk ho htk (Region.noSelect_spec hsel) (hnq undef) f X listed a w hfree hcl hmem (.inr ⟨by rw [h.wanted h2, hg], rfl⟩) (hst undef) hS (key _ hw)
            | true =>
              rw [hg] at key hst
              simp only [hg, gdT] at hw
              obtain ⟨v, hv, hw⟩ := takeE_takeP hw
              exact wpAnyT_first3 hk ho htk (Region.noSelect_spec hsel) (hnq v) f X listed a w hfree hcl hmem (.inl ⟨by rw [h.wanted h2, hg], fun w' hw' => by
                rw [h.exec h1 h4]
                cases hpu : pu i with
                | true => rw [hpu] at hv; exact hv w' trivial
                | false =>
                  rw [hpu] at hv hw'
                  simp only [cond_false, hg] at hw'
                  rcases hw' with q | q
                  · exact hv w' q
                  · exact q⟩) (hst v) hS (key _ hw)
        · exact hw.elim
      · refine ⟨fun h0 => (by rw [hr] at h0; cases h0), fun i hi => ?_⟩
        rw [hr] at hi
        have hi' := allP_mem hw i hi
        split at hi'
        · rename_i o ho
          cases hok : opOK n V asg ops o with
          | false => simp [hok] at hi'
          | true =>
            simp only [hok, cond_true, gG_gdP] at hi'
            simp only [opOK, Bool.and_eq_true] at hok
            obtain ⟨h1, h2, h3, h4⟩ := hok
            have key : ∀ v w', andS3 w' (X.filter (fun p => pass3 tb i p.1)) (drawGo3 (nx P) (takeP P) mv gdP gdT (stays P) n V ops tb pu (fun e w => Q .normal e w) f (X.filter (fun p => pass3 tb i p.1)) (m ||| (1 <<< i)) (dstL o asg) (Env.put el o.dst v) (putV V eg o.dst v) w') →
                (∀ i' ∈ X.filter (fun p => pass3 tb i p.1), i'.2 w') ∧ wpAnyT3 P ops tb (post n V Q) f (X.filter (fun p => pass3 tb i p.1)) (listed.setIfInBounds i true) (a.put o.dst v) w' := fun v w' hk' => by
              obtain ⟨hk1, hk2⟩ := andS3_mem hk'
              exact ⟨hk1, ih _ _ _ _ _ _ _ w' (h.put h3 v) (hco.set i) (hcl.set (by rw [hr]; exact hi)) hk1 hk2⟩
            unfold wpOp
            simp only [ho]
            rw [h.wanted h2]
            cases hg : gv ops el o with
            | false =>
              simp only [hg, gdP] at hi'
              simp only [Bool.false_eq_true, if_false]
              exact key _ _ hi'
            | true =>
              simp only [hg, gdP] at hi'
              simp only [if_true]
              exact .inl (nx_wp (h.exec h1 h4) (nx_mono (stepE_nx hi') fun v w' hv => key v w' hv))
        · exact hi'.elim

def gotoN (Q : Exit → Env → World → Prop) : Exit → Env → World → Prop
  | .goto _, _, _ => False
  | x, e, w => Q x e w
def W3 (P : Program) (n : Nat) (V : Nat → Bool) : Code → (Exit → Env → World → Prop) → Env → World → Prop
  | .skip, Q, e, w => Q .normal e w
  | .label _, Q, e, w => Q .normal e w
  | .region _ ops d, Q, e, w => match d with
    | false => opsW (nx P) mv gdP n V ops (fun e w => Q .normal e w) ops.toList [] e e w
    | true => drawW3 P n V ops (fun e w => Q .normal e w) e w
  | .seq a b, Q, e, w => W3 P n V a (seqQ (fun e w => W3 P n V b Q e w) Q) e w
  | .cond c a b, Q, e, w => bif opV V c then condP (ev e c) (W3 P n V a Q e w) (W3 P n V b Q e w) else False
  | .block id b, Q, e, w => W3 P n V b (blockQ id Q) e w
  | .loop b, Q, e, w => LoopP (fun e w k => W3 P n V b (seqQ k Q) e w) e w
  | .exit id, Q, e, w => Q (.exit id) e w
  | .ret, Q, e, w => Q .ret e w
  | .scope b, Q, e, w => W3 P n V b (gotoN Q) e w
  | _, _, _, _ => False
theorem W3_sound {P : Program} {n : Nat} {V : Nat → Bool} (hm : P.follows .mixedOrders = true) : ∀ (c : Code) (Q : Exit → Env → World → Prop) (e : Env) (w : World) (a : Act),
    (∀ ch e w, ¬ Q (.panic ch) e w) → Code.selOK c = true → Rel n V e a → W3 P n V c Q e w → c.wp P (post n V Q) a w
  | .skip, Q, e, w, a, hQ, hs, hr, h => wp_skip ⟨e, hr, h⟩
  | .label _, Q, e, w, a, hQ, hs, hr, h => wp_label ⟨e, hr, h⟩
  | .region id ops false, Q, e, w, a, hQ, hs, hr, h => by
    refine wp_region ?_
    have := wpOps_eq_wpList (P := P) (Q := post n V Q) (ops := ops) ops.toList 0 (by simp)
    rw [List.range_eq_range', ← Array.length_toList, this]
    exact opsW_sound _ _ _ _ a w hr.loc h
  | .region id ops true, Q, e, w, a, hQ, hs, hr, h => by
    have hd : drawW3 P n V ops (fun e w => Q .normal e w) e w := h
    exact wp_region_any hm (wpAny_of_T3 _ _ _ _ _ (drawGo_sound3 hd.1 hs hQ _ _ _ _ _ _ _ a w.drew hr.loc (Corr.zero ops) (fun k ok hk => by
      simp only [Array.getD_eq_getD_getElem?, Array.getElem?_replicate] at hk
      split at hk <;> simp at hk) (by simp) hd.2))
  | .seq x y, Q, e, w, a, hQ, hs, hr, h => by
    simp only [Code.selOK, Bool.and_eq_true] at hs
    refine wp_seq (wp_mono (W3_sound hm x (seqQ (fun e w => W3 P n V y Q e w) Q) e w a (fun ch e w hp => hQ ch e w hp) hs.1 hr h) fun x a w hp => ?_)
    obtain ⟨e', hr', hq⟩ := hp
    cases x with
    | normal => exact W3_sound hm y Q e' w a hQ hs.2 hr' hq
    | _ => exact ⟨e', hr', hq⟩
  | .cond c x y, Q, e, w, a, hQ, hs, hr, h => by
    simp only [Code.selOK, Bool.and_eq_true] at hs
    simp only [W3] at h
    cases hv : opV V c with
    | false => simp [hv] at h
    | true =>
      simp only [hv, cond_true] at h
      have he : a.eval c = ev e c := by
        cases c <;> simp only [Act.eval, ev] <;> try rfl
        exact hr.loc.loc _ (by simpa [opV] using hv)
      generalize hb : ev e c = v at *
      cases v <;> try exact h.elim
      rename_i b
      cases b with
      | true => exact wp_cond_true he (W3_sound hm x Q e w a hQ hs.1 hr h)
      | false => exact wp_cond_false he (W3_sound hm y Q e w a hQ hs.2 hr h)
  | .block id b, Q, e, w, a, hQ, hs, hr, h => by
    refine wp_block (wp_mono (W3_sound hm b (blockQ id Q) e w a (fun ch e w hp => hQ ch e w hp) hs hr h) fun x a w hp => ?_)
    obtain ⟨e', hr', hq⟩ := hp
    cases x with
    | exit id' =>
      simp only [blockQ, Exit.inBlock] at hq ⊢
      by_cases hid : id' = id
      · subst hid
        have : Nat.beq id' id' = true := by simp
        simp only [this, cond_true] at hq
        simp only [if_true]
        exact ⟨e', hr', hq⟩
      · simp only [beq_ne hid, cond_false] at hq
        simp only [hid, if_false]
        exact ⟨e', hr', hq⟩
    | _ => exact ⟨e', hr', hq⟩
  | .loop b, Q, e, w, a, hQ, hs, hr, h => by
    obtain ⟨I, μ, h0, hround⟩ := h
    refine wp_loop (fun a w => Rel n V (can V a) a ∧ I (can V a) w) (fun a w => μ (can V a) w) ⟨⟨hr.size, hr.defers, rfl⟩, by rw [hr.env]; exact h0⟩ fun a w hI => ?_
    refine wp_mono (W3_sound hm b (seqQ (fun e' w' => I e' w' ∧ μ e' w' < μ (can V a) w) Q) (can V a) w a (fun ch e w hp => hQ ch e w hp) hs hI.1 (hround _ _ hI.2)) fun x a' w' hp => ?_
    obtain ⟨e', hr', hq⟩ := hp
    cases x with
    | normal =>
      have he := hr'.env
      subst he
      exact ⟨⟨hr', hq.1⟩, hq.2⟩
    | _ => exact ⟨e', hr', hq⟩
  | .exit id, Q, e, w, a, hQ, hs, hr, h => wp_exit ⟨e, hr, h⟩
  | .ret, Q, e, w, a, hQ, hs, hr, h => wp_ret ⟨e, hr, h⟩
  | .rangeFunc .., Q, e, w, a, hQ, hs, hr, h => h.elim
  | .scope b, Q, e, w, a, hQ, hs, hr, h => by
    refine wp_scope_straight (wp_mono (W3_sound hm b (gotoN Q) e w a (fun ch e w hp => hQ ch e w hp) hs hr h) fun x a w hp => ?_)
    obtain ⟨e', hr', hq⟩ := hp
    cases x with
    | goto l => exact hq.elim
    | _ => exact ⟨e', hr', hq⟩
  | .goto _, Q, e, w, a, hQ, hs, hr, h => h.elim
  | .refuse _, Q, e, w, a, hQ, hs, hr, h => h.elim

section
variable (P : Program) (n : Nat) (V : Nat → Bool) (Q : Exit → Env → World → Prop) (e : Env) (w : World)
theorem gotoN_n : gotoN Q .normal e w = Q .normal e w := nr rfl
theorem gotoN_r : gotoN Q .ret e w = Q .ret e w := nr rfl
theorem gotoN_x (i : Nat) : gotoN Q (.exit i) e w = Q (.exit i) e w := nr rfl
theorem W3_seq (a b : Code) : W3 P n V (.seq a b) Q e w = W3 P n V a (seqQ (fun e w => W3 P n V b Q e w) Q) e w := by rw [W3]
theorem W3_reg (id : Nat) (ops : Array Oper) : W3 P n V (.region id ops false) Q e w = opsW (nx P) mv gdP n V ops (fun e w => Q .normal e w) ops.toList [] e e w := by rw [W3]
theorem W3_regD (id : Nat) (ops : Array Oper) : W3 P n V (.region id ops true) Q e w = drawW3 P n V ops (fun e w => Q .normal e w) e w := by rw [W3]
theorem W3_seq_reg (id : Nat) (ops : Array Oper) (b : Code) : W3 P n V (.seq (.region id ops false) b) Q e w = opsW (nx P) mv gdP n V ops (fun e w => W3 P n V b Q e w) ops.toList [] e e w := by rw [W3_seq, W3_reg]; rfl
theorem W3_seq_regD (id : Nat) (ops : Array Oper) (b : Code) {tb : List Row} (ht : chkTab ops tb = true) : W3 P n V (.seq (.region id ops true) b) Q e w =
    drawGo3 (nx P) (takeP P) mv gdP gdT (stays P) n V ops tb (puK ops) (W3 P n V b Q) ops.size [] 0 [] e e w.drew := by rw [W3_seq, W3_regD]; unfold drawW3; rw [tabOf_eq ht, ht]; simp only [true_and]; rfl
theorem W3_regD' (id : Nat) (ops : Array Oper) {tb : List Row} (ht : chkTab ops tb = true) : W3 P n V (.region id ops true) Q e w =
    drawGo3 (nx P) (takeP P) mv gdP gdT (stays P) n V ops tb (puK ops) (Q .normal) ops.size [] 0 [] e e w.drew := by rw [W3_regD]; unfold drawW3; rw [tabOf_eq ht, ht]; simp only [true_and]
theorem W3_cond (c : Operand) (a b : Code) : W3 P n V (.cond c a b) Q e w = (bif opV V c then condP (ev e c) (W3 P n V a Q e w) (W3 P n V b Q e w) else False) := by rw [W3]
theorem W3_block (id : Nat) (b : Code) : W3 P n V (.block id b) Q e w = W3 P n V b (blockQ id Q) e w := by rw [W3]
theorem W3_loop (b : Code) : W3 P n V (.loop b) Q e w = LoopP (fun e w k => W3 P n V b (seqQ k Q) e w) e w := by rw [W3]
end
theorem callsN_of_W3 {P : Program} {f : FuncId} {fn : Func} {c : Code} {n : Nat} {rs : List ResultVar} (V : Nat → Bool) (hnt : fn.ntmps = n) (hrs : fn.results.toList = rs) (hm : P.follows .mixedOrders = true) (hf : P.funcs[f]? = some fn) (hb : fn.body = some c)
    (hs : Code.selOK c = true) (hr : resV V rs = true) {args : List Value} (ha : (List.range args.length).all V = true) (hn : args.length ≤ n) {w : World} {R : Value → World → Prop}
    (h : W3 P n V c (retQ P rs R) (argE args) w) : CallsN P f args w R := by
  subst hnt hrs
  refine calls_of_wp hf hb ?_
  refine wp_mono (W3_sound hm c (retQ P fn.results.toList R) (argE args) w _ (fun ch e w hp => hp) hs ⟨?_, rfl, ?_⟩ h) fun x a w hp => ?_
  · simp; omega
  · funext i
    simp only [can, argE]
    by_cases hi : i < args.length
    · have : V i = true := List.all_eq_true.1 ha i (by simpa using hi)
      simp [this, Array.getD_eq_getD_getElem?, Array.getElem?_append, hi, List.getD_eq_getElem?_getD]
    · have h1 : args.getD i undef = undef := by simp [List.getD_eq_getElem?_getD, List.getElem?_eq_none (show args.length ≤ i by omega)]
      rw [h1]
      cases V i
      · rfl
      · simp only [cond_true, Array.getD_eq_getD_getElem?, Array.getElem?_append]
        rw [if_neg (by simpa using hi)]
        rw [Array.getElem?_replicate]
        split <;> rfl
  · obtain ⟨e, hrel, hq⟩ := hp
    have key : retP P fn.results.toList R e w → a.defers = [] ∧ ∃ v, (results fn a.tmps).run P w = .ok v w ∧ R v w := fun hq => by
      obtain ⟨vs, hres, hR⟩ := retA_run hq
      exact ⟨hrel.defers, _, results_run P fn V e a.tmps w hr (fun i hi => hrel.loc.loc i (by simp [hi])) hres, hR⟩
    cases x <;> first | exact key hq | exact hq.elim

section
variable {P : Program} {n : Nat} {V : Nat → Bool} {Q : Exit → Env → World → Prop} {e : Env} {w : World}
theorem W3_ret : W3 P n V .ret Q e w = Q .ret e w := by rw [W3]
theorem W3_skip : W3 P n V .skip Q e w = Q .normal e w := by rw [W3]
theorem W3_label (l : Nat) : W3 P n V (.label l) Q e w = Q .normal e w := by rw [W3]
theorem W3_exit (i : Nat) : W3 P n V (.exit i) Q e w = Q (.exit i) e w := by rw [W3]
end
theorem W3_congr {P : Program} {n : Nat} {V : Nat → Bool} {c : Code} {Q : Exit → Env → World → Prop} {e e' : Env} {w w' : World} (h : e = e') (hw : w = w') : W3 P n V c Q e w = W3 P n V c Q e' w' := by rw [h, hw]
attribute [congr] W3_congr
end
end Go.VW
