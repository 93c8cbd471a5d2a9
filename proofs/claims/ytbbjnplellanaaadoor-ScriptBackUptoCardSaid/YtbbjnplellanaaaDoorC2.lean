/- The generic engine, part 2: regions that draw their order; code; a call. -/
import Derived.Test.YtbbjnplellanaaaDoorC1
set_option linter.unusedVariables false
namespace Go.VW
noncomputable section

/-! ### Regions that draw their order -/
def takeK (o : Oper) : Bool := match o.op with
  | .move _ | .assign _ | .pick _ _ _ | .load _ _ | .nilCheck _ | .binOp _ _ _ _ _ | .unOp _ _ _ | .convert _ _ _ | .field _ _ _ | .fieldAddr _ _ _ | .index _ _ _ | .indexAddr _ _ _
  | .lookup _ _ _ _ | .extract _ _ | .build _ _ | .slice _ _ _ _ _ | .makeInterface _ _ | .makeFunc _ _ _ | .typeAssert _ _ _ _ => true
  | .call c => match c.callee with
    | .builtin .len | .builtin .cap | .builtin .min | .builtin .max => true
    | _ => false
  | _ => false
def canTake (ops : Array Oper) (listed : Array Bool) (i : Nat) : Bool := match ops[i]? with
  | some o => takeK o && Region.free .any ops listed i
  | none => false
/-- Every operation that may be taken first stands right before number j: none is ever carried over it. -/
def crossOK (ops : Array Oper) (j : Nat) : Bool := (List.range ops.size).all fun i => Nat.beq i j || match ops[i]? with
  | some oi => !takeK oi || (match ops[j]? with
    | some oj => oj.after.any fun e => Region.binds .any e && e.on == i
    | none => false)
  | none => true
def takeP (P : Program) (S : World → Prop) (s : Sem Next) (K : Value → Prop) : Prop := ∃ v, (∀ w, S w → s.run P w = .ok (.value v) w) ∧ K v
/-- A copy is simply made. -/
def takeE (T : Sem Next → (Value → Prop) → Prop) (M : Value → (Value → Prop) → Prop) (ρ : Operand → Value) (o : Oper) (K : Value → Prop) : Prop := match o.op with
  | .move x => M (ρ x) K
  | .assign x => M (ρ x) K
  | _ => T (execE ρ o) K
theorem takeE_takeP {P : Program} {S : World → Prop} {ρ : Operand → Value} {o : Oper} {K : Value → Prop} (h : takeE (takeP P S) mv ρ o K) : takeP P S (execE ρ o) K := by
  unfold takeE at h
  split at h
  · rename_i x hx
    exact ⟨_, fun w _ => by simp only [execE, hx, execOp]; rfl, h⟩
  · rename_i x hx
    exact ⟨_, fun w _ => by simp only [execE, hx, execOp]; rfl, h⟩
  · exact h
def gdT (c : Bool) (run : (Value → Prop) → Prop) (K : Value → Prop) : Prop := match c with
  | true => run K
  | false => K undef
def gT (H : Bool → ((Value → Prop) → Prop) → (Value → Prop) → Prop) (g : Option (Nat × Bool)) (c : Bool) (run : (Value → Prop) → Prop) (K : Value → Prop) : Prop := match g with
  | none => run K
  | some _ => H c run K
theorem gT_gdT (ops : Array Oper) (el : Env) (o : Oper) (run : (Value → Prop) → Prop) (K : Value → Prop) : gT gdT o.guard (gv ops el o) run K = gdT (gv ops el o) run K := by
  unfold gT gv
  cases o.guard <;> rfl
def allP (f : Nat → Prop) : List Nat → Prop
  | [] => True
  | [i] => f i
  | i :: r => f i ∧ allP f r
theorem allP_mem {f : Nat → Prop} : ∀ {l : List Nat}, allP f l → ∀ i ∈ l, f i
  | [], _, _, h => by cases h
  | [i], h, j, hj => by obtain rfl : j = i := by simpa using hj
                        exact h
  | i :: k :: r, h, j, hj => by
    rcases List.mem_cons.1 hj with rfl | hj
    · exact h.1
    · exact allP_mem h.2 j hj
def orS (c : Bool) (S : World → Prop) (w : World) (K : Prop) : Prop := match c with
  | true => K
  | false => S w ∧ K

def drawGo (N : Sem Next → World → (Value → World → Prop) → Prop) (T : Sem Next → (Value → Prop) → Prop) (M : Value → (Value → Prop) → Prop) (G : Bool → ((Value → World → Prop) → Prop) → (Value → World → Prop) → World → Prop) (H : Bool → ((Value → Prop) → Prop) → (Value → Prop) → Prop) (n : Nat) (V : Nat → Bool) (ops : Array Oper) (S : World → Prop) (k : Env → World → Prop) : Nat → Bool → Array Bool → List Nat → Env → Env → World → Prop
  | 0, _, listed, _, _, eg, w => match Region.ready .any ops listed with
    | [] => k eg w
    | _ => False
  | f + 1, ok, listed, asg, el, eg, w => match Region.ready .any ops listed with
    | [] => k eg w
    | i0 :: is => match (i0 :: is).find? fun i => canTake ops listed i with
      | some i => match ops[i]? with
        | some o => bif ok && opOK n V asg ops o then
            gT H o.guard (gv ops el o) (fun K => takeE T M (ev el) o K)
              (fun v => drawGo N T M G H n V ops S k f ok (listed.setIfInBounds i true) (dstL o asg) (Env.put el o.dst v) (putV V eg o.dst v) w)
          else False
        | none => False
      | none => allP (fun i => match ops[i]? with
        | some o => bif opOK n V asg ops o then
            gG G o.guard (gv ops el o) (fun K => stepE N M (ev el) o w K)
              (fun v w' => orS (crossOK ops i) S w' (drawGo N T M G H n V ops S k f (!crossOK ops i) (listed.setIfInBounds i true) (dstL o asg) (Env.put el o.dst v) (putV V eg o.dst v) w')) w
          else False
        | none => False) (i0 :: is)
def drawW (P : Program) (n : Nat) (V : Nat → Bool) (ops : Array Oper) (k : Env → World → Prop) (e : Env) (w : World) : Prop :=
  ∃ S : World → Prop, S w.drew ∧ drawGo (nx P) (takeP P S) mv gdP gdT n V ops S k ops.size true (Array.replicate ops.size false) [] e e w.drew

section
variable {P : Program} {ops : Array Oper} {Q : Exit → Act → World → Prop} {S : World → Prop}
def wpAnyT (P : Program) (ops : Array Oper) (Q : Exit → Act → World → Prop) (S : World → Prop) : Nat → Array Bool → Act → World → Prop
  | 0, listed, a, w => Region.ready .any ops listed = [] ∧ Q .normal a w
  | fuel + 1, listed, a, w =>
    (Region.ready .any ops listed = [] → Q .normal a w) ∧
    ∀ i ∈ Region.ready .any ops listed, wpOp P ops Q i (fun a' w' => (crossOK ops i = false → S w') ∧ wpAnyT P ops Q S fuel (listed.setIfInBounds i true) a' w') a w
theorem wpAny_of_T : ∀ (fuel : Nat) (listed : Array Bool) (a : Act) (w : World), wpAnyT P ops Q S fuel listed a w → wpAny P .any ops Q fuel listed a w
  | 0, _, _, _, h => h
  | fuel + 1, _, _, _, h => ⟨h.1, fun i hi => wpOp_mono (fun a' w' h' => wpAny_of_T fuel _ a' w' h'.2) (h.2 i hi)⟩
theorem cross_no {i j : Nat} {oi oj : Oper} (hi : ops[i]? = some oi) (hj : ops[j]? = some oj) (hne : j ≠ i) (ht : takeK oi = true)
    (hnot : ∀ e ∈ oj.after, Region.binds .any e = true → e.on ≠ i) : crossOK ops j = false := by
  cases hc : crossOK ops j with
  | false => rfl
  | true =>
    exfalso
    have hlt : i < ops.size := (Array.getElem?_eq_some_iff.1 hi).1
    have h1 := List.all_eq_true.1 hc i (by simpa using hlt)
    have hb : Nat.beq i j = false := beq_ne (Ne.symm hne)
    simp only [hb, hi, hj, ht, Bool.not_true, Bool.false_or] at h1
    obtain ⟨e, he, hb⟩ := Array.any_eq_true'.1 h1
    simp only [Bool.and_eq_true, beq_iff_eq] at hb
    exact hnot e he hb.1 hb.2
theorem wpAnyT_first {i : Nat} {oi : Oper} {v : Value} (hi : ops[i]? = some oi) (ht : takeK oi = true) (hsel : ∀ (j : Nat) (o : Oper) cs b, ops[j]? = some o → o.op ≠ .select cs b)
    (hQ : ∀ c a w, Q (.panic c) (a.put oi.dst v) w → Q (.panic c) a w) :
    ∀ (fuel : Nat) (listed : Array Bool) (a : Act) (w : World),
      (∀ j oj, ops[j]? = some oj → j ≠ i → listed.getD j true = false → (∀ e ∈ oj.after, Region.binds .any e = true → e.on ≠ i) → oi.apart ops oj = true) →
      i ∈ Region.ready .any ops listed → YieldsIf P ops S oi v a → S w →
      wpAnyT P ops Q S fuel (listed.setIfInBounds i true) (a.put oi.dst v) w → wpAnyT P ops Q S (fuel + 1) listed a w := by
  intro fuel
  induction fuel with
  | zero =>
    intro listed a w _ hr hy hS H
    refine ⟨fun h => (by rw [h] at hr; cases hr), fun j hj => ?_⟩
    by_cases hji : j = i
    · subst hji; exact hy.wpOp hi hS ⟨fun _ => hS, H⟩
    · have := ready_mono hj hji
      rw [H.1] at this
      cases this
  | succ fuel ih =>
    intro listed a w hfree hr hy hS H
    refine ⟨fun h => (by rw [h] at hr; cases hr), fun j hj => ?_⟩
    by_cases hji : j = i
    · subst hji; exact hy.wpOp hi hS ⟨fun _ => hS, H⟩
    · have h1 := H.2 j (ready_mono hj hji)
      obtain ⟨hjun, oj, hoj, hall⟩ := mem_ready.1 hj
      have hnot : ∀ e ∈ oj.after, Region.binds .any e = true → e.on ≠ i := fun e he hb heq => by
        have g1 := hall e he hb
        have g0 := (mem_ready.1 hr).1
        rw [heq] at g1
        rcases Nat.lt_or_ge i listed.size with g | g
        · simp [g] at g0 g1; rw [g0] at g1; cases g1
        · simp [Array.getElem?_eq_none g] at g1
      have hcr : crossOK ops j = false := cross_no hi hoj hji ht hnot
      have h2 := wpOp_putIf hoj (hfree j oj hoj hji hjun hnot) (fun cs b => hsel i oi cs b hi) (fun cs b => hsel j oj cs b hoj) hQ hy h1
      have hfree' : ∀ k ok, ops[k]? = some ok → k ≠ i → (listed.setIfInBounds j true).getD k true = false →
          (∀ e ∈ ok.after, Region.binds .any e = true → e.on ≠ i) → oi.apart ops ok = true := fun k ok hk hki hun hno => by
        refine hfree k ok hk hki ?_ hno
        by_cases hjk : j = k
        · subst hjk; exact hjun
        · rw [getD_set_ne true hjk] at hun; exact hun
      refine wpOp_mono (fun a' w' h3 => ⟨fun _ => h3.2.1 hcr, ih (listed.setIfInBounds j true) a' w' hfree' (ready_mono hr (Ne.symm hji)) h3.1 (h3.2.1 hcr) ?_⟩) h2
      rw [Array.setIfInBounds_comm _ _ hji]
      exact h3.2.2
end

def selsOK (ops : Array Oper) : Bool := Region.noSelect ops
theorem drawGo_sound {P : Program} {n : Nat} {V : Nat → Bool} {ops : Array Oper} {S : World → Prop} {Q : Exit → Env → World → Prop} (hsel : Region.noSelect ops = true)
    (hQ : ∀ c e w, ¬ Q (.panic c) e w) :
    ∀ (f : Nat) (ok : Bool) (listed : Array Bool) (asg : List Nat) (el eg : Env) (a : Act) (w : World), RelL n V asg el eg a → (ok = true → S w) →
      drawGo (nx P) (takeP P S) mv gdP gdT n V ops S (fun e w => Q .normal e w) f ok listed asg el eg w → wpAnyT P ops (post n V Q) S f listed a w := by
  intro f
  induction f with
  | zero =>
    intro ok listed asg el eg a w h hS hw
    unfold drawGo at hw
    split at hw
    · rename_i hr
      exact ⟨hr, eg, h.rel, hw⟩
    · exact hw.elim
  | succ f ih =>
    intro ok listed asg el eg a w h hS hw
    unfold drawGo at hw
    split at hw
    · rename_i hr
      exact ⟨fun _ => ⟨eg, h.rel, hw⟩, by rw [hr]; simp⟩
    · rename_i i0 is hr
      split at hw
      · rename_i i hfind
        split at hw
        · rename_i o ho
          cases hok : (ok && opOK n V asg ops o) with
          | false => simp [hok] at hw
          | true =>
            simp only [hok, cond_true, gT_gdT] at hw
            simp only [opOK, Bool.and_eq_true] at hok
            obtain ⟨h0, h1, h2, h3, h4⟩ := hok
            have hmem : i ∈ Region.ready .any ops listed := by rw [hr]; exact List.mem_of_find?_eq_some hfind
            have hct := List.find?_some hfind
            simp only [canTake, ho, Bool.and_eq_true] at hct
            have hfree := Region.free_spec ho hct.2
            have hnq : ∀ v, ∀ c a w, post n V Q (.panic c) (a.put o.dst v) w → post n V Q (.panic c) a w := fun v c a w hp => by
              obtain ⟨e, _, hq⟩ := hp
              exact absurd hq (hQ c e w)
            cases hg : gv ops el o with
            | false =>
              simp only [hg, gdT] at hw
              exact wpAnyT_first ho hct.1 (Region.noSelect_spec hsel) (hnq undef) f listed a w hfree hmem (.inr ⟨by rw [h.wanted h2, hg], rfl⟩) (hS h0) (ih _ _ _ _ _ _ w (h.put h3 undef) hS hw)
            | true =>
              simp only [hg, gdT] at hw
              obtain ⟨v, hv, hw⟩ := takeE_takeP hw
              exact wpAnyT_first ho hct.1 (Region.noSelect_spec hsel) (hnq v) f listed a w hfree hmem (.inl ⟨by rw [h.wanted h2, hg], fun w' hw' => by rw [h.exec h1 h4]; exact hv w' hw'⟩) (hS h0) (ih _ _ _ _ _ _ w (h.put h3 v) hS hw)
        · exact hw.elim
      · refine ⟨fun h0 => (by rw [hr] at h0; cases h0), fun i hi => ?_⟩
        rw [hr] at hi
        have hi' := allP_mem hw i hi
        split at hi'
        · rename_i o ho
          cases hok : opOK n V asg ops o with
          | false => simp [hok] at hi'
          | true =>
            simp only [hok, cond_true, gG_gdP] at hi'
            simp only [opOK, Bool.and_eq_true] at hok
            obtain ⟨h1, h2, h3, h4⟩ := hok
            have key : ∀ v w', orS (crossOK ops i) S w' (drawGo (nx P) (takeP P S) mv gdP gdT n V ops S (fun e w => Q .normal e w) f (!crossOK ops i) (listed.setIfInBounds i true) (dstL o asg) (Env.put el o.dst v) (putV V eg o.dst v) w') →
                (crossOK ops i = false → S w') ∧ wpAnyT P ops (post n V Q) S f (listed.setIfInBounds i true) (a.put o.dst v) w' := fun v w' hk => by
              cases hc : crossOK ops i with
              | true =>
                rw [hc] at hk
                exact ⟨fun h => (by cases h), ih _ _ _ _ _ _ w' (h.put h3 v) (fun h => by simp at h) hk⟩
              | false =>
                rw [hc] at hk
                exact ⟨fun _ => hk.1, ih _ _ _ _ _ _ w' (h.put h3 v) (fun _ => hk.1) hk.2⟩
            unfold wpOp
            simp only [ho]
            rw [h.wanted h2]
            cases hg : gv ops el o with
            | false =>
              simp only [hg, gdP] at hi'
              simp only [Bool.false_eq_true, if_false]
              exact key _ _ hi'
            | true =>
              simp only [hg, gdP] at hi'
              simp only [if_true]
              exact .inl (nx_wp (h.exec h1 h4) (nx_mono (stepE_nx hi') fun v w' hv => key v w' hv))
        · exact hi'.elim

/-! ### Code -/
def condP (v : Value) (A B : Prop) : Prop := match v with
  | .bool true => A
  | .bool false => B
  | _ => False
def seqQ (k : Env → World → Prop) (Q : Exit → Env → World → Prop) : Exit → Env → World → Prop
  | .normal, e, w => k e w
  | x, e, w => Q x e w
def blockQ (id : Nat) (Q : Exit → Env → World → Prop) : Exit → Env → World → Prop
  | .exit id', e, w => bif Nat.beq id' id then Q .normal e w else Q (.exit id') e w
  | x, e, w => Q x e w
def LoopP (body : Env → World → (Env → World → Prop) → Prop) (e : Env) (w : World) : Prop :=
  ∃ (I : Env → World → Prop) (μ : Env → World → Nat), I e w ∧ ∀ e w, I e w → body e w fun e' w' => I e' w' ∧ μ e' w' < μ e w
def opV (V : Nat → Bool) : Operand → Bool
  | .tmp t => V t
  | _ => true
def W (P : Program) (n : Nat) (V : Nat → Bool) : Code → (Exit → Env → World → Prop) → Env → World → Prop
  | .skip, Q, e, w => Q .normal e w
  | .label _, Q, e, w => Q .normal e w
  | .region _ ops d, Q, e, w => match d with
    | false => opsW (nx P) mv gdP n V ops (fun e w => Q .normal e w) ops.toList [] e e w
    | true => drawW P n V ops (fun e w => Q .normal e w) e w
  | .seq a b, Q, e, w => W P n V a (seqQ (fun e w => W P n V b Q e w) Q) e w
  | .cond c a b, Q, e, w => bif opV V c then condP (ev e c) (W P n V a Q e w) (W P n V b Q e w) else False
  | .block id b, Q, e, w => W P n V b (blockQ id Q) e w
  | .loop b, Q, e, w => LoopP (fun e w k => W P n V b (seqQ k Q) e w) e w
  | .exit id, Q, e, w => Q (.exit id) e w
  | .ret, Q, e, w => Q .ret e w
  | _, _, _, _ => False
def Code.selOK : Code → Bool
  | .region _ ops _ => Region.noSelect ops
  | .seq a b => Code.selOK a && Code.selOK b
  | .cond _ a b => Code.selOK a && Code.selOK b
  | .block _ b => Code.selOK b
  | .loop b => Code.selOK b
  | .scope b => Code.selOK b
  | _ => true
theorem post_mono {n : Nat} {V : Nat → Bool} {Q Q' : Exit → Env → World → Prop} (h : ∀ x e w, Q x e w → Q' x e w) {x : Exit} {a : Act} {w : World} : post n V Q x a w → post n V Q' x a w :=
  fun ⟨e, hr, hq⟩ => ⟨e, hr, h x e w hq⟩
theorem W_sound {P : Program} {n : Nat} {V : Nat → Bool} (hm : P.follows .mixedOrders = true) : ∀ (c : Code) (Q : Exit → Env → World → Prop) (e : Env) (w : World) (a : Act),
    (∀ ch e w, ¬ Q (.panic ch) e w) → Code.selOK c = true → Rel n V e a → W P n V c Q e w → c.wp P (post n V Q) a w
  | .skip, Q, e, w, a, hQ, hs, hr, h => wp_skip ⟨e, hr, h⟩
  | .label _, Q, e, w, a, hQ, hs, hr, h => wp_label ⟨e, hr, h⟩
  | .region id ops false, Q, e, w, a, hQ, hs, hr, h => by
    refine wp_region ?_
    have := wpOps_eq_wpList (P := P) (Q := post n V Q) (ops := ops) ops.toList 0 (by simp)
    rw [List.range_eq_range', ← Array.length_toList, this]
    exact opsW_sound _ _ _ _ a w hr.loc h
  | .region id ops true, Q, e, w, a, hQ, hs, hr, h => by
    obtain ⟨S, hS, hd⟩ := h
    exact wp_region_any hm (wpAny_of_T _ _ _ _ (drawGo_sound hs hQ _ _ _ _ _ _ a w.drew hr.loc (fun _ => hS) hd))
  | .seq x y, Q, e, w, a, hQ, hs, hr, h => by
    simp only [Code.selOK, Bool.and_eq_true] at hs
    refine wp_seq (wp_mono (W_sound hm x (seqQ (fun e w => W P n V y Q e w) Q) e w a (fun ch e w hp => hQ ch e w hp) hs.1 hr h) fun x a w hp => ?_)
    obtain ⟨e', hr', hq⟩ := hp
    cases x with
    | normal => exact W_sound hm y Q e' w a hQ hs.2 hr' hq
    | _ => exact ⟨e', hr', hq⟩
  | .cond c x y, Q, e, w, a, hQ, hs, hr, h => by
    simp only [Code.selOK, Bool.and_eq_true] at hs
    simp only [W] at h
    cases hv : opV V c with
    | false => simp [hv] at h
    | true =>
      simp only [hv, cond_true] at h
      have he : a.eval c = ev e c := by
        cases c <;> simp only [Act.eval, ev] <;> try rfl
        exact hr.loc.loc _ (by simpa [opV] using hv)
      generalize hb : ev e c = v at *
      cases v <;> try exact h.elim
      rename_i b
      cases b with
      | true => exact wp_cond_true he (W_sound hm x Q e w a hQ hs.1 hr h)
      | false => exact wp_cond_false he (W_sound hm y Q e w a hQ hs.2 hr h)
  | .block id b, Q, e, w, a, hQ, hs, hr, h => by
    refine wp_block (wp_mono (W_sound hm b (blockQ id Q) e w a (fun ch e w hp => hQ ch e w hp) hs hr h) fun x a w hp => ?_)
    obtain ⟨e', hr', hq⟩ := hp
    cases x with
    | exit id' =>
      simp only [blockQ, Exit.inBlock] at hq ⊢
      by_cases hid : id' = id
      · subst hid
        have : Nat.beq id' id' = true := by simp
        simp only [this, cond_true] at hq
        simp only [if_true]
        exact ⟨e', hr', hq⟩
      · simp only [beq_ne hid, cond_false] at hq
        simp only [hid, if_false]
        exact ⟨e', hr', hq⟩
    | _ => exact ⟨e', hr', hq⟩
  | .loop b, Q, e, w, a, hQ, hs, hr, h => by
    obtain ⟨I, μ, h0, hround⟩ := h
    refine wp_loop (fun a w => Rel n V (can V a) a ∧ I (can V a) w) (fun a w => μ (can V a) w) ⟨⟨hr.size, hr.defers, rfl⟩, by rw [hr.env]; exact h0⟩ fun a w hI => ?_
    refine wp_mono (W_sound hm b (seqQ (fun e' w' => I e' w' ∧ μ e' w' < μ (can V a) w) Q) (can V a) w a (fun ch e w hp => hQ ch e w hp) hs hI.1 (hround _ _ hI.2)) fun x a' w' hp => ?_
    obtain ⟨e', hr', hq⟩ := hp
    cases x with
    | normal =>
      have he := hr'.env
      subst he
      exact ⟨⟨hr', hq.1⟩, hq.2⟩
    | _ => exact ⟨e', hr', hq⟩
  | .exit id, Q, e, w, a, hQ, hs, hr, h => wp_exit ⟨e, hr, h⟩
  | .ret, Q, e, w, a, hQ, hs, hr, h => wp_ret ⟨e, hr, h⟩
  | .rangeFunc .., Q, e, w, a, hQ, hs, hr, h => h.elim
  | .scope _, Q, e, w, a, hQ, hs, hr, h => h.elim
  | .goto _, Q, e, w, a, hQ, hs, hr, h => h.elim
  | .refuse _, Q, e, w, a, hQ, hs, hr, h => h.elim

def Env.p (e : Env) (d : Nat) (v : Value) : Env := Env.put e (some d) v
def cL : Code → Code
  | .seq a _ => a
  | .cond _ a _ => a
  | .block _ a => a
  | .loop a => a
  | .scope a => a
  | c => c
def cR : Code → Code
  | .seq _ b => b
  | .cond _ _ b => b
  | c => c
def rO : Code → Array Oper
  | .region _ ops _ => ops
  | _ => #[]
section
variable (P : Program) (n : Nat) (V : Nat → Bool) (Q : Exit → Env → World → Prop) (e : Env) (w : World)
theorem W_seq (a b : Code) : W P n V (.seq a b) Q e w = W P n V a (seqQ (fun e w => W P n V b Q e w) Q) e w := by rw [W]
theorem W_reg (id : Nat) (ops : Array Oper) : W P n V (.region id ops false) Q e w = opsW (nx P) mv gdP n V ops (fun e w => Q .normal e w) ops.toList [] e e w := by rw [W]
theorem W_regD (id : Nat) (ops : Array Oper) : W P n V (.region id ops true) Q e w = drawW P n V ops (fun e w => Q .normal e w) e w := by rw [W]
theorem W_seq_reg (id : Nat) (ops : Array Oper) (b : Code) : W P n V (.seq (.region id ops false) b) Q e w = opsW (nx P) mv gdP n V ops (fun e w => W P n V b Q e w) ops.toList [] e e w := by rw [W_seq, W_reg]; rfl
theorem W_seq_regD (id : Nat) (ops : Array Oper) (b : Code) : W P n V (.seq (.region id ops true) b) Q e w =
    ∃ S : World → Prop, S w.drew ∧ drawGo (nx P) (takeP P S) mv gdP gdT n V ops S (fun e w => W P n V b Q e w) ops.size true (Array.replicate ops.size false) [] e e w.drew := by rw [W_seq, W_regD]; rfl
theorem W_regD' (id : Nat) (ops : Array Oper) : W P n V (.region id ops true) Q e w =
    ∃ S : World → Prop, S w.drew ∧ drawGo (nx P) (takeP P S) mv gdP gdT n V ops S (fun e w => Q .normal e w) ops.size true (Array.replicate ops.size false) [] e e w.drew := by rw [W_regD]; rfl
theorem exS {w : World} {A B : (World → Prop) → Prop} (h : ∀ S, A S = B S) : (∃ S : World → Prop, S w ∧ A S) = (∃ S : World → Prop, S w ∧ B S) := by
  have : A = B := funext h
  rw [this]
theorem W_cond (c : Operand) (a b : Code) : W P n V (.cond c a b) Q e w = (bif opV V c then condP (ev e c) (W P n V a Q e w) (W P n V b Q e w) else False) := by rw [W]
theorem W_block (id : Nat) (b : Code) : W P n V (.block id b) Q e w = W P n V b (blockQ id Q) e w := by rw [W]
theorem W_loop (b : Code) : W P n V (.loop b) Q e w = LoopP (fun e w k => W P n V b (seqQ k Q) e w) e w := by rw [W]
end
/-! ### A call -/
def resL (e : Env) : List ResultVar → Sem (List Value)
  | [] => pure []
  | .tmp t :: r => do pure (e t :: (← resL e r))
  | .cell a t :: r => do
    let v ← loadVar t (← asAddr (e a))
    pure (v :: (← resL e r))
def one : List Value → Value
  | [v] => v
  | vs => .tuple vs.toArray
def vR (r : Result Value) (K : Value → World → Prop) : Prop := match r with
  | .ok v w => K v w
  | _ => False
/-- What stands in a result's cell. -/
def rcP (P : Program) (t : TypeId) (v : Value) (w : World) (k : Value → Prop) : Prop := match v with
  | .pointer (some a) => vR ((Instr.loadAt t (.pointer (some a))).run P w) fun u w' => w' = w ∧ k u
  | _ => False
def retA (P : Program) (e : Env) (w : World) : List ResultVar → (List Value → Prop) → Prop
  | [], k => k []
  | .tmp t :: r, k => retA P e w r fun vs => k (e t :: vs)
  | .cell a t :: r, k => rcP P t (e a) w fun v => retA P e w r fun vs => k (v :: vs)
theorem retA_run {P : Program} {e : Env} {w : World} : ∀ {rs : List ResultVar} {k : List Value → Prop}, retA P e w rs k → ∃ vs, (resL e rs).run P w = .ok vs w ∧ k vs
  | [], k, h => ⟨[], rfl, h⟩
  | .tmp t :: r, k, h => by
    obtain ⟨vs, h1, h2⟩ := retA_run (rs := r) h
    exact ⟨_, by simp only [resL, Sem.run_bind, h1, Result.andThen_ok, Sem.run_pure], h2⟩
  | .cell a t :: r, k, h => by
    unfold retA rcP at h
    split at h
    · rename_i ad hv
      unfold vR at h
      split at h
      · rename_i u w' hr
        obtain ⟨rfl, h⟩ := h
        obtain ⟨vs, h1, h2⟩ := retA_run (rs := r) h
        refine ⟨_, ?_, h2⟩
        have hl : (loadVar t ad).run P w' = .ok u w' := by simpa only [Instr.loadAt, Instr.sureAddr, sem_pure_bind] using hr
        simp only [resL, hv, asAddr, sem_pure_bind, Sem.run_bind, hl, Result.andThen_ok, h1, Sem.run_pure]
      · exact h.elim
    · exact h.elim
def retP (P : Program) (rs : List ResultVar) (R : Value → World → Prop) (e : Env) (w : World) : Prop := retA P e w rs fun vs => R (one vs) w
def retQ (P : Program) (rs : List ResultVar) (R : Value → World → Prop) : Exit → Env → World → Prop
  | .normal, e, w | .ret, e, w => retP P rs R e w
  | _, _, _ => False
def argE (l : List Value) : Env := fun i => l.getD i undef
/-- A contract: the call returns a value, and R holds of it and of the world behind. -/
def CallsR (P : Program) (f : FuncId) (args : List Value) (w : World) (R : Value → World → Prop) : Prop :=
  (∃ fn, P.funcs[f]? = some fn ∧ fn.body.isSome = true ∧ (fn.name == "runtime.NumGoroutine") = false) ∧
  Calls P f args.toArray w fun e w' => match e with
    | .returned v => R v w'
    | _ => False
theorem CallsR.mono {P : Program} {f : FuncId} {args : List Value} {w : World} {R R' : Value → World → Prop} (h : CallsR P f args w R) (hr : ∀ v w', R v w' → R' v w') : CallsR P f args w R' :=
  ⟨h.1, Calls.mono h.2 fun e w' he => by cases e <;> first | exact hr _ _ he | exact he⟩
end
end Go.VW
