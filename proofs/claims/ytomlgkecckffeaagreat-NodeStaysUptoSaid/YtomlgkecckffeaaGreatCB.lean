/- The generic engine, part 9: arguments that are slices, opened. The generic engine, part 11: drawn regions once more, with a set of worlds for each operation that may be taken. (Printed by mkcb.py out of C2 and C3.) -/
import Derived.Test.YtomlgkecckffeaaGreatC8
import Derived.Deep.Slices
import Derived.ChangeArms
set_option linter.unusedVariables false
set_option linter.unusedSimpArgs false
set_option linter.unusedSectionVars false
namespace Go.VW
noncomputable section
section
variable {H : Type} {ec : TypeId × Value → H} {P : Program} {w : World} {base : Nat} {spare : Nat → Bool} {held : Bool}
theorem choose_lt' {α : Type} {p : Nat → α → Prop} : ∀ (n : Nat), (∀ i, i < n → ∃ a, p i a) → ∃ l : List α, l.length = n ∧ ∀ i a, l[i]? = some a → p i a
  | 0, _ => ⟨[], rfl, by simp⟩
  | n + 1, h => by
    obtain ⟨l, h1, h2⟩ := choose_lt' n (fun i hi => h i (by omega))
    obtain ⟨a, ha⟩ := h n (by omega)
    refine ⟨l ++ [a], by simp [h1], fun i b hb => ?_⟩
    rcases Nat.lt_or_ge i l.length with hi | hi
    · rw [List.getElem?_append_left hi] at hb; exact h2 i b hb
    · rw [List.getElem?_append_right hi] at hb
      cases hq : i - l.length with
      | zero => rw [hq] at hb; simp at hb; subst hb; have : i = n := by omega
                rw [this]; exact ha
      | succ q => rw [hq] at hb; simp at hb
theorem open_slOf {α : Type} {enc : α → List Value} {t e : TypeId} {k fuel : Nat} {cs : List Value} {x : DataW H × List MemPlace} (R : Nat → α → Prop) (ht : P.underlying t = some (.slice e)) (hk : P.cellsOf e = k) (hpos : 0 < k) (hlen : ∀ a, (enc a).length = k)
    (hop : ∀ (n : Nat) cs' y, DataW.trod ec P w base spare held n e cs' = some y → ∃ a, cs' = enc a ∧ ∀ i, R i a) (h : DataW.trod ec P w base spare held fuel t cs = some x) :
    ∃ v xs, cs = [v] ∧ SlOf k enc w v xs ∧ xs.length ≤ maxLen ∧ ∀ (i : Nat) a, xs[i]? = some a → R i a := by
  rcases Go.Deep.open_slice ht h with ⟨rfl, _⟩ | ⟨a, len, cap, m, n, D, Pl, rfl, hb, hl, hm, hmm, _, hx⟩
  · exact ⟨_, [], rfl, Sl.nil, by simp, by simp⟩
  · have hlm : len ≤ m := by rw [hmm]; split <;> omega
    obtain ⟨l, hl1, hl2⟩ := choose_lt' (p := fun i b => w.cells? base (a.add (i * k)) k = some (enc b) ∧ ∀ i, R i b) len (fun i hi => by
      obtain ⟨cs', h1, h2⟩ := hx i (by omega)
      obtain ⟨b, rfl, hR⟩ := hop _ _ _ h2
      rw [hk] at h1
      exact ⟨b, h1, hR⟩)
    refine ⟨_, l, rfl, ?_, by omega, fun i b hb => (hl2 i b hb).2 i⟩
    subst hl1
    have hcl := cellsOf_length hlen l
    by_cases h0 : l = []
    · subst h0
      exact ⟨by simp [cellsOf], .inl ⟨rfl, _, _, rfl⟩⟩
    · have hpos' : 0 < l.length := List.length_pos_iff.2 h0
      have hcell : ∀ i b, l[i]? = some b → ∀ j, j < k → w.cell? ((a.add (i * k)).add j) = (enc b)[j]? := fun i b hb j hj => by
        have := (World.cells?_some (hl2 i b hb).1).2.2 j hj
        exact this
      obtain ⟨b0, hb0⟩ : ∃ b0, l[0]? = some b0 := ⟨l[0], List.getElem?_eq_getElem hpos'⟩
      have hfirst := hcell 0 b0 hb0 0 hpos
      rw [List.getElem?_eq_getElem (by rw [hlen]; exact hpos)] at hfirst
      obtain ⟨bb, off, spot⟩ := a
      have hsp : spot = none := by
        have h1 : w.cell? ⟨bb, off, spot⟩ = some ((enc b0)[0]'(by rw [hlen]; exact hpos)) := by simpa [Addr.add] using hfirst
        exact World.cell?_spot h1
      subst hsp
      have hobj : ∃ c et fr, w.heap[bb]? = some (.cells c et fr) := by
        simp only [add_at, World.cell?] at hfirst
        split at hfirst
        · rename_i c et fr hh
          exact ⟨c, et, fr, hh⟩
        · cases hfirst
      obtain ⟨c, et, fr, hc⟩ := hobj
      refine ⟨hcl, .inr ⟨bb, off, cap, c, et, fr, rfl, hc, ?_⟩⟩
      apply List.ext_getElem?
      intro q
      by_cases hq : q < l.length * k
      · rw [List.getElem?_take, if_pos hq, List.getElem?_drop]
        have hi : q / k < l.length := Nat.div_lt_of_lt_mul (by rw [Nat.mul_comm]; exact hq)
        have hj : q % k < k := Nat.mod_lt _ hpos
        obtain ⟨b, hb'⟩ : ∃ b, l[q / k]? = some b := ⟨l[q / k], List.getElem?_eq_getElem hi⟩
        have h1 := hcell (q / k) b hb' (q % k) hj
        have h2 := cellsOf_get hlen l (q / k) b hb' (q % k) hj
        have e : q / k * k + q % k = q := by rw [Nat.mul_comm]; exact Nat.div_add_mod q k
        rw [e] at h2
        rw [h2, ← h1]
        simp only [add_at, World.cell?, hc]
        rw [Nat.add_assoc, e]
        simp
      · rw [List.getElem?_take, if_neg hq, List.getElem?_eq_none (by omega)]
theorem open_slOfD {α : Type} {enc : α → List Value} {t e : TypeId} {k fuel : Nat} {cs : List Value} {x : DataW H × List MemPlace} (R : DataW H → α → Prop) (ht : P.underlying t = some (.slice e)) (hk : P.cellsOf e = k) (hpos : 0 < k) (hlen : ∀ a, (enc a).length = k)
    (hop : ∀ (n : Nat) cs' y, DataW.trod ec P w base spare held n e cs' = some y → ∃ a, cs' = enc a ∧ R y.1 a) (h : DataW.trod ec P w base spare held fuel t cs = some x) :
    ∃ v xs, cs = [v] ∧ SlOf k enc w v xs ∧ xs.length ≤ maxLen ∧ ((x.1 = .nil ∧ xs = []) ∨ ∃ els sp, x.1 = .slice els sp ∧ xs.length ≤ els.length ∧ ∀ (i : Nat) a, xs[i]? = some a → ∃ d ∈ els, R d a) := by
  rcases Go.Deep.open_slice ht h with ⟨rfl, rfl⟩ | ⟨a, len, cap, m, n, D, Pl, rfl, hb, hl, hm, hmm, rfl, hx⟩
  · exact ⟨_, [], rfl, Sl.nil, by simp, .inl ⟨rfl, rfl⟩⟩
  · have hlm : len ≤ m := by rw [hmm]; split <;> omega
    obtain ⟨l, hl1, hl2⟩ := choose_lt' (p := fun i b => w.cells? base (a.add (i * k)) k = some (enc b) ∧ R (D i) b) len (fun i hi => by
      obtain ⟨cs', h1, h2⟩ := hx i (by omega)
      obtain ⟨b, rfl, hR⟩ := hop _ _ _ h2
      rw [hk] at h1
      exact ⟨b, h1, hR⟩)
    refine ⟨_, l, rfl, ?_, by omega, .inr ⟨_, _, rfl, by simp; omega, fun i b hb => ⟨D i, List.mem_map.2 ⟨i, by rw [List.mem_range, ← hl1]; exact (List.getElem?_eq_some_iff.1 hb).1, rfl⟩, (hl2 i b hb).2⟩⟩⟩
    subst hl1
    have hcl := cellsOf_length hlen l
    by_cases h0 : l = []
    · subst h0
      exact ⟨by simp [cellsOf], .inl ⟨rfl, _, _, rfl⟩⟩
    · have hpos' : 0 < l.length := List.length_pos_iff.2 h0
      have hcell : ∀ i b, l[i]? = some b → ∀ j, j < k → w.cell? ((a.add (i * k)).add j) = (enc b)[j]? := fun i b hb j hj => by
        have := (World.cells?_some (hl2 i b hb).1).2.2 j hj
        exact this
      obtain ⟨b0, hb0⟩ : ∃ b0, l[0]? = some b0 := ⟨l[0], List.getElem?_eq_getElem hpos'⟩
      have hfirst := hcell 0 b0 hb0 0 hpos
      rw [List.getElem?_eq_getElem (by rw [hlen]; exact hpos)] at hfirst
      obtain ⟨bb, off, spot⟩ := a
      have hsp : spot = none := by
        have h1 : w.cell? ⟨bb, off, spot⟩ = some ((enc b0)[0]'(by rw [hlen]; exact hpos)) := by simpa [Addr.add] using hfirst
        exact World.cell?_spot h1
      subst hsp
      have hobj : ∃ c et fr, w.heap[bb]? = some (.cells c et fr) := by
        simp only [add_at, World.cell?] at hfirst
        split at hfirst
        · rename_i c et fr hh
          exact ⟨c, et, fr, hh⟩
        · cases hfirst
      obtain ⟨c, et, fr, hc⟩ := hobj
      refine ⟨hcl, .inr ⟨bb, off, cap, c, et, fr, rfl, hc, ?_⟩⟩
      apply List.ext_getElem?
      intro q
      by_cases hq : q < l.length * k
      · rw [List.getElem?_take, if_pos hq, List.getElem?_drop]
        have hi : q / k < l.length := Nat.div_lt_of_lt_mul (by rw [Nat.mul_comm]; exact hq)
        have hj : q % k < k := Nat.mod_lt _ hpos
        obtain ⟨b, hb'⟩ : ∃ b, l[q / k]? = some b := ⟨l[q / k], List.getElem?_eq_getElem hi⟩
        have h1 := hcell (q / k) b hb' (q % k) hj
        have h2 := cellsOf_get hlen l (q / k) b hb' (q % k) hj
        have e : q / k * k + q % k = q := by rw [Nat.mul_comm]; exact Nat.div_add_mod q k
        rw [e] at h2
        rw [h2, ← h1]
        simp only [add_at, World.cell?, hc]
        rw [Nat.add_assoc, e]
        simp
      · rw [List.getElem?_take, if_neg hq, List.getElem?_eq_none (by omega)]
end
end
noncomputable section
def pass (ops : Array Oper) (j i : Nat) : Bool := match ops[j]? with
  | some oj => !(oj.after.any fun e => Region.binds .any e && e.on == i)
  | none => true
def andS (S : Nat → World → Prop) (w : World) : List Nat → Prop → Prop
  | [], K => K
  | i :: r, K => S i w ∧ andS S w r K
theorem andS_mem {S : Nat → World → Prop} {w : World} {K : Prop} : ∀ {l : List Nat}, andS S w l K → (∀ i ∈ l, S i w) ∧ K
  | [], h => ⟨by simp, h⟩
  | i :: r, h => by
    obtain ⟨h1, h2⟩ := andS_mem h.2
    exact ⟨fun j hj => by
      rcases List.mem_cons.1 hj with rfl | hj
      · exact h.1
      · exact h1 j hj, h2⟩
theorem pass_of {ops : Array Oper} {i j : Nat} {oj : Oper} (hj : ops[j]? = some oj) (hnot : ∀ e ∈ oj.after, Region.binds .any e = true → e.on ≠ i) : pass ops j i = true := by
  unfold pass
  rw [hj]
  cases hc : oj.after.any fun e => Region.binds .any e && e.on == i with
  | false => simp [hc]
  | true =>
    obtain ⟨e, he, hb⟩ := Array.any_eq_true'.1 hc
    simp only [Bool.and_eq_true, beq_iff_eq] at hb
    exact absurd hb.2 (hnot e he hb.1)
def drawGo2 (N : Sem Next → World → (Value → World → Prop) → Prop) (T : Nat → Sem Next → (Value → Prop) → Prop) (M : Value → (Value → Prop) → Prop) (G : Bool → ((Value → World → Prop) → Prop) → (Value → World → Prop) → World → Prop) (H : Bool → ((Value → Prop) → Prop) → (Value → Prop) → Prop) (n : Nat) (V : Nat → Bool) (ops : Array Oper) (S : Nat → World → Prop) (k : Env → World → Prop) : Nat → List Nat → Array Bool → List Nat → Env → Env → World → Prop
  | 0, _, listed, _, _, eg, w => match Region.ready .any ops listed with
    | [] => k eg w
    | _ => False
  | f + 1, X, listed, asg, el, eg, w => match Region.ready .any ops listed with
    | [] => k eg w
    | i0 :: is => match (i0 :: is).find? fun i => canTake ops listed i with
      | some i => match ops[i]? with
        | some o => bif opOK n V asg ops o then
            S i w ∧ gT H o.guard (gv ops el o) (fun K => takeE (T i) M (ev el) o K)
              (fun v => drawGo2 N T M G H n V ops S k f (i :: X) (listed.setIfInBounds i true) (dstL o asg) (Env.put el o.dst v) (putV V eg o.dst v) w)
          else False
        | none => False
      | none => allP (fun i => match ops[i]? with
        | some o => bif opOK n V asg ops o then
            gG G o.guard (gv ops el o) (fun K => stepE N M (ev el) o w K)
              (fun v w' => andS S w' (X.filter (pass ops i)) (drawGo2 N T M G H n V ops S k f (X.filter (pass ops i)) (listed.setIfInBounds i true) (dstL o asg) (Env.put el o.dst v) (putV V eg o.dst v) w')) w
          else False
        | none => False) (i0 :: is)
def drawW2 (P : Program) (n : Nat) (V : Nat → Bool) (ops : Array Oper) (k : Env → World → Prop) (e : Env) (w : World) : Prop :=
  ∃ S : Nat → World → Prop, drawGo2 (nx P) (fun i => takeP P (S i)) mv gdP gdT n V ops S k ops.size [] (Array.replicate ops.size false) [] e e w.drew
section
variable {P : Program} {ops : Array Oper} {Q : Exit → Act → World → Prop} {S : Nat → World → Prop}
def wpAnyT2 (P : Program) (ops : Array Oper) (Q : Exit → Act → World → Prop) (S : Nat → World → Prop) : Nat → List Nat → Array Bool → Act → World → Prop
  | 0, _, listed, a, w => Region.ready .any ops listed = [] ∧ Q .normal a w
  | fuel + 1, X, listed, a, w =>
    (Region.ready .any ops listed = [] → Q .normal a w) ∧
    ∀ j ∈ Region.ready .any ops listed, wpOp P ops Q j (fun a' w' => (∀ i ∈ X.filter (pass ops j), S i w') ∧ wpAnyT2 P ops Q S fuel (X.filter (pass ops j)) (listed.setIfInBounds j true) a' w') a w
theorem wpAny_of_T2 : ∀ (fuel : Nat) (X : List Nat) (listed : Array Bool) (a : Act) (w : World), wpAnyT2 P ops Q S fuel X listed a w → wpAny P .any ops Q fuel listed a w
  | 0, _, _, _, _, h => h
  | fuel + 1, _, _, _, _, h => ⟨h.1, fun i hi => wpOp_mono (fun a' w' h' => wpAny_of_T2 fuel _ _ a' w' h'.2) (h.2 i hi)⟩
theorem wpAnyT2_mono : ∀ (fuel : Nat) (X X' : List Nat) (listed : Array Bool) (a : Act) (w : World), (∀ i ∈ X', i ∈ X) → wpAnyT2 P ops Q S fuel X listed a w → wpAnyT2 P ops Q S fuel X' listed a w
  | 0, _, _, _, _, _, _, h => h
  | fuel + 1, X, X', _, _, _, hx, h => ⟨h.1, fun j hj => wpOp_mono (fun a' w' h' => by
      have hf : ∀ i ∈ X'.filter (pass ops j), i ∈ X.filter (pass ops j) := fun i hi => by
        rw [List.mem_filter] at hi ⊢
        exact ⟨hx i hi.1, hi.2⟩
      exact ⟨fun i hi => h'.1 i (hf i hi), wpAnyT2_mono fuel _ _ _ a' w' hf h'.2⟩) (h.2 j hj)⟩
theorem wpAnyT_first2 {i : Nat} {oi : Oper} {v : Value} (hi : ops[i]? = some oi) (ht : takeK oi = true) (hsel : ∀ (j : Nat) (o : Oper) cs b, ops[j]? = some o → o.op ≠ .select cs b)
    (hQ : ∀ c a w, Q (.panic c) (a.put oi.dst v) w → Q (.panic c) a w) :
    ∀ (fuel : Nat) (X : List Nat) (listed : Array Bool) (a : Act) (w : World),
      (∀ j oj, ops[j]? = some oj → j ≠ i → listed.getD j true = false → (∀ e ∈ oj.after, Region.binds .any e = true → e.on ≠ i) → oi.apart ops oj = true) →
      i ∈ Region.ready .any ops listed → YieldsIf P ops (S i) oi v a → S i w → (∀ i' ∈ X, S i' w) →
      wpAnyT2 P ops Q S fuel (i :: X) (listed.setIfInBounds i true) (a.put oi.dst v) w → wpAnyT2 P ops Q S (fuel + 1) X listed a w := by
  intro fuel
  induction fuel with
  | zero =>
    intro X listed a w _ hr hy hS hX H
    refine ⟨fun h => (by rw [h] at hr; cases hr), fun j hj => ?_⟩
    by_cases hji : j = i
    · subst hji; exact hy.wpOp hi hS ⟨fun i' hi' => hX i' (List.mem_filter.1 hi').1, H⟩
    · have := ready_mono hj hji
      rw [H.1] at this
      cases this
  | succ fuel ih =>
    intro X listed a w hfree hr hy hS hX H
    refine ⟨fun h => (by rw [h] at hr; cases hr), fun j hj => ?_⟩
    by_cases hji : j = i
    · subst hji; exact hy.wpOp hi hS ⟨fun i' hi' => hX i' (List.mem_filter.1 hi').1, wpAnyT2_mono _ _ _ _ _ _ (fun i' hi' => List.mem_cons_of_mem _ (List.mem_filter.1 hi').1) H⟩
    · have h1 := H.2 j (ready_mono hj hji)
      obtain ⟨hjun, oj, hoj, hall⟩ := mem_ready.1 hj
      have hnot : ∀ e ∈ oj.after, Region.binds .any e = true → e.on ≠ i := fun e he hb heq => by
        have g1 := hall e he hb
        have g0 := (mem_ready.1 hr).1
        rw [heq] at g1
        rcases Nat.lt_or_ge i listed.size with g | g
        · simp [g] at g0 g1; rw [g0] at g1; cases g1
        · simp [Array.getElem?_eq_none g] at g1
      rw [List.filter_cons_of_pos (pass_of hoj hnot)] at h1
      have h2 := wpOp_putIf hoj (hfree j oj hoj hji hjun hnot) (fun cs b => hsel i oi cs b hi) (fun cs b => hsel j oj cs b hoj) hQ hy h1
      have hfree' : ∀ k ok, ops[k]? = some ok → k ≠ i → (listed.setIfInBounds j true).getD k true = false →
          (∀ e ∈ ok.after, Region.binds .any e = true → e.on ≠ i) → oi.apart ops ok = true := fun k ok hk hki hun hno => by
        refine hfree k ok hk hki ?_ hno
        by_cases hjk : j = k
        · subst hjk; exact hjun
        · rw [getD_set_ne true hjk] at hun; exact hun
      refine wpOp_mono (fun a' w' h3 => ⟨fun i' hi' => h3.2.1 i' (List.mem_cons_of_mem _ hi'), ih _ (listed.setIfInBounds j true) a' w' hfree' (ready_mono hr (Ne.symm hji)) h3.1 (h3.2.1 i (List.mem_cons_self ..)) (fun i' hi' => h3.2.1 i' (List.mem_cons_of_mem _ hi')) ?_⟩) h2
      rw [Array.setIfInBounds_comm _ _ hji]
      exact h3.2.2
end
theorem drawGo_sound2 {P : Program} {n : Nat} {V : Nat → Bool} {ops : Array Oper} {S : Nat → World → Prop} {Q : Exit → Env → World → Prop} (hsel : Region.noSelect ops = true)
    (hQ : ∀ c e w, ¬ Q (.panic c) e w) :
    ∀ (f : Nat) (X : List Nat) (listed : Array Bool) (asg : List Nat) (el eg : Env) (a : Act) (w : World), RelL n V asg el eg a → (∀ i ∈ X, S i w) →
      drawGo2 (nx P) (fun i => takeP P (S i)) mv gdP gdT n V ops S (fun e w => Q .normal e w) f X listed asg el eg w → wpAnyT2 P ops (post n V Q) S f X listed a w := by
  intro f
  induction f with
  | zero =>
    intro X listed asg el eg a w h hS hw
    unfold drawGo2 at hw
    split at hw
    · rename_i hr
      exact ⟨hr, eg, h.rel, hw⟩
    · exact hw.elim
  | succ f ih =>
    intro X listed asg el eg a w h hS hw
    unfold drawGo2 at hw
    split at hw
    · rename_i hr
      exact ⟨fun _ => ⟨eg, h.rel, hw⟩, by rw [hr]; simp⟩
    · rename_i i0 is hr
      split at hw
      · rename_i i hfind
        split at hw
        · rename_i o ho
          cases hok : opOK n V asg ops o with
          | false => simp [hok] at hw
          | true =>
            simp only [hok, cond_true, gT_gdT] at hw
            simp only [opOK, Bool.and_eq_true] at hok
            obtain ⟨h1, h2, h3, h4⟩ := hok
            obtain ⟨hSi, hw⟩ := hw
            have hS2 : ∀ i' ∈ i :: X, S i' w := fun i' hi' => by
              rcases List.mem_cons.1 hi' with rfl | hi'
              · exact hSi
              · exact hS i' hi'
            have hmem : i ∈ Region.ready .any ops listed := by rw [hr]; exact List.mem_of_find?_eq_some hfind
            have hct := List.find?_some hfind
            simp only [canTake, ho, Bool.and_eq_true] at hct
            have hfree := Region.free_spec ho hct.2
            have hnq : ∀ v, ∀ c a w, post n V Q (.panic c) (a.put o.dst v) w → post n V Q (.panic c) a w := fun v c a w hp => by
              obtain ⟨e, _, hq⟩ := hp
              exact absurd hq (hQ c e w)
            cases hg : gv ops el o with
            | false =>
              simp only [hg, gdT] at hw
              exact wpAnyT_first2 ho hct.1 (Region.noSelect_spec hsel) (hnq undef) f X listed a w hfree hmem (.inr ⟨by rw [h.wanted h2, hg], rfl⟩) hSi hS (ih _ _ _ _ _ _ w (h.put h3 undef) hS2 hw)
            | true =>
              simp only [hg, gdT] at hw
              obtain ⟨v, hv, hw⟩ := takeE_takeP hw
              exact wpAnyT_first2 ho hct.1 (Region.noSelect_spec hsel) (hnq v) f X listed a w hfree hmem (.inl ⟨by rw [h.wanted h2, hg], fun w' hw' => by rw [h.exec h1 h4]; exact hv w' hw'⟩) hSi hS (ih _ _ _ _ _ _ w (h.put h3 v) hS2 hw)
        · exact hw.elim
      · refine ⟨fun h0 => (by rw [hr] at h0; cases h0), fun i hi => ?_⟩
        rw [hr] at hi
        have hi' := allP_mem hw i hi
        split at hi'
        · rename_i o ho
          cases hok : opOK n V asg ops o with
          | false => simp [hok] at hi'
          | true =>
            simp only [hok, cond_true, gG_gdP] at hi'
            simp only [opOK, Bool.and_eq_true] at hok
            obtain ⟨h1, h2, h3, h4⟩ := hok
            have key : ∀ v w', andS S w' (X.filter (pass ops i)) (drawGo2 (nx P) (fun i => takeP P (S i)) mv gdP gdT n V ops S (fun e w => Q .normal e w) f (X.filter (pass ops i)) (listed.setIfInBounds i true) (dstL o asg) (Env.put el o.dst v) (putV V eg o.dst v) w') →
                (∀ i' ∈ X.filter (pass ops i), S i' w') ∧ wpAnyT2 P ops (post n V Q) S f (X.filter (pass ops i)) (listed.setIfInBounds i true) (a.put o.dst v) w' := fun v w' hk => by
              obtain ⟨hk1, hk2⟩ := andS_mem hk
              exact ⟨hk1, ih _ _ _ _ _ _ w' (h.put h3 v) hk1 hk2⟩
            unfold wpOp
            simp only [ho]
            rw [h.wanted h2]
            cases hg : gv ops el o with
            | false =>
              simp only [hg, gdP] at hi'
              simp only [Bool.false_eq_true, if_false]
              exact key _ _ hi'
            | true =>
              simp only [hg, gdP] at hi'
              simp only [if_true]
              exact .inl (nx_wp (h.exec h1 h4) (nx_mono (stepE_nx hi') fun v w' hv => key v w' hv))
        · exact hi'.elim

def W2 (P : Program) (n : Nat) (V : Nat → Bool) : Code → (Exit → Env → World → Prop) → Env → World → Prop
  | .skip, Q, e, w => Q .normal e w
  | .label _, Q, e, w => Q .normal e w
  | .region _ ops d, Q, e, w => match d with
    | false => opsW (nx P) mv gdP n V ops (fun e w => Q .normal e w) ops.toList [] e e w
    | true => drawW2 P n V ops (fun e w => Q .normal e w) e w
  | .seq a b, Q, e, w => W2 P n V a (seqQ (fun e w => W2 P n V b Q e w) Q) e w
  | .cond c a b, Q, e, w => bif opV V c then condP (ev e c) (W2 P n V a Q e w) (W2 P n V b Q e w) else False
  | .block id b, Q, e, w => W2 P n V b (blockQ id Q) e w
  | .loop b, Q, e, w => LoopP (fun e w k => W2 P n V b (seqQ k Q) e w) e w
  | .exit id, Q, e, w => Q (.exit id) e w
  | .ret, Q, e, w => Q .ret e w
  | _, _, _, _ => False
theorem W2_sound {P : Program} {n : Nat} {V : Nat → Bool} (hm : P.follows .mixedOrders = true) : ∀ (c : Code) (Q : Exit → Env → World → Prop) (e : Env) (w : World) (a : Act),
    (∀ ch e w, ¬ Q (.panic ch) e w) → Code.selOK c = true → Rel n V e a → W2 P n V c Q e w → c.wp P (post n V Q) a w
  | .skip, Q, e, w, a, hQ, hs, hr, h => wp_skip ⟨e, hr, h⟩
  | .label _, Q, e, w, a, hQ, hs, hr, h => wp_label ⟨e, hr, h⟩
  | .region id ops false, Q, e, w, a, hQ, hs, hr, h => by
    refine wp_region ?_
    have := wpOps_eq_wpList (P := P) (Q := post n V Q) (ops := ops) ops.toList 0 (by simp)
    rw [List.range_eq_range', ← Array.length_toList, this]
    exact opsW_sound _ _ _ _ a w hr.loc h
  | .region id ops true, Q, e, w, a, hQ, hs, hr, h => by
    obtain ⟨S, hd⟩ := h
    exact wp_region_any hm (wpAny_of_T2 _ _ _ _ _ (drawGo_sound2 hs hQ _ _ _ _ _ _ a w.drew hr.loc (by simp) hd))
  | .seq x y, Q, e, w, a, hQ, hs, hr, h => by
    simp only [Code.selOK, Bool.and_eq_true] at hs
    refine wp_seq (wp_mono (W2_sound hm x (seqQ (fun e w => W2 P n V y Q e w) Q) e w a (fun ch e w hp => hQ ch e w hp) hs.1 hr h) fun x a w hp => ?_)
    obtain ⟨e', hr', hq⟩ := hp
    cases x with
    | normal => exact W2_sound hm y Q e' w a hQ hs.2 hr' hq
    | _ => exact ⟨e', hr', hq⟩
  | .cond c x y, Q, e, w, a, hQ, hs, hr, h => by
    simp only [Code.selOK, Bool.and_eq_true] at hs
    simp only [W2] at h
    cases hv : opV V c with
    | false => simp [hv] at h
    | true =>
      simp only [hv, cond_true] at h
      have he : a.eval c = ev e c := by
        cases c <;> simp only [Act.eval, ev] <;> try rfl
        exact hr.loc.loc _ (by simpa [opV] using hv)
      generalize hb : ev e c = v at *
      cases v <;> try exact h.elim
      rename_i b
      cases b with
      | true => exact wp_cond_true he (W2_sound hm x Q e w a hQ hs.1 hr h)
      | false => exact wp_cond_false he (W2_sound hm y Q e w a hQ hs.2 hr h)
  | .block id b, Q, e, w, a, hQ, hs, hr, h => by
    refine wp_block (wp_mono (W2_sound hm b (blockQ id Q) e w a (fun ch e w hp => hQ ch e w hp) hs hr h) fun x a w hp => ?_)
    obtain ⟨e', hr', hq⟩ := hp
    cases x with
    | exit id' =>
      simp only [blockQ, Exit.inBlock] at hq ⊢
      by_cases hid : id' = id
      · subst hid
        have : Nat.beq id' id' = true := by simp
        simp only [this, cond_true] at hq
        simp only [if_true]
        exact ⟨e', hr', hq⟩
      · simp only [beq_ne hid, cond_false] at hq
        simp only [hid, if_false]
        exact ⟨e', hr', hq⟩
    | _ => exact ⟨e', hr', hq⟩
  | .loop b, Q, e, w, a, hQ, hs, hr, h => by
    obtain ⟨I, μ, h0, hround⟩ := h
    refine wp_loop (fun a w => Rel n V (can V a) a ∧ I (can V a) w) (fun a w => μ (can V a) w) ⟨⟨hr.size, hr.defers, rfl⟩, by rw [hr.env]; exact h0⟩ fun a w hI => ?_
    refine wp_mono (W2_sound hm b (seqQ (fun e' w' => I e' w' ∧ μ e' w' < μ (can V a) w) Q) (can V a) w a (fun ch e w hp => hQ ch e w hp) hs hI.1 (hround _ _ hI.2)) fun x a' w' hp => ?_
    obtain ⟨e', hr', hq⟩ := hp
    cases x with
    | normal =>
      have he := hr'.env
      subst he
      exact ⟨⟨hr', hq.1⟩, hq.2⟩
    | _ => exact ⟨e', hr', hq⟩
  | .exit id, Q, e, w, a, hQ, hs, hr, h => wp_exit ⟨e, hr, h⟩
  | .ret, Q, e, w, a, hQ, hs, hr, h => wp_ret ⟨e, hr, h⟩
  | .rangeFunc .., Q, e, w, a, hQ, hs, hr, h => h.elim
  | .scope _, Q, e, w, a, hQ, hs, hr, h => h.elim
  | .goto _, Q, e, w, a, hQ, hs, hr, h => h.elim
  | .refuse _, Q, e, w, a, hQ, hs, hr, h => h.elim

section
variable (P : Program) (n : Nat) (V : Nat → Bool) (Q : Exit → Env → World → Prop) (e : Env) (w : World)
theorem W2_seq (a b : Code) : W2 P n V (.seq a b) Q e w = W2 P n V a (seqQ (fun e w => W2 P n V b Q e w) Q) e w := by rw [W2]
theorem W2_reg (id : Nat) (ops : Array Oper) : W2 P n V (.region id ops false) Q e w = opsW (nx P) mv gdP n V ops (fun e w => Q .normal e w) ops.toList [] e e w := by rw [W2]
theorem W2_regD (id : Nat) (ops : Array Oper) : W2 P n V (.region id ops true) Q e w = drawW2 P n V ops (fun e w => Q .normal e w) e w := by rw [W2]
theorem W2_seq_reg (id : Nat) (ops : Array Oper) (b : Code) : W2 P n V (.seq (.region id ops false) b) Q e w = opsW (nx P) mv gdP n V ops (fun e w => W2 P n V b Q e w) ops.toList [] e e w := by rw [W2_seq, W2_reg]; rfl
theorem W2_seq_regD (id : Nat) (ops : Array Oper) (b : Code) : W2 P n V (.seq (.region id ops true) b) Q e w =
    ∃ S : Nat → World → Prop, drawGo2 (nx P) (fun i => takeP P (S i)) mv gdP gdT n V ops S (fun e w => W2 P n V b Q e w) ops.size [] (Array.replicate ops.size false) [] e e w.drew := by rw [W2_seq, W2_regD]; rfl
theorem W2_regD' (id : Nat) (ops : Array Oper) : W2 P n V (.region id ops true) Q e w =
    ∃ S : Nat → World → Prop, drawGo2 (nx P) (fun i => takeP P (S i)) mv gdP gdT n V ops S (fun e w => Q .normal e w) ops.size [] (Array.replicate ops.size false) [] e e w.drew := by rw [W2_regD]; rfl
theorem W2_cond (c : Operand) (a b : Code) : W2 P n V (.cond c a b) Q e w = (bif opV V c then condP (ev e c) (W2 P n V a Q e w) (W2 P n V b Q e w) else False) := by rw [W2]
end
theorem callsN_of_W2 {P : Program} {f : FuncId} {fn : Func} {c : Code} {n : Nat} {rs : List ResultVar} (V : Nat → Bool) (hnt : fn.ntmps = n) (hrs : fn.results.toList = rs) (hm : P.follows .mixedOrders = true) (hf : P.funcs[f]? = some fn) (hb : fn.body = some c)
    (hs : Code.selOK c = true) (hr : resV V rs = true) {args : List Value} (ha : (List.range args.length).all V = true) (hn : args.length ≤ n) {w : World} {R : Value → World → Prop}
    (h : W2 P n V c (retQ P rs R) (argE args) w) : CallsN P f args w R := by
  subst hnt hrs
  refine calls_of_wp hf hb ?_
  refine wp_mono (W2_sound hm c (retQ P fn.results.toList R) (argE args) w _ (fun ch e w hp => hp) hs ⟨?_, rfl, ?_⟩ h) fun x a w hp => ?_
  · simp; omega
  · funext i
    simp only [can, argE]
    by_cases hi : i < args.length
    · have : V i = true := List.all_eq_true.1 ha i (by simpa using hi)
      simp [this, Array.getD_eq_getD_getElem?, Array.getElem?_append, hi, List.getD_eq_getElem?_getD]
    · have h1 : args.getD i undef = undef := by simp [List.getD_eq_getElem?_getD, List.getElem?_eq_none (show args.length ≤ i by omega)]
      rw [h1]
      cases V i
      · rfl
      · simp only [cond_true, Array.getD_eq_getD_getElem?, Array.getElem?_append]
        rw [if_neg (by simpa using hi)]
        rw [Array.getElem?_replicate]
        split <;> rfl
  · obtain ⟨e, hrel, hq⟩ := hp
    have key : retP P fn.results.toList R e w → a.defers = [] ∧ ∃ v, (results fn a.tmps).run P w = .ok v w ∧ R v w := fun hq => by
      obtain ⟨vs, hres, hR⟩ := retA_run hq
      exact ⟨hrel.defers, _, results_run P fn V e a.tmps w hr (fun i hi => hrel.loc.loc i (by simp [hi])) hres, hR⟩
    cases x <;> first | exact key hq | exact hq.elim

section
variable {P : Program} {n : Nat} {V : Nat → Bool} {Q : Exit → Env → World → Prop} {e : Env} {w : World}
theorem W2_ret : W2 P n V .ret Q e w = Q .ret e w := by rw [W2]
theorem W2_skip : W2 P n V .skip Q e w = Q .normal e w := by rw [W2]
theorem W2_label (l : Nat) : W2 P n V (.label l) Q e w = Q .normal e w := by rw [W2]
theorem W2_exit (i : Nat) : W2 P n V (.exit i) Q e w = Q (.exit i) e w := by rw [W2]
end
theorem W2_congr {P : Program} {n : Nat} {V : Nat → Bool} {c : Code} {Q : Exit → Env → World → Prop} {e e' : Env} {w w' : World} (h : e = e') (hw : w = w') : W2 P n V c Q e w = W2 P n V c Q e' w' := by rw [h, hw]
attribute [congr] W2_congr
theorem draw_intro2 (Mf : Nat → List Nat) {w : World} {F : (Nat → World → Prop) → Prop} (h : F (fun i => FrX (some (Mf i)) w)) : ∃ S : Nat → World → Prop, F S := ⟨_, h⟩
theorem Fr_self (M : List Nat) (w : World) : Fr M w w = True := eq_true (Fr.refl _ _)
end
end Go.VW
