/- GapWhole walked. -/
import Derived.Test.YtenokheiindfkaaF2
import Derived.Test.YtenokheiindfkaaWL
import Derived.Test.YtenokheiindfkaaM4
import Derived.Test.YtenokheiindfkaaG5
import Derived.Test.YtenokheiindfkaaCB
set_option linter.unusedVariables false
set_option linter.unusedSimpArgs false
set_option maxRecDepth 10000
namespace Go.Proofs.Ytenokheiindfkaa
open Go.VW
def encU8 (v : Int) : List Value := [.int .u8 v]
abbrev encI (v : Int) : List Value := [.int .i64 v]
theorem takeP_neg {P : Program} {M : List Nat} {w0 : World} (k : IntKind) (n : Int) (K : Value → Prop) : takeP P (Fr M w0) (xv (Op.unary .neg (.int k n))) K = K (.int k (k.wrap (0 - n))) := takeP_xv (run_neg k n) K
theorem nodup_get {l : List Int} (h : l.Nodup) : ∀ (i j : Nat) (x : Int), l[i]? = some x → l[j]? = some x → i = j := by
  induction l with
  | nil => intro i j x h1; simp at h1
  | cons a l ih =>
    have hn := List.nodup_cons.1 h
    intro i j x h1 h2
    cases i with
    | zero =>
      cases j with
      | zero => rfl
      | succ j =>
        simp at h1 h2; subst h1
        exact absurd (List.mem_of_getElem? h2) hn.1
    | succ i =>
      cases j with
      | zero =>
        simp at h1 h2; subst h2
        exact absurd (List.mem_of_getElem? h1) hn.1
      | succ j => exact congrArg (· + 1) (ih hn.2 i j x (by simpa using h1) (by simpa using h2))
/-- From the permuted list on. -/
theorem wholeC {N : Nat} {L : List Int} {vo : Value} {e : Env} {w : World} {K : Value → World → Prop} (hN : N < 256) (e0 : e 0 = .int .u8 N) (e5 : e 5 = vo) (ho : SlOf 1 encI w vo L) (hp : L.Perm (base N))
    (hK : ∀ w', Fr [] w w' → K (.bool true) w') : W2 Try.prog 113 V8 c8_5 (retQ Try.prog [.tmp 4] K) e w := by
  have cw := cur w
  have hlen : L.length = N := by rw [hp.length_eq, base_len]
  have hnd : L.Nodup := hp.nodup_iff.2 (base_nodup N)
  obtain ⟨oa, oc, hvo⟩ := ho.form
  simp (maxSteps := 4000000) (disch := (first | assumption | exact List.not_mem_nil | ((repeat (first | assumption | apply cur_alloc | apply cur_setB | apply cur_drew | apply cur_drewN)); done) | omega | (simp only [gz, Value.cells, oneC]; first | done | omega) | ((simp only [List.mem_cons, List.not_mem_nil, or_false, gz]); omega) | rfl)) only [↓gsd, gs, ev, Nat.reduceAdd, Nat.reduceEqDiff, oneC, Value.cells, Option.isNone, gt, ↓hk8, e0, e5]
  refine newL fun gb gm w2 hf2 hgb hgm h2 => ?_
  have cw2 := cur w2
  have hz2 := hf2.size
  have hfin : ∀ w', Fr [gb, gm] w2 w' → Fr [] w w' := fun w' hf' => hf2.trans hf' fun x hx => by simp at hx; exact .inr (by omega)
  simp (maxSteps := 4000000) (disch := (first | assumption | exact List.not_mem_nil | ((repeat (first | assumption | apply cur_alloc | apply cur_setB | apply cur_drew | apply cur_drewN)); done) | omega | (simp only [gz, Value.cells, oneC]; first | done | omega) | ((simp only [List.mem_cons, List.not_mem_nil, or_false, gz]); omega) | rfl)) only [↓gsd, gs, ev, Nat.reduceAdd, Nat.reduceEqDiff, oneC, Value.cells, Option.isNone, gt, ↓hk8, e0, e5]
  refine loop_intro (fun e w' => ∃ (i : Nat) (g : GS Int), i ≤ N ∧ e 0 = .int .u8 N ∧ e 5 = vo ∧ e 10 = .pointer (some ⟨gb, 0, none⟩) ∧ e 11 = .int .i64 g.at_ ∧ e 12 = .int .i64 i ∧
      GapAtL w' gb gm g ∧ g.WF ∧ g.most = 256 ∧ g.ws.length ≤ i ∧ (∀ p ∈ g.ws, p.2 = - p.1) ∧ (∀ x, seen g.at_ g.ws x ↔ x ∈ L.take i) ∧ Fr [gb, gm] w2 w')
    (fun e _ => N - (numOf (e 12)).toNat) ?_ ?_
  · refine ⟨0, GS.new 0 256, Nat.zero_le _, ?_⟩
    simp (maxSteps := 4000000) (disch := (first | assumption | exact List.not_mem_nil | ((repeat (first | assumption | apply cur_alloc | apply cur_setB | apply cur_drew | apply cur_drewN)); done) | omega | (simp only [gz, Value.cells, oneC]; first | done | omega) | ((simp only [List.mem_cons, List.not_mem_nil, or_false, gz]); omega) | rfl)) only [↓gsd, gs, ev, Nat.reduceAdd, Nat.reduceEqDiff, oneC, Value.cells, Option.isNone, e0, e5, Int.natCast_zero]
    refine ⟨rfl, h2, GS.new_wf _ _, rfl, by simp [GS.new], by simp [GS.new], fun x => ?_, Fr.refl _ _⟩
    simp [seen, GS.new, clamp]; omega
  · rintro e w3 k ⟨i, g, hi, e0, e5, e10, e11, e12, hg, hwf, hms, hwl, hwv, hseen, hf⟩ hk
    have cw3 := cur w3
    have hz3 := hf.size
    have ha0 := hwf.a0
    have ha1 := hwf.a1
    by_cases hil : i < N
    · have el : decide ((i : Int) < (L.length : Int)) = true := decide_eq_true (by omega)
      obtain ⟨n, hn⟩ : ∃ n, L[i]? = some n := ⟨L[i], List.getElem?_eq_getElem (by omega)⟩
      have hnb := (base_mem N n).1 (hp.mem_iff.1 (List.mem_of_getElem? hn))
      obtain ⟨bb, off, cap, ob, hv1, hob0, hbl, _, hcell⟩ := ho.read (fun _ => rfl) i n hn
      have hob := (hfin w3 hf).getN hob0
      have hc0 := fun orig K => hcell 0 (.int .i64 n) orig K rfl
      simp only [Nat.add_zero, Nat.mul_one] at hc0
      have i0 : (0 : Int) ≤ (i : Int) := by omega
      have i1 : (i : Int) < (L.length : Int) := by omega
      have hnot : ¬ seen g.at_ g.ws n := by
        rw [hseen n]
        intro hm
        obtain ⟨j, hj⟩ := List.getElem?_of_mem hm
        rw [List.getElem?_take] at hj
        split at hj
        · rename_i hji
          have h3 := nodup_get hnd j i n hj hn
          omega
        · cases hj
      have hok := whole_put hwf (-n) hnb.1 (by omega) hnot (by omega)
      have hpo := put_ok hwf n (-n)
      simp (maxSteps := 4000000) (disch := (first | assumption | exact List.not_mem_nil | ((repeat (first | assumption | apply cur_alloc | apply cur_setB | apply cur_drew | apply cur_drewN)); done) | omega | (simp only [gz, Value.cells, oneC]; first | done | omega) | ((simp only [List.mem_cons, List.not_mem_nil, or_false, gz]); omega) | rfl)) only [↓gsd, gs, ev, Nat.reduceAdd, Nat.reduceEqDiff, oneC, Value.cells, Option.isNone, gt, ↓hk8, e0, e5, e10, e11, e12, hv1, el]
      refine draw_intro2 (w := w3.drew) (fun _ => [gb, gm]) ?_
      simp (maxSteps := 4000000) (disch := (first | assumption | exact List.not_mem_nil | ((repeat (first | assumption | apply cur_alloc | apply cur_setB | apply cur_drew | apply cur_drewN)); done) | omega | (simp only [gz, Value.cells, oneC]; first | done | omega) | ((simp only [List.mem_cons, List.not_mem_nil, or_false, gz]); omega) | rfl)) only [↓gsd, gs, ev, Nat.reduceAdd, Nat.reduceEqDiff, oneC, Value.cells, Option.isNone, gt, ↓hk8, takeP_neg, Fr_self, e0, e5, e10, e11, e12, hv1, i0, i1, Int.toNat_natCast, Nat.mul_one, hob, hc0]
      refine putL (hg.frN (Fr.refl _ _).drew) hwf fun vp w4 hown hfr hf4 hg4 => ?_
      have cw4 := cur w4
      have hz4 := hf4.size
      rw [size_drew] at hz4
      rw [show (0 : Int) - n = -n by omega] at hown hg4 ⊢
      have hwf4 := hwf.put n (-n)
      obtain ⟨r, hrE⟩ : ∃ r, r = g.put n (-n) := ⟨_, rfl⟩
      rw [← hrE] at hown hg4 hwf4 hok hpo ⊢
      obtain ⟨⟨os, over⟩, g'⟩ := r
      obtain ⟨hov, hseen', hlen'⟩ := hok
      simp only at hov hseen' hlen' hown hg4 hwf4 ⊢
      subst hov
      have hat := hpo.at_
      simp only at hat
      have ha1' := hwf4.a1
      have hso : SlOf 1 encI w4 vp os := hown.sl
      obtain ⟨pa, pc, hvp⟩ := hso.form
      have hf34 : Fr [gb, gm] w3 w4 := (Fr.trans (a := w3) (M := [gb, gm]) (by (repeat (first | exact Fr.refl _ _ | assumption | with_reducible apply Fr.alloc | with_reducible apply Fr.drew | with_reducible refine Fr.setB ?_ _ _ (.inr (by first | omega | (simp only [gz]; omega))) | with_reducible refine Fr.setB ?_ _ _ (.inl (by first | assumption | simp)) | with_reducible refine Fr.trans' ?_ (by assumption)))) hf4 fun x hx => .inl hx)
      have hwv' : ∀ p ∈ g'.ws, p.2 = - p.1 := by
        intro p hp
        rcases List.mem_cons.1 (hpo.ws p hp) with h1 | h1
        · subst h1; rfl
        · exact hwv p h1
      have hkk : ∀ e' : Env, e' 0 = .int .u8 N → e' 5 = vo → e' 10 = .pointer (some ⟨gb, 0, none⟩) → e' 11 = .int .i64 g'.at_ → e' 12 = .int .i64 (i + 1) → k e' w4 := by
        intro e' q0 q5 q10 q11 q12
        refine hk _ _ ⟨i + 1, g', by omega, q0, q5, q10, q11, by rw [q12]; simp, hg4, hwf4, by rw [hpo.most]; exact hms, by omega, hwv', fun x => ?_, hf.transM hf34⟩ ?_
        · rw [hseen' x, hseen x, List.take_add_one, hn]
          simp
        · have e3 : ((i : Int) + 1).toNat = i + 1 := by omega
          simp only [q12, e12, numOf, Int.toNat_natCast, e3]; omega
      have hfT := eq_true hf4
      simp (maxSteps := 4000000) (disch := (first | assumption | exact List.not_mem_nil | ((repeat (first | assumption | apply cur_alloc | apply cur_setB | apply cur_drew | apply cur_drewN)); done) | omega | (simp only [gz, Value.cells, oneC]; first | done | omega) | ((simp only [List.mem_cons, List.not_mem_nil, or_false, gz]); omega) | rfl)) only [↓gsd, gs, ev, Nat.reduceAdd, Nat.reduceEqDiff, oneC, Value.cells, Option.isNone, gt, ↓hk8, Fr_self, hfT, e0, e5, e10, e11, e12, hv1]
      refine loop_intro (fun e w' => ∃ t : Nat, t ≤ os.length ∧ e 0 = .int .u8 N ∧ e 5 = vo ∧ e 10 = .pointer (some ⟨gb, 0, none⟩) ∧ e 11 = .int .i64 (g.at_ + t) ∧ e 12 = .int .i64 i ∧ e 13 = vp ∧ e 15 = .int .i64 t ∧ w' = w4)
        (fun e _ => os.length - (numOf (e 15)).toNat) ?_ ?_
      · refine ⟨0, Nat.zero_le _, ?_⟩
        simp (maxSteps := 4000000) (disch := (first | assumption | exact List.not_mem_nil | ((repeat (first | assumption | apply cur_alloc | apply cur_setB | apply cur_drew | apply cur_drewN)); done) | omega | (simp only [gz, Value.cells, oneC]; first | done | omega) | ((simp only [List.mem_cons, List.not_mem_nil, or_false, gz]); omega) | rfl)) only [↓gsd, gs, ev, Nat.reduceAdd, Nat.reduceEqDiff, oneC, Value.cells, Option.isNone, e0, e5, e10, e11, e12, hv1, Int.natCast_zero, Int.add_zero]
      · rintro e w5 k' ⟨t, ht, e0, e5, e10, e11, e12, e13, e15, rfl⟩ hk'
        by_cases htl : t < os.length
        · have d : decide ((t : Int) < (os.length : Int)) = true := decide_eq_true (by omega)
          obtain ⟨o, ho'⟩ : ∃ o, os[t]? = some o := ⟨os[t], List.getElem?_eq_getElem htl⟩
          have hov : o = -(g.at_ + 1 + t) := by
            rcases List.mem_cons.1 (hpo.out t o ho') with h1 | h1
            · simp only [Prod.mk.injEq] at h1
              obtain ⟨h1, rfl⟩ := h1
              omega
            · exact hwv _ h1
          obtain ⟨bo, oo, co, oob, hvo1, hoob, _, _, hoc⟩ := hso.read (fun _ => rfl) t o ho'
          have hd1 := fun orig K => hoc 0 (.int .i64 o) orig K rfl
          simp only [Nat.mul_one, Nat.add_zero] at hd1
          have t0 : (0 : Int) ≤ (t : Int) := by omega
          have t1 : (t : Int) < (os.length : Int) := by omega
          have d1 : decide (o = 0 - (g.at_ + (t : Int) + 1)) = true := decide_eq_true (by omega)
          simp (maxSteps := 4000000) (disch := (first | assumption | exact List.not_mem_nil | ((repeat (first | assumption | apply cur_alloc | apply cur_setB | apply cur_drew | apply cur_drewN)); done) | omega | (simp only [gz, Value.cells, oneC]; first | done | omega) | ((simp only [List.mem_cons, List.not_mem_nil, or_false, gz]); omega) | rfl)) only [↓gsd, gs, ev, Nat.reduceAdd, Nat.reduceEqDiff, oneC, Value.cells, Option.isNone, gt, ↓hk8, run_neg, e0, e5, e10, e11, e12, e13, e15, hvo1, d, t0, t1, Int.toNat_natCast, Nat.mul_one, hoob, hd1, d1]
          refine hk' _ _ ⟨t + 1, by omega, ?_⟩ ?_
          · have e3 : g.at_ + (t : Int) + 1 = g.at_ + ((t + 1 : Nat) : Int) := by omega
            simp (maxSteps := 4000000) (disch := (first | assumption | exact List.not_mem_nil | ((repeat (first | assumption | apply cur_alloc | apply cur_setB | apply cur_drew | apply cur_drewN)); done) | omega | (simp only [gz, Value.cells, oneC]; first | done | omega) | ((simp only [List.mem_cons, List.not_mem_nil, or_false, gz]); omega) | rfl)) only [↓gsd, gs, ev, Nat.reduceAdd, Nat.reduceEqDiff, oneC, Value.cells, Option.isNone, e0, e5, e10, e11, e12, e13, e15, hvo1, Int.natCast_add, Int.natCast_one]
            rw [e3]; simp
          · have e3 : ((t : Int) + 1).toNat = t + 1 := by omega
            simp (maxSteps := 4000000) (disch := (first | assumption | exact List.not_mem_nil | ((repeat (first | assumption | apply cur_alloc | apply cur_setB | apply cur_drew | apply cur_drewN)); done) | omega | (simp only [gz, Value.cells, oneC]; first | done | omega) | ((simp only [List.mem_cons, List.not_mem_nil, or_false, gz]); omega) | rfl)) only [↓gsd, gs, ev, Nat.reduceAdd, Nat.reduceEqDiff, oneC, Value.cells, Option.isNone, e15, numOf, Int.toNat_natCast, e3]; omega
        · have d : decide ((t : Int) < (os.length : Int)) = false := decide_eq_false (by omega)
          obtain rfl : t = os.length := by omega
          rw [← hat] at e11
          simp (maxSteps := 4000000) (disch := (first | assumption | exact List.not_mem_nil | ((repeat (first | assumption | apply cur_alloc | apply cur_setB | apply cur_drew | apply cur_drewN)); done) | omega | (simp only [gz, Value.cells, oneC]; first | done | omega) | ((simp only [List.mem_cons, List.not_mem_nil, or_false, gz]); omega) | rfl)) only [↓gsd, gs, ev, Nat.reduceAdd, Nat.reduceEqDiff, oneC, Value.cells, Option.isNone, gt, ↓hk8, e0, e5, e10, e11, e12, e13, e15, hvp, d]
          exact hkk _ (by simp (maxSteps := 4000000) (disch := (first | assumption | exact List.not_mem_nil | ((repeat (first | assumption | apply cur_alloc | apply cur_setB | apply cur_drew | apply cur_drewN)); done) | omega | (simp only [gz, Value.cells, oneC]; first | done | omega) | ((simp only [List.mem_cons, List.not_mem_nil, or_false, gz]); omega) | rfl)) only [↓gsd, gs, ev, Nat.reduceAdd, Nat.reduceEqDiff, oneC, Value.cells, Option.isNone, e0]) (by simp (maxSteps := 4000000) (disch := (first | assumption | exact List.not_mem_nil | ((repeat (first | assumption | apply cur_alloc | apply cur_setB | apply cur_drew | apply cur_drewN)); done) | omega | (simp only [gz, Value.cells, oneC]; first | done | omega) | ((simp only [List.mem_cons, List.not_mem_nil, or_false, gz]); omega) | rfl)) only [↓gsd, gs, ev, Nat.reduceAdd, Nat.reduceEqDiff, oneC, Value.cells, Option.isNone, e5]) (by simp (maxSteps := 4000000) (disch := (first | assumption | exact List.not_mem_nil | ((repeat (first | assumption | apply cur_alloc | apply cur_setB | apply cur_drew | apply cur_drewN)); done) | omega | (simp only [gz, Value.cells, oneC]; first | done | omega) | ((simp only [List.mem_cons, List.not_mem_nil, or_false, gz]); omega) | rfl)) only [↓gsd, gs, ev, Nat.reduceAdd, Nat.reduceEqDiff, oneC, Value.cells, Option.isNone, e10]) (by simp (maxSteps := 4000000) (disch := (first | assumption | exact List.not_mem_nil | ((repeat (first | assumption | apply cur_alloc | apply cur_setB | apply cur_drew | apply cur_drewN)); done) | omega | (simp only [gz, Value.cells, oneC]; first | done | omega) | ((simp only [List.mem_cons, List.not_mem_nil, or_false, gz]); omega) | rfl)) only [↓gsd, gs, ev, Nat.reduceAdd, Nat.reduceEqDiff, oneC, Value.cells, Option.isNone, e11]) (by simp (maxSteps := 4000000) (disch := (first | assumption | exact List.not_mem_nil | ((repeat (first | assumption | apply cur_alloc | apply cur_setB | apply cur_drew | apply cur_drewN)); done) | omega | (simp only [gz, Value.cells, oneC]; first | done | omega) | ((simp only [List.mem_cons, List.not_mem_nil, or_false, gz]); omega) | rfl)) only [↓gsd, gs, ev, Nat.reduceAdd, Nat.reduceEqDiff, oneC, Value.cells, Option.isNone, e12])
    · have el : decide ((i : Int) < (L.length : Int)) = false := decide_eq_false (by omega)
      obtain rfl : i = N := by omega
      have hse : ∀ x, seen g.at_ g.ws x ↔ 1 ≤ x ∧ x ≤ (i : Int) := fun x => by rw [hseen x, List.take_of_length_le (by omega), hp.mem_iff, base_mem]
      obtain ⟨hA, hB⟩ := whole_end hwf (by omega) hse
      have dA : decide (g.at_ = (i : Int)) = true := decide_eq_true hA
      have dB : decide ((g.ws.length : Int) = 0) = true := decide_eq_true (by omega)
      simp (maxSteps := 4000000) (disch := (first | assumption | exact List.not_mem_nil | ((repeat (first | assumption | apply cur_alloc | apply cur_setB | apply cur_drew | apply cur_drewN)); done) | omega | (simp only [gz, Value.cells, oneC]; first | done | omega) | ((simp only [List.mem_cons, List.not_mem_nil, or_false, gz]); omega) | rfl)) only [↓gsd, gs, ev, Nat.reduceAdd, Nat.reduceEqDiff, oneC, Value.cells, Option.isNone, gt, ↓hk8, e0, e5, e10, e11, e12, hvo, el, dA]
      refine waitsL hg hwf fun vw w6 hw6 hf6 hfr6 => ?_
      have cw6 := cur w6
      obtain ⟨va, vc, hvw⟩ := hw6.sl.form
      simp (maxSteps := 4000000) (disch := (first | assumption | exact List.not_mem_nil | ((repeat (first | assumption | apply cur_alloc | apply cur_setB | apply cur_drew | apply cur_drewN)); done) | omega | (simp only [gz, Value.cells, oneC]; first | done | omega) | ((simp only [List.mem_cons, List.not_mem_nil, or_false, gz]); omega) | rfl)) only [↓gsd, gs, ev, Nat.reduceAdd, Nat.reduceEqDiff, oneC, Value.cells, Option.isNone, gt, ↓hk8, e0, e5, e10, e11, e12, hvw, dB]
      exact hK _ ((hfin _ hf).trans' hf6)
end Go.Proofs.Ytenokheiindfkaa
