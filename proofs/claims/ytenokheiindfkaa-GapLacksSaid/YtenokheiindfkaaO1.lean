/- GapOrder walked. -/
import Derived.Test.YtenokheiindfkaaF2
import Derived.Test.YtenokheiindfkaaM2
import Derived.Test.YtenokheiindfkaaG3
set_option linter.unusedVariables false
set_option linter.unusedSimpArgs false
set_option maxRecDepth 10000
namespace Go.Proofs.Ytenokheiindfkaa
open Go.VW
def encZ1 (v : Int) : List Value := [.int .i64 v]
def encU (v : Int) : List Value := [.int .u16 v]
/-- waits: is n among the numbers? -/
theorem isin_spec {vo : Value} {l : List Int} {n : Int} {w : World} {K : Value → World → Prop} (h : SlOf 1 (fun v : Int => [Value.int .i64 v]) w vo l) (hm : l.length ≤ 9223372036854775806) (hin : n ∈ l) (hK : K (.bool true) w) : CallsN Try.prog 34 [vo, .int .i64 n] w K := by
  have cw := cur w
  obtain ⟨a, c, hv⟩ := h.form
  refine call34 ?_
  simp (maxSteps := 4000000) (disch := (first | assumption | exact List.not_mem_nil | ((repeat (first | assumption | apply cur_alloc | apply cur_setB | apply cur_drew | apply cur_drewN)); done) | omega | (simp only [gz, Value.cells, oneC]; first | done | omega) | ((simp only [List.mem_cons, List.not_mem_nil, or_false, gz]); omega) | rfl)) only [↓gsd, gs, ev, Nat.reduceAdd, Nat.reduceEqDiff, oneC, Value.cells, Option.isNone, gt, ↓hk34]
  refine loop_intro (fun e w' => ∃ i : Nat, i < l.length ∧ n ∈ l.drop i ∧ e 0 = vo ∧ e 1 = .int .i64 n ∧ e 5 = .int .i64 i ∧ w' = w) (fun e _ => l.length - (numOf (e 5)).toNat) ?_ ?_
  · refine ⟨0, List.length_pos_of_mem hin, hin, ?_⟩
    simp (maxSteps := 4000000) (disch := (first | assumption | exact List.not_mem_nil | ((repeat (first | assumption | apply cur_alloc | apply cur_setB | apply cur_drew | apply cur_drewN)); done) | omega | (simp only [gz, Value.cells, oneC]; first | done | omega) | ((simp only [List.mem_cons, List.not_mem_nil, or_false, gz]); omega) | rfl)) only [↓gsd, gs, ev, Nat.reduceAdd, Nat.reduceEqDiff, oneC, Value.cells, Option.isNone, Int.natCast_zero]
  · rintro e w1 k ⟨i, hi, hd, e0, e1, e5, rfl⟩ hk
    have d : decide ((i : Int) < (l.length : Int)) = true := decide_eq_true (by omega)
    obtain ⟨y, hy⟩ : ∃ y, l[i]? = some y := ⟨l[i], List.getElem?_eq_getElem hi⟩
    obtain ⟨b1, o1, p1, ob1, hv1, hb1, _, _, hc1⟩ := h.read (fun _ => rfl) i y hy
    have hd1 := fun orig K => hc1 0 (.int .i64 y) orig K rfl
    simp only [Nat.mul_one, Nat.add_zero] at hd1
    have i0 : (0 : Int) ≤ (i : Int) := by omega
    have i1 : (i : Int) < (l.length : Int) := by omega
    by_cases hyn : y = n
    · have d2 : decide (y = n) = true := decide_eq_true hyn
      simp (maxSteps := 4000000) (disch := (first | assumption | exact List.not_mem_nil | ((repeat (first | assumption | apply cur_alloc | apply cur_setB | apply cur_drew | apply cur_drewN)); done) | omega | (simp only [gz, Value.cells, oneC]; first | done | omega) | ((simp only [List.mem_cons, List.not_mem_nil, or_false, gz]); omega) | rfl)) only [↓gsd, gs, ev, Nat.reduceAdd, Nat.reduceEqDiff, oneC, Value.cells, Option.isNone, gt, ↓hk34, e0, e1, e5, hv1, d, i0, i1, Int.toNat_natCast, Nat.mul_one, hb1, hd1, d2]
      exact hK
    · have d2 : decide (y = n) = false := decide_eq_false hyn
      simp (maxSteps := 4000000) (disch := (first | assumption | exact List.not_mem_nil | ((repeat (first | assumption | apply cur_alloc | apply cur_setB | apply cur_drew | apply cur_drewN)); done) | omega | (simp only [gz, Value.cells, oneC]; first | done | omega) | ((simp only [List.mem_cons, List.not_mem_nil, or_false, gz]); omega) | rfl)) only [↓gsd, gs, ev, Nat.reduceAdd, Nat.reduceEqDiff, oneC, Value.cells, Option.isNone, gt, ↓hk34, e0, e1, e5, hv1, d, i0, i1, Int.toNat_natCast, Nat.mul_one, hb1, hd1, d2]
      rw [List.drop_eq_getElem_cons hi] at hd
      have hd' : n ∈ l.drop (i + 1) := by
        rcases List.mem_cons.1 hd with h | h
        · rw [List.getElem?_eq_getElem hi] at hy
          cases hy; exact absurd h.symm hyn
        · exact h
      have hlt : i + 1 < l.length := by
        have := List.length_pos_of_mem hd'
        rw [List.length_drop] at this; omega
      refine hk _ _ ⟨i + 1, hlt, hd', ?_⟩ ?_
      · simp (maxSteps := 4000000) (disch := (first | assumption | exact List.not_mem_nil | ((repeat (first | assumption | apply cur_alloc | apply cur_setB | apply cur_drew | apply cur_drewN)); done) | omega | (simp only [gz, Value.cells, oneC]; first | done | omega) | ((simp only [List.mem_cons, List.not_mem_nil, or_false, gz]); omega) | rfl)) only [↓gsd, gs, ev, Nat.reduceAdd, Nat.reduceEqDiff, oneC, Value.cells, Option.isNone, e0, e1, e5, hv1, Int.natCast_add, Int.natCast_one]
      · have e3 : ((i : Int) + 1).toNat = i + 1 := by omega
        simp (maxSteps := 4000000) (disch := (first | assumption | exact List.not_mem_nil | ((repeat (first | assumption | apply cur_alloc | apply cur_setB | apply cur_drew | apply cur_drewN)); done) | omega | (simp only [gz, Value.cells, oneC]; first | done | omega) | ((simp only [List.mem_cons, List.not_mem_nil, or_false, gz]); omega) | rfl)) only [↓gsd, gs, ev, Nat.reduceAdd, Nat.reduceEqDiff, oneC, Value.cells, Option.isNone, e5, numOf, Int.toNat_natCast, e3]; omega
set_option maxHeartbeats 8000000 in
theorem order_spec {m : Int} {pv : Value} {ps : List Int} {w : World} {K : Value → World → Prop} (hm0 : 0 ≤ m) (hm1 : m < 256) (h : SlOf 1 encU w pv ps) (hr : ∀ x ∈ ps, 0 ≤ x ∧ x < 65536) (hl : ps.length ≤ 9223372036854775807)
    (hK : ∀ w', Fr [] w w' → K (.bool true) w') : CallsN Try.prog 7 [.int .u8 m, pv] w K := by
  have cw := cur w
  obtain ⟨pa, pc, hpv⟩ := h.form
  refine call7 ?_
  simp (maxSteps := 4000000) (disch := (first | assumption | exact List.not_mem_nil | ((repeat (first | assumption | apply cur_alloc | apply cur_setB | apply cur_drew | apply cur_drewN)); done) | omega | (simp only [gz, Value.cells, oneC]; first | done | omega) | ((simp only [List.mem_cons, List.not_mem_nil, or_false, gz]); omega) | rfl)) only [↓gsd, gs, ev, Nat.reduceAdd, Nat.reduceEqDiff, oneC, Value.cells, Option.isNone, gt, ↓hk7]
  refine fixedG fun w1 hf1 => ?_
  have cw1 := cur w1
  have hz1 := hf1.size
  simp (maxSteps := 4000000) (disch := (first | assumption | exact List.not_mem_nil | ((repeat (first | assumption | apply cur_alloc | apply cur_setB | apply cur_drew | apply cur_drewN)); done) | omega | (simp only [gz, Value.cells, oneC]; first | done | omega) | ((simp only [List.mem_cons, List.not_mem_nil, or_false, gz]); omega) | rfl)) only [↓gsd, gs, ev, Nat.reduceAdd, Nat.reduceEqDiff, oneC, Value.cells, Option.isNone, gt, ↓hk7]
  refine newI fun gb gm w2 hf2 hgb hgm h2 => ?_
  have cw2 := cur w2
  have hz2 := hf2.size
  have hf02 := hf1.trans' hf2
  have hfin : ∀ w', Fr [gb, gm] w2 w' → Fr [] w w' := fun w' hf' => hf02.trans hf' fun x hx => by simp at hx; exact .inr (by omega)
  obtain ⟨mo, hmo⟩ : ∃ mo : Nat, (mo : Int) = m := ⟨m.toNat, by omega⟩
  have hms : (min (max m 0) 256).toNat = mo := by omega
  simp (maxSteps := 4000000) (disch := (first | assumption | exact List.not_mem_nil | ((repeat (first | assumption | apply cur_alloc | apply cur_setB | apply cur_drew | apply cur_drewN)); done) | omega | (simp only [gz, Value.cells, oneC]; first | done | omega) | ((simp only [List.mem_cons, List.not_mem_nil, or_false, gz]); omega) | rfl)) only [↓gsd, gs, ev, Nat.reduceAdd, Nat.reduceEqDiff, oneC, Value.cells, Option.isNone, gt, ↓hk7]
  refine loop_intro (fun e w' => ∃ (i : Nat) (g : GS Int), i ≤ ps.length ∧ e 0 = .int .u8 m ∧ e 1 = pv ∧ e 5 = .pointer (some ⟨gb, 0, none⟩) ∧ e 6 = .int .i64 g.at_ ∧ e 7 = .int .i64 i ∧
      GapAtI w' gb gm g ∧ g.WF ∧ g.most = mo ∧ (∀ p ∈ g.ws, 0 ≤ p.2 ∧ p.2 < i ∧ ps[p.2.toNat]? = some p.1) ∧ Fr [gb, gm] w2 w')
    (fun e _ => ps.length - (numOf (e 7)).toNat) ?_ ?_
  · refine ⟨0, GS.new 10 m, Nat.zero_le _, ?_⟩
    simp (maxSteps := 4000000) (disch := (first | assumption | exact List.not_mem_nil | ((repeat (first | assumption | apply cur_alloc | apply cur_setB | apply cur_drew | apply cur_drewN)); done) | omega | (simp only [gz, Value.cells, oneC]; first | done | omega) | ((simp only [List.mem_cons, List.not_mem_nil, or_false, gz]); omega) | rfl)) only [↓gsd, gs, ev, Nat.reduceAdd, Nat.reduceEqDiff, oneC, Value.cells, Option.isNone, Int.natCast_zero]
    refine ⟨rfl, h2, GS.new_wf _ _, hms, by simp [GS.new], Fr.refl _ _⟩
  · rintro e w3 k ⟨i, g, hi, e0, e1, e5, e6, e7, hg, hwf, hgm', hws, hf⟩ hk
    have cw3 := cur w3
    have hz3 := hf.size
    have ha0 := hwf.a0
    have ha1 := hwf.a1
    by_cases hil : i < ps.length
    · have el : decide ((i : Int) < (ps.length : Int)) = true := decide_eq_true (by omega)
      obtain ⟨n, hn⟩ : ∃ n, ps[i]? = some n := ⟨ps[i], List.getElem?_eq_getElem hil⟩
      obtain ⟨hn0, hn1⟩ := hr n (List.mem_of_getElem? hn)
      have hp3 := h.frN (hfin w3 hf)
      obtain ⟨bb, off, cap, ob, hv1, hob, _, _, hcell⟩ := hp3.read (fun _ => rfl) i n hn
      have hc0 := fun orig K => hcell 0 (.int .u16 n) orig K rfl
      simp only [Nat.add_zero, Nat.mul_one] at hc0
      have i0 : (0 : Int) ≤ (i : Int) := by omega
      have i1 : (i : Int) < (ps.length : Int) := by omega
      simp (maxSteps := 4000000) (disch := (first | assumption | exact List.not_mem_nil | ((repeat (first | assumption | apply cur_alloc | apply cur_setB | apply cur_drew | apply cur_drewN)); done) | omega | (simp only [gz, Value.cells, oneC]; first | done | omega) | ((simp only [List.mem_cons, List.not_mem_nil, or_false, gz]); omega) | rfl)) only [↓gsd, gs, ev, Nat.reduceAdd, Nat.reduceEqDiff, oneC, Value.cells, Option.isNone, gt, ↓hk7, e0, e1, e5, e6, e7, hv1, el, i0, i1, Int.toNat_natCast, Nat.mul_one, hob, hc0]
      refine putI hg hwf fun vo w4 hown hfr hf4 hg4 => ?_
      have cw4 := cur w4
      have hz4 := hf4.size
      have hwf4 := hwf.put n (i : Int)
      have hok := put_ok hwf n (i : Int)
      obtain ⟨r, hrE⟩ : ∃ r, r = g.put n (i : Int) := ⟨_, rfl⟩
      rw [← hrE] at hown hg4 hwf4 hok ⊢
      obtain ⟨⟨os, over⟩, g'⟩ := r
      simp only at hown hg4 hwf4 hok ⊢
      have ha0' := hwf4.a0
      have ha1' := hwf4.a1
      have hat := hok.at_
      simp only at hat
      have hso : SlOf 1 (fun v : Int => [Value.int .i64 v]) w4 vo os := hown.sl
      obtain ⟨oa, oc, hvo⟩ := hso.form
      have hf4' := hf.transM hf4
      have hp4 := h.frN (hfin w4 hf4')
      have hws' : ∀ p ∈ g'.ws, 0 ≤ p.2 ∧ p.2 < ((i + 1 : Nat) : Int) ∧ ps[p.2.toNat]? = some p.1 := by
        intro p hp
        rcases List.mem_cons.1 (hok.ws p hp) with h1 | h1
        · subst h1; exact ⟨i0, by simp only; omega, by simpa using hn⟩
        · have := hws p h1; exact ⟨this.1, by omega, this.2.2⟩
      have hkk : ∀ (e' : Env) (w' : World), e' 0 = .int .u8 m → e' 1 = pv → e' 5 = .pointer (some ⟨gb, 0, none⟩) → e' 6 = .int .i64 g'.at_ → e' 7 = .int .i64 (i + 1) → Fr [] w4 w' → k e' w' := by
        intro e' w' q0 q1 q5 q6 q7 hf'
        refine hk _ _ ⟨i + 1, g', by omega, q0, q1, q5, q6, by rw [q7]; simp, hg4.frN hf', hwf4, by rw [hok.most]; exact hgm', hws', hf4'.trans' hf'⟩ ?_
        have e3 : ((i : Int) + 1).toNat = i + 1 := by omega
        simp only [q7, e7, numOf, Int.toNat_natCast, e3]; omega
      simp (maxSteps := 4000000) (disch := (first | assumption | exact List.not_mem_nil | ((repeat (first | assumption | apply cur_alloc | apply cur_setB | apply cur_drew | apply cur_drewN)); done) | omega | (simp only [gz, Value.cells, oneC]; first | done | omega) | ((simp only [List.mem_cons, List.not_mem_nil, or_false, gz]); omega) | rfl)) only [↓gsd, gs, ev, Nat.reduceAdd, Nat.reduceEqDiff, oneC, Value.cells, Option.isNone, gt, ↓hk7, e0, e1, e5, e6, e7]
      refine loop_intro (fun e w' => ∃ t : Nat, t ≤ os.length ∧ e 0 = .int .u8 m ∧ e 1 = pv ∧ e 5 = .pointer (some ⟨gb, 0, none⟩) ∧ e 6 = .int .i64 (g.at_ + t) ∧ e 7 = .int .i64 i ∧ e 8 = .int .i64 n ∧ e 9 = vo ∧ e 10 = .bool over ∧ e 11 = .int .i64 t ∧ w' = w4)
        (fun e _ => os.length - (numOf (e 11)).toNat) ?_ ?_
      · refine ⟨0, Nat.zero_le _, ?_⟩
        simp (maxSteps := 4000000) (disch := (first | assumption | exact List.not_mem_nil | ((repeat (first | assumption | apply cur_alloc | apply cur_setB | apply cur_drew | apply cur_drewN)); done) | omega | (simp only [gz, Value.cells, oneC]; first | done | omega) | ((simp only [List.mem_cons, List.not_mem_nil, or_false, gz]); omega) | rfl)) only [↓gsd, gs, ev, Nat.reduceAdd, Nat.reduceEqDiff, oneC, Value.cells, Option.isNone, e0, e1, e5, e6, e7, Int.natCast_zero, Int.add_zero]
      · rintro e w5 k' ⟨t, ht, e0, e1, e5, e6, e7, e8, e9, e10, e11, rfl⟩ hk'
        by_cases htl : t < os.length
        · have d : decide ((t : Int) < (os.length : Int)) = true := decide_eq_true (by omega)
          obtain ⟨o, ho⟩ : ∃ o, os[t]? = some o := ⟨os[t], List.getElem?_eq_getElem htl⟩
          have hmem := hok.out t o ho
          have ho1 : 0 ≤ o ∧ o < ((i + 1 : Nat) : Int) ∧ ps[o.toNat]? = some (g.at_ + 1 + t) := by
            rcases List.mem_cons.1 hmem with h1 | h1
            · simp only [Prod.mk.injEq] at h1
              obtain ⟨h1, rfl⟩ := h1
              exact ⟨i0, by omega, by rw [h1]; simpa using hn⟩
            · have := hws _ h1
              simp only at this
              exact ⟨this.1, by omega, this.2.2⟩
          obtain ⟨bo, oo, co, oob, hvo1, hoob, _, _, hoc⟩ := hso.read (fun _ => rfl) t o ho
          have hd1 := fun orig K => hoc 0 (.int .i64 o) orig K rfl
          simp only [Nat.mul_one, Nat.add_zero] at hd1
          obtain ⟨bp, op, cp, pob, hvp1, hpob, _, _, hpc⟩ := hp4.read (fun _ => rfl) o.toNat _ ho1.2.2
          have hd2 := fun orig K => hpc 0 (.int .u16 (g.at_ + 1 + t)) orig K rfl
          simp only [Nat.mul_one, Nat.add_zero] at hd2
          have hpr := hr _ (List.mem_of_getElem? ho1.2.2)
          have t0 : (0 : Int) ≤ (t : Int) := by omega
          have t1 : (t : Int) < (os.length : Int) := by omega
          have u0 := ho1.1
          have u1 : o < (ps.length : Int) := by have := (List.getElem?_eq_some_iff.1 ho1.2.2).1; omega
          have d1 : decide (o < 0) = false := decide_eq_false (by omega)
          have d2 : decide ((i : Int) < o) = false := decide_eq_false (by omega)
          have d3 : decide (g.at_ + 1 + (t : Int) = g.at_ + t + 1) = true := decide_eq_true (by omega)
          simp (maxSteps := 4000000) (disch := (first | assumption | exact List.not_mem_nil | ((repeat (first | assumption | apply cur_alloc | apply cur_setB | apply cur_drew | apply cur_drewN)); done) | omega | (simp only [gz, Value.cells, oneC]; first | done | omega) | ((simp only [List.mem_cons, List.not_mem_nil, or_false, gz]); omega) | rfl)) only [↓gsd, gs, ev, Nat.reduceAdd, Nat.reduceEqDiff, oneC, Value.cells, Option.isNone, gt, ↓hk7, e0, e1, e5, e6, e7, e8, e9, e10, e11, hvo1, d, t0, t1, Int.toNat_natCast, Nat.mul_one, hoob, hd1, d1, d2, hvp1, u0, u1, hpob, hd2, d3]
          refine hk' _ _ ⟨t + 1, by omega, ?_⟩ ?_
          · have e3 : g.at_ + (t : Int) + 1 = g.at_ + ((t + 1 : Nat) : Int) := by omega
            simp (maxSteps := 4000000) (disch := (first | assumption | exact List.not_mem_nil | ((repeat (first | assumption | apply cur_alloc | apply cur_setB | apply cur_drew | apply cur_drewN)); done) | omega | (simp only [gz, Value.cells, oneC]; first | done | omega) | ((simp only [List.mem_cons, List.not_mem_nil, or_false, gz]); omega) | rfl)) only [↓gsd, gs, ev, Nat.reduceAdd, Nat.reduceEqDiff, oneC, Value.cells, Option.isNone, e0, e1, e5, e6, e7, e8, e9, e10, e11, hvo1, hvp1, Int.natCast_add, Int.natCast_one]
            rw [e3]; simp
          · have e3 : ((t : Int) + 1).toNat = t + 1 := by omega
            simp (maxSteps := 4000000) (disch := (first | assumption | exact List.not_mem_nil | ((repeat (first | assumption | apply cur_alloc | apply cur_setB | apply cur_drew | apply cur_drewN)); done) | omega | (simp only [gz, Value.cells, oneC]; first | done | omega) | ((simp only [List.mem_cons, List.not_mem_nil, or_false, gz]); omega) | rfl)) only [↓gsd, gs, ev, Nat.reduceAdd, Nat.reduceEqDiff, oneC, Value.cells, Option.isNone, e11, numOf, Int.toNat_natCast, e3]; omega
        · have d : decide ((t : Int) < (os.length : Int)) = false := decide_eq_false (by omega)
          obtain rfl : t = os.length := by omega
          rw [← hat] at e6
          simp (maxSteps := 4000000) (disch := (first | assumption | exact List.not_mem_nil | ((repeat (first | assumption | apply cur_alloc | apply cur_setB | apply cur_drew | apply cur_drewN)); done) | omega | (simp only [gz, Value.cells, oneC]; first | done | omega) | ((simp only [List.mem_cons, List.not_mem_nil, or_false, gz]); omega) | rfl)) only [↓gsd, gs, ev, Nat.reduceAdd, Nat.reduceEqDiff, oneC, Value.cells, Option.isNone, gt, ↓hk7, e0, e1, e5, e6, e7, e8, e9, e10, e11, hvo, d]
          refine waitsI hg4 hwf4 fun vw w6 hw6 hf6 hfr6 => ?_
          have cw6 := cur w6
          have hz6 := hf6.size
          obtain ⟨va, vc, hvw⟩ := hw6.sl.form
          have hsw := sl_ints hw6
          have hlen := hwf4.len
          rw [hok.most, hgm'] at hlen
          have dM : decide (m < (g'.ws.length : Int)) = false := decide_eq_false (by omega)
          have dN : n ≤ 1099511627776 → decide (n = g'.at_ + 1) = false := fun hh => decide_eq_false (hok.ne hh)
          replace dN := dN (by omega)
          simp (maxSteps := 4000000) (disch := (first | assumption | exact List.not_mem_nil | ((repeat (first | assumption | apply cur_alloc | apply cur_setB | apply cur_drew | apply cur_drewN)); done) | omega | (simp only [gz, Value.cells, oneC]; first | done | omega) | ((simp only [List.mem_cons, List.not_mem_nil, or_false, gz]); omega) | rfl)) only [↓gsd, gs, ev, Nat.reduceAdd, Nat.reduceEqDiff, oneC, Value.cells, Option.isNone, gt, ↓hk7, e0, e1, e5, e6, e7, e8, e9, e10, e11]
          refine atI (hg4.frN hf6) ?_
          have fin : ∀ e' : Env, e' 0 = .int .u8 m → e' 1 = pv → e' 5 = .pointer (some ⟨gb, 0, none⟩) → e' 6 = .int .i64 g'.at_ → e' 7 = .int .i64 (i + 1) → k e' w6 := fun e' q0 q1 q5 q6 q7 => hkk e' w6 q0 q1 q5 q6 q7 hf6
          have dX : (decide (g'.at_ < n) = true ∧ g'.at_ < n) ∨ decide (g'.at_ < n) = false := by
            by_cases hx : g'.at_ < n
            · exact .inl ⟨decide_eq_true hx, hx⟩
            · exact .inr (decide_eq_false hx)
          cases over with
          | true =>
            obtain ⟨hos, hwe⟩ := hok.over rfl
            simp only at hos hwe
            have dW : decide (0 < (g'.ws.length : Int)) = false := by rw [hwe]; decide
            have dO : decide (0 < (os.length : Int)) = false := by rw [hos]; decide
            have dO' : decide ((os.length : Int) = 0) = true := by rw [hos]; decide
            rcases dX with ⟨dX, _⟩ | dX
            · simp (maxSteps := 4000000) (disch := (first | assumption | exact List.not_mem_nil | ((repeat (first | assumption | apply cur_alloc | apply cur_setB | apply cur_drew | apply cur_drewN)); done) | omega | (simp only [gz, Value.cells, oneC]; first | done | omega) | ((simp only [List.mem_cons, List.not_mem_nil, or_false, gz]); omega) | rfl)) only [↓gsd, gs, ev, Nat.reduceAdd, Nat.reduceEqDiff, oneC, Value.cells, Option.isNone, gt, ↓hk7, e0, e1, e5, e6, e7, e8, e9, e10, e11, hvw, dM, hvo, dN, dW, dO, dO', dX]
              exact fin _ (by simp (maxSteps := 4000000) (disch := (first | assumption | exact List.not_mem_nil | ((repeat (first | assumption | apply cur_alloc | apply cur_setB | apply cur_drew | apply cur_drewN)); done) | omega | (simp only [gz, Value.cells, oneC]; first | done | omega) | ((simp only [List.mem_cons, List.not_mem_nil, or_false, gz]); omega) | rfl)) only [↓gsd, gs, ev, Nat.reduceAdd, Nat.reduceEqDiff, oneC, Value.cells, Option.isNone, e0]) (by simp (maxSteps := 4000000) (disch := (first | assumption | exact List.not_mem_nil | ((repeat (first | assumption | apply cur_alloc | apply cur_setB | apply cur_drew | apply cur_drewN)); done) | omega | (simp only [gz, Value.cells, oneC]; first | done | omega) | ((simp only [List.mem_cons, List.not_mem_nil, or_false, gz]); omega) | rfl)) only [↓gsd, gs, ev, Nat.reduceAdd, Nat.reduceEqDiff, oneC, Value.cells, Option.isNone, e1]) (by simp (maxSteps := 4000000) (disch := (first | assumption | exact List.not_mem_nil | ((repeat (first | assumption | apply cur_alloc | apply cur_setB | apply cur_drew | apply cur_drewN)); done) | omega | (simp only [gz, Value.cells, oneC]; first | done | omega) | ((simp only [List.mem_cons, List.not_mem_nil, or_false, gz]); omega) | rfl)) only [↓gsd, gs, ev, Nat.reduceAdd, Nat.reduceEqDiff, oneC, Value.cells, Option.isNone, e5]) (by simp (maxSteps := 4000000) (disch := (first | assumption | exact List.not_mem_nil | ((repeat (first | assumption | apply cur_alloc | apply cur_setB | apply cur_drew | apply cur_drewN)); done) | omega | (simp only [gz, Value.cells, oneC]; first | done | omega) | ((simp only [List.mem_cons, List.not_mem_nil, or_false, gz]); omega) | rfl)) only [↓gsd, gs, ev, Nat.reduceAdd, Nat.reduceEqDiff, oneC, Value.cells, Option.isNone, e6]) (by simp (maxSteps := 4000000) (disch := (first | assumption | exact List.not_mem_nil | ((repeat (first | assumption | apply cur_alloc | apply cur_setB | apply cur_drew | apply cur_drewN)); done) | omega | (simp only [gz, Value.cells, oneC]; first | done | omega) | ((simp only [List.mem_cons, List.not_mem_nil, or_false, gz]); omega) | rfl)) only [↓gsd, gs, ev, Nat.reduceAdd, Nat.reduceEqDiff, oneC, Value.cells, Option.isNone, e7])
            · simp (maxSteps := 4000000) (disch := (first | assumption | exact List.not_mem_nil | ((repeat (first | assumption | apply cur_alloc | apply cur_setB | apply cur_drew | apply cur_drewN)); done) | omega | (simp only [gz, Value.cells, oneC]; first | done | omega) | ((simp only [List.mem_cons, List.not_mem_nil, or_false, gz]); omega) | rfl)) only [↓gsd, gs, ev, Nat.reduceAdd, Nat.reduceEqDiff, oneC, Value.cells, Option.isNone, gt, ↓hk7, e0, e1, e5, e6, e7, e8, e9, e10, e11, hvw, dM, hvo, dN, dW, dO, dO', dX]
              exact fin _ (by simp (maxSteps := 4000000) (disch := (first | assumption | exact List.not_mem_nil | ((repeat (first | assumption | apply cur_alloc | apply cur_setB | apply cur_drew | apply cur_drewN)); done) | omega | (simp only [gz, Value.cells, oneC]; first | done | omega) | ((simp only [List.mem_cons, List.not_mem_nil, or_false, gz]); omega) | rfl)) only [↓gsd, gs, ev, Nat.reduceAdd, Nat.reduceEqDiff, oneC, Value.cells, Option.isNone, e0]) (by simp (maxSteps := 4000000) (disch := (first | assumption | exact List.not_mem_nil | ((repeat (first | assumption | apply cur_alloc | apply cur_setB | apply cur_drew | apply cur_drewN)); done) | omega | (simp only [gz, Value.cells, oneC]; first | done | omega) | ((simp only [List.mem_cons, List.not_mem_nil, or_false, gz]); omega) | rfl)) only [↓gsd, gs, ev, Nat.reduceAdd, Nat.reduceEqDiff, oneC, Value.cells, Option.isNone, e1]) (by simp (maxSteps := 4000000) (disch := (first | assumption | exact List.not_mem_nil | ((repeat (first | assumption | apply cur_alloc | apply cur_setB | apply cur_drew | apply cur_drewN)); done) | omega | (simp only [gz, Value.cells, oneC]; first | done | omega) | ((simp only [List.mem_cons, List.not_mem_nil, or_false, gz]); omega) | rfl)) only [↓gsd, gs, ev, Nat.reduceAdd, Nat.reduceEqDiff, oneC, Value.cells, Option.isNone, e5]) (by simp (maxSteps := 4000000) (disch := (first | assumption | exact List.not_mem_nil | ((repeat (first | assumption | apply cur_alloc | apply cur_setB | apply cur_drew | apply cur_drewN)); done) | omega | (simp only [gz, Value.cells, oneC]; first | done | omega) | ((simp only [List.mem_cons, List.not_mem_nil, or_false, gz]); omega) | rfl)) only [↓gsd, gs, ev, Nat.reduceAdd, Nat.reduceEqDiff, oneC, Value.cells, Option.isNone, e6]) (by simp (maxSteps := 4000000) (disch := (first | assumption | exact List.not_mem_nil | ((repeat (first | assumption | apply cur_alloc | apply cur_setB | apply cur_drew | apply cur_drewN)); done) | omega | (simp only [gz, Value.cells, oneC]; first | done | omega) | ((simp only [List.mem_cons, List.not_mem_nil, or_false, gz]); omega) | rfl)) only [↓gsd, gs, ev, Nat.reduceAdd, Nat.reduceEqDiff, oneC, Value.cells, Option.isNone, e7])
          | false =>
            have dOx : (decide ((os.length : Int) = 0) = true ∧ os = []) ∨ decide ((os.length : Int) = 0) = false := by
              by_cases hx : os.length = 0
              · exact .inl ⟨decide_eq_true (by omega), List.eq_nil_of_length_eq_zero hx⟩
              · exact .inr (decide_eq_false (by omega))
            by_cases hwe : g'.ws.length = 0
            · have dW : decide (0 < (g'.ws.length : Int)) = false := decide_eq_false (by omega)
              rcases dOx with ⟨dO, hos⟩ | dO
              · rcases dX with ⟨dX, hx⟩ | dX
                · have := hok.stays hos hx rfl (by omega)
                  rw [List.eq_nil_of_length_eq_zero hwe] at this
                  simp at this
                · simp (maxSteps := 4000000) (disch := (first | assumption | exact List.not_mem_nil | ((repeat (first | assumption | apply cur_alloc | apply cur_setB | apply cur_drew | apply cur_drewN)); done) | omega | (simp only [gz, Value.cells, oneC]; first | done | omega) | ((simp only [List.mem_cons, List.not_mem_nil, or_false, gz]); omega) | rfl)) only [↓gsd, gs, ev, Nat.reduceAdd, Nat.reduceEqDiff, oneC, Value.cells, Option.isNone, gt, ↓hk7, e0, e1, e5, e6, e7, e8, e9, e10, e11, hvw, dM, hvo, dN, dW, dO, dX]
                  exact fin _ (by simp (maxSteps := 4000000) (disch := (first | assumption | exact List.not_mem_nil | ((repeat (first | assumption | apply cur_alloc | apply cur_setB | apply cur_drew | apply cur_drewN)); done) | omega | (simp only [gz, Value.cells, oneC]; first | done | omega) | ((simp only [List.mem_cons, List.not_mem_nil, or_false, gz]); omega) | rfl)) only [↓gsd, gs, ev, Nat.reduceAdd, Nat.reduceEqDiff, oneC, Value.cells, Option.isNone, e0]) (by simp (maxSteps := 4000000) (disch := (first | assumption | exact List.not_mem_nil | ((repeat (first | assumption | apply cur_alloc | apply cur_setB | apply cur_drew | apply cur_drewN)); done) | omega | (simp only [gz, Value.cells, oneC]; first | done | omega) | ((simp only [List.mem_cons, List.not_mem_nil, or_false, gz]); omega) | rfl)) only [↓gsd, gs, ev, Nat.reduceAdd, Nat.reduceEqDiff, oneC, Value.cells, Option.isNone, e1]) (by simp (maxSteps := 4000000) (disch := (first | assumption | exact List.not_mem_nil | ((repeat (first | assumption | apply cur_alloc | apply cur_setB | apply cur_drew | apply cur_drewN)); done) | omega | (simp only [gz, Value.cells, oneC]; first | done | omega) | ((simp only [List.mem_cons, List.not_mem_nil, or_false, gz]); omega) | rfl)) only [↓gsd, gs, ev, Nat.reduceAdd, Nat.reduceEqDiff, oneC, Value.cells, Option.isNone, e5]) (by simp (maxSteps := 4000000) (disch := (first | assumption | exact List.not_mem_nil | ((repeat (first | assumption | apply cur_alloc | apply cur_setB | apply cur_drew | apply cur_drewN)); done) | omega | (simp only [gz, Value.cells, oneC]; first | done | omega) | ((simp only [List.mem_cons, List.not_mem_nil, or_false, gz]); omega) | rfl)) only [↓gsd, gs, ev, Nat.reduceAdd, Nat.reduceEqDiff, oneC, Value.cells, Option.isNone, e6]) (by simp (maxSteps := 4000000) (disch := (first | assumption | exact List.not_mem_nil | ((repeat (first | assumption | apply cur_alloc | apply cur_setB | apply cur_drew | apply cur_drewN)); done) | omega | (simp only [gz, Value.cells, oneC]; first | done | omega) | ((simp only [List.mem_cons, List.not_mem_nil, or_false, gz]); omega) | rfl)) only [↓gsd, gs, ev, Nat.reduceAdd, Nat.reduceEqDiff, oneC, Value.cells, Option.isNone, e7])
              · simp (maxSteps := 4000000) (disch := (first | assumption | exact List.not_mem_nil | ((repeat (first | assumption | apply cur_alloc | apply cur_setB | apply cur_drew | apply cur_drewN)); done) | omega | (simp only [gz, Value.cells, oneC]; first | done | omega) | ((simp only [List.mem_cons, List.not_mem_nil, or_false, gz]); omega) | rfl)) only [↓gsd, gs, ev, Nat.reduceAdd, Nat.reduceEqDiff, oneC, Value.cells, Option.isNone, gt, ↓hk7, e0, e1, e5, e6, e7, e8, e9, e10, e11, hvw, dM, hvo, dN, dW, dO]
                exact fin _ (by simp (maxSteps := 4000000) (disch := (first | assumption | exact List.not_mem_nil | ((repeat (first | assumption | apply cur_alloc | apply cur_setB | apply cur_drew | apply cur_drewN)); done) | omega | (simp only [gz, Value.cells, oneC]; first | done | omega) | ((simp only [List.mem_cons, List.not_mem_nil, or_false, gz]); omega) | rfl)) only [↓gsd, gs, ev, Nat.reduceAdd, Nat.reduceEqDiff, oneC, Value.cells, Option.isNone, e0]) (by simp (maxSteps := 4000000) (disch := (first | assumption | exact List.not_mem_nil | ((repeat (first | assumption | apply cur_alloc | apply cur_setB | apply cur_drew | apply cur_drewN)); done) | omega | (simp only [gz, Value.cells, oneC]; first | done | omega) | ((simp only [List.mem_cons, List.not_mem_nil, or_false, gz]); omega) | rfl)) only [↓gsd, gs, ev, Nat.reduceAdd, Nat.reduceEqDiff, oneC, Value.cells, Option.isNone, e1]) (by simp (maxSteps := 4000000) (disch := (first | assumption | exact List.not_mem_nil | ((repeat (first | assumption | apply cur_alloc | apply cur_setB | apply cur_drew | apply cur_drewN)); done) | omega | (simp only [gz, Value.cells, oneC]; first | done | omega) | ((simp only [List.mem_cons, List.not_mem_nil, or_false, gz]); omega) | rfl)) only [↓gsd, gs, ev, Nat.reduceAdd, Nat.reduceEqDiff, oneC, Value.cells, Option.isNone, e5]) (by simp (maxSteps := 4000000) (disch := (first | assumption | exact List.not_mem_nil | ((repeat (first | assumption | apply cur_alloc | apply cur_setB | apply cur_drew | apply cur_drewN)); done) | omega | (simp only [gz, Value.cells, oneC]; first | done | omega) | ((simp only [List.mem_cons, List.not_mem_nil, or_false, gz]); omega) | rfl)) only [↓gsd, gs, ev, Nat.reduceAdd, Nat.reduceEqDiff, oneC, Value.cells, Option.isNone, e6]) (by simp (maxSteps := 4000000) (disch := (first | assumption | exact List.not_mem_nil | ((repeat (first | assumption | apply cur_alloc | apply cur_setB | apply cur_drew | apply cur_drewN)); done) | omega | (simp only [gz, Value.cells, oneC]; first | done | omega) | ((simp only [List.mem_cons, List.not_mem_nil, or_false, gz]); omega) | rfl)) only [↓gsd, gs, ev, Nat.reduceAdd, Nat.reduceEqDiff, oneC, Value.cells, Option.isNone, e7])
            · have dW : decide (0 < (g'.ws.length : Int)) = true := decide_eq_true (by omega)
              obtain ⟨y, hy⟩ : ∃ y, (sortI (g'.ws.map (·.1)))[0]? = some y := by
                have := sortI_len (g'.ws.map (·.1))
                rw [List.length_map] at this
                exact ⟨_, List.getElem?_eq_getElem (by omega)⟩
              have hym := (sortI_mem _ _).1 (List.mem_of_getElem? hy)
              obtain ⟨q, hq, hqy⟩ := List.mem_map.1 hym
              have hrq := hwf4.rng q hq
              have dY : decide (y ≤ g'.at_ + 1) = false := decide_eq_false (by omega)
              obtain ⟨bw, ow, cw', wob, hvw1, hwob, _, _, hwc⟩ := hsw.read (fun _ => rfl) 0 y hy
              have hd1 := fun orig K => hwc 0 (.int .i64 y) orig K rfl
              simp only [Nat.zero_mul, Nat.add_zero] at hd1
              rw [sortI_len, List.length_map] at hvw1
              have i0' : (0 : Int) ≤ (0 : Int) := by omega
              have i1' : (0 : Int) < (g'.ws.length : Int) := by omega
              rcases dOx with ⟨dO, hos⟩ | dO
              · rcases dX with ⟨dX, hx⟩ | dX
                · have hin := hok.stays hos hx rfl (by omega)
                  simp (maxSteps := 4000000) (disch := (first | assumption | exact List.not_mem_nil | ((repeat (first | assumption | apply cur_alloc | apply cur_setB | apply cur_drew | apply cur_drewN)); done) | omega | (simp only [gz, Value.cells, oneC]; first | done | omega) | ((simp only [List.mem_cons, List.not_mem_nil, or_false, gz]); omega) | rfl)) only [↓gsd, gs, ev, Nat.reduceAdd, Nat.reduceEqDiff, oneC, Value.cells, Option.isNone, gt, ↓hk7, e0, e1, e5, e6, e7, e8, e9, e10, e11, hvw1, dM, hvo, dN,dW, dO, dX, dY, i0', i1', Int.toNat_zero, Nat.zero_mul, Nat.add_zero, hwob, hd1]
                  rw [← hvw1]
                  refine isin_spec hsw (by rw [sortI_len, List.length_map]; omega) ((sortI_mem _ _).2 hin) ?_
                  simp (maxSteps := 4000000) (disch := (first | assumption | exact List.not_mem_nil | ((repeat (first | assumption | apply cur_alloc | apply cur_setB | apply cur_drew | apply cur_drewN)); done) | omega | (simp only [gz, Value.cells, oneC]; first | done | omega) | ((simp only [List.mem_cons, List.not_mem_nil, or_false, gz]); omega) | rfl)) only [↓gsd, gs, ev, Nat.reduceAdd, Nat.reduceEqDiff, oneC, Value.cells, Option.isNone, gt, ↓hk7, e0, e1, e5, e6, e7, e8, e9, e10, e11, hvw1, dM, hvo, dN, dW]
                  exact fin _ (by simp (maxSteps := 4000000) (disch := (first | assumption | exact List.not_mem_nil | ((repeat (first | assumption | apply cur_alloc | apply cur_setB | apply cur_drew | apply cur_drewN)); done) | omega | (simp only [gz, Value.cells, oneC]; first | done | omega) | ((simp only [List.mem_cons, List.not_mem_nil, or_false, gz]); omega) | rfl)) only [↓gsd, gs, ev, Nat.reduceAdd, Nat.reduceEqDiff, oneC, Value.cells, Option.isNone, e0]) (by simp (maxSteps := 4000000) (disch := (first | assumption | exact List.not_mem_nil | ((repeat (first | assumption | apply cur_alloc | apply cur_setB | apply cur_drew | apply cur_drewN)); done) | omega | (simp only [gz, Value.cells, oneC]; first | done | omega) | ((simp only [List.mem_cons, List.not_mem_nil, or_false, gz]); omega) | rfl)) only [↓gsd, gs, ev, Nat.reduceAdd, Nat.reduceEqDiff, oneC, Value.cells, Option.isNone, e1]) (by simp (maxSteps := 4000000) (disch := (first | assumption | exact List.not_mem_nil | ((repeat (first | assumption | apply cur_alloc | apply cur_setB | apply cur_drew | apply cur_drewN)); done) | omega | (simp only [gz, Value.cells, oneC]; first | done | omega) | ((simp only [List.mem_cons, List.not_mem_nil, or_false, gz]); omega) | rfl)) only [↓gsd, gs, ev, Nat.reduceAdd, Nat.reduceEqDiff, oneC, Value.cells, Option.isNone, e5]) (by simp (maxSteps := 4000000) (disch := (first | assumption | exact List.not_mem_nil | ((repeat (first | assumption | apply cur_alloc | apply cur_setB | apply cur_drew | apply cur_drewN)); done) | omega | (simp only [gz, Value.cells, oneC]; first | done | omega) | ((simp only [List.mem_cons, List.not_mem_nil, or_false, gz]); omega) | rfl)) only [↓gsd, gs, ev, Nat.reduceAdd, Nat.reduceEqDiff, oneC, Value.cells, Option.isNone, e6]) (by simp (maxSteps := 4000000) (disch := (first | assumption | exact List.not_mem_nil | ((repeat (first | assumption | apply cur_alloc | apply cur_setB | apply cur_drew | apply cur_drewN)); done) | omega | (simp only [gz, Value.cells, oneC]; first | done | omega) | ((simp only [List.mem_cons, List.not_mem_nil, or_false, gz]); omega) | rfl)) only [↓gsd, gs, ev, Nat.reduceAdd, Nat.reduceEqDiff, oneC, Value.cells, Option.isNone, e7])
                · simp (maxSteps := 4000000) (disch := (first | assumption | exact List.not_mem_nil | ((repeat (first | assumption | apply cur_alloc | apply cur_setB | apply cur_drew | apply cur_drewN)); done) | omega | (simp only [gz, Value.cells, oneC]; first | done | omega) | ((simp only [List.mem_cons, List.not_mem_nil, or_false, gz]); omega) | rfl)) only [↓gsd, gs, ev, Nat.reduceAdd, Nat.reduceEqDiff, oneC, Value.cells, Option.isNone, gt, ↓hk7, e0, e1, e5, e6, e7, e8, e9, e10, e11, hvw1, dM, hvo, dN, dW, dO, dX, dY, i0', i1', Int.toNat_zero, Nat.zero_mul, Nat.add_zero, hwob, hd1]
                  exact fin _ (by simp (maxSteps := 4000000) (disch := (first | assumption | exact List.not_mem_nil | ((repeat (first | assumption | apply cur_alloc | apply cur_setB | apply cur_drew | apply cur_drewN)); done) | omega | (simp only [gz, Value.cells, oneC]; first | done | omega) | ((simp only [List.mem_cons, List.not_mem_nil, or_false, gz]); omega) | rfl)) only [↓gsd, gs, ev, Nat.reduceAdd, Nat.reduceEqDiff, oneC, Value.cells, Option.isNone, e0]) (by simp (maxSteps := 4000000) (disch := (first | assumption | exact List.not_mem_nil | ((repeat (first | assumption | apply cur_alloc | apply cur_setB | apply cur_drew | apply cur_drewN)); done) | omega | (simp only [gz, Value.cells, oneC]; first | done | omega) | ((simp only [List.mem_cons, List.not_mem_nil, or_false, gz]); omega) | rfl)) only [↓gsd, gs, ev, Nat.reduceAdd, Nat.reduceEqDiff, oneC, Value.cells, Option.isNone, e1]) (by simp (maxSteps := 4000000) (disch := (first | assumption | exact List.not_mem_nil | ((repeat (first | assumption | apply cur_alloc | apply cur_setB | apply cur_drew | apply cur_drewN)); done) | omega | (simp only [gz, Value.cells, oneC]; first | done | omega) | ((simp only [List.mem_cons, List.not_mem_nil, or_false, gz]); omega) | rfl)) only [↓gsd, gs, ev, Nat.reduceAdd, Nat.reduceEqDiff, oneC, Value.cells, Option.isNone, e5]) (by simp (maxSteps := 4000000) (disch := (first | assumption | exact List.not_mem_nil | ((repeat (first | assumption | apply cur_alloc | apply cur_setB | apply cur_drew | apply cur_drewN)); done) | omega | (simp only [gz, Value.cells, oneC]; first | done | omega) | ((simp only [List.mem_cons, List.not_mem_nil, or_false, gz]); omega) | rfl)) only [↓gsd, gs, ev, Nat.reduceAdd, Nat.reduceEqDiff, oneC, Value.cells, Option.isNone, e6]) (by simp (maxSteps := 4000000) (disch := (first | assumption | exact List.not_mem_nil | ((repeat (first | assumption | apply cur_alloc | apply cur_setB | apply cur_drew | apply cur_drewN)); done) | omega | (simp only [gz, Value.cells, oneC]; first | done | omega) | ((simp only [List.mem_cons, List.not_mem_nil, or_false, gz]); omega) | rfl)) only [↓gsd, gs, ev, Nat.reduceAdd, Nat.reduceEqDiff, oneC, Value.cells, Option.isNone, e7])
              · simp (maxSteps := 4000000) (disch := (first | assumption | exact List.not_mem_nil | ((repeat (first | assumption | apply cur_alloc | apply cur_setB | apply cur_drew | apply cur_drewN)); done) | omega | (simp only [gz, Value.cells, oneC]; first | done | omega) | ((simp only [List.mem_cons, List.not_mem_nil, or_false, gz]); omega) | rfl)) only [↓gsd, gs, ev, Nat.reduceAdd, Nat.reduceEqDiff, oneC, Value.cells, Option.isNone, gt, ↓hk7, e0, e1, e5, e6, e7, e8, e9, e10, e11, hvw1, dM, hvo, dN, dW, dO, dY, i0', i1', Int.toNat_zero, Nat.zero_mul, Nat.add_zero, hwob, hd1]
                exact fin _ (by simp (maxSteps := 4000000) (disch := (first | assumption | exact List.not_mem_nil | ((repeat (first | assumption | apply cur_alloc | apply cur_setB | apply cur_drew | apply cur_drewN)); done) | omega | (simp only [gz, Value.cells, oneC]; first | done | omega) | ((simp only [List.mem_cons, List.not_mem_nil, or_false, gz]); omega) | rfl)) only [↓gsd, gs, ev, Nat.reduceAdd, Nat.reduceEqDiff, oneC, Value.cells, Option.isNone, e0]) (by simp (maxSteps := 4000000) (disch := (first | assumption | exact List.not_mem_nil | ((repeat (first | assumption | apply cur_alloc | apply cur_setB | apply cur_drew | apply cur_drewN)); done) | omega | (simp only [gz, Value.cells, oneC]; first | done | omega) | ((simp only [List.mem_cons, List.not_mem_nil, or_false, gz]); omega) | rfl)) only [↓gsd, gs, ev, Nat.reduceAdd, Nat.reduceEqDiff, oneC, Value.cells, Option.isNone, e1]) (by simp (maxSteps := 4000000) (disch := (first | assumption | exact List.not_mem_nil | ((repeat (first | assumption | apply cur_alloc | apply cur_setB | apply cur_drew | apply cur_drewN)); done) | omega | (simp only [gz, Value.cells, oneC]; first | done | omega) | ((simp only [List.mem_cons, List.not_mem_nil, or_false, gz]); omega) | rfl)) only [↓gsd, gs, ev, Nat.reduceAdd, Nat.reduceEqDiff, oneC, Value.cells, Option.isNone, e5]) (by simp (maxSteps := 4000000) (disch := (first | assumption | exact List.not_mem_nil | ((repeat (first | assumption | apply cur_alloc | apply cur_setB | apply cur_drew | apply cur_drewN)); done) | omega | (simp only [gz, Value.cells, oneC]; first | done | omega) | ((simp only [List.mem_cons, List.not_mem_nil, or_false, gz]); omega) | rfl)) only [↓gsd, gs, ev, Nat.reduceAdd, Nat.reduceEqDiff, oneC, Value.cells, Option.isNone, e6]) (by simp (maxSteps := 4000000) (disch := (first | assumption | exact List.not_mem_nil | ((repeat (first | assumption | apply cur_alloc | apply cur_setB | apply cur_drew | apply cur_drewN)); done) | omega | (simp only [gz, Value.cells, oneC]; first | done | omega) | ((simp only [List.mem_cons, List.not_mem_nil, or_false, gz]); omega) | rfl)) only [↓gsd, gs, ev, Nat.reduceAdd, Nat.reduceEqDiff, oneC, Value.cells, Option.isNone, e7])
    · have el : decide ((i : Int) < (ps.length : Int)) = false := decide_eq_false (by omega)
      simp (maxSteps := 4000000) (disch := (first | assumption | exact List.not_mem_nil | ((repeat (first | assumption | apply cur_alloc | apply cur_setB | apply cur_drew | apply cur_drewN)); done) | omega | (simp only [gz, Value.cells, oneC]; first | done | omega) | ((simp only [List.mem_cons, List.not_mem_nil, or_false, gz]); omega) | rfl)) only [↓gsd, gs, ev, Nat.reduceAdd, Nat.reduceEqDiff, oneC, Value.cells, Option.isNone, gt, ↓hk7, e0, e1, e5, e6, e7, hpv, el]
      exact hK _ (hfin _ hf)
end Go.Proofs.Ytenokheiindfkaa
