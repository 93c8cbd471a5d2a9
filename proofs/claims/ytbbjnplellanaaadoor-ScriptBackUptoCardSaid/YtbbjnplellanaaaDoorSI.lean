/- A step's line, as the program reads it: the whole. A step's line, as the program reads it: number and call. A step's line as the program reads it: the call. -/
import Derived.Test.YtbbjnplellanaaaDoorSF
set_option linter.unusedVariables false
set_option linter.unusedSimpArgs false
set_option maxRecDepth 10000
namespace Go.Proofs.YtbbjnplellanaaaDoor
open Go.VW
section
variable {f : Form} {s : Stp} {ws : List Bs} {W0 w : World} {e : Env} {fb rb sb : Nat} {wv : Value} {K : Value → World → Prop}
set_option maxHeartbeats 8000000 in
theorem rest_spec (e1 : e 1 = wv) (e2 : e 2 = .pointer (some ⟨fb, 0, none⟩)) (e4 : e 4 = .pointer (some ⟨rb, 0, none⟩)) (e6 : e 6 = .pointer (some ⟨sb, 0, none⟩))
  (hfb : w.heap[fb]? = some (.cells (encForm f).toArray 53 (0, 0))) (hrb : w.heap[rb]? = some (.cells zeroCells.toArray 33 (0, 0))) (hsb : w.heap[sb]? = some (.cells (encStp (s, none, 0, 0)).toArray 33 (0, 0)))
  (n1 : sb ≠ rb) (hf : Fr [] W0 w) (h2 : W0.heap.size ≤ rb) (h3 : W0.heap.size ≤ sb) (hs0 : s.ws = []) (hrf : f.rf ≤ 2)
  (hw : SlOf 1 encB w wv ws) (hwo : offV wv sb) (hm : MaxL W0) (hl : ∀ x ∈ ws, x.length ≤ 65536) (hn : ws.length ≤ 65537)
  (hK : ∀ x ok w', Fr [] W0 w' → ResS (restF f s ws) x ok w' → K (.tuple #[.agg (encStp x).toArray, .bool ok]) w') :
  W3 Tryd.prog 86 V18 c18_4 (retQ Tryd.prog [.cell 4 33, .tmp 5] K) e w := by
 have cw := cur w
 obtain ⟨a, c, hv⟩ := hw.form
 have hrl := lt_of_get _ _ hrb
 have hsl := lt_of_get _ _ hsb
 have hfl := lt_of_get _ _ hfb
 have nil0 : ∀ w', Own 3 60 w' (.slice none 0 0) s.ws.length (cellsOf encWr s.ws) := fun w' => by rw [hs0]; exact Own.nil
 have hfb0 := hfb
 have hrb0 := hrb
 have hsb0 := hsb
 unfold encForm at hfb
 unfold zeroCells at hrb
 unfold encStp at hsb
 unfold restF at hK
 by_cases hr0 : f.rf = 0
 ·rw [if_neg (by simp [hr0])] at hK
  have hrv : rfV f.rf = .nilFunc := by rw [hr0]; rfl
  rw [hrv] at hfb
  by_cases hk2 : f.kind = 2
  ·rw [if_neg (by simp [hk2])] at hK
   have d : decide ((f.kind : Int) = 2) = true := decide_eq_true (by omega)
   simp (maxSteps:=4000000)(disch:=first|assumption|(simp only[dz];first|done|assumption|omega)|omega|apply_rules[Fr.refl,Fr.alloc,Fr.drew]|rfl) only [↓gd,gp,Nat.reduceAdd,Nat.reduceEqDiff, ↓c18_7_s, ↓c18_14_s, ↓c18_19_s, ↓c18_22_s, ↓c18_21_s, ↓c18_20_s, ↓c18_18_s, ↓c18_17_s, ↓c18_16_s, ↓c18_15_s, ↓c18_13_s, ↓c18_23_s, ↓c18_12_s, ↓c18_11_s, ↓c18_10_s, ↓c18_9_s, ↓c18_8_s, ↓c18_26_s, ↓c18_25_s, ↓c18_24_s, ↓c18_5_s, ↓c18_31_s, ↓c18_30_s, ↓c18_34_s, ↓c18_33_s, ↓c18_32_s, ↓c18_29_s, ↓c18_28_s, ↓c18_27_s, ↓c18_4_s, ↓c18_41_s, ↓c18_40_s, ↓c18_44_s, ↓c18_43_s, ↓c18_42_s, ↓c18_39_s, ↓c18_38_s, ↓c18_47_s, ↓c18_46_s, ↓c18_45_s, ↓c18_37_s, ↓c18_36_s, ↓c18_35_s, ↓c18_3_s, ↓c18_2_s, ↓c18_1_s, ↓c18_s, ↓w3t_18, e1, e2, e4, e6, hfb, ne51n, d]
   exact commit_spec e1 e4 e6 hrb0 hsb0 n1 hf h2 h3 hs0 hw hwo hm hl hn hK
  ·rw [if_pos hk2] at hK
   have d : decide ((f.kind : Int) = 2) = false := decide_eq_false (by omega)
   by_cases hws : ws = []
   ·have dl : decide ((ws.length : Int) = 0) = true := by subst hws; rfl
    rw [if_pos hws] at hK
    simp (maxSteps:=4000000)(disch:=first|assumption|(simp only[dz];first|done|assumption|omega)|omega|apply_rules[Fr.refl,Fr.alloc,Fr.drew]|rfl) only [↓gd,gp,Nat.reduceAdd,Nat.reduceEqDiff, ↓hk18, e1, e2, e4, e6, hfb, hrb, hsb, ne51n, d, hv, dl]
    exact hK (s, none, 0, 0) _ _ (hf.setB _ _ (.inr h2)) (.inl ⟨rfl, rfl, nil0 _⟩)
   ·have dl : decide ((ws.length : Int) = 0) = false := decide_eq_false (fun h => hws (List.eq_nil_of_length_eq_zero (by omega)))
    rw [if_neg hws] at hK
    simp (maxSteps:=4000000)(disch:=first|assumption|(simp only[dz];first|done|assumption|omega)|omega|apply_rules[Fr.refl,Fr.alloc,Fr.drew]|rfl) only [↓gd,gp,Nat.reduceAdd,Nat.reduceEqDiff, ↓hk18, e1, e2, e4, e6, hfb, hrb, hsb, ne51n, d, hv, dl]
    exact hK (s, none, 0, 0) _ _ (hf.setB _ _ (.inr h2)) (.inr ⟨rfl, rfl⟩)
 ·rw [if_pos hr0] at hK
  by_cases h1 : ws.length = 1
  ·obtain ⟨x, hx⟩ : ∃ x, ws = [x] := List.length_eq_one_iff.1 h1
   have dl : decide ((ws.length : Int) = 1) = true := decide_eq_true (by omega)
   obtain ⟨bb, off, cap, ob, hv1, hob1, hbl, _, hcell⟩ := hw.read encB_len 0 x (by rw [hx]; rfl)
   have hc0 := fun orig K => hcell 0 (.string (B x)) orig K rfl
   simp only [Nat.add_zero, Nat.zero_mul, Nat.mul_one] at hc0
   have i1 : (0 : Int) < (ws.length : Int) := by omega
   rw [hx] at hK
   have h12 : f.rf = 1 ∨ f.rf = 2 := by omega
   rcases h12 with h | h
   ·have hrv : rfV f.rf = .func (.func 31) #[] #[] := by rw [h]; rfl
    rw [hrv] at hfb
    rw [h] at hK
    simp (maxSteps:=4000000)(disch:=first|assumption|(simp only[dz];first|done|assumption|omega)|omega|apply_rules[Fr.refl,Fr.alloc,Fr.drew]|rfl) only [↓gd,gp,Nat.reduceAdd,Nat.reduceEqDiff, ↓hk18, e1, e2, e4, e6, hfb, hrb, hsb, ne51, hv1, dl, Int.le_refl, i1, Int.toNat_zero, Nat.zero_mul, Nat.add_zero, hob1, hc0, xcF5]
    refine f5_spec ?_
    have cw1 := cur w.drew
    simp (maxSteps:=4000000)(disch:=first|assumption|(simp only[dz];first|done|assumption|omega)|omega|apply_rules[Fr.refl,Fr.alloc,Fr.drew]|rfl) only [↓gd,gp,Nat.reduceAdd,Nat.reduceEqDiff, ↓hk18, e1, e2, e4, e6, hfb, hrb, hsb]
    exact hK (setR 1 x s, none, 0, 0) _ _ ((hf.drew.setB _ _ (.inr h3)).setB _ _ (.inr h2)) (.inl ⟨rfl, rfl, nil0 _⟩)
   ·have hrv : rfV f.rf = .func (.func 32) #[] #[] := by rw [h]; rfl
    rw [hrv] at hfb
    rw [h] at hK
    simp (maxSteps:=4000000)(disch:=first|assumption|(simp only[dz];first|done|assumption|omega)|omega|apply_rules[Fr.refl,Fr.alloc,Fr.drew]|rfl) only [↓gd,gp,Nat.reduceAdd,Nat.reduceEqDiff, ↓hk18, e1, e2, e4, e6, hfb, hrb, hsb, ne51, hv1, dl, Int.le_refl, i1, Int.toNat_zero, Nat.zero_mul, Nat.add_zero, hob1, hc0, xcF6]
    refine f6_spec ?_
    have cw1 := cur w.drew
    simp (maxSteps:=4000000)(disch:=first|assumption|(simp only[dz];first|done|assumption|omega)|omega|apply_rules[Fr.refl,Fr.alloc,Fr.drew]|rfl) only [↓gd,gp,Nat.reduceAdd,Nat.reduceEqDiff, ↓hk18, e1, e2, e4, e6, hfb, hrb, hsb]
    exact hK (setR 2 x s, none, 0, 0) _ _ ((hf.drew.setB _ _ (.inr h3)).setB _ _ (.inr h2)) (.inl ⟨rfl, rfl, nil0 _⟩)
  ·have dl : decide ((ws.length : Int) = 1) = false := decide_eq_false (by omega)
   rw [oneR_not h1] at hK
   have hrv : ∃ g, rfV f.rf = .func g #[] #[] := by
    have : f.rf = 1 ∨ f.rf = 2 := by omega
    rcases this with h | h <;> rw [h] <;> exact ⟨_, rfl⟩
   obtain ⟨g, hrv⟩ := hrv
   rw [hrv] at hfb
   simp (maxSteps:=4000000)(disch:=first|assumption|(simp only[dz];first|done|assumption|omega)|omega|apply_rules[Fr.refl,Fr.alloc,Fr.drew]|rfl) only [↓gd,gp,Nat.reduceAdd,Nat.reduceEqDiff, ↓hk18, e1, e2, e4, e6, hfb, hrb, hsb, ne51, hv, dl]
   exact hK (s, none, 0, 0) _ _ (hf.setB _ _ (.inr h2)) (.inr ⟨rfl, rfl⟩)
end
end Go.Proofs.YtbbjnplellanaaaDoor
namespace Go.Proofs.YtbbjnplellanaaaDoor
open Go.VW
theorem offV_fresh {k n : Nat} {w : World} {v : Value} {cs : List Value} (h : Sl k w v n cs) (hn : 0 < n) {b : Nat} (hb : w.heap.size ≤ b) : offV v b := by
 obtain ⟨g, off, cap, rfl, hg⟩ := h.lt hn
 intro a m c he
 simp only [Value.slice.injEq, Option.some.injEq] at he
 obtain ⟨rfl, _⟩ := he
 simp only; omega
theorem sl_cons {w : World} {v : Value} {x : Bs} {r : List Bs} (h : Sl 1 w v ((x :: r).length - 1) ((cellsOf encB (x :: r)).drop (1 * 1))) : SlOf 1 encB w v r := by
 have e : (cellsOf encB (x :: r)).drop (1 * 1) = cellsOf encB r := rfl
 rw [e] at h; exact h
section
variable {f : Form} {ws : List Bs} {W0 w : World} {e : Env} {fb rb sb : Nat} {wv : Value} {K : Value → World → Prop}
set_option maxHeartbeats 16000000 in
theorem num_part (e1 : e 1 = wv) (e2 : e 2 = .pointer (some ⟨fb, 0, none⟩)) (e4 : e 4 = .pointer (some ⟨rb, 0, none⟩)) (e6 : e 6 = .pointer (some ⟨sb, 0, none⟩))
  (hfb : w.heap[fb]? = some (.cells (encForm f).toArray 53 (0, 0))) (hrb : w.heap[rb]? = some (.cells zeroCells.toArray 33 (0, 0))) (hsb : w.heap[sb]? = some (.cells (encStp (Stp.zero f.kind, none, 0, 0)).toArray 33 (0, 0)))
  (n1 : sb ≠ rb) (n2 : sb ≠ fb) (hf : Fr [] W0 w) (h2 : W0.heap.size ≤ rb) (h3 : W0.heap.size ≤ sb) (hnf : f.nf ≤ 4) (hrf : f.rf ≤ 2)
  (hw : SlOf 1 encB w wv ws) (hwo : offV wv sb) (hcap : ∀ a m c, wv = .slice a m c → m ≤ c) (hm : MaxL W0) (hl : ∀ x ∈ ws, x.length ≤ 65536) (hn : ws.length ≤ 65536)
  (hK : ∀ x ok w', Fr [] W0 w' → ResS (stepF f ws) x ok w' → K (.tuple #[.agg (encStp x).toArray, .bool ok]) w') :
  W3 Tryd.prog 86 V18 c18_3 (retQ Tryd.prog [.cell 4 33, .tmp 5] K) e w := by
 have cw := cur w
 obtain ⟨a, c, hv⟩ := hw.form
 have hrl := lt_of_get _ _ hrb
 have hsl := lt_of_get _ _ hsb
 have hfl := lt_of_get _ _ hfb
 have hfb0 := hfb
 have hrb0 := hrb
 have hsb0 := hsb
 unfold encForm at hfb
 unfold zeroCells at hrb
 unfold encStp at hsb
 unfold stepF at hK
 by_cases hr0 : f.nf = 0
 ·rw [if_pos hr0] at hK
  have hrv : nfV f.nf = .nilFunc := by rw [hr0]; rfl
  rw [hrv] at hfb
  simp (maxSteps:=4000000)(disch:=first|assumption|(simp only[dz];first|done|assumption|omega)|omega|apply_rules[Fr.refl,Fr.alloc,Fr.drew]|rfl) only [↓gd,gp,Nat.reduceAdd,Nat.reduceEqDiff, ↓c18_7_s, ↓c18_14_s, ↓c18_19_s, ↓c18_22_s, ↓c18_21_s, ↓c18_20_s, ↓c18_18_s, ↓c18_17_s, ↓c18_16_s, ↓c18_15_s, ↓c18_13_s, ↓c18_23_s, ↓c18_12_s, ↓c18_11_s, ↓c18_10_s, ↓c18_9_s, ↓c18_8_s, ↓c18_6_s, ↓c18_26_s, ↓c18_25_s, ↓c18_24_s, ↓c18_5_s, ↓c18_31_s, ↓c18_30_s, ↓c18_34_s, ↓c18_33_s, ↓c18_32_s, ↓c18_29_s, ↓c18_28_s, ↓c18_27_s, ↓c18_41_s, ↓c18_40_s, ↓c18_44_s, ↓c18_43_s, ↓c18_42_s, ↓c18_39_s, ↓c18_38_s, ↓c18_47_s, ↓c18_46_s, ↓c18_45_s, ↓c18_37_s, ↓c18_36_s, ↓c18_35_s, ↓c18_3_s, ↓c18_2_s, ↓c18_1_s, ↓c18_s, ↓w3t_18, e1, e2, e4, e6, hfb, ne50n]
  exact rest_spec e1 e2 e4 e6 hfb0 hrb0 hsb0 n1 hf h2 h3 rfl hrf hw hwo hm hl (by omega) hK
 ·rw [if_neg hr0] at hK
  have hrv : ∃ g, nfV f.nf = .func g #[] #[] := by
   have : f.nf = 1 ∨ f.nf = 2 ∨ f.nf = 3 ∨ f.nf = 4 := by omega
   rcases this with h | h | h | h <;> rw [h] <;> exact ⟨_, rfl⟩
  obtain ⟨g, hrv⟩ := hrv
  cases ws with
  | nil =>
    have dl : decide (((([] : List Bs)).length : Int) = 0) = true := rfl
    rw [hrv] at hfb
    simp (maxSteps:=4000000)(disch:=first|assumption|(simp only[dz];first|done|assumption|omega)|omega|apply_rules[Fr.refl,Fr.alloc,Fr.drew]|rfl) only [↓gd,gp,Nat.reduceAdd,Nat.reduceEqDiff, ↓hk18, e1, e2, e4, e6, hfb, hrb, hsb, ne50, hv, dl]
    exact hK (Stp.zero f.kind, none, 0, 0) _ _ (hf.setB _ _ (.inr h2)) (.inr ⟨rfl, rfl⟩)
  | cons x r =>
    have dl : decide (((x :: r).length : Int) = 0) = false := decide_eq_false (by simp only [List.length_cons]; omega)
    obtain ⟨bb, off, cap, ob, hv1, hob1, hbl, _, hcell⟩ := hw.read encB_len 0 x rfl
    have hc0 := fun orig K => hcell 0 (.string (B x)) orig K rfl
    simp only [Nat.add_zero, Nat.zero_mul, Nat.mul_one] at hc0
    have i1 : (0 : Int) < ((x :: r).length : Int) := by simp only [List.length_cons]; omega
    obtain ⟨L, hL⟩ : ∃ L, L = (x :: r).length := ⟨_, rfl⟩
    rw [← hL] at dl hv1 i1
    have hrv0 := hrv
    rw [hrv] at hfb
    simp (maxSteps:=4000000)(disch:=first|assumption|(simp only[dz];first|done|assumption|omega)|omega|apply_rules[Fr.refl,Fr.alloc,Fr.drew]|rfl) only [↓gd,gp,Nat.reduceAdd,Nat.reduceEqDiff, ↓hk18, e1, e2, e4, e6, hfb, hrb, hsb, ne50, hv1, dl, Int.le_refl, i1, Int.toNat_zero, Nat.zero_mul, Nat.add_zero, hob1, hc0]
    refine number_spec fun w2 hf2 => ?_
    have cw2 := cur w2
    have hfb2 := hf2.getN hfb
    have hrb2 := hf2.getN hrb
    have hsb2 := hf2.getN hsb
    have hf02 := hf.trans' hf2
    have hsl2 := lt_of_get _ _ hsb2
    have hrl2 := lt_of_get _ _ hrb2
    simp only [numR] at hK
    unfold numRes
    cases hq : numO x with
    | none =>
      rw [hq] at hK
      simp (maxSteps:=4000000)(disch:=first|assumption|(simp only[dz];first|done|assumption|omega)|omega|apply_rules[Fr.refl,Fr.alloc,Fr.drew]|rfl) only [↓gd,gp,Nat.reduceAdd,Nat.reduceEqDiff, ↓hk18, e1, e2, e4, e6, hfb2, hrb2, hsb2]
      exact hK (Stp.zero f.kind, none, 0, 0) _ _ (hf02.setB _ _ (.inr h2)) (.inr ⟨rfl, rfl⟩)
    | some n =>
      rw [hq] at hK
      simp only [Option.bind_some] at hK
      have hw2 : SlOf 1 encB w2 wv (x :: r) := hw.frN hf2
      have h1234 : f.nf = 1 ∨ f.nf = 2 ∨ f.nf = 3 ∨ f.nf = 4 := by omega
      rcases h1234 with h | h | h | h
      ·have hgg : g = .func 27 := by
        rw [h] at hrv
        simp only [nfV, Value.func.injEq] at hrv
        exact hrv.1.symm
       subst hgg
       rw [h] at hK
       simp (maxSteps:=4000000)(disch:=first|assumption|(simp only[dz];first|done|assumption|omega)|omega|apply_rules[Fr.refl,Fr.alloc,Fr.drew]|rfl) only [↓gd,gp,Nat.reduceAdd,Nat.reduceEqDiff, ↓hk18, e1, e2, e4, e6, hfb2, xcF1]
       refine f1_spec ?_
       obtain ⟨w4, hw4⟩ : ∃ w4, w4 = w2.setB sb (.cells (encStp (setN 1 n (Stp.zero f.kind), none, 0, 0)).toArray 33 (0, 0)) := ⟨_, rfl⟩
       have hf4 : Fr [sb] w2 w4 := by rw [hw4]; exact (Fr.refl _ _).setB _ _ (.inl (by simp))
       have hf04 : Fr [] W0 w4 := hf02.trans hf4 (by intro z hz; simp at hz; subst hz; exact .inr h3)
       have hw4' : SlOf 1 encB w4 wv (x :: r) := hw2.fr hf4 (by intro b hb; simp at hb; subst hb; exact hwo)
       obtain ⟨v5, hr5, hs5, hcap5, ho5⟩ := run_cut_low Tryd.runUnderlying47 Tryd.sizeOf9 hw4' hcap .i64 1 (by simp)
       rw [hv1] at hr5
       have hr5' : (Instr.sliceAt 47 (.slice (some ⟨bb, off, none⟩) L cap) (some (.int .i64 1)) none none).run Tryd.prog w4 = .ok v5 w4 := hr5
       rw [hw4] at hr5'
       simp only [encStp, setN, Stp.zero] at hr5'
       simp only [Stp.zero] at hsb2
       simp (maxSteps:=4000000)(disch:=first|assumption|(simp only[dz];first|done|assumption|omega)|omega|apply_rules[Fr.refl,Fr.alloc,Fr.drew]|rfl) only [↓gd,gp,Nat.reduceAdd,Nat.reduceEqDiff, ↓c18_7_s, ↓c18_14_s, ↓c18_19_s, ↓c18_22_s, ↓c18_21_s, ↓c18_20_s, ↓c18_18_s, ↓c18_17_s, ↓c18_16_s, ↓c18_15_s, ↓c18_13_s, ↓c18_23_s, ↓c18_12_s, ↓c18_11_s, ↓c18_10_s, ↓c18_9_s, ↓c18_8_s, ↓c18_6_s, ↓c18_26_s, ↓c18_25_s, ↓c18_24_s, ↓c18_5_s, ↓c18_31_s, ↓c18_30_s, ↓c18_34_s, ↓c18_33_s, ↓c18_32_s, ↓c18_29_s, ↓c18_28_s, ↓c18_27_s, ↓c18_41_s, ↓c18_40_s, ↓c18_44_s, ↓c18_43_s, ↓c18_42_s, ↓c18_39_s, ↓c18_38_s, ↓c18_47_s, ↓c18_46_s, ↓c18_45_s, ↓c18_37_s, ↓c18_36_s, ↓c18_35_s, ↓c18_3_s, ↓c18_2_s, ↓c18_1_s, ↓c18_s, ↓w3t_18, e1, e2, e4, e6, hfb2, hsb2, hv1, hr5']
       have hg4 : ∀ b, b ≠ sb → w4.heap[b]? = w2.heap[b]? := fun b hb => by rw [hw4, get_setB_ne _ _ _ _ (Ne.symm hb)]
       have hfin := rest_spec (f := f) (s := setN 1 n (Stp.zero f.kind)) (K := K) (W0 := W0) (w := w4) (wv := v5) (ws := r) (e := Env.p (Env.p (Env.p (Env.p (Env.p (Env.p e 20 (.bool true)) 23 (.bool false)) 7 (.int .i64 n)) 8 (.bool true)) 33 (.bool false)) 1 v5) (fb := fb) (rb := rb) (sb := sb) rfl e2 e4 e6 (by rw [hg4 _ (Ne.symm n2)]; exact hf2.getN hfb0) (by rw [hg4 _ (Ne.symm n1)]; exact hf2.getN hrb0) (by rw [hw4]; exact get_setB_same _ _ _ hsl2) n1 hf04 h2 h3 rfl hrf (sl_cons hs5) (ho5 _ hwo) hm (fun y hy => hl y (List.mem_cons_of_mem _ hy)) (by simp only [List.length_cons] at hn; omega) hK
       rw [hw4] at hfin
       exact hfin
      ·have hgg : g = .func 28 := by
        rw [h] at hrv
        simp only [nfV, Value.func.injEq] at hrv
        exact hrv.1.symm
       subst hgg
       rw [h] at hK
       simp (maxSteps:=4000000)(disch:=first|assumption|(simp only[dz];first|done|assumption|omega)|omega|apply_rules[Fr.refl,Fr.alloc,Fr.drew]|rfl) only [↓gd,gp,Nat.reduceAdd,Nat.reduceEqDiff, ↓hk18, e1, e2, e4, e6, hfb2, xcF2]
       refine f2_spec ?_
       obtain ⟨w4, hw4⟩ : ∃ w4, w4 = w2.setB sb (.cells (encStp (setN 2 n (Stp.zero f.kind), none, 0, 0)).toArray 33 (0, 0)) := ⟨_, rfl⟩
       have hf4 : Fr [sb] w2 w4 := by rw [hw4]; exact (Fr.refl _ _).setB _ _ (.inl (by simp))
       have hf04 : Fr [] W0 w4 := hf02.trans hf4 (by intro z hz; simp at hz; subst hz; exact .inr h3)
       have hw4' : SlOf 1 encB w4 wv (x :: r) := hw2.fr hf4 (by intro b hb; simp at hb; subst hb; exact hwo)
       obtain ⟨v5, hr5, hs5, hcap5, ho5⟩ := run_cut_low Tryd.runUnderlying47 Tryd.sizeOf9 hw4' hcap .i64 1 (by simp)
       rw [hv1] at hr5
       have hr5' : (Instr.sliceAt 47 (.slice (some ⟨bb, off, none⟩) L cap) (some (.int .i64 1)) none none).run Tryd.prog w4 = .ok v5 w4 := hr5
       rw [hw4] at hr5'
       simp only [encStp, setN, Stp.zero] at hr5'
       simp only [Stp.zero] at hsb2
       simp (maxSteps:=4000000)(disch:=first|assumption|(simp only[dz];first|done|assumption|omega)|omega|apply_rules[Fr.refl,Fr.alloc,Fr.drew]|rfl) only [↓gd,gp,Nat.reduceAdd,Nat.reduceEqDiff, ↓c18_7_s, ↓c18_14_s, ↓c18_19_s, ↓c18_22_s, ↓c18_21_s, ↓c18_20_s, ↓c18_18_s, ↓c18_17_s, ↓c18_16_s, ↓c18_15_s, ↓c18_13_s, ↓c18_23_s, ↓c18_12_s, ↓c18_11_s, ↓c18_10_s, ↓c18_9_s, ↓c18_8_s, ↓c18_6_s, ↓c18_26_s, ↓c18_25_s, ↓c18_24_s, ↓c18_5_s, ↓c18_31_s, ↓c18_30_s, ↓c18_34_s, ↓c18_33_s, ↓c18_32_s, ↓c18_29_s, ↓c18_28_s, ↓c18_27_s, ↓c18_41_s, ↓c18_40_s, ↓c18_44_s, ↓c18_43_s, ↓c18_42_s, ↓c18_39_s, ↓c18_38_s, ↓c18_47_s, ↓c18_46_s, ↓c18_45_s, ↓c18_37_s, ↓c18_36_s, ↓c18_35_s, ↓c18_3_s, ↓c18_2_s, ↓c18_1_s, ↓c18_s, ↓w3t_18, e1, e2, e4, e6, hfb2, hsb2, hv1, hr5']
       have hg4 : ∀ b, b ≠ sb → w4.heap[b]? = w2.heap[b]? := fun b hb => by rw [hw4, get_setB_ne _ _ _ _ (Ne.symm hb)]
       have hfin := rest_spec (f := f) (s := setN 2 n (Stp.zero f.kind)) (K := K) (W0 := W0) (w := w4) (wv := v5) (ws := r) (e := Env.p (Env.p (Env.p (Env.p (Env.p (Env.p e 20 (.bool true)) 23 (.bool false)) 7 (.int .i64 n)) 8 (.bool true)) 33 (.bool false)) 1 v5) (fb := fb) (rb := rb) (sb := sb) rfl e2 e4 e6 (by rw [hg4 _ (Ne.symm n2)]; exact hf2.getN hfb0) (by rw [hg4 _ (Ne.symm n1)]; exact hf2.getN hrb0) (by rw [hw4]; exact get_setB_same _ _ _ hsl2) n1 hf04 h2 h3 rfl hrf (sl_cons hs5) (ho5 _ hwo) hm (fun y hy => hl y (List.mem_cons_of_mem _ hy)) (by simp only [List.length_cons] at hn; omega) hK
       rw [hw4] at hfin
       exact hfin
      ·have hgg : g = .func 29 := by
        rw [h] at hrv
        simp only [nfV, Value.func.injEq] at hrv
        exact hrv.1.symm
       subst hgg
       rw [h] at hK
       simp (maxSteps:=4000000)(disch:=first|assumption|(simp only[dz];first|done|assumption|omega)|omega|apply_rules[Fr.refl,Fr.alloc,Fr.drew]|rfl) only [↓gd,gp,Nat.reduceAdd,Nat.reduceEqDiff, ↓hk18, e1, e2, e4, e6, hfb2, xcF3]
       refine f3_spec ?_
       obtain ⟨w4, hw4⟩ : ∃ w4, w4 = w2.setB sb (.cells (encStp (setN 3 n (Stp.zero f.kind), none, 0, 0)).toArray 33 (0, 0)) := ⟨_, rfl⟩
       have hf4 : Fr [sb] w2 w4 := by rw [hw4]; exact (Fr.refl _ _).setB _ _ (.inl (by simp))
       have hf04 : Fr [] W0 w4 := hf02.trans hf4 (by intro z hz; simp at hz; subst hz; exact .inr h3)
       have hw4' : SlOf 1 encB w4 wv (x :: r) := hw2.fr hf4 (by intro b hb; simp at hb; subst hb; exact hwo)
       obtain ⟨v5, hr5, hs5, hcap5, ho5⟩ := run_cut_low Tryd.runUnderlying47 Tryd.sizeOf9 hw4' hcap .i64 1 (by simp)
       rw [hv1] at hr5
       have hr5' : (Instr.sliceAt 47 (.slice (some ⟨bb, off, none⟩) L cap) (some (.int .i64 1)) none none).run Tryd.prog w4 = .ok v5 w4 := hr5
       rw [hw4] at hr5'
       simp only [encStp, setN, Stp.zero] at hr5'
       simp only [Stp.zero] at hsb2
       simp (maxSteps:=4000000)(disch:=first|assumption|(simp only[dz];first|done|assumption|omega)|omega|apply_rules[Fr.refl,Fr.alloc,Fr.drew]|rfl) only [↓gd,gp,Nat.reduceAdd,Nat.reduceEqDiff, ↓c18_7_s, ↓c18_14_s, ↓c18_19_s, ↓c18_22_s, ↓c18_21_s, ↓c18_20_s, ↓c18_18_s, ↓c18_17_s, ↓c18_16_s, ↓c18_15_s, ↓c18_13_s, ↓c18_23_s, ↓c18_12_s, ↓c18_11_s, ↓c18_10_s, ↓c18_9_s, ↓c18_8_s, ↓c18_6_s, ↓c18_26_s, ↓c18_25_s, ↓c18_24_s, ↓c18_5_s, ↓c18_31_s, ↓c18_30_s, ↓c18_34_s, ↓c18_33_s, ↓c18_32_s, ↓c18_29_s, ↓c18_28_s, ↓c18_27_s, ↓c18_41_s, ↓c18_40_s, ↓c18_44_s, ↓c18_43_s, ↓c18_42_s, ↓c18_39_s, ↓c18_38_s, ↓c18_47_s, ↓c18_46_s, ↓c18_45_s, ↓c18_37_s, ↓c18_36_s, ↓c18_35_s, ↓c18_3_s, ↓c18_2_s, ↓c18_1_s, ↓c18_s, ↓w3t_18, e1, e2, e4, e6, hfb2, hsb2, hv1, hr5']
       have hg4 : ∀ b, b ≠ sb → w4.heap[b]? = w2.heap[b]? := fun b hb => by rw [hw4, get_setB_ne _ _ _ _ (Ne.symm hb)]
       have hfin := rest_spec (f := f) (s := setN 3 n (Stp.zero f.kind)) (K := K) (W0 := W0) (w := w4) (wv := v5) (ws := r) (e := Env.p (Env.p (Env.p (Env.p (Env.p (Env.p e 20 (.bool true)) 23 (.bool false)) 7 (.int .i64 n)) 8 (.bool true)) 33 (.bool false)) 1 v5) (fb := fb) (rb := rb) (sb := sb) rfl e2 e4 e6 (by rw [hg4 _ (Ne.symm n2)]; exact hf2.getN hfb0) (by rw [hg4 _ (Ne.symm n1)]; exact hf2.getN hrb0) (by rw [hw4]; exact get_setB_same _ _ _ hsl2) n1 hf04 h2 h3 rfl hrf (sl_cons hs5) (ho5 _ hwo) hm (fun y hy => hl y (List.mem_cons_of_mem _ hy)) (by simp only [List.length_cons] at hn; omega) hK
       rw [hw4] at hfin
       exact hfin
      ·have hgg : g = .func 30 := by
        rw [h] at hrv
        simp only [nfV, Value.func.injEq] at hrv
        exact hrv.1.symm
       subst hgg
       rw [h] at hK
       simp (maxSteps:=4000000)(disch:=first|assumption|(simp only[dz];first|done|assumption|omega)|omega|apply_rules[Fr.refl,Fr.alloc,Fr.drew]|rfl) only [↓gd,gp,Nat.reduceAdd,Nat.reduceEqDiff, ↓hk18, e1, e2, e4, e6, hfb2, xcF4]
       refine f4_spec ?_
       obtain ⟨w4, hw4⟩ : ∃ w4, w4 = w2.setB sb (.cells (encStp (setN 4 n (Stp.zero f.kind), none, 0, 0)).toArray 33 (0, 0)) := ⟨_, rfl⟩
       have hf4 : Fr [sb] w2 w4 := by rw [hw4]; exact (Fr.refl _ _).setB _ _ (.inl (by simp))
       have hf04 : Fr [] W0 w4 := hf02.trans hf4 (by intro z hz; simp at hz; subst hz; exact .inr h3)
       have hw4' : SlOf 1 encB w4 wv (x :: r) := hw2.fr hf4 (by intro b hb; simp at hb; subst hb; exact hwo)
       obtain ⟨v5, hr5, hs5, hcap5, ho5⟩ := run_cut_low Tryd.runUnderlying47 Tryd.sizeOf9 hw4' hcap .i64 1 (by simp)
       rw [hv1] at hr5
       have hr5' : (Instr.sliceAt 47 (.slice (some ⟨bb, off, none⟩) L cap) (some (.int .i64 1)) none none).run Tryd.prog w4 = .ok v5 w4 := hr5
       rw [hw4] at hr5'
       simp only [encStp, setN, Stp.zero] at hr5'
       simp only [Stp.zero] at hsb2
       simp (maxSteps:=4000000)(disch:=first|assumption|(simp only[dz];first|done|assumption|omega)|omega|apply_rules[Fr.refl,Fr.alloc,Fr.drew]|rfl) only [↓gd,gp,Nat.reduceAdd,Nat.reduceEqDiff, ↓c18_7_s, ↓c18_14_s, ↓c18_19_s, ↓c18_22_s, ↓c18_21_s, ↓c18_20_s, ↓c18_18_s, ↓c18_17_s, ↓c18_16_s, ↓c18_15_s, ↓c18_13_s, ↓c18_23_s, ↓c18_12_s, ↓c18_11_s, ↓c18_10_s, ↓c18_9_s, ↓c18_8_s, ↓c18_6_s, ↓c18_26_s, ↓c18_25_s, ↓c18_24_s, ↓c18_5_s, ↓c18_31_s, ↓c18_30_s, ↓c18_34_s, ↓c18_33_s, ↓c18_32_s, ↓c18_29_s, ↓c18_28_s, ↓c18_27_s, ↓c18_41_s, ↓c18_40_s, ↓c18_44_s, ↓c18_43_s, ↓c18_42_s, ↓c18_39_s, ↓c18_38_s, ↓c18_47_s, ↓c18_46_s, ↓c18_45_s, ↓c18_37_s, ↓c18_36_s, ↓c18_35_s, ↓c18_3_s, ↓c18_2_s, ↓c18_1_s, ↓c18_s, ↓w3t_18, e1, e2, e4, e6, hfb2, hsb2, hv1, hr5']
       have hg4 : ∀ b, b ≠ sb → w4.heap[b]? = w2.heap[b]? := fun b hb => by rw [hw4, get_setB_ne _ _ _ _ (Ne.symm hb)]
       have hfin := rest_spec (f := f) (s := setN 4 n (Stp.zero f.kind)) (K := K) (W0 := W0) (w := w4) (wv := v5) (ws := r) (e := Env.p (Env.p (Env.p (Env.p (Env.p (Env.p e 20 (.bool true)) 23 (.bool false)) 7 (.int .i64 n)) 8 (.bool true)) 33 (.bool false)) 1 v5) (fb := fb) (rb := rb) (sb := sb) rfl e2 e4 e6 (by rw [hg4 _ (Ne.symm n2)]; exact hf2.getN hfb0) (by rw [hg4 _ (Ne.symm n1)]; exact hf2.getN hrb0) (by rw [hw4]; exact get_setB_same _ _ _ hsl2) n1 hf04 h2 h3 rfl hrf (sl_cons hs5) (ho5 _ hwo) hm (fun y hy => hl y (List.mem_cons_of_mem _ hy)) (by simp only [List.length_cons] at hn; omega) hK
       rw [hw4] at hfin
       exact hfin
end
end Go.Proofs.YtbbjnplellanaaaDoor
namespace Go.Proofs.YtbbjnplellanaaaDoor
open Go.VW
set_option maxHeartbeats 8000000 in
theorem step_spec {f : Form} {w0 : Bs} {r : List Bs} {w : World} {wv : Value} {K : Value → World → Prop} (hnf : f.nf ≤ 4) (hrf : f.rf ≤ 2) (hw : SlOf 1 encB w wv (w0 :: r)) (hcap : ∀ a m c, wv = .slice a m c → m ≤ c) (hm : MaxL w) (hl : ∀ x ∈ r, x.length ≤ 65536) (hn : r.length ≤ 65536)
  (hK : ∀ x ok w', Fr [] w w' → ResS (stepF f r) x ok w' → K (.tuple #[.agg (encStp x).toArray, .bool ok]) w') : CallsN Tryd.prog 18 [.agg (encForm f).toArray, wv] w K := by
 have cw := cur w
 obtain ⟨a, c, hv⟩ := hw.form
 obtain ⟨L, hL⟩ : ∃ L, L = (w0 :: r).length := ⟨_, rfl⟩
 rw [← hL] at hv
 obtain ⟨w3, hw3⟩ : ∃ w3, w3 = ((w.alloc (.cells (encForm f).toArray 53 (0, 0))).alloc (.cells zeroCells.toArray 33 (0, 0))).alloc (.cells (encStp (Stp.zero f.kind, none, 0, 0)).toArray 33 (0, 0)) := ⟨_, rfl⟩
 have hf3 : Fr [] w w3 := by rw [hw3]; exact (((Fr.refl _ _).alloc _).alloc _).alloc _
 obtain ⟨v5, hr5, hs5, hcap5, ho5⟩ := run_cut_low Tryd.runUnderlying47 Tryd.sizeOf9 (hw.frN hf3) hcap .i64 1 (by simp)
 have hr5' : (Instr.sliceAt 47 wv (some (.int .i64 1)) none none).run Tryd.prog w3 = .ok v5 w3 := hr5
 rw [hw3, hv] at hr5'
 have e0 : (⟨#[]⟩ : ByteArray) = B [] := rfl
 simp only [encStp, Stp.zero, encForm, zeroCells, e0] at hr5'
 have hof := offV_fresh hw (by simp) (b := w.heap.size + 1 + 1) (by omega)
 refine call18 ?_
 simp (maxSteps:=4000000)(disch:=first|assumption|(simp only[dz];first|done|assumption|omega)|omega|apply_rules[Fr.refl,Fr.alloc,Fr.drew]|rfl) only [↓gd,gp,Nat.reduceAdd,Nat.reduceEqDiff, ↓c18_7_s, ↓c18_14_s, ↓c18_19_s, ↓c18_22_s, ↓c18_21_s, ↓c18_20_s, ↓c18_18_s, ↓c18_17_s, ↓c18_16_s, ↓c18_15_s, ↓c18_13_s, ↓c18_23_s, ↓c18_12_s, ↓c18_11_s, ↓c18_10_s, ↓c18_9_s, ↓c18_8_s, ↓c18_6_s, ↓c18_26_s, ↓c18_25_s, ↓c18_24_s, ↓c18_5_s, ↓c18_31_s, ↓c18_30_s, ↓c18_34_s, ↓c18_33_s, ↓c18_32_s, ↓c18_29_s, ↓c18_28_s, ↓c18_27_s, ↓c18_4_s, ↓c18_41_s, ↓c18_40_s, ↓c18_44_s, ↓c18_43_s, ↓c18_42_s, ↓c18_39_s, ↓c18_38_s, ↓c18_47_s, ↓c18_46_s, ↓c18_45_s, ↓c18_37_s, ↓c18_36_s, ↓c18_35_s, ↓c18_2_s, ↓c18_1_s, ↓c18_s, ↓w3t_18, encForm, hv, e0, hr5']
 have g1 : w3.heap[w.heap.size]? = some (.cells (encForm f).toArray 53 (0, 0)) := by
  rw [hw3, get_alloc_old _ _ _ (by simp only [size_alloc]; omega), get_alloc_old _ _ _ (by simp only [size_alloc]; omega)]; exact get_alloc_new _ _
 have g2 : w3.heap[w.heap.size + 1]? = some (.cells zeroCells.toArray 33 (0, 0)) := by
  rw [hw3, get_alloc_old _ _ _ (by simp only [size_alloc]; omega)]
  have := get_alloc_new (w.alloc (.cells (encForm f).toArray 53 (0, 0))) (.cells zeroCells.toArray 33 (0, 0))
  rw [size_alloc] at this; exact this
 have g3 : w3.heap[w.heap.size + 1 + 1]? = some (.cells (encStp (Stp.zero f.kind, none, 0, 0)).toArray 33 (0, 0)) := by
  have := get_alloc_new ((w.alloc (.cells (encForm f).toArray 53 (0, 0))).alloc (.cells zeroCells.toArray 33 (0, 0))) (.cells (encStp (Stp.zero f.kind, none, 0, 0)).toArray 33 (0, 0))
  rw [size_alloc, size_alloc] at this; rw [hw3]; exact this
 have hfin := num_part (f := f) (W0 := w) (w := w3) (ws := r) (wv := v5) (K := K) (e := Env.p (Env.p (Env.p (Env.p (Env.p (argE [.agg (encForm f).toArray, .slice a L c]) 2 (.pointer (some ⟨w.heap.size, 0, none⟩))) 4 (.pointer (some ⟨w.heap.size + 1, 0, none⟩))) 5 (.bool false)) 6 (.pointer (some ⟨w.heap.size + 1 + 1, 0, none⟩))) 1 v5) (fb := w.heap.size) (rb := w.heap.size + 1) (sb := w.heap.size + 1 + 1) rfl rfl rfl rfl g1 g2 g3 (by omega) (by omega) hf3 (by omega) (by omega) hnf hrf (sl_cons hs5) (ho5 _ hof) hcap5 hm hl hn hK
 rw [hw3] at hfin
 simp only [encStp, Stp.zero, encForm, zeroCells, e0] at hfin
 exact hfin
end Go.Proofs.YtbbjnplellanaaaDoor
