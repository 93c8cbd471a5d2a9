/- There and back: steps that Parse gives, and texts. Plain law. -/
import Derived.Test.YtbbjnplellanaaaDoorQH
set_option linter.unusedVariables false
set_option linter.unusedSimpArgs false
set_option maxRecDepth 100000
namespace Go.Proofs.YtbbjnplellanaaaDoor
open Go.VW
theorem mk_kind {f : Form} (hf : f ∈ formsL) (n : Int) (x : Bs) (ws : List Wr) : (mkS f n x ws).kind = (f.kind : Int) := by
 simp only [formsL, List.mem_cons, List.not_mem_nil, or_false] at hf
 rcases hf with rfl | rfl | rfl | rfl | rfl | rfl | rfl | rfl | rfl | rfl | rfl | rfl | rfl | rfl | rfl | rfl <;> rfl
theorem mk_bare {f : Form} (hf : f ∈ formsL) (n : Int) (x : Bs) (ws : List Wr) : bareF f (mkS f n x ws) = mkS f n x ws := by
 simp only [formsL, List.mem_cons, List.not_mem_nil, or_false] at hf
 rcases hf with rfl | rfl | rfl | rfl | rfl | rfl | rfl | rfl | rfl | rfl | rfl | rfl | rfl | rfl | rfl | rfl <;> rfl
theorem mk_good {f : Form} (hf : f ∈ formsL) {n : Int} {x : Bs} {ws : List Wr} (h : GoodP f n x ws) : GoodP f ((mkS f n x ws).getN f.nf) ((mkS f n x ws).getR f.rf) (mkS f n x ws).ws := by
 simp only [formsL, List.mem_cons, List.not_mem_nil, or_false] at hf
 rcases hf with rfl | rfl | rfl | rfl | rfl | rfl | rfl | rfl | rfl | rfl | rfl | rfl | rfl | rfl | rfl | rfl
 all_goals
  refine ⟨?_, ?_, ?_⟩
  ·first | exact fun h0 => absurd rfl h0 | exact h.1
  ·first | exact fun h0 => absurd rfl h0 | exact h.2.1
  ·first | exact h.2.2 | exact fun h2 => absurd h2 (by decide)
theorem mk_fits {f : Form} (hf : f ∈ formsL) {n : Int} {x : Bs} {ws : List Wr} (h1 : x.length ≤ 65536) (h2 : ws.length ≤ 70000) (h3 : ∀ w ∈ ws, WrLe 65536 w) : Fits (mkS f n x ws) := by
 have a1 : x.length ≤ 2097152 := by omega
 have a2 : ws.length ≤ 2097152 := by omega
 have a3 : ∀ w ∈ ws, w.key.length ≤ 2097152 ∧ w.data.length ≤ 2097152 := fun w hw => by have := h3 w hw; unfold WrLe at this; omega
 simp only [formsL, List.mem_cons, List.not_mem_nil, or_false] at hf
 rcases hf with rfl | rfl | rfl | rfl | rfl | rfl | rfl | rfl | rfl | rfl | rfl | rfl | rfl | rfl | rfl | rfl
 all_goals
  refine ⟨?_, ?_, ?_, ?_⟩
  ·first | exact Nat.zero_le _ | exact a1
  ·first | exact Nat.zero_le _ | exact a1
  ·first | exact Nat.zero_le _ | exact a2
  ·first | exact a3 | exact fun y hy => absurd hy List.not_mem_nil
structure Good (s : Stp) : Prop where
 line : ∃ l, lineS s = some l
 bare : bareS s = s
 fits : Fits s
theorem bare_of {f : Form} {s : Stp} (hf : f ∈ formsL) (h : s.kind = (f.kind : Int)) : formsL[(s.kind - 1).toNat]? = some f ∧ 1 ≤ s.kind ∧ s.kind ≤ 16 := by
 obtain ⟨_, _, _, _, f5, f6, f7⟩ := form_facts f hf
 rw [h, show ((f.kind : Int) - 1).toNat = f.kind - 1 by omega]
 exact ⟨f7, by omega, by omega⟩
theorem mk_Good {f : Form} (hf : f ∈ formsL) {n : Int} {x : Bs} {ws : List Wr} (h : GoodP f n x ws) (h1 : x.length ≤ 65536) (h2 : ws.length ≤ 70000) (h3 : ∀ w ∈ ws, WrLe 65536 w) : Good (mkS f n x ws) := by
 obtain ⟨g1, g2, g3⟩ := bare_of hf (mk_kind hf n x ws)
 refine ⟨?_, ?_, mk_fits hf h1 h2 h3⟩
 ·obtain ⟨l, hl⟩ := lineF_ok hf (mk_good hf h)
  exact ⟨l, by unfold lineS; rw [if_pos ⟨g2, g3⟩, g1]; exact hl⟩
 ·unfold bareS; rw [g1]; exact mk_bare hf n x ws
def Sz (l : Bs) : Prop := PlainW l ∧ l.length ≤ 65536
theorem rest_good {f : Form} {t s : Stp} {r : List Bs} (hl : ∀ l ∈ r, Sz l) (hn : r.length ≤ 70000) (h : restF f t r = some s) :
  ∃ x ws, s = (if f.rf ≠ 0 then setR f.rf x t else if f.kind ≠ 2 then t else { t with ws := ws }) ∧ (f.rf ≠ 0 → PlainW x) ∧ (∀ w ∈ ws, wOK w = true) ∧ x.length ≤ 65536 ∧ ws.length ≤ 70000 ∧ ∀ w ∈ ws, WrLe 65536 w := by
 unfold restF at h
 by_cases q : f.rf ≠ 0
 ·rw [if_pos q] at h
  match r, h with
  | [x], h =>
    have hx := hl x (by simp)
    refine ⟨x, [], ?_, fun _ => hx.1, fun w hw => (by cases hw), hx.2, Nat.zero_le _, fun w hw => (by cases hw)⟩
    rw [if_pos q]; exact (Option.some.inj h).symm
 ·rw [if_neg q] at h
  by_cases q2 : f.kind ≠ 2
  ·rw [if_pos q2] at h
   split at h
   ·refine ⟨[], [], ?_, fun h => absurd h q, fun w hw => (by cases hw), Nat.zero_le _, Nat.zero_le _, fun w hw => (by cases hw)⟩
    rw [if_neg q, if_pos q2]; exact (Option.some.inj h).symm
   ·cases h
  ·rw [if_neg q2] at h
   cases hw : writesO r with
   | none => rw [hw] at h; cases h
   | some ws =>
     rw [hw] at h
     obtain ⟨g1, g2⟩ := writes_good r ws hl hw
     refine ⟨[], ws, ?_, fun h => absurd h q, fun w hw => (g1 w hw).1, Nat.zero_le _, by omega, fun w hw => (g1 w hw).2⟩
     rw [if_neg q, if_neg q2]; exact (Option.some.inj h).symm
theorem step_good {w : Bs} {r : List Bs} {s : Stp} (hl : ∀ l ∈ r, Sz l) (hn : r.length ≤ 70000) (h : stepO (w :: r) = some s) : Good s := by
 have h' : ((formsL.find? fun g => decide (g.word = w)).bind fun g => stepF g r) = some s := h
 cases hf : formsL.find? fun g => decide (g.word = w) with
 | none => rw [hf] at h'; cases h'
 | some f =>
   rw [hf] at h'
   have hm : f ∈ formsL := List.mem_of_find?_eq_some hf
   have h2 : stepF f r = some s := h'
   unfold stepF at h2
   by_cases q : f.nf = 0
   ·rw [if_pos q] at h2
    obtain ⟨x, ws, e, g1, g2, g3, g4, g5⟩ := rest_good hl hn h2
    have e' : s = mkS f 0 x ws := by unfold mkS; rw [if_pos q]; exact e
    rw [e']
    exact mk_Good hm ⟨fun h0 => absurd q h0, g1, fun _ => g2⟩ g3 g4 g5
   ·rw [if_neg q] at h2
    cases r with
    | nil => cases h2
    | cons y r =>
      rw [numR] at h2
      cases hy : numO y with
      | none => rw [hy] at h2; cases h2
      | some n =>
        rw [hy] at h2
        obtain ⟨x, ws, e, g1, g2, g3, g4, g5⟩ := rest_good (fun l hl' => hl l (by simp [hl'])) (by simp only [List.length_cons] at hn; omega) (show restF f (setN f.nf n (Stp.zero f.kind)) r = some s from h2)
        have e' : s = mkS f n x ws := by unfold mkS; rw [if_neg q]; exact e
        rw [e']
        exact mk_Good hm ⟨fun _ => numO_bd hy, g1, fun _ => g2⟩ g3 g4 g5
theorem scan_mem : ∀ (ls : List Bs) (ss : List Stp), scan ls = .inr ss → ∀ s ∈ ss, ∃ l ∈ ls, lineO l = some (some s)
 | [], ss, h, s, hs => by rw [scan] at h; cases h; cases hs
 | l :: r, ss, h, s, hs => by
   rw [scan] at h
   cases hl : lineO l with
   | none => rw [hl] at h; cases h
   | some o =>
     cases o with
     | none =>
       rw [hl] at h
       simp only at h
       cases hr : scan r with
       | inl j => rw [hr] at h; cases h
       | inr t =>
         rw [hr] at h; simp only [Sum.inr.injEq] at h; subst h
         obtain ⟨l', h1, h2⟩ := scan_mem r t hr s hs
         exact ⟨l', by simp [h1], h2⟩
     | some u =>
       rw [hl] at h
       simp only at h
       cases hr : scan r with
       | inl j => rw [hr] at h; cases h
       | inr t =>
         rw [hr] at h; simp only [Sum.inr.injEq] at h; subst h
         rcases List.mem_cons.1 hs with rfl | hs'
         ·exact ⟨l, by simp, hl⟩
         ·obtain ⟨l', h1, h2⟩ := scan_mem r t hr s hs'
          exact ⟨l', by simp [h1], h2⟩
theorem parse_good (t : Bs) : ∀ s ∈ (parseL t).1, Good s := by
 intro s hs
 by_cases h : 65536 < t.length
 ·unfold parseL at hs; rw [if_pos h] at hs; cases hs
 ·rw [parse_scan (by omega)] at hs
  cases hc : scan (splitL 10 t) with
  | inl j => rw [hc] at hs; cases hs
  | inr ss =>
    rw [hc] at hs
    have hs' : s ∈ ss := by simpa [scanR] using hs
    obtain ⟨l, h1, h2⟩ := scan_mem _ ss hc s hs'
    have hl10 : ∀ x ∈ l, x ≠ 10 := fun x hx => (split_none 10 t l h1 x hx).1
    have hll := splitL_mem 10 t l h1
    have hwl := wordsL_len l
    have hw : ∀ w ∈ wordsL l, Sz w := fun w hw => ⟨words_plain hl10 hw, by have := (wordsL_mem hw).1; omega⟩
    unfold lineO at h2
    cases hws : wordsL l with
    | nil => rw [hws] at h2; cases h2
    | cons w r =>
      rw [hws] at h2 hw hwl
      simp only at h2
      split at h2
      ·cases h2
      ·simp only [List.length_cons] at hwl
       refine step_good (w := w) (r := r) (fun l hl => hw l (by simp [hl])) (by omega) ?_
       cases hst : stepO (w :: r) with
       | none => rw [hst] at h2; cases h2
       | some u => rw [hst] at h2; simp only [Option.map_some, Option.some.injEq] at h2; rw [h2]
theorem parse_err (t : Bs) (h : (parseL t).2.2 ≠ 0) : (parseL t).1 = [] := by
 by_cases hb : 65536 < t.length
 ·unfold parseL; rw [if_pos hb]
 ·rw [parse_scan (by omega)] at h ⊢
  cases hc : scan (splitL 10 t) with
  | inl j => rfl
  | inr ss => rw [hc] at h; exact absurd rfl h
/-! ### Texts -/
theorem textGo_big : ∀ (ss : List Stp) (i : Nat) (out : Bs), 65536 < out.length → (textGo ss i out).2.2 ≠ 0
 | [], i, out, h => by rw [textGo, if_pos h]; decide
 | s :: r, i, out, h => by
   rw [textGo]
   cases hl : lineS s with
   | none => simp
   | some l =>
     simp only
     rw [if_neg (by omega)]
     exact textGo_big r (i + 1) out h
theorem textGo_ok : ∀ (ss : List Stp) (i : Nat) (out : Bs), (textGo ss i out).2.2 = 0 → ∃ body : Bs, (textGo ss i out).1 = out ++ body ∧ scan (splitL 10 body) = .inr (ss.map bareS) ∧ (textGo ss i out).1.length ≤ 65536
 | [], i, out, h => by
   rw [textGo] at h ⊢
   by_cases q : 65536 < out.length
   ·rw [if_pos q] at h; cases h
   ·rw [if_neg q]
    exact ⟨[], by simp, by decide +kernel, by show out.length ≤ 65536; omega⟩
 | s :: r, i, out, h => by
   rw [textGo] at h ⊢
   cases hl : lineS s with
   | none => rw [hl] at h; cases h
   | some l =>
     rw [hl] at h
     simp only at h ⊢
     by_cases q : out.length ≤ 65536
     ·rw [if_pos q] at h ⊢
      obtain ⟨b, h1, h2, h3⟩ := textGo_ok r (i + 1) (out ++ (l ++ [10])) h
      obtain ⟨g1, g2⟩ := lineS_back hl
      refine ⟨l ++ 10 :: b, by rw [h1]; simp, ?_, h3⟩
      rw [split_app, splitL_no g2, List.singleton_append, scan, g1]
      simp only
      rw [h2]; rfl
     ·rw [if_neg q] at h
      exact absurd h (textGo_big r (i + 1) out (by omega))
theorem text_back {ss : List Stp} (h : (textL ss).2.2 = 0) : parseL (textL ss).1 = (ss.map bareS, 0, 0) := by
 obtain ⟨b, h1, h2, h3⟩ := textGo_ok ss 0 [] h
 have e : (textL ss).1 = b := by unfold textL; rw [h1]; rfl
 rw [parse_scan (show (textL ss).1.length ≤ 65536 from h3), e, h2]; rfl
theorem textGo_err : ∀ (ss : List Stp) (i : Nat) (out : Bs), (textGo ss i out).2.2 ≠ 0 → (textGo ss i out).1 = [] ∧ 0 ≤ (textGo ss i out).2.1 ∧ (textGo ss i out).2.1 ≤ ((i + ss.length : Nat) : Int) ∧ ((textGo ss i out).2.2 = 60 → (textGo ss i out).2.1 ≠ 0)
 | [], i, out, h => by
   rw [textGo] at h ⊢
   by_cases q : 65536 < out.length
   ·rw [if_pos q]; exact ⟨rfl, by decide, by show (0 : Int) ≤ _; omega, fun h => by cases h⟩
   ·rw [if_neg q] at h; exact absurd rfl h
 | s :: r, i, out, h => by
   rw [textGo] at h ⊢
   cases hl : lineS s with
   | none => exact ⟨rfl, by show (0 : Int) ≤ (i : Int) + 1; omega, by show (i : Int) + 1 ≤ _; simp only [List.length_cons]; omega, fun _ => by show (i : Int) + 1 ≠ 0; omega⟩
   | some l =>
     rw [hl] at h
     simp only at h ⊢
     obtain ⟨h1, h2, h3, h4⟩ := textGo_err r (i + 1) _ h
     exact ⟨h1, h2, by simp only [List.length_cons]; omega, h4⟩
theorem text_err {ss : List Stp} (h : (textL ss).2.2 ≠ 0) : (textL ss).1 = [] ∧ 0 ≤ (textL ss).2.1 ∧ (textL ss).2.1 ≤ (ss.length : Int) ∧ ((textL ss).2.2 = 60 → (textL ss).2.1 ≠ 0) := by
 have := textGo_err ss 0 [] h
 rw [Nat.zero_add] at this
 exact this
theorem textGo_good : ∀ (ss : List Stp) (i : Nat) (out : Bs), (∀ s ∈ ss, Good s) → (textGo ss i out).2.2 = 0 ∨ (textGo ss i out).2.2 = 2
 | [], i, out, h => by
   rw [textGo]
   split
   ·exact .inr rfl
   ·exact .inl rfl
 | s :: r, i, out, h => by
   rw [textGo]
   obtain ⟨l, hl⟩ := (h s (by simp)).line
   rw [hl]
   exact textGo_good r (i + 1) _ (fun x hx => h x (by simp [hx]))
theorem text_good {ss : List Stp} (h : ∀ s ∈ ss, Good s) : (textL ss).2.2 = 2 ∨ (textL ss).2.2 = 0 ∧ parseL (textL ss).1 = (ss, 0, 0) := by
 rcases textGo_good ss 0 [] h with h0 | h2
 ·refine .inr ⟨h0, ?_⟩
  rw [text_back (show (textL ss).2.2 = 0 from h0)]
  congr 1
  conv => rhs; rw [← List.map_id ss]
  exact List.map_congr_left fun s hs => (h s hs).bare
 ·exact .inl h2
end Go.Proofs.YtbbjnplellanaaaDoor
