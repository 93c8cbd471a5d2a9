/- There and back: the text of steps, parsed. Plain law. -/
import Derived.Test.YtbbjnplellanaaaDoorPS
set_option linter.unusedVariables false
set_option linter.unusedSimpArgs false
set_option maxRecDepth 100000
namespace Go.Proofs.YtbbjnplellanaaaDoor
open Go.VW
/-! ### Words -/
def flatS : List Bs → Bs
 | [] => []
 | p :: r => (32 :: p) ++ flatS r
def PlainW (p : Bs) : Prop := p ≠ [] ∧ ∀ x ∈ p, x ≠ 32 ∧ x ≠ 10
theorem flat_app : ∀ (a b : List Bs), flatS (a ++ b) = flatS a ++ flatS b
 | [], b => rfl
 | p :: r, b => by rw [List.cons_append, flatS, flatS, flat_app r b, List.append_assoc]
theorem nonE_app (a b : List Bs) : nonE (a ++ b) = nonE a ++ nonE b := by unfold nonE; exact List.filter_append ..
theorem words_flat : ∀ (ps : List Bs) (w : Bs), PlainW w → (∀ p ∈ ps, PlainW p) → wordsL (w ++ flatS ps) = w :: ps
 | [], w, hw, _ => by
   rw [flatS, List.append_nil]; unfold wordsL
   rw [splitL_no (fun x hx => (hw.2 x hx).1), nonE_cons, if_neg hw.1]; rfl
 | p :: r, w, hw, h => by
   have ih := words_flat r p (h p (by simp)) (fun q hq => h q (by simp [hq]))
   unfold wordsL at ih ⊢
   have e : w ++ flatS (p :: r) = w ++ 32 :: (p ++ flatS r) := by simp [flatS]
   rw [e, split_app, nonE_app, ih, splitL_no (fun x hx => (hw.2 x hx).1), nonE_cons, if_neg hw.1]; rfl
theorem flat_no10 : ∀ (ps : List Bs), (∀ p ∈ ps, PlainW p) → ∀ x ∈ flatS ps, x ≠ 10
 | [], _, x, hx => by simp [flatS] at hx
 | p :: r, h, x, hx => by
   simp only [flatS, List.cons_append, List.mem_cons, List.mem_append] at hx
   rcases hx with rfl | hx | hx
   ·decide
   ·exact ((h p (by simp)).2 x hx).2
   ·exact flat_no10 r (fun q hq => h q (by simp [hq])) x hx
theorem plain_iff {l : Bs} : plainB l = true ↔ ∀ x ∈ l, x ≠ 32 ∧ x ≠ 10 := by
 unfold plainB
 simp only [Bool.not_eq_true', List.any_eq_false, blB, Bool.or_eq_true, decide_eq_true_eq, not_or]
theorem split_none (b : UInt8) : ∀ (l p : Bs), p ∈ splitL b l → (∀ x ∈ p, x ≠ b ∧ x ∈ l)
 | [], p, h => by simp [splitL] at h; subst h; simp
 | y :: r, p, h => by
   have ih := split_none b r
   rw [splitL] at h
   split at h
   ·rcases List.mem_cons.1 h with rfl | h'
    ·simp
    ·exact fun x hx => ⟨(ih p h' x hx).1, List.mem_cons_of_mem _ (ih p h' x hx).2⟩
   ·rename_i hy
    cases hs : splitL b r with
    | nil => exact absurd hs (splitL_ne b r)
    | cons q t =>
      rw [hs] at h ih
      simp only [preH, List.mem_cons] at h
      rcases h with rfl | h'
      ·intro x hx
       rcases List.mem_append.1 hx with hx' | hx'
       ·simp only [List.mem_singleton] at hx'; subst hx'; exact ⟨hy, by simp⟩
       ·exact ⟨(ih q (by simp) x hx').1, List.mem_cons_of_mem _ (ih q (by simp) x hx').2⟩
      ·exact fun x hx => ⟨(ih p (by simp [h']) x hx).1, List.mem_cons_of_mem _ (ih p (by simp [h']) x hx).2⟩
theorem words_plain {l w : Bs} (hl : ∀ x ∈ l, x ≠ 10) (h : w ∈ wordsL l) : PlainW w := by
 have h0 := (wordsL_mem h).2
 unfold wordsL nonE at h
 rw [List.mem_filter] at h
 exact ⟨h0, fun x hx => ⟨(split_none 32 l w h.1 x hx).1, hl x (split_none 32 l w h.1 x hx).2⟩⟩
/-! ### Numbers -/
theorem numGo_app : ∀ (a b : Bs) (n : Int), numGo (a ++ b) n = (numGo a n).bind fun m => numGo b m
 | [], b, n => rfl
 | c :: r, b, n => by
   rw [List.cons_append, numGo, numGo]
   split
   ·rfl
   ·exact numGo_app r b _
theorem digB (u : Nat) (h : u < 10) : (UInt8.ofNat (48 + u)).toNat = 48 + u := by rw [UInt8.toNat_ofNat']; omega
theorem dec_all : ∀ u : Nat, numGo (Lib.decDigits u) 0 = some (u : Int) ∧ PlainW (Lib.decDigits u) ∧ (1 ≤ u → (Lib.decDigits u).head? ≠ some 48) ∧ (10 ≤ u ∨ (Lib.decDigits u).length = 1) := by
 intro u
 induction u using Nat.strongRecOn with
 | _ u ih =>
   have pl : ∀ k, k < 10 → UInt8.ofNat (48 + k) ≠ 32 ∧ UInt8.ofNat (48 + k) ≠ 10 := fun k hk => by
    have e := digB k hk
    exact ⟨fun q => by rw [q] at e; have : (32 : UInt8).toNat = 32 := rfl; omega, fun q => by rw [q] at e; have : (10 : UInt8).toNat = 10 := rfl; omega⟩
   rw [Lib.decDigits]
   by_cases h : u < 10
   ·rw [dif_pos h]
    have e := digB u h
    refine ⟨?_, ⟨by simp, fun x hx => ?_⟩, fun h1 q => ?_, .inr rfl⟩
    ·rw [numGo, e, if_neg (by omega), numGo]; congr 1; omega
    ·simp only [List.mem_singleton] at hx; subst hx; exact pl u h
    ·simp only [List.head?_cons, Option.some.injEq] at q
     rw [q] at e; have : (48 : UInt8).toNat = 48 := rfl; omega
   ·rw [dif_neg h]
    obtain ⟨i1, i2, i3, _⟩ := ih (u / 10) (by omega)
    have e := digB (u % 10) (by omega)
    refine ⟨?_, ⟨by simp, fun x hx => ?_⟩, fun _ q => ?_, .inl (by omega)⟩
    ·rw [numGo_app, i1]
     show numGo [UInt8.ofNat (48 + u % 10)] ((u / 10 : Nat) : Int) = _
     rw [numGo, e, if_neg (by omega), numGo]; congr 1; omega
    ·rcases List.mem_append.1 hx with hx' | hx'
     ·exact i2.2 x hx'
     ·simp only [List.mem_singleton] at hx'; subst hx'; exact pl _ (by omega)
    ·obtain ⟨y, t, hy⟩ := List.exists_cons_of_ne_nil i2.1
     rw [hy] at q i3
     exact i3 (by omega) q
theorem dec_len : ∀ (k u : Nat), u < 10 ^ (k + 1) → (Lib.decDigits u).length ≤ k + 1
 | 0, u, h => by rw [Lib.decDigits, dif_pos (by simpa using h)]; simp
 | k + 1, u, h => by
   rw [Lib.decDigits]
   by_cases q : u < 10
   ·rw [dif_pos q]; simp
   ·rw [dif_neg q]
    have := dec_len k (u / 10) (by rw [Nat.pow_succ] at h; omega)
    simp only [List.length_append, List.length_cons, List.length_nil]; omega
theorem num_itoa {n : Int} (h0 : 0 ≤ n) (h1 : n ≤ 999999999) : numO (Lib.itoa n) = some n ∧ PlainW (Lib.itoa n) := by
 obtain ⟨u, rfl⟩ := Int.eq_ofNat_of_zero_le h0
 rw [Lib.itoa_nonneg]
 obtain ⟨a, b, c, d⟩ := dec_all u
 have hl := dec_len 8 u (by omega)
 have hp : 0 < (Lib.decDigits u).length := List.length_pos_iff.2 b.1
 refine ⟨?_, b⟩
 have hb : numBad (Lib.decDigits u) = false := by
  unfold numBad
  rw [decide_eq_false (by omega : ¬ (Lib.decDigits u).length < 1), decide_eq_false (by omega : ¬ 9 < (Lib.decDigits u).length)]
  simp only [Bool.false_or, Bool.and_eq_false_iff, decide_eq_false_iff_not]
  rcases d with d | d
  ·exact .inr (c (by omega))
  ·exact .inl (by omega)
 unfold numO
 rw [hb, a]; rfl
theorem numGo_bd : ∀ (l : Bs) (n m : Int), 0 ≤ n → numGo l n = some m → 0 ≤ m ∧ m < (n + 1) * 10 ^ l.length
 | [], n, m, h0, h => by rw [numGo] at h; cases h; simp; omega
 | c :: r, n, m, h0, h => by
   rw [numGo] at h
   split at h
   ·cases h
   ·have ih := numGo_bd r _ m (by omega) h
    refine ⟨ih.1, Int.lt_of_lt_of_le ih.2 ?_⟩
    rw [List.length_cons, Int.pow_succ', ← Int.mul_assoc]
    exact Int.mul_le_mul_of_nonneg_right (by omega) (Int.le_of_lt (Int.pow_pos (by decide)))
theorem numO_bd {l : Bs} {n : Int} (h : numO l = some n) : 0 ≤ n ∧ n ≤ 999999999 := by
 unfold numO at h
 split at h
 ·cases h
 ·rename_i hb
  have hl : l.length ≤ 9 := by
   unfold numBad at hb
   simp only [Bool.or_eq_true, decide_eq_true_eq, not_or] at hb
   omega
  have := numGo_bd l 0 n (by omega) h
  refine ⟨this.1, ?_⟩
  have h2 : (10 : Int) ^ l.length ≤ 10 ^ 9 := by
   have : (10 : Nat) ^ l.length ≤ 10 ^ 9 := Nat.pow_le_pow_right (by decide) hl
   exact_mod_cast this
  omega
/-! ### Writes -/
def wBody (w : Wr) : Bs := w.key ++ (if w.has then 61 :: w.data else [33])
theorem eqAt_app : ∀ (k r : Bs), (61 : UInt8) ∉ k → eqAt (k ++ r) = (eqAt r).map (· + k.length)
 | [], r, _ => by simp
 | x :: k, r, h => by
   rw [List.cons_append, eqAt, if_neg (fun e => h (by simp [e])), eqAt_app k r (fun e => h (by simp [e])), Option.map_map]
   rfl
theorem wOK_iff {w : Wr} : wOK w = true ↔ w.key ≠ [] ∧ (∀ x ∈ w.key, x ≠ 32 ∧ x ≠ 10) ∧ (61 : UInt8) ∉ w.key ∧ (∀ x ∈ w.data, x ≠ 32 ∧ x ≠ 10) ∧ (w.has = true ∨ w.data = []) := by
 unfold wOK
 simp only [Bool.and_eq_true, Bool.or_eq_true, decide_eq_true_eq, plain_iff]
theorem write_back {w : Wr} (h : wOK w = true) : writeO (wBody w) = some w ∧ PlainW (wBody w) := by
 obtain ⟨h1, h2, h3, h4, h5⟩ := wOK_iff.1 h
 obtain ⟨k, hs, d⟩ := w
 simp only at h1 h2 h3 h4 h5
 have hp : 0 < k.length := List.length_pos_iff.2 h1
 unfold wBody writeO
 cases hs with
 | true =>
   simp only [if_true]
   refine ⟨?_, by simp, fun x hx => ?_⟩
   ·rw [eqAt_app k _ h3, eqAt, if_pos rfl]
    simp only [Option.map_some, Nat.zero_add]
    rw [if_pos hp, List.take_left]
    congr 2
    rw [List.drop_append, List.drop_of_length_le (by omega)]
    simp
   ·rcases List.mem_append.1 hx with hx' | hx'
    ·exact h2 x hx'
    ·rcases List.mem_cons.1 hx' with rfl | hx''
     ·decide
     ·exact h4 x hx''
 | false =>
   have hd : d = [] := by simpa using h5
   subst hd
   simp only [Bool.false_eq_true, if_false]
   refine ⟨?_, by simp, fun x hx => ?_⟩
   ·have e : eqAt (k ++ [33]) = none := by rw [eqAt_app k _ h3]; rfl
    rw [e]
    simp only [List.length_append, List.length_cons, List.length_nil]
    rw [if_pos ⟨by omega, by rw [show k.length + (0 + 1) - 1 = k.length by omega]; simp⟩, show k.length + (0 + 1) - 1 = k.length by omega, List.take_left]
   ·rcases List.mem_append.1 hx with hx' | hx'
    ·exact h2 x hx'
    ·simp only [List.mem_singleton] at hx'; subst hx'; decide
theorem writes_back : ∀ ws : List Wr, (∀ w ∈ ws, wOK w = true) → writesO (ws.map wBody) = some ws
 | [], _ => rfl
 | w :: r, h => by
   rw [List.map_cons, writesO, (write_back (h w (by simp))).1, writes_back r (fun x hx => h x (by simp [hx]))]; rfl
theorem wrs_iff : ∀ (ws : List Wr) (b : Bs), wrsO ws = some b → (∀ w ∈ ws, wOK w = true) ∧ b = flatS (ws.map wBody)
 | [], b, h => by rw [wrsO] at h; cases h; exact ⟨fun w hw => (by cases hw), rfl⟩
 | w :: r, b, h => by
   rw [wrsO] at h
   split at h
   ·rename_i hw
    cases hr : wrsO r with
    | none => rw [hr] at h; cases h
    | some c =>
      rw [hr] at h; simp only [Option.map_some, Option.some.injEq] at h
      obtain ⟨h1, h2⟩ := wrs_iff r c hr
      refine ⟨fun x hx => ?_, ?_⟩
      ·rcases List.mem_cons.1 hx with rfl | hx'
       ·exact hw
       ·exact h1 x hx'
      ·rw [← h, h2, List.map_cons, flatS]; rfl
   ·cases h
theorem wrs_some : ∀ (ws : List Wr), (∀ w ∈ ws, wOK w = true) → ∃ b, wrsO ws = some b
 | [], _ => ⟨[], rfl⟩
 | w :: r, h => by
   obtain ⟨b, hb⟩ := wrs_some r (fun x hx => h x (by simp [hx]))
   exact ⟨wTxt w ++ b, by rw [wrsO, if_pos (h w (by simp)), hb]; rfl⟩
theorem eqAt_sp : ∀ (l : Bs) (i : Nat), eqAt l = some i → i < l.length ∧ (61 : UInt8) ∉ l.take i
 | [], i, h => by cases h
 | x :: r, i, h => by
   rw [eqAt] at h
   split at h
   ·cases h; simp
   ·rename_i hx
    cases hr : eqAt r with
    | none => rw [hr] at h; cases h
    | some j =>
      rw [hr] at h; simp only [Option.map_some, Option.some.injEq] at h; subst h
      have ih := eqAt_sp r j hr
      refine ⟨by simp only [List.length_cons]; omega, ?_⟩
      simp only [List.take_succ_cons, List.mem_cons, not_or]
      exact ⟨fun e => hx e.symm, ih.2⟩
theorem eqAt_none : ∀ (l : Bs), eqAt l = none → (61 : UInt8) ∉ l
 | [], _ => by simp
 | x :: r, h => by
   rw [eqAt] at h
   split at h
   ·cases h
   ·rename_i hx
    simp only [Option.map_eq_none_iff] at h
    simp only [List.mem_cons, not_or]
    exact ⟨fun e => hx e.symm, eqAt_none r h⟩
def WrLe (n : Nat) (w : Wr) : Prop := w.key.length ≤ n ∧ w.data.length ≤ n
theorem write_good {l : Bs} {w : Wr} (hl : PlainW l) (h : writeO l = some w) : wOK w = true ∧ WrLe l.length w := by
 unfold writeO at h
 cases he : eqAt l with
 | some i =>
   rw [he] at h
   simp only at h
   split at h
   ·cases h
    rename_i h0
    obtain ⟨h1, h2⟩ := eqAt_sp l i he
    refine ⟨wOK_iff.2 ⟨?_, fun x hx => hl.2 x (List.mem_of_mem_take hx), h2, fun x hx => hl.2 x (List.mem_of_mem_drop hx), .inl rfl⟩, by simp only [List.length_take]; omega, by simp only [List.length_drop]; omega⟩
    intro e
    have := congrArg List.length e
    simp only [List.length_take, List.length_nil] at this; omega
   ·cases h
 | none =>
   rw [he] at h
   simp only at h
   split at h
   ·cases h
    rename_i h0
    have h3 := eqAt_none l he
    refine ⟨wOK_iff.2 ⟨?_, fun x hx => hl.2 x (List.mem_of_mem_take hx), fun hx => h3 (List.mem_of_mem_take hx), fun x hx => (by cases hx), .inr rfl⟩, by simp only [List.length_take]; omega, by simp⟩
    intro e
    have := congrArg List.length e
    simp only [List.length_take, List.length_nil] at this; omega
   ·cases h
theorem writes_good : ∀ (ls : List Bs) (ws : List Wr), (∀ l ∈ ls, PlainW l ∧ l.length ≤ 65536) → writesO ls = some ws → (∀ w ∈ ws, wOK w = true ∧ WrLe 65536 w) ∧ ws.length = ls.length
 | [], ws, _, h => by rw [writesO] at h; cases h; exact ⟨fun w hw => (by cases hw), rfl⟩
 | l :: r, ws, hl, h => by
   rw [writesO] at h
   cases h1 : writeO l with
   | none => rw [h1] at h; cases h
   | some y =>
     rw [h1] at h
     cases h2 : writesO r with
     | none => rw [h2] at h; cases h
     | some ys =>
       rw [h2] at h
       simp only [Option.bind_some, Option.map_some, Option.some.injEq] at h
       subst h
       obtain ⟨i1, i2⟩ := writes_good r ys (fun q hq => hl q (by simp [hq])) h2
       have hy := write_good (hl l (by simp)).1 h1
       have hll := (hl l (by simp)).2
       refine ⟨fun w hw => ?_, by simp [i2]⟩
       rcases List.mem_cons.1 hw with rfl | hw'
       ·exact ⟨hy.1, by have := hy.2; unfold WrLe at *; omega⟩
       ·exact i1 w hw'
/-! ### Steps -/
def mkS (f : Form) (n : Int) (x : Bs) (ws : List Wr) : Stp :=
 let t := if f.nf = 0 then Stp.zero f.kind else setN f.nf n (Stp.zero f.kind)
 if f.rf ≠ 0 then setR f.rf x t else if f.kind ≠ 2 then t else { t with ws := ws }
def bareF (f : Form) (s : Stp) : Stp := mkS f (s.getN f.nf) (s.getR f.rf) s.ws
def bareS (s : Stp) : Stp := match formsL[(s.kind - 1).toNat]? with
 | some f => bareF f s
 | none => s
def GoodP (f : Form) (n : Int) (x : Bs) (ws : List Wr) : Prop := (f.nf ≠ 0 → 0 ≤ n ∧ n ≤ 999999999) ∧ (f.rf ≠ 0 → PlainW x) ∧ (f.kind = 2 → ∀ w ∈ ws, wOK w = true)
def partsF (f : Form) (n : Int) (x : Bs) (ws : List Wr) : List Bs := (if f.nf = 0 then [] else [Lib.itoa n]) ++ (if f.rf ≠ 0 then [x] else if f.kind ≠ 2 then [] else ws.map wBody)
theorem form_facts : ∀ f ∈ formsL, (f.kind = 2 → f.rf = 0) ∧ PlainW f.word ∧ f.word.head? ≠ some 35 ∧ (formsL.find? fun g => decide (g.word = f.word)) = some f ∧ 1 ≤ f.kind ∧ f.kind ≤ 16 ∧ formsL[f.kind - 1]? = some f := by
 intro f hf
 simp only [formsL, List.mem_cons, List.not_mem_nil, or_false] at hf
 rcases hf with rfl | rfl | rfl | rfl | rfl | rfl | rfl | rfl | rfl | rfl | rfl | rfl | rfl | rfl | rfl | rfl <;> exact ⟨by decide, ⟨by decide, by decide⟩, by decide, rfl, by decide, by decide, rfl⟩
theorem parts_plain {f : Form} {n : Int} {x : Bs} {ws : List Wr} (h : GoodP f n x ws) : ∀ p ∈ partsF f n x ws, PlainW p := by
 intro p hp
 unfold partsF at hp
 rcases List.mem_append.1 hp with hp | hp
 ·split at hp
  ·cases hp
  ·rename_i h0
   simp only [List.mem_singleton] at hp; subst hp
   exact (num_itoa (h.1 h0).1 (h.1 h0).2).2
 ·split at hp
  ·rename_i h0
   simp only [List.mem_singleton] at hp; subst hp
   exact h.2.1 h0
  ·split at hp
   ·cases hp
   ·rename_i h2
    obtain ⟨w, hw, rfl⟩ := List.mem_map.1 hp
    exact (write_back (h.2.2 (by omega) w hw)).2
theorem step_back {f : Form} {n : Int} {x : Bs} {ws : List Wr} (hf : f ∈ formsL) (h : GoodP f n x ws) : stepO (f.word :: partsF f n x ws) = some (mkS f n x ws) := by
 obtain ⟨f2, _, _, f4, _⟩ := form_facts f hf
 have hr : ∀ t : Stp, restF f t (if f.rf ≠ 0 then [x] else if f.kind ≠ 2 then [] else ws.map wBody) = some (if f.rf ≠ 0 then setR f.rf x t else if f.kind ≠ 2 then t else { t with ws := ws }) := by
  intro t
  unfold restF
  by_cases q : f.rf ≠ 0
  ·rw [if_pos q, if_pos q, if_pos q]; rfl
  ·rw [if_neg q, if_neg q, if_neg q]
   by_cases q2 : f.kind ≠ 2
   ·rw [if_pos q2, if_pos q2, if_pos q2, if_pos rfl]
   ·rw [if_neg q2, if_neg q2, if_neg q2, writes_back ws (h.2.2 (by omega))]; rfl
 show ((formsL.find? fun g => decide (g.word = f.word)).bind fun g => stepF g (partsF f n x ws)) = _
 rw [f4]
 show stepF f (partsF f n x ws) = _
 unfold stepF partsF mkS
 by_cases q : f.nf = 0
 ·rw [if_pos q, if_pos q, if_pos q, List.nil_append, hr]
 ·rw [if_neg q, if_neg q, if_neg q, List.singleton_append, numR, (num_itoa (h.1 q).1 (h.1 q).2).1]
  show restF f _ _ = _
  rw [hr]
theorem line_back {f : Form} {n : Int} {x : Bs} {ws : List Wr} (hf : f ∈ formsL) (h : GoodP f n x ws) : lineO (f.word ++ flatS (partsF f n x ws)) = some (some (mkS f n x ws)) ∧ ∀ y ∈ f.word ++ flatS (partsF f n x ws), y ≠ 10 := by
 obtain ⟨_, f3, f35, _⟩ := form_facts f hf
 have hp := parts_plain h
 refine ⟨?_, fun y hy => ?_⟩
 ·unfold lineO
  rw [words_flat _ _ f3 hp]
  simp only
  rw [if_neg f35, step_back hf h]; rfl
 ·rcases List.mem_append.1 hy with hy' | hy'
  ·exact (f3.2 y hy').2
  ·exact flat_no10 _ hp y hy'
theorem lineF_parts {f : Form} {s : Stp} {l : Bs} (h : lineF f s = some l) : GoodP f (s.getN f.nf) (s.getR f.rf) s.ws ∧ l = f.word ++ flatS (partsF f (s.getN f.nf) (s.getR f.rf) s.ws) ∨ (f.kind = 2 ∧ f.rf ≠ 0) := by
 by_cases hx : f.kind = 2 ∧ f.rf ≠ 0
 ·exact .inr hx
 refine .inl ?_
 unfold lineF at h
 cases ha : numT f.nf s with
 | none => rw [ha] at h; cases h
 | some a =>
   rw [ha] at h
   cases hb : restT f s with
   | none => rw [hb] at h; cases h
   | some b =>
     rw [hb] at h
     simp only [Option.bind_some, Option.map_some, Option.some.injEq] at h
     have h1 : (f.nf ≠ 0 → 0 ≤ s.getN f.nf ∧ s.getN f.nf ≤ 999999999) ∧ a = flatS (if f.nf = 0 then [] else [Lib.itoa (s.getN f.nf)]) := by
      unfold numT at ha
      by_cases q : f.nf = 0
      ·rw [if_pos q] at ha ⊢; cases ha; exact ⟨fun h => absurd q h, rfl⟩
      ·rw [if_neg q] at ha ⊢
       split at ha
       ·rename_i hn
        cases ha; exact ⟨fun _ => hn, by simp [flatS]⟩
       ·cases ha
     have h2 : (f.rf ≠ 0 → PlainW (s.getR f.rf)) ∧ (f.kind = 2 → ∀ w ∈ s.ws, wOK w = true) ∧ b = flatS (if f.rf ≠ 0 then [s.getR f.rf] else if f.kind ≠ 2 then [] else s.ws.map wBody) := by
      unfold restT at hb
      by_cases q : f.rf ≠ 0
      ·rw [if_pos q] at hb ⊢
       split at hb
       ·rename_i hn
        cases hb
        exact ⟨fun _ => ⟨hn.1, plain_iff.1 hn.2⟩, fun h2 => absurd ⟨h2, q⟩ hx, by simp [flatS]⟩
       ·cases hb
      ·rw [if_neg q] at hb ⊢
       by_cases q2 : f.kind ≠ 2
       ·rw [if_pos q2] at hb ⊢; cases hb
        exact ⟨fun h => absurd h q, fun h => absurd h q2, rfl⟩
       ·rw [if_neg q2] at hb ⊢
        obtain ⟨g1, g2⟩ := wrs_iff _ _ hb
        exact ⟨fun h => absurd h q, fun _ => g1, g2⟩
     refine ⟨⟨h1.1, h2.1, h2.2.1⟩, ?_⟩
     rw [← h]
     unfold partsF
     rw [flat_app, ← h1.2, ← h2.2.2, List.append_assoc]
theorem lineF_ok {f : Form} {s : Stp} (hf : f ∈ formsL) (h : GoodP f (s.getN f.nf) (s.getR f.rf) s.ws) : ∃ l, lineF f s = some l := by
 have ha : ∃ a, numT f.nf s = some a := by
  unfold numT
  by_cases q : f.nf = 0
  ·exact ⟨_, if_pos q⟩
  ·rw [if_neg q, if_pos (h.1 q)]; exact ⟨_, rfl⟩
 have hb : ∃ b, restT f s = some b := by
  unfold restT
  by_cases q : f.rf ≠ 0
  ·rw [if_pos q, if_pos ⟨(h.2.1 q).1, plain_iff.2 (h.2.1 q).2⟩]; exact ⟨_, rfl⟩
  ·rw [if_neg q]
   by_cases q2 : f.kind ≠ 2
   ·rw [if_pos q2]; exact ⟨_, rfl⟩
   ·rw [if_neg q2]; exact wrs_some _ (h.2.2 (by omega))
 obtain ⟨a, ha⟩ := ha
 obtain ⟨b, hb⟩ := hb
 exact ⟨_, by unfold lineF; rw [ha, hb]; rfl⟩
theorem lineS_back {s : Stp} {l : Bs} (h : lineS s = some l) : lineO l = some (some (bareS s)) ∧ ∀ y ∈ l, y ≠ 10 := by
 unfold lineS at h
 split at h
 ·cases hf : formsL[(s.kind - 1).toNat]? with
  | none => rw [hf] at h; cases h
  | some f =>
    rw [hf] at h
    have hm : f ∈ formsL := List.mem_of_getElem? hf
    rcases lineF_parts (show lineF f s = some l from h) with ⟨g, rfl⟩ | ⟨g1, g2⟩
    ·have := line_back hm g
     unfold bareS
     rw [hf]; exact this
    ·exact absurd ((form_facts f hm).1 g1) g2
 ·cases h
end Go.Proofs.YtbbjnplellanaaaDoor
