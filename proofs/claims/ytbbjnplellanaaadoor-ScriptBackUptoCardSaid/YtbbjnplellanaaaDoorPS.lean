/- The law ScriptLines: the plain law, and the walk. -/
import Derived.Test.YtbbjnplellanaaaDoorPQ
set_option linter.unusedVariables false
set_option linter.unusedSimpArgs false
set_option maxRecDepth 100000
namespace Go.Proofs.YtbbjnplellanaaaDoor
open Go.VW
theorem split_app (b : UInt8) : ∀ (p q : Bs), splitL b (p ++ b :: q) = splitL b p ++ splitL b q
 | [], q => by rw [List.nil_append, splitL_hit]; rfl
 | x :: r, q => by
   have ih := split_app b r q
   rw [List.cons_append, splitL, splitL, ih]
   split
   ·rfl
   ·cases hs : splitL b r with
    | nil => exact absurd hs (splitL_ne b r)
    | cons y t => rfl
def scan : List Bs → Nat ⊕ List Stp
 | [] => .inr []
 | l :: r => match lineO l with
   | none => .inl 0
   | some none => match scan r with
     | .inl j => .inl (j + 1)
     | .inr s => .inr s
   | some (some s) => match scan r with
     | .inl j => .inl (j + 1)
     | .inr t => .inr (s :: t)
def scanR (i : Nat) (out : List Stp) : Nat ⊕ List Stp → List Stp × Int × Int
 | .inl j => ([], ((i + j : Nat) : Int) + 1, 60)
 | .inr s => (out ++ s, 0, 0)
theorem go_scan : ∀ (ls : List Bs) (i : Nat) (out : List Stp), parseGo ls i out = scanR i out (scan ls)
 | [], i, out => by simp [parseGo, scan, scanR]
 | l :: r, i, out => by
   rw [parseGo, scan]
   cases hl : lineO l with
   | none => rfl
   | some o =>
     cases o with
     | none =>
       simp only
       rw [go_scan r]
       cases scan r with
       | inl j => simp only [scanR]; rw [show i + 1 + j = i + (j + 1) by omega]
       | inr s => rfl
     | some s =>
       simp only
       rw [go_scan r]
       cases scan r with
       | inl j => simp only [scanR]; rw [show i + 1 + j = i + (j + 1) by omega]
       | inr t => simp [scanR]
theorem scan_app : ∀ (p q : List Bs), scan (p ++ q) = match scan p with
  | .inl j => .inl j
  | .inr s => match scan q with
    | .inl j => .inl (p.length + j)
    | .inr t => .inr (s ++ t)
 | [], q => by
   simp only [List.nil_append, scan, List.length_nil]
   cases scan q <;> simp
 | l :: r, q => by
   rw [List.cons_append, scan, scan, scan_app r q]
   cases hl : lineO l with
   | none => rfl
   | some o =>
     cases o with
     | none =>
       simp only
       cases scan r with
       | inl j => rfl
       | inr s => cases scan q with
         | inl j => simp only [List.length_cons, Sum.inl.injEq]; omega
         | inr t => rfl
     | some s =>
       simp only
       cases scan r with
       | inl j => rfl
       | inr t => cases scan q with
         | inl j => simp only [List.length_cons, Sum.inl.injEq]; omega
         | inr u => rfl
theorem line_blank (l : Bs) : lineO (32 :: l) = lineO l := by
 have : wordsL (32 :: l) = wordsL l := by
  unfold wordsL
  rw [splitL_hit, nonE_cons, if_pos rfl]
 unfold lineO; rw [this]
theorem scan_pre (l : List Bs) (h : l ≠ []) : scan (preH [32] l) = scan l := by
 cases l with
 | nil => exact absurd rfl h
 | cons x r => simp only [preH, List.cons_append, List.nil_append, scan, line_blank]
def midT : Bs := [10, 32, 32, 10, 35, 32, 110, 111, 116, 101, 10, 32]
theorem split_mid (a b : Bs) : splitL 10 (a ++ midT ++ b) = splitL 10 a ++ ([[32, 32], [35, 32, 110, 111, 116, 101]] ++ preH [32] (splitL 10 b)) := by
 have e : a ++ midT ++ b = a ++ 10 :: ([32, 32] ++ 10 :: ([35, 32, 110, 111, 116, 101] ++ 10 :: (32 :: b))) := by simp [midT]
 rw [e, split_app, split_app, split_app, splitL_no (l := [32, 32]) (by decide), splitL_no (l := [35, 32, 110, 111, 116, 101]) (by decide)]
 rw [splitL, if_neg (by decide)]; rfl
theorem scan_mid (a b : Bs) : scan (splitL 10 (a ++ midT ++ b)) = match scan (splitL 10 a) with
  | .inl j => .inl j
  | .inr s => match scan (splitL 10 b) with
    | .inl j => .inl ((splitL 10 a).length + 2 + j)
    | .inr t => .inr (s ++ t) := by
 rw [split_mid, scan_app, scan_app, scan_pre _ (splitL_ne _ _)]
 have e : scan [[32, 32], [35, 32, 110, 111, 116, 101]] = .inr [] := by decide +kernel
 rw [e]
 cases scan (splitL 10 a) with
 | inl j => rfl
 | inr s => cases scan (splitL 10 b) with
   | inl j => simp only [List.length_cons, List.length_nil, Sum.inl.injEq]; omega
   | inr t => rfl
def cntL (l : Bs) : Nat := l.countP fun b => decide (b = 10)
theorem split_cnt : ∀ l : Bs, (splitL 10 l).length = cntL l + 1
 | [] => rfl
 | x :: r => by
   have ih := split_cnt r
   unfold cntL at ih ⊢
   rw [splitL, List.countP_cons]
   by_cases h : x = 10
   ·rw [if_pos h, List.length_cons, ih]; simp [h]
   ·rw [if_neg h, preH_len _ _ (splitL_ne _ _), ih]; simp [h]
theorem parse_scan {t : Bs} (h : t.length ≤ 65536) : parseL t = scanR 0 [] (scan (splitL 10 t)) := by
 unfold parseL; rw [if_neg (by omega), go_scan]
theorem scan_bd : ∀ ls : List Bs, match scan ls with
  | .inl j => j < ls.length
  | .inr s => s.length ≤ ls.length
 | [] => by simp [scan]
 | l :: r => by
   have ih := scan_bd r
   rw [scan]
   cases hl : lineO l with
   | none => simp
   | some o =>
     cases o with
     | none =>
       simp only
       cases hs : scan r with
       | inl j => rw [hs] at ih; simp only [List.length_cons] at ih ⊢; omega
       | inr s => rw [hs] at ih; simp only [List.length_cons] at ih ⊢; omega
     | some s =>
       simp only
       cases hs : scan r with
       | inl j => rw [hs] at ih; simp only [List.length_cons] at ih ⊢; omega
       | inr t => rw [hs] at ih; simp only [List.length_cons] at ih ⊢; omega
theorem parse_bd (t : Bs) : 0 ≤ (parseL t).2.1 ∧ (parseL t).2.1 ≤ 70000 ∧ (parseL t).1.length ≤ 70000 := by
 by_cases h : 65536 < t.length
 ·unfold parseL; rw [if_pos h]; exact ⟨by simp, by simp, by simp⟩
 ·rw [parse_scan (by omega)]
  have hb := scan_bd (splitL 10 t)
  have hl := splitL_len 10 t
  cases hs : scan (splitL 10 t) with
  | inl j => rw [hs] at hb; simp only [scanR, List.length_nil] at hb ⊢; omega
  | inr s => rw [hs] at hb; simp only [scanR, List.nil_append] at hb ⊢; omega
/-- What the law compares. -/
theorem lines_law (a b : Bs) (h : a.length + b.length ≤ 60000) :
  ((parseL a).2.2 ≠ 0 → (parseL (a ++ midT ++ b)).2 = (parseL a).2) ∧
  ((parseL a).2.2 = 0 → (parseL b).2.2 ≠ 0 → (parseL (a ++ midT ++ b)).2.2 = (parseL b).2.2 ∧ (parseL (a ++ midT ++ b)).2.1 = (cntL a : Int) + 1 + 2 + (parseL b).2.1) ∧
  ((parseL a).2.2 = 0 → (parseL b).2.2 = 0 → parseL (a ++ midT ++ b) = ((parseL a).1 ++ (parseL b).1, 0, 0)) := by
 have hm : midT.length = 12 := rfl
 have hz : (a ++ midT ++ b).length ≤ 65536 := by simp only [List.length_append, hm]; omega
 rw [parse_scan (t := a) (by omega), parse_scan (t := b) (by omega), parse_scan hz, scan_mid]
 have hc := split_cnt a
 cases scan (splitL 10 a) with
 | inl j => exact ⟨fun _ => rfl, fun h => by simp [scanR] at h, fun h => by simp [scanR] at h⟩
 | inr s =>
   cases scan (splitL 10 b) with
   | inl j => refine ⟨fun h => by simp [scanR] at h, fun _ _ => ⟨rfl, ?_⟩, fun _ h => by simp [scanR] at h⟩; simp only [scanR]; omega
   | inr t => exact ⟨fun h => by simp [scanR] at h, fun _ h => by simp [scanR] at h, fun _ _ => by simp [scanR]⟩
theorem cnt_at {l : Bs} {i : Nat} {x : UInt8} (h : l[i]? = some x) : cntL (l.take (i + 1)) = cntL (l.take i) + if x = 10 then 1 else 0 := by
 unfold cntL
 rw [take_at h, List.countP_append]
 by_cases hx : x = 10
 ·subst hx; rfl
 ·simp [hx]
set_option maxHeartbeats 16000000 in
theorem lines_spec {a b : Bs} {w : World} {K : Value → World → Prop} (ha : a.length ≤ 140737488355328) (hb : b.length ≤ 140737488355328) (hm : MaxL w) (ht : TabP w) (hK : ∀ w', Fr [] w w' → K (.bool true) w') : CallsN Tryd.prog 6 [.string (B a), .string (B b)] w K := by
 have cw := cur w
 refine call6 ?_
 simp (maxSteps:=4000000)(disch:=first|assumption|(simp only[dz];first|done|assumption|omega)|omega|apply_rules[Fr.refl,Fr.alloc,Fr.drew]|rfl) only [↓gd,gp,Nat.reduceAdd,Nat.reduceEqDiff, ↓hk6]
 refine fixed_spec hm ht fun w1 hf1 => ?_
 have cw1 := cur w1
 have ws : IntKind.i64.wrap ((a.length : Int) + (b.length : Int)) = (a.length : Int) + (b.length : Int) := wrap64 (by omega) (by omega)
 by_cases hbig : 60000 < a.length + b.length
 ·have d : decide ((60000 : Int) < (a.length : Int) + (b.length : Int)) = true := decide_eq_true (by omega)
  simp (maxSteps:=4000000)(disch:=first|assumption|(simp only[dz];first|done|assumption|omega)|omega|apply_rules[Fr.refl,Fr.alloc,Fr.drew]|rfl) only [↓gd,gp,Nat.reduceAdd,Nat.reduceEqDiff, ↓hk6, B_size, ws, d]
  refine fixed_spec (hm.fr hf1) (ht.fr hf1) fun w2 hf2 => ?_
  exact hK _ (hf1.trans' hf2)
 have d : decide ((60000 : Int) < (a.length : Int) + (b.length : Int)) = false := decide_eq_false (by omega)
 obtain ⟨L1, L2, L3⟩ := lines_law a b (by omega)
 simp (maxSteps:=4000000)(disch:=first|assumption|(simp only[dz];first|done|assumption|omega)|omega|apply_rules[Fr.refl,Fr.alloc,Fr.drew]|rfl) only [↓gd,gp,Nat.reduceAdd,Nat.reduceEqDiff, ↓hk6, B_size, ws, d]
 refine parse_spec (hm.fr hf1) fun v2 w2 ho2 hf2 => ?_
 have cw2 := cur w2
 have hf02 := hf1.trans' hf2
 simp (maxSteps:=4000000)(disch:=first|assumption|(simp only[dz];first|done|assumption|omega)|omega|apply_rules[Fr.refl,Fr.alloc,Fr.drew]|rfl) only [↓gd,gp,Nat.reduceAdd,Nat.reduceEqDiff, ↓hk6]
 refine parse_spec (hm.fr hf02) fun v3 w3 ho3 hf3 => ?_
 have cw3 := cur w3
 have hf03 := hf02.trans' hf3
 have a1 := fun x' y' w => add9r x' y' a [10, 32, 32, 10, 35, 32] (by simp only [List.length_cons, List.length_nil]; omega) w
 have a2 := fun x' y' w => add9r x' y' (a ++ [10, 32, 32, 10, 35, 32]) [110, 111, 116, 101, 10, 32] (by simp only [List.length_append, List.length_cons, List.length_nil]; omega) w
 have a3 := fun x' y' w => add9 x' y' (a ++ [10, 32, 32, 10, 35, 32] ++ [110, 111, 116, 101, 10, 32]) b (by simp only [List.length_append, List.length_cons, List.length_nil]; omega) w
 simp (maxSteps:=4000000)(disch:=first|assumption|(simp only[dz];first|done|assumption|omega)|omega|apply_rules[Fr.refl,Fr.alloc,Fr.drew]|rfl) only [↓gd,gp,Nat.reduceAdd,Nat.reduceEqDiff, ↓hk6, a1, a2, a3]
 have hmid : a ++ [10, 32, 32, 10, 35, 32] ++ [110, 111, 116, 101, 10, 32] ++ b = a ++ midT ++ b := by simp [midT]
 rw [hmid]
 obtain ⟨z, hz⟩ : ∃ z, z = a ++ midT ++ b := ⟨_, rfl⟩
 rw [← hz] at L1 L2 L3 ⊢
 refine parse_spec (hm.fr hf03) fun v4 w4 ho4 hf4 => ?_
 have cw4 := cur w4
 have hf04 := hf03.trans' hf4
 simp (maxSteps:=4000000)(disch:=first|assumption|(simp only[dz];first|done|assumption|omega)|omega|apply_rules[Fr.refl,Fr.alloc,Fr.drew]|rfl) only [↓gd,gp,Nat.reduceAdd,Nat.reduceEqDiff, ↓hk6]
 refine for_intro a.length 15 0 (fun i e w' => e 0 = .string (B a) ∧ e 14 = .int .i64 ((cntL (a.take i) : Int) + 1) ∧ e 5 = v2 ∧ e 6 = .int .i64 (parseL a).2.1 ∧ e 7 = .int .i64 (parseL a).2.2 ∧ e 8 = v3 ∧ e 9 = .int .i64 (parseL b).2.1 ∧ e 10 = .int .i64 (parseL b).2.2 ∧ e 11 = v4 ∧ e 12 = .int .i64 (parseL z).2.1 ∧ e 13 = .int .i64 (parseL z).2.2 ∧ w' = w4) ?_ (Nat.zero_le _) ?_ ?_
 ·simp (maxSteps:=4000000)(disch:=first|assumption|(simp only[dz];first|done|assumption|omega)|omega|apply_rules[Fr.refl,Fr.alloc,Fr.drew]|rfl) only [↓gsd,gs,gv,Nat.reduceAdd,Nat.reduceEqDiff]; rfl
 ·refine ⟨?_, ?_, ?_, ?_, ?_, ?_, ?_, ?_, ?_, ?_, ?_, rfl⟩
  ·simp (maxSteps:=4000000)(disch:=first|assumption|(simp only[dz];first|done|assumption|omega)|omega|apply_rules[Fr.refl,Fr.alloc,Fr.drew]|rfl) only [↓gsd,gs,gv,Nat.reduceAdd,Nat.reduceEqDiff]
  ·simp (maxSteps:=4000000)(disch:=first|assumption|(simp only[dz];first|done|assumption|omega)|omega|apply_rules[Fr.refl,Fr.alloc,Fr.drew]|rfl) only [↓gsd,gs,gv,Nat.reduceAdd,Nat.reduceEqDiff]; rfl
  all_goals simp (maxSteps:=4000000)(disch:=first|assumption|(simp only[dz];first|done|assumption|omega)|omega|apply_rules[Fr.refl,Fr.alloc,Fr.drew]|rfl) only [↓gsd,gs,gv,Nat.reduceAdd,Nat.reduceEqDiff]
 rintro i e w5 kk hi e15 ⟨e0, e14, e5, e6, e7, e8, e9, e10, e11, e12, e13, rfl⟩ hkk
 have wr : IntKind.i64.wrap ((i : Int) + 1) = (i : Int) + 1 := wrap64 (by omega) (by omega)
 have hcl : ∀ j, cntL (a.take j) ≤ a.length := fun j => Nat.le_trans List.countP_le_length (by rw [List.length_take]; omega)
 by_cases hil : i < a.length
 ·have d : decide ((i : Int) < (a.length : Int)) = true := decide_eq_true (by omega)
  obtain ⟨x, hx⟩ : ∃ x, a[i]? = some x := ⟨a[i], List.getElem?_eq_getElem hil⟩
  have hix := fun k w => ix9 hx k w
  have hcn := cnt_at hx
  have hci := hcl i
  by_cases q : x = 10
  ·have dq : decide ((x.toNat : Int) = 10) = true := by rw [q]; rfl
   have w2' : IntKind.i64.wrap ((cntL (a.take i) : Int) + 1 + 1) = (cntL (a.take i) : Int) + 1 + 1 := wrap64 (by omega) (by omega)
   simp (maxSteps:=4000000)(disch:=first|assumption|(simp only[dz];first|done|assumption|omega)|omega|apply_rules[Fr.refl,Fr.alloc,Fr.drew]|rfl) only [↓gd,gp,Nat.reduceAdd,Nat.reduceEqDiff, ↓hk6, e0, e14, e15, B_size, d, hix, dq, wr, w2']
   refine hkk _ _ hil ?_ ⟨?_, ?_, ?_, ?_, ?_, ?_, ?_, ?_, ?_, ?_, ?_, rfl⟩
   ·simp (maxSteps:=4000000)(disch:=first|assumption|(simp only[dz];first|done|assumption|omega)|omega|apply_rules[Fr.refl,Fr.alloc,Fr.drew]|rfl) only [↓gsd,gs,gv,Nat.reduceAdd,Nat.reduceEqDiff]
   ·simp (maxSteps:=4000000)(disch:=first|assumption|(simp only[dz];first|done|assumption|omega)|omega|apply_rules[Fr.refl,Fr.alloc,Fr.drew]|rfl) only [↓gsd,gs,gv,Nat.reduceAdd,Nat.reduceEqDiff, e0]
   ·rw [if_pos q] at hcn
    simp (maxSteps:=4000000)(disch:=first|assumption|(simp only[dz];first|done|assumption|omega)|omega|apply_rules[Fr.refl,Fr.alloc,Fr.drew]|rfl) only [↓gsd,gs,gv,Nat.reduceAdd,Nat.reduceEqDiff]
    rw [hcn]; congr 1
   ·simp (maxSteps:=4000000)(disch:=first|assumption|(simp only[dz];first|done|assumption|omega)|omega|apply_rules[Fr.refl,Fr.alloc,Fr.drew]|rfl) only [↓gsd,gs,gv,Nat.reduceAdd,Nat.reduceEqDiff, e5]
   ·simp (maxSteps:=4000000)(disch:=first|assumption|(simp only[dz];first|done|assumption|omega)|omega|apply_rules[Fr.refl,Fr.alloc,Fr.drew]|rfl) only [↓gsd,gs,gv,Nat.reduceAdd,Nat.reduceEqDiff, e6]
   ·simp (maxSteps:=4000000)(disch:=first|assumption|(simp only[dz];first|done|assumption|omega)|omega|apply_rules[Fr.refl,Fr.alloc,Fr.drew]|rfl) only [↓gsd,gs,gv,Nat.reduceAdd,Nat.reduceEqDiff, e7]
   ·simp (maxSteps:=4000000)(disch:=first|assumption|(simp only[dz];first|done|assumption|omega)|omega|apply_rules[Fr.refl,Fr.alloc,Fr.drew]|rfl) only [↓gsd,gs,gv,Nat.reduceAdd,Nat.reduceEqDiff, e8]
   ·simp (maxSteps:=4000000)(disch:=first|assumption|(simp only[dz];first|done|assumption|omega)|omega|apply_rules[Fr.refl,Fr.alloc,Fr.drew]|rfl) only [↓gsd,gs,gv,Nat.reduceAdd,Nat.reduceEqDiff, e9]
   ·simp (maxSteps:=4000000)(disch:=first|assumption|(simp only[dz];first|done|assumption|omega)|omega|apply_rules[Fr.refl,Fr.alloc,Fr.drew]|rfl) only [↓gsd,gs,gv,Nat.reduceAdd,Nat.reduceEqDiff, e10]
   ·simp (maxSteps:=4000000)(disch:=first|assumption|(simp only[dz];first|done|assumption|omega)|omega|apply_rules[Fr.refl,Fr.alloc,Fr.drew]|rfl) only [↓gsd,gs,gv,Nat.reduceAdd,Nat.reduceEqDiff, e11]
   ·simp (maxSteps:=4000000)(disch:=first|assumption|(simp only[dz];first|done|assumption|omega)|omega|apply_rules[Fr.refl,Fr.alloc,Fr.drew]|rfl) only [↓gsd,gs,gv,Nat.reduceAdd,Nat.reduceEqDiff, e12]
   ·simp (maxSteps:=4000000)(disch:=first|assumption|(simp only[dz];first|done|assumption|omega)|omega|apply_rules[Fr.refl,Fr.alloc,Fr.drew]|rfl) only [↓gsd,gs,gv,Nat.reduceAdd,Nat.reduceEqDiff, e13]
  ·have dq : decide ((x.toNat : Int) = 10) = false := decide_eq_false (fun h => q (UInt8.toNat_inj.1 (by have : (10 : UInt8).toNat = 10 := rfl; omega)))
   simp (maxSteps:=4000000)(disch:=first|assumption|(simp only[dz];first|done|assumption|omega)|omega|apply_rules[Fr.refl,Fr.alloc,Fr.drew]|rfl) only [↓gd,gp,Nat.reduceAdd,Nat.reduceEqDiff, ↓hk6, e0, e15, B_size, d, hix, dq, wr]
   refine hkk _ _ hil ?_ ⟨?_, ?_, ?_, ?_, ?_, ?_, ?_, ?_, ?_, ?_, ?_, rfl⟩
   ·simp (maxSteps:=4000000)(disch:=first|assumption|(simp only[dz];first|done|assumption|omega)|omega|apply_rules[Fr.refl,Fr.alloc,Fr.drew]|rfl) only [↓gsd,gs,gv,Nat.reduceAdd,Nat.reduceEqDiff]
   ·simp (maxSteps:=4000000)(disch:=first|assumption|(simp only[dz];first|done|assumption|omega)|omega|apply_rules[Fr.refl,Fr.alloc,Fr.drew]|rfl) only [↓gsd,gs,gv,Nat.reduceAdd,Nat.reduceEqDiff, e0]
   ·simp (maxSteps:=4000000)(disch:=first|assumption|(simp only[dz];first|done|assumption|omega)|omega|apply_rules[Fr.refl,Fr.alloc,Fr.drew]|rfl) only [↓gsd,gs,gv,Nat.reduceAdd,Nat.reduceEqDiff, e14]
    rw [hcn, if_neg q, Nat.add_zero]
   ·simp (maxSteps:=4000000)(disch:=first|assumption|(simp only[dz];first|done|assumption|omega)|omega|apply_rules[Fr.refl,Fr.alloc,Fr.drew]|rfl) only [↓gsd,gs,gv,Nat.reduceAdd,Nat.reduceEqDiff, e5]
   ·simp (maxSteps:=4000000)(disch:=first|assumption|(simp only[dz];first|done|assumption|omega)|omega|apply_rules[Fr.refl,Fr.alloc,Fr.drew]|rfl) only [↓gsd,gs,gv,Nat.reduceAdd,Nat.reduceEqDiff, e6]
   ·simp (maxSteps:=4000000)(disch:=first|assumption|(simp only[dz];first|done|assumption|omega)|omega|apply_rules[Fr.refl,Fr.alloc,Fr.drew]|rfl) only [↓gsd,gs,gv,Nat.reduceAdd,Nat.reduceEqDiff, e7]
   ·simp (maxSteps:=4000000)(disch:=first|assumption|(simp only[dz];first|done|assumption|omega)|omega|apply_rules[Fr.refl,Fr.alloc,Fr.drew]|rfl) only [↓gsd,gs,gv,Nat.reduceAdd,Nat.reduceEqDiff, e8]
   ·simp (maxSteps:=4000000)(disch:=first|assumption|(simp only[dz];first|done|assumption|omega)|omega|apply_rules[Fr.refl,Fr.alloc,Fr.drew]|rfl) only [↓gsd,gs,gv,Nat.reduceAdd,Nat.reduceEqDiff, e9]
   ·simp (maxSteps:=4000000)(disch:=first|assumption|(simp only[dz];first|done|assumption|omega)|omega|apply_rules[Fr.refl,Fr.alloc,Fr.drew]|rfl) only [↓gsd,gs,gv,Nat.reduceAdd,Nat.reduceEqDiff, e10]
   ·simp (maxSteps:=4000000)(disch:=first|assumption|(simp only[dz];first|done|assumption|omega)|omega|apply_rules[Fr.refl,Fr.alloc,Fr.drew]|rfl) only [↓gsd,gs,gv,Nat.reduceAdd,Nat.reduceEqDiff, e11]
   ·simp (maxSteps:=4000000)(disch:=first|assumption|(simp only[dz];first|done|assumption|omega)|omega|apply_rules[Fr.refl,Fr.alloc,Fr.drew]|rfl) only [↓gsd,gs,gv,Nat.reduceAdd,Nat.reduceEqDiff, e12]
   ·simp (maxSteps:=4000000)(disch:=first|assumption|(simp only[dz];first|done|assumption|omega)|omega|apply_rules[Fr.refl,Fr.alloc,Fr.drew]|rfl) only [↓gsd,gs,gv,Nat.reduceAdd,Nat.reduceEqDiff, e13]
 ·have d : decide ((i : Int) < (a.length : Int)) = false := decide_eq_false (by omega)
  have hi' : i = a.length := by omega
  have hca : a.take i = a := List.take_of_length_le (by omega)
  rw [hca] at e14
  have hcl' := hcl a.length
  rw [List.take_length] at hcl'
  have dd : ∀ n : Int, decide (n = n) = true := fun n => decide_eq_true rfl
  by_cases q1 : (parseL a).2.2 = 0
  ·have d1 : decide ((parseL a).2.2 = 0) = true := decide_eq_true q1
   by_cases q2 : (parseL b).2.2 = 0
   ·have d2 : decide ((parseL b).2.2 = 0) = true := decide_eq_true q2
    have hzz := L3 q1 q2
    rw [hzz] at e12 e13 ho4
    obtain ⟨ra, hra, hoa⟩ := (ho2.fr hf3).fr hf4
    obtain ⟨rb, hrb, hob⟩ := ho3.fr hf4
    have hra' : ra.length ≤ 70000 := by have h := congrArg List.length hra; rw [List.length_map] at h; rw [h]; exact (parse_bd a).2.2
    have hrb' : rb.length ≤ 70000 := by have h := congrArg List.length hrb; rw [List.length_map] at h; rw [h]; exact (parse_bd b).2.2
    have hf6 : Fr [] w5 (w5.alloc (.cells #[] 33)) := (Fr.refl _ _).alloc _
    obtain ⟨v7, w7, hr7, hown7, hf7, hbk7⟩ := ap23 (ty := 23) (Own.new0 w5) (hoa.own.sl.frN hf6) (cells_oneC (enc := encStp) (fun _ => rfl) ra) (by omega)
    have hg6 : ∀ x, (Value.slice (some ⟨w5.heap.size, 0, none⟩) 0 0).ownBlock = some x → w5.heap.size ≤ x := fun x hx => by simp [Value.ownBlock] at hx; omega
    have hf07 : Fr [] w5 w7 := hf6.trans hf7 fun x hx => .inr (hg6 x (mem_blkL hx))
    have hg7 : ∀ x, v7.ownBlock = some x → w5.heap.size ≤ x := own_fresh hbk7 hg6 (by simp only [size_alloc]; omega)
    obtain ⟨v8, w8, hr8, hown8, hf8, hbk8⟩ := ap23 (ty := 23) hown7 (hob.own.sl.frN hf07) (cells_oneC (enc := encStp) (fun _ => rfl) rb) (by omega)
    have hf08 : Fr [] w5 w8 := hf07.trans hf8 fun x hx => .inr (hg7 x (mem_blkL hx))
    obtain ⟨va1, va2, hva⟩ := hoa.own.sl.form
    obtain ⟨vb1, vb2, hvb⟩ := hob.own.sl.form
    obtain ⟨v71, v72, hv7⟩ := hown7.sl.form
    rw [Nat.zero_add] at hv7
    have cw7 := cur w7
    have cw8 := cur w8
    rw [hva] at hr7
    rw [hvb, hv7] at hr8
    rw [hv7] at hr7
    obtain ⟨rz, hrz, hoz⟩ := ho4
    have hrows : RowsAt w8 v8 (ra ++ rb) := by
     refine ⟨?_, fun x hx => ?_⟩
     ·have := hown8.sl
      rw [Nat.zero_add, List.nil_append, ← cellsOf_append, ← List.length_append] at this
      exact this
     ·rcases List.mem_append.1 hx with h | h
      ·exact (Own.frN (hoa.ws x h) hf08).sl
      ·exact (Own.frN (hob.ws x h) hf08).sl
    simp (maxSteps:=4000000)(disch:=first|assumption|(simp only[dz];first|done|assumption|omega)|omega|apply_rules[Fr.refl,Fr.alloc,Fr.drew]|rfl) only [↓gd,gp,Nat.reduceAdd,Nat.reduceEqDiff, ↓hk6, e0, e15, e5, e7, e8, e10, e11, e12, e13, B_size, d, d1, d2, dd, hva, hvb, hr7, hr8]
    refine rsame_spec (hoz.rows.fr hf08) hrows (own_len hoz.own) (fun x hx => own_len (hoz.ws x hx)) fun w9 hf9 => ?_
    have cw9 := cur w9
    have hd9 : decide (rz.map Prod.fst = (ra ++ rb).map Prod.fst) = true := decide_eq_true (by rw [hrz, List.map_append, hra, hrb])
    simp (maxSteps:=4000000)(disch:=first|assumption|(simp only[dz];first|done|assumption|omega)|omega|apply_rules[Fr.refl,Fr.alloc,Fr.drew]|rfl) only [↓gd,gp,Nat.reduceAdd,Nat.reduceEqDiff, ↓hk6, hd9]
    exact hK _ ((hf04.trans' hf08).trans' hf9)
   ·have d2 : decide ((parseL b).2.2 = 0) = false := decide_eq_false q2
    obtain ⟨hz1, hz2⟩ := L2 q1 q2
    rw [hz1] at e13
    rw [hz2] at e12
    obtain ⟨pb1, pb2, _⟩ := parse_bd b
    have w1' : IntKind.i64.wrap ((cntL a : Int) + 1 + 2) = (cntL a : Int) + 1 + 2 := wrap64 (by omega) (by omega)
    have w2' : IntKind.i64.wrap ((cntL a : Int) + 1 + 2 + (parseL b).2.1) = (cntL a : Int) + 1 + 2 + (parseL b).2.1 := wrap64 (by omega) (by omega)
    simp (maxSteps:=4000000)(disch:=first|assumption|(simp only[dz];first|done|assumption|omega)|omega|apply_rules[Fr.refl,Fr.alloc,Fr.drew]|rfl) only [↓gd,gp,Nat.reduceAdd,Nat.reduceEqDiff, ↓hk6, e0, e14, e15, e7, e9, e10, e12, e13, B_size, d, d1, d2, dd, w1', w2']
    exact hK _ hf04
  ·have d1 : decide ((parseL a).2.2 = 0) = false := decide_eq_false q1
   have hzz := L1 q1
   rw [hzz] at e12 e13
   simp (maxSteps:=4000000)(disch:=first|assumption|(simp only[dz];first|done|assumption|omega)|omega|apply_rules[Fr.refl,Fr.alloc,Fr.drew]|rfl) only [↓gd,gp,Nat.reduceAdd,Nat.reduceEqDiff, ↓hk6, e0, e15, e7, e6, e12, e13, B_size, d, d1, dd]
   exact hK _ hf04
end Go.Proofs.YtbbjnplellanaaaDoor
