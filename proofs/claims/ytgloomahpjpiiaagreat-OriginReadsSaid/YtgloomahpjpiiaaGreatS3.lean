/- The store in memory, and what its functions do. The store in memory: what it is, New, Last, Oldest, slices.Clone of versions. slices.Clone of versions; sort.Search; Read. -/
import Derived.Test.YtgloomahpjpiiaaGreatC7
import Derived.Test.YtgloomahpjpiiaaGreatT0
import Derived.Test.YtgloomahpjpiiaaGreatOS
import Derived.Test.YtgloomahpjpiiaaGreatCG
set_option linter.unusedVariables false
set_option linter.unusedSimpArgs false
set_option maxRecDepth 10000
namespace Go.Proofs.YtgloomahpjpiiaaGreat.St
open Go.VW
def goodKey (k : ByteArray) : Bool := decide (1 ≤ (k.size : Int)) && decide ((k.size : Int) ≤ 32)
structure Wr where
 key : ByteArray
 has : Bool
 data : ByteArray
def goodWr (x : Wr) : Bool := goodKey x.key && (decide ((x.data.size : Int) ≤ 256) && (x.has || decide (x.data = ⟨#[]⟩)))
def encWr (x : Wr) : List Value := [.string x.key, .bool x.has, .string x.data]
theorem goodKey_spec {key : ByteArray} {w : World} {K : Value → World → Prop} (hK : K (.bool (goodKey key)) w) : CallsN Tryz.prog 72 [.string key] w K := by
 have cw := cur w
 refine call72 ?_
 cases h : decide (1 ≤ (key.size : Int)) <;> simp only [goodKey, h, Bool.true_and, Bool.false_and] at hK <;> simp (maxSteps:=4000000)(disch:=first|assumption|(simp only[dz];first|done|assumption|omega)|omega|apply_rules[Fr.refl,Fr.alloc,Fr.drew]|rfl) only [↓gd,gp,Nat.reduceAdd,Nat.reduceEqDiff, ↓hk72, h] <;> exact hK
theorem goodWr_spec {x : Wr} {w : World} {K : Value → World → Prop} (hK : ∀ w', Fr [] w w' → K (.bool (goodWr x)) w') : CallsN Tryz.prog 99 [.agg (encWr x).toArray] w K := by
 have cw := cur w
 refine call99 ?_
 unfold encWr
 simp (maxSteps:=4000000)(disch:=first|assumption|(simp only[dz];first|done|assumption|omega)|omega|apply_rules[Fr.refl,Fr.alloc,Fr.drew]|rfl) only [↓gd,gp,Nat.reduceAdd,Nat.reduceEqDiff, ↓hk99]
 refine goodKey_spec ?_
 have hK' := fun o => hK (w.alloc o) ((Fr.refl [] w).alloc o)
 cases h1 : goodKey x.key <;> cases h2 : decide ((x.data.size : Int) ≤ 256) <;> cases h3 : x.has <;>
  simp only [goodWr, h1, h2, h3, Bool.true_and, Bool.false_and, Bool.true_or, Bool.false_or] at hK' <;>
  simp (maxSteps:=4000000)(disch:=first|assumption|(simp only[dz];first|done|assumption|omega)|omega|apply_rules[Fr.refl,Fr.alloc,Fr.drew]|rfl) only [↓gd,gp,Nat.reduceAdd,Nat.reduceEqDiff, ↓hk99, h2, h3] <;> exact hK' _
theorem k9 : KeyOK Tryz.prog 9 Value.string := keyOK_string Tryz.runUnderlying9
def dup (l : List ByteArray) : Bool := !decide l.Nodup
def chk (ws : List Wr) : Int := if ws.length = 0 ∨ 8 < ws.length then 1 else if ws.all goodWr then (if (ws.map (·.key)).Nodup then 0 else 22) else 1
theorem dup_snoc (l : List ByteArray) (k : ByteArray) (b : Bool) (h : b = true ↔ k ∈ l) : dup (l ++ [k]) = (dup l || b) := by
 have e : (l ++ [k]).Nodup ↔ l.Nodup ∧ k ∉ l := by
  rw [List.nodup_append]
  constructor
  ·rintro ⟨h1, _, h3⟩
   exact ⟨h1, fun hk => h3 k hk k (by simp) rfl⟩
  ·rintro ⟨h1, h2⟩
   exact ⟨h1, by simp, fun a ha b hb => by simp at hb; subst hb; exact fun e => h2 (e ▸ ha)⟩
 unfold dup
 by_cases h1 : l.Nodup <;> cases b <;> simp_all
theorem encWr_len (x : Wr) : (encWr x).length = 3 := rfl
theorem check_spec {wv : Value} {ws : List Wr} {w : World} {K : Value → World → Prop} (hw : SlOf 3 encWr w wv ws) (hK : ∀ w', Fr [] w w' → K (.int .i64 (chk ws)) w') : CallsN Tryz.prog 87 [wv] w K := by
 obtain ⟨a, c, hv⟩ := hw.form
 have cw := cur w
 refine call87 ?_
 by_cases h0 : ws.length = 0
 ·have hK' := hK w (Fr.refl _ _)
  have e : chk ws = 1 := by simp [chk, h0]
  rw [e] at hK'
  rw [hv]
  simp (maxSteps:=4000000)(disch:=first|assumption|(simp only[dz];first|done|assumption|omega)|omega|apply_rules[Fr.refl,Fr.alloc,Fr.drew]|rfl) only [↓gd,gp,Nat.reduceAdd,Nat.reduceEqDiff, ↓hk87, h0, Int.natCast_zero, decide_true]
  exact hK'
 ·have e0 : decide ((ws.length : Int) = 0) = false := decide_eq_false (by omega)
  by_cases h8 : 8 < ws.length
  ·have hK' := hK w (Fr.refl _ _)
   have e : chk ws = 1 := by simp [chk, h8]
   have e8 : decide (8 < (ws.length : Int)) = true := decide_eq_true (by omega)
   rw [e] at hK'
   rw [hv]
   simp (maxSteps:=4000000)(disch:=first|assumption|(simp only[dz];first|done|assumption|omega)|omega|apply_rules[Fr.refl,Fr.alloc,Fr.drew]|rfl) only [↓gd,gp,Nat.reduceAdd,Nat.reduceEqDiff, ↓hk87, e0, e8]
   exact hK'
  ·have e8 : decide (8 < (ws.length : Int)) = false := decide_eq_false (by omega)
   have hmk := fun w => map_make (P := Tryz.prog) (t := 151) (kt' := 9) (et := 3) w
   rw [hv]
   simp (maxSteps:=4000000)(disch:=first|assumption|(simp only[dz];first|done|assumption|omega)|omega|apply_rules[Fr.refl,Fr.alloc,Fr.drew]|rfl) only [↓gd,gp,Nat.reduceAdd,Nat.reduceEqDiff, ↓hk87, e0, e8, hmk]
   rw [← hv]
   refine loop_intro (fun e w' => ∃ (i : Nat) (es : List (ByteArray × Value)), i ≤ ws.length ∧ e 18 = wv ∧ e 19 = .int .i64 ws.length ∧ e 20 = .int .i64 i ∧ e 3 = .map (some w.heap.size) ∧
     e 4 = .bool (dup ((ws.take i).map (·.key))) ∧ ((ws.take i).all goodWr = true) ∧ MapAt Value.string w'.heap[w.heap.size]? es ∧ (∀ k : ByteArray, (aget es k).isSome = true ↔ k ∈ (ws.take i).map (·.key)) ∧ Fr [] w w' ∧ w.heap.size < w'.heap.size)
    (fun e _ => ws.length - (numOf (e 20)).toNat) ?_ ?_
   ·refine ⟨0, [], by omega, ?_⟩
    simp (maxSteps:=4000000)(disch:=first|assumption|(simp only[dz];first|done|assumption|omega)|omega|apply_rules[Fr.refl,Fr.alloc,Fr.drew]|rfl) only [↓gsd,gs,gv,Nat.reduceAdd,Nat.reduceEqDiff, Int.natCast_zero, List.take_zero, List.map_nil, dup, List.nodup_nil, decide_true, List.all_nil, aget, List.not_mem_nil, Option.isSome_none, implies_true]
    exact ⟨MapAt.empty, (Fr.refl _ _).alloc _, by omega⟩
   ·rintro e w1 k ⟨i, es, hi, e18, e19, e20, e3, e4, hgood, hm, hes, hf, hsz⟩ hk
    have cw := cur w1
    by_cases hlt : i < ws.length
    ·have el : decide ((i : Int) < (ws.length : Int)) = true := decide_eq_true (by omega)
     obtain ⟨x, hx⟩ : ∃ x, ws[i]? = some x := ⟨ws[i], List.getElem?_eq_getElem hlt⟩
     obtain ⟨b, off, cap, o, hb, ho, hbl, hrow, hcell⟩ := (hw.frN hf).read encWr_len i x hx
     have i0 : (0 : Int) ≤ (i : Int) := by omega
     have i1 : (i : Int) < (ws.length : Int) := by omega
     have hrow' := fun orig K => hrow orig K
     simp (maxSteps:=4000000)(disch:=first|assumption|(simp only[dz];first|done|assumption|omega)|omega|apply_rules[Fr.refl,Fr.alloc,Fr.drew]|rfl) only [↓gd,gp,Nat.reduceAdd,Nat.reduceEqDiff, ↓hk87, e18, e19, e20, hb, i0, i1, Int.toNat_natCast, ho, hrow', encWr]
     refine goodWr_spec (x := x) ?_
     intro w2 hf2
     have cw2 := cur w2
     have hz2 := hf2.size
     simp only [gz] at hz2
     cases hg : goodWr x with
     | false =>
       have hf3 : Fr [] w w2 := (hf.alloc _).trans' hf2
       have e : chk ws = 1 := by
        have : ws.all goodWr = false := by
         rw [List.all_eq_false]
         exact ⟨x, List.mem_of_getElem? hx, by simp [hg]⟩
        simp [chk, h0, h8, this]
       have hK' := hK w2 hf3
       rw [e] at hK'
       simp (maxSteps:=4000000)(disch:=first|assumption|(simp only[dz];first|done|assumption|omega)|omega|apply_rules[Fr.refl,Fr.alloc,Fr.drew]|rfl) only [↓gd,gp,Nat.reduceAdd,Nat.reduceEqDiff, ↓hk87]
       exact hK'
     | true =>
       have hb2 := hf2.getN (get_alloc_new w1 _)
       have hm2 : MapAt Value.string w2.heap[w.heap.size]? es := by
        rw [hf2.keepN _ (by rw [size_alloc]; omega), get_alloc_old _ _ _ hsz]; exact hm
       have hl := fun k => map_lookup2 Tryz.runUnderlying151 k9 Tryz.zeroValue3 hm2 k
       obtain ⟨o2, hup, hm3⟩ := map_update Tryz.runUnderlying151 k9 hm2 x.key (.int .i64 i)
       have hgood' : (ws.take (i + 1)).all goodWr = true := by
        rw [List.take_add_one, hx]; simp [hgood, hg]
       have hkeys : (ws.take (i + 1)).map (·.key) = (ws.take i).map (·.key) ++ [x.key] := by
        rw [List.take_add_one, hx]; simp
       have hdup : dup ((ws.take (i + 1)).map (·.key)) = (dup ((ws.take i).map (·.key)) || (aget es x.key).isSome) := by
        rw [hkeys]; exact dup_snoc _ _ _ (hes x.key)
       have hf3 : Fr [] w (w2.setB w.heap.size o2) := ((hf.alloc _).trans' hf2).setB _ _ (.inr (Nat.le_refl _))
       have hes' : ∀ k : ByteArray, (aget (aset es x.key (.int .i64 i)) k).isSome = true ↔ k ∈ (ws.take (i + 1)).map (·.key) := by
        intro k
        rw [hkeys, aget_aset, List.mem_append, List.mem_singleton, ← hes k]
        by_cases h : x.key = k
        ·simp [h]
        ·have h' : ¬ k = x.key := fun e => h e.symm
         simp [h, h']
       have hm4 : MapAt Value.string (w2.setB w.heap.size o2).heap[w.heap.size]? (aset es x.key (.int .i64 i)) := by
        rw [get_setB_same _ _ _ (by omega)]; exact hm3
       cases hd : dup ((ws.take i).map (·.key)) <;> rw [hd] at hdup e4 <;> simp only [Bool.true_or, Bool.false_or] at hdup
       all_goals
        simp (maxSteps:=4000000)(disch:=first|assumption|(simp only[dz];first|done|assumption|omega)|omega|apply_rules[Fr.refl,Fr.alloc,Fr.drew]|rfl) only [↓gd,gp,Nat.reduceAdd,Nat.reduceEqDiff, ↓hk87, e3, e4, e20, hb2, hl, encWr, hup]
        refine hk _ _ ⟨i + 1, _, by omega, ?_, ?_, ?_, ?_, ?_, hgood', hm4, hes', hf3, by rw [size_setB]; omega⟩ ?_
        all_goals simp (maxSteps:=4000000)(disch:=first|assumption|(simp only[dz];first|done|assumption|omega)|omega|apply_rules[Fr.refl,Fr.alloc,Fr.drew]|rfl) only [↓gsd,gs,gv,Nat.reduceAdd,Nat.reduceEqDiff, e18, e19, e20, e3, hdup, numOf, Int.toNat_natCast, Int.natCast_add, Int.natCast_one]
        omega
    ·have el : decide ((i : Int) < (ws.length : Int)) = false := decide_eq_false (by omega)
     have hw0 : ws.take i = ws := List.take_of_length_le (by omega)
     rw [hw0] at e4 hgood
     have i1 : ¬ (i : Int) < (ws.length : Int) := by omega
     have hK' := hK w1 hf
     cases hd : dup (ws.map (·.key)) <;> rw [hd] at e4
     ·have e : chk ws = 0 := by
       have : (ws.map (·.key)).Nodup := by simpa [dup] using hd
       simp [chk, h0, h8, hgood, this]
      rw [e] at hK'
      simp (maxSteps:=4000000)(disch:=first|assumption|(simp only[dz];first|done|assumption|omega)|omega|apply_rules[Fr.refl,Fr.alloc,Fr.drew]|rfl) only [↓gd,gp,Nat.reduceAdd,Nat.reduceEqDiff, ↓hk87, e18, e19, e20, e4, i1]
      exact hK'
     ·have e : chk ws = 22 := by
       have : ¬ (ws.map (·.key)).Nodup := by simpa [dup] using hd
       simp [chk, h0, h8, hgood, this]
      rw [e] at hK'
      simp (maxSteps:=4000000)(disch:=first|assumption|(simp only[dz];first|done|assumption|omega)|omega|apply_rules[Fr.refl,Fr.alloc,Fr.drew]|rfl) only [↓gd,gp,Nat.reduceAdd,Nat.reduceEqDiff, ↓hk87, e18, e19, e20, e4, i1]
      exact hK'
end Go.Proofs.YtgloomahpjpiiaaGreat.St
namespace Go.Proofs.YtgloomahpjpiiaaGreat.St
open Go.VW
structure Ver where
 n : Int
 has : Bool
 data : ByteArray
 deriving DecidableEq
def encVer (x : Ver) : List Value := [.int .i64 x.n, .bool x.has, .string x.data]
theorem encVer_len (x : Ver) : (encVer x).length = 3 := rfl
structure Row where
 list : List Ver
 dropped : Bool
structure St where
 rows : List (ByteArray × Row)
 most : Nat
 last : Int
def St.row (st : St) (k : ByteArray) : Row := (aget st.rows k).getD ⟨[], false⟩
/-- The slice's block holds elements of type e. -/
def BlkT (e : TypeId) (w : World) (s : Value) : Prop := ∀ a n c, s = .slice a n c → n ≤ c ∧ ∀ a', a = some a' → ∃ cs fr, w.heap[a'.block]? = some (.cells cs e fr)
theorem BlkT.fr {e : TypeId} {w w' : World} {s : Value} (h : BlkT e w s) {M : List Nat} (hf : Fr M w w') (hM : ∀ x ∈ M, ∀ cs fr, w.heap[x]? ≠ some (.cells cs e fr)) : BlkT e w' s := fun a n c hs =>
 ⟨(h a n c hs).1, fun a' ha => by
   obtain ⟨cs, fr, hb⟩ := (h a n c hs).2 a' ha
   exact ⟨cs, fr, hf.get hb fun hm => hM _ hm cs fr hb⟩⟩
theorem BlkT.off {e : TypeId} {w : World} {s : Value} (h : BlkT e w s) {x : Nat} (hx : ∀ cs fr, w.heap[x]? ≠ some (.cells cs e fr)) : offV s x := fun a n c hs he => by
 obtain ⟨cs, fr, hb⟩ := (h (some a) n c hs).2 a rfl
 exact hx cs fr (he ▸ hb)
theorem BlkT.nil {e : TypeId} {w : World} : BlkT e w (.slice none 0 0) := fun a n c h => by
 simp only [Value.slice.injEq] at h
 exact ⟨by omega, fun a' ha => by rw [← h.1] at ha; cases ha⟩
/-- A row in memory. -/
def RowV (w : World) (v : Value) (r : Row) : Prop := ∃ s, v = .agg ([s, .bool r.dropped] : List Value).toArray ∧ SlOf 3 encVer w s r.list ∧ BlkT 94 w s
theorem RowV.fr {w w' : World} {v : Value} {r : Row} (h : RowV w v r) {M : List Nat} (hf : Fr M w w') (hM : ∀ x ∈ M, ∀ cs fr, w.heap[x]? ≠ some (.cells cs 94 fr)) : RowV w' v r := by
 obtain ⟨s, hv, hs, hb⟩ := h
 exact ⟨s, hv, hs.fr hf fun x hx => hb.off (hM x hx), hb.fr hf hM⟩
theorem RowV.nil {w : World} : RowV w (.agg ([.slice none 0 0, .bool false] : List Value).toArray) ⟨[], false⟩ := ⟨_, rfl, Sl.nil, BlkT.nil⟩
/-- The rows of a store in memory. -/
def RowsAt (w : World) (o : Option Obj) (rows : List (ByteArray × Row)) : Prop :=
 ∃ es, MapAt Value.string o es ∧ es.map (·.1) = rows.map (·.1) ∧ ∀ k v r, aget es k = some v → aget rows k = some r → RowV w v r
structure StoreAt (w : World) (b bm : Nat) (st : St) : Prop where
 head : w.heap[b]? = some (.cells ([.map (some bm), .int .i64 st.most, .int .i64 st.last] : List Value).toArray 103 (0, 0))
 rows : RowsAt w w.heap[bm]? st.rows
theorem RowsAt.fr {w w' : World} {o : Option Obj} {rows : List (ByteArray × Row)} (h : RowsAt w o rows) {M : List Nat} (hf : Fr M w w') (hM : ∀ x ∈ M, ∀ cs fr, w.heap[x]? ≠ some (.cells cs 94 fr)) : RowsAt w' o rows := by
 obtain ⟨es, hm, hk, hr⟩ := h
 exact ⟨es, hm, hk, fun k v r h1 h2 => (hr k v r h1 h2).fr hf hM⟩
theorem StoreAt.lt {w : World} {b bm : Nat} {st : St} (h : StoreAt w b bm st) : b < w.heap.size ∧ bm < w.heap.size ∧ b ≠ bm := by
 obtain ⟨es, hm, _⟩ := h.rows
 obtain ⟨ents, clock, ho, _⟩ := hm.ex
 refine ⟨lt_of_get _ _ h.head, lt_of_get _ _ ho, fun e => ?_⟩
 rw [← e, h.head] at ho
 cases ho
theorem StoreAt.frN {w w' : World} {b bm : Nat} {st : St} (h : StoreAt w b bm st) (hf : Fr [] w w') : StoreAt w' b bm st :=
 ⟨hf.getN h.head, by rw [hf.keepN _ h.lt.2.1]; exact h.rows.fr hf (by simp)⟩
theorem aget_isSome_keys {α β : Type} {l : List (ByteArray × α)} {m : List (ByteArray × β)} (h : l.map (·.1) = m.map (·.1)) (k : ByteArray) : (aget l k).isSome = (aget m k).isSome := by
 have h1 := mem_keys_aget l k
 have h2 := mem_keys_aget m k
 rw [h] at h1
 cases hl : aget l k <;> cases hm : aget m k <;> simp_all
abbrev rowZ : Value := .agg ([.slice none 0 0, .bool false] : List Value).toArray
theorem RowsAt.get {w : World} {o : Option Obj} {rows : List (ByteArray × Row)} (h : RowsAt w o rows) (k : ByteArray) : ∃ es o', o = some o' ∧ MapAt Value.string (some o') es ∧ RowV w ((aget es k).getD rowZ) ((aget rows k).getD ⟨[], false⟩) := by
 obtain ⟨es, hm, hk, hr⟩ := h
 obtain ⟨ents, clock, ho, _⟩ := id hm.ex
 refine ⟨es, _, ho, ho ▸ hm, ?_⟩
 have hs := aget_isSome_keys hk k
 cases h1 : aget es k <;> cases h2 : aget rows k <;> simp [h1, h2] at hs
 ·exact RowV.nil
 ·exact hr k _ _ h1 h2
theorem StoreAt.get {w : World} {b bm : Nat} {st : St} (h : StoreAt w b bm st) (k : ByteArray) : ∃ es, MapAt Value.string w.heap[bm]? es ∧ RowV w ((aget es k).getD rowZ) (st.row k) := by
 obtain ⟨es, hm, hk, hr⟩ := h.rows
 refine ⟨es, hm, ?_⟩
 have hs := aget_isSome_keys hk k
 unfold St.row
 cases h1 : aget es k <;> cases h2 : aget st.rows k <;> simp [h1, h2] at hs
 ·exact RowV.nil
 ·exact hr k _ _ h1 h2
def St.new (n : Int) : St := ⟨[], (min (max n 1) 64).toNat, 0⟩
structure St.WF (st : St) : Prop where
 m1 : 1 ≤ st.most
 m2 : st.most ≤ 64
 l0 : 0 ≤ st.last
 l1 : st.last ≤ 1099511627776
 rows : ∀ k r, aget st.rows k = some r → r.list ≠ [] ∧ r.list.length ≤ st.most ∧ r.list.Pairwise (fun a b => a.n < b.n) ∧ ∀ x ∈ r.list, 1 ≤ x.n ∧ x.n ≤ st.last
theorem St.new_wf (n : Int) : (St.new n).WF := by
 refine ⟨?_, ?_, Int.le_refl _, ?_, fun k r h => ?_⟩
 ·simp only [St.new]; omega
 ·simp only [St.new]; omega
 ·show (0 : Int) ≤ _; omega
 ·simp [St.new, aget] at h
theorem new_spec {n : Int} {w : World} {K : Value → World → Prop} (hK : ∀ b bm w', Fr [] w w' → w.heap.size ≤ b → w.heap.size ≤ bm → StoreAt w' b bm (St.new n) → K (.pointer (some ⟨b, 0, none⟩)) w') : CallsN Tryz.prog 26 [.int .i64 n] w K := by
 have cw := cur w
 have hmk := fun w => map_make (P := Tryz.prog) (t := 101) (kt' := 9) (et := 128) w
 refine call26 ?_
 simp (maxSteps:=4000000)(disch:=first|assumption|(simp only[dz];first|done|assumption|omega)|omega|apply_rules[Fr.refl,Fr.alloc,Fr.drew]|rfl) only [↓gd,gp,Nat.reduceAdd,Nat.reduceEqDiff, ↓hk26, hmk]
 have e : ((St.new n).most : Int) = min (max n 1) 64 := by simp only [St.new]; omega
 refine hK _ w.heap.size _ (((Fr.refl _ _).alloc _).alloc _) ?_ (Nat.le_refl _) ⟨?_, [], ?_, rfl, ?_⟩
 ·omega
 ·rw [e, ← size_alloc w (.map #[] 0)]; exact get_alloc_new _ _
 ·rw [get_alloc_old _ _ _ (by simp only [gz]; omega), get_alloc_new]; exact MapAt.empty
 ·intro k v r h; simp [aget] at h
theorem last_spec {b bm : Nat} {st : St} {w : World} {K : Value → World → Prop} (h : StoreAt w b bm st) (hK : K (.int .i64 st.last) w) : CallsN Tryz.prog 37 [.pointer (some ⟨b, 0, none⟩)] w K := by
 have cw := cur w
 have hb := h.head
 refine call37 ?_
 simp (maxSteps:=4000000)(disch:=first|assumption|(simp only[dz];first|done|assumption|omega)|omega|apply_rules[Fr.refl,Fr.alloc,Fr.drew]|rfl) only [↓gd,gp,Nat.reduceAdd,Nat.reduceEqDiff, ↓hk37, hb]
 exact hK
def St.oldest (st : St) (k : ByteArray) : Int := if (st.row k).dropped then ((st.row k).list.head?.map (·.n)).getD 0 else 0
theorem St.WF.row {st : St} (h : st.WF) (k : ByteArray) : (st.row k).list.length ≤ st.most ∧ (st.row k).list.Pairwise (fun a b => a.n < b.n) ∧ (∀ x ∈ (st.row k).list, 1 ≤ x.n ∧ x.n ≤ st.last) ∧ ((st.row k).dropped = true → (st.row k).list ≠ []) := by
 unfold St.row
 cases hr : aget st.rows k with
 | none => exact ⟨Nat.zero_le _, List.Pairwise.nil, by simp, by simp⟩
 | some r => exact ⟨(h.rows k r hr).2.1, (h.rows k r hr).2.2.1, (h.rows k r hr).2.2.2, fun _ => (h.rows k r hr).1⟩
theorem oldest_spec {b bm : Nat} {st : St} {w : World} {key : ByteArray} {K : Value → World → Prop} (h : StoreAt w b bm st) (hwf : st.WF) (hK : K (.int .i64 (st.oldest key)) w) :
  CallsN Tryz.prog 43 [.pointer (some ⟨b, 0, none⟩), .string key] w K := by
 have cw := cur w
 have hb := h.head
 obtain ⟨es, hm, s, hv, hs, _⟩ := h.get key
 have hl := map_lookup Tryz.runUnderlying101 k9 Tryz.zeroValue128 hm key
 rw [hv] at hl
 refine call43 ?_
 cases hd : (st.row key).dropped with
 | false =>
   rw [hd] at hl
   have e : st.oldest key = 0 := by simp [St.oldest, hd]
   rw [e] at hK
   simp (maxSteps:=4000000)(disch:=first|assumption|(simp only[dz];first|done|assumption|omega)|omega|apply_rules[Fr.refl,Fr.alloc,Fr.drew]|rfl) only [↓gd,gp,Nat.reduceAdd,Nat.reduceEqDiff, ↓hk43, hb, hl]
   exact hK
 | true =>
   rw [hd] at hl
   obtain ⟨x, hx⟩ : ∃ x, (st.row key).list[0]? = some x := by
    cases hc : (st.row key).list with
    | nil => exact absurd hc ((hwf.row key).2.2.2 hd)
    | cons x l => exact ⟨x, rfl⟩
   have e : st.oldest key = x.n := by simp [St.oldest, hd, List.head?_eq_getElem?, hx]
   rw [e] at hK
   obtain ⟨bb, off, cap, o, hsv, ho, hbl, hrow, hcell⟩ := hs.read encVer_len 0 x hx
   have i0 : (0 : Int) ≤ (0 : Int) := by omega
   have i1 : (0 : Int) < ((st.row key).list.length : Int) := by
    have := (List.getElem?_eq_some_iff.1 hx).1; omega
   have hc0 := fun orig K => hcell 0 (.int .i64 x.n) orig K rfl
   simp only [Nat.zero_mul, Nat.add_zero] at hc0
   simp (maxSteps:=4000000)(disch:=first|assumption|(simp only[dz];first|done|assumption|omega)|omega|apply_rules[Fr.refl,Fr.alloc,Fr.drew]|rfl) only [↓gd,gp,Nat.reduceAdd,Nat.reduceEqDiff, ↓hk43, hb, hl, hsv, i0, i1, Int.toNat_zero, Nat.zero_mul, Nat.add_zero, ho, hc0]
   exact hK
end Go.Proofs.YtgloomahpjpiiaaGreat.St
namespace Go.Proofs.YtgloomahpjpiiaaGreat.St
open Go.VW
theorem encVer_oneC (x : Ver) : (encVer x).all oneC = true := rfl
theorem clone_spec {v : Value} {xs : List Ver} {w : World} {K : Value → World → Prop} (h : SlOf 3 encVer w v xs) (hlen : xs.length ≤ 1000000)
  (hK : ∀ v' w', Own 3 94 w' v' xs.length (cellsOf encVer xs) → Fr [] w w' → (∀ b, v'.ownBlock = some b → w.heap.size ≤ b) → K v' w') : CallsN Tryz.prog 88 [v] w K := by
 obtain ⟨a, c, hv⟩ := h.form
 have cw := cur w
 refine call88 ?_
 cases a with
 | none =>
   have hx : xs = [] := List.eq_nil_of_length_eq_zero (Sl.none (hv ▸ h))
   simp (maxSteps:=4000000)(disch:=first|assumption|(simp only[dz];first|done|assumption|omega)|omega|apply_rules[Fr.refl,Fr.alloc,Fr.drew]|rfl) only [↓gd,gp,Nat.reduceAdd,Nat.reduceEqDiff, ↓hk88, hv]
   subst hx
   exact hK _ _ Own.nil (Fr.refl _ _) (by simp [Value.ownBlock])
 | some a =>
   obtain ⟨v', w', hr, ho, hf, hb⟩ := ap91 (ty := 91) (Own.new0 w) (h.frN ((Fr.refl [] w).alloc _)) (cells_oneC encVer_oneC xs) (by omega)
   rw [hv] at hr
   simp (maxSteps:=4000000)(disch:=first|assumption|(simp only[dz];first|done|assumption|omega)|omega|apply_rules[Fr.refl,Fr.alloc,Fr.drew]|rfl) only [↓gd,gp,Nat.reduceAdd,Nat.reduceEqDiff, ↓hk88, hv, hr]
   refine hK v' w' (by simpa using ho) (((Fr.refl [] w).alloc _).trans hf fun x hx => ?_) fun b hb' => ?_
   ·simp only [blkL, Value.ownBlock, List.mem_singleton] at hx
    exact .inr (by omega)
   ·rcases hb with hb | ⟨b', hb1, hb2⟩
    ·rw [hb] at hb'
     simp only [Value.ownBlock, Option.some.injEq] at hb'
     omega
    ·rw [hb1] at hb'
     simp only [Option.some.injEq] at hb'
     rw [size_alloc] at hb2
     omega
/-! ### Search -/
def idx (l : List Ver) (c : Int) : Nat := (l.takeWhile fun v => decide (v.n ≤ c)).length
theorem idx_eq {l : List Ver} {c : Int} {i : Nat} (hi : i ≤ l.length) (h1 : ∀ t x, t < i → l[t]? = some x → x.n ≤ c) (h2 : ∀ t x, i ≤ t → l[t]? = some x → c < x.n) : idx l c = i := by
 induction l generalizing i with
 | nil => simp at hi; simp [idx, hi]
 | cons a l ih =>
   cases i with
   | zero =>
     have := h2 0 a (Nat.le_refl _) rfl
     have h : ¬ a.n ≤ c := by omega
     simp [idx, h]
   | succ i =>
     have h : a.n ≤ c := h1 0 a (by omega) rfl
     have := ih (i := i) (by simpa using hi) (fun t x ht hx => h1 (t + 1) x (by omega) hx) (fun t x ht hx => h2 (t + 1) x (by omega) hx)
     simp only [idx] at this ⊢
     simp [h, this]
theorem cmp_spec {w : World} {i : Nat} {c : Int} {l : List Ver} {s : Value} {b8 b5 : Nat} {x : Ver} {K : Value → World → Prop} (h8 : w.heap[b8]? = some (.cells ([s] : List Value).toArray 91 (0, 0))) (h5 : w.heap[b5]? = some (.cells ([.int .i64 c] : List Value).toArray 2 (0, 0)))
  (hs : SlOf 3 encVer w s l) (hx : l[i]? = some x) (hK : ∀ w', Fr [] w w' → K (.bool (decide (c < x.n))) w') :
  CallsN Tryz.prog 74 [.int .i64 i, .pointer (some ⟨b8, 0, none⟩), .pointer (some ⟨b5, 0, none⟩)] w K := by
 have cw := cur w
 refine call74 ?_
 obtain ⟨bb, off, cap, o, hsv, ho, hbl, hrow, hcell⟩ := hs.read encVer_len i x hx
 have i0 : (0 : Int) ≤ (i : Int) := by omega
 have i1 : (i : Int) < (l.length : Int) := by
  have := (List.getElem?_eq_some_iff.1 hx).1; omega
 have hc0 := fun orig K => hcell 0 (.int .i64 x.n) orig K rfl
 simp only [Nat.add_zero] at hc0
 rw [hsv] at h8
 have cd := cur w.drew
 simp (maxSteps:=4000000)(disch:=first|assumption|(simp only[dz];first|done|assumption|omega)|omega|apply_rules[Fr.refl,Fr.alloc,Fr.drew]|rfl) only [↓gd,gp,Nat.reduceAdd,Nat.reduceEqDiff, ↓hk74]
 simp (maxSteps:=4000000)(disch:=first|assumption|(simp only[dz];first|done|assumption|omega)|omega|apply_rules[Fr.refl,Fr.alloc,Fr.drew]|rfl) only [↓gd,gp,Nat.reduceAdd,Nat.reduceEqDiff, ↓hk74, h8, h5, i0, i1, Int.toNat_natCast, ho, hc0]
 exact hK _ (Fr.refl _ _).drew
theorem search_spec {w : World} {c : Int} {l : List Ver} {s : Value} {b8 b5 : Nat} {K : Value → World → Prop} (h8 : w.heap[b8]? = some (.cells ([s] : List Value).toArray 91 (0, 0))) (h5 : w.heap[b5]? = some (.cells ([.int .i64 c] : List Value).toArray 2 (0, 0)))
  (hs : SlOf 3 encVer w s l) (hso : l.Pairwise fun a b => a.n < b.n) (hlen : l.length ≤ 1000000) (hK : ∀ w', Fr [] w w' → K (.int .i64 (idx l c)) w') :
  CallsN Tryz.prog 73 [.int .i64 l.length, .func (.func 74) #[] #[.pointer (some ⟨b8, 0, none⟩), .pointer (some ⟨b5, 0, none⟩)]] w K := by
 have cw := cur w
 refine call73 ?_
 simp (maxSteps:=4000000)(disch:=first|assumption|(simp only[dz];first|done|assumption|omega)|omega|apply_rules[Fr.refl,Fr.alloc,Fr.drew]|rfl) only [↓gd,gp,Nat.reduceAdd,Nat.reduceEqDiff, ↓hk73]
 refine loop_intro (fun e w' => ∃ i j : Nat, i ≤ j ∧ j ≤ l.length ∧ e 0 = .int .i64 l.length ∧ e 1 = .func (.func 74) #[] #[.pointer (some ⟨b8, 0, none⟩), .pointer (some ⟨b5, 0, none⟩)] ∧
   e 5 = .int .i64 i ∧ e 6 = .int .i64 j ∧ (∀ t x, t < i → l[t]? = some x → x.n ≤ c) ∧ (∀ t x, j ≤ t → l[t]? = some x → c < x.n) ∧ Fr [] w w')
  (fun e _ => (numOf (e 6)).toNat - (numOf (e 5)).toNat) ?_ ?_
 ·refine ⟨0, l.length, by omega, by omega, ?_⟩
  simp (maxSteps:=4000000)(disch:=first|assumption|(simp only[dz];first|done|assumption|omega)|omega|apply_rules[Fr.refl,Fr.alloc,Fr.drew]|rfl) only [↓gsd,gs,gv,Nat.reduceAdd,Nat.reduceEqDiff, Int.natCast_zero]
  refine ⟨fun t x ht => by omega, fun t x ht hx => ?_, Fr.refl _ _⟩
  rw [List.getElem?_eq_none ht] at hx; cases hx
 ·rintro e w1 k ⟨i, j, hij, hj, e0, e1, e5, e6, h1, h2, hf⟩ hk
  have cw := cur w1
  by_cases hlt : i < j
  ·have el : decide ((i : Int) < (j : Int)) = true := decide_eq_true (by omega)
   have hd : ((i : Int) + (j : Int)).fdiv 2 = (((i + j) / 2 : Nat) : Int) := by
    rw [Int.fdiv_eq_ediv_of_nonneg _ (by omega)]; omega
   obtain ⟨m, hm⟩ : ∃ m, m = (i + j) / 2 := ⟨_, rfl⟩
   rw [← hm] at hd
   have hml : m < l.length := by omega
   obtain ⟨x, hx⟩ : ∃ x, l[m]? = some x := ⟨l[m], List.getElem?_eq_getElem hml⟩
   simp (maxSteps:=4000000)(disch:=first|assumption|(simp only[dz];first|done|assumption|omega)|omega|apply_rules[Fr.refl,Fr.alloc,Fr.drew]|rfl) only [↓gd,gp,Nat.reduceAdd,Nat.reduceEqDiff, ↓hk73, e5, e6, el, hd, e1]
   refine cmp_spec (hf.getN h8) (hf.getN h5) (hs.frN hf) hx ?_
   intro w2 hf2
   have cw2 := cur w2
   have sorted : ∀ (t u : Nat) (y z : Ver), t < u → l[t]? = some y → l[u]? = some z → y.n < z.n := fun t u y z htu hy hz => by
    obtain ⟨h1, rfl⟩ := List.getElem?_eq_some_iff.1 hy
    obtain ⟨h2, rfl⟩ := List.getElem?_eq_some_iff.1 hz
    exact List.pairwise_iff_getElem.1 hso t u h1 h2 htu
   by_cases hc : c < x.n
   ·have hc' : decide (c < x.n) = true := decide_eq_true hc
    simp (maxSteps:=4000000)(disch:=first|assumption|(simp only[dz];first|done|assumption|omega)|omega|apply_rules[Fr.refl,Fr.alloc,Fr.drew]|rfl) only [↓gd,gp,Nat.reduceAdd,Nat.reduceEqDiff, ↓hk73, hc', e5, e6]
    refine hk _ _ ⟨i, m, by omega, by omega, ?_, ?_, ?_, ?_, h1, ?_, hf.trans' hf2⟩ ?_
    ·simp (maxSteps:=4000000)(disch:=first|assumption|(simp only[dz];first|done|assumption|omega)|omega|apply_rules[Fr.refl,Fr.alloc,Fr.drew]|rfl) only [↓gsd,gs,gv,Nat.reduceAdd,Nat.reduceEqDiff, e0]
    ·simp (maxSteps:=4000000)(disch:=first|assumption|(simp only[dz];first|done|assumption|omega)|omega|apply_rules[Fr.refl,Fr.alloc,Fr.drew]|rfl) only [↓gsd,gs,gv,Nat.reduceAdd,Nat.reduceEqDiff, e1]
    ·simp (maxSteps:=4000000)(disch:=first|assumption|(simp only[dz];first|done|assumption|omega)|omega|apply_rules[Fr.refl,Fr.alloc,Fr.drew]|rfl) only [↓gsd,gs,gv,Nat.reduceAdd,Nat.reduceEqDiff, e5]
    ·simp (maxSteps:=4000000)(disch:=first|assumption|(simp only[dz];first|done|assumption|omega)|omega|apply_rules[Fr.refl,Fr.alloc,Fr.drew]|rfl) only [↓gsd,gs,gv,Nat.reduceAdd,Nat.reduceEqDiff]
    ·intro t y ht hy
     rcases Nat.lt_or_ge m t with h | h
     ·have := sorted m t x y h hx hy; omega
     ·obtain rfl : t = m := by omega
      rw [hx] at hy; cases hy; exact hc
    ·simp (maxSteps:=4000000)(disch:=first|assumption|(simp only[dz];first|done|assumption|omega)|omega|apply_rules[Fr.refl,Fr.alloc,Fr.drew]|rfl) only [↓gsd,gs,gv,Nat.reduceAdd,Nat.reduceEqDiff, e5, e6, numOf, Int.toNat_natCast]; omega
   ·have hc' : decide (c < x.n) = false := decide_eq_false hc
    simp (maxSteps:=4000000)(disch:=first|assumption|(simp only[dz];first|done|assumption|omega)|omega|apply_rules[Fr.refl,Fr.alloc,Fr.drew]|rfl) only [↓gd,gp,Nat.reduceAdd,Nat.reduceEqDiff, ↓hk73, hc', e5, e6]
    refine hk _ _ ⟨m + 1, j, by omega, by omega, ?_, ?_, ?_, ?_, ?_, h2, hf.trans' hf2⟩ ?_
    ·simp (maxSteps:=4000000)(disch:=first|assumption|(simp only[dz];first|done|assumption|omega)|omega|apply_rules[Fr.refl,Fr.alloc,Fr.drew]|rfl) only [↓gsd,gs,gv,Nat.reduceAdd,Nat.reduceEqDiff, e0]
    ·simp (maxSteps:=4000000)(disch:=first|assumption|(simp only[dz];first|done|assumption|omega)|omega|apply_rules[Fr.refl,Fr.alloc,Fr.drew]|rfl) only [↓gsd,gs,gv,Nat.reduceAdd,Nat.reduceEqDiff, e1]
    ·simp (maxSteps:=4000000)(disch:=first|assumption|(simp only[dz];first|done|assumption|omega)|omega|apply_rules[Fr.refl,Fr.alloc,Fr.drew]|rfl) only [↓gsd,gs,gv,Nat.reduceAdd,Nat.reduceEqDiff, Int.natCast_add, Int.natCast_one]
    ·simp (maxSteps:=4000000)(disch:=first|assumption|(simp only[dz];first|done|assumption|omega)|omega|apply_rules[Fr.refl,Fr.alloc,Fr.drew]|rfl) only [↓gsd,gs,gv,Nat.reduceAdd,Nat.reduceEqDiff, e6]
    ·intro t y ht hy
     rcases Nat.lt_or_ge t m with h | h
     ·have := sorted t m y x h hy hx; omega
     ·obtain rfl : t = m := by omega
      rw [hx] at hy; cases hy; omega
    ·have e3 : ((m : Int) + 1).toNat = m + 1 := by omega
     simp (maxSteps:=4000000)(disch:=first|assumption|(simp only[dz];first|done|assumption|omega)|omega|apply_rules[Fr.refl,Fr.alloc,Fr.drew]|rfl) only [↓gsd,gs,gv,Nat.reduceAdd,Nat.reduceEqDiff, e5, e6, numOf, Int.toNat_natCast, e3]; omega
  ·have el : decide ((i : Int) < (j : Int)) = false := decide_eq_false (by omega)
   obtain rfl : i = j := by omega
   have := idx_eq hj h1 h2
   have hK' := hK w1 hf
   rw [this] at hK'
   simp (maxSteps:=4000000)(disch:=first|assumption|(simp only[dz];first|done|assumption|omega)|omega|apply_rules[Fr.refl,Fr.alloc,Fr.drew]|rfl) only [↓gd,gp,Nat.reduceAdd,Nat.reduceEqDiff, ↓hk73, e5, e6, el]
   exact hK'
end Go.Proofs.YtgloomahpjpiiaaGreat.St
