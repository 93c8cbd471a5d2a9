/- slices.Delete of one entry, walked. A table in memory; a key's row; the place of an entry. Cost, Good, Drop of a table. -/
import Derived.Test.YtomlgkecckffeaaGreatA3
set_option linter.unusedVariables false
set_option linter.unusedSimpArgs false
set_option maxRecDepth 10000
namespace Go.Proofs.YtomlgkecckffeaaGreat
open Go.VW
theorem zeroEnt (w : World) : (zeroValue 52).run Tryz.prog w = .ok (.agg (encEnt ⟨⟨#[]⟩, false, ⟨#[]⟩, 0, 0, false, 0, 0⟩).toArray) w := by
 have hi : Tryz.prog.info? 52 = some Tryz.t52 := by kernel_rfl
 simp only [zeroValue, typeInfo, Sem.run_bind, hi]
 rfl
set_option maxHeartbeats 16000000 in
theorem del_spec {w : World} {v : Value} {l : Ents} {i : Nat} {K : Value → World → Prop} (h : Own 8 52 w v l.length (cellsOf encEnt l)) (hi : i < l.length) (hl : l.length ≤ 1000000000000)
  (hK : ∀ v' w', Own 8 52 w' v' (l.length - 1) (cellsOf encEnt (delL l i)) → v'.ownBlock = v.ownBlock → Fr (blkL v) w w' → K v' w') :
  CallsN Tryz.prog 151 [v, .int .i64 i, .int .i64 ((i : Int) + 1)] w K := by
 have cw := cur w
 obtain ⟨g, cap, hvg⟩ : ∃ g cap, v = .slice (some ⟨g, 0, none⟩) l.length cap := by
  rcases h.2 with ⟨_, h0⟩ | ⟨g, cap, cur', e', _⟩
  ·omega
  ·exact ⟨g, cap, e'⟩
 subst hvg
 obtain ⟨D, hb, hD, hnc, hcm, hT⟩ := own_blkD h
 have hgl := lt_of_get _ _ hb
 have hDl : l.length * 8 ≤ D.length := by rw [hD]; exact Nat.mul_le_mul_right 8 hnc
 have ei : (i : Int) + 1 = ((i + 1 : Nat) : Int) := by omega
 obtain ⟨v1, c0⟩ := cut_three0 (P := Tryz.prog) Tryz.runUnderlying41 Tryz.sizeOf52 g l.length cap i (i + 1) l.length (by omega) (by omega) hnc w
 have c1 := fun W => cut_high0 (P := Tryz.prog) Tryz.runUnderlying41 Tryz.sizeOf52 g l.length cap i (by omega) W
 have c2 := fun W => cut_low0 (P := Tryz.prog) Tryz.runUnderlying41 Tryz.sizeOf52 g l.length cap (i + 1) (by omega) hnc W
 rw [← ei] at c0 c2
 have p1 := fun K => takeP_xv (P := Tryz.prog) (M := none) (w0 := w.drew) c1 K
 have p2 := fun K => takeP_xv (P := Tryz.prog) (M := none) (w0 := w.drew) c2 K
 have d1 : decide ((i : Int) = (i : Int) + 1) = false := decide_eq_false (by omega)
 have hsuf : (D.drop ((i + 1) * 8)).take ((l.length - (i + 1)) * 8) = cellsOf encEnt (l.drop (i + 1)) := by
  rw [← cellsOf_drop encEnt_len, ← hT, List.drop_take]
  congr 1; omega
 have hsl : (cellsOf encEnt (l.drop (i + 1))).length = (l.length - (i + 1)) * 8 := by rw [cellsOf_length encEnt_len, List.length_drop]
 have hr := fun ty c => append_row (P := Tryz.prog) (w := w.drew) (t := 41) (ty := ty) (i0 := Tryz.t52) (k := 8) uEnts (by kernel_rfl) rfl (n := i) (cap := cap) (a := ⟨g, if cap = i + 1 then 0 else (i + 1) * 8, none⟩) (m := l.length - (i + 1)) (c := c) (cs := cellsOf encEnt (l.drop (i + 1))) hb hsl (fun j v hv => by
  split
  ·rw [List.drop_of_length_le (by omega)] at hv
   simp [cellsOf] at hv
  ·exact Blk.cellT (w := w.drew) hb ((i + 1) * 8) ((l.length - (i + 1)) * 8) j v (by rw [hsuf]; exact hv)) (by omega) (by rw [hsl]; omega) (cellsE_one _)
 refine call151 ?_
 simp (maxSteps:=9^7)(disch:=first|assumption|(simp only[dz];first|done|assumption|omega)|omega|apply_rules[Fr.refl,Fr.alloc,Fr.drew]|rfl) only [↓gd,gp,Nat.reduceAdd,Nat.reduceEqDiff, ↓hk151, c0, d1, p1, p2, hr]
 have hnl : i + (l.length - (i + 1)) = l.length - 1 := by omega
 generalize hD1 : D.take (i * 8) ++ cellsOf encEnt (l.drop (i + 1)) ++ D.drop (i * 8 + (cellsOf encEnt (l.drop (i + 1))).length) = D1
 have hl1 : D1.length = D.length := by rw [← hD1]; simp only [List.length_append, List.length_take, List.length_drop, hsl]; omega
 have hb1 : Blk (w.drew.setB g (.cells D1.toArray 52 (0, 0))) g 52 D1 := Blk.set (w := w.drew) hb D1
 have ht1 : D1.take ((l.length - 1) * 8) = cellsOf encEnt (delL l i) := by
  unfold delL
  rw [cellsOf_append, ← cells_take, ← hT, List.take_take, Nat.min_eq_left (by omega), ← hD1]
  have q1 : (D.take (i * 8)).length = i * 8 := by rw [List.length_take]; omega
  rw [List.take_append_of_le_length (by simp only [List.length_append, q1, hsl]; omega), List.take_of_length_le (by simp only [List.length_append, q1, hsl]; omega)]
 rw [hnl]
 have c3 := fun W => cut_both0 (P := Tryz.prog) Tryz.runUnderlying41 Tryz.sizeOf52 g (l.length - 1) cap (l.length - 1) l.length (by omega) hnc W
 have hcn : ¬ cap = l.length - 1 := by omega
 simp only [if_neg hcn] at c3
 obtain ⟨D2, hcl, hl2, ht2⟩ := clear_row (P := Tryz.prog) (t := 41) (ty := 0) (n := l.length - (l.length - 1)) (c := cap - (l.length - 1)) (o := (l.length - 1) * 8) Tryz.runUnderlying41 zeroEnt hb1 (by simp only [hl1]; show _ + _ * 8 ≤ _; omega) (by rfl)
 simp (maxSteps:=9^7)(disch:=first|assumption|(simp only[dz];first|done|assumption|omega)|omega|apply_rules[Fr.refl,Fr.alloc,Fr.drew]|rfl) only [↓gd,gp,Nat.reduceAdd,Nat.reduceEqDiff, ↓hk151, c3, nx_clear, vR_ok, hcl]
 try simp only [setB_setB]
 refine hK _ _ (own_of_blk (D := D2) (Blk.set (w := w.drew) hb D2) (by rw [hl2, hl1, hD]) (by omega) hcm (by rw [ht2 _ (Nat.le_refl _), ht1])) rfl ?_
 simpa [blkL, Value.ownBlock] using (Fr.refl [g] w).drew.setB g _ (.inl (by simp))
theorem mem_blkL {v : Value} {b : Nat} : b ∈ blkL v ↔ v.ownBlock = some b := by
 unfold blkL
 split
 ·rename_i g hg; rw [hg]; simp; exact eq_comm
 ·rename_i hg; rw [hg]; simp
theorem Own.frN {k n : Nat} {e : TypeId} {w w' : World} {v : Value} {cs : List Value} (h : Own k e w v n cs) (hf : Fr [] w w') : Own k e w' v n cs := h.fr (M := []) hf (by simp)
theorem own_head {k n : Nat} {e t : TypeId} {w : World} {v : Value} {cs : List Value} {b : Nat} {c : Array Value} {fr : Nat × Nat} (h : Own k e w v n cs) (hb : w.heap[b]? = some (.cells c t fr)) (he : e ≠ t) : v.ownBlock ≠ some b := by
 intro hb'
 rcases h.2 with ⟨rfl, _⟩ | ⟨g, cap, cur, rfl, _, hg, _⟩
 ·simp [Value.ownBlock] at hb'
 ·simp [Value.ownBlock] at hb'
  subst hb'
  rw [hg] at hb
  cases hb
  exact he rfl
theorem own_map {k n : Nat} {e : TypeId} {w : World} {v : Value} {cs : List Value} {b : Nat} {c : Array MapEntry} {cl : Nat} (h : Own k e w v n cs) (hb : w.heap[b]? = some (.map c cl)) : v.ownBlock ≠ some b := by
 intro hb'
 rcases h.2 with ⟨rfl, _⟩ | ⟨g, cap, cur, rfl, _, hg, _⟩
 ·simp [Value.ownBlock] at hb'
 ·simp [Value.ownBlock] at hb'
  subst hb'
  rw [hg] at hb
  cases hb
structure Tab where
 rows : List (ByteArray × Ents)
 n : Int
 bytes : Int
def Tab.row (T : Tab) (k : ByteArray) : Ents := (aget T.rows k).getD []
abbrev sliceZ : Value := .slice none 0 0
structure RowsM (w : World) (S : List Nat) (bm : Nat) (rows : List (ByteArray × Ents)) (es : List (ByteArray × Value)) : Prop where
 mem : bm ∈ S
 map : MapAt Value.string w.heap[bm]? es
 keys : es.map (·.1) = rows.map (·.1)
 own : ∀ k v l, aget es k = some v → aget rows k = some l → Own 8 52 w v l.length (cellsOf encEnt l) ∧ ∀ b, v.ownBlock = some b → b ∈ S
 apart : ∀ k k' v v', k ≠ k' → aget es k = some v → aget es k' = some v' → ∀ b, v.ownBlock = some b → v'.ownBlock ≠ some b
def RowsE (w : World) (S : List Nat) (mb : Option Nat) (rows : List (ByteArray × Ents)) : Prop := match mb with
 | none => rows = []
 | some bm => ∃ es, RowsM w S bm rows es
structure TabAt (w : World) (tb : Nat) (S : List Nat) (T : Tab) : Prop where
 ex : ∃ mb, w.heap[tb]? = some (.cells ([.map mb, .int .i64 T.n, .int .i64 T.bytes] : List Value).toArray 194 (0, 0)) ∧ RowsE w S mb T.rows
 tb : tb ∈ S
 lt : ∀ x ∈ S, x < w.heap.size
theorem RowsM.fr {w w' : World} {S M : List Nat} {bm : Nat} {rows : List (ByteArray × Ents)} {es : List (ByteArray × Value)} (h : RowsM w S bm rows es) (hlt : ∀ x ∈ S, x < w.heap.size) (hf : Fr M w w') (hM : ∀ x ∈ M, x ∉ S) : RowsM w' S bm rows es := by
 refine ⟨h.mem, ?_, h.keys, fun k v l h1 h2 => ?_, h.apart⟩
 ·rw [hf.keep bm (hlt bm h.mem) (fun hm => hM bm hm h.mem)]; exact h.map
 ·obtain ⟨a, b⟩ := h.own k v l h1 h2
  exact ⟨a.fr hf fun x hx e => hM x hx (b x e), b⟩
theorem RowsM.fr2 {w w' : World} {S M : List Nat} {bm : Nat} {rows : List (ByteArray × Ents)} {es : List (ByteArray × Value)} (h : RowsM w S bm rows es) (hf : Fr M w w') (h1 : bm ∉ M) (h2 : ∀ k v, aget es k = some v → ∀ b, v.ownBlock = some b → b ∉ M) : RowsM w' S bm rows es := by
 refine ⟨h.mem, ?_, h.keys, fun k v l e1 e2 => ?_, h.apart⟩
 ·rw [hf.keep bm h.map.lt h1]; exact h.map
 ·obtain ⟨a, b⟩ := h.own k v l e1 e2
  exact ⟨a.fr hf fun x hx e => h2 k v e1 x e hx, b⟩
theorem RowsM.head {w w' : World} {S : List Nat} {bm tb : Nat} {rows : List (ByteArray × Ents)} {es : List (ByteArray × Value)} (h : RowsM w S bm rows es) {c : Array Value} {fr : Nat × Nat} (hb : w.heap[tb]? = some (.cells c 194 fr)) (hf : Fr [tb] w w') : RowsM w' S bm rows es := by
 refine h.fr2 hf (fun hm => ?_) fun k v e1 b e2 hm => ?_
 ·obtain ⟨ents, clock, hbo, _⟩ := h.map.ex
  simp at hm; subst hm
  rw [hbo] at hb; cases hb
 ·simp at hm; subst hm
  have hk : k ∈ rows.map (·.1) := by rw [← h.keys]; exact (mem_keys_aget es k).2 ⟨v, e1⟩
  obtain ⟨l, e3⟩ := (mem_keys_aget rows k).1 hk
  exact own_head (h.own k v l e1 e3).1 hb (by decide) e2
theorem RowsE.fr {w w' : World} {S M : List Nat} {mb : Option Nat} {rows : List (ByteArray × Ents)} (h : RowsE w S mb rows) (hlt : ∀ x ∈ S, x < w.heap.size) (hf : Fr M w w') (hM : ∀ x ∈ M, x ∉ S) : RowsE w' S mb rows := by
 cases mb with
 | none => exact h
 | some bm => obtain ⟨es, h⟩ := h; exact ⟨es, h.fr hlt hf hM⟩
theorem TabAt.fr {w w' : World} {tb : Nat} {S M : List Nat} {T : Tab} (h : TabAt w tb S T) (hf : Fr M w w') (hM : ∀ x ∈ M, x ∉ S) : TabAt w' tb S T := by
 obtain ⟨⟨mb, h1, h2⟩, h3, h4⟩ := h
 exact ⟨⟨mb, hf.get h1 fun hm => hM _ hm h3, h2.fr h4 hf hM⟩, h3, fun x hx => Nat.lt_of_lt_of_le (h4 x hx) hf.size⟩
theorem TabAt.frN {w w' : World} {tb : Nat} {S : List Nat} {T : Tab} (h : TabAt w tb S T) (hf : Fr [] w w') : TabAt w' tb S T := h.fr hf (by simp)
theorem RowsM.get {w : World} {S : List Nat} {bm : Nat} {rows : List (ByteArray × Ents)} {es : List (ByteArray × Value)} (h : RowsM w S bm rows es) (k : ByteArray) :
  Own 8 52 w ((aget es k).getD sliceZ) ((aget rows k).getD []).length (cellsOf encEnt ((aget rows k).getD [])) ∧ ∀ b, ((aget es k).getD sliceZ).ownBlock = some b → b ∈ S := by
 have h1 := mem_keys_aget es k
 have h2 := mem_keys_aget rows k
 rw [h.keys] at h1
 cases hl : aget es k with
 | none =>
   cases hm : aget rows k with
   | none => exact ⟨Own.nil, fun b hb => by simp [Value.ownBlock] at hb⟩
   | some l => rw [hl] at h1; rw [hm] at h2; simp at h1 h2; exact (h2.elim fun x hx => h1 x hx).elim
 | some v =>
   cases hm : aget rows k with
   | none => rw [hl] at h1; rw [hm] at h2; simp at h1 h2; exact (h1.elim fun x hx => h2 x hx).elim
   | some l => exact h.own k v l hl hm
theorem row_spec {w : World} {tb : Nat} {S : List Nat} {T : Tab} {k : ByteArray} {K : Value → World → Prop} (h : TabAt w tb S T)
  (hK : ∀ v, Own 8 52 w v (T.row k).length (cellsOf encEnt (T.row k)) → (∀ b, v.ownBlock = some b → b ∈ S) → K v w) : CallsN Tryz.prog 136 [.pointer (some ⟨tb, 0, none⟩), .string k] w K := by
 have cw := cur w
 obtain ⟨⟨mb, h1, h2⟩, h3, h4⟩ := h
 have hlt := lt_of_get _ _ h1
 refine call136 ?_
 cases mb with
 | none =>
   have e : T.row k = [] := by unfold Tab.row; rw [show T.rows = [] from h2]; rfl
   rw [e] at hK
   have hnl := map_lookup_nil (P := Tryz.prog) (t := 192) Tryz.runUnderlying192 kOK192 Tryz.zeroValue41 w k
   simp (maxSteps:=9^7)(disch:=first|assumption|(simp only[dz];first|done|assumption|omega)|omega|apply_rules[Fr.refl,Fr.alloc,Fr.drew]|rfl) only [↓gd,gp,Nat.reduceAdd,Nat.reduceEqDiff, ↓hk136, h1, hnl]
   exact hK _ Own.nil fun b hb => by simp [Value.ownBlock] at hb
 | some bm =>
   obtain ⟨es, hr⟩ := h2
   obtain ⟨ents, clock, hbo, _⟩ := id hr.map.ex
   have hm := hr.map
   rw [hbo] at hm
   have hmv := fun orig K => mapV_at inj_string hm orig K
   obtain ⟨g1, g2⟩ := hr.get k
   simp (maxSteps:=9^7)(disch:=first|assumption|(simp only[dz];first|done|assumption|omega)|omega|apply_rules[Fr.refl,Fr.alloc,Fr.drew]|rfl) only [↓gd,gp,Nat.reduceAdd,Nat.reduceEqDiff, ↓hk136, h1, hbo, hmv]
   exact hK _ g1 g2
structure Tab.WF (T : Tab) (N : Nat) : Prop where
 sort : ∀ k, SortE (T.row k)
 len : ∀ k, (T.row k).length ≤ N
theorem find_spec {w : World} {tb : Nat} {S : List Nat} {T : Tab} {N : Nat} {k : ByteArray} {lo : Int} {K : Value → World → Prop} (h : TabAt w tb S T) (hwf : T.WF N) (hN : N ≤ 1000000000000)
  (hK : ∀ w', Fr [] w w' → K (.tuple ([.int .i64 (idxE (T.row k) lo), .bool (hasE (T.row k) lo)] : List Value).toArray) w') : CallsN Tryz.prog 150 [.pointer (some ⟨tb, 0, none⟩), .string k, .int .i64 lo] w K := by
 have cw := cur w
 refine call150 ?_
 simp (maxSteps:=9^7)(disch:=first|assumption|(simp only[dz];first|done|assumption|omega)|omega|apply_rules[Fr.refl,Fr.alloc,Fr.drew]|rfl) only [↓gd,gp,Nat.reduceAdd,Nat.reduceEqDiff, ↓hk150]
 refine row_spec h fun v hv _ => ?_
 try simp (maxSteps:=9^7)(disch:=first|assumption|(simp only[dz];first|done|assumption|omega)|omega|apply_rules[Fr.refl,Fr.alloc,Fr.drew]|rfl) only [↓gd,gp,Nat.reduceAdd,Nat.reduceEqDiff, ↓hk150]
 refine bs_spec (l := T.row k) hv.sl (hwf.sort k) (by have := hwf.len k; omega) fun w2 hf2 => ?_
 have cw2 := cur w2
 try simp (maxSteps:=9^7)(disch:=first|assumption|(simp only[dz];first|done|assumption|omega)|omega|apply_rules[Fr.refl,Fr.alloc,Fr.drew]|rfl) only [↓gd,gp,Nat.reduceAdd,Nat.reduceEqDiff, ↓hk150]
 exact hK _ hf2
def costE (e : Ent) : Int := IntKind.i64.wrap (IntKind.i64.wrap (32 + e.key.size) + e.data.size)
def encFct (e : Ent) : List Value := [.string e.key, .bool e.has, .string e.data, .int .i64 e.lo, .int .i64 e.hi]
theorem cost_spec {e : Ent} {w : World} {K : Value → World → Prop} (hK : ∀ w', Fr [] w w' → K (.int .i64 (costE e)) w') : CallsN Tryz.prog 115 [.agg (encFct e).toArray] w K := by
 have cw := cur w
 refine call115 ?_
 unfold encFct
 simp (maxSteps:=9^7)(disch:=first|assumption|(simp only[dz];first|done|assumption|omega)|omega|apply_rules[Fr.refl,Fr.alloc,Fr.drew]|rfl) only [↓gd,gp,Nat.reduceAdd,Nat.reduceEqDiff, ↓hk115]
 exact hK _ ((Fr.refl _ _).alloc _)
def goodE (e : Ent) : Bool := if (decide (e.key = (⟨#[]⟩ : ByteArray)) || decide ((32 : Int) < (e.key.size : Int))) = true then false else if (decide ((256 : Int) < (e.data.size : Int)) || (!e.has && !decide (e.data = (⟨#[]⟩ : ByteArray)))) = true then false else decide ((0 : Int) ≤ e.lo) && decide (e.lo ≤ (1099511627776 : Int)) && decide (e.lo < e.hi) && (decide (e.hi = (4611686018427387904 : Int)) || decide (e.hi ≤ (1099511627777 : Int)))
set_option maxHeartbeats 16000000 in
theorem good_spec {e : Ent} {w : World} {K : Value → World → Prop} (hK : ∀ w', Fr [] w w' → K (.bool (goodE e)) w') : CallsN Tryz.prog 48 [.agg (encFct e).toArray] w K := by
 have cw := cur w
 have hK' := hK _ ((Fr.refl [] w).alloc (.cells (encFct e).toArray 34))
 unfold goodE at hK'
 unfold encFct at hK' ⊢
 refine call48 ?_
 rcases Bool.eq_false_or_eq_true (decide (e.key = (⟨#[]⟩ : ByteArray))) with q0 | q0
 ·simp only [q0, Bool.true_or, Bool.false_or, Bool.or_true, Bool.or_false, Bool.true_and, Bool.false_and, Bool.and_true, Bool.and_false, Bool.not_true, Bool.not_false, if_true, if_false, reduceCtorEq, ite_true, ite_false] at hK'
  simp (maxSteps:=9^7)(disch:=first|assumption|(simp only[dz];first|done|assumption|omega)|omega|apply_rules[Fr.refl,Fr.alloc,Fr.drew]|rfl) only [↓gd,gp,Nat.reduceAdd,Nat.reduceEqDiff, ↓hk48, q0]
  exact hK'
 ·rcases Bool.eq_false_or_eq_true (decide ((32 : Int) < (e.key.size : Int))) with q1 | q1
  ·simp only [q0, q1, Bool.true_or, Bool.false_or, Bool.or_true, Bool.or_false, Bool.true_and, Bool.false_and, Bool.and_true, Bool.and_false, Bool.not_true, Bool.not_false, if_true, if_false, reduceCtorEq, ite_true, ite_false] at hK'
   simp (maxSteps:=9^7)(disch:=first|assumption|(simp only[dz];first|done|assumption|omega)|omega|apply_rules[Fr.refl,Fr.alloc,Fr.drew]|rfl) only [↓gd,gp,Nat.reduceAdd,Nat.reduceEqDiff, ↓hk48, q0, q1]
   exact hK'
  ·rcases Bool.eq_false_or_eq_true (decide ((256 : Int) < (e.data.size : Int))) with q2 | q2
   ·simp only [q0, q1, q2, Bool.true_or, Bool.false_or, Bool.or_true, Bool.or_false, Bool.true_and, Bool.false_and, Bool.and_true, Bool.and_false, Bool.not_true, Bool.not_false, if_true, if_false, reduceCtorEq, ite_true, ite_false] at hK'
    simp (maxSteps:=9^7)(disch:=first|assumption|(simp only[dz];first|done|assumption|omega)|omega|apply_rules[Fr.refl,Fr.alloc,Fr.drew]|rfl) only [↓gd,gp,Nat.reduceAdd,Nat.reduceEqDiff, ↓hk48, q0, q1, q2]
    exact hK'
   ·rcases Bool.eq_false_or_eq_true (e.has) with q3 | q3
    ·rcases Bool.eq_false_or_eq_true (decide ((0 : Int) ≤ e.lo)) with q5 | q5
     ·rcases Bool.eq_false_or_eq_true (decide (e.lo ≤ (1099511627776 : Int))) with q6 | q6
      ·rcases Bool.eq_false_or_eq_true (decide (e.lo < e.hi)) with q7 | q7
       ·rcases Bool.eq_false_or_eq_true (decide (e.hi = (4611686018427387904 : Int))) with q8 | q8
        ·simp only [q0, q1, q2, q3, q5, q6, q7, q8, Bool.true_or, Bool.false_or, Bool.or_true, Bool.or_false, Bool.true_and, Bool.false_and, Bool.and_true, Bool.and_false, Bool.not_true, Bool.not_false, if_true, if_false, reduceCtorEq, ite_true, ite_false] at hK'
         simp (maxSteps:=9^7)(disch:=first|assumption|(simp only[dz];first|done|assumption|omega)|omega|apply_rules[Fr.refl,Fr.alloc,Fr.drew]|rfl) only [↓gd,gp,Nat.reduceAdd,Nat.reduceEqDiff, ↓hk48, q0, q1, q2, q3, q5, q6, q7, q8]
         exact hK'
        ·rcases Bool.eq_false_or_eq_true (decide (e.hi ≤ (1099511627777 : Int))) with q9 | q9
         ·simp only [q0, q1, q2, q3, q5, q6, q7, q8, q9, Bool.true_or, Bool.false_or, Bool.or_true, Bool.or_false, Bool.true_and, Bool.false_and, Bool.and_true, Bool.and_false, Bool.not_true, Bool.not_false, if_true, if_false, reduceCtorEq, ite_true, ite_false] at hK'
          simp (maxSteps:=9^7)(disch:=first|assumption|(simp only[dz];first|done|assumption|omega)|omega|apply_rules[Fr.refl,Fr.alloc,Fr.drew]|rfl) only [↓gd,gp,Nat.reduceAdd,Nat.reduceEqDiff, ↓hk48, q0, q1, q2, q3, q5, q6, q7, q8, q9]
          exact hK'
         ·simp only [q0, q1, q2, q3, q5, q6, q7, q8, q9, Bool.true_or, Bool.false_or, Bool.or_true, Bool.or_false, Bool.true_and, Bool.false_and, Bool.and_true, Bool.and_false, Bool.not_true, Bool.not_false, if_true, if_false, reduceCtorEq, ite_true, ite_false] at hK'
          simp (maxSteps:=9^7)(disch:=first|assumption|(simp only[dz];first|done|assumption|omega)|omega|apply_rules[Fr.refl,Fr.alloc,Fr.drew]|rfl) only [↓gd,gp,Nat.reduceAdd,Nat.reduceEqDiff, ↓hk48, q0, q1, q2, q3, q5, q6, q7, q8, q9]
          exact hK'
       ·simp only [q0, q1, q2, q3, q5, q6, q7, Bool.true_or, Bool.false_or, Bool.or_true, Bool.or_false, Bool.true_and, Bool.false_and, Bool.and_true, Bool.and_false, Bool.not_true, Bool.not_false, if_true, if_false, reduceCtorEq, ite_true, ite_false] at hK'
        simp (maxSteps:=9^7)(disch:=first|assumption|(simp only[dz];first|done|assumption|omega)|omega|apply_rules[Fr.refl,Fr.alloc,Fr.drew]|rfl) only [↓gd,gp,Nat.reduceAdd,Nat.reduceEqDiff, ↓hk48, q0, q1, q2, q3, q5, q6, q7]
        exact hK'
      ·simp only [q0, q1, q2, q3, q5, q6, Bool.true_or, Bool.false_or, Bool.or_true, Bool.or_false, Bool.true_and, Bool.false_and, Bool.and_true, Bool.and_false, Bool.not_true, Bool.not_false, if_true, if_false, reduceCtorEq, ite_true, ite_false] at hK'
       simp (maxSteps:=9^7)(disch:=first|assumption|(simp only[dz];first|done|assumption|omega)|omega|apply_rules[Fr.refl,Fr.alloc,Fr.drew]|rfl) only [↓gd,gp,Nat.reduceAdd,Nat.reduceEqDiff, ↓hk48, q0, q1, q2, q3, q5, q6]
       exact hK'
     ·simp only [q0, q1, q2, q3, q5, Bool.true_or, Bool.false_or, Bool.or_true, Bool.or_false, Bool.true_and, Bool.false_and, Bool.and_true, Bool.and_false, Bool.not_true, Bool.not_false, if_true, if_false, reduceCtorEq, ite_true, ite_false] at hK'
      simp (maxSteps:=9^7)(disch:=first|assumption|(simp only[dz];first|done|assumption|omega)|omega|apply_rules[Fr.refl,Fr.alloc,Fr.drew]|rfl) only [↓gd,gp,Nat.reduceAdd,Nat.reduceEqDiff, ↓hk48, q0, q1, q2, q3, q5]
      exact hK'
    ·rcases Bool.eq_false_or_eq_true (decide (e.data = (⟨#[]⟩ : ByteArray))) with q4 | q4
     ·rcases Bool.eq_false_or_eq_true (decide ((0 : Int) ≤ e.lo)) with q5 | q5
      ·rcases Bool.eq_false_or_eq_true (decide (e.lo ≤ (1099511627776 : Int))) with q6 | q6
       ·rcases Bool.eq_false_or_eq_true (decide (e.lo < e.hi)) with q7 | q7
        ·rcases Bool.eq_false_or_eq_true (decide (e.hi = (4611686018427387904 : Int))) with q8 | q8
         ·simp only [q0, q1, q2, q3, q4, q5, q6, q7, q8, Bool.true_or, Bool.false_or, Bool.or_true, Bool.or_false, Bool.true_and, Bool.false_and, Bool.and_true, Bool.and_false, Bool.not_true, Bool.not_false, if_true, if_false, reduceCtorEq, ite_true, ite_false] at hK'
          simp (maxSteps:=9^7)(disch:=first|assumption|(simp only[dz];first|done|assumption|omega)|omega|apply_rules[Fr.refl,Fr.alloc,Fr.drew]|rfl) only [↓gd,gp,Nat.reduceAdd,Nat.reduceEqDiff, ↓hk48, q0, q1, q2, q3, q4, q5, q6, q7, q8]
          exact hK'
         ·rcases Bool.eq_false_or_eq_true (decide (e.hi ≤ (1099511627777 : Int))) with q9 | q9
          ·simp only [q0, q1, q2, q3, q4, q5, q6, q7, q8, q9, Bool.true_or, Bool.false_or, Bool.or_true, Bool.or_false, Bool.true_and, Bool.false_and, Bool.and_true, Bool.and_false, Bool.not_true, Bool.not_false, if_true, if_false, reduceCtorEq, ite_true, ite_false] at hK'
           simp (maxSteps:=9^7)(disch:=first|assumption|(simp only[dz];first|done|assumption|omega)|omega|apply_rules[Fr.refl,Fr.alloc,Fr.drew]|rfl) only [↓gd,gp,Nat.reduceAdd,Nat.reduceEqDiff, ↓hk48, q0, q1, q2, q3, q4, q5, q6, q7, q8, q9]
           exact hK'
          ·simp only [q0, q1, q2, q3, q4, q5, q6, q7, q8, q9, Bool.true_or, Bool.false_or, Bool.or_true, Bool.or_false, Bool.true_and, Bool.false_and, Bool.and_true, Bool.and_false, Bool.not_true, Bool.not_false, if_true, if_false, reduceCtorEq, ite_true, ite_false] at hK'
           simp (maxSteps:=9^7)(disch:=first|assumption|(simp only[dz];first|done|assumption|omega)|omega|apply_rules[Fr.refl,Fr.alloc,Fr.drew]|rfl) only [↓gd,gp,Nat.reduceAdd,Nat.reduceEqDiff, ↓hk48, q0, q1, q2, q3, q4, q5, q6, q7, q8, q9]
           exact hK'
        ·simp only [q0, q1, q2, q3, q4, q5, q6, q7, Bool.true_or, Bool.false_or, Bool.or_true, Bool.or_false, Bool.true_and, Bool.false_and, Bool.and_true, Bool.and_false, Bool.not_true, Bool.not_false, if_true, if_false, reduceCtorEq, ite_true, ite_false] at hK'
         simp (maxSteps:=9^7)(disch:=first|assumption|(simp only[dz];first|done|assumption|omega)|omega|apply_rules[Fr.refl,Fr.alloc,Fr.drew]|rfl) only [↓gd,gp,Nat.reduceAdd,Nat.reduceEqDiff, ↓hk48, q0, q1, q2, q3, q4, q5, q6, q7]
         exact hK'
       ·simp only [q0, q1, q2, q3, q4, q5, q6, Bool.true_or, Bool.false_or, Bool.or_true, Bool.or_false, Bool.true_and, Bool.false_and, Bool.and_true, Bool.and_false, Bool.not_true, Bool.not_false, if_true, if_false, reduceCtorEq, ite_true, ite_false] at hK'
        simp (maxSteps:=9^7)(disch:=first|assumption|(simp only[dz];first|done|assumption|omega)|omega|apply_rules[Fr.refl,Fr.alloc,Fr.drew]|rfl) only [↓gd,gp,Nat.reduceAdd,Nat.reduceEqDiff, ↓hk48, q0, q1, q2, q3, q4, q5, q6]
        exact hK'
      ·simp only [q0, q1, q2, q3, q4, q5, Bool.true_or, Bool.false_or, Bool.or_true, Bool.or_false, Bool.true_and, Bool.false_and, Bool.and_true, Bool.and_false, Bool.not_true, Bool.not_false, if_true, if_false, reduceCtorEq, ite_true, ite_false] at hK'
       simp (maxSteps:=9^7)(disch:=first|assumption|(simp only[dz];first|done|assumption|omega)|omega|apply_rules[Fr.refl,Fr.alloc,Fr.drew]|rfl) only [↓gd,gp,Nat.reduceAdd,Nat.reduceEqDiff, ↓hk48, q0, q1, q2, q3, q4, q5]
       exact hK'
     ·simp only [q0, q1, q2, q3, q4, Bool.true_or, Bool.false_or, Bool.or_true, Bool.or_false, Bool.true_and, Bool.false_and, Bool.and_true, Bool.and_false, Bool.not_true, Bool.not_false, if_true, if_false, reduceCtorEq, ite_true, ite_false] at hK'
      simp (maxSteps:=9^7)(disch:=first|assumption|(simp only[dz];first|done|assumption|omega)|omega|apply_rules[Fr.refl,Fr.alloc,Fr.drew]|rfl) only [↓gd,gp,Nat.reduceAdd,Nat.reduceEqDiff, ↓hk48, q0, q1, q2, q3, q4]
      exact hK'
end Go.Proofs.YtomlgkecckffeaaGreat
