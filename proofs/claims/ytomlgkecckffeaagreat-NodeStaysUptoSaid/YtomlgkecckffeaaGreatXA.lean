/- What always holds of a node's memory. -/
import Derived.Test.YtomlgkecckffeaaGreatWE
set_option linter.unusedVariables false
set_option linter.unusedSimpArgs false
set_option maxRecDepth 10000
namespace Go.Proofs.YtomlgkecckffeaaGreat
open Go.VW
structure CfgOK (c : Cfg) : Prop where
 b0 : 0 ≤ c.bytes
 b1 : c.bytes ≤ 1048576
 s0 : 1 ≤ c.spans
 s1 : c.spans ≤ 64
 p0 : 0 ≤ c.prot
 p1 : c.prot ≤ 256
theorem held_ok (c : Cfg) : CfgOK c.held := by
 constructor <;> simp only [Cfg.held, hld] <;> omega
structure MOK (c : Cfg) (M : Mem) (i : Int) : Prop where
 ti : TI M.T c.bytes.toNat M.ins
 wf : M.g.WF
 i0 : 0 ≤ M.ins
 i1 : M.ins ≤ i
theorem MOK.mono {c : Cfg} {M : Mem} {i j : Int} (h : MOK c M i) (hj : i ≤ j) : MOK c M j := ⟨h.ti, h.wf, h.i0, by have := h.i1; omega⟩
section
variable {among : Tab → Ents} {over : Tab → Bool} {ins : Int}
theorem evictF_ind (P : Tab → Prop) (hs : ∀ T x, P T → over T = true → x ∈ among T → x.ins ≠ ins → P (T.drop x.key x.lo)) : ∀ n T, P T → P (evictF among over ins n T)
 | 0, T, h => h
 | n + 1, T, h => by
   unfold evictF
   split
   ·rename_i ho
    split
    ·exact h
    ·rename_i e he
     cases hv : vicE ((among T).filter fun x => !decide (x.ins = ins)) with
     | none => rw [hv] at he; cases he
     | some j =>
       rw [hv] at he
       have hm := List.mem_filter.1 (List.mem_of_getElem? (show _ = some e from he))
       exact evictF_ind P hs n _ (hs T e h ho hm.1 (by simpa using hm.2))
   ·exact h
theorem vicTo_some {l : Ents} : ∀ {i : Nat}, 0 < i → i ≤ l.length → (vicTo l i).isSome
 | 0, h, _ => absurd h (Nat.lt_irrefl _)
 | i + 1, _, hi => by
   unfold vicTo vicStep
   rw [List.getElem?_eq_getElem (show i < l.length by omega)]
   simp only
   cases vicTo l i with
   | none => rfl
   | some b => simp only; split <;> rfl
theorem evictF_done (P : Tab → Prop) (hs : ∀ T x, P T → over T = true → x ∈ among T → x.ins ≠ ins → P (T.drop x.key x.lo)) (hex : ∀ T, P T → over T = true → ∃ x ∈ among T, x.ins ≠ ins) (hl : ∀ T x, P T → x ∈ among T → (T.drop x.key x.lo).list.length < T.list.length) :
  ∀ n T, P T → T.list.length ≤ n → over (evictF among over ins n T) = false
 | 0, T, h, hn => by
   show over T = false
   cases ho : over T with
   | false => rfl
   | true =>
     obtain ⟨x, hx, _⟩ := hex T h ho
     have := hl T x h hx
     omega
 | n + 1, T, h, hn => by
   cases ho : over T with
   | false => rw [evictF_sub ho]; exact ho
   | true =>
     obtain ⟨x, hx, hxi⟩ := hex T h ho
     have hm : x ∈ others (among T) ins := List.mem_filter.2 ⟨hx, by simpa using hxi⟩
     have hpos := List.length_pos_of_mem hm
     obtain ⟨j, hj⟩ := Option.isSome_iff_exists.1 (vicTo_some hpos (Nat.le_refl _))
     have hj : vicE (others (among T) ins) = some j := hj
     have hjl := vicE_lt hj
     obtain ⟨y, hy⟩ : ∃ y, (others (among T) ins)[j]? = some y := ⟨_, List.getElem?_eq_getElem hjl⟩
     have hym := List.mem_filter.1 (List.mem_of_getElem? hy)
     rw [evictF_some ho hj hy]
     have := hl T y h hym.1
     exact evictF_done P hs hex hl n _ (hs T y h ho hym.1 (by simpa using hym.2)) (by omega)
end
theorem TI.place_ne {T : Tab} {B : Nat} {n : Int} (h : TI T B n) {x E : Ent} (hx : x ∈ T.list) (hE : T.at E.key E.lo = some E) (hi : x.ins ≠ E.ins) : ¬ (x.key = E.key ∧ x.lo = E.lo) := by
 rintro ⟨q1, q2⟩
 have := (list_row h.tok hx).1
 rw [q1, q2, hE] at this
 cases this
 exact hi rfl
theorem TI.drop_keep {T : Tab} {B : Nat} {n : Int} (h : TI T B n) (hB : B ≤ 1000000000) {x E : Ent} (hx : x ∈ T.list) (hE : T.at E.key E.lo = some E) (hi : x.ins ≠ E.ins) : TI (T.drop x.key x.lo) B n ∧ (T.drop x.key x.lo).at E.key E.lo = some E :=
 ⟨h.drop hB _ _, by rw [at_drop h.tok, if_neg (h.place_ne hx hE hi)]; exact hE⟩
theorem sumE_le_one {l : Ents} {v : Int} (h : sumE (cIns v) l ≤ 1) (ha : ∀ x ∈ l, x.ins = v) : l.length ≤ 1 := by
 have : sumE (cIns v) l = l.length := by
  rw [← sumE_one]
  clear h
  induction l with
  | nil => rfl
  | cons a l ih =>
    rw [sumE_cons, sumE_cons, ih fun x hx => ha x (List.mem_cons_of_mem _ hx)]
    congr 1
    exact if_pos (ha a (List.mem_cons_self ..))
 omega
theorem evict_row {c : Cfg} (hc : CfgOK c) {T : Tab} {B : Nat} {n : Int} (h : TI T B n) (hB : B ≤ 1000000000) {E : Ent} (hE : T.at E.key E.lo = some E) :
  let T2 := evictF (fun T => T.row E.key) (overK c E.key) E.ins T.list.length T
  TI T2 B n ∧ T2.at E.key E.lo = some E ∧ ((T2.row E.key).length : Int) ≤ c.spans := by
 intro T2
 have hs : ∀ (T : Tab) (x : Ent), (TI T B n ∧ T.at E.key E.lo = some E) → overK c E.key T = true → x ∈ T.row E.key → x.ins ≠ E.ins → TI (T.drop x.key x.lo) B n ∧ (T.drop x.key x.lo).at E.key E.lo = some E := fun T x hP _ hx hi => hP.1.drop_keep hB (mem_list.2 ⟨_, hx⟩) hP.2 hi
 obtain ⟨r1, r2⟩ := evictF_ind (among := fun T => T.row E.key) (fun T => TI T B n ∧ T.at E.key E.lo = some E) hs T.list.length T ⟨h, hE⟩
 refine ⟨r1, r2, ?_⟩
 have := evictF_done (among := fun T => T.row E.key) (fun T => TI T B n ∧ T.at E.key E.lo = some E) hs (fun T hP ho => ?_) (fun T x hP hx => ?_) T.list.length T ⟨h, hE⟩ (Nat.le_refl _)
 ·have := of_decide_eq_false (show decide (c.spans < ((T2.row E.key).length : Int)) = false from this)
  show ((T2.row E.key).length : Int) ≤ c.spans
  omega
 ·apply Classical.byContradiction
  intro hn
  have ha : ∀ x ∈ T.row E.key, x.ins = E.ins := fun x hx => Classical.byContradiction fun q => hn ⟨x, hx, q⟩
  have h1 := sumR_row (cIns E.ins) T E.key
  have h2 := hP.1.nd E.ins
  have h3 := sumE_le_one (by omega) ha
  unfold overK at ho
  have h4 := of_decide_eq_true ho
  have := hc.s0
  omega
 ·have := drop_list_len hP.1.tok hB (mem_list.2 ⟨_, hx⟩)
  omega
theorem evict_all {c : Cfg} (hc : CfgOK c) {T : Tab} {B : Nat} {n : Int} (h : TI T B n) (hB : B ≤ 1000000000) {E : Ent} (hE : T.at E.key E.lo = some E) (hcost : (costN E : Int) ≤ c.bytes) :
  let T2 := evictF Tab.list (overB c) E.ins T.list.length T
  TI T2 c.bytes.toNat n ∧ T2.at E.key E.lo = some E := by
 intro T2
 have hs : ∀ (T : Tab) (x : Ent), (TI T B n ∧ T.at E.key E.lo = some E) → overB c T = true → x ∈ T.list → x.ins ≠ E.ins → TI (T.drop x.key x.lo) B n ∧ (T.drop x.key x.lo).at E.key E.lo = some E := fun T x hP _ hx hi => hP.1.drop_keep hB hx hP.2 hi
 obtain ⟨r1, r2⟩ := evictF_ind (among := Tab.list) (fun T => TI T B n ∧ T.at E.key E.lo = some E) hs T.list.length T ⟨h, hE⟩
 refine ⟨?_, r2⟩
 have := evictF_done (among := Tab.list) (fun T => TI T B n ∧ T.at E.key E.lo = some E) hs (fun T hP ho => ?_) (fun T x hP hx => ?_) T.list.length T ⟨h, hE⟩ (Nat.le_refl _)
 ·have := of_decide_eq_false (show decide (c.bytes < T2.bytes) = false from this)
  refine ⟨⟨r1.tok.nd, r1.tok.sort, r1.tok.ent, r1.tok.ne, r1.tok.bytes, ?_⟩, r1.nd, r1.le⟩
  have h2 := r1.tok.bytes
  have h3 : T2.bytes = (sumR costN T2.rows : Int) := h2
  show sumR costN T2.rows ≤ _
  have h4 : ¬ c.bytes < T2.bytes := this
  omega
 ·apply Classical.byContradiction
  intro hn
  have ha : ∀ x ∈ T.list, x.ins = E.ins := fun x hx => Classical.byContradiction fun q => hn ⟨x, hx, q⟩
  have h2 := hP.1.nd E.ins
  rw [← sumE_list _ hP.1.tok.nd] at h2
  have h3 := sumE_le_one h2 ha
  have hEm := (hP.1.tok.at_list.1 hP.2).1
  have h5 : T.list = [E] := by
   cases hl : T.list with
   | nil => rw [hl] at hEm; cases hEm
   | cons y l =>
     rw [hl] at h3 hEm
     have : l = [] := List.eq_nil_of_length_eq_zero (by simp only [List.length_cons] at h3; omega)
     subst this
     simp at hEm; rw [hEm]
  have h6 := sumE_list costN hP.1.tok.nd
  rw [h5] at h6
  have h7 : sumE costN [E] = costN E := by rw [sumE_cons, sumE_nil]; omega
  have h8 := hP.1.tok.bytes
  unfold overB at ho
  have h4 := of_decide_eq_true ho
  omega
 ·have := drop_list_len hP.1.tok hB hx
  omega
theorem mergeC_or (x y p : Int) : mergeC x y p = x ∨ mergeC x y p = y := by
 unfold mergeC
 by_cases q : x = openI
 ·simp only [q, if_true]
  split
  ·exact .inl (by omega)
  ·split <;> simp
 ·simp only [q, if_false]
  split
  ·omega
  ·split <;> simp
theorem goodE_as {e f : Ent} (h : goodE e = true) (hf : goodE f = true) (hl : f.lo = e.lo) : goodE { e with hi := f.hi } = true := by
 unfold goodE at h hf ⊢
 simp only at *
 split at h
 ·cases h
 ·rename_i q
  rw [if_neg q]
  split at h
  ·cases h
  ·rename_i q
   rw [if_neg q]
   split at hf
   ·cases hf
   ·split at hf
    ·cases hf
    ·simp only [Bool.and_eq_true, Bool.or_eq_true, decide_eq_true_eq] at h hf ⊢
     rw [hl] at hf
     exact ⟨⟨h.1.1, hf.1.2⟩, hf.2⟩
theorem row_empty {T : Tab} {B : Nat} (h : TOK T B) : T.row ⟨#[]⟩ = [] := by
 apply List.eq_nil_iff_forall_not_mem.2
 intro x hx
 obtain ⟨h1, h2⟩ := h.ent _ x hx
 unfold goodE at h2
 rw [h1] at h2
 simp at h2
theorem good_entZ : goodE entZ = false := by decide
theorem MOK.lay {c : Cfg} (hc : CfgOK c) {M : Mem} {i : Int} (h : MOK c M i) (hi : i ≤ 4611686018427387904) {f : Ent} (hf : goodE f = true ∨ f = entZ) : MOK c (M.lay c f).1 (i + 1) := by
 have hi0 := h.i0
 have hi1 := h.i1
 have hb0 := hc.b0
 have hb1 := hc.b1
 have wi : wr1 M.ins = M.ins + 1 := wrap64 (by omega) (by omega)
 unfold Mem.lay
 cases hg : getE (M.T.row f.key) f.lo with
 | some e =>
   have hgf : goodE f = true := by
    rcases hf with q | rfl
    ·exact q
    ·rw [row_empty h.ti.tok] at hg; cases hg
   simp only
   cases hm : mergeE e f M.g.at_ with
   | none => exact h.mono (by omega)
   | some m =>
     simp only
     have hat : M.T.at f.key f.lo = some e := hg
     obtain ⟨hel, hek, helo⟩ := h.ti.tok.at_list.1 hat
     obtain ⟨r1, r2⟩ := list_row h.ti.tok hel
     have hmh : m.hi = e.hi ∨ m.hi = f.hi := by
      unfold mergeE at hm
      split at hm
      ·cases hm; exact mergeC_or _ _ _
      ·cases hm
     have hg2 : goodE { e with hi := m.hi } = true := by
      rcases hmh with q | q
      ·rw [q]; exact r2
      ·rw [q]; exact goodE_as r2 hgf helo.symm
     exact ⟨h.ti.put (by omega) hg2 r1 rfl rfl, h.wf, h.i0, by show M.ins ≤ i + 1; omega⟩
 | none =>
   simp only
   split
   ·exact h.mono (by omega)
   ·rename_i hcost
    simp only
    refine ⟨?_, h.wf, by simp only [wi]; omega, by simp only [wi]; omega⟩
    simp only [wi]
    rcases hf with hgf | rfl
    ·have hat : M.T.at f.key f.lo = none := hg
     have h1 := h.ti.new (e := { f with hot := false, stamp := wr1 M.stamps, ins := M.ins + 1 }) (by omega) hgf hat (by show M.ins < M.ins + 1; omega)
     have hcn : costN { f with hot := false, stamp := wr1 M.stamps, ins := M.ins + 1 } = costN f := rfl
     have hle := costN_le hgf
     have hce := costE_eq hgf
     rw [hcn] at h1
     have hE : (M.T.putR { f with hot := false, stamp := wr1 M.stamps, ins := M.ins + 1 }).at f.key f.lo = some { f with hot := false, stamp := wr1 M.stamps, ins := M.ins + 1 } := by
      have := at_put h.ti.tok (e := { f with hot := false, stamp := wr1 M.stamps, ins := M.ins + 1 }) (k := f.key) (lo := f.lo) hgf (h1.tok.sort _)
      rw [if_pos ⟨rfl, rfl⟩] at this
      exact this
     obtain ⟨r1, r2, r3⟩ := evict_row hc (E := { f with hot := false, stamp := wr1 M.stamps, ins := M.ins + 1 }) h1 (by omega) hE
     exact (evict_all hc (E := { f with hot := false, stamp := wr1 M.stamps, ins := M.ins + 1 }) r1 (by omega) r2 (by rw [hcn]; omega)).1
    ·have e1 : M.T.putR { entZ with hot := false, stamp := wr1 M.stamps, ins := M.ins + 1 } = M.T := by
      unfold Tab.putR
      rw [if_neg]
      have : goodE { entZ with hot := false, stamp := wr1 M.stamps, ins := M.ins + 1 } = goodE entZ := rfl
      rw [this, good_entZ]; simp
     rw [e1]
     have e2 : overK c entZ.key M.T = false := decide_eq_false (by
      show ¬ c.spans < ((M.T.row ⟨#[]⟩).length : Int)
      rw [row_empty h.ti.tok]
      have := hc.s0
      simp; omega)
     rw [evictF_sub e2]
     have e3 : overB c M.T = false := decide_eq_false (by
      have := h.ti.tok.bytes
      have := h.ti.tok.le
      omega)
     rw [evictF_sub e3]
     exact h.ti.mono (Nat.le_refl _) (by omega)
theorem settle_good {M : Mem} {e : Ent} (h : goodE e = true) (read : Int) : goodE (M.settle e read) = true ∨ M.settle e read = entZ := by
 have key : ∀ n, e.hi = openI → goodE ((closeE e n).getD entZ) = true ∨ (closeE e n).getD entZ = entZ := fun n hn => by
  cases hc : closeE e n with
  | none => exact .inr rfl
  | some f =>
    unfold closeE at hc
    rw [if_neg (fun q => q hn)] at hc
    split at hc
    ·cases hc
    ·cases hc
     exact .inl (goodE_hi h (by omega) (by omega))
 unfold Mem.settle
 split
 ·exact .inl h
 ·rename_i q
  have hn : e.hi = openI := Classical.byContradiction fun q' => q (.inl q')
  split
  ·split
   ·exact .inl h
   ·exact key _ hn
  ·exact key _ hn
theorem MOK.fill {c : Cfg} (hc : CfgOK c) {M : Mem} {i : Int} (h : MOK c M i) (hi : i ≤ 4611686018427387904) (f : Ent) (read : Int) : MOK c (M.fill c f read).1 (i + 1) := by
 unfold Mem.fill
 split
 ·exact h.mono (by omega)
 ·rename_i q
  split
  ·exact h.mono (by omega)
  ·refine h.lay hc hi (settle_good ?_ _)
   cases hg : goodE f with
   | true => rfl
   | false => exact absurd (.inl hg) q
def SameIn (T : Tab) (x : Ent) : Prop := ∃ y, T.at x.key x.lo = some y ∧ costN y = costN x ∧ y.ins = x.ins
theorem TI.putS {T : Tab} {B : Nat} {n : Int} (h : TI T B n) (hB : B ≤ 1000000000) {x : Ent} (hg : goodE x = true) (hx : SameIn T x) (hot : Bool) (st : Int) : TI (T.putR { x with hot := hot, stamp := st }) B n ∧ ∀ z, SameIn T z → SameIn (T.putR { x with hot := hot, stamp := st }) z := by
 obtain ⟨y, h1, h2, h3⟩ := hx
 have hg' : goodE { x with hot := hot, stamp := st } = true := hg
 have hk : TI (T.putR { x with hot := hot, stamp := st }) B n := h.put hB hg' h1 h2.symm h3
 refine ⟨hk, fun z ⟨u, hu, hc, hi⟩ => ?_⟩
 unfold SameIn
 rw [at_put h.tok hg' (hk.tok.sort _)]
 by_cases q : x.key = z.key ∧ x.lo = z.lo
 ·rw [if_pos q]
  refine ⟨_, rfl, ?_, ?_⟩
  ·show costN x = costN z
   rw [← hc, ← h2]
   rw [q.1, q.2] at h1
   rw [h1] at hu
   cases hu; rfl
  ·show x.ins = z.ins
   rw [← hi, ← h3]
   rw [q.1, q.2] at h1
   rw [h1] at hu
   cases hu; rfl
 ·rw [if_neg q]; exact ⟨u, hu, hc, hi⟩
theorem TI.use {c : Cfg} {B : Nat} {n : Int} (hB : B ≤ 1000000000) {M : Mem} (h : TI M.T B n) {e : Ent} (he : M.T.at e.key e.lo = some e) : TI (M.use c e).T B n := by
 have hg := (list_row h.tok (h.tok.at_list.1 he).1).2
 have h1 : TI (M.putS e true).T B n := (h.putS hB hg ⟨e, he, rfl, rfl⟩ true _).1
 unfold Mem.use
 have hall : ∀ x ∈ (M.putS e true).T.list, goodE x = true ∧ SameIn (M.putS e true).T x := fun x hx => by
  obtain ⟨q1, q2⟩ := list_row h1.tok hx
  exact ⟨q2, x, q1, rfl, rfl⟩
 have hl : ∀ i ∈ demL (M.putS e true).T.list c.prot, i < (M.putS e true).T.list.length := fun i hi => by
  have h1 := List.mem_of_mem_take hi
  have h2 := (List.mem_filter.1 h1).1
  have h3 : i ∈ List.range (M.putS e true).T.list.length := (List.mergeSort_perm _ _).mem_iff.1 h2
  simpa using h3
 generalize demL (M.putS e true).T.list c.prot = D at hl ⊢
 generalize (M.putS e true).T.list = all at hall hl ⊢
 generalize M.putS e true = M1 at h1 hall ⊢
 clear he h
 induction D generalizing M1 with
 | nil => exact h1
 | cons i D ih =>
   have hi := hl i (List.mem_cons_self ..)
   have hm : all[i] ∈ all := List.getElem_mem hi
   have hd : demStep all M1 i = M1.putS all[i] false := by unfold demStep; rw [List.getElem?_eq_getElem hi]; rfl
   rw [List.foldl_cons, hd]
   obtain ⟨r1, r2⟩ := h1.putS hB (hall _ hm).1 (hall _ hm).2 false (wr1 M1.stamps)
   exact ih (fun j hj => hl j (List.mem_cons_of_mem _ hj)) _ r1 fun x hx => ⟨(hall x hx).1, r2 x (hall x hx).2⟩
theorem find_at {T : Tab} {B : Nat} (h : TOK T B) {k : ByteArray} {x lo hi : Int} {e : Ent} (hf : findE (T.row k) x lo hi = some e) : T.at e.key e.lo = some e := by
 unfold findE at hf
 exact h.mem_at (List.mem_filter.1 (List.mem_of_getLast? hf)).1
theorem MOK.look {c : Cfg} (hc : CfgOK c) {M : Mem} {i : Int} (h : MOK c M i) (k : ByteArray) (lo hi : Int) : MOK c (M.look c k lo hi).1 i := by
 unfold Mem.look
 cases hf : findE (M.T.row k) M.g.at_ lo hi with
 | none => exact h
 | some e =>
   have hb0 := hc.b0
   have hb1 := hc.b1
   obtain ⟨k1, k2, k3, k4⟩ := M.use_keep c e
   have := h.ti.use (c := c) (by omega) (find_at h.ti.tok hf)
   exact ⟨by rw [k3]; exact this, by rw [k1]; exact h.wf, by rw [k3]; exact h.i0, by rw [k3]; exact h.i1⟩
theorem apply_ins (M : Mem) (n : Int) (x : KRec) : (M.apply n x).1.ins = M.ins ∧ (M.apply n x).1.live = M.live := by
 cases ql : M.live with
 | false => unfold Mem.apply; rw [if_pos ql]; exact ⟨rfl, ql⟩
 | true =>
   rw [apply_live ql]
   simp only
   rw [(Mem.over_g _ _).2.2.1, (foldG _ _).2.2.1, (Mem.over_g _ _).2.1, (foldG _ _).2.1]
   exact ⟨rfl, ql⟩
theorem MOK.zero (c : Cfg) (live : Bool) (x : Int) : MOK c (Mem.zero c live x) 0 := by
 exact ⟨⟨⟨List.nodup_nil, fun k => List.Pairwise.nil, fun k e he => (by cases he), fun p hp => (by cases hp), rfl, Nat.zero_le _⟩, fun v => Nat.zero_le _, fun k lo x hx => (by cases hx)⟩, GS.new_wf _ _, Int.le_refl _, Int.le_refl _⟩
end Go.Proofs.YtomlgkecckffeaaGreat
