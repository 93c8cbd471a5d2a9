/- The keys of a record: what is wrong with them, in plain Lean. check. The log: New, Last, Append, Get. -/
import Derived.Test.YtgloomahpjpiiaaGreatB3
import Derived.Test.YtgloomahpjpiiaaGreatH1w
set_option linter.unusedVariables false
set_option linter.unusedSimpArgs false
set_option maxRecDepth 10000
namespace Go.Proofs.YtgloomahpjpiiaaGreat.Sm
open Go.Sort Go.VW
theorem sortL_perm (zs : List (List UInt8)) : (sortL zs).Perm zs := List.mergeSort_perm _ _
theorem sortL_sorted (zs : List (List UInt8)) : (sortL zs).Pairwise fun x y => x ≤ y := by
 have := List.pairwise_mergeSort (le := fun x y : List UInt8 => decide (x ≤ y)) (fun a b c h1 h2 => by
  simp only [decide_eq_true_eq] at *
  exact List.le_trans h1 h2) (fun a b => by
  simp only [Bool.or_eq_true, decide_eq_true_eq]
  exact List.le_total a b) zs
 exact this.imp fun h => by simpa using h
theorem compact_lt {zs : List (List UInt8)} (hs : zs.Pairwise fun x y => x ≤ y) : (Lib.compact zs).length < zs.length ↔ ¬ zs.Nodup := by
 constructor
 ·intro h hn
  rw [Lib.compact_all zs] at h
  ·omega
  ·intro j hj
   unfold Lib.keeps
   rw [decide_eq_true_eq]
   by_cases h0 : j = 0
   ·exact .inl h0
   ·refine .inr fun e => ?_
    rw [getElem!_pos zs.toArray j (by simpa using hj), getElem!_pos zs.toArray (j - 1) (by simp; omega)] at e
    simp only [List.getElem_toArray] at e
    have := (List.pairwise_iff_getElem.1 hn) (j - 1) j (by omega) hj (by omega)
    exact this e.symm
 ·intro h
  have h2 : ∃ i j, ∃ (hi : i < zs.length) (hj : j < zs.length), i < j ∧ zs[i] = zs[j] := by
   apply Classical.byContradiction
   intro hc
   apply h
   rw [List.Nodup, List.pairwise_iff_getElem]
   intro i j hi hj hij e
   exact hc ⟨i, j, hi, hj, hij, e⟩
  obtain ⟨i, j, hi, hj, hij, e⟩ := h2
  have hp := List.pairwise_iff_getElem.1 hs
  have hadj : zs[j - 1] = zs[j] := by
   have a1 : zs[j - 1] ≤ zs[j] := hp (j - 1) j (by omega) hj (by omega)
   by_cases hi' : i = j - 1
   ·subst hi'; exact e
   ·have a2 : zs[i] ≤ zs[j - 1] := hp i (j - 1) hi (by omega) (by omega)
    rw [e] at a2
    exact List.le_antisymm a1 a2
  have hk : Lib.keeps zs.toArray j = false := by
   refine Lib.keeps_neg (by omega) ?_
   rw [getElem!_pos zs.toArray j (by simpa using hj), getElem!_pos zs.toArray (j - 1) (by simp; omega)]
   simp only [List.getElem_toArray]
   exact hadj.symm
  unfold Lib.compact Lib.compactUpTo
  rw [List.length_map]
  have : ((List.range zs.length).filter (Lib.keeps zs.toArray)).length < (List.range zs.length).length := by
   rw [List.length_filter_lt_length_iff_exists]
   exact ⟨j, List.mem_range.2 hj, by simp [hk]⟩
  simpa using this
theorem nodup_bl (ks : List ByteArray) : (ks.map bl).Nodup ↔ ks.Nodup := by
 constructor
 ·intro h
  rw [List.Nodup, List.pairwise_map] at h
  exact h.imp fun h e => h (by rw [e])
 ·intro h
  rw [List.Nodup, List.pairwise_map]
  exact List.Pairwise.imp (fun h e => h (bl_inj e)) h
theorem dup_iff (ks : List ByteArray) : (Lib.compact (sortL (ks.map bl))).length < ks.length ↔ ¬ ks.Nodup := by
 have h1 := compact_lt (sortL_sorted (ks.map bl))
 rw [(sortL_perm _).length_eq, List.length_map, (sortL_perm _).nodup_iff, nodup_bl] at h1
 exact h1
def badK (k : ByteArray) : Bool := decide (k = ⟨#[]⟩) || decide (32 < k.size)
/-- What is wrong with keys. -/
def chkK (ks : List ByteArray) : Int := if ks.length = 0 ∨ 8 < ks.length then 1 else if ks.any badK then 1 else if ks.Nodup then 0 else 22
theorem chkK_cases (ks : List ByteArray) : chkK ks = 1 ∨ chkK ks = 22 ∨ chkK ks = 0 ∧ 1 ≤ ks.length ∧ ks.length ≤ 8 ∧ ks.any badK = false ∧ ks.Nodup := by
 unfold chkK
 by_cases h1 : ks.length = 0 ∨ 8 < ks.length
 ·rw [if_pos h1]; exact .inl rfl
 ·by_cases h2 : ks.any badK = true
  ·rw [if_neg h1, if_pos h2]; exact .inl rfl
  ·by_cases h3 : ks.Nodup
   ·rw [if_neg h1, if_neg h2, if_pos h3]
    exact .inr (.inr ⟨rfl, by omega, by omega, by simpa using h2, h3⟩)
   ·rw [if_neg h1, if_neg h2, if_neg h3]; simp
theorem chkK_ok {ks : List ByteArray} (h : chkK ks = 0) : 1 ≤ ks.length ∧ ks.length ≤ 8 ∧ ks.Nodup := by
 rcases chkK_cases ks with e | e | ⟨_, h1, h2, _, h4⟩
 ·rw [e] at h; cases h
 ·rw [e] at h; cases h
 ·exact ⟨h1, h2, h4⟩
end Go.Proofs.YtgloomahpjpiiaaGreat.Sm
namespace Go.Proofs.YtgloomahpjpiiaaGreat.Sm
open Go.VW
set_option maxHeartbeats 4000000 in
theorem check_spec {w : World} {v : Value} {ks : List ByteArray} {K : Value → World → Prop} (h : SlOf 1 encS w v ks) (hl : ks.length ≤ 9223372036854775807)
  (hK : ∀ w', Fr [] w w' → K (.int .i64 (chkK ks)) w') : CallsN Tryz.prog 89 [v] w K := by
 have cw := cur w
 obtain ⟨a, c, hv⟩ := SlOf.form h
 refine call89 ?_
 by_cases hA : ks.length = 0 ∨ 8 < ks.length
 ·have hc : chkK ks = 1 := by unfold chkK; rw [if_pos hA]
  rw [hc] at hK
  by_cases h0 : ks.length = 0
  ·have d0 : decide ((ks.length : Int) = 0) = true := decide_eq_true (by omega)
   simp (maxSteps:=4000000)(disch:=first|assumption|(simp only[dz];first|done|assumption|omega)|omega|apply_rules[Fr.refl,Fr.alloc,Fr.drew]|rfl) only [↓gd,gp,Nat.reduceAdd,Nat.reduceEqDiff, ↓hk89, hv, d0]
   exact hK _ (Fr.refl _ _)
  ·have d0 : decide ((ks.length : Int) = 0) = false := decide_eq_false (by omega)
   have d1 : decide ((8 : Int) < (ks.length : Int)) = true := decide_eq_true (by omega)
   simp (maxSteps:=4000000)(disch:=first|assumption|(simp only[dz];first|done|assumption|omega)|omega|apply_rules[Fr.refl,Fr.alloc,Fr.drew]|rfl) only [↓gd,gp,Nat.reduceAdd,Nat.reduceEqDiff, ↓hk89, hv, d0, d1]
   exact hK _ (Fr.refl _ _)
 have d0 : decide ((ks.length : Int) = 0) = false := decide_eq_false (by omega)
 have d1 : decide ((8 : Int) < (ks.length : Int)) = false := decide_eq_false (by omega)
 simp (maxSteps:=4000000)(disch:=first|assumption|(simp only[dz];first|done|assumption|omega)|omega|apply_rules[Fr.refl,Fr.alloc,Fr.drew]|rfl) only [↓gd,gp,Nat.reduceAdd,Nat.reduceEqDiff, ↓hk89, hv, d0, d1]
 rw [← hv]
 refine loop_intro (fun e w' => ∃ i : Nat, i ≤ ks.length ∧ e 0 = v ∧ e 14 = v ∧ e 15 = .int .i64 ks.length ∧ e 16 = .int .i64 i ∧ (∀ j y, j < i → ks[j]? = some y → badK y = false) ∧ Fr [] w w')
  (fun e _ => ks.length - (numOf (e 16)).toNat) ?_ ?_
 ·refine ⟨0, Nat.zero_le _, ?_⟩
  simp (maxSteps:=4000000)(disch:=first|assumption|(simp only[dz];first|done|assumption|omega)|omega|apply_rules[Fr.refl,Fr.alloc,Fr.drew]|rfl) only [↓gsd,gs,gv,Nat.reduceAdd,Nat.reduceEqDiff, Int.natCast_zero]
  exact ⟨fun j y hj => absurd hj (by omega), Fr.refl _ _⟩
 ·rintro e w1 k ⟨i, hi, e0, e14, e15, e16, hno, hf⟩ hk
  have cw1 := cur w1
  have hz1 := hf.size
  by_cases hlt : i < ks.length
  ·have el : decide ((i : Int) < (ks.length : Int)) = true := decide_eq_true (by omega)
   have i0 : (0 : Int) ≤ (i : Int) := by omega
   have i1 : (i : Int) < (ks.length : Int) := by omega
   obtain ⟨x, hx⟩ : ∃ x, ks[i]? = some x := ⟨ks[i], List.getElem?_eq_getElem hlt⟩
   obtain ⟨b, off, cap, o, hvb, hob, hbl, _, hcell⟩ := (h.frN hf).read encS_len i x hx
   have hc0 := fun orig K => hcell 0 (.string x) orig K rfl
   simp only [Nat.add_zero, Nat.mul_one] at hc0
   have hbad : badK x = true → chkK ks = 1 := fun hb => by
    unfold chkK; rw [if_neg hA, if_pos (List.any_eq_true.2 ⟨x, List.mem_of_getElem? hx, hb⟩)]
   by_cases q1 : x = ⟨#[]⟩
   ·have dq : decide (x = ⟨#[]⟩) = true := decide_eq_true q1
    rw [hbad (by unfold badK; rw [dq]; rfl)] at hK
    simp (maxSteps:=4000000)(disch:=first|assumption|(simp only[dz];first|done|assumption|omega)|omega|apply_rules[Fr.refl,Fr.alloc,Fr.drew]|rfl) only [↓gd,gp,Nat.reduceAdd,Nat.reduceEqDiff, ↓hk89, e0, e14, e15, e16, el, hvb, i0, i1, Int.toNat_natCast, Nat.mul_one, hob, hc0, dq]
    exact hK _ hf
   have dq : decide (x = ⟨#[]⟩) = false := decide_eq_false q1
   by_cases q2 : 32 < x.size
   ·have dq2 : decide ((32 : Int) < (x.size : Int)) = true := decide_eq_true (by omega)
    rw [hbad (by unfold badK; rw [decide_eq_true q2, Bool.or_true])] at hK
    simp (maxSteps:=4000000)(disch:=first|assumption|(simp only[dz];first|done|assumption|omega)|omega|apply_rules[Fr.refl,Fr.alloc,Fr.drew]|rfl) only [↓gd,gp,Nat.reduceAdd,Nat.reduceEqDiff, ↓hk89, e0, e14, e15, e16, el, hvb, i0, i1, Int.toNat_natCast, Nat.mul_one, hob, hc0, dq, dq2]
    exact hK _ hf
   have dq2 : decide ((32 : Int) < (x.size : Int)) = false := decide_eq_false (by omega)
   simp (maxSteps:=4000000)(disch:=first|assumption|(simp only[dz];first|done|assumption|omega)|omega|apply_rules[Fr.refl,Fr.alloc,Fr.drew]|rfl) only [↓gd,gp,Nat.reduceAdd,Nat.reduceEqDiff, ↓hk89, e0, e14, e15, e16, el, hvb, i0, i1, Int.toNat_natCast, Nat.mul_one, hob, hc0, dq, dq2]
   refine hk _ _ ⟨i + 1, by omega, ?_⟩ ?_
   ·simp (maxSteps:=4000000)(disch:=first|assumption|(simp only[dz];first|done|assumption|omega)|omega|apply_rules[Fr.refl,Fr.alloc,Fr.drew]|rfl) only [↓gsd,gs,gv,Nat.reduceAdd,Nat.reduceEqDiff, e0, e14, e15, e16, hvb, Int.natCast_add, Int.natCast_one]
    refine ⟨fun j y hj hy => ?_, hf⟩
    by_cases hji : j = i
    ·subst hji; rw [hx] at hy; cases hy
     unfold badK; rw [dq, decide_eq_false q2]; rfl
    ·exact hno j y (by omega) hy
   ·have e3 : ((i : Int) + 1).toNat = i + 1 := by omega
    simp (maxSteps:=4000000)(disch:=first|assumption|(simp only[dz];first|done|assumption|omega)|omega|apply_rules[Fr.refl,Fr.alloc,Fr.drew]|rfl) only [↓gsd,gs,gv,Nat.reduceAdd,Nat.reduceEqDiff, e16, numOf, Int.toNat_natCast, e3]; omega
  ·have el : decide ((i : Int) < (ks.length : Int)) = false := decide_eq_false (by omega)
   have hnb : ks.any badK = false := by
    rw [List.any_eq_false]
    intro x hx
    obtain ⟨j, hj⟩ := List.getElem?_of_mem hx
    rw [hno j x (by have := (List.getElem?_eq_some_iff.1 hj).1; omega) hj]; simp
   simp (maxSteps:=4000000)(disch:=first|assumption|(simp only[dz];first|done|assumption|omega)|omega|apply_rules[Fr.refl,Fr.alloc,Fr.drew]|rfl) only [↓gd,gp,Nat.reduceAdd,Nat.reduceEqDiff, ↓hk89, e0, e14, e15, e16, el]
   refine call101 ?_
   simp (maxSteps:=4000000)(disch:=first|assumption|(simp only[dz];first|done|assumption|omega)|omega|apply_rules[Fr.refl,Fr.alloc,Fr.drew]|rfl) only [↓gd,gp,Nat.reduceAdd,Nat.reduceEqDiff, ↓hk101, hv]
   have h2 := h.frN hf
   rw [hv] at h2
   refine sorted_spec h2 (by omega) fun v2 w2 hown2 hf2 hfr2 => ?_
   have cw2 := cur w2
   have hz2 := hf2.size
   have hsl : (sortL (ks.map bl)).length = ks.length := by simp [sortL]
   rw [← hsl] at hown2
   simp (maxSteps:=4000000)(disch:=first|assumption|(simp only[dz];first|done|assumption|omega)|omega|apply_rules[Fr.refl,Fr.alloc,Fr.drew]|rfl) only [↓gd,gp,Nat.reduceAdd,Nat.reduceEqDiff, ↓hk89, e0, e14, e15, e16]
   refine compact_spec hown2 (by omega) fun a3 c3 w3 hf3 => ?_
   have cw3 := cur w3
   have hz3 := hf3.size
   have hf23 : Fr [] w1 w3 := hf2.trans hf3 fun x hx => by
    unfold blkL at hx
    split at hx
    ·rename_i b hb
     simp at hx
     exact .inr (hx ▸ hfr2 b hb)
    ·simp at hx
   by_cases hn : ks.Nodup
   ·have d2 : decide (((Lib.compact (sortL (ks.map bl))).length : Int) < (ks.length : Int)) = false := decide_eq_false (by
     intro hh; exact (dup_iff ks).1 (by omega) hn)
    have hc : chkK ks = 0 := by unfold chkK; rw [if_neg hA, if_neg (by simp [hnb]), if_pos hn]
    rw [hc] at hK
    simp (maxSteps:=4000000)(disch:=first|assumption|(simp only[dz];first|done|assumption|omega)|omega|apply_rules[Fr.refl,Fr.alloc,Fr.drew]|rfl) only [↓gd,gp,Nat.reduceAdd,Nat.reduceEqDiff, ↓hk89, e0, hv, d2]
    exact hK _ (hf.trans' hf23)
   ·have d2 : decide (((Lib.compact (sortL (ks.map bl))).length : Int) < (ks.length : Int)) = true := decide_eq_true (by
     have := (dup_iff ks).2 hn; omega)
    have hc : chkK ks = 22 := by unfold chkK; rw [if_neg hA, if_neg (by simp [hnb]), if_neg hn]
    rw [hc] at hK
    simp (maxSteps:=4000000)(disch:=first|assumption|(simp only[dz];first|done|assumption|omega)|omega|apply_rules[Fr.refl,Fr.alloc,Fr.drew]|rfl) only [↓gd,gp,Nat.reduceAdd,Nat.reduceEqDiff, ↓hk89, e0, hv, d2]
    exact hK _ (hf.trans' hf23)
end Go.Proofs.YtgloomahpjpiiaaGreat.Sm
namespace Go.Proofs.YtgloomahpjpiiaaGreat.Sm
open Go.VW
abbrev Ks := List ByteArray
theorem own_ne {k k' n n' : Nat} {e e' : TypeId} {w : World} {v v' : Value} {cs cs' : List Value} (h : Own k e w v n cs) (h' : Own k' e' w v' n' cs') (he : e ≠ e') : ∀ b, v.ownBlock = some b → v'.ownBlock ≠ some b := by
 intro b hb hb'
 rcases h.2 with ⟨rfl, _⟩ | ⟨g, cap, cur, rfl, _, hg, _⟩
 ·simp [Value.ownBlock] at hb
 ·rcases h'.2 with ⟨rfl, _⟩ | ⟨g', cap', cur', rfl, _, hg', _⟩
  ·simp [Value.ownBlock] at hb'
  ·simp [Value.ownBlock] at hb hb'
   subst hb; subst hb'
   rw [hg] at hg'
   cases hg'
   exact he rfl
theorem own_head {k n : Nat} {e t : TypeId} {w : World} {v : Value} {cs : List Value} {b : Nat} {c : Array Value} {fr : Nat × Nat} (h : Own k e w v n cs) (hb : w.heap[b]? = some (.cells c t fr)) (he : e ≠ t) : v.ownBlock ≠ some b := by
 intro hb'
 rcases h.2 with ⟨rfl, _⟩ | ⟨g, cap, cur, rfl, _, hg, _⟩
 ·simp [Value.ownBlock] at hb'
 ·simp [Value.ownBlock] at hb'
  subst hb'
  rw [hg] at hb
  cases hb
  exact he rfl
theorem mem_blkL {v : Value} {b : Nat} : b ∈ blkL v ↔ v.ownBlock = some b := by
 unfold blkL
 split
 ·rename_i g hg; rw [hg]; simp; exact eq_comm
 ·rename_i hg; rw [hg]; simp
theorem Own.oneC {k n : Nat} {e : TypeId} {w : World} {v : Value} {cs : List Value} (h : Own k e w v n cs) : oneC v = true := by
 obtain ⟨a, c, hv⟩ := h.sl.form; rw [hv]; rfl
structure LogAt (w : World) (lb : Nat) (Wr Rd : List Nat) (L : List Ks) : Prop where
 ex : ∃ (vl : Value) (vs : List Value), w.heap[lb]? = some (.cells ([vl] : List Value).toArray 106 (0, 0)) ∧ Own 1 38 w vl vs.length vs ∧ vs.length = L.length ∧
  (∀ (i : Nat) v ks, vs[i]? = some v → L[i]? = some ks → Own 1 9 w v ks.length (cellsOf encS ks) ∧ ∀ b, v.ownBlock = some b → b ∈ Rd) ∧ (∀ b, vl.ownBlock = some b → b ∈ Wr)
 lb : lb ∈ Wr
 lt : ∀ x, x ∈ Wr ∨ x ∈ Rd → x < w.heap.size
 len : L.length ≤ 1099511627776
 ok : ∀ ks ∈ L, chkK ks = 0
theorem LogAt.fr {w w' : World} {lb : Nat} {Wr Rd : List Nat} {L : List Ks} (h : LogAt w lb Wr Rd L) {M : List Nat} (hf : Fr M w w') (hM : ∀ x ∈ M, x ∉ Wr ∧ x ∉ Rd) : LogAt w' lb Wr Rd L := by
 obtain ⟨⟨vl, vs, hh, ho, hl, hk, hb⟩, h1, h2, h3, h4⟩ := h
 refine ⟨⟨vl, vs, hf.get hh fun hm => (hM _ hm).1 h1, ho.fr hf fun x hx e => (hM x hx).1 (hb x e), hl, fun i v ks hv hks => ?_, hb⟩, h1, fun x hx => hf.lt (h2 x hx), h3, h4⟩
 obtain ⟨q1, q2⟩ := hk i v ks hv hks
 exact ⟨q1.fr hf fun x hx e => (hM x hx).2 (q2 x e), q2⟩
theorem LogAt.frN {w w' : World} {lb : Nat} {Wr Rd : List Nat} {L : List Ks} (h : LogAt w lb Wr Rd L) (hf : Fr [] w w') : LogAt w' lb Wr Rd L := h.fr hf (by simp)
theorem new_log {w : World} {K : Value → World → Prop} (hK : ∀ b w', Fr [] w w' → w.heap.size ≤ b → LogAt w' b [b] [] [] → K (.pointer (some ⟨b, 0, none⟩)) w') : CallsN Tryz.prog 27 [] w K := by
 have cw := cur w
 refine call27 ?_
 simp (maxSteps:=4000000)(disch:=first|assumption|(simp only[dz];first|done|assumption|omega)|omega|apply_rules[Fr.refl,Fr.alloc,Fr.drew]|rfl) only [↓gd,gp,Nat.reduceAdd,Nat.reduceEqDiff, ↓hk27]
 refine hK w.heap.size _ (by (repeat (first | exact Fr.refl _ _ | assumption | with_reducible apply Fr.alloc | with_reducible apply Fr.drew | with_reducible refine Fr.setB ?_ _ _ (.inr (by first | omega | (simp only [gz]; omega))) | with_reducible refine Fr.setB ?_ _ _ (.inl (by first | assumption | simp)) | with_reducible refine Fr.trans' ?_ (by assumption)))) (Nat.le_refl _) ⟨⟨.slice none 0 0, [], ?_, Own.nil, rfl, fun i v ks hv => by simp at hv, fun b hb => by simp [Value.ownBlock] at hb⟩, by simp, fun x hx => by simp at hx; subst hx; simp only [gz]; omega, by simp, fun ks hks => by simp at hks⟩
 simp (maxSteps:=4000000)(disch:=first|assumption|(simp only[dz];first|done|assumption|omega)|omega|apply_rules[Fr.refl,Fr.alloc,Fr.drew]|rfl) only [↓gsd,gs,gv,Nat.reduceAdd,Nat.reduceEqDiff]
theorem last_spec {w : World} {lb : Nat} {Wr Rd : List Nat} {L : List Ks} {K : Value → World → Prop} (h : LogAt w lb Wr Rd L) (hK : K (.int .i64 L.length) w) : CallsN Tryz.prog 70 [.pointer (some ⟨lb, 0, none⟩)] w K := by
 have cw := cur w
 obtain ⟨⟨vl, vs, hh, ho, hl, hk, hb⟩, h1, h2, h3, h4⟩ := h
 have hlt := lt_of_get _ _ hh
 obtain ⟨a, c, hv⟩ := ho.sl.form
 rw [hv] at hh
 rw [← hl] at hK
 refine call70 ?_
 simp (maxSteps:=4000000)(disch:=first|assumption|(simp only[dz];first|done|assumption|omega)|omega|apply_rules[Fr.refl,Fr.alloc,Fr.drew]|rfl) only [↓gd,gp,Nat.reduceAdd,Nat.reduceEqDiff, ↓hk70, hh]
 exact hK
def appL (L : List Ks) (ks : Ks) : (Int × Int) × List Ks :=
 if chkK ks ≠ 0 then ((0, chkK ks), L) else if 1099511627776 ≤ L.length then ((0, 2), L) else (((L.length : Int) + 1, 0), L ++ [ks])
theorem appL_err {L : List Ks} {ks : Ks} (h : chkK ks ≠ 0) : appL L ks = ((0, chkK ks), L) := by unfold appL; rw [if_pos h]
theorem appL_full {L : List Ks} {ks : Ks} (h : chkK ks = 0) (hl : 1099511627776 ≤ L.length) : appL L ks = ((0, 2), L) := by unfold appL; rw [if_neg (by simp [h]), if_pos hl]
theorem appL_ok {L : List Ks} {ks : Ks} (h : chkK ks = 0) (hl : ¬ 1099511627776 ≤ L.length) : appL L ks = (((L.length : Int) + 1, 0), L ++ [ks]) := by unfold appL; rw [if_neg (by simp [h]), if_neg hl]
set_option maxHeartbeats 8000000 in
theorem append_log {w : World} {lb : Nat} {Wr Rd : List Nat} {L : List Ks} {va : Value} {ks : Ks} {K : Value → World → Prop} (h : LogAt w lb Wr Rd L) (ha : SlOf 1 encS w va ks) (hl : ks.length ≤ 9223372036854775807)
  (hK : ∀ w' Wr' Rd', LogAt w' lb Wr' Rd' (appL L ks).2 → Fr Wr w w' → (∀ x ∈ Wr', x ∈ Wr ∨ w.heap.size ≤ x) → (∀ x ∈ Rd', x ∈ Rd ∨ w.heap.size ≤ x) → K (.tuple ([.int .i64 (appL L ks).1.1, .int .i64 (appL L ks).1.2] : List Value).toArray) w') :
  CallsN Tryz.prog 57 [.pointer (some ⟨lb, 0, none⟩), va] w K := by
 have cw := cur w
 refine call57 ?_
 simp (maxSteps:=4000000)(disch:=first|assumption|(simp only[dz];first|done|assumption|omega)|omega|apply_rules[Fr.refl,Fr.alloc,Fr.drew]|rfl) only [↓gsd,gs,gv,Nat.reduceAdd,Nat.reduceEqDiff, gt, ↓hk57]
 refine check_spec ha hl fun w1 hf1 => ?_
 have cw1 := cur w1
 have hz1 := hf1.size
 have h1 := h.frN hf1
 have hfW : Fr Wr w w1 := Fr.trans (M' := []) (Fr.refl _ w) hf1 (by simp)
 by_cases hc : chkK ks = 0
 case neg =>
  have d0 : decide (chkK ks = 0) = false := decide_eq_false hc
  rw [appL_err hc] at hK
  simp (maxSteps:=4000000)(disch:=first|assumption|(simp only[dz];first|done|assumption|omega)|omega|apply_rules[Fr.refl,Fr.alloc,Fr.drew]|rfl) only [↓gsd,gs,gv,Nat.reduceAdd,Nat.reduceEqDiff, gt, ↓hk57, d0]
  exact hK w1 Wr Rd h1 hfW (fun x hx => .inl hx) (fun x hx => .inl hx)
 rw [hc]
 simp (maxSteps:=4000000)(disch:=first|assumption|(simp only[dz];first|done|assumption|omega)|omega|apply_rules[Fr.refl,Fr.alloc,Fr.drew]|rfl) only [↓gsd,gs,gv,Nat.reduceAdd,Nat.reduceEqDiff, gt, ↓hk57]
 refine last_spec h1 ?_
 by_cases hfull : 1099511627776 ≤ L.length
 ·have d1 : decide ((1099511627776 : Int) ≤ (L.length : Int)) = true := decide_eq_true (by omega)
  rw [appL_full hc hfull] at hK
  simp (maxSteps:=4000000)(disch:=first|assumption|(simp only[dz];first|done|assumption|omega)|omega|apply_rules[Fr.refl,Fr.alloc,Fr.drew]|rfl) only [↓gsd,gs,gv,Nat.reduceAdd,Nat.reduceEqDiff, gt, ↓hk57, d1]
  exact hK w1 Wr Rd h1 hfW (fun x hx => .inl hx) (fun x hx => .inl hx)
 have d1 : decide ((1099511627776 : Int) ≤ (L.length : Int)) = false := decide_eq_false (by omega)
 rw [appL_ok hc hfull] at hK
 obtain ⟨q1, q2, q3⟩ := chkK_ok hc
 obtain ⟨⟨vl, vs, hh, ho, hvl, hk, hb⟩, g1, g2, g3, g4⟩ := h1
 have hlt := lt_of_get _ _ hh
 obtain ⟨la, lc, hv⟩ := ho.sl.form
 have hh' := hh
 rw [hv] at hh'
 simp (maxSteps:=4000000)(disch:=first|assumption|(simp only[dz];first|done|assumption|omega)|omega|apply_rules[Fr.refl,Fr.alloc,Fr.drew]|rfl) only [↓gsd,gs,gv,Nat.reduceAdd,Nat.reduceEqDiff, gt, ↓hk57, d1]
 refine draw_intro2 (w := w1.drew) (fun t => if t = 4 then [] else lb :: blkL vl) ?_
 simp (maxSteps:=4000000)(disch:=first|assumption|(simp only[dz];first|done|assumption|omega)|omega|apply_rules[Fr.refl,Fr.alloc,Fr.drew]|rfl) only [↓gsd,gs,gv,Nat.reduceAdd,Nat.reduceEqDiff, gt, ↓hk57, Fr_self, hh']
 refine clone_spec ((ha.frN hf1).frN (Fr.refl _ _).drew) (by omega) fun v2 w2 hown2 hf2 hfr2 => ?_
 have cw2 := cur w2
 have hz2 := hf2.size
 rw [size_drew] at hz2
 have hf12 : Fr [] w1 w2 := (Fr.refl _ _).drew.trans' hf2
 have T0 : ∀ M, Fr M w1.drew w2 := fun M => Fr.trans (M' := []) (Fr.refl _ _) hf2 (by simp)
 obtain ⟨a2, c2, hv2⟩ := hown2.sl.form
 simp (maxSteps:=4000000)(disch:=first|assumption|(simp only[dz];first|done|assumption|omega)|omega|apply_rules[Fr.refl,Fr.alloc,Fr.drew]|rfl) only [↓gsd,gs,gv,Nat.reduceAdd,Nat.reduceEqDiff, gt, ↓hk57, eq_true (T0 []), eq_true (T0 (lb :: blkL vl)), hv2]
 generalize hW : World.alloc w2 _ = w3
 have hf3 : Fr [] w2 w3 := by rw [← hW]; (repeat (first | exact Fr.refl _ _ | assumption | with_reducible apply Fr.alloc | with_reducible apply Fr.drew | with_reducible refine Fr.setB ?_ _ _ (.inr (by first | omega | (simp only [gz]; omega))) | with_reducible refine Fr.setB ?_ _ _ (.inl (by first | assumption | simp)) | with_reducible refine Fr.trans' ?_ (by assumption)))
 have hz3 : w3.heap.size = w2.heap.size + 1 := by rw [← hW]; simp only [gz]
 have hsl : Sl 1 w3 (.slice (some ⟨w2.heap.size, 0, none⟩) 1 1) 1 [v2] := by rw [← hW, hv2]; exact ⟨rfl, .inr ⟨_, 0, 1, _, 38, (0, 0), rfl, get_alloc_new _ _, rfl⟩⟩
 clear hW
 have cw3 := cur w3
 have T1 : ∀ M, Fr M w1.drew w3 := fun M => (T0 M).trans' hf3
 have ho3 : Own 1 38 w3 vl vs.length vs := (ho.frN hf12).frN hf3
 obtain ⟨v4, w4, hr4, hown4, hf4, hbk⟩ := ap104 (ty := 104) ho3 hsl (by simp [hown2.oneC]) (by omega)
 obtain ⟨a4, c4, hv4⟩ := hown4.sl.form
 have cw4 := cur w4
 have hz4 := hf4.size
 have hh3 := hf3.getN (hf12.getN hh)
 have hnb : lb ∉ blkL vl := fun hm => own_head ho hh (by decide) (mem_blkL.1 hm)
 have hh4 := hf4.get hh3 hnb
 have hlt4 := lt_of_get _ _ hh4
 rw [hv] at hr4
 rw [hv4] at hr4
 have hh4' := hh4
 rw [hv] at hh4'
 have T2 : Fr (lb :: blkL vl) w1.drew w4 := (T1 _).trans hf4 fun x hx => .inl (List.mem_cons_of_mem _ hx)
 have T3 : ∀ o, Fr (lb :: blkL vl) w1.drew (w4.setB lb o) = True := fun o => eq_true (T2.setB _ _ (.inl (List.mem_cons_self ..)))
 simp (maxSteps:=4000000)(disch:=first|assumption|(simp only[dz];first|done|assumption|omega)|omega|apply_rules[Fr.refl,Fr.alloc,Fr.drew]|rfl) only [↓gsd,gs,gv,Nat.reduceAdd,Nat.reduceEqDiff, gt, ↓hk57, eq_true (T1 []), eq_true (T1 (lb :: blkL vl)), hr4, eq_true T2, T3, hh4']
 have hz0 := hf1.size
 generalize hW : World.setB w4 lb _ = w5
 have hf5 : Fr [lb] w4 w5 := by rw [← hW]; (repeat (first | exact Fr.refl _ _ | assumption | with_reducible apply Fr.alloc | with_reducible apply Fr.drew | with_reducible refine Fr.setB ?_ _ _ (.inr (by first | omega | (simp only [gz]; omega))) | with_reducible refine Fr.setB ?_ _ _ (.inl (by first | assumption | simp)) | with_reducible refine Fr.trans' ?_ (by assumption)))
 have hz5 : w5.heap.size = w4.heap.size := by rw [← hW]; simp only [gz]
 have hh5 : w5.heap[lb]? = some (.cells ([v4] : List Value).toArray 106 (0, 0)) := by rw [← hW, hv4]; simp (maxSteps:=4000000)(disch:=first|assumption|(simp only[dz];first|done|assumption|omega)|omega|apply_rules[Fr.refl,Fr.alloc,Fr.drew]|rfl) only [↓gsd,gs,gv,Nat.reduceAdd,Nat.reduceEqDiff]
 clear hW
 have cw5 := cur w5
 have hwb : ∀ b ∈ blkL vl, b ∈ Wr := fun b hb' => hb b (mem_blkL.1 hb')
 have hF : Fr Wr w w5 := by
  refine Fr.trans ?_ hf5 (fun x hx => by simp at hx; subst hx; exact .inl g1)
  refine Fr.trans ?_ hf4 (fun x hx => .inl (hwb x hx))
  exact (hfW.trans' hf12).trans' hf3
 have hown5 : Own 1 38 w5 v4 (vs.length + 1) (vs ++ [v2]) := hown4.fr hf5 (by intro x hx; simp at hx; subst hx; exact own_head hown4 hh4 (by decide))
 have hkeep : ∀ {v : Value} {kk : Ks}, Own 1 9 w3 v kk.length (cellsOf encS kk) → Own 1 9 w5 v kk.length (cellsOf encS kk) := fun {v kk} hq =>
  (hq.fr hf4 (fun x hx e => own_ne hq ho3 (by decide) x e (mem_blkL.1 hx))).fr hf5 (by intro x hx e; simp at hx; subst hx; exact own_head (hq.fr hf4 (fun x hx e => own_ne hq ho3 (by decide) x e (mem_blkL.1 hx))) hh4 (by decide) e)
 have hnew : LogAt w5 lb (Wr ++ blkL v4) (Rd ++ blkL v2) (L ++ [ks]) := by
  refine ⟨⟨v4, vs ++ [v2], hh5, by simpa using hown5, by simp [hvl], fun i v kk hv' hk' => ?_, fun b hb' => List.mem_append_right _ (mem_blkL.2 hb')⟩, List.mem_append_left _ g1, fun x hx => ?_, by simp; omega, fun kk hkk => ?_⟩
  ·by_cases hi : i < vs.length
   ·rw [List.getElem?_append_left hi] at hv'
    rw [List.getElem?_append_left (by omega)] at hk'
    obtain ⟨r1, r2⟩ := hk i v kk hv' hk'
    exact ⟨hkeep ((r1.frN hf12).frN hf3), fun b hb' => List.mem_append_left _ (r2 b hb')⟩
   ·have hil : i < (vs ++ [v2]).length := (List.getElem?_eq_some_iff.1 hv').1
    simp only [List.length_append, List.length_cons, List.length_nil] at hil
    have : i = vs.length := by omega
    subst this
    rw [List.getElem?_concat_length] at hv'
    rw [hvl, List.getElem?_concat_length] at hk'
    cases hv'; cases hk'
    exact ⟨hkeep (hown2.frN hf3), fun b hb' => List.mem_append_right _ (mem_blkL.2 hb')⟩
  ·have hx' : x ∈ Wr ∨ x ∈ Rd ∨ v4.ownBlock = some x ∨ v2.ownBlock = some x := by
    simp only [List.mem_append, mem_blkL] at hx
    rcases hx with (h | h) | (h | h) <;> simp [h]
   rcases hx' with h | h | h | h
   ·have := g2 x (.inl h); omega
   ·have := g2 x (.inr h); omega
   ·exact hown5.lt h
   ·have := (hkeep (hown2.frN hf3)).lt h; exact this
  ·rcases List.mem_append.1 hkk with h | h
   ·exact g4 kk h
   ·simp at h; subst h; exact hc
 refine last_spec hnew ?_
 have eL : ((L ++ [ks]).length : Int) = (L.length : Int) + 1 := by simp
 rw [eL]
 refine hK w5 _ _ hnew hF (fun x hx => ?_) (fun x hx => ?_)
 ·rcases List.mem_append.1 hx with h | h
  ·exact .inl h
  ·rw [mem_blkL] at h
   rcases hbk with e | ⟨b', e1, e2⟩
   ·exact .inl (hb x (e ▸ h))
   ·rw [e1] at h; cases h; right; omega
 ·rcases List.mem_append.1 hx with h | h
  ·exact .inl h
  ·have := hfr2 x (mem_blkL.1 h)
   rw [size_drew] at this
   right; omega
end Go.Proofs.YtgloomahpjpiiaaGreat.Sm
