/- What Commit keeps; put; the fixed part of the laws. -/
import Derived.Test.YtenokheiindfkaaS6
set_option linter.unusedVariables false
set_option linter.unusedSimpArgs false
set_option maxRecDepth 10000
namespace Go.Proofs.Ytenokheiindfkaa
open Go.VW
/-- What holds of the rows while the commit number n is written, with the keys ks still to come. -/
def RowsOK (most : Nat) (n : Int) (ks : List ByteArray) (rows : Rows) : Prop :=
  ∀ k r, aget rows k = some r → r.list ≠ [] ∧ r.list.length ≤ most ∧ r.list.Pairwise (fun a b => a.n < b.n) ∧ (∀ x ∈ r.list, 1 ≤ x.n ∧ x.n ≤ n) ∧ (k ∈ ks → ∀ x ∈ r.list, x.n < n)
theorem row_put_ok {most : Nat} {n : Int} {r : Row} {x : Wr} (hm : 1 ≤ most) (hn : 1 ≤ n) (h1 : r.list.length ≤ most) (h2 : r.list.Pairwise (fun a b => a.n < b.n)) (h3 : ∀ x ∈ r.list, 1 ≤ x.n ∧ x.n < n) :
    (r.put most n x).list ≠ [] ∧ (r.put most n x).list.length ≤ most ∧ (r.put most n x).list.Pairwise (fun a b => a.n < b.n) ∧ ∀ y ∈ (r.put most n x).list, 1 ≤ y.n ∧ y.n ≤ n := by
  have hl := Row.put_len (n := n) (x := x) h1
  have hfull : (r.list ++ [verOf n x]).Pairwise (fun a b => a.n < b.n) := by
    rw [List.pairwise_append]
    refine ⟨h2, by simp, fun a ha b hb => ?_⟩
    simp at hb
    subst hb
    exact (h3 a ha).2
  have hall : ∀ y ∈ r.list ++ [verOf n x], 1 ≤ y.n ∧ y.n ≤ n := by
    intro y hy
    rcases List.mem_append.1 hy with h | h
    · have := h3 y h; omega
    · simp at h; subst h; exact ⟨hn, Int.le_refl _⟩
  unfold Row.put at hl ⊢
  split
  · rename_i hlt
    simp only [hlt, if_true] at hl
    refine ⟨?_, hl, hfull.sublist (List.drop_sublist _ _), fun y hy => hall y (List.mem_of_mem_drop hy)⟩
    intro e
    have := congrArg List.length e
    simp at this
    omega
  · rename_i hlt
    simp only [hlt, if_false] at hl
    exact ⟨by simp, hl, hfull, hall⟩
theorem rowsOK_put {most : Nat} {n : Int} {ks : List ByteArray} {rows : Rows} {x : Wr} (hm : 1 ≤ most) (hn : 1 ≤ n) (hx : x.key ∉ ks) (h : RowsOK most n (x.key :: ks) rows) : RowsOK most n ks (put most n rows x) := by
  intro k r hr
  unfold Go.Proofs.Ytenokheiindfkaa.put at hr
  rw [aget_aset] at hr
  by_cases hk : x.key = k
  · simp only [hk, if_true, Option.some.injEq] at hr
    subst hr
    have : ((aget rows k).getD ⟨[], false⟩).list.length ≤ most ∧ ((aget rows k).getD ⟨[], false⟩).list.Pairwise (fun a b => a.n < b.n) ∧ ∀ y ∈ ((aget rows k).getD ⟨[], false⟩).list, 1 ≤ y.n ∧ y.n < n := by
      cases ha : aget rows k with
      | none => simp
      | some r =>
        obtain ⟨_, h2, h3, h4, h5⟩ := h k r ha
        exact ⟨h2, h3, fun y hy => ⟨(h4 y hy).1, h5 (by simp [hk]) y hy⟩⟩
    obtain ⟨a, b, c, d⟩ := row_put_ok (x := x) hm hn this.1 this.2.1 this.2.2
    exact ⟨a, b, c, d, fun hks => absurd hks (hk ▸ hx)⟩
  · simp only [hk, if_false] at hr
    obtain ⟨a, b, c, d, e⟩ := h k r hr
    exact ⟨a, b, c, d, fun hks => e (List.mem_cons_of_mem _ hks)⟩
theorem rowsOK_fold {most : Nat} {n : Int} (hm : 1 ≤ most) (hn : 1 ≤ n) : ∀ (ws : List Wr) (rows : Rows), (ws.map (·.key)).Nodup → RowsOK most n (ws.map (·.key)) rows → RowsOK most n [] (ws.foldl (put most n) rows)
  | [], rows, _, h => h
  | x :: ws, rows, hnd, h => by
    simp only [List.map_cons, List.nodup_cons] at hnd
    exact rowsOK_fold hm hn ws _ hnd.2 (rowsOK_put hm hn hnd.1 h)
theorem chk_nodup {ws : List Wr} (h : chk ws = 0) : (ws.map (·.key)).Nodup := by
  unfold chk at h
  split at h
  · cases h
  · split at h
    · split at h
      · assumption
      · cases h
    · cases h
theorem St.WF.commit {st : St} (h : st.WF) (ws : List Wr) : (st.commit ws).2.WF := by
  unfold St.commit
  split
  · exact h
  · rename_i hc
    split
    · exact h
    · rename_i hl
      have hn := chk_nodup (by simpa using hc)
      have := rowsOK_fold (n := st.last + 1) h.m1 (by have := h.l0; omega) ws st.rows hn fun k r hr => by
        obtain ⟨a, b, c, d⟩ := h.rows k r hr
        exact ⟨a, b, c, fun x hx => by have := d x hx; omega, fun _ x hx => by have := d x hx; omega⟩
      exact ⟨h.m1, h.m2, by have := h.l0; show 0 ≤ st.last + 1; omega, by show st.last + 1 ≤ _; omega, fun k r hr => by
        obtain ⟨a, b, c, d, _⟩ := this k r hr
        exact ⟨a, b, c, d⟩⟩
theorem put_spec {k d : ByteArray} {w : World} {K : Value → World → Prop} (hK : ∀ w', Fr [] w w' → K (.agg (encWr ⟨k, true, d⟩).toArray) w') : CallsN Try.prog 23 [.string k, .string d] w K := by
  have cw := cur w
  refine call23 ?_
  unfold encWr at hK
  simp (maxSteps := 4000000) (disch := (first | assumption | exact List.not_mem_nil | ((repeat (first | assumption | apply cur_alloc | apply cur_setB | apply cur_drew | apply cur_drewN)); done) | omega | (simp only [size_alloc, size_setB, size_drew, size_drewN, List.length_cons, List.length_nil, List.toList_toArray, List.take_succ_cons, List.take_zero, List.drop_succ_cons, List.drop_zero, Value.cells, List.all_cons, List.all_nil, oneC, Bool.and_self]; first | done | omega) | ((simp only [List.mem_cons, List.not_mem_nil, or_false, size_alloc, size_setB, size_drew, size_drewN]); omega) | rfl)) only [↓nx_xv, ↓nx_xu, nx_len, nx_cap, nx_append, nx_min, nx_max, nx_delete, nx_clear, vR_ok, uR_ok, gdP_true, gdP_false, isB_t, isB_f, condP_t, condP_f, ↓mv_eq, nx_pick, nx_nil_ptr, nx_nil_func, ↓seqQ_n, ↓seqQ_r, ↓seqQ_x, ↓blockQ_n, ↓blockQ_r, ↓blockQ_same, ↓blockQ_ne,
    p_same, p_ne, argE_0, argE_s, argE_nil, ev, ↓retQ_n, ↓retQ_r, retP_0, retP_1, retP_2, retP_3, retP_c1, retP_ct, retP_tc, rcP_ptr, eq_self, ldV_cells, oV_some, run_extract, takeP_nil, takeP_nilf, takeP_pick, takeP_extract, takeP_not, takeP_add, takeP_sub, takeP_eqi, takeP_nei, takeP_lti, takeP_gti, takeP_lei, takeP_gei, takeP_eqs, takeP_nes, oL_some, fillL_nil, fillL_cons, fillS_some, orS_t, orS_f, run_makeFunc, run_min2, run_max2, run_not, wrap64, wrapU64, run_shr1, run_add, run_sub, run_eqi, run_nei, run_lti, run_lei, run_gti, run_gei, run_eqs, run_nes, run_lts,
    run_box, Value.cells, Option.isNone, cond_true, get_alloc_new, get_alloc_is, get_alloc_old, get_setB_same, get_setB_ne, get_drew, get_drewN, size_alloc, size_setB, size_drew, size_drewN, stV_cells, setB_alloc, setB_alloc_is, setB_setB, ldnV_cells, ifV_T, and_self, and_true, true_and, decide_true, decide_false, List.toList_toArray, List.take_succ_cons, List.take_zero, List.drop_succ_cons, List.drop_zero, List.length_cons, List.length_nil, List.all_cons, List.all_nil, Bool.and_self, oneC, Nat.reduceAdd, Option.getD_none, Option.getD_some, Option.isSome_some, Option.isSome_none, Bool.not_true, Bool.not_false, if_true, if_false, Bool.true_or, Bool.false_or, Bool.or_true, Bool.or_false, ne_eq, not_false_eq_true, not_true_eq_false, Bool.false_eq_true, List.getElem?_cons_zero, List.getElem?_cons_succ, List.nil_append, List.cons_append, List.append_nil, Nat.reduceEqDiff, Nat.zero_add, ld2, tld2, ld3, tld3, ld4, tld4, ld5, tld5, ld9, tld9, ld29, tld29, ld31, tld31, ld40, tld40, ld44, tld44, ld46, tld46, ld52, tld52, ld54, tld54, ld59, tld59, ld60, tld60, ld67, tld67, ld86, tld86, ld95, tld95, ld102, tld102, ld106, tld106, ld109, tld109, ld123, tld123, ld128, tld128, ld137, tld137, st2, st4, st29, st31, st44, st46, st54, st60, st86, st102, st106, st114, st123, st128, st137, al29, al31, al44, al46, al54, al86, al114, fa29_0, tfa29_0, fa29_1, tfa29_1, fa31_0, tfa31_0, fa31_1, tfa31_1, fa31_2, tfa31_2, fa31_3, tfa31_3, fa44_0, tfa44_0, fa44_1, tfa44_1, fa54_0, tfa54_0, fa54_1, tfa54_1, fa59_0, tfa59_0, fa59_1, tfa59_1, fa62_0, tfa62_0, fa62_1, tfa62_1, fa62_2, tfa62_2, fa86_0, tfa86_0, fa86_1, tfa86_1, fa95_0, tfa95_0, fa95_1, tfa95_1, fa95_2, tfa95_2, fa95_3, tfa95_3, fa104_0, tfa104_0, fa104_1, tfa104_1, fa104_2, tfa104_2, fa106_0, tfa106_0, fa106_1, tfa106_1, fa111_0, tfa111_0, fa111_1, tfa111_1, fa111_2, tfa111_2, fa114_0, tfa114_0, fa114_1, tfa114_1, fa125_0, tfa125_0, fa125_1, tfa125_1, fa125_2, tfa125_2, fa130_0, tfa130_0, fa130_1, tfa130_1, fa130_2, tfa130_2, fa139_0, tfa139_0, fa139_1, tfa139_1, fa139_2, tfa139_2, fa155_0, tfa155_0, fa155_1, tfa155_1, fd114_0, tfd114_0, fd114_1, tfd114_1, bd29, tbd29, bd31, tbd31, bd44, tbd44, bd54, tbd54, bd62, tbd62, bd86, tbd86, bd95, tbd95, bd104, tbd104, bd106, tbd106, bd111, tbd111, bd114, tbd114, bd125, tbd125, bd130, tbd130, bd139, tbd139, bd155, tbd155, ia22, tia22, ia40, tia40, ia46, tia46, ia49, tia49, ia52, tia52, ia60, tia60, ia64, tia64, ia68, tia68, ia71, tia71, ia75, tia75, ia90, tia90, ia102, tia102, eq4, teq4, ne4, tne4, eq24, teq24, ne24, tne24, eq46, eq50, teq50, ne50, tne50, eq65, teq65, ne65, tne65, eq76, teq76, ne76, tne76, eq109, eq123, eq128, eq29, teq29, ne29, tne29, eq31, teq31, ne31, tne31, eq86, teq86, ne86, tne86, eq106, teq106, ne106, tne106, len9, tlen9, len22, tlen22, len40, tlen40, len46, tlen46, len49, tlen49, len52, tlen52, len60, tlen60, len64, tlen64, len68, tlen68, len71, tlen71, len75, tlen75, len90, tlen90, len102, tlen102, lk109, tlk109, lkk109, tlkk109, lkn109, mu109, mk109, lk123, tlk123, lkk123, tlkk123, lkn123, mu123, mk123, ml123, mc123, md123, lk128, tlk128, lkk128, tlkk128, lkn128, mu128, mk128, ml128, mc128, md128, lk137, tlk137, lkk137, tlkk137, lkn137, mu137, mk137, ml137, mc137, md137, lk159, tlk159, lkk159, tlkk159, lkn159, mu159, mk159, cv3_158, tcv3_158, cv5_2, tcv5_2, cv5_3, tcv5_3, cv67_2, tcv67_2, cv158_3, tcv158_3, bs22_1, bs40_0, bs40_1, bs40_2, bs46_0, bs46_1, bs52_1, bs60_0, bs60_1, bs60_2, bs68_1, bs71_1, bs102_0, bs102_1, xc15, xc16, xc17, xc18, xc19, xc20, xc21, xc22, xc23, xc24, xc25, xc26, xc27, xc28, xc29, xc30, xc31, xc32, xc33, xc34, xc35, xc36, xc37, xc38, xc39, xc40, xc41, xc42, xc43, xc44, xc45, xc46, xc47, xc48, xc49, xc50, xc51, xc52, xc53, xc54, xc55, xc56, xc57, xc58, xc59, xc60, xc61, xc62, xc63, xc64, xc65, xc66, xc67, xc68, xc69, xc70, xc71, xc72, xc73, xc74, xc75, xc76, xc77, xc78, xc79, xc80, xc81, xc82, xc83, xc84, xc85, xc86, xc87, xc88, xc89, xc90, xc91, xc93, xc94, xc95, xc96, xc97, xc98, xc99, xc100, xc101, xc102, xc103, xc104, xc105, ↓o23_0_eq, ↓o23_1_eq, ↓c23R_s, ↓c23_s]
  refine hK _ ?_
  (repeat (first | exact Fr.refl _ _ | assumption | with_reducible apply Fr.alloc | with_reducible apply Fr.drew | with_reducible refine Fr.setB ?_ _ _ (.inr (by first | omega | (simp only [size_alloc, size_setB, size_drew, size_drewN]; omega))) | with_reducible refine Fr.setB ?_ _ _ (.inl (by first | assumption | simp)) | with_reducible refine Fr.trans' ?_ (by assumption)))
end Go.Proofs.Ytenokheiindfkaa
