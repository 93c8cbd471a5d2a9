/- OriginOnce: the plain law. -/
import Derived.Test.YtgloomahpjpiiaaON
set_option linter.unusedVariables false
set_option linter.unusedSimpArgs false
set_option maxRecDepth 10000
namespace Go.Proofs.Ytgloomahpjpiiaa.Or
open Go.VW
def goodWs (ws : List St.Wr) : Bool := btw ws.length 1 8 && !ws.any badW
theorem chk_cmt {k : Int} (h0 : 0 ≤ k) (h1 : k ≤ 63) (a : Option Addr) (c : Nat) (ws : List St.Wr) : chkM (cmtM k 1 a ws.length c) ws [] = if goodWs ws = true then 0 else 1 := by
  have hk : btw k 0 63 = true := (btw_iff _ _ _).2 ⟨h0, h1⟩
  have z : zB (blankM (cmtM k 1 a ws.length c)) = true := rfl
  have n : numsB (cmtM k 1 a ws.length c) = true := by
    show (btw 0 0 7 && (btw k 0 63 && _)) = true
    rw [hk]; rfl
  have t : thingsB (cmtM k 1 a ws.length c) ws [] = goodWs ws := rfl
  have b : btw (cmtM k 1 a ws.length c).kind 1 11 = true := rfl
  unfold chkM
  rw [if_pos b, z, n, t]
  simp
theorem chkK_keys {ws : List St.Wr} (h : St.chk ws = 0) : Sm.chkK (ws.map (·.key)) = 0 := by
  unfold St.chk at h
  split at h
  · cases h
  rename_i h0
  split at h
  · rename_i hg
    split at h
    · rename_i hn
      unfold Sm.chkK
      rw [if_neg (by simpa using h0), if_neg, if_pos hn]
      intro hb
      obtain ⟨k, hk, hbk⟩ := List.any_eq_true.1 hb
      obtain ⟨x, hx, rfl⟩ := List.mem_map.1 hk
      have hgx := List.all_eq_true.1 hg x hx
      simp only [St.goodWr, St.goodKey, Bool.and_eq_true, decide_eq_true_eq] at hgx
      simp only [Sm.badK, Bool.or_eq_true, decide_eq_true_eq] at hbk
      rcases hbk with e | e
      · rw [e] at hgx
        have : (⟨#[]⟩ : ByteArray).size = 0 := rfl
        omega
      · omega
    · cases h
  · cases h
theorem recsL_snoc (L : List Sm.Ks) (ks : Sm.Ks) : Sm.recsL (L ++ [ks]) = Sm.recsL L ++ [((L.length : Int) + 1, ks)] := by
  simp [Sm.recsL, List.zipIdx_append]
theorem fromL_last (L : List Sm.Ks) (ks : Sm.Ks) : Sm.fromL (L ++ [ks]) ((L.length : Int) + 1) 1 = [((L.length : Int) + 1, ks)] := by
  have e : ((L.length : Int) + 1 - 1).toNat = (Sm.recsL L).length := by rw [Sm.recsL_len]; omega
  unfold Sm.fromL
  rw [recsL_snoc, e, List.drop_left]
  rfl
/-- A request that is new. -/
theorem commit_fresh {o : Ori} {m : Msg} {ws : List St.Wr} (hs : (o.req m.ses).seq < m.seq) (hL : (o.L.length : Int) = o.st.last) :
    (St.chk ws = 0 ∧ o.st.last < 1099511627776 ∧ o.newReq m ws = ⟨m.seq, o.st.last + 1, 0⟩ ∧ (o.st.commit ws).2.last = o.st.last + 1 ∧
      o.commit m ws = (ackA m (o.newReq m ws) :: (List.range o.cfg.nodes.toNat).map (fun (i : Nat) => recA (i : Int) (o.st.last + 1, ws.map (·.key))), ⟨o.cfg, (o.st.commit ws).2, o.L ++ [ws.map (·.key)], aset o.ses m.ses (o.newReq m ws)⟩)) ∨
    ((o.newReq m ws).seq = m.seq ∧ (o.newReq m ws).err ≠ 0 ∧ (o.newReq m ws).n = 0 ∧ (o.newReq m ws).err = (if St.chk ws ≠ 0 then St.chk ws else 2) ∧ (St.chk ws = 0 → 1099511627776 ≤ o.st.last) ∧ o.commit m ws = ([ackA m (o.newReq m ws)], ⟨o.cfg, o.st, o.L, aset o.ses m.ses (o.newReq m ws)⟩)) := by
  have hc : o.commit m ws = if (o.newReq m ws).err = 0 then (ackA m (o.newReq m ws) :: recsA (o.app ws) (o.newReq m ws).n o.cfg.nodes.toNat, ⟨o.cfg, (o.st.commit ws).2, o.app ws, aset o.ses m.ses (o.newReq m ws)⟩)
      else ([ackA m (o.newReq m ws)], ⟨o.cfg, (o.st.commit ws).2, o.L, aset o.ses m.ses (o.newReq m ws)⟩) := by
    rw [Ori.commit, if_neg (by omega), if_neg (by omega)]
  by_cases q : St.chk ws = 0
  · by_cases ql : 1099511627776 ≤ o.st.last
    · refine .inr ?_
      have e : o.st.commit ws = ((0, 2), o.st) := by unfold St.St.commit; rw [if_neg (by simp [q]), if_pos ql]
      have e1 : o.newReq m ws = ⟨m.seq, 0, 2⟩ := by unfold Ori.newReq; rw [e]
      refine ⟨by rw [e1], by rw [e1]; simp, by rw [e1], by rw [e1]; simp [q], fun _ => ql, ?_⟩
      rw [hc, e1, e]
      rfl
    · refine .inl ?_
      have e : (o.st.commit ws).1 = (o.st.last + 1, 0) ∧ (o.st.commit ws).2.last = o.st.last + 1 := by
        unfold St.St.commit; rw [if_neg (by simp [q]), if_neg ql]; exact ⟨rfl, rfl⟩
      have e1 : o.newReq m ws = ⟨m.seq, o.st.last + 1, 0⟩ := by unfold Ori.newReq; rw [e.1]
      have ea : o.app ws = o.L ++ [ws.map (·.key)] := by
        unfold Ori.app; rw [Sm.appL_ok (chkK_keys q) (by omega)]
      refine ⟨q, by omega, e1, e.2, ?_⟩
      rw [hc, e1, ea]
      simp only [if_true]
      rw [← hL, recsA, fromL_last]
      simp only [List.map_cons, List.map_nil]
      rw [← List.map_eq_flatMap]
  · refine .inr ?_
    have e : o.st.commit ws = ((0, St.chk ws), o.st) := by unfold St.St.commit; rw [if_pos (by simpa using q)]
    have e1 : o.newReq m ws = ⟨m.seq, 0, St.chk ws⟩ := by unfold Ori.newReq; rw [e]
    refine ⟨by rw [e1], by rw [e1]; simpa using q, by rw [e1], by rw [e1]; simp [q], fun h => absurd h q, ?_⟩
    rw [hc, e1, e]
    simp [q]
structure OnceI (ls : List (List St.Wr)) (o : Ori) (sn : List Bool) (ns es : List Int) (all : Int) : Prop where
  cfg : o.cfg.nodes = 1
  l1 : sn.length = 64
  l2 : ns.length = 64
  l3 : es.length = 64
  req : ∀ k : Nat, k < 64 → o.req (k : Int) = if sn[k]? = some true then ⟨1, ns[k]?.getD 0, es[k]?.getD 0⟩ else req0
  last : o.st.last = all
  len : (o.L.length : Int) = all
  good : ∀ (k : Nat) ws, ls[k]? = some ws → sn[k]? = some true → goodWs ws = true
  cnt : all + (sn.count false : Nat) ≤ 64
  nn : 0 ≤ all
theorem count_set {l : List Bool} {k : Nat} (h : l[k]? = some false) : (l.set k true).count false + 1 = l.count false := by
  induction l generalizing k with
  | nil => simp at h
  | cons a l ih =>
    cases k with
    | zero =>
      simp at h
      subst h
      simp
    | succ j =>
      simp at h
      have := ih h
      simp only [List.set_cons_succ, List.count_cons]
      omega
theorem req_aset {o : Ori} {c : Cfg} {st : St.St} {L : List Sm.Ks} {k j : Int} {q : Req} : (Ori.mk c st L (aset o.ses k q)).req j = if k = j then q else o.req j := by
  unfold Ori.req
  rw [aget_aset]
  by_cases h : k = j
  · simp [h]
  · simp [h]
theorem OnceI.set {ls : List (List St.Wr)} {o : Ori} {sn : List Bool} {ns es : List Int} {all : Int} (h : OnceI ls o sn ns es all) {k : Nat} {ws : List St.Wr} (hk : k < 64) (hw : ls[k]? = some ws) (hs : sn[k]? = some false) (hg : goodWs ws = true)
    {n e : Int} {st : St.St} {L : List Sm.Ks} {a' : Int} (h1 : st.last = a') (h2 : (L.length : Int) = a') (h3 : a' ≤ all + 1) (h4 : 0 ≤ a') :
    OnceI ls ⟨o.cfg, st, L, aset o.ses (k : Int) ⟨1, n, e⟩⟩ (sn.set k true) (ns.set k n) (es.set k e) a' := by
  obtain ⟨c1, c2, c3, c4, c5, c6, c7, c8, c9, c10⟩ := h
  refine ⟨c1, by simpa using c2, by simpa using c3, by simpa using c4, fun j hj => ?_, h1, h2, fun j ws' hj hsj => ?_, ?_, h4⟩
  · rw [req_aset]
    by_cases e1 : (k : Int) = (j : Int)
    · have e2 : k = j := by omega
      subst e2
      rw [if_pos rfl, List.getElem?_set_self (by omega), List.getElem?_set_self (by omega), List.getElem?_set_self (by omega)]
      rfl
    · have e2 : k ≠ j := by omega
      rw [if_neg e1, List.getElem?_set_ne e2, List.getElem?_set_ne e2, List.getElem?_set_ne e2]
      exact c5 j hj
  · by_cases e2 : k = j
    · subst e2
      rw [hw] at hj; cases hj; exact hg
    · rw [List.getElem?_set_ne e2] at hsj
      exact c8 j ws' hj hsj
  · have := count_set hs
    omega
/-- One request more. -/
theorem once_step {ls : List (List St.Wr)} {o : Ori} {sn : List Bool} {ns es : List Int} {all : Int} (h : OnceI ls o sn ns es all) {k : Nat} {ws : List St.Wr} (hk : k < 64) (hw : ls[k]? = some ws) (a : Option Addr) (c : Nat) :
    (o.handle (cmtM k 1 a ws.length c) ws [] = ([], o) ∧ sn[k]? = some false ∧ goodWs ws = false) ∨
    (∃ n e, sn[k]? = some true ∧ ns[k]? = some n ∧ es[k]? = some e ∧ o.handle (cmtM k 1 a ws.length c) ws [] = ([ackA (cmtM k 1 a ws.length c) ⟨1, n, e⟩], o)) ∨
    (sn[k]? = some false ∧ ∃ x o', o.handle (cmtM k 1 a ws.length c) ws [] = ([ackA (cmtM k 1 a ws.length c) ⟨1, all + 1, 0⟩, x], o') ∧ OnceI ls o' (sn.set k true) (ns.set k (all + 1)) (es.set k 0) (all + 1)) ∨
    (sn[k]? = some false ∧ ∃ e o', e ≠ 0 ∧ o.handle (cmtM k 1 a ws.length c) ws [] = ([ackA (cmtM k 1 a ws.length c) ⟨1, 0, e⟩], o') ∧ OnceI ls o' (sn.set k true) (ns.set k 0) (es.set k e) all) := by
  have hc := chk_cmt (k := (k : Int)) (by omega) (by omega) a c ws
  have hs : sn[k]? = some true ∨ sn[k]? = some false := by
    rw [List.getElem?_eq_getElem (by rw [h.l1]; exact hk)]
    cases sn[k]'(by rw [h.l1]; exact hk) <;> simp
  have hr := h.req k hk
  by_cases g : goodWs ws = true
  · rw [if_pos g] at hc
    have hh : o.handle (cmtM k 1 a ws.length c) ws [] = o.commit (cmtM k 1 a ws.length c) ws := by
      unfold Ori.handle; rw [if_pos hc]; rfl
    rw [hh]
    rcases hs with s | s
    · rw [if_pos s] at hr
      refine .inr (.inl ⟨_, _, s, List.getElem?_eq_getElem (by rw [h.l2]; exact hk), List.getElem?_eq_getElem (by rw [h.l3]; exact hk), ?_⟩)
      rw [List.getElem?_eq_getElem (by rw [h.l2]; exact hk), List.getElem?_eq_getElem (by rw [h.l3]; exact hk)] at hr
      unfold Ori.commit
      have e : o.req (cmtM (↑k) 1 a ws.length c).ses = _ := hr
      rw [e]
      rfl
    · rw [if_neg (by simp [s])] at hr
      have e : o.req (cmtM (↑k) 1 a ws.length c).ses = _ := hr
      rcases commit_fresh (m := cmtM (↑k) 1 a ws.length c) (ws := ws) (by rw [e]; show (0 : Int) < 1; decide) (by rw [h.len, h.last]) with ⟨c1, c2, c3, c4, c5⟩ | ⟨c1, c2, c3, c4, c5, c6⟩
      · refine .inr (.inr (.inl ⟨s, ?_⟩))
        rw [c5, c3, h.last, h.cfg]
        refine ⟨_, _, rfl, ?_⟩
        exact h.set hk hw s g (by rw [c4, h.last]) (by simp [h.len]) (Int.le_refl _) (by have := h.nn; omega)
      · refine .inr (.inr (.inr ⟨s, ?_⟩))
        have eq : o.newReq (cmtM (↑k) 1 a ws.length c) ws = ⟨1, 0, (o.newReq (cmtM (↑k) 1 a ws.length c) ws).err⟩ := by
          cases hq : o.newReq (cmtM (↑k) 1 a ws.length c) ws with
          | mk x y z => rw [hq] at c1 c3; simp only at c1 c3; subst c3; rw [c1]; rfl
        refine ⟨_, _, c2, by rw [c6, ← eq], ?_⟩
        rw [eq]
        exact h.set hk hw s g h.last h.len (by omega) h.nn
  · have g' : goodWs ws = false := by simpa using g
    rw [if_neg g] at hc
    refine .inl ⟨?_, ?_, g'⟩
    · unfold Ori.handle; rw [if_neg (by rw [hc]; decide)]
    · rcases hs with s | s
      · exact absurd (h.good k ws hw s) g
      · exact s
theorem rep_not (k n : Nat) : (List.replicate n false)[k]? ≠ some true := by
  rw [List.getElem?_replicate]; split <;> simp
theorem once_new (ls : List (List St.Wr)) : OnceI ls (Ori.new ⟨1, 0, 0, 0, 0, 64, 0, 0⟩) (List.replicate 64 false) (List.replicate 64 0) (List.replicate 64 0) 0 where
  cfg := rfl
  l1 := List.length_replicate
  l2 := List.length_replicate
  l3 := List.length_replicate
  req k hk := by rw [if_neg (rep_not k 64)]; rfl
  last := rfl
  len := rfl
  good k ws hw hs := absurd hs (rep_not k 64)
  cnt := by rw [List.count_replicate_self]; decide
  nn := Int.le_refl _
def plainW (x : St.Wr) : Bool := !(decide ((x.key.size : Int) < 1) || decide (32 < (x.key.size : Int)) || decide (256 < (x.data.size : Int)) || (!x.has && !decide (x.data = ⟨#[]⟩)))
theorem plainW_eq (x : St.Wr) : plainW x = !badW x := by
  have e0 : decide (x.key = (⟨#[]⟩ : ByteArray)) = decide ((x.key.size : Int) < 1) := by
    by_cases h : x.key = ⟨#[]⟩
    · rw [h]; rfl
    · have : ¬ x.key.size = 0 := fun e => h (by
        cases hk : x.key with
        | mk d => rw [hk] at e; have : d.size = 0 := e; rw [Array.eq_empty_of_size_eq_zero this])
      rw [decide_eq_false h, decide_eq_false (by omega)]
  unfold plainW badW gKey gVal
  rw [e0]
  cases decide ((x.key.size : Int) < 1) <;> cases decide ((32 : Int) < (x.key.size : Int)) <;> cases decide ((256 : Int) < (x.data.size : Int)) <;> cases x.has <;> cases decide (x.data = (⟨#[]⟩ : ByteArray)) <;> rfl
theorem plain_bad {ws : List St.Wr} (h : goodWs ws = false) (h1 : 0 < ws.length) (h9 : ws.length < 9) : ws.all plainW = false := by
  have hb : btw ws.length 1 8 = true := (btw_iff _ _ _).2 (by omega)
  unfold goodWs at h
  rw [hb, Bool.true_and] at h
  have h' : ws.any badW = true := by simpa using h
  obtain ⟨x, hx, hb⟩ := List.any_eq_true.1 h'
  rw [Bool.eq_false_iff]
  intro ha
  have := List.all_eq_true.1 ha x hx
  rw [plainW_eq, hb] at this
  cases this
end Go.Proofs.Ytgloomahpjpiiaa.Or
