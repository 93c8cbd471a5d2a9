/- OriginOnce: the plain law. -/
import Derived.Test.YtgloomahpjpiiaaGreatON
set_option linter.unusedVariables false
set_option linter.unusedSimpArgs false
set_option maxRecDepth 10000
namespace Go.Proofs.YtgloomahpjpiiaaGreat.Or
open Go.VW
def goodWs (ws : List St.Wr) : Bool := btw ws.length 1 8 && !ws.any badW
theorem chkK_keys {ws : List St.Wr} (h : St.chk ws = 0) : Sm.chkK (ws.map (·.key)) = 0 := by
 unfold St.chk at h
 split at h
 ·cases h
 rename_i h0
 split at h
 ·rename_i hg
  split at h
  ·rename_i hn
   unfold Sm.chkK
   rw [if_neg (by simpa using h0), if_neg, if_pos hn]
   intro hb
   obtain ⟨k, hk, hbk⟩ := List.any_eq_true.1 hb
   obtain ⟨x, hx, rfl⟩ := List.mem_map.1 hk
   have hgx := List.all_eq_true.1 hg x hx
   simp only [St.goodWr, St.goodKey, Bool.and_eq_true, decide_eq_true_eq] at hgx
   simp only [Sm.badK, Bool.or_eq_true, decide_eq_true_eq] at hbk
   rcases hbk with e | e
   ·rw [e] at hgx
    have : (⟨#[]⟩ : ByteArray).size = 0 := rfl
    omega
   ·omega
  ·cases h
 ·cases h
theorem recsL_snoc (L : List Sm.Ks) (ks : Sm.Ks) : Sm.recsL (L ++ [ks]) = Sm.recsL L ++ [((L.length : Int) + 1, ks)] := by
 simp [Sm.recsL, List.zipIdx_append]
theorem fromL_last (L : List Sm.Ks) (ks : Sm.Ks) : Sm.fromL (L ++ [ks]) ((L.length : Int) + 1) 1 = [((L.length : Int) + 1, ks)] := by
 have e : ((L.length : Int) + 1 - 1).toNat = (Sm.recsL L).length := by rw [Sm.recsL_len]; omega
 unfold Sm.fromL
 rw [recsL_snoc, e, List.drop_left]
 rfl
/-- A request that is new. -/
theorem commit_fresh {o : Ori} {m : Msg} {ws : List St.Wr} (hs : (o.req m.ses).seq < m.seq) (hL : (o.L.length : Int) = o.st.last) :
  (St.chk ws = 0 ∧ o.st.last < 1099511627776 ∧ o.newReq m ws = ⟨m.seq, o.st.last + 1, 0⟩ ∧ (o.st.commit ws).2.last = o.st.last + 1 ∧
   o.commit m ws = (ackA m (o.newReq m ws) :: (List.range o.cfg.nodes.toNat).map (fun (i : Nat) => recA (i : Int) (o.st.last + 1, ws.map (·.key))), ⟨o.cfg, (o.st.commit ws).2, o.L ++ [ws.map (·.key)], aset o.ses m.ses (o.newReq m ws)⟩)) ∨
  ((o.newReq m ws).seq = m.seq ∧ (o.newReq m ws).err ≠ 0 ∧ (o.newReq m ws).n = 0 ∧ (o.newReq m ws).err = (if St.chk ws ≠ 0 then St.chk ws else 2) ∧ (St.chk ws = 0 → 1099511627776 ≤ o.st.last) ∧ o.commit m ws = ([ackA m (o.newReq m ws)], ⟨o.cfg, o.st, o.L, aset o.ses m.ses (o.newReq m ws)⟩)) := by
 have hc : o.commit m ws = if (o.newReq m ws).err = 0 then (ackA m (o.newReq m ws) :: recsA (o.app ws) (o.newReq m ws).n o.cfg.nodes.toNat, ⟨o.cfg, (o.st.commit ws).2, o.app ws, aset o.ses m.ses (o.newReq m ws)⟩)
   else ([ackA m (o.newReq m ws)], ⟨o.cfg, (o.st.commit ws).2, o.L, aset o.ses m.ses (o.newReq m ws)⟩) := by
  rw [Ori.commit, if_neg (by omega), if_neg (by omega)]
 by_cases q : St.chk ws = 0
 ·by_cases ql : 1099511627776 ≤ o.st.last
  ·refine .inr ?_
   have e : o.st.commit ws = ((0, 2), o.st) := by unfold St.St.commit; rw [if_neg (by simp [q]), if_pos ql]
   have e1 : o.newReq m ws = ⟨m.seq, 0, 2⟩ := by unfold Ori.newReq; rw [e]
   refine ⟨by rw [e1], by rw [e1]; simp, by rw [e1], by rw [e1]; simp [q], fun _ => ql, ?_⟩
   rw [hc, e1, e]
   rfl
  ·refine .inl ?_
   have e : (o.st.commit ws).1 = (o.st.last + 1, 0) ∧ (o.st.commit ws).2.last = o.st.last + 1 := by
    unfold St.St.commit; rw [if_neg (by simp [q]), if_neg ql]; exact ⟨rfl, rfl⟩
   have e1 : o.newReq m ws = ⟨m.seq, o.st.last + 1, 0⟩ := by unfold Ori.newReq; rw [e.1]
   have ea : o.app ws = o.L ++ [ws.map (·.key)] := by
    unfold Ori.app; rw [Sm.appL_ok (chkK_keys q) (by omega)]
   refine ⟨q, by omega, e1, e.2, ?_⟩
   rw [hc, e1, ea]
   simp only [if_true]
   rw [← hL, recsA, fromL_last]
   simp only [List.map_cons, List.map_nil]
   rw [← List.map_eq_flatMap]
 ·refine .inr ?_
  have e : o.st.commit ws = ((0, St.chk ws), o.st) := by unfold St.St.commit; rw [if_pos (by simpa using q)]
  have e1 : o.newReq m ws = ⟨m.seq, 0, St.chk ws⟩ := by unfold Ori.newReq; rw [e]
  refine ⟨by rw [e1], by rw [e1]; simpa using q, by rw [e1], by rw [e1]; simp [q], fun h => absurd h q, ?_⟩
  rw [hc, e1, e]
  simp [q]
structure OnceI (ls : List (List St.Wr)) (o : Ori) (sn : List Bool) (ns es : List Int) (all : Int) : Prop where
 cfg : o.cfg.nodes = 1
 l1 : sn.length = 64
 l2 : ns.length = 64
 l3 : es.length = 64
 req : ∀ k : Nat, k < 64 → o.req (k : Int) = if sn[k]? = some true then ⟨1, ns[k]?.getD 0, es[k]?.getD 0⟩ else req0
 last : o.st.last = all
 len : (o.L.length : Int) = all
 good : ∀ (k : Nat) ws, ls[k]? = some ws → sn[k]? = some true → goodWs ws = true
 cnt : all + (sn.count false : Nat) ≤ 64
 nn : 0 ≤ all
theorem count_set {l : List Bool} {k : Nat} (h : l[k]? = some false) : (l.set k true).count false + 1 = l.count false := by
 induction l generalizing k with
 | nil => simp at h
 | cons a l ih =>
   cases k with
   | zero =>
     simp at h
     subst h
     simp
   | succ j =>
     simp at h
     have := ih h
     simp only [List.set_cons_succ, List.count_cons]
     omega
theorem req_aset {o : Ori} {c : Cfg} {st : St.St} {L : List Sm.Ks} {k j : Int} {q : Req} : (Ori.mk c st L (aset o.ses k q)).req j = if k = j then q else o.req j := by
 unfold Ori.req
 rw [aget_aset]
 by_cases h : k = j
 ·simp [h]
 ·simp [h]
theorem OnceI.set {ls : List (List St.Wr)} {o : Ori} {sn : List Bool} {ns es : List Int} {all : Int} (h : OnceI ls o sn ns es all) {k : Nat} {ws : List St.Wr} (hk : k < 64) (hw : ls[k]? = some ws) (hs : sn[k]? = some false) (hg : goodWs ws = true)
  {n e : Int} {st : St.St} {L : List Sm.Ks} {a' : Int} (h1 : st.last = a') (h2 : (L.length : Int) = a') (h3 : a' ≤ all + 1) (h4 : 0 ≤ a') :
  OnceI ls ⟨o.cfg, st, L, aset o.ses (k : Int) ⟨1, n, e⟩⟩ (sn.set k true) (ns.set k n) (es.set k e) a' := by
 obtain ⟨c1, c2, c3, c4, c5, c6, c7, c8, c9, c10⟩ := h
 refine ⟨c1, by simpa using c2, by simpa using c3, by simpa using c4, fun j hj => ?_, h1, h2, fun j ws' hj hsj => ?_, ?_, h4⟩
 ·rw [req_aset]
  by_cases e1 : (k : Int) = (j : Int)
  ·have e2 : k = j := by omega
   subst e2
   rw [if_pos rfl, List.getElem?_set_self (by omega), List.getElem?_set_self (by omega), List.getElem?_set_self (by omega)]
   rfl
  ·have e2 : k ≠ j := by omega
   rw [if_neg e1, List.getElem?_set_ne e2, List.getElem?_set_ne e2, List.getElem?_set_ne e2]
   exact c5 j hj
 ·by_cases e2 : k = j
  ·subst e2
   rw [hw] at hj; cases hj; exact hg
  ·rw [List.getElem?_set_ne e2] at hsj
   exact c8 j ws' hj hsj
 ·have := count_set hs
  omega
end Go.Proofs.YtgloomahpjpiiaaGreat.Or
