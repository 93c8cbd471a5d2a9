/- OriginOnce: what is in memory. -/
import Derived.Test.YtgloomahpjpiiaaOV
import Derived.Test.YtgloomahpjpiiaaMK
set_option linter.unusedVariables false
set_option linter.unusedSimpArgs false
set_option maxRecDepth 10000
namespace Go.Proofs.Ytgloomahpjpiiaa.Or
open Go.VW
def encB (b : Bool) : List Value := [.bool b]
theorem encB_len (b : Bool) : (encB b).length = 1 := rfl
def encI (n : Int) : List Value := [.int .i64 n]
theorem encI_len (n : Int) : (encI n).length = 1 := rfl
theorem cellsOf_rep {α : Type} {enc : α → List Value} {x : α} {v : Value} (h : enc x = [v]) : ∀ n, cellsOf enc (List.replicate n x) = List.replicate n v
  | 0 => rfl
  | n + 1 => by rw [List.replicate_succ, List.replicate_succ, cellsOf, List.flatMap_cons, h]; exact congrArg (v :: ·) (cellsOf_rep h n)
/-- The origin stands where other blocks change. -/
theorem OrAt.frM {w w' : World} {a : Ad} {Wr Rd : List Nat} {o : Ori} (h : OrAt w a Wr Rd o) {M : List Nat} (hf : Fr M w w') (hM : ∀ x ∈ M, x ≠ a.ob ∧ x ≠ a.sb ∧ x ≠ a.sm ∧ x ≠ a.qb ∧ x ∉ Wr ∧ x ∉ Rd ∧ ∀ cs fr, w.heap[x]? ≠ some (.cells cs 95 fr)) : OrAt w' a Wr Rd o := by
  obtain ⟨h1, h2, h3, h4, h5, h6, h7⟩ := h
  refine ⟨hf.get h1 (fun e => (hM _ e).1 rfl), storeFrM h2 hf (fun e => (hM _ e).2.1 rfl) (fun e => (hM _ e).2.2.1 rfl) (fun x hx => (hM x hx).2.2.2.2.2.2), h3.fr hf (fun x hx => ⟨(hM x hx).2.2.2.2.1, (hM x hx).2.2.2.2.2.1⟩), ?_, h5, h6, h7⟩
  rw [hf.keep _ h4.lt (fun e => (hM _ e).2.2.2.1 rfl)]; exact h4
abbrev sl64 (b : Nat) : Value := .slice (some ⟨b, 0, none⟩) 64 64
structure KeepO (w : World) (a : Ad) (Wr Rd : List Nat) (b : Nat) : Prop extends Keep w a Wr Rd b where
  ob : b ≠ a.ob
theorem KeepO.step {w w' : World} {a : Ad} {Wr Rd Wr' Rd' : List Nat} {b : Nat} (h : KeepO w a Wr Rd b) (hs : Step w w' a Wr Rd Wr' Rd') : KeepO w' a Wr' Rd' b := ⟨h.toKeep.step hs, h.ob⟩
theorem KeepO.lts {w w' : World} {a : Ad} {Wr Rd : List Nat} {b : Nat} (h : KeepO w a Wr Rd b) (hz : w.heap.size ≤ w'.heap.size) : KeepO w' a Wr Rd b := ⟨⟨h.wr, h.rd, Nat.lt_of_lt_of_le h.lt hz, h.sb, h.sm, h.qb⟩, h.ob⟩
theorem Keep.notin {w : World} {a : Ad} {Wr Rd : List Nat} {b : Nat} (h : Keep w a Wr Rd b) : b ∉ a.sb :: a.sm :: a.qb :: Wr := fun q => by
  simp only [List.mem_cons] at q
  rcases q with e | e | e | e
  · exact h.sb e
  · exact h.sm e
  · exact h.qb e
  · exact h.wr e
theorem OrAt.fresh {w w' : World} {a : Ad} {Wr Rd : List Nat} {o : Ori} (h : OrAt w a Wr Rd o) {b : Nat} (hb : w.heap.size ≤ b) (hl : b < w'.heap.size) : KeepO w' a Wr Rd b := by
  have h4 := h.lt4
  have hl' := h.lts
  exact ⟨⟨fun e => by have := hl' b (.inl e); omega, fun e => by have := hl' b (.inr e); omega, hl, by omega, by omega, by omega⟩, by omega⟩
structure OnceM (w0 w : World) (a : Ad) (b6 b7 b8 : Nat) (o : Ori) (sn : List Bool) (ns es : List Int) (Wr Rd : List Nat) : Prop where
  at_ : OrAt w a Wr Rd o
  o6 : VW.Own 1 4 w (sl64 b6) 64 (cellsOf encB sn)
  o7 : VW.Own 1 2 w (sl64 b7) 64 (cellsOf encI ns)
  o8 : VW.Own 1 36 w (sl64 b8) 64 (cellsOf encI es)
  k6 : KeepO w a Wr Rd b6
  k7 : KeepO w a Wr Rd b7
  k8 : KeepO w a Wr Rd b8
  d67 : b6 ≠ b7
  d68 : b6 ≠ b8
  d78 : b7 ≠ b8
  y : Young w0 a Wr
  n6 : w0.heap.size ≤ b6
  n7 : w0.heap.size ≤ b7
  n8 : w0.heap.size ≤ b8
  fr : Fr [] w0 w
theorem own1_no {e : TypeId} {w : World} {b n : Nat} {cs : List Value} (h : VW.Own 1 e w (sl64 b) n cs) (hn : 0 < n) (he : e ≠ 95) : ∀ cs fr, w.heap[b]? ≠ some (.cells cs 95 fr) := fun cs' fr hq => Sm.own_head h hq he (by
  rcases h.2 with ⟨h0, _⟩ | ⟨y, cap', cur', hvx, _⟩
  · cases h0
  · simp [Value.ownBlock])
/-- A store into one of the three lists. -/
theorem OrAt.st1 {w w' : World} {a : Ad} {Wr Rd : List Nat} {o : Ori} (h : OrAt w a Wr Rd o) {b : Nat} (k : KeepO w a Wr Rd b) (hf : Fr [b] w w') (ht : ∀ cs fr, w.heap[b]? ≠ some (.cells cs 95 fr)) : OrAt w' a Wr Rd o :=
  h.frM hf fun x hx => by
    rw [List.mem_singleton] at hx
    subst hx
    exact ⟨k.ob, k.sb, k.sm, k.qb, k.wr, k.rd, ht⟩
theorem own_other {e : TypeId} {w w' : World} {b c n : Nat} {cs : List Value} (h : VW.Own 1 e w (sl64 b) n cs) (hf : Fr [c] w w') (hd : b ≠ c) : VW.Own 1 e w' (sl64 b) n cs := h.fr hf fun x hx => by
  rw [List.mem_singleton] at hx
  subst hx
  simp [Value.ownBlock, hd]
theorem own_read {α : Type} {enc : α → List Value} {e : TypeId} {w : World} {b : Nat} {xs : List α} (h : VW.Own 1 e w (sl64 b) 64 (cellsOf enc xs)) (hl : xs.length = 64) (hk : ∀ x, (enc x).length = 1) {i : Nat} {x : α} (hx : xs[i]? = some x) {v : Value} (hv : enc x = [v]) :
    ∃ o, w.heap[b]? = some o ∧ ∀ orig K, ldV orig (some o) i K = K v := by
  have hs : SlOf 1 enc w (sl64 b) xs := by
    have := h.sl
    unfold SlOf
    rw [hl]; exact this
  obtain ⟨bb, off, cap, ob, hv1, hob, _, _, hc⟩ := hs.read hk i x hx
  simp only [Value.slice.injEq, Option.some.injEq, Addr.mk.injEq] at hv1
  obtain ⟨⟨rfl, rfl, _⟩, _, _⟩ := hv1
  exact ⟨ob, hob, fun orig K => by have := hc 0 v orig K (by rw [hv]; rfl); simpa using this⟩
theorem set_same {α : Type} {l : List α} {i : Nat} {x : α} (h : l[i]? = some x) : l.set i x = l := by
  apply List.ext_getElem?
  intro j
  by_cases e : i = j
  · subst e
    rw [List.getElem?_set_self (List.getElem?_eq_some_iff.1 h).1, h]
  · rw [List.getElem?_set_ne e]
theorem ack_enc {w : World} {R : Nat → Prop} {m' : Msg} {k : Int} {a : Option Addr} {l c : Nat} {q : Req} (h : AnsIs w R m' (ackA (cmtM k 1 a l c) q)) :
    encMsg m' = [.int .i64 2, .int .i64 0, .int .i64 0, .int .i64 k, .int .i64 0, .int .i64 1, .string ⟨#[]⟩, .int .i64 0, .int .i64 0, .bool false, .string ⟨#[]⟩, .bool false, .int .i64 q.err, .int .i64 q.n, .slice none 0 0, .slice m'.ka m'.kl m'.kc] := by
  rw [h.eq]; rfl
end Go.Proofs.Ytgloomahpjpiiaa.Or
