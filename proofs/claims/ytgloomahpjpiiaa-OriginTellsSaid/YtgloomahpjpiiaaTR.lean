/- OriginTells walked. -/
import Derived.Test.YtgloomahpjpiiaaTQ
import Derived.Test.YtgloomahpjpiiaaOX
set_option linter.unusedVariables false
set_option linter.unusedSimpArgs false
set_option maxRecDepth 10000
namespace Go.Proofs.Ytgloomahpjpiiaa.Or
open Go.VW
theorem stays_minT {P : Program} {c : Bool} {w w' : World} {tys : Array TypeId} {ty : TypeId} {cs : Array Bool} {k k' : IntKind} {x y : Int} : stays P c (builtin .min tys ty cs #[.int k x, .int k' y]) (.int k (min x y)) w w' = True := eq_true stays_min
theorem stays_maxT {P : Program} {c : Bool} {w w' : World} {tys : Array TypeId} {ty : TypeId} {cs : Array Bool} {k k' : IntKind} {x y : Int} : stays P c (builtin .max tys ty cs #[.int k x, .int k' y]) (.int k (max x y)) w w' = True := by
  cases c with
  | false => exact eq_true trivial
  | true => exact eq_true (.inr (xv_run (run_max2 tys ty k k' x y w')))
theorem takeP_max {P : Program} {M : Option (List Nat)} {w0 : World} {tys : Array TypeId} {ty : TypeId} {cs : Array Bool} {k k' : IntKind} {x y : Int} (K : Value → Prop) :
    takeP P (FrX M w0) (builtin .max tys ty cs #[.int k x, .int k' y]) K = K (.int k (max x y)) := takeP_bi rfl (fun w => run_max2 tys ty k k' x y w) K
theorem handle_cfg (o : Ori) (m : Msg) (ws : List St.Wr) (ks : List ByteArray) : (o.handle m ws ks).2.cfg = o.cfg := by
  have hc : (o.commit m ws).2.cfg = o.cfg := by
    unfold Ori.commit
    split
    · rfl
    · split
      · rfl
      · split <;> rfl
  unfold Ori.handle
  split
  · split
    · exact hc
    · split
      · rfl
      · split
        · rfl
        · split <;> rfl
  · rfl
theorem offOld {w0 w : World} {a : Ad} {Wr : List Nat} {m : Msg} {ws : List St.Wr} {ks : List ByteArray} (h : MsgAt w0 m ws ks) (y : Young w0 a Wr) : ws ≠ [] → ∀ x, x = a.sb ∨ x = a.sm ∨ x = a.qb → offV m.wv x := fun hne x hx a' n' c' e => by
  have hpos : 0 < ws.length := by cases ws with
    | nil => exact absurd rfl hne
    | cons _ _ => simp
  obtain ⟨bb, of', cap', hb1, hb2⟩ := h.dw.lt hpos
  rw [hb1] at e
  simp only [Value.slice.injEq, Option.some.injEq] at e
  rw [← e.1]
  have := y.1 x (by rcases hx with r | r | r <;> simp [r])
  show bb ≠ x
  omega
/-- The script. -/
structure Ran (w0 w : World) (a : Ad) (o : Ori) (Wr Rd : List Nat) : Prop where
  at_ : OrAt w a Wr Rd o
  y : Young w0 a Wr
  fr : Fr [] w0 w
theorem Ran.step {w0 w w' : World} {a : Ad} {o o' : Ori} {Wr Rd Wr' Rd' : List Nat} (h : Ran w0 w a o Wr Rd) (ha : OrAt w' a Wr' Rd' o') (hs : Step w w' a Wr Rd Wr' Rd') : Ran w0 w' a o' Wr' Rd' := ⟨ha, h.y.step h.fr.size hs, h.y.fr h.fr hs⟩
theorem Ran.frN {w0 w w' : World} {a : Ad} {o : Ori} {Wr Rd : List Nat} (h : Ran w0 w a o Wr Rd) (hf : Fr [] w w') : Ran w0 w' a o Wr Rd := ⟨h.at_.frN hf, h.y, h.fr.trans' hf⟩
theorem told_enc {w : World} {R : Nat → Prop} {m' : Msg} {has : Bool} {data : ByteArray} {lo hi : Int} (h : AnsIs w R m' (toldA has data lo hi)) :
    encMsg m' = [.int .i64 6, .int .i64 0, .int .i64 0, .int .i64 0, .int .i64 1, .int .i64 9, .string ⟨#[]⟩, .int .i64 lo, .int .i64 hi, .bool has, .string data, .bool false, .int .i64 0, .int .i64 0, .slice none 0 0, .slice m'.ka m'.kl m'.kc] := by
  rw [h.eq]; rfl
theorem fill_enc {w : World} {R : Nat → Prop} {m' : Msg} {node : Int} {key : ByteArray} {has : Bool} {data : ByteArray} {lo hi n : Int} (h : AnsIs w R m' (fillA node key has data lo hi n)) :
    encMsg m' = [.int .i64 7, .int .i64 node, .int .i64 0, .int .i64 0, .int .i64 0, .int .i64 0, .string key, .int .i64 lo, .int .i64 hi, .bool has, .string data, .bool false, .int .i64 0, .int .i64 n, .slice none 0 0, .slice m'.ka m'.kl m'.kc] := by
  rw [h.eq]; rfl
theorem err_enc {w : World} {R : Nat → Prop} {m' : Msg} {er : Int} (h : AnsIs w R m' (errA er)) :
    encMsg m' = [.int .i64 6, .int .i64 0, .int .i64 0, .int .i64 0, .int .i64 1, .int .i64 9, .string ⟨#[]⟩, .int .i64 0, .int .i64 0, .bool false, .string ⟨#[]⟩, .bool false, .int .i64 er, .int .i64 0, .slice none 0 0, .slice m'.ka m'.kl m'.kc] := by
  rw [h.eq]; rfl
end Go.Proofs.Ytgloomahpjpiiaa.Or
