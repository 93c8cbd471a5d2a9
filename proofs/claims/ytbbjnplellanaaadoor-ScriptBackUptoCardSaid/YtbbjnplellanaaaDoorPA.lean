/- The plain law of scripts: pieces, words, numbers, writes, steps, lines. -/
import Derived.Test.YtbbjnplellanaaaDoorCJ
import Derived.Lib.SplitLaws
import Derived.Lib.FieldsP
import Derived.Lib.SpaceUEq
set_option linter.unusedVariables false
set_option linter.unusedSimpArgs false
namespace Go.Proofs.YtbbjnplellanaaaDoor
open Go.VW
abbrev Bs := List UInt8
/-! ### Pieces -/
def preH (p : Bs) : List Bs → List Bs
 | [] => [p]
 | h :: t => (p ++ h) :: t
def splitL (b : UInt8) : Bs → List Bs
 | [] => [[]]
 | x :: r => if x = b then [] :: splitL b r else preH [x] (splitL b r)
theorem preH_ne (p : Bs) (l : List Bs) : preH p l ≠ [] := by cases l <;> simp [preH]
theorem splitL_ne (b : UInt8) (l : Bs) : splitL b l ≠ [] := by
 cases l with
 | nil => simp [splitL]
 | cons x r => unfold splitL; split <;> simp [preH_ne]
theorem preH_nil {l : List Bs} (h : l ≠ []) : preH [] l = l := by cases l with
 | nil => exact absurd rfl h
 | cons x r => rfl
theorem preH_preH (p q : Bs) (l : List Bs) : preH p (preH q l) = preH (p ++ q) l := by cases l <;> simp [preH]
theorem splitL_skip {b : UInt8} : ∀ {p r : Bs}, (∀ x ∈ p, x ≠ b) → splitL b (p ++ r) = preH p (splitL b r)
 | [], r, _ => (preH_nil (splitL_ne b r)).symm
 | x :: p, r, h => by
   rw [List.cons_append, splitL, if_neg (h x (by simp)), splitL_skip (fun y hy => h y (by simp [hy])), preH_preH]; rfl
theorem splitL_hit (b : UInt8) (r : Bs) : splitL b (b :: r) = [] :: splitL b r := by rw [splitL, if_pos rfl]
theorem drop_at {l : Bs} {i : Nat} {x : UInt8} (h : l[i]? = some x) : l.drop i = x :: l.drop (i + 1) := by
 have hi := (List.getElem?_eq_some_iff.1 h)
 rw [List.drop_eq_getElem_cons hi.1, hi.2]
theorem take_at {l : Bs} {i : Nat} {x : UInt8} (h : l[i]? = some x) : l.take (i + 1) = l.take i ++ [x] := by rw [List.take_add_one, h]; rfl
/-- One byte of a loop that looks for b: a piece ends. -/
theorem split_end {b : UInt8} {l : Bs} {out : List Bs} {p : Bs} {i : Nat} (h : splitL b l = out ++ preH p (splitL b (l.drop i))) (hx : l[i]? = some b) : splitL b l = (out ++ [p]) ++ preH [] (splitL b (l.drop (i + 1))) := by
 rw [h, drop_at hx, splitL_hit, preH_nil (splitL_ne _ _)]; simp [preH]
theorem split_on {b x : UInt8} {l : Bs} {out : List Bs} {p : Bs} {i : Nat} (h : splitL b l = out ++ preH p (splitL b (l.drop i))) (hx : l[i]? = some x) (hn : x ≠ b) : splitL b l = out ++ preH (p ++ [x]) (splitL b (l.drop (i + 1))) := by
 rw [h, drop_at hx, splitL, if_neg hn, preH_preH]
theorem splitK_eq (b : UInt8) : ∀ (l : Bs) (k : Nat), Lib.count l [b] = k → Lib.splitK [b] 0 k l = splitL b l
 | [], k, hk => by
   have : k = 0 := by rw [← hk, Lib.count_one]; rfl
   subst this; rfl
 | x :: r, k, hk => by
   by_cases hx : x = b
   ·subst hx
    rw [Lib.count_cons_eq] at hk
    obtain ⟨k, rfl⟩ : ∃ k', k = k' + 1 := ⟨k - 1, by omega⟩
    have hix : Lib.index (x :: r) [x] = 0 := by rw [Lib.index]; simp [List.isPrefixOf]
    rw [Lib.splitK, hix, splitL_hit, ← splitK_eq x r k (by omega)]; rfl
   ·rw [Lib.count_cons_ne x b r hx] at hk
    have ih := splitK_eq b r k hk
    rw [splitL, if_neg hx, ← ih]
    cases k with
    | zero => rfl
    | succ k =>
      have hp : ([b] : Bs).isPrefixOf (x :: r) = false := by simp [List.isPrefixOf, Ne.symm hx]
      have hix : Lib.index (x :: r) [b] = if Lib.index r [b] == -1 then -1 else Lib.index r [b] + 1 := by rw [Lib.index, hp]; simp
      by_cases hm : Lib.index r [b] = -1
      ·rw [Lib.count_miss hm] at hk; omega
      ·have hge := Lib.index_ge r [b]
       have hb : (Lib.index r [b] == -1) = false := by simpa using hm
       have hb1 : (Lib.index r [b] + 1 == -1) = false := by rw [beq_eq_false_iff_ne]; omega
       rw [hb] at hix
       simp only [Bool.false_eq_true, if_false] at hix
       simp only [Lib.splitK, hix, hb, hb1, Bool.false_eq_true, if_false, preH]
       have e : (Lib.index r [b] + 1).toNat = (Lib.index r [b]).toNat + 1 := by omega
       rw [e]; simp only [Nat.add_zero, List.take_succ_cons, List.length_cons, List.length_nil, Nat.zero_add, List.drop_succ_cons, List.cons_append, List.nil_append]
theorem splitB_eq (b : UInt8) (l : Bs) : Lib.splitB ⟨#[b]⟩ 0 (Lib.countB (B l) ⟨#[b]⟩) (B l) = (splitL b l).map B := by
 have h := Lib.splitB_data ⟨#[b]⟩ 0 (Lib.countB (B l) ⟨#[b]⟩) (B l)
 rw [B_list] at h
 have h2 := splitK_eq b l _ rfl
 have e : (⟨#[b]⟩ : ByteArray).data.toList = [b] := rfl
 unfold Lib.countB at h ⊢
 rw [B_list, e] at h ⊢
 rw [h2] at h
 rw [← h, List.map_map]
 conv => lhs; rw [← List.map_id (Lib.splitB _ _ _ _)]
 apply List.map_congr_left
 intro s _
 simp [B]

/-! ### Words -/
def nonE (l : List Bs) : List Bs := l.filter fun x => !x.isEmpty
def wordsL (l : Bs) : List Bs := nonE (splitL 32 l)
def isBl (r : Nat) : Bool := r == 32
theorem nonE_cons (h : Bs) (t : List Bs) : nonE (h :: t) = if h = [] then nonE t else h :: nonE t := by cases h <;> simp [nonE]
theorem conts_ne {l : Bs} {pos : Nat} {x : UInt8} (hx : l[pos]? = some x) : (Utf8.decode (B l) pos).1 = 32 ∧ x = 32 ∧ (Utf8.decode (B l) pos).2 = 1 ∨ (Utf8.decode (B l) pos).1 ≠ 32 ∧ 1 ≤ (Utf8.decode (B l) pos).2 ∧ pos + (Utf8.decode (B l) pos).2 ≤ l.length ∧ ∀ y ∈ (l.drop pos).take (Utf8.decode (B l) pos).2, y ≠ 32 := by
 have hpl := (List.getElem?_eq_some_iff.1 hx).1
 by_cases hb : x.toNat < 128
 ·rw [dec_lt hx hb]
  by_cases h32 : x = 32
  ·subst h32; exact .inl ⟨rfl, rfl, rfl⟩
  ·refine .inr ⟨fun e => h32 (UInt8.toNat_inj.1 e), by simp, by simp; omega, fun y hy => ?_⟩
   rw [drop_at hx] at hy; simp at hy; subst hy; exact h32
 ·refine .inr ?_
  have h1 := dec_ge hx hb
  have hN := Lib.decode_N (B l) pos
  rw [B_list] at hN
  obtain ⟨c2, c3, c4, c5⟩ := Lib.decodeN_conts (l.length - pos) (l.getD pos 0).toNat (l.getD (pos + 1) 0).toNat (l.getD (pos + 2) 0).toNat (l.getD (pos + 3) 0).toNat
  have hle := Lib.decodeN_le_n' (l.length - pos) (l.getD pos 0).toNat (l.getD (pos + 1) 0).toNat (l.getD (pos + 2) 0).toNat (l.getD (pos + 3) 0).toNat (by omega)
  have hpos := Lib.width_pos (B l) pos
  rw [← hN] at c2 c3 c4 c5 hle
  refine ⟨by omega, hpos, by omega, fun y hy e => ?_⟩
  subst e
  obtain ⟨j, hj⟩ := List.mem_iff_getElem?.1 hy
  rw [List.getElem?_take] at hj
  split at hj
  ·rename_i hjk
   rw [List.getElem?_drop] at hj
   have hg : l.getD (pos + j) 0 = 32 := by simp [List.getD_eq_getElem?_getD, hj]
   have h32 : (32 : UInt8).toNat = 32 := rfl
   have : j = 0 ∨ j = 1 ∨ j = 2 ∨ j = 3 := by omega
   rcases this with rfl | rfl | rfl | rfl
   ·rw [Nat.add_zero, hx] at hj; simp at hj; subst hj; exact hb (by decide)
   ·have := (c2 (by omega)).1; rw [hg, h32] at this; omega
   ·have := (c3 (by omega)).1; rw [hg, h32] at this; omega
   ·have := (c4 (by omega)).1; rw [hg, h32] at this; omega
  ·cases hj
def curP (l : Bs) (pos : Nat) : Option Nat → Bs
 | some a => (l.take pos).drop a
 | none => []
theorem drop_take_add (l : Bs) {a pos k : Nat} (ha : a ≤ pos) (hp : pos + k ≤ l.length) : (l.take (pos + k)).drop a = (l.take pos).drop a ++ (l.drop pos).take k := by
 rw [List.take_add, List.drop_append_of_le_length (by rw [List.length_take]; omega)]
theorem spans_words (l : Bs) : ∀ (f pos : Nat) (st : Option Nat) (acc : List (Nat × Nat)), l.length ≤ pos + f → pos ≤ l.length → (∀ a, st = some a → a < pos) →
  (Lib.closeSpans (B l) (Lib.spansFromP isBl (B l) f pos st acc)).map (fun x => (B l).extract x.1 x.2) = acc.map (fun x => (B l).extract x.1 x.2) ++ (nonE (preH (curP l pos st) (splitL 32 (l.drop pos)))).map B := by
 intro f
 induction f with
 | zero =>
   intro pos st acc hf hp hst
   have : pos = l.length := by omega
   subst this
   simp only [Lib.spansFromP, List.drop_length, splitL, preH, List.append_nil]
   cases st with
   | none => simp [Lib.closeSpans, curP, nonE]
   | some a =>
     have ha := hst a rfl
     have hne : (l.drop a) ≠ [] := by simp; omega
     simp only [Lib.closeSpans, curP, List.take_length, List.map_append, List.map_cons, List.map_nil, nonE_cons, if_neg hne, B_extract, B_size]
     rw [List.take_of_length_le (by simp)]; rfl
 | succ f ih =>
   intro pos st acc hf hp hst
   by_cases hlt : pos < l.length
   ·obtain ⟨x, hx⟩ : ∃ x, l[pos]? = some x := ⟨l[pos], List.getElem?_eq_getElem hlt⟩
    have hlt' : pos < (B l).size := by rw [B_size]; exact hlt
    unfold Lib.spansFromP
    rw [if_pos hlt']
    rcases conts_ne hx with ⟨hr, rfl, hk⟩ | ⟨hr, hk1, hk2, hk3⟩
    ·have hp1 : isBl (Utf8.decode (B l) pos).1 = true := by rw [hr]; rfl
     rw [if_pos hp1, hk, drop_at hx, splitL_hit]
     cases st with
     | none =>
       simp only [curP, preH, List.nil_append, nonE_cons, if_true]
       rw [ih _ _ _ (by omega) (by omega) (fun a h => by cases h)]
       simp only [curP]
       rw [preH_nil (splitL_ne _ _)]
     | some a =>
       have ha := hst a rfl
       have hne : (l.take pos).drop a ≠ [] := by simp; omega
       simp only [curP, preH, List.append_nil, nonE_cons, if_neg hne]
       rw [ih _ _ _ (by omega) (by omega) (fun a h => by cases h)]
       simp only [curP]
       rw [preH_nil (splitL_ne _ _)]
       simp only [List.map_append, List.map_cons, List.map_nil, List.append_assoc, List.singleton_append, B_extract, List.drop_take]
    ·have hp1 : ¬ isBl (Utf8.decode (B l) pos).1 = true := by simpa [isBl] using hr
     generalize hK : (Utf8.decode (B l) pos).2 = k at *
     have hd : l.drop pos = (l.drop pos).take k ++ l.drop (pos + k) := by rw [← List.drop_drop, List.take_append_drop]
     rw [if_neg hp1]
     conv => rhs; rw [hd, splitL_skip hk3, preH_preH]
     cases st with
     | none =>
       simp only
       rw [ih _ _ _ (by omega) (by omega) (fun a h => by cases h; omega)]
       simp only [curP, List.nil_append, List.drop_take]
       rw [show pos + k - pos = k by omega]
     | some a =>
       have ha := hst a rfl
       simp only
       rw [ih _ _ _ (by omega) (by omega) (fun a' h => by cases h; omega)]
       simp only [curP]
       rw [drop_take_add l (by omega) hk2]
   ·have : pos = l.length := by omega
    subst this
    rw [Lib.spansFromP_end _ _ _ _ _ _ (by rw [B_size]; omega)]
    simp only [List.drop_length, splitL, preH, List.append_nil]
    cases st with
    | none => simp [Lib.closeSpans, curP, nonE]
    | some a =>
      have ha := hst a rfl
      have hne : (l.drop a) ≠ [] := by simp; omega
      simp only [Lib.closeSpans, curP, List.take_length, List.map_append, List.map_cons, List.map_nil, nonE_cons, if_neg hne, B_extract, B_size]
      rw [List.take_of_length_le (by simp)]; rfl
theorem fields_words (l : Bs) : Lib.goFieldsP isBl (B l) = (wordsL l).map B := by
 unfold Lib.goFieldsP Lib.spansOfP
 rw [spans_words l _ 0 none [] (by rw [B_size]; omega) (by omega) (fun a h => by cases h)]
 simp only [curP, List.drop_zero, List.map_nil, List.nil_append]
 rw [preH_nil (splitL_ne _ _)]; rfl

/-! ### Numbers -/
def numGo : Bs → Int → Option Int
 | [], n => some n
 | c :: r, n => if c.toNat < 48 ∨ 57 < c.toNat then none else numGo r (10 * n + ((c.toNat : Int) - 48))
def numBad (l : Bs) : Bool := decide (l.length < 1) || (decide (9 < l.length) || (decide (1 < l.length) && decide (l.head? = some 48)))
def numO (l : Bs) : Option Int := if numBad l then none else numGo l 0
/-! ### Writes -/
structure Wr where
 key : Bs
 has : Bool
 data : Bs
deriving DecidableEq
def encWr (x : Wr) : List Value := [.string (B x.key), .bool x.has, .string (B x.data)]
theorem encWr_len (x : Wr) : (encWr x).length = 3 := rfl
def eqAt : Bs → Option Nat
 | [] => none
 | x :: r => if x = 61 then some 0 else (eqAt r).map (· + 1)
def writeO (l : Bs) : Option Wr := match eqAt l with
 | some i => if 0 < i then some ⟨l.take i, true, l.drop (i + 1)⟩ else none
 | none => if 2 ≤ l.length ∧ l[l.length - 1]? = some 33 then some ⟨l.take (l.length - 1), false, []⟩ else none
theorem eqAt_index : ∀ l : Bs, Lib.index l [61] = match eqAt l with | some i => (i : Int) | none => -1
 | [] => rfl
 | x :: r => by
   by_cases hx : x = 61
   ·subst hx; rw [Lib.index]; simp [List.isPrefixOf, eqAt]
   ·have hp : ([61] : Bs).isPrefixOf (x :: r) = false := by simp [List.isPrefixOf, Ne.symm hx]
    rw [Lib.index, hp, eqAt_index r, eqAt, if_neg hx]
    cases eqAt r with
    | none => rfl
    | some i =>
      have : ((i : Int) == -1) = false := by rw [beq_eq_false_iff_ne]; omega
      simp [this]
theorem eqAt_on {l : Bs} {i : Nat} {x : UInt8} (h : eqAt l = (eqAt (l.drop i)).map (· + i)) (hx : l[i]? = some x) (hn : x ≠ 61) : eqAt l = (eqAt (l.drop (i + 1))).map (· + (i + 1)) := by
 rw [h, drop_at hx, eqAt, if_neg hn, Option.map_map]
 congr 1; funext j; simp; omega
theorem eqAt_hit {l : Bs} {i : Nat} (h : eqAt l = (eqAt (l.drop i)).map (· + i)) (hx : l[i]? = some 61) : eqAt l = some i := by
 rw [h, drop_at hx, eqAt, if_pos rfl]; simp
theorem eqAt_end {l : Bs} (h : eqAt l = (eqAt (l.drop l.length)).map (· + l.length)) : eqAt l = none := by
 rw [h, List.drop_length]; rfl
/-! ### Steps -/
structure Stp where
 kind : Int
 s : Int
 t : Int
 n : Int
 i : Int
 key : Bs
 ws : List Wr
 text : Bs
deriving DecidableEq
abbrev SlV := Option Addr × Nat × Nat
def SlV.v (x : SlV) : Value := .slice x.1 x.2.1 x.2.2
def encStp (x : Stp × SlV) : List Value := [.int .i64 x.1.kind, .int .i64 x.1.s, .int .i64 x.1.t, .int .i64 x.1.n, .int .i64 x.1.i, .string (B x.1.key), .slice x.2.1 x.2.2.1 x.2.2.2, .string (B x.1.text)]
theorem encStp_len (x : Stp × SlV) : (encStp x).length = 8 := rfl
theorem encStp_one (x : Stp × SlV) : (encStp x).all oneC = true := rfl
structure Form where
 word : Bs
 kind : Nat
 nf : Nat
 rf : Nat
def formsL : List Form := [⟨[111, 112, 101, 110], 1, 0, 0⟩, ⟨[99, 111, 109, 109, 105, 116], 2, 1, 0⟩, ⟨[97, 103, 97, 105, 110], 3, 1, 0⟩, ⟨[98, 101, 103, 105, 110], 4, 1, 0⟩, ⟨[114, 101, 97, 100], 5, 2, 1⟩, ⟨[114, 101, 116, 114, 121], 6, 2, 0⟩, ⟨[102, 105, 110, 105, 115, 104], 7, 2, 0⟩,
 ⟨[100, 101, 108, 105, 118, 101, 114], 8, 3, 0⟩, ⟨[100, 114, 111, 112], 9, 3, 0⟩, ⟨[100, 111, 117, 98, 108, 101], 10, 3, 0⟩, ⟨[99, 114, 97, 115, 104], 11, 4, 0⟩, ⟨[114, 101, 115, 116, 97, 114, 116], 12, 4, 0⟩, ⟨[110, 117, 100, 103, 101], 13, 4, 0⟩, ⟨[115, 113, 117, 101, 101, 122, 101], 14, 4, 0⟩,
 ⟨[116, 111, 107, 101, 110], 15, 1, 0⟩, ⟨[106, 111, 105, 110], 16, 1, 2⟩]
def Stp.zero (k : Int) : Stp := ⟨k, 0, 0, 0, 0, [], [], []⟩
def setN (nf : Nat) (n : Int) (s : Stp) : Stp := match nf with
 | 1 => { s with s := n }
 | 2 => { s with t := n }
 | 3 => { s with i := n }
 | 4 => { s with n := n }
 | _ => s
def setR (rf : Nat) (x : Bs) (s : Stp) : Stp := match rf with
 | 1 => { s with key := x }
 | 2 => { s with text := x }
 | _ => s
def writesO : List Bs → Option (List Wr)
 | [] => some []
 | x :: r => (writeO x).bind fun y => (writesO r).map (y :: ·)
def oneR (rf : Nat) (s : Stp) : List Bs → Option Stp
 | [x] => some (setR rf x s)
 | _ => none
theorem oneR_not {rf : Nat} {s : Stp} {ws : List Bs} (h : ws.length ≠ 1) : oneR rf s ws = none := by
 cases ws with
 | nil => rfl
 | cons x r => cases r with
   | nil => simp at h
   | cons y r => rfl
def restF (f : Form) (s : Stp) (ws : List Bs) : Option Stp :=
 if f.rf ≠ 0 then oneR f.rf s ws
 else if f.kind ≠ 2 then (if ws = [] then some s else none)
 else (writesO ws).map fun y => { s with ws := y }
def numR (f : Form) : List Bs → Option Stp
 | [] => none
 | x :: r => (numO x).bind fun n => restF f (setN f.nf n (Stp.zero f.kind)) r
def stepF (f : Form) (ws : List Bs) : Option Stp := if f.nf = 0 then restF f (Stp.zero f.kind) ws else numR f ws
def stepO : List Bs → Option Stp
 | [] => none
 | w :: r => (formsL.find? fun f => decide (f.word = w)).bind fun f => stepF f r
/-! ### Texts -/
def lineO (l : Bs) : Option (Option Stp) := match wordsL l with
 | [] => some none
 | w :: r => if w.head? = some 35 then some none else (stepO (w :: r)).map some
def parseGo : List Bs → Nat → List Stp → List Stp × Int × Int
 | [], _, out => (out, 0, 0)
 | l :: r, i, out => match lineO l with
   | none => ([], (i : Int) + 1, 60)
   | some none => parseGo r (i + 1) out
   | some (some s) => parseGo r (i + 1) (out ++ [s])
def parseL (t : Bs) : List Stp × Int × Int := if 65536 < t.length then ([], 0, 2) else parseGo (splitL 10 t) 0 []
end Go.Proofs.YtbbjnplellanaaaDoor
