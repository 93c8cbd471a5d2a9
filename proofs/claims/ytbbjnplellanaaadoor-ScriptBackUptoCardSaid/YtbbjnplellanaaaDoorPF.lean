/- Answers that the document fixes. -/
import Derived.Test.YtbbjnplellanaaaDoorUE
import Derived.Test.YtbbjnplellanaaaDoorPO
import Derived.Test.YtbbjnplellanaaaDoorTF
set_option linter.unusedVariables false
set_option linter.unusedSimpArgs false
set_option maxRecDepth 100000
namespace Go.Proofs.YtbbjnplellanaaaDoor
open Go.VW
def fixT : Bs := [111, 112, 101, 110, 10, 35, 32, 110, 111, 116, 101, 10, 99, 111, 109, 109, 105, 116, 32, 48, 32, 97, 61, 120, 32, 98, 33, 32, 10, 32, 114, 101, 97, 100, 32, 49, 32, 97]
def fixU : Bs := [111, 112, 101, 110, 10, 114, 101, 97, 100, 32, 48]
def fixS : List Stp := [⟨1, 0, 0, 0, 0, [], [], []⟩, ⟨2, 0, 0, 0, 0, [], [⟨[97], true, [120]⟩, ⟨[98], false, []⟩], []⟩, ⟨5, 0, 1, 0, 0, [97], [], []⟩]
theorem fix_parse : parseL fixT = (fixS, 0, 0) := by decide +kernel
theorem fix_parse2 : parseL fixU = ([], 2, 60) := by decide +kernel
theorem fix_text : textL [⟨5, 0, 1, 0, 0, [97], [], []⟩] = ([114, 101, 97, 100, 32, 49, 32, 97, 10], 0, 0) := by
 have h : Lib.itoa 1 = [49] := by
  unfold Lib.itoa
  rw [if_neg (by decide)]
  show Lib.decDigits 1 = [49]
  unfold Lib.decDigits
  simp
  try decide
 have h2 : lineS ⟨5, 0, 1, 0, 0, [97], [], []⟩ = some [114, 101, 97, 100, 32, 49, 32, 97] := by
  show lineF ⟨[114, 101, 97, 100], 5, 2, 1⟩ ⟨5, 0, 1, 0, 0, [97], [], []⟩ = _
  unfold lineF numT restT Stp.getN Stp.getR
  simp only [h]
  decide +kernel
 unfold textL
 rw [textGo, h2]
 decide +kernel
theorem rows_one {w : World} {s : Stp} (h : s.ws = []) : RowsAt (w.alloc (.cells (encStp (s, none, 0, 0)).toArray 33 (0, 0))) (.slice (some ⟨w.heap.size, 0, none⟩) 1 1) [(s, none, 0, 0)] := by
 refine ⟨?_, fun x hx => ?_⟩
 ·have := sl_new (e := 33) (w := w) (encStp_len (s, none, 0, 0))
  unfold SlOf
  rw [cellsOf_one]; exact this
 ·simp only [List.mem_singleton] at hx
  subst hx
  show SlOf 3 encWr _ (.slice none 0 0) s.ws
  rw [h]; exact Sl.nil
theorem fits_read : Fits ⟨5, 0, 1, 0, 0, [97], [], []⟩ := ⟨by simp, by simp, by simp, fun x hx => by simp at hx⟩
set_option maxHeartbeats 16000000 in
theorem fixed_spec {w : World} {K : Value → World → Prop} (hm : MaxL w) (ht : TabP w) (hK : ∀ w', Fr [] w w' → K (.bool true) w') : CallsN Tryd.prog 8 [] w K := by
 have cw := cur w
 refine call8 ?_
 simp (maxSteps:=4000000)(disch:=first|assumption|(simp only[dz];first|done|assumption|omega)|omega|apply_rules[Fr.refl,Fr.alloc,Fr.drew]|rfl) only [↓gd,gp,Nat.reduceAdd,Nat.reduceEqDiff, ↓hk8]
 refine parse_spec (t := fixT) hm fun v1 w1 ho1 hf1 => ?_
 have cw1 := cur w1
 rw [fix_parse] at ho1 ⊢
 have e0 : (⟨#[]⟩ : ByteArray) = B [] := rfl
 have e97 : (⟨#[97]⟩ : ByteArray) = B [97] := rfl
 have hst : (encStp ((⟨5, 0, 1, 0, 0, [97], [], []⟩ : Stp), (none, 0, 0))).toArray = ([.int .i64 5, .int .i64 0, .int .i64 1, .int .i64 0, .int .i64 0, .string ⟨#[97]⟩, .slice none 0 0, .string ⟨#[]⟩] : List Value).toArray := rfl
 have htext := @text_spec (w1.alloc (.cells (encStp ((⟨5, 0, 1, 0, 0, [97], [], []⟩ : Stp), (none, 0, 0))).toArray 33 (0, 0))) (.slice (some ⟨w1.heap.size, 0, none⟩) 1 1) [((⟨5, 0, 1, 0, 0, [97], [], []⟩ : Stp), (none, 0, 0))] (fun v w' => v = .tuple #[.string (B [114, 101, 97, 100, 32, 49, 32, 97, 10]), .int .i64 0, .int .i64 0] ∧ Fr [] w1 w') (rows_one rfl) (fun x hx => by simp only [List.mem_singleton] at hx; subst hx; exact fits_read) (by decide) (ht.fr (hf1.alloc _)) (fun w' hf' => ⟨by
  show Value.tuple #[.string (B (textL [⟨5, 0, 1, 0, 0, [97], [], []⟩]).1), .int .i64 (textL [⟨5, 0, 1, 0, 0, [97], [], []⟩]).2.1, .int .i64 (textL [⟨5, 0, 1, 0, 0, [97], [], []⟩]).2.2] = _
  rw [fix_text], ((Fr.refl _ _).alloc _).trans' hf'⟩)
 rw [hst] at htext
 simp (maxSteps:=4000000)(disch:=first|assumption|(simp only[dz];first|done|assumption|omega)|omega|apply_rules[Fr.refl,Fr.alloc,Fr.drew]|rfl) only [↓gd,gp,Nat.reduceAdd,Nat.reduceEqDiff, ↓hk8]
 refine htext.mono ?_
 rintro v2 w2 ⟨rfl, hf2⟩
 have cw2 := cur w2
 simp (maxSteps:=4000000)(disch:=first|assumption|(simp only[dz];first|done|assumption|omega)|omega|apply_rules[Fr.refl,Fr.alloc,Fr.drew]|rfl) only [↓gd,gp,Nat.reduceAdd,Nat.reduceEqDiff, ↓hk8]
 have hf02 := hf1.trans' hf2
 refine parse_spec (t := fixU) (hm.fr hf02) fun v3 w3 ho3 hf3 => ?_
 have cw3 := cur w3
 rw [fix_parse2]
 have hf03 := hf02.trans' hf3
 obtain ⟨rows, hrows, ho⟩ := ho1
 have hr3 : rows.length = 3 := by have := congrArg List.length hrows; simpa [fixS] using this
 obtain ⟨r0, r1, r2, rfl⟩ : ∃ r0 r1 r2, rows = [r0, r1, r2] := by
  match rows, hr3 with
  | [a, b, c], _ => exact ⟨a, b, c, rfl⟩
 simp only [fixS, List.map_cons, List.map_nil, List.cons.injEq, and_true] at hrows
 obtain ⟨h0, h1, h2⟩ := hrows
 have hw1 := (ho.rows.fr hf2).fr hf3
 obtain ⟨b1, off1, cap1, ob1, hv1, hob1, _, _, hc1⟩ := hw1.1.read encStp_len 1 r1 rfl
 obtain ⟨b2, off2, cap2, ob2, hv2, hob2, _, _, hc2⟩ := hw1.1.read encStp_len 2 r2 rfl
 have hvv := hv1.symm.trans hv2
 simp only [Value.slice.injEq, Option.some.injEq, Addr.mk.injEq, and_true] at hvv
 obtain ⟨⟨rfl, rfl⟩, _, rfl⟩ := hvv
 obtain rfl : ob1 = ob2 := Option.some.inj (hob1.symm.trans hob2)
 have k1 : ∀ orig K, ldV orig (some ob1) (off1 + 8) K = K (.int .i64 2) := fun orig K => by
  have := hc1 0 (.int .i64 r1.1.kind) orig K rfl
  rw [h1] at this; exact this
 obtain ⟨s1, hs1⟩ : ∃ s1, s1 = r1.2 := ⟨_, rfl⟩
 have hwl : r1.2.2.1 = 2 := by
  have := (hw1.2 r1 (by simp)).form
  rw [h1] at this
  obtain ⟨_, _, h⟩ := this
  simp only [Value.slice.injEq] at h
  exact h.2.1
 have k2 : ∀ orig K, ldV orig (some ob1) (off1 + 8 + 6) K = K (.slice r1.2.1 2 r1.2.2.2) := fun orig K => by
  have := hc1 6 (.slice r1.2.1 r1.2.2.1 r1.2.2.2) orig K rfl
  rw [hwl] at this; exact this
 have k3 : ∀ orig K, ldV orig (some ob1) (off1 + 16 + 2) K = K (.int .i64 1) := fun orig K => by
  have := hc2 2 (.int .i64 r2.1.t) orig K rfl
  rw [h2] at this; exact this
 have hl3 : ([r0, r1, r2] : List (Stp × SlV)).length = 3 := rfl
 rw [hl3] at hv1
 have d1 : decide (((3 : Nat) : Int) = 3) = true := rfl
 have d2 : decide (((2 : Nat) : Int) = 2) = true := rfl
 have dd : ∀ n : Int, decide (n = n) = true := fun n => decide_eq_true rfl
 have t1 : (1 : Int).toNat * 8 = 8 := rfl
 have t2 : (2 : Int).toNat * 8 = 16 := rfl
 have i0 : (0 : Int) ≤ 1 := by decide
 have i1 : (1 : Int) < ((3 : Nat) : Int) := by decide
 have i2 : (0 : Int) ≤ 2 := by decide
 have i3 : (2 : Int) < ((3 : Nat) : Int) := by decide
 have ds : decide (B [114, 101, 97, 100, 32, 49, 32, 97, 10] = ⟨#[114, 101, 97, 100, 32, 49, 32, 97, 10]⟩) = true := decide_eq_true rfl
 simp (maxSteps:=4000000)(disch:=first|assumption|(simp only[dz];first|done|assumption|omega)|omega|apply_rules[Fr.refl,Fr.alloc,Fr.drew]|rfl) only [↓gd,gp,Nat.reduceAdd,Nat.reduceEqDiff, ↓hk8, hv1, d1, d2, dd, t1, t2, i0, i1, i2, i3, hob1, hob2, k1, k2, k3, ds]
 exact hK _ hf03
end Go.Proofs.YtbbjnplellanaaaDoor
