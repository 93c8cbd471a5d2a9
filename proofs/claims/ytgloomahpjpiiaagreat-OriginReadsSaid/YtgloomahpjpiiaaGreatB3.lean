/- slices.Clone, Index, Contains of strings; slices.Clone of slices of strings. slices.Values of strings; AppendSeq over it. slices.Sorted over slices.Values of strings; slices.Compact. -/
import Derived.Test.YtgloomahpjpiiaaGreatOT
import Derived.Test.YtgloomahpjpiiaaGreatCG
import Derived.RangeFuncBox
import Derived.RangeFuncLeaves
import Derived.Shelf.Abstract
import Derived.WalkKit
import Derived.OwnWalkIn
import Derived.TacticsInMore
import Derived.LoopNIn
import Derived.LoopIn
import Derived.Maps.AppendAt
import Derived.Test.YtgloomahpjpiiaaGreatLS
import Derived.Test.YtgloomahpjpiiaaGreatCA
import Derived.Sort.OwnSorted
set_option linter.unusedVariables false
set_option linter.unusedSimpArgs false
set_option maxRecDepth 10000
namespace Go.Proofs.YtgloomahpjpiiaaGreat.Sm
open Go.VW
abbrev Own := @Go.VW.Own
def encS (s : ByteArray) : List Value := [.string s]
theorem encS_len (s : ByteArray) : (encS s).length = 1 := rfl
def one1 (v : Value) : List Value := [v]
theorem one1_len (v : Value) : (one1 v).length = 1 := rfl
theorem cellsOf_one1 (vs : List Value) : cellsOf one1 vs = vs := by
 induction vs with
 | nil => rfl
 | cons v vs ih => simp only [cellsOf, List.flatMap_cons, one1] at *; simpa using ih
theorem Own.frN {k n : Nat} {e : TypeId} {w w' : World} {v : Value} {cs : List Value} (h : Own k e w v n cs) (hf : Fr [] w w') : Own k e w' v n cs := h.fr (M := []) hf (by simp)
theorem own_fresh {k n : Nat} {e : TypeId} {w w' : World} {v v' : Value} {cs : List Value} {B : Nat} (hb : v'.ownBlock = v.ownBlock ∨ ∃ b, v'.ownBlock = some b ∧ w.heap.size ≤ b) (hv : ∀ b, v.ownBlock = some b → B ≤ b) (hs : B ≤ w.heap.size) : ∀ b, v'.ownBlock = some b → B ≤ b := by
 intro b hbb
 rcases hb with h | ⟨c, h1, h2⟩
 ·exact hv b (h ▸ hbb)
 ·rw [h1] at hbb; cases hbb; omega
set_option maxHeartbeats 1000000 in
theorem clone_spec {w : World} {v : Value} {ks : List ByteArray} {K : Value → World → Prop} (h : SlOf 1 encS w v ks) (hl : ks.length * 16 ≤ 140737488355328)
  (hK : ∀ v' w', Own 1 9 w' v' ks.length (cellsOf encS ks) → Fr [] w w' → (∀ b, v'.ownBlock = some b → w.heap.size ≤ b) → K v' w') : CallsN Tryz.prog 90 [v] w K := by
 have cw := cur w
 obtain ⟨a, c, hv⟩ := SlOf.form h
 refine call90 ?_
 cases a with
 | none =>
   have : ks = [] := by rw [hv] at h; exact List.eq_nil_of_length_eq_zero (Sl.none h)
   subst this
   simp (maxSteps:=4000000)(disch:=first|assumption|(simp only[dz];first|done|assumption|omega)|omega|apply_rules[Fr.refl,Fr.alloc,Fr.drew]|rfl) only [↓gd,gp,Nat.reduceAdd,Nat.reduceEqDiff, ↓hk90, hv]
   exact hK _ _ Own.nil (Fr.refl _ _) (fun b hb => by simp [Value.ownBlock] at hb)
 | some a =>
   obtain ⟨v4, w4, hr4, hown4, hf4, hbk⟩ := ap38 (ty := 38) (Own.new0 w) (h.frN ((Fr.refl [] w).alloc _)) (cells_oneC (enc := encS) (fun _ => rfl) ks) (by omega)
   have hf4' : Fr [] w w4 := ((Fr.refl [] w).alloc _).trans hf4 (fun x hx => by simp [blkL, Value.ownBlock] at hx; exact .inr (by omega))
   rw [hv] at hr4
   simp (maxSteps:=4000000)(disch:=first|assumption|(simp only[dz];first|done|assumption|omega)|omega|apply_rules[Fr.refl,Fr.alloc,Fr.drew]|rfl) only [↓gd,gp,Nat.reduceAdd,Nat.reduceEqDiff, ↓hk90, hv, hr4]
   refine hK _ _ (by simpa using hown4) hf4' ?_
   exact own_fresh (k := 1) (n := 0) (e := 9) (w' := w4) (cs := []) hbk (by intro b hb; simp [Value.ownBlock] at hb; omega) (by simp [size_alloc])
end Go.Proofs.YtgloomahpjpiiaaGreat.Sm
namespace Go.Proofs.YtgloomahpjpiiaaGreat.Sm
open Go.RowKit Go.Shelf Go.VW
attribute [local go_sem] Oper.semAt_some
theorem take_next {zs : List ByteArray} {k : Nat} {x : ByteArray} (hk : zs[k]? = some x) : zs.take (k + 1) = zs.take k ++ [x] := by
 rw [List.take_add_one, hk]; rfl
set_option maxRecDepth 100000 in
set_option maxHeartbeats 2000000 in
theorem values1_in (F : Fence) (n : Nat) (h7 : F.fn 105) (hro : F.round = none) (hn : 1 ≤ n) (l Bs n₀ b off cap : Nat) (zs : List ByteArray) (hreach : zs.length * 16 ≤ 140737488351232) (hb : b < n₀) (J Jx : List ByteArray → World → Prop)
  (hY : ∀ pre x W, J pre W → pre.length < zs.length → YieldAt F (n - 1) Tryz.prog l #[.string x] W fun e W' =>
   (e = .returned (.bool true) ∧ J (pre ++ [x]) W' ∧ Below n₀ W W') ∨ (e = .returned (.bool false) ∧ Jx (pre ++ [x]) W'))
  (W : World) (hBs : W.cell? ⟨Bs, 0, none⟩ = some (.slice (some ⟨b, off, none⟩) zs.length cap)) (hc : ∀ (j : Nat) x, zs[j]? = some x → W.cell? ⟨b, off + j, none⟩ = some (.string x)) (h0 : J [] W) :
  CallsIn F n Tryz.prog 105 #[.func (.yield l) #[] #[], .pointer (some ⟨Bs, 0, none⟩)] W fun e W' => (∃ v, e = .returned v) ∧
   ((∃ ys, ys = zs ∧ J ys W') ∨ (∃ pre, (∃ k, k ≤ zs.length ∧ pre = zs.take k) ∧ Jx pre W')) := by
 refine callsIn_of_wp Tryz.func105 rfl h7 ?_ hro
 simp only [Tryz.ntmps105, List.size_toArray, List.length_cons, List.length_nil, Nat.reduceAdd, Nat.reduceSub, Array.replicate_succ, Array.replicate_zero, List.push_toArray, List.append_toArray, List.nil_append, List.cons_append]
 gi_wp2
 gi_loopw [7] (fun i wr => ∃ k : Nat, k ≤ zs.length ∧ i = .int .i64 k ∧ J (zs.take k) wr ∧ Below n₀ W wr)
  (fun i _ => zs.length - (intOf i).toNat)
 case atStart => exact ⟨0, Nat.zero_le _, rfl, by simpa using h0, Below.refl _ _⟩
 case round =>
  obtain ⟨k, hk, rfl, hJs, hnx⟩ := hrel
  by_cases hlt : k < zs.length
  ·obtain ⟨x, hx⟩ : ∃ x, zs[k]? = some x := ⟨zs[k], List.getElem?_eq_getElem hlt⟩
   obtain ⟨fn, tmps, assign, body, hy, hR⟩ := hY _ x wr hJs (by rw [List.length_take]; omega)
   have hcx' := (hnx.cell (p := ⟨b, off + k, none⟩) hb).trans (hc k x hx)
   gi_wp2
   refine hR.mono ?_
   rintro e W3 (⟨rfl, hJ3, hk3⟩ | ⟨rfl, hJx3⟩)
   ·gi_wp2
    go_roundw
    case rel => exact ⟨k + 1, by omega, by simp, by rw [take_next hx]; exact hJ3, hnx.trans hk3⟩
    case measure => simp [intOf]; omega
   ·gi_wp2
    refine bodyPost_ret (results_none rfl _ _ _) rfl ?_
    exact ⟨⟨_, rfl⟩, .inr ⟨_, ⟨k + 1, by omega, (take_next hx).symm⟩, hJx3⟩⟩
  ·obtain rfl : k = zs.length := by omega
   gi_wp2
   go_end0
   exact ⟨⟨_, rfl⟩, .inl ⟨_, rfl, by simpa using hJs⟩⟩
/-- The slice value sv holds the strings zs, in a block below n₀; or there are none. -/
def Strs (n₀ : Nat) (W : World) (sv : Value) (zs : List ByteArray) : Prop :=
 (∃ a c, sv = .slice a 0 c ∧ zs = []) ∨ ∃ b off cap, sv = .slice (some ⟨b, off, none⟩) zs.length cap ∧ b < n₀ ∧ ∀ (j : Nat) x, zs[j]? = some x → W.cell? ⟨b, off + j, none⟩ = some (.string x)
theorem Strs.below {n₀ : Nat} {A B : World} (h : Below n₀ A B) {sv : Value} {zs : List ByteArray} : Strs n₀ A sv zs → Strs n₀ B sv zs
 | .inl e => .inl e
 | .inr ⟨b, off, cap, e, hb, hc⟩ => .inr ⟨b, off, cap, e, hb, fun j x hj => (h.cell (p := ⟨b, off + j, none⟩) hb).trans (hc j x hj)⟩
theorem cellsOf_encS_get (ks : List ByteArray) (j : Nat) (x : ByteArray) (h : ks[j]? = some x) : (cellsOf encS ks)[j]? = some (.string x) := by
 have := cellsOf_get encS_len ks j x h 0 (by decide)
 simpa [encS] using this
theorem Strs.of {w : World} {v : Value} {ks : List ByteArray} (h : SlOf 1 encS w v ks) : Strs w.heap.size w v ks := by
 rcases h.2 with ⟨h0, a, c, rfl⟩ | ⟨b, off, cap, c, et, fr, rfl, hb, hc⟩
 ·exact .inl ⟨a, c, rfl, List.eq_nil_of_length_eq_zero h0⟩
 ·refine .inr ⟨b, off, cap, rfl, lt_of_get w b hb, fun j x hj => ?_⟩
  have h1 := cellsOf_encS_get ks j x hj
  have hjl := (List.getElem?_eq_some_iff.1 hj).1
  rw [← hc, List.getElem?_take, if_pos (by omega), List.getElem?_drop] at h1
  simp only [World.cell?, hb]
  simpa using h1
set_option maxRecDepth 100000 in
set_option maxHeartbeats 1000000 in
theorem values1_nil_in (F : Fence) (n : Nat) (h7 : F.fn 105) (hro : F.round = none) (l Bs : Nat) (a : Option Addr) (c : Nat) (J : List ByteArray → World → Prop) (W : World) (hBs : W.cell? ⟨Bs, 0, none⟩ = some (.slice a 0 c)) (h0 : J [] W) :
  CallsIn F n Tryz.prog 105 #[.func (.yield l) #[] #[], .pointer (some ⟨Bs, 0, none⟩)] W fun e W' => (∃ v, e = .returned v) ∧ J [] W' := by
 refine callsIn_of_wp Tryz.func105 rfl h7 ?_ hro
 simp only [Tryz.ntmps105, List.size_toArray, List.length_cons, List.length_nil, Nat.reduceAdd, Nat.reduceSub, Array.replicate_succ, Array.replicate_zero, List.push_toArray, List.append_toArray, List.nil_append, List.cons_append]
 gi_wp2
 gi_loopw [7] (fun i wr => i = .int .i64 0 ∧ J [] wr) (fun _ _ => 0)
 case atStart => exact ⟨rfl, h0⟩
 case round =>
  obtain ⟨rfl, hJs⟩ := hrel
  gi_wp2
  go_end0
  exact ⟨⟨_, rfl⟩, hJs⟩
theorem values_stops (F : Fence) (n : Nat) (h7 : F.fn 105) (hro : F.round = none) (hn : 1 ≤ n) (Bs n₀ : Nat) (sv : Value) (zs : List ByteArray) (hreach : zs.length * 16 ≤ 140737488351232) (w : World) (hBs : Bs < w.heap.size) (hn₀ : n₀ ≤ w.heap.size)
  (hc : w.cell? ⟨Bs, 0, none⟩ = some sv) (hI : Strs n₀ w sv zs) :
  SeqStopsK F n Tryz.prog 105 #[.pointer (some ⟨Bs, 0, none⟩)] (fun x : ByteArray => #[Value.string x]) (Below n₀) (fun ys => ys = zs) (fun pre => pre <+: zs) zs.length w := fun l J Jx W hW _ _ hY h0 => by
 have hc' := (hW.cell (p := ⟨Bs, 0, none⟩) hBs).trans hc
 rcases hI.below (hW.mono hn₀) with ⟨a, c, rfl, rfl⟩ | ⟨b, off, cap, rfl, hb, hcs⟩
 ·exact (values1_nil_in F n h7 hro l Bs a c J W hc' h0).mono fun e W' ⟨he, hj⟩ => ⟨he, .inl ⟨_, rfl, hj⟩⟩
 ·refine (values1_in F n h7 hro hn l Bs n₀ b off cap zs hreach hb J Jx hY W hc' hcs h0).mono ?_
  rintro e W' ⟨he, ⟨ys, rfl, hj⟩ | ⟨pre, ⟨k, hk, rfl⟩, hj⟩⟩
  ·exact ⟨he, .inl ⟨_, rfl, hj⟩⟩
  ·exact ⟨he, .inr ⟨_, List.take_prefix _ _, hj⟩⟩
theorem info9 : (Tryz.prog.info? 9).map (fun i => (i.zero, i.size, i.bytes)) = some (some (.string ByteArray.empty), 1, 16) := by kernel_rfl
set_option maxRecDepth 100000 in
set_option maxHeartbeats 2000000 in
theorem appendSeq_in (F : Fence) (n : Nat) (h3 : F.fn 106) (h5 : F.fn 105) (hro : F.round = none) (hn : 3 ≤ n) (Bs : Nat) (sv : Value) (zs : List ByteArray) (hreach : zs.length * 16 ≤ 140737488351232) (w : World) (hBs : Bs < w.heap.size)
  (hc : w.cell? ⟨Bs, 0, none⟩ = some sv) (hI : Strs w.heap.size w sv zs) :
  CallsIn F n Tryz.prog 106 #[.slice none 0 0, .func (.func 105) #[] #[.pointer (some ⟨Bs, 0, none⟩)]] w fun e W' => ∃ v, e = .returned v ∧ W'.ownsRow w.heap.size 9 1 v zs.length (zs.map Value.string) ∧ Below w.heap.size w W' := by
 have h1 : 1 ≤ n := by omega
 have hlen : zs.length ≤ maxLen := by unfold maxLen; omega
 obtain ⟨i0, hi, hz0, hz1, hz2⟩ := info_parts info9
 refine callsIn_of_wp_marks Tryz.func106 rfl h3 ?_ hro
 simp only [Tryz.ntmps106, List.size_toArray, List.length_cons, List.length_nil, Nat.reduceAdd, Nat.reduceSub, Array.replicate_succ, Array.replicate_zero, List.push_toArray, List.append_toArray, List.nil_append, List.cons_append]
 gi_wp2
 have bO := Boxed.new w 38 (.slice none 0 0)
 have hB0 : Below w.heap.size w (w.alloc (.cells #[.slice none 0 0] 38)) := ((Below.refl _ w).alloc (Nat.le_refl _) _)
 have hc0 := (hB0.cell (p := ⟨Bs, 0, none⟩) hBs).trans hc
 refine wpIn_rangeFunc_ownG hro h1 (gf := 105) (lb := #[.pointer (some ⟨Bs, 0, none⟩)]) rfl h5 (enters_of Tryz.func105 (by kernel_rfl) rfl)
  (values_stops F (n - 1) h5 hro (by omega) Bs w.heap.size sv zs hreach _ (by simp; omega) (by simp) hc0 (hI.below hB0)) belowK_t (belowK_b (by simp)) (Below.refl _ _) (fun _ => rfl)
  (fun pre W => (∃ v, Boxed W w.heap.size 38 v ∧ W.ownsRow w.heap.size 9 1 v pre.length (pre.map Value.string) ∧ True) ∧ Below w.heap.size w W)
  (fun _ _ _ => False)
  (OwnFrom.and (Own.from (holdsRow_own w.heap.size w.heap.size 38 9 1 (fun pre : List ByteArray => pre.length) (fun pre => pre.map Value.string) (fun pre v => True)) _) (ownFrom_below (Nat.le_refl _) (by simp)))
  (fun _ _ _ _ _ hs _ _ => hs)
  ⟨⟨_, bO, World.ownsRow_nil _ _ _ _, trivial⟩, hB0⟩
  (fun x => { tmps := #[.slice none 0 0, .func (.func 105) #[] #[.pointer (some ⟨Bs, 0, none⟩)], .pointer (some ⟨w.heap.size, 0, none⟩), undef, .slice none 0 0, .string x, .func (.func 105) #[] #[.pointer (some ⟨Bs, 0, none⟩)], .string x, undef, undef, undef, undef, undef], defers := [] }) ?assign ?body ?done ?stop
 case assign =>
  intro l x W K hK
  gi_wp2
  exact hK
 case body =>
  rintro l pre x W ⟨⟨v, hv, hrow, hnil⟩, hB⟩ hlt
  have hc := hv.cell
  gi_wp2_with (gi_at_builtin; refine wpListIn_append_own _ rfl _ _ 38 rfl w.heap.size 9 i0 (.string ByteArray.empty) 1 16 Tryz.underlying38 hi hz0 hz1 hz2 rfl (by decide) _ _ _ rfl (hrow.alloc _) ⟨W.heap.size, 0, none⟩ 1 1 [.string x] rfl rfl (cell_one_new _ _ _) (by simp [Value.oneCell']) (by omega) (by omega) (by have := hB.size; simp; omega) ?_; intro v' w1 hown' hgrow _; obtain ⟨g', cap', rfl⟩ := ownsRow_succ hown'; obtain ⟨hv1, hv2, hr2, hk2, hb2⟩ := hv.appended (by decide) hrow hB.size (Nat.le_refl _) hown' hgrow; have hc1 := hv1.cell; have hf1 := hv1.frozen)
  exact ⟨hk2.from _, hb2, ⟨_, hv2, by simpa using hr2, trivial⟩, hB.trans hb2⟩
 case done =>
  rintro D ys W hD rfl ⟨⟨v, hv, hrow, hnil⟩, hB⟩ hK
  have hc := hv.cell
  gi_wp2
  refine ⟨by simp, .inl ⟨_, _, rfl, run_takeDeferred hK, ?_⟩⟩
  exact ⟨_, results_tmp rfl _ _ _, v, rfl, ownsRow_putObj hrow _ hK rfl, hB.trans (belowK_b (w := w) (Nat.le_refl _) W D _ _ (by simp at hD; omega) hK rfl rfl)⟩
 case stop =>
  rintro D c pre W _ _ h _
  exact h.elim
end Go.Proofs.YtgloomahpjpiiaaGreat.Sm
namespace Go.Proofs.YtgloomahpjpiiaaGreat.Sm
open Go.RowKit Go.Shelf Go.Sort Go.VW
def bl (s : ByteArray) : List UInt8 := s.data.toList
theorem encStr_bl (s : ByteArray) : encStr (bl s) = .string s := by
 cases s; rfl
theorem map_encStr_bl (ks : List ByteArray) : (ks.map bl).map encStr = ks.map Value.string := by
 rw [List.map_map]; exact List.map_congr_left fun x _ => encStr_bl x
theorem bl_inj {a b : ByteArray} (h : bl a = bl b) : a = b := by
 cases a; cases b; simp [bl] at h; simp [h]
theorem Fr.of_grown {w w' : World} {v : Value} (hg : w.grownBy w' v.ownBlock) : Fr (blkL v) w w' :=
 ⟨hg.os, hg.tape, hg.output, hg.size, fun b hb hn => hg.block b hb fun e => hn (by simp [blkL, ← e])⟩
def sortL (zs : List (List UInt8)) : List (List UInt8) := zs.mergeSort fun x y => decide (x ≤ y)
set_option maxHeartbeats 1000000 in
theorem sorted_spec {w : World} {v : Value} {ks : List ByteArray} {K : Value → World → Prop} (h : SlOf 1 encS w v ks) (hl : ks.length * 16 ≤ 140737488351232)
  (hK : ∀ v' w', VW.Own 1 9 w' v' ks.length ((sortL (ks.map bl)).map encStr) → Fr [] w w' → (∀ b, v'.ownBlock = some b → w.heap.size ≤ b) → K v' w') :
  CallsN Tryz.prog 100 [.func (.func 105) #[] #[.pointer (some ⟨w.heap.size, 0, none⟩)]] (w.alloc (.cells #[v] 38)) K := by
 have cw := cur (w.alloc (.cells #[v] 38))
 have hf0 : Fr [] w (w.alloc (.cells #[v] 38)) := (Fr.refl [] w).alloc _
 have hc : (w.alloc (.cells #[v] 38)).cell? ⟨w.heap.size, 0, none⟩ = some v := by
  simp only [World.cell?, get_alloc_new]; rfl
 have cA := appendSeq_in Fence.wide 3 trivial trivial rfl (by omega) w.heap.size v ks hl (w.alloc (.cells #[v] 38)) (by simp) hc (Strs.of (h.frN hf0))
 have cB : ∀ K' : Value → World → Prop, (∀ v' w', VW.Own 1 9 w' v' ks.length (ks.map Value.string) → Fr [] w w' → (∀ b, v'.ownBlock = some b → w.heap.size ≤ b) → K' v' w') → CallsN Tryz.prog 106 [.slice none 0 0, .func (.func 105) #[] #[.pointer (some ⟨w.heap.size, 0, none⟩)]] (w.alloc (.cells #[v] 38)) K' := fun K' hK' =>
  CallsN.of ((callsIn_wide.1 cA).mono fun e w' he => by
   obtain ⟨v', rfl, hrow, hb⟩ := he
   obtain ⟨ho, hfr⟩ := VW.Own.of_row hrow
   refine ⟨v', rfl, hK' v' w' ho (hf0.trans' (Fr.of_below hb)) fun b hb' => ?_⟩
   have := hfr b hb'
   rw [size_alloc] at this
   omega)
 refine call100 ?_
 simp (maxSteps:=4000000)(disch:=first|assumption|(simp only[dz];first|done|assumption|omega)|omega|apply_rules[Fr.refl,Fr.alloc,Fr.drew]|rfl) only [↓gd,gp,Nat.reduceAdd,Nat.reduceEqDiff, ↓hk100]
 refine call103 ?_
 simp (maxSteps:=4000000)(disch:=first|assumption|(simp only[dz];first|done|assumption|omega)|omega|apply_rules[Fr.refl,Fr.alloc,Fr.drew]|rfl) only [↓gd,gp,Nat.reduceAdd,Nat.reduceEqDiff, ↓hk103]
 refine cB _ fun v1 w1 hown hf1 hfr1 => ?_
 have cw1 := cur w1
 have hz1 := hf1.size
 simp (maxSteps:=4000000)(disch:=first|assumption|(simp only[dz];first|done|assumption|omega)|omega|apply_rules[Fr.refl,Fr.alloc,Fr.drew]|rfl) only [↓gd,gp,Nat.reduceAdd,Nat.reduceEqDiff, ↓hk100, ↓hk103]
 rw [← map_encStr_bl] at hown
 rcases hown.2 with ⟨rfl, hz⟩ | ⟨gb, cap, cur, rfl, hbase, hgb, r1, r2, r3, r4⟩
 ·have hks : ks = [] := List.eq_nil_of_length_eq_zero hz
  subst hks
  refine CallsN.of ((AnyM.slices_Sort_string_none YtgloomahpjpiiaaGreat.sortS none 0 w1).mono fun e w' he => ?_)
  obtain ⟨rfl, rfl⟩ := he
  refine ⟨_, rfl, ?_⟩
  simp (maxSteps:=4000000)(disch:=first|assumption|(simp only[dz];first|done|assumption|omega)|omega|apply_rules[Fr.refl,Fr.alloc,Fr.drew]|rfl) only [↓gd,gp,Nat.reduceAdd,Nat.reduceEqDiff, ↓hk100]
  exact hK _ _ (by simpa [sortL] using hown) hf1 (fun b hb => by simp [Value.ownBlock] at hb)
 ·have hlen : (ks.map bl).length = ks.length := by simp
  have hH : Holds encStr w1 gb 0 (ks.map bl).toArray := holds_of_block hgb (by simpa using r4)
  have hgl : gb < w1.heap.size := lt_of_get _ _ hgb
  have hsz : (ks.map bl).length < 4611686018427387904 := by rw [hlen]; omega
  have cS := AnyM.slices_Sort_string YtgloomahpjpiiaaGreat.sortS gb 0 cap (ks.map bl) w1 hH hgl hsz
  rw [hlen] at cS
  refine CallsN.of (cS.mono fun e w' he => ?_)
  obtain ⟨rfl, nn, os, rfl⟩ := he
  refine ⟨_, rfl, ?_⟩
  generalize hW : grow _ os = w2
  have hown2 : VW.Own 1 9 w2 (.slice (some ⟨gb, 0, none⟩) ks.length cap) ks.length ((sortL (ks.map bl)).map encStr) := by
   rw [← hW]
   have := ownsRow_sorted (n := nn) (os := os) (ss := ks.map bl) (ts := sortL (ks.map bl)) (by simp [sortL]) (Nat.zero_le gb) hgb (by rw [hlen]; exact r1) r2 r3
   rw [hlen] at this
   exact this
  have hf2 : Fr [gb] w1 w2 := by
   rw [← hW]
   have := Fr.of_grown (v := .slice (some ⟨gb, 0, none⟩) ks.length cap) (by simpa [Value.ownBlock] using grownBy_sorted (w := w1) (g := gb) (n := nn) (os := os) (sortL (ks.map bl)).toArray)
   simpa [blkL, Value.ownBlock, sortL] using this
  clear hW
  have cw2 : Cur w2 := trivial
  have hg0 := hfr1 gb (by simp [Value.ownBlock])
  simp (maxSteps:=4000000)(disch:=first|assumption|(simp only[dz];first|done|assumption|omega)|omega|apply_rules[Fr.refl,Fr.alloc,Fr.drew]|rfl) only [↓gd,gp,Nat.reduceAdd,Nat.reduceEqDiff, ↓hk100]
  exact hK _ _ hown2 (hf1.trans hf2 (fun x hx => by simp at hx; exact .inr (by omega))) (fun b hb => by simp [Value.ownBlock] at hb; omega)
set_option maxHeartbeats 1000000 in
theorem compact_spec {w : World} {v : Value} {zs : List (List UInt8)} {K : Value → World → Prop} (h : VW.Own 1 9 w v zs.length (zs.map encStr)) (hl : zs.length ≤ 9223372036854775807)
  (hK : ∀ a c w', Fr (blkL v) w w' → K (.slice a (Lib.compact zs).length c) w') : CallsN Tryz.prog 102 [v] w K := by
 rcases h.2 with ⟨rfl, hz⟩ | ⟨gb, cap, cur, rfl, hbase, hgb, r1, r2, r3, r4⟩
 ·have hks : zs = [] := List.eq_nil_of_length_eq_zero hz
  subst hks
  refine CallsN.of ((Any.slices_Compact_string_empty YtgloomahpjpiiaaGreat.cpS none 0 w).mono fun e w' he => ?_)
  obtain ⟨rfl, rfl⟩ := he
  exact ⟨_, rfl, hK _ _ _ (Fr.refl _ _)⟩
 ·have hH : Holds encStr w gb 0 zs.toArray := holds_of_block hgb (by simpa using r4)
  refine CallsN.of ((Any.slices_Compact_string YtgloomahpjpiiaaGreat.cpS gb 0 cap zs w hH hl r1).mono fun e w' he => ?_)
  obtain ⟨rfl, q, rfl⟩ := he
  refine ⟨_, rfl, hK _ _ _ ?_⟩
  have := Fr.of_grown (v := .slice (some ⟨gb, 0, none⟩) zs.length cap) (by simpa [Value.ownBlock] using grownBy_sorted (w := w) (g := gb) (n := q) (os := #[]) (Lib.compact zs ++ List.replicate (zs.length - (Lib.compact zs).length) []).toArray)
  simpa [grow_empty] using this
end Go.Proofs.YtgloomahpjpiiaaGreat.Sm
