/- A node: Apply. The equations of the code of some functions, written by the printer gen3.py: each is checked by the kernel. A node: View; what a nil node answers. -/
import Derived.Test.YtomlgkecckffeaaGreatWC
import Derived.Test.YtomlgkecckffeaaGreatCI
set_option linter.unusedVariables false
set_option linter.unusedSimpArgs false
set_option maxRecDepth 10000
namespace Go.Proofs.YtomlgkecckffeaaGreat
open Go.VW
theorem foldG (l : List KRec) : ∀ M : Mem, (l.foldl Mem.given M).g = M.g ∧ (l.foldl Mem.given M).live = M.live ∧ (l.foldl Mem.given M).ins = M.ins ∧ (l.foldl Mem.given M).stamps = M.stamps := by
 induction l with
 | nil => intro M; exact ⟨rfl, rfl, rfl, rfl⟩
 | cons x l ih => intro M; exact ih (M.given x)
theorem Mem.over_g (M : Mem) (o : Bool) : (M.over o).g = M.g ∧ (M.over o).live = M.live ∧ (M.over o).ins = M.ins ∧ (M.over o).R = M.R := by
 unfold Mem.over; split <;> exact ⟨rfl, rfl, rfl, rfl⟩
theorem apply_live {M : Mem} {n : Int} {x : KRec} (h : M.live = true) : M.apply n x = (((M.g.put n x).1.1.foldl Mem.given { M with g := (M.g.put n x).2 }).over (M.g.put n x).1.2, (M.g.put n x).1.2 || (decide (M.g.ws.length = 0) && decide (0 < (M.g.put n x).2.ws.length))) := by
 unfold Mem.apply
 rw [if_neg (by rw [h]; simp)]
 simp only
 congr 1
 have e := (Mem.over_g ((M.g.put n x).1.1.foldl Mem.given { M with g := (M.g.put n x).2 }) (M.g.put n x).1.2).1
 unfold Mem.over at e
 rw [e, (foldG _ _).1]
theorem put_len {α : Type} (g : GS α) (n : Int) (v : α) : (g.put n v).1.1.length ≤ g.ws.length + 1 := by
 have key : ∀ (f : Nat) (a : Int) (ws : List (Int × α)), (drain f a ws).1.length ≤ f := by
  intro f
  induction f with
  | zero => intro a ws; exact Nat.le_refl _
  | succ f ih =>
    intro a ws
    unfold drain
    split
    ·exact Nat.zero_le _
    ·have := ih (a + 1) (adel ws (a + 1)); simp only [List.length_cons]; omega
 unfold GS.put
 split
 ·exact Nat.zero_le _
 ·split
  ·have := key g.ws.length n g.ws; simp only [List.length_cons]; omega
  ·split <;> exact Nat.zero_le _
set_option maxHeartbeats 32000000 in
theorem apply_spec {w : World} {a : Lay} {c : Cfg} {inc : Int} {M : Mem} {B : Nat} {n : Int} {x : KRec} {K : Value → World → Prop} (h : NodeAt w a c inc M) (hT : TI M.T B n) (hB : B ≤ 100000000) (hg : M.g.WF)
  (hs : SlOf 1 encS w (.slice x.r.a x.r.l x.r.c) x.ks) (hsl : x.ks.length ≤ 4000000000000)
  (hK : ∀ w' S' x', x'.r.n = x.r.n → x'.ks = x.ks → NodeAt w' { a with S := S' } c inc (M.apply x.r.n x').1 → TI (M.apply x.r.n x').1.T B n → (M.apply x.r.n x').1.g.WF → (∀ x ∈ S', x ∈ a.S ∨ w.heap.size ≤ x) → Fr a.all w w' → K (.bool (M.apply x.r.n x').2) w') :
  CallsN Tryz.prog 20 [.pointer (some ⟨a.nb, 0, none⟩), .agg (encR x.r).toArray] w K := by
 have cw := cur w
 refine call20 ?_
 unfold encR
 simp (maxSteps:=9^7)(disch:=first|assumption|(simp only[dz];first|done|assumption|omega)|omega|apply_rules[Fr.refl,Fr.alloc,Fr.drew]|rfl) only [↓gd,gp,Nat.reduceAdd,Nat.reduceEqDiff, ↓c20_7_s, ↓c20_10_s, ↓c20_9_s, ↓c20_8_s, ↓c20_6_s, ↓c20_17_s, ↓c20_21_s, ↓c20_28_s, ↓c20_31_s, ↓c20_30_s, ↓c20_29_s, ↓c20_27_s, ↓c20_32_s, ↓c20_26_s, ↓c20_25_s, ↓c20_24_s, ↓c20_23_s, ↓c20_22_s, ↓c20_20_s, ↓c20_19_s, ↓c20_18_s, ↓c20_16_s, ↓c20_33_s, ↓c20_15_s, ↓c20_14_s, ↓c20_13_s, ↓c20_12_s, ↓c20_11_s, ↓c20_5_s, ↓c20_4_s, ↓c20_3_s, ↓c20_2_s, ↓c20_36_s, ↓c20_35_s, ↓c20_34_s, ↓c20_s, ↓w3t_20]
 generalize hW : World.alloc (World.alloc w _) _ = w1
 have hf1 : Fr [] w w1 := by rw [← hW]; exact fr_
 have hz1 : w1.heap.size = w.heap.size + 1 + 1 := by rw [← hW]; simp only [gz]
 have g2 : w1.heap[w.heap.size]? = some (.cells ([.pointer (some ⟨a.nb, 0, none⟩)] : List Value).toArray 26 (0, 0)) := by rw [← hW]; simp (maxSteps:=9^7)(disch:=first|assumption|(simp only[dz];first|done|assumption|omega)|omega|apply_rules[Fr.refl,Fr.alloc,Fr.drew]|rfl) only [↓gsd,gs,gv,Nat.reduceAdd,Nat.reduceEqDiff] <;> rfl
 have g3 : w1.heap[w.heap.size + 1]? = some (.cells ([.int .i64 x.r.n, .slice x.r.a x.r.l x.r.c] : List Value).toArray 38 (0, 0)) := by rw [← hW]; simp (maxSteps:=9^7)(disch:=first|assumption|(simp only[dz];first|done|assumption|omega)|omega|apply_rules[Fr.refl,Fr.alloc,Fr.drew]|rfl) only [↓gsd,gs,gv,Nat.reduceAdd,Nat.reduceEqDiff] <;> rfl
 clear hW
 have cw1 := cur w1
 have h1 := h.frN hf1
 have hd1 := h1.hd
 have hm1 := h1.mm
 have l2 := lt_of_get _ _ g2
 have l3 := lt_of_get _ _ g3
 have a2 := h.away (Nat.le_refl w.heap.size)
 have a3 := h.away (show w.heap.size ≤ w.heap.size + 1 by omega)
 cases ql : M.live with
 | false =>
   have e0 : ∀ y, M.apply x.r.n y = (M, false) := fun y => by unfold Mem.apply; rw [if_pos ql]
   rw [ql] at hm1
   simp (maxSteps:=9^7)(disch:=first|assumption|(simp only[dz];first|done|assumption|omega)|omega|apply_rules[Fr.refl,Fr.alloc,Fr.drew]|rfl) only [↓gd,gp,Nat.reduceAdd,Nat.reduceEqDiff, ↓hk20, g2, hd1, hm1]
   refine up_spec h1 ?_
   simp (maxSteps:=9^7)(disch:=first|assumption|(simp only[dz];first|done|assumption|omega)|omega|apply_rules[Fr.refl,Fr.alloc,Fr.drew]|rfl) only [↓gd,gp,Nat.reduceAdd,Nat.reduceEqDiff, ↓hk20, g2, hd1, hm1]
   have := hK w1 a.S x rfl rfl (by rw [e0]; exact h1) (by rw [e0]; exact hT) (by rw [e0]; exact hg) (fun x hx => .inl hx) ((Fr.refl a.all w).trans hf1 (by simp))
   rw [e0] at this
   exact this
 | true =>
   rw [ql] at hm1
   simp (maxSteps:=9^7)(disch:=first|assumption|(simp only[dz];first|done|assumption|omega)|omega|apply_rules[Fr.refl,Fr.alloc,Fr.drew]|rfl) only [↓gd,gp,Nat.reduceAdd,Nat.reduceEqDiff, ↓c20_7_s, ↓c20_10_s, ↓c20_9_s, ↓c20_8_s, ↓c20_6_s, ↓c20_17_s, ↓c20_21_s, ↓c20_28_s, ↓c20_31_s, ↓c20_30_s, ↓c20_29_s, ↓c20_27_s, ↓c20_32_s, ↓c20_26_s, ↓c20_25_s, ↓c20_24_s, ↓c20_23_s, ↓c20_22_s, ↓c20_20_s, ↓c20_19_s, ↓c20_18_s, ↓c20_16_s, ↓c20_33_s, ↓c20_15_s, ↓c20_14_s, ↓c20_13_s, ↓c20_12_s, ↓c20_11_s, ↓c20_5_s, ↓c20_4_s, ↓c20_2_s, ↓c20_36_s, ↓c20_35_s, ↓c20_34_s, ↓c20_1_s, ↓c20_s, ↓w3t_20, g2, hd1, hm1]
   refine up_spec h1 ?_
   simp (maxSteps:=9^7)(disch:=first|assumption|(simp only[dz];first|done|assumption|omega)|omega|apply_rules[Fr.refl,Fr.alloc,Fr.drew]|rfl) only [↓gd,gp,Nat.reduceAdd,Nat.reduceEqDiff, ↓c20_7_s, ↓c20_10_s, ↓c20_9_s, ↓c20_8_s, ↓c20_6_s, ↓c20_17_s, ↓c20_21_s, ↓c20_28_s, ↓c20_31_s, ↓c20_30_s, ↓c20_29_s, ↓c20_27_s, ↓c20_32_s, ↓c20_26_s, ↓c20_25_s, ↓c20_24_s, ↓c20_23_s, ↓c20_22_s, ↓c20_20_s, ↓c20_19_s, ↓c20_18_s, ↓c20_16_s, ↓c20_33_s, ↓c20_15_s, ↓c20_14_s, ↓c20_13_s, ↓c20_12_s, ↓c20_11_s, ↓c20_5_s, ↓c20_4_s, ↓c20_2_s, ↓c20_36_s, ↓c20_35_s, ↓c20_34_s, ↓c20_1_s, ↓c20_s, ↓w3t_20, g2, hd1, hm1]
   refine waitsR h1.gap hg fun vw w2 how hf2 _ => ?_
   have cw2 := cur w2
   have hz2 := hf2.size
   obtain ⟨wa, wc, hvw⟩ := (sl_ints how).form
   have hln : (sortI (M.g.ws.map (·.1))).length = M.g.ws.length := by have := how.1; simpa using this
   rw [hln] at hvw
   have dd : decide ((M.g.ws.length : Int) = 0) = decide (M.g.ws.length = 0) := by
    by_cases q : M.g.ws.length = 0
    ·rw [decide_eq_true q, decide_eq_true (by omega)]
    ·rw [decide_eq_false q, decide_eq_false (by omega)]
   have g22 := hf2.getN g2
   have g32 := hf2.getN g3
   have l32 := lt_of_get _ _ g32
   simp (maxSteps:=9^7)(disch:=first|assumption|(simp only[dz];first|done|assumption|omega)|omega|apply_rules[Fr.refl,Fr.alloc,Fr.drew]|rfl) only [↓gd,gp,Nat.reduceAdd,Nat.reduceEqDiff, ↓c20_7_s, ↓c20_10_s, ↓c20_9_s, ↓c20_8_s, ↓c20_6_s, ↓c20_17_s, ↓c20_21_s, ↓c20_28_s, ↓c20_31_s, ↓c20_30_s, ↓c20_29_s, ↓c20_27_s, ↓c20_32_s, ↓c20_26_s, ↓c20_25_s, ↓c20_24_s, ↓c20_23_s, ↓c20_22_s, ↓c20_20_s, ↓c20_19_s, ↓c20_18_s, ↓c20_16_s, ↓c20_33_s, ↓c20_15_s, ↓c20_14_s, ↓c20_13_s, ↓c20_12_s, ↓c20_11_s, ↓c20_5_s, ↓c20_3_s, ↓c20_2_s, ↓c20_36_s, ↓c20_35_s, ↓c20_34_s, ↓c20_1_s, ↓c20_s, ↓w3t_20, hvw, dd, g32]
   generalize hcalm : decide (M.g.ws.length = 0) = calm
   refine cloneS_spec (xs := x.ks) ((hs.frN hf1).frN hf2) hsl fun vk w3 hok hf3 hbk => ?_
   have cw3 := cur w3
   have hz3 := hf3.size
   have g33 := hf3.getN g32
   have l33 := lt_of_get _ _ g33
   obtain ⟨ka, kc, hvk⟩ := (show SlOf 1 encS w3 vk x.ks from hok.sl).form
   simp (maxSteps:=9^7)(disch:=first|assumption|(simp only[dz];first|done|assumption|omega)|omega|apply_rules[Fr.refl,Fr.alloc,Fr.drew]|rfl) only [↓gd,gp,Nat.reduceAdd,Nat.reduceEqDiff, ↓c20_7_s, ↓c20_10_s, ↓c20_9_s, ↓c20_8_s, ↓c20_6_s, ↓c20_17_s, ↓c20_21_s, ↓c20_28_s, ↓c20_31_s, ↓c20_30_s, ↓c20_29_s, ↓c20_27_s, ↓c20_32_s, ↓c20_26_s, ↓c20_25_s, ↓c20_24_s, ↓c20_23_s, ↓c20_22_s, ↓c20_20_s, ↓c20_19_s, ↓c20_18_s, ↓c20_16_s, ↓c20_33_s, ↓c20_15_s, ↓c20_14_s, ↓c20_13_s, ↓c20_12_s, ↓c20_11_s, ↓c20_5_s, ↓c20_3_s, ↓c20_2_s, ↓c20_36_s, ↓c20_35_s, ↓c20_34_s, ↓c20_1_s, ↓c20_s, ↓w3t_20, g33, hvk]
   rw [← hvk]
   generalize hW : World.setB w3 _ _ = w4
   have hf4 : Fr [w.heap.size + 1] w3 w4 := by rw [← hW]; exact fr_
   have g34 : w4.heap[w.heap.size + 1]? = some (.cells ([.int .i64 x.r.n, vk] : List Value).toArray 38 (0, 0)) := by rw [← hW]; exact get_setB_same _ _ _ l33
   clear hW
   have cw4 := cur w4
   have hz4 := hf4.size
   have hf14 : Fr [w.heap.size + 1] w1 w4 := ((Fr.refl [w.heap.size + 1] w1).trans (hf2.trans' hf3) (by simp)).trans hf4 fun y hy => .inl hy
   have h4 : NodeAt w4 a c inc M := ((h1.frN hf2).frN hf3).frA hf4 (fun g hg => by simp at hg; subst hg; exact a3)
   have g24 : w4.heap[w.heap.size]? = _ := hf14.get g2 (by simp)
   have hd4 := h4.hd
   have hm4 := h4.mm
   rw [ql] at hm4
   have hkv : ∀ b, vk.ownBlock = some b → w.heap.size ≤ b ∧ b ≠ w.heap.size + 1 := fun b hb => by have := hbk b hb; omega
   have hsk : SlOf 1 encS w4 vk x.ks := SlOf.fr (show SlOf 1 encS w3 vk x.ks from hok.sl) hf4 fun b hb y m cc q => by
    simp at hb
    subst hb
    have := own_off hok y m cc q
    exact fun e' => (hkv _ this).2 e'
   have hks : ∀ y, ka = some y → y.block < w4.heap.size ∧ y.block ∉ a.all := fun y hy => by
    have q := own_off hok y x.ks.length kc (by rw [hvk, hy])
    exact ⟨by have := hok.lt q; omega, fun hm => by have := h.lt _ hm; have := (hkv _ q).1; omega⟩
   rw [hvk] at g34 hsk
   obtain ⟨x', hx'⟩ : ∃ x' : KRec, x' = ⟨⟨x.r.n, ka, x.ks.length, kc⟩, x.ks⟩ := ⟨_, rfl⟩
   have hkx : KeyAt w4 a.all x' := by rw [hx']; exact ⟨hsk, hks, hsl⟩
   have hxe : krV x' = .agg ([.int .i64 x.r.n, .slice ka x.ks.length kc] : List Value).toArray := by rw [hx']
   simp (maxSteps:=9^7)(disch:=first|assumption|(simp only[dz];first|done|assumption|omega)|omega|apply_rules[Fr.refl,Fr.alloc,Fr.drew]|rfl) only [↓gd,gp,Nat.reduceAdd,Nat.reduceEqDiff, ↓c20_7_s, ↓c20_10_s, ↓c20_9_s, ↓c20_8_s, ↓c20_6_s, ↓c20_17_s, ↓c20_21_s, ↓c20_28_s, ↓c20_31_s, ↓c20_30_s, ↓c20_29_s, ↓c20_27_s, ↓c20_32_s, ↓c20_26_s, ↓c20_25_s, ↓c20_24_s, ↓c20_23_s, ↓c20_22_s, ↓c20_20_s, ↓c20_19_s, ↓c20_18_s, ↓c20_16_s, ↓c20_33_s, ↓c20_15_s, ↓c20_14_s, ↓c20_13_s, ↓c20_12_s, ↓c20_11_s, ↓c20_4_s, ↓c20_3_s, ↓c20_2_s, ↓c20_36_s, ↓c20_35_s, ↓c20_34_s, ↓c20_1_s, ↓c20_s, ↓w3t_20, g24, g34, hd4, hm4]
   rw [← hxe]
   have h4d := h4.frN (w' := w4.drew) fr_
   have hrn : x'.r.n = x.r.n := by rw [hx']
   have hrk : x'.ks = x.ks := by rw [hx']
   clear hxe hx'
   obtain ⟨s0, s1, s2, s3, s4, s5, s6⟩ := sub_all (a := a)
   refine putR (n := x.r.n) (v := x') h4d.gap hg fun vo w5 ho5 hb5 hf5 hG5 => ?_
   have cw5 := cur w5
   have hz5 := hf5.size
   have hf45 : Fr [a.gb, a.gm] w4 w5 := (Fr.trans' (fr_ : Fr [a.gb, a.gm] w4 w4.drew) (Fr.refl _ _ : Fr [] _ _)).trans hf5 fun y hy => .inl hy
   have hz45 := hf45.size
   have hMg : ∀ y ∈ [a.gb, a.gm], y ∈ a.all := fun y hy => by
    simp at hy
    rcases hy with rfl | rfl
    ·exact s3
    ·exact s4
   have mono : ∀ y, KeyAt w4 a.all y → KeyAt w5 a.all y := fun y hy => hy.mono hf45 (fun z hz => .inl (hMg z hz)) fun z hz => .inl hz
   obtain ⟨pm1, pm2⟩ := put_mem M.g x.r.n x'
   have hwf5 := hg.put x.r.n x'
   have hkeys : ∀ y ∈ (M.g.put x.r.n x').1.1, KeyAt w5 a.all y := fun y hy => by
    rcases pm1 y hy with rfl | ⟨p, q1, q2⟩
    ·exact mono _ hkx
    ·rw [← q2]; exact mono _ (h4.keys p q1).2
   have h5 : NodeAt w5 a c inc { M with g := (M.g.put x.r.n x').2 } := h4d.gapS hG5 hf5 fun p hp => by
    rcases pm2 p hp with q | q
    ·exact ⟨(h4.keys p q).1, mono _ (h4.keys p q).2⟩
    ·rw [q]; exact ⟨hrn, mono _ hkx⟩
   have hol : (M.g.put x.r.n x').1.1.length ≤ 1000000000 := by have := put_len M.g x.r.n x'; have := hg.len; have := hg.m; omega
   have hso : SlOf 2 encKR w5 vo (M.g.put x.r.n x').1.1 := ho5.sl
   have n2 : w.heap.size ∉ [a.gb, a.gm] := fun q => a2.1 (hMg _ q)
   have g25 := hf45.get g24 n2
   have hK' := fun (w' : World) (S' : List Nat) => hK w' S' x' hrn hrk
   rw [apply_live ql, hcalm] at hK'
   generalize hput : M.g.put x.r.n x' = pr at *
   obtain ⟨⟨out, over⟩, g'⟩ := pr
   simp only at *
   simp (maxSteps:=9^7)(disch:=first|assumption|(simp only[dz];first|done|assumption|omega)|omega|apply_rules[Fr.refl,Fr.alloc,Fr.drew]|rfl) only [↓gd,gp,Nat.reduceAdd,Nat.reduceEqDiff, ↓c20_7_s, ↓c20_10_s, ↓c20_9_s, ↓c20_8_s, ↓c20_6_s, ↓c20_17_s, ↓c20_21_s, ↓c20_28_s, ↓c20_31_s, ↓c20_30_s, ↓c20_29_s, ↓c20_27_s, ↓c20_32_s, ↓c20_26_s, ↓c20_25_s, ↓c20_24_s, ↓c20_23_s, ↓c20_22_s, ↓c20_20_s, ↓c20_19_s, ↓c20_18_s, ↓c20_16_s, ↓c20_33_s, ↓c20_15_s, ↓c20_14_s, ↓c20_13_s, ↓c20_12_s, ↓c20_5_s, ↓c20_4_s, ↓c20_3_s, ↓c20_2_s, ↓c20_36_s, ↓c20_35_s, ↓c20_34_s, ↓c20_1_s, ↓c20_s, ↓w3t_20]
   refine apply_loop (M := { M with g := g' }) (n := n) (B := B) (vo := vo) h5 hT hB hso (fun y m cc q => ?_) hkeys hol g25 a2.1 rfl rfl fun e6 w6 S6 h6 hT6 hS6 hf6 r2 r5 r7 => ?_
   ·have hq := own_off ho5 y m cc q
    exact ⟨ho5.lt hq, fun hm => by have := h4.lt _ hm; have := hb5 _ hq; rw [size_drew] at this; omega⟩
   have cw6 := cur w6
   have hz6 := hf6.size
   have hg6 : (out.foldl Mem.given { M with g := g' }).g = g' := (foldG out _).1
   have hr6 : ∀ y ∈ a.rb :: a.rr :: a.S, y ∈ a.all := fun y hy => by
    simp only [List.mem_cons] at hy
    rcases hy with rfl | rfl | q
    ·exact s5
    ·exact s6
    ·exact s0 y q
   have g26 := hf6.get g25 fun q => a2.1 (hr6 _ q)
   have hF6 : Fr a.all w w6 := ((((Fr.refl a.all w).trans hf1 (by simp)).trans hf14 fun y hy => by simp at hy; subst hy; exact .inr (by omega)).trans hf45 fun y hy => .inl (hMg y hy)).trans hf6 fun y hy => .inl (hr6 y hy)
   refine apply_end (M := out.foldl Mem.given { M with g := g' }) (n := n) (B := B) (calm := calm) (over := over) h6 hT6 hB (by rw [hg6]; exact hwf5) g26 (fun q => (hS6 _ q).elim (fun q => a2.1 (s0 _ q)) fun q => by omega) r2 r5 r7 fun w7 S7 h7 hT7 hS7 hf7 => ?_
   rw [hg6]
   refine hK' w7 S7 h7 hT7 ?_ (fun y hy => ?_) (hF6.trans hf7 fun y hy => ?_)
   ·rw [(Mem.over_g _ _).1, hg6]; exact hwf5
   ·rcases hS7 y hy with q | q
    ·exact (hS6 y q).imp id fun q => by omega
    ·exact .inr (by omega)
   ·exact (hS6 y hy).imp (s0 y) fun q => by omega
end Go.Proofs.YtomlgkecckffeaaGreat

set_option maxRecDepth 100000
namespace Go.Proofs.YtomlgkecckffeaaGreat
open Go.VW
open Go.Instr (loadAt storeAt fieldAt indexAt)
noncomputable section
set_option linter.defProp false
variable {N : NT} {T : T3T} {M : MT} {G : GT} {H : HT} {Y : YT} {k : KT} {Q : Exit → Env → World → Prop} {e el eg : Env} {w u0 u1 u2 u3 u4 u5 u6 u7 u8 u9 : World}
/-! ### vouch/vouchlaw12.fixed -/
def V14 : Nat → Bool := fun i => [0, 1, 2, 3, 4, 21, 46].elem i
def cond14:=@s_cond Tryz.prog 62 V14
def drw14:=@s_drw Tryz.prog 62 V14
def reg14:=@s_reg Tryz.prog 62 V14
def seq14:=@s_seq Tryz.prog 62 V14
noncomputable def c14:Code:=(Tryz.f14.body.getD .skip)
noncomputable def c14_1:=cR c14
noncomputable def c14_2:=cR c14_1
noncomputable def c14_3:=cR c14_2
noncomputable def c14_4:=cR c14_3
noncomputable def c14_5:=cR c14_4
noncomputable def c14_6:=cR c14_5
noncomputable def c14_7:=cL c14_4
noncomputable def b14_5:List Row:=[(0, 0, 4, 30, true), (0, 0, 0, 31, false), (3, 3, 1610612736, 32, true), (6, 7, 2147483648, 33, true), (8, 15, 4294967304, 34, true), (8, 15, 4294967296, 35, true), (56, 63, 30064771072, 36, true), (72, 127, 38654705664, 37, true), (136, 255, 68719476736, 38, true), (256, 511, 137438953488, 39, true), (768, 1023, 412316860416, 40, true), (1280, 2047, 687194767360, 41, true), (2304, 4095, 1099511627776, 42, true), (4096, 8191, 2199023255554, 43, true), (4096, 8191, 2199023255552, 44, false), (20480, 24575, 10995116277760, 45, true), (45056, 65535, 24189255811072, 46, false), (69632, 131071, 37383395344384, 47, true)]
noncomputable def c14_8:=cR c14_7
noncomputable def c14_9:=cL c14_8
noncomputable def c14_10:=cL c14_2
noncomputable def c14_11:=cR c14_10
noncomputable def c14_12:=cL c14_11
def c14_6_s:=reg14 c14_6 .ret (fun N M G k e w =>
 M (e 4) fun t54 =>
 N (xv (Op.unary .not t54)) w fun t55 w =>
 M t55 fun t56 =>
 G (isB t56 true) (fun K => M (e 1) fun v => K v w) (fun t57 w =>
 G (isB t56 true) (fun K => N (xcall (.func (.func 23) #[] #[]) [t57]) w K) (fun t58 w =>
 G (isB t56 true) (fun K => N (xv (Instr.field 43 t58 3)) w K) (fun t59 w =>
 G (isB t56 true) (fun K => N (xv (xbin .eql 2 (.tmp 59) (.const (.int .i64 2)) t59 (.int .i64 2))) w K) (fun t60 w =>
 N (xpick t56 t60 (.bool false)) w fun t61 w =>
 M t61 fun t0 =>
 k (Env.p e 0 t0) w) w) w) w) w)
def c14_5_s:=reg14 c14_5 c14_6 (fun N M G k e w =>
 M (e 1) fun t48 =>
 N (xv (Instr.build 48 ([(0, (.int .i64 2)), (1, (.int .i64 9))]).toArray)) w fun t49 w =>
 N (xcall (.func (.func 25) #[] #[]) [t48, (.string ⟨#[107]⟩), t49]) w fun t50 w =>
 M t50 fun t47 =>
 N (xv (Instr.extract t47 0)) w fun t51 w =>
 N (xv (Instr.extract t47 1)) w fun t52 w =>
 N (xv (Instr.extract t47 2)) w fun t53 w =>
 M t53 fun t4 =>
 k (Env.p e 4 t4) w)
def c14_9_s:=reg14 c14_9 .ret (fun N M G k e w =>
 M (.bool false) fun t0 =>
 k (Env.p e 0 t0) w)
def c14_8_s:=cond14 c14_8 .skip 46 c14_9
def c14_7_s:=drw14 c14_7 c14_8 b14_5 18 (fun N T M G H Y k e w =>
 T (FrX (some []) w) (xv (loadAt 31 (e 2))) fun t29 =>
 N (xcall (.func (.func 17) #[] #[]) [(.string ⟨#[120]⟩)]) w fun t30 w1 =>
 Y true (xv (loadAt 31 (e 2))) t29 w w1 ∧ (T (FrX none w1) (xv (xbin .neq 31 (.tmp 29) (.tmp 30) t29 t30)) fun t31 =>
 M t31 fun t32 =>
 H (isB t32 false) (fun K => T (FrX (some []) w1) (xv (loadAt 48 (e 3))) K) (fun t33 =>
 H (isB t32 false) (fun K => T (FrX none w1) (xv (Instr.build 48 ([(0, (.int .i64 0)), (1, (.int .i64 2))]).toArray)) K) (fun t34 =>
 H (isB t32 false) (fun K => T (FrX none w1) (xv (xbin .neq 48 (.tmp 33) (.tmp 34) t33 t34)) K) (fun t35 =>
 T (FrX none w1) (xpick t32 (.bool true) t35) fun t36 =>
 M t36 fun t37 =>
 H (isB t37 false) (fun K => M (e 4) K) (fun t38 =>
 H (isB t37 false) (fun K => T (FrX none w1) (xv (Op.unary .not t38)) K) (fun t39 =>
 T (FrX none w1) (xpick t37 (.bool true) t39) fun t40 =>
 M t40 fun t41 =>
 H (isB t41 false) (fun K => M (e 1) K) (fun t42 =>
 G (isB t41 false) (fun K => N (xv (Instr.buildSlice 22 1 ([(0, (.string ⟨#[107]⟩))]).toArray)) w1 K) (fun t43 w14 =>
 H (isB t41 false) (fun K => T (FrX none w14) (xv (Instr.build 38 ([(0, (.int .i64 2)), (1, t43)]).toArray)) K) (fun t44 =>
 G (isB t41 false) (fun K => N (xcall (.func (.func 20) #[] #[]) [t42, t44]) w14 K) (fun t45 w16 =>
 T (FrX none w16) (xpick t41 (.bool true) t45) fun t46 =>
 k (Env.p e 46 t46) w16) w14)) w1))))))))
def c14_4_s:=seq14 c14_4 c14_5 c14_7
def c14_3_s:=reg14 c14_3 c14_4 (fun N M G k e w =>
 M (e 1) fun t23 =>
 N (xv (Instr.build 48 ([(0, (.int .i64 1)), (1, (.int .i64 5))]).toArray)) w fun t24 w =>
 N (xcall (.func (.func 25) #[] #[]) [t23, (.string ⟨#[107]⟩), t24]) w fun t25 w =>
 M t25 fun t22 =>
 N (xv (Instr.extract t22 0)) w fun t26 w =>
 N (xv (Instr.extract t22 1)) w fun t27 w =>
 N (xv (Instr.extract t22 2)) w fun t28 w =>
 N (xv (Instr.alloc 31 true (.tuple #[]))) w fun t2 w =>
 N (xv (Instr.alloc 48 true (.tuple #[]))) w fun t3 w =>
 N (xu (storeAt 31 t2 t26)) w fun _ w =>
 N (xu (storeAt 48 t3 t27)) w fun _ w =>
 M t28 fun t4 =>
 k (Env.p (Env.p (Env.p e 2 t2) 3 t3) 4 t4) w)
def c14_12_s:=reg14 c14_12 .ret (fun N M G k e w =>
 M (.bool false) fun t0 =>
 k (Env.p e 0 t0) w)
def c14_11_s:=cond14 c14_11 .skip 21 c14_12
def c14_10_s:=reg14 c14_10 c14_11 (fun N M G k e w =>
 M (e 1) fun t7 =>
 N (xv (xbin .eql 26 (.tmp 7) (.const (.pointer none)) t7 (.pointer none))) w fun t8 w =>
 M t8 fun t9 =>
 G (isB t9 false) (fun K => M (e 1) fun v => K v w) (fun t10 w =>
 G (isB t9 false) (fun K => N (xcall (.func (.func 17) #[] #[]) [(.string ⟨#[120]⟩)]) w K) (fun t11 w =>
 G (isB t9 false) (fun K => N (xv (Instr.build 34 ([(0, (.string ⟨#[107]⟩)), (1, t11), (3, (.int .i64 4611686018427387904))]).toArray)) w K) (fun t12 w =>
 G (isB t9 false) (fun K => N (xcall (.func (.func 18) #[] #[]) [t10, t12, (.int .i64 0)]) w K) (fun t13 w =>
 G (isB t9 false) (fun K => N (xv (Op.unary .not t13)) w K) (fun t14 w =>
 N (xpick t9 (.bool true) t14) w fun t15 w =>
 M t15 fun t16 =>
 G (isB t16 false) (fun K => M (e 1) fun v => K v w) (fun t17 w =>
 G (isB t16 false) (fun K => N (xv (Instr.buildSlice 22 1 ([(0, (.string ⟨#[106]⟩))]).toArray)) w K) (fun t18 w =>
 G (isB t16 false) (fun K => N (xv (Instr.build 38 ([(0, (.int .i64 1)), (1, t18)]).toArray)) w K) (fun t19 w =>
 G (isB t16 false) (fun K => N (xcall (.func (.func 20) #[] #[]) [t17, t19]) w K) (fun t20 w =>
 N (xpick t16 (.bool true) t20) w fun t21 w =>
 k (Env.p e 21 t21) w) w) w) w) w) w) w) w) w) w)
def c14_2_s:=seq14 c14_2 c14_3 c14_10
def c14_1_s:=reg14 c14_1 c14_2 (fun N M G k e w =>
 N (xv (Instr.build 25 ([(0, (.int .i64 1)), (1, (.int .i64 100)), (2, (.int .i64 2)), (3, (.int .i64 2)), (4, (.int .i64 2)), (5, (.int .i64 1)), (6, (.int .i64 1))]).toArray)) w fun t5 w =>
 N (xcall (.func (.func 15) #[] #[]) [t5]) w fun t6 w =>
 M t6 fun t1 =>
 k (Env.p e 1 t1) w)
def c14_s:=reg14 c14 c14_1 (fun N M G k e w =>
 M (.bool false) fun t0 =>
 k (Env.p e 0 t0) w)
theorem call14 {w : World} {R : Value → World → Prop} (h : W3 Tryz.prog 62 V14 c14 (retQ Tryz.prog [.tmp 0] R) (argE []) w) : CallsN Tryz.prog 14 [] w R :=
 callsN_of_W3 (c := c14) (rs := [.tmp 0]) V14 Tryz.ntmps14 (by rw [Tryz.results14]) mixed Tryz.func14 (by kernel_rfl) (by kernel_rfl) (by kernel_rfl) (by kernel_rfl) (by simp) h
def w3t_14:=w3t Tryz.prog 62 V14
def hk14 := aI @c14_6_s <| aI @c14_5_s <| aI @c14_9_s <| aI @c14_8_s <| aI @c14_7_s <| aI @c14_4_s <| aI @c14_3_s <| aI @c14_12_s <| aI @c14_11_s <| aI @c14_10_s <| aI @c14_2_s <| aI @c14_1_s <| aI @c14_s <| @w3t_14
-- K14: ↓hk14
/-! ### vouch/vouchlaw12.text -/
def V17 : Nat → Bool := fun i => [0, 2].elem i
def reg17:=@s_reg Tryz.prog 5 V17
noncomputable def c17:Code:=(Tryz.f17.body.getD .skip)
noncomputable def c17_1:=cR c17
def c17_1_s:=reg17 c17_1 .ret (fun N M G k e w =>
 M (e 0) fun t3 =>
 N (xv (Instr.build 31 ([(0, (.bool true)), (1, t3)]).toArray)) w fun t4 w =>
 N (xu (storeAt 31 (e 2) t4)) w fun _ w =>
 k e w)
def c17_s:=reg17 c17 c17_1 (fun N M G k e w =>
 N (xv (Instr.alloc 31 true (.tuple #[]))) w fun t2 w =>
 k (Env.p e 2 t2) w)
theorem call17 {a0 : Value} {w : World} {R : Value → World → Prop} (h : W3 Tryz.prog 5 V17 c17 (retQ Tryz.prog [.cell 2 31] R) (argE [a0]) w) : CallsN Tryz.prog 17 [a0] w R :=
 callsN_of_W3 (c := c17) (rs := [.cell 2 31]) V17 Tryz.ntmps17 (by rw [Tryz.results17]) mixed Tryz.func17 (by kernel_rfl) (by kernel_rfl) (by kernel_rfl) (by kernel_rfl) (by simp) h
def w3t_17:=w3t Tryz.prog 5 V17
def hk17 := aI @c17_1_s <| aI @c17_s <| @w3t_17
-- K17: ↓hk17
/-! ### vouch/vouchlaw12.NodeNone -/
-- K13: ↓hk13
/-! ### (*vouch/node.Node) . Squeeze -/
def V29 : Nat → Bool := fun i => [0, 2, 3, 4, 5, 8, 21].elem i
noncomputable def c29:Code:=(Tryz.f29.body.getD .skip)
theorem call29 {a0 : Value} {w : World} {R : Value → World → Prop} (h : W3 Tryz.prog 47 V29 c29 (retQ Tryz.prog [.cell 2 52, .tmp 3] R) (argE [a0]) w) : CallsN Tryz.prog 29 [a0] w R :=
 callsN_of_W3 (c := c29) (rs := [.cell 2 52, .tmp 3]) V29 Tryz.ntmps29 (by rw [Tryz.results29]) mixed Tryz.func29 (by kernel_rfl) (by kernel_rfl) (by kernel_rfl) (by kernel_rfl) (by simp) h
-- K29: ↓hk29
/-! ### (*vouch/node.Node) . Wants -/
def V39 : Nat → Bool := fun i => [0, 2, 3, 4, 5, 9].elem i
noncomputable def c39:Code:=(Tryz.f39.body.getD .skip)
theorem call39 {a0 : Value} {w : World} {R : Value → World → Prop} (h : W3 Tryz.prog 27 V39 c39 (retQ Tryz.prog [.tmp 2, .tmp 3, .tmp 4] R) (argE [a0]) w) : CallsN Tryz.prog 39 [a0] w R :=
 callsN_of_W3 (c := c39) (rs := [.tmp 2, .tmp 3, .tmp 4]) V39 Tryz.ntmps39 (by rw [Tryz.results39]) mixed Tryz.func39 (by kernel_rfl) (by kernel_rfl) (by kernel_rfl) (by kernel_rfl) (by simp) h
-- K39: ↓hk39
/-! ### (*vouch/node.Node) . Known -/
def V37 : Nat → Bool := fun i => [0, 1, 4, 5, 7, 10, 19, 20, 21, 22].elem i
noncomputable def c37:Code:=(Tryz.f37.body.getD .skip)
theorem call37 {a0 a1 : Value} {w : World} {R : Value → World → Prop} (h : W3 Tryz.prog 40 V37 c37 (retQ Tryz.prog [.tmp 4] R) (argE [a0, a1]) w) : CallsN Tryz.prog 37 [a0, a1] w R :=
 callsN_of_W3 (c := c37) (rs := [.tmp 4]) V37 Tryz.ntmps37 (by rw [Tryz.results37]) mixed Tryz.func37 (by kernel_rfl) (by kernel_rfl) (by kernel_rfl) (by kernel_rfl) (by simp) h
-- K37: ↓hk37
/-! ### (*vouch/node.Node) . Start -/
def V27 : Nat → Bool := fun i => [0, 1, 2, 6, 34].elem i
noncomputable def c27:Code:=(Tryz.f27.body.getD .skip)
theorem call27 {a0 a1 a2 : Value} {w : World} {R : Value → World → Prop} (h : W3 Tryz.prog 63 V27 c27 (retQ Tryz.prog [.tmp 6] R) (argE [a0, a1, a2]) w) : CallsN Tryz.prog 27 [a0, a1, a2] w R :=
 callsN_of_W3 (c := c27) (rs := [.tmp 6]) V27 Tryz.ntmps27 (by rw [Tryz.results27]) mixed Tryz.func27 (by kernel_rfl) (by kernel_rfl) (by kernel_rfl) (by kernel_rfl) (by simp) h
-- K27: ↓hk27
/-! ### (*vouch/node.Node) . Crash -/
def V40 : Nat → Bool := fun i => [0, 2, 5].elem i
noncomputable def c40:Code:=(Tryz.f40.body.getD .skip)
theorem call40 {a0 : Value} {w : World} {R : Value → World → Prop} (h : W3 Tryz.prog 9 V40 c40 (retQ Tryz.prog [.tmp 2] R) (argE [a0]) w) : CallsN Tryz.prog 40 [a0] w R :=
 callsN_of_W3 (c := c40) (rs := [.tmp 2]) V40 Tryz.ntmps40 (by rw [Tryz.results40]) mixed Tryz.func40 (by kernel_rfl) (by kernel_rfl) (by kernel_rfl) (by kernel_rfl) (by simp) h
-- K40: ↓hk40
/-! ### (*vouch/node.Node) . Restart -/
def V41 : Nat → Bool := fun i => [0, 2, 8].elem i
noncomputable def c41:Code:=(Tryz.f41.body.getD .skip)
theorem call41 {a0 : Value} {w : World} {R : Value → World → Prop} (h : W3 Tryz.prog 24 V41 c41 (retQ Tryz.prog [.tmp 2] R) (argE [a0]) w) : CallsN Tryz.prog 41 [a0] w R :=
 callsN_of_W3 (c := c41) (rs := [.tmp 2]) V41 Tryz.ntmps41 (by rw [Tryz.results41]) mixed Tryz.func41 (by kernel_rfl) (by kernel_rfl) (by kernel_rfl) (by kernel_rfl) (by simp) h
-- K41: ↓hk41
/-! ### (*vouch/node.Node) . Clone -/
def V33 : Nat → Bool := fun i => [0, 2, 3, 4, 6, 18].elem i
noncomputable def c33:Code:=(Tryz.f33.body.getD .skip)
theorem call33 {a0 : Value} {w : World} {R : Value → World → Prop} (h : W3 Tryz.prog 41 V33 c33 (retQ Tryz.prog [.tmp 2] R) (argE [a0]) w) : CallsN Tryz.prog 33 [a0] w R :=
 callsN_of_W3 (c := c33) (rs := [.tmp 2]) V33 Tryz.ntmps33 (by rw [Tryz.results33]) mixed Tryz.func33 (by kernel_rfl) (by kernel_rfl) (by kernel_rfl) (by kernel_rfl) (by simp) h
-- K33: ↓hk33
/-! ### vouch/cover.New[int64] -/
def V100 : Nat → Bool := fun i => [0, 2, 3, 5, 8, 9, 10, 11].elem i
noncomputable def c100:Code:=(Tryz.f100.body.getD .skip)
theorem call100 {a0 : Value} {w : World} {R : Value → World → Prop} (h : W3 Tryz.prog 19 V100 c100 (retQ Tryz.prog [.tmp 2] R) (argE [a0]) w) : CallsN Tryz.prog 100 [a0] w R :=
 callsN_of_W3 (c := c100) (rs := [.tmp 2]) V100 Tryz.ntmps100 (by rw [Tryz.results100]) mixed Tryz.func100 (by kernel_rfl) (by kernel_rfl) (by kernel_rfl) (by kernel_rfl) (by simp) h
-- K100: ↓hk100
/-! ### (*vouch/cover.Cover[int64]) . Len -/
def V42 : Nat → Bool := fun i => [0, 2].elem i
noncomputable def c42:Code:=(Tryz.f42.body.getD .skip)
theorem call42 {a0 : Value} {w : World} {R : Value → World → Prop} (h : W3 Tryz.prog 6 V42 c42 (retQ Tryz.prog [.tmp 2] R) (argE [a0]) w) : CallsN Tryz.prog 42 [a0] w R :=
 callsN_of_W3 (c := c42) (rs := [.tmp 2]) V42 Tryz.ntmps42 (by rw [Tryz.results42]) mixed Tryz.func42 (by kernel_rfl) (by kernel_rfl) (by kernel_rfl) (by kernel_rfl) (by simp) h
-- K42: ↓hk42
/-! ### (*vouch/cover.Cover[int64]) . spans -/
def V105 : Nat → Bool := fun i => [0, 2, 4].elem i
noncomputable def c105:Code:=(Tryz.f105.body.getD .skip)
theorem call105 {a0 : Value} {w : World} {R : Value → World → Prop} (h : W3 Tryz.prog 9 V105 c105 (retQ Tryz.prog [.tmp 2] R) (argE [a0]) w) : CallsN Tryz.prog 105 [a0] w R :=
 callsN_of_W3 (c := c105) (rs := [.tmp 2]) V105 Tryz.ntmps105 (by rw [Tryz.results105]) mixed Tryz.func105 (by kernel_rfl) (by kernel_rfl) (by kernel_rfl) (by kernel_rfl) (by simp) h
-- K105: ↓hk105
end
end Go.Proofs.YtomlgkecckffeaaGreat

set_option maxRecDepth 10000
namespace Go.Proofs.YtomlgkecckffeaaGreat
open Go.VW
def viewV (M : Mem) (inc : Int) (vw ve : Value) : List Value := [.bool true, .bool M.live, .int .i64 inc, .int .i64 M.g.at_, .int .i64 M.R.since, vw, .int .i64 M.T.bytes, ve]
set_option maxHeartbeats 16000000 in
theorem view_spec {w : World} {a : Lay} {c : Cfg} {inc : Int} {M : Mem} {B : Nat} {K : Value → World → Prop} (h : NodeAt w a c inc M) (hT : TOK M.T B) (hB : B ≤ 1000000000) (hg : M.g.WF)
  (hK : ∀ vw ve w', Own 1 2 w' vw M.g.ws.length ((sortI (M.g.ws.map (·.1))).map (Value.int .i64)) → Own 8 52 w' ve M.T.list.length (cellsOf encEnt M.T.list) → (∀ b, vw.ownBlock = some b → w.heap.size ≤ b) → (∀ b, ve.ownBlock = some b → w.heap.size ≤ b) → (∀ b, ve.ownBlock = some b → vw.ownBlock ≠ some b) → Fr [] w w' → K (.agg (viewV M inc vw ve).toArray) w') :
  CallsN Tryz.prog 23 [.pointer (some ⟨a.nb, 0, none⟩)] w K := by
 have cw := cur w
 refine call23 ?_
 unfold viewV at hK
 simp (maxSteps:=9^7)(disch:=first|assumption|(simp only[dz];first|done|assumption|omega)|omega|apply_rules[Fr.refl,Fr.alloc,Fr.drew]|rfl) only [↓gd,gp,Nat.reduceAdd,Nat.reduceEqDiff, ↓c23_3_s, ↓c23_6_s, ↓c23_5_s, ↓c23_4_s, ↓c23_2_s, ↓c23_9_s, ↓c23_8_s, ↓c23_7_s, ↓c23_s, ↓w3t_23]
 generalize hW : World.alloc w _ = w1
 have hf1 : Fr [] w w1 := by rw [← hW]; exact fr_
 have hz1 : w1.heap.size = w.heap.size + 1 := by rw [← hW]; simp only [gz]
 have g2 : w1.heap[w.heap.size]? = some (.cells ([.bool false, .bool false, .int .i64 0, .int .i64 0, .int .i64 0, .slice none 0 0, .int .i64 0, .slice none 0 0] : List Value).toArray 43 (0, 0)) := by rw [← hW]; simp (maxSteps:=9^7)(disch:=first|assumption|(simp only[dz];first|done|assumption|omega)|omega|apply_rules[Fr.refl,Fr.alloc,Fr.drew]|rfl) only [↓gsd,gs,gv,Nat.reduceAdd,Nat.reduceEqDiff] <;> rfl
 clear hW
 have cw1 := cur w1
 have h1 := h.frN hf1
 have hd1 := h1.hd
 have hm1 := h1.mm
 have l2 := lt_of_get _ _ g2
 have a2 := h.away (Nat.le_refl w.heap.size)
 simp (maxSteps:=9^7)(disch:=first|assumption|(simp only[dz];first|done|assumption|omega)|omega|apply_rules[Fr.refl,Fr.alloc,Fr.drew]|rfl) only [↓gd,gp,Nat.reduceAdd,Nat.reduceEqDiff, ↓hk23, hd1, hm1]
 refine up_spec h1 ?_
 simp (maxSteps:=9^7)(disch:=first|assumption|(simp only[dz];first|done|assumption|omega)|omega|apply_rules[Fr.refl,Fr.alloc,Fr.drew]|rfl) only [↓gd,gp,Nat.reduceAdd,Nat.reduceEqDiff, ↓hk23, hd1, hm1]
 refine atR (h1.frN (w' := w1.drew) fr_).gap ?_
 simp (maxSteps:=9^7)(disch:=first|assumption|(simp only[dz];first|done|assumption|omega)|omega|apply_rules[Fr.refl,Fr.alloc,Fr.drew]|rfl) only [↓gd,gp,Nat.reduceAdd,Nat.reduceEqDiff, ↓hk23, hd1, hm1]
 refine since_spec (h1.frN (w' := w1.drew) fr_).rcn ?_
 simp (maxSteps:=9^7)(disch:=first|assumption|(simp only[dz];first|done|assumption|omega)|omega|apply_rules[Fr.refl,Fr.alloc,Fr.drew]|rfl) only [↓gd,gp,Nat.reduceAdd,Nat.reduceEqDiff, ↓hk23, hd1, hm1]
 refine waitsR (h1.frN (w' := w1.drew) fr_).gap hg fun vw w2 how hf2 hbw => ?_
 have cw2 := cur w2
 have hf12 : Fr [] w1 w2 := Fr.trans' fr_ hf2
 have h2 := h1.frN hf12
 have hd2 := h2.hd
 have hm2 := h2.mm
 have hz2 := hf12.size
 have g22 := hf12.getN g2
 obtain ⟨wa, wc, hvw⟩ := (sl_ints how).form
 have hln : (sortI (M.g.ws.map (·.1))).length = M.g.ws.length := by have := how.1; simpa using this
 rw [hln] at hvw
 simp (maxSteps:=9^7)(disch:=first|assumption|(simp only[dz];first|done|assumption|omega)|omega|apply_rules[Fr.refl,Fr.alloc,Fr.drew]|rfl) only [↓gd,gp,Nat.reduceAdd,Nat.reduceEqDiff, ↓hk23, hd2, hm2, hvw, eq_true hf12]
 refine bytes_spec h2.tab ?_
 simp (maxSteps:=9^7)(disch:=first|assumption|(simp only[dz];first|done|assumption|omega)|omega|apply_rules[Fr.refl,Fr.alloc,Fr.drew]|rfl) only [↓gd,gp,Nat.reduceAdd,Nat.reduceEqDiff, ↓hk23, hd2, hm2, hvw, eq_true hf12]
 refine all_all h2.tab hT (by omega) fun ve w3 hse hoe hbe hf3 => ?_
 have cw3 := cur w3
 have hf13 := hf12.trans' hf3
 have g23 := hf3.getN g22
 have l23 := lt_of_get _ _ g23
 obtain ⟨xa, xc, hve⟩ := hse.form
 have hz3 := hf3.size
 simp (maxSteps:=9^7)(disch:=first|assumption|(simp only[dz];first|done|assumption|omega)|omega|apply_rules[Fr.refl,Fr.alloc,Fr.drew]|rfl) only [↓gd,gp,Nat.reduceAdd,Nat.reduceEqDiff, ↓hk23, hve, g23, eq_true hf13]
 rw [← hve, ← hvw]
 have hfr : Fr [w.heap.size] w3 (w3.setB w.heap.size (.cells (viewV M inc vw ve).toArray 43 (0, 0))) := fr_
 unfold viewV at hfr
 refine hK vw ve _ ((how.frN hf3).fr hfr fun y hy e => ?_) (hoe.fr hfr fun y hy e => ?_) (fun b hb => ?_) (fun b hb => ?_) (fun b hb e => ?_) ((hf1.trans' hf13).trans hfr fun y hy => by simp at hy; subst hy; exact .inr (Nat.le_refl _))
 ·simp at hy; subst hy; have := hbw _ e; rw [size_drew] at this; omega
 ·simp at hy; subst hy; have := hbe _ e; omega
 ·have := hbw _ hb; rw [size_drew] at this; omega
 ·have := hbe _ hb; omega
 ·have := hbe _ hb; have := how.lt e; omega
end Go.Proofs.YtomlgkecckffeaaGreat
