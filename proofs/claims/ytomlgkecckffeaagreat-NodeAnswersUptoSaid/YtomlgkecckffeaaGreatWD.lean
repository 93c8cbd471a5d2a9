/- A node: Apply. -/
import Derived.Test.YtomlgkecckffeaaGreatWC
set_option linter.unusedVariables false
set_option linter.unusedSimpArgs false
set_option maxRecDepth 10000
namespace Go.Proofs.YtomlgkecckffeaaGreat
open Go.VW
theorem foldG (l : List KRec) : ∀ M : Mem, (l.foldl Mem.given M).g = M.g ∧ (l.foldl Mem.given M).live = M.live ∧ (l.foldl Mem.given M).ins = M.ins ∧ (l.foldl Mem.given M).stamps = M.stamps := by
 induction l with
 | nil => intro M; exact ⟨rfl, rfl, rfl, rfl⟩
 | cons x l ih => intro M; exact ih (M.given x)
theorem Mem.over_g (M : Mem) (o : Bool) : (M.over o).g = M.g ∧ (M.over o).live = M.live ∧ (M.over o).ins = M.ins ∧ (M.over o).R = M.R := by
 unfold Mem.over; split <;> exact ⟨rfl, rfl, rfl, rfl⟩
theorem apply_live {M : Mem} {n : Int} {x : KRec} (h : M.live = true) : M.apply n x = (((M.g.put n x).1.1.foldl Mem.given { M with g := (M.g.put n x).2 }).over (M.g.put n x).1.2, (M.g.put n x).1.2 || (decide (M.g.ws.length = 0) && decide (0 < (M.g.put n x).2.ws.length))) := by
 unfold Mem.apply
 rw [if_neg (by rw [h]; simp)]
 simp only
 congr 1
 have e := (Mem.over_g ((M.g.put n x).1.1.foldl Mem.given { M with g := (M.g.put n x).2 }) (M.g.put n x).1.2).1
 unfold Mem.over at e
 rw [e, (foldG _ _).1]
theorem put_len {α : Type} (g : GS α) (n : Int) (v : α) : (g.put n v).1.1.length ≤ g.ws.length + 1 := by
 have key : ∀ (f : Nat) (a : Int) (ws : List (Int × α)), (drain f a ws).1.length ≤ f := by
  intro f
  induction f with
  | zero => intro a ws; exact Nat.le_refl _
  | succ f ih =>
    intro a ws
    unfold drain
    split
    ·exact Nat.zero_le _
    ·have := ih (a + 1) (adel ws (a + 1)); simp only [List.length_cons]; omega
 unfold GS.put
 split
 ·exact Nat.zero_le _
 ·split
  ·have := key g.ws.length n g.ws; simp only [List.length_cons]; omega
  ·split <;> exact Nat.zero_le _
set_option maxHeartbeats 32000000 in
theorem apply_spec {w : World} {a : Lay} {c : Cfg} {inc : Int} {M : Mem} {B : Nat} {n : Int} {x : KRec} {K : Value → World → Prop} (h : NodeAt w a c inc M) (hT : TI M.T B n) (hB : B ≤ 100000000) (hg : M.g.WF)
  (hs : SlOf 1 encS w (.slice x.r.a x.r.l x.r.c) x.ks) (hsl : x.ks.length ≤ 4000000000000)
  (hK : ∀ w' S' x', x'.r.n = x.r.n → x'.ks = x.ks → NodeAt w' { a with S := S' } c inc (M.apply x.r.n x').1 → TI (M.apply x.r.n x').1.T B n → (M.apply x.r.n x').1.g.WF → (∀ x ∈ S', x ∈ a.S ∨ w.heap.size ≤ x) → Fr a.all w w' → K (.bool (M.apply x.r.n x').2) w') :
  CallsN Tryz.prog 20 [.pointer (some ⟨a.nb, 0, none⟩), .agg (encR x.r).toArray] w K := by
 have cw := cur w
 refine call20 ?_
 unfold encR
 simp (maxSteps:=9^7)(disch:=first|assumption|(simp only[dz];first|done|assumption|omega)|omega|apply_rules[Fr.refl,Fr.alloc,Fr.drew]|rfl) only [↓gd,gp,Nat.reduceAdd,Nat.reduceEqDiff, ↓c20_7_s, ↓c20_10_s, ↓c20_9_s, ↓c20_8_s, ↓c20_6_s, ↓c20_17_s, ↓c20_21_s, ↓c20_28_s, ↓c20_31_s, ↓c20_30_s, ↓c20_29_s, ↓c20_27_s, ↓c20_32_s, ↓c20_26_s, ↓c20_25_s, ↓c20_24_s, ↓c20_23_s, ↓c20_22_s, ↓c20_20_s, ↓c20_19_s, ↓c20_18_s, ↓c20_16_s, ↓c20_33_s, ↓c20_15_s, ↓c20_14_s, ↓c20_13_s, ↓c20_12_s, ↓c20_11_s, ↓c20_5_s, ↓c20_4_s, ↓c20_3_s, ↓c20_2_s, ↓c20_36_s, ↓c20_35_s, ↓c20_34_s, ↓c20_s, ↓w3t_20]
 generalize hW : World.alloc (World.alloc w _) _ = w1
 have hf1 : Fr [] w w1 := by rw [← hW]; exact fr_
 have hz1 : w1.heap.size = w.heap.size + 1 + 1 := by rw [← hW]; simp only [gz]
 have g2 : w1.heap[w.heap.size]? = some (.cells ([.pointer (some ⟨a.nb, 0, none⟩)] : List Value).toArray 26 (0, 0)) := by rw [← hW]; simp (maxSteps:=9^7)(disch:=first|assumption|(simp only[dz];first|done|assumption|omega)|omega|apply_rules[Fr.refl,Fr.alloc,Fr.drew]|rfl) only [↓gsd,gs,gv,Nat.reduceAdd,Nat.reduceEqDiff] <;> rfl
 have g3 : w1.heap[w.heap.size + 1]? = some (.cells ([.int .i64 x.r.n, .slice x.r.a x.r.l x.r.c] : List Value).toArray 38 (0, 0)) := by rw [← hW]; simp (maxSteps:=9^7)(disch:=first|assumption|(simp only[dz];first|done|assumption|omega)|omega|apply_rules[Fr.refl,Fr.alloc,Fr.drew]|rfl) only [↓gsd,gs,gv,Nat.reduceAdd,Nat.reduceEqDiff] <;> rfl
 clear hW
 have cw1 := cur w1
 have h1 := h.frN hf1
 have hd1 := h1.hd
 have hm1 := h1.mm
 have l2 := lt_of_get _ _ g2
 have l3 := lt_of_get _ _ g3
 have a2 := h.away (Nat.le_refl w.heap.size)
 have a3 := h.away (show w.heap.size ≤ w.heap.size + 1 by omega)
 cases ql : M.live with
 | false =>
   have e0 : ∀ y, M.apply x.r.n y = (M, false) := fun y => by unfold Mem.apply; rw [if_pos ql]
   rw [ql] at hm1
   simp (maxSteps:=9^7)(disch:=first|assumption|(simp only[dz];first|done|assumption|omega)|omega|apply_rules[Fr.refl,Fr.alloc,Fr.drew]|rfl) only [↓gd,gp,Nat.reduceAdd,Nat.reduceEqDiff, ↓hk20, g2, hd1, hm1]
   refine up_spec h1 ?_
   simp (maxSteps:=9^7)(disch:=first|assumption|(simp only[dz];first|done|assumption|omega)|omega|apply_rules[Fr.refl,Fr.alloc,Fr.drew]|rfl) only [↓gd,gp,Nat.reduceAdd,Nat.reduceEqDiff, ↓hk20, g2, hd1, hm1]
   have := hK w1 a.S x rfl rfl (by rw [e0]; exact h1) (by rw [e0]; exact hT) (by rw [e0]; exact hg) (fun x hx => .inl hx) ((Fr.refl a.all w).trans hf1 (by simp))
   rw [e0] at this
   exact this
 | true =>
   rw [ql] at hm1
   simp (maxSteps:=9^7)(disch:=first|assumption|(simp only[dz];first|done|assumption|omega)|omega|apply_rules[Fr.refl,Fr.alloc,Fr.drew]|rfl) only [↓gd,gp,Nat.reduceAdd,Nat.reduceEqDiff, ↓c20_7_s, ↓c20_10_s, ↓c20_9_s, ↓c20_8_s, ↓c20_6_s, ↓c20_17_s, ↓c20_21_s, ↓c20_28_s, ↓c20_31_s, ↓c20_30_s, ↓c20_29_s, ↓c20_27_s, ↓c20_32_s, ↓c20_26_s, ↓c20_25_s, ↓c20_24_s, ↓c20_23_s, ↓c20_22_s, ↓c20_20_s, ↓c20_19_s, ↓c20_18_s, ↓c20_16_s, ↓c20_33_s, ↓c20_15_s, ↓c20_14_s, ↓c20_13_s, ↓c20_12_s, ↓c20_11_s, ↓c20_5_s, ↓c20_4_s, ↓c20_2_s, ↓c20_36_s, ↓c20_35_s, ↓c20_34_s, ↓c20_1_s, ↓c20_s, ↓w3t_20, g2, hd1, hm1]
   refine up_spec h1 ?_
   simp (maxSteps:=9^7)(disch:=first|assumption|(simp only[dz];first|done|assumption|omega)|omega|apply_rules[Fr.refl,Fr.alloc,Fr.drew]|rfl) only [↓gd,gp,Nat.reduceAdd,Nat.reduceEqDiff, ↓c20_7_s, ↓c20_10_s, ↓c20_9_s, ↓c20_8_s, ↓c20_6_s, ↓c20_17_s, ↓c20_21_s, ↓c20_28_s, ↓c20_31_s, ↓c20_30_s, ↓c20_29_s, ↓c20_27_s, ↓c20_32_s, ↓c20_26_s, ↓c20_25_s, ↓c20_24_s, ↓c20_23_s, ↓c20_22_s, ↓c20_20_s, ↓c20_19_s, ↓c20_18_s, ↓c20_16_s, ↓c20_33_s, ↓c20_15_s, ↓c20_14_s, ↓c20_13_s, ↓c20_12_s, ↓c20_11_s, ↓c20_5_s, ↓c20_4_s, ↓c20_2_s, ↓c20_36_s, ↓c20_35_s, ↓c20_34_s, ↓c20_1_s, ↓c20_s, ↓w3t_20, g2, hd1, hm1]
   refine waitsR h1.gap hg fun vw w2 how hf2 _ => ?_
   have cw2 := cur w2
   have hz2 := hf2.size
   obtain ⟨wa, wc, hvw⟩ := (sl_ints how).form
   have hln : (sortI (M.g.ws.map (·.1))).length = M.g.ws.length := by have := how.1; simpa using this
   rw [hln] at hvw
   have dd : decide ((M.g.ws.length : Int) = 0) = decide (M.g.ws.length = 0) := by
    by_cases q : M.g.ws.length = 0
    ·rw [decide_eq_true q, decide_eq_true (by omega)]
    ·rw [decide_eq_false q, decide_eq_false (by omega)]
   have g22 := hf2.getN g2
   have g32 := hf2.getN g3
   have l32 := lt_of_get _ _ g32
   simp (maxSteps:=9^7)(disch:=first|assumption|(simp only[dz];first|done|assumption|omega)|omega|apply_rules[Fr.refl,Fr.alloc,Fr.drew]|rfl) only [↓gd,gp,Nat.reduceAdd,Nat.reduceEqDiff, ↓c20_7_s, ↓c20_10_s, ↓c20_9_s, ↓c20_8_s, ↓c20_6_s, ↓c20_17_s, ↓c20_21_s, ↓c20_28_s, ↓c20_31_s, ↓c20_30_s, ↓c20_29_s, ↓c20_27_s, ↓c20_32_s, ↓c20_26_s, ↓c20_25_s, ↓c20_24_s, ↓c20_23_s, ↓c20_22_s, ↓c20_20_s, ↓c20_19_s, ↓c20_18_s, ↓c20_16_s, ↓c20_33_s, ↓c20_15_s, ↓c20_14_s, ↓c20_13_s, ↓c20_12_s, ↓c20_11_s, ↓c20_5_s, ↓c20_3_s, ↓c20_2_s, ↓c20_36_s, ↓c20_35_s, ↓c20_34_s, ↓c20_1_s, ↓c20_s, ↓w3t_20, hvw, dd, g32]
   generalize hcalm : decide (M.g.ws.length = 0) = calm
   refine cloneS_spec (xs := x.ks) ((hs.frN hf1).frN hf2) hsl fun vk w3 hok hf3 hbk => ?_
   have cw3 := cur w3
   have hz3 := hf3.size
   have g33 := hf3.getN g32
   have l33 := lt_of_get _ _ g33
   obtain ⟨ka, kc, hvk⟩ := (show SlOf 1 encS w3 vk x.ks from hok.sl).form
   simp (maxSteps:=9^7)(disch:=first|assumption|(simp only[dz];first|done|assumption|omega)|omega|apply_rules[Fr.refl,Fr.alloc,Fr.drew]|rfl) only [↓gd,gp,Nat.reduceAdd,Nat.reduceEqDiff, ↓c20_7_s, ↓c20_10_s, ↓c20_9_s, ↓c20_8_s, ↓c20_6_s, ↓c20_17_s, ↓c20_21_s, ↓c20_28_s, ↓c20_31_s, ↓c20_30_s, ↓c20_29_s, ↓c20_27_s, ↓c20_32_s, ↓c20_26_s, ↓c20_25_s, ↓c20_24_s, ↓c20_23_s, ↓c20_22_s, ↓c20_20_s, ↓c20_19_s, ↓c20_18_s, ↓c20_16_s, ↓c20_33_s, ↓c20_15_s, ↓c20_14_s, ↓c20_13_s, ↓c20_12_s, ↓c20_11_s, ↓c20_5_s, ↓c20_3_s, ↓c20_2_s, ↓c20_36_s, ↓c20_35_s, ↓c20_34_s, ↓c20_1_s, ↓c20_s, ↓w3t_20, g33, hvk]
   rw [← hvk]
   generalize hW : World.setB w3 _ _ = w4
   have hf4 : Fr [w.heap.size + 1] w3 w4 := by rw [← hW]; exact fr_
   have g34 : w4.heap[w.heap.size + 1]? = some (.cells ([.int .i64 x.r.n, vk] : List Value).toArray 38 (0, 0)) := by rw [← hW]; exact get_setB_same _ _ _ l33
   clear hW
   have cw4 := cur w4
   have hz4 := hf4.size
   have hf14 : Fr [w.heap.size + 1] w1 w4 := ((Fr.refl [w.heap.size + 1] w1).trans (hf2.trans' hf3) (by simp)).trans hf4 fun y hy => .inl hy
   have h4 : NodeAt w4 a c inc M := ((h1.frN hf2).frN hf3).frA hf4 (fun g hg => by simp at hg; subst hg; exact a3)
   have g24 : w4.heap[w.heap.size]? = _ := hf14.get g2 (by simp)
   have hd4 := h4.hd
   have hm4 := h4.mm
   rw [ql] at hm4
   have hkv : ∀ b, vk.ownBlock = some b → w.heap.size ≤ b ∧ b ≠ w.heap.size + 1 := fun b hb => by have := hbk b hb; omega
   have hsk : SlOf 1 encS w4 vk x.ks := SlOf.fr (show SlOf 1 encS w3 vk x.ks from hok.sl) hf4 fun b hb y m cc q => by
    simp at hb
    subst hb
    have := own_off hok y m cc q
    exact fun e' => (hkv _ this).2 e'
   have hks : ∀ y, ka = some y → y.block < w4.heap.size ∧ y.block ∉ a.all := fun y hy => by
    have q := own_off hok y x.ks.length kc (by rw [hvk, hy])
    exact ⟨by have := hok.lt q; omega, fun hm => by have := h.lt _ hm; have := (hkv _ q).1; omega⟩
   rw [hvk] at g34 hsk
   obtain ⟨x', hx'⟩ : ∃ x' : KRec, x' = ⟨⟨x.r.n, ka, x.ks.length, kc⟩, x.ks⟩ := ⟨_, rfl⟩
   have hkx : KeyAt w4 a.all x' := by rw [hx']; exact ⟨hsk, hks, hsl⟩
   have hxe : krV x' = .agg ([.int .i64 x.r.n, .slice ka x.ks.length kc] : List Value).toArray := by rw [hx']
   simp (maxSteps:=9^7)(disch:=first|assumption|(simp only[dz];first|done|assumption|omega)|omega|apply_rules[Fr.refl,Fr.alloc,Fr.drew]|rfl) only [↓gd,gp,Nat.reduceAdd,Nat.reduceEqDiff, ↓c20_7_s, ↓c20_10_s, ↓c20_9_s, ↓c20_8_s, ↓c20_6_s, ↓c20_17_s, ↓c20_21_s, ↓c20_28_s, ↓c20_31_s, ↓c20_30_s, ↓c20_29_s, ↓c20_27_s, ↓c20_32_s, ↓c20_26_s, ↓c20_25_s, ↓c20_24_s, ↓c20_23_s, ↓c20_22_s, ↓c20_20_s, ↓c20_19_s, ↓c20_18_s, ↓c20_16_s, ↓c20_33_s, ↓c20_15_s, ↓c20_14_s, ↓c20_13_s, ↓c20_12_s, ↓c20_11_s, ↓c20_4_s, ↓c20_3_s, ↓c20_2_s, ↓c20_36_s, ↓c20_35_s, ↓c20_34_s, ↓c20_1_s, ↓c20_s, ↓w3t_20, g24, g34, hd4, hm4]
   rw [← hxe]
   have h4d := h4.frN (w' := w4.drew) fr_
   have hrn : x'.r.n = x.r.n := by rw [hx']
   have hrk : x'.ks = x.ks := by rw [hx']
   clear hxe hx'
   obtain ⟨s0, s1, s2, s3, s4, s5, s6⟩ := sub_all (a := a)
   refine putR (n := x.r.n) (v := x') h4d.gap hg fun vo w5 ho5 hb5 hf5 hG5 => ?_
   have cw5 := cur w5
   have hz5 := hf5.size
   have hf45 : Fr [a.gb, a.gm] w4 w5 := (Fr.trans' (fr_ : Fr [a.gb, a.gm] w4 w4.drew) (Fr.refl _ _ : Fr [] _ _)).trans hf5 fun y hy => .inl hy
   have hz45 := hf45.size
   have hMg : ∀ y ∈ [a.gb, a.gm], y ∈ a.all := fun y hy => by
    simp at hy
    rcases hy with rfl | rfl
    ·exact s3
    ·exact s4
   have mono : ∀ y, KeyAt w4 a.all y → KeyAt w5 a.all y := fun y hy => hy.mono hf45 (fun z hz => .inl (hMg z hz)) fun z hz => .inl hz
   obtain ⟨pm1, pm2⟩ := put_mem M.g x.r.n x'
   have hwf5 := hg.put x.r.n x'
   have hkeys : ∀ y ∈ (M.g.put x.r.n x').1.1, KeyAt w5 a.all y := fun y hy => by
    rcases pm1 y hy with rfl | ⟨p, q1, q2⟩
    ·exact mono _ hkx
    ·rw [← q2]; exact mono _ (h4.keys p q1).2
   have h5 : NodeAt w5 a c inc { M with g := (M.g.put x.r.n x').2 } := h4d.gapS hG5 hf5 fun p hp => by
    rcases pm2 p hp with q | q
    ·exact ⟨(h4.keys p q).1, mono _ (h4.keys p q).2⟩
    ·rw [q]; exact ⟨hrn, mono _ hkx⟩
   have hol : (M.g.put x.r.n x').1.1.length ≤ 1000000000 := by have := put_len M.g x.r.n x'; have := hg.len; have := hg.m; omega
   have hso : SlOf 2 encKR w5 vo (M.g.put x.r.n x').1.1 := ho5.sl
   have n2 : w.heap.size ∉ [a.gb, a.gm] := fun q => a2.1 (hMg _ q)
   have g25 := hf45.get g24 n2
   have hK' := fun (w' : World) (S' : List Nat) => hK w' S' x' hrn hrk
   rw [apply_live ql, hcalm] at hK'
   generalize hput : M.g.put x.r.n x' = pr at *
   obtain ⟨⟨out, over⟩, g'⟩ := pr
   simp only at *
   simp (maxSteps:=9^7)(disch:=first|assumption|(simp only[dz];first|done|assumption|omega)|omega|apply_rules[Fr.refl,Fr.alloc,Fr.drew]|rfl) only [↓gd,gp,Nat.reduceAdd,Nat.reduceEqDiff, ↓c20_7_s, ↓c20_10_s, ↓c20_9_s, ↓c20_8_s, ↓c20_6_s, ↓c20_17_s, ↓c20_21_s, ↓c20_28_s, ↓c20_31_s, ↓c20_30_s, ↓c20_29_s, ↓c20_27_s, ↓c20_32_s, ↓c20_26_s, ↓c20_25_s, ↓c20_24_s, ↓c20_23_s, ↓c20_22_s, ↓c20_20_s, ↓c20_19_s, ↓c20_18_s, ↓c20_16_s, ↓c20_33_s, ↓c20_15_s, ↓c20_14_s, ↓c20_13_s, ↓c20_12_s, ↓c20_5_s, ↓c20_4_s, ↓c20_3_s, ↓c20_2_s, ↓c20_36_s, ↓c20_35_s, ↓c20_34_s, ↓c20_1_s, ↓c20_s, ↓w3t_20]
   refine apply_loop (M := { M with g := g' }) (n := n) (B := B) (vo := vo) h5 hT hB hso (fun y m cc q => ?_) hkeys hol g25 a2.1 rfl rfl fun e6 w6 S6 h6 hT6 hS6 hf6 r2 r5 r7 => ?_
   ·have hq := own_off ho5 y m cc q
    exact ⟨ho5.lt hq, fun hm => by have := h4.lt _ hm; have := hb5 _ hq; rw [size_drew] at this; omega⟩
   have cw6 := cur w6
   have hz6 := hf6.size
   have hg6 : (out.foldl Mem.given { M with g := g' }).g = g' := (foldG out _).1
   have hr6 : ∀ y ∈ a.rb :: a.rr :: a.S, y ∈ a.all := fun y hy => by
    simp only [List.mem_cons] at hy
    rcases hy with rfl | rfl | q
    ·exact s5
    ·exact s6
    ·exact s0 y q
   have g26 := hf6.get g25 fun q => a2.1 (hr6 _ q)
   have hF6 : Fr a.all w w6 := ((((Fr.refl a.all w).trans hf1 (by simp)).trans hf14 fun y hy => by simp at hy; subst hy; exact .inr (by omega)).trans hf45 fun y hy => .inl (hMg y hy)).trans hf6 fun y hy => .inl (hr6 y hy)
   refine apply_end (M := out.foldl Mem.given { M with g := g' }) (n := n) (B := B) (calm := calm) (over := over) h6 hT6 hB (by rw [hg6]; exact hwf5) g26 (fun q => (hS6 _ q).elim (fun q => a2.1 (s0 _ q)) fun q => by omega) r2 r5 r7 fun w7 S7 h7 hT7 hS7 hf7 => ?_
   rw [hg6]
   refine hK' w7 S7 h7 hT7 ?_ (fun y hy => ?_) (hF6.trans hf7 fun y hy => ?_)
   ·rw [(Mem.over_g _ _).1, hg6]; exact hwf5
   ·rcases hS7 y hy with q | q
    ·exact (hS6 y q).imp id fun q => by omega
    ·exact .inr (by omega)
   ·exact (hS6 y hy).imp (s0 y) fun q => by omega
end Go.Proofs.YtomlgkecckffeaaGreat
