/- OriginOnce: the three stores. -/
import Derived.Test.YtgloomahpjpiiaaOU
set_option linter.unusedVariables false
set_option linter.unusedSimpArgs false
set_option maxRecDepth 10000
namespace Go.Proofs.Ytgloomahpjpiiaa.Or
open Go.VW
set_option maxHeartbeats 16000000 in
theorem once_store {w : World} {b6 b7 b8 bo oo co n : Nat} {ob : Obj} {sn : List Bool} {ns es : List Int} {k : Nat} {vn ve : Int} {e : Env} {Q : Exit → Env → World → Prop}
    (h6 : VW.Own 1 4 w (sl64 b6) 64 (cellsOf encB sn)) (h7 : VW.Own 1 2 w (sl64 b7) 64 (cellsOf encI ns)) (h8 : VW.Own 1 36 w (sl64 b8) 64 (cellsOf encI es)) (l6 : sn.length = 64) (l7 : ns.length = 64) (l8 : es.length = 64) (hk : k < 64)
    (d67 : b6 ≠ b7) (d68 : b6 ≠ b8) (d78 : b7 ≠ b8) (o6 : bo ≠ b6) (o7 : bo ≠ b7) (ho : w.heap[bo]? = some ob) (hn : 0 < n) (rn : ∀ orig K, ldV orig (some ob) (oo + 11 + 2) K = K (.int .i64 vn)) (re : ∀ orig K, ldV orig (some ob) (oo + 12) K = K (.int .i64 ve))
    (e6 : e 6 = sl64 b6) (e7 : e 7 = sl64 b7) (e8 : e 8 = sl64 b8) (e11 : e 11 = .int .i64 k) (e13 : e 13 = .slice (some ⟨bo, oo, none⟩) n co)
    (hK : ∀ e' w', (e' 0 = e 0 ∧ e' 1 = e 1 ∧ e' 5 = e 5 ∧ e' 6 = e 6 ∧ e' 7 = e 7 ∧ e' 8 = e 8 ∧ e' 9 = e 9 ∧ e' 10 = e 10) → VW.Own 1 4 w' (sl64 b6) 64 (cellsOf encB (sn.set k true)) → VW.Own 1 2 w' (sl64 b7) 64 (cellsOf encI (ns.set k vn)) → VW.Own 1 36 w' (sl64 b8) 64 (cellsOf encI (es.set k ve)) → Fr [b6, b7, b8] w w' → Q .normal e' w') :
    W3 Try.prog 189 V3 c3_23 Q e w := by
  have cw := cur w
  have k0 : (0 : Int) ≤ (k : Int) := by omega
  have k1 : (k : Int) < ((64 : Nat) : Int) := by omega
  have n0 : (0 : Int) < (n : Int) := by omega
  obtain ⟨x6, y6, hx6, lt6, st6, own6⟩ := own_storeN encB_len (fun _ => rfl) h6 l6 hk true
  have st6' : ∀ orig K, stV orig 1 (some x6) k [.bool true] K = K y6 := fun orig K => by have := st6 orig K; rwa [Nat.mul_one] at this
  simp (maxSteps:=4000000)(disch:=first|assumption|(simp only[dz,Value.cells,oneC];first|done|assumption|omega)|omega|(repeat(first|assumption|exact Fr.refl _ _|with_reducible apply Fr.alloc|with_reducible apply Fr.drew);done)|rfl) only [↓gsd, gs, ev, Nat.reduceAdd, Nat.reduceEqDiff, oneC, Value.cells, Option.isNone, gt, ↓stays_f, ↓stays_fr, stays_xv, true_or, or_true, frT_self, frT_drew, frT_drew0, frT_alloc, ↓c3_9_s, ↓c3_15_s, ↓c3_25_s, ↓c3_23_s, ↓c3_31_s, ↓c3_30_s, ↓c3_29_s, ↓c3_28_s, ↓c3_27_s, ↓c3_26_s, ↓c3_22_s, ↓c3_34_s, ↓c3_33_s, ↓c3_32_s, ↓c3_21_s, ↓c3_40_s, ↓c3_39_s, ↓c3_38_s, ↓c3_37_s, ↓c3_36_s, ↓c3_35_s, ↓c3_20_s, ↓c3_19_s, ↓c3_18_s, ↓c3_17_s, ↓c3_16_s, ↓c3_14_s, ↓c3_42_s, ↓c3_41_s, ↓c3_13_s, ↓c3_12_s, ↓c3_11_s, ↓c3_10_s, ↓c3_8_s, ↓c3_7_s, ↓c3_6_s, ↓c3_5_s, ↓c3_4_s, ↓c3_45_s, ↓c3_44_s, ↓c3_43_s, ↓c3_3_s, ↓c3_2_s, ↓c3_48_s, ↓c3_47_s, ↓c3_46_s, ↓c3_1_s, ↓c3_s, ↓w3t_3, e6, e7, e8, e11, e13, k0, k1, Int.toNat_natCast, Nat.mul_one, hx6, st6', Nat.zero_add]
  generalize hW : World.setB w b6 y6 = w1
  rw [hW] at own6
  have hf1 : Fr [b6] w w1 := by rw [← hW]; exact Fr.setB (Fr.refl _ _) _ _ (.inl (by simp))
  clear hW
  have cw1 := cur w1
  have ho1 := hf1.get ho (by simpa using o6)
  have h71 := own_other h7 hf1 (Ne.symm d67)
  obtain ⟨x7, y7, hx7, lt7, st7, own7⟩ := own_storeN encI_len (fun _ => rfl) h71 l7 hk vn
  have st7' : ∀ orig K, stV orig 1 (some x7) k [.int .i64 vn] K = K y7 := fun orig K => by have := st7 orig K; rwa [Nat.mul_one] at this
  have i0 : (0 : Int) ≤ 0 := by decide
  have t0 : (0 : Int).toNat = 0 := rfl
  simp (maxSteps:=4000000)(disch:=first|assumption|(simp only[dz,Value.cells,oneC];first|done|assumption|omega)|omega|(repeat(first|assumption|exact Fr.refl _ _|with_reducible apply Fr.alloc|with_reducible apply Fr.drew);done)|rfl) only [↓gsd, gs, ev, Nat.reduceAdd, Nat.reduceEqDiff, oneC, Value.cells, Option.isNone, gt, ↓stays_f, ↓stays_fr, stays_xv, true_or, or_true, frT_self, frT_drew, frT_drew0, frT_alloc, ↓c3_9_s, ↓c3_15_s, ↓c3_24_s, ↓c3_23_s, ↓c3_31_s, ↓c3_30_s, ↓c3_29_s, ↓c3_28_s, ↓c3_27_s, ↓c3_26_s, ↓c3_22_s, ↓c3_34_s, ↓c3_33_s, ↓c3_32_s, ↓c3_21_s, ↓c3_40_s, ↓c3_39_s, ↓c3_38_s, ↓c3_37_s, ↓c3_36_s, ↓c3_35_s, ↓c3_20_s, ↓c3_19_s, ↓c3_18_s, ↓c3_17_s, ↓c3_16_s, ↓c3_14_s, ↓c3_42_s, ↓c3_41_s, ↓c3_13_s, ↓c3_12_s, ↓c3_11_s, ↓c3_10_s, ↓c3_8_s, ↓c3_7_s, ↓c3_6_s, ↓c3_5_s, ↓c3_4_s, ↓c3_45_s, ↓c3_44_s, ↓c3_43_s, ↓c3_3_s, ↓c3_2_s, ↓c3_48_s, ↓c3_47_s, ↓c3_46_s, ↓c3_1_s, ↓c3_s, ↓w3t_3, e6, e7, e8, e11, e13, k0, k1, n0, i0, t0, Nat.zero_mul, Nat.add_zero, Int.toNat_natCast, Nat.mul_one, hx7, ho1, rn, st7', Nat.zero_add]
  generalize hW : World.setB w1 b7 y7 = w2
  rw [hW] at own7
  have hf2 : Fr [b7] w1 w2 := by rw [← hW]; exact Fr.setB (Fr.refl _ _) _ _ (.inl (by simp))
  clear hW
  have cw2 := cur w2
  have ho2 := hf2.get ho1 (by simpa using o7)
  have h82 := own_other (own_other h8 hf1 (Ne.symm d68)) hf2 (Ne.symm d78)
  obtain ⟨x8, y8, hx8, lt8, st8, own8⟩ := own_storeN encI_len (fun _ => rfl) h82 l8 hk ve
  have st8' : ∀ orig K, stV orig 1 (some x8) k [.int .i64 ve] K = K y8 := fun orig K => by have := st8 orig K; rwa [Nat.mul_one] at this
  simp (maxSteps:=4000000)(disch:=first|assumption|(simp only[dz,Value.cells,oneC];first|done|assumption|omega)|omega|(repeat(first|assumption|exact Fr.refl _ _|with_reducible apply Fr.alloc|with_reducible apply Fr.drew);done)|rfl) only [↓gsd, gs, ev, Nat.reduceAdd, Nat.reduceEqDiff, oneC, Value.cells, Option.isNone, gt, ↓stays_f, ↓stays_fr, stays_xv, true_or, or_true, frT_self, frT_drew, frT_drew0, frT_alloc, ↓hk3, e6, e7, e8, e11, e13, k0, k1, n0, i0, t0, Nat.zero_mul, Nat.add_zero, Int.toNat_natCast, Nat.mul_one, hx8, ho2, re, st8', Nat.zero_add]
  generalize hW : World.setB w2 b8 y8 = w3
  rw [hW] at own8
  have hf3 : Fr [b8] w2 w3 := by rw [← hW]; exact Fr.setB (Fr.refl _ _) _ _ (.inl (by simp))
  clear hW
  refine hK _ _ ?_ (own_other (own_other own6 hf2 d67) hf3 d68) (own_other own7 hf3 d78) own8 (((hf1.mono (by simp)).trans hf2 (by simp)).trans hf3 (by simp))
  simp (maxSteps:=4000000)(disch:=first|assumption|(simp only[dz,Value.cells,oneC];first|done|assumption|omega)|omega|(repeat(first|assumption|exact Fr.refl _ _|with_reducible apply Fr.alloc|with_reducible apply Fr.drew);done)|rfl) only [↓gsd, gs, ev, Nat.reduceAdd, Nat.reduceEqDiff, oneC, Value.cells, Option.isNone, e6, e7, e8]
end Go.Proofs.Ytgloomahpjpiiaa.Or
