/- What the rows share: arguments that are only read. A nil node. NodeNone, walked. -/
import Derived.Test.YtomlgkecckffeaaGreatCI
import Derived.Test.YtomlgkecckffeaaGreatRows
import Derived.WalkKit
import Derived.ProofKit
import Derived.OpenShut
import Derived.ChangeMaps5
import Derived.ReadAgain
import Derived.Test.YtomlgkecckffeaaGreatR0
namespace Go.Proofs.YtomlgkecckffeaaGreat
open Go.ChangeShapes Go.WideShapes Go.ChangeAt Go.RowKit Go.VW
set_option linter.unusedVariables false
theorem own : ownKnob Tryz.prog.godebug = none := by kernel_rfl
theorem kids : Kids Tryz.prog (· < Tryz.prog.types.size) := kids_rows (by kernel_rfl) (by kernel_rfl)
theorem full : ∀ t e, t < Tryz.prog.types.size → Tryz.prog.underlying t = some (.slice e) → 0 < Tryz.prog.cellsOf e := slices_full_of Tryz.prog (by kernel_rfl)
theorem Fr.kept {w w' : World} (h : Fr [] w w') (may : MemPlace → Prop) : w.keptBut w' may := by
 refine ⟨h.os, h.output, fun i hi => ?_⟩
 rw [h.keepN i hi]
 cases hc : w.heap[i]? with
 | none => rfl
 | some o => cases o <;> simp
section
variable {H : Type} {enc : TypeId × Value → H} {P : Program}
theorem trodAll_carry {W W' : World} {sp : Nat → Bool} : ∀ {ts : List TypeId} {vs : List Value} {ds : List (DataW H)} {ps : List MemPlace}, DataW.TrodAll enc P W 0 sp true ts vs ds ps → (∀ p ∈ ps, W.sameAt W' p) → DataW.TrodAll enc P W' 0 sp true ts vs ds ps
 | [], [], [], _, h, _ => h
 | _ :: _, _ :: _, _ :: _, _, ⟨p, q, ⟨n, h1⟩, h2, e⟩, hs =>
   ⟨p, q, ⟨n, DataW.trod_carry n _ _ _ h1 fun x hx => hs x (by rw [e]; exact List.mem_append_left _ hx)⟩, trodAll_carry h2 (fun x hx => hs x (by rw [e]; exact List.mem_append_right _ hx)), e⟩
theorem post_fr {f : Func} {s : ChangeSpec} {apart fresh handsOn again : Bool} {W W' : World} {args : Array Value} {v : Value} {ds gs : List (DataW H)} {before pa pv : List MemPlace}
  (hW : DataW.Whole enc P f.params.toList s.vars apart W args.toList ds gs before)
  (hres : ∀ (b : Nat) (sp : Nat → Bool) (hd : Bool), DataW.TrodAll enc P W' b sp hd f.resultTypes.toList (v.resultList f.resultTypes.size) (s.fn H (ds ++ gs)).results [])
  (hargs : ∀ sp : Nat → Bool, (∀ p ∈ before, sp p.block = true) → DataW.TrodAll enc P W' 0 sp true f.params.toList args.toList (s.fn H (ds ++ gs)).args pa)
  (hvars : ∀ sp : Nat → Bool, (∀ p ∈ before, sp p.block = true) → DataW.TrodVars enc P W' sp s.vars (s.fn H (ds ++ gs)).vars pv)
  (hps : before = pa ++ pv) (hf : Fr [] W W')
  (hok : ∀ (j : Nat) (t : TypeId) (r : Value), f.resultTypes[j]? = some t → (v.resultList f.resultTypes.size)[j]? = some r → Value.okWide P W' .any 0 t r) :
  s.post enc P f apart fresh handsOn again W args v W' := by
 have hold : ∀ p ∈ before, (fun b => decide (b < W.heap.size)) p.block = true := fun p hp => by simpa using hW.lt p hp
 refine ⟨ds, gs, before, [], pa, pv, hW, hres _ _ _, hargs _ hold, hvars _ hold, World.keptBut_mono (fun p hp => ⟨hp, ?_⟩) (Fr.kept hf _), fun _ => ?_⟩
 ·rw [hps, List.mem_append] at hp
  exact Or.inr hp
 ·have hlt := hW.lt
  obtain ⟨_, _, _, _, _, hz, hn⟩ := hW
  refine ⟨hok, _, _, ([] ++ pa) ++ pv, ⟨[] ++ pa, pv, trodAll_append (hargs _ (fun _ _ => rfl)) (hres _ _ _), hvars _ (fun _ _ => rfl), rfl, ?_, ?_⟩, ?_⟩
  ·intro b off hp
   have hb : MemPlace.cell b off ∈ before := by rw [hps]; simpa using hp
   have h1 := hz b off hb
   have h2 := hlt _ hb
   unfold World.frozen? at h1 ⊢
   rw [hf.keepN b h2]; exact h1
  ·intro ha
   have := hn ha
   rw [hps] at this
   simpa using this
  ·intro p hp _
   rw [hps]
   simpa using hp
end
end Go.Proofs.YtomlgkecckffeaaGreat

set_option linter.unusedVariables false
set_option linter.unusedSimpArgs false
set_option maxRecDepth 10000
namespace Go.Proofs.YtomlgkecckffeaaGreat
open Go.VW
variable {w : World} {K : Value → World → Prop}
theorem squeeze_nil (hK : ∀ w', Fr [] w w' → K (.tuple ([.agg (encEnt entZ).toArray, .bool false] : List Value).toArray) w') : CallsN Tryz.prog 29 [.pointer none] w K := by
 have cw := cur w
 unfold encEnt at hK
 refine call29 ?_
 simp (maxSteps:=9^7)(disch:=first|assumption|(simp only[dz];first|done|assumption|omega)|omega|apply_rules[Fr.refl,Fr.alloc,Fr.drew]|rfl) only [↓gd,gp,Nat.reduceAdd,Nat.reduceEqDiff, ↓hk29]
 generalize hW : World.alloc _ _ = w1
 have hf1 : Fr [] w w1 := by rw [← hW]; (repeat first|exact Fr.refl _ _|assumption|with_reducible first|apply Fr.alloc|apply Fr.drew|refine Fr.setB ?_ _ _ (.inr (by first|omega|(simp only[gz];omega)))|refine Fr.setB ?_ _ _ (.inl (by first|assumption|simp))|refine Fr.trans' ?_ (by assumption))
 have g1 : w1.heap[w.heap.size]? = some (.cells (encEnt entZ).toArray 52 (0, 0)) := by rw [← hW]; exact get_alloc_new _ _
 clear hW
 have cw1 := cur w1
 have l1 := lt_of_get _ _ g1
 unfold encEnt at g1
 refine up_nil ?_
 simp (maxSteps:=9^7)(disch:=first|assumption|(simp only[dz];first|done|assumption|omega)|omega|apply_rules[Fr.refl,Fr.alloc,Fr.drew]|rfl) only [↓gd,gp,Nat.reduceAdd,Nat.reduceEqDiff, ↓hk29, g1]
 exact hK _ (hf1.trans (M' := [w.heap.size]) (by (repeat first|exact Fr.refl _ _|assumption|with_reducible first|apply Fr.alloc|apply Fr.drew|refine Fr.setB ?_ _ _ (.inr (by first|omega|(simp only[gz];omega)))|refine Fr.setB ?_ _ _ (.inl (by first|assumption|simp))|refine Fr.trans' ?_ (by assumption))) fun y hy => by simp at hy; omega)
theorem wants_nil (hK : K (.tuple ([.bool false, .int .i64 0, .bool false] : List Value).toArray) w) : CallsN Tryz.prog 39 [.pointer none] w K := by
 have cw := cur w
 refine call39 ?_
 simp (maxSteps:=9^7)(disch:=first|assumption|(simp only[dz];first|done|assumption|omega)|omega|apply_rules[Fr.refl,Fr.alloc,Fr.drew]|rfl) only [↓gd,gp,Nat.reduceAdd,Nat.reduceEqDiff, ↓hk39]
 refine up_nil ?_
 simp (maxSteps:=9^7)(disch:=first|assumption|(simp only[dz];first|done|assumption|omega)|omega|apply_rules[Fr.refl,Fr.alloc,Fr.drew]|rfl) only [↓gd,gp,Nat.reduceAdd,Nat.reduceEqDiff, ↓hk39]
 exact hK
theorem view_nil (hK : ∀ w', Fr [] w w' → K (.agg ([.bool false, .bool false, .int .i64 0, .int .i64 0, .int .i64 0, .slice none 0 0, .int .i64 0, .slice none 0 0] : List Value).toArray) w') : CallsN Tryz.prog 23 [.pointer none] w K := by
 have cw := cur w
 refine call23 ?_
 simp (maxSteps:=9^7)(disch:=first|assumption|(simp only[dz];first|done|assumption|omega)|omega|apply_rules[Fr.refl,Fr.alloc,Fr.drew]|rfl) only [↓gd,gp,Nat.reduceAdd,Nat.reduceEqDiff, ↓hk23]
 exact hK _ (by (repeat first|exact Fr.refl _ _|assumption|with_reducible first|apply Fr.alloc|apply Fr.drew|refine Fr.setB ?_ _ _ (.inr (by first|omega|(simp only[gz];omega)))|refine Fr.setB ?_ _ _ (.inl (by first|assumption|simp))|refine Fr.trans' ?_ (by assumption)))
theorem start_nil {i n : Int} (hK : K (.bool false) w) : CallsN Tryz.prog 27 [.pointer none, .int .i64 i, .int .i64 n] w K := by
 have cw := cur w
 refine call27 ?_
 simp (maxSteps:=9^7)(disch:=first|assumption|(simp only[dz];first|done|assumption|omega)|omega|apply_rules[Fr.refl,Fr.alloc,Fr.drew]|rfl) only [↓gd,gp,Nat.reduceAdd,Nat.reduceEqDiff, ↓hk27]
 refine up_nil ?_
 simp (maxSteps:=9^7)(disch:=first|assumption|(simp only[dz];first|done|assumption|omega)|omega|apply_rules[Fr.refl,Fr.alloc,Fr.drew]|rfl) only [↓gd,gp,Nat.reduceAdd,Nat.reduceEqDiff, ↓hk27]
 exact hK
theorem crash_nil (hK : K (.bool false) w) : CallsN Tryz.prog 40 [.pointer none] w K := by
 have cw := cur w
 refine call40 ?_
 simp (maxSteps:=9^7)(disch:=first|assumption|(simp only[dz];first|done|assumption|omega)|omega|apply_rules[Fr.refl,Fr.alloc,Fr.drew]|rfl) only [↓gd,gp,Nat.reduceAdd,Nat.reduceEqDiff, ↓hk40]
 refine up_nil ?_
 simp (maxSteps:=9^7)(disch:=first|assumption|(simp only[dz];first|done|assumption|omega)|omega|apply_rules[Fr.refl,Fr.alloc,Fr.drew]|rfl) only [↓gd,gp,Nat.reduceAdd,Nat.reduceEqDiff, ↓hk40]
 exact hK
theorem restart_nil (hK : K (.bool false) w) : CallsN Tryz.prog 41 [.pointer none] w K := by
 have cw := cur w
 refine call41 ?_
 simp (maxSteps:=9^7)(disch:=first|assumption|(simp only[dz];first|done|assumption|omega)|omega|apply_rules[Fr.refl,Fr.alloc,Fr.drew]|rfl) only [↓gd,gp,Nat.reduceAdd,Nat.reduceEqDiff, ↓hk41]
 exact hK
theorem clone_nil (hK : K (.pointer none) w) : CallsN Tryz.prog 33 [.pointer none] w K := by
 have cw := cur w
 refine call33 ?_
 simp (maxSteps:=9^7)(disch:=first|assumption|(simp only[dz];first|done|assumption|omega)|omega|apply_rules[Fr.refl,Fr.alloc,Fr.drew]|rfl) only [↓gd,gp,Nat.reduceAdd,Nat.reduceEqDiff, ↓hk33]
 exact hK
theorem coNew_nil (hK : ∀ b w', Fr [] w w' → w.heap.size ≤ b → w'.heap[b]? = some (.cells ([.slice none 0 0] : List Value).toArray 212 (0, 0)) → K (.pointer (some ⟨b, 0, none⟩)) w') : CallsN Tryz.prog 100 [.slice none 0 0] w K := by
 have cw := cur w
 refine call100 ?_
 simp (maxSteps:=9^7)(disch:=first|assumption|(simp only[dz];first|done|assumption|omega)|omega|apply_rules[Fr.refl,Fr.alloc,Fr.drew]|rfl) only [↓gd,gp,Nat.reduceAdd,Nat.reduceEqDiff, ↓hk100]
 generalize hW : World.alloc w _ = w1
 have hf1 : Fr [] w w1 := by rw [← hW]; (repeat first|exact Fr.refl _ _|assumption|with_reducible first|apply Fr.alloc|apply Fr.drew|refine Fr.setB ?_ _ _ (.inr (by first|omega|(simp only[gz];omega)))|refine Fr.setB ?_ _ _ (.inl (by first|assumption|simp))|refine Fr.trans' ?_ (by assumption))
 have g1 : w1.heap[w.heap.size]? = some (.cells ([.slice none 0 0] : List Value).toArray 212 (0, 0)) := by rw [← hW]; exact get_alloc_new _ _
 clear hW
 have cw1 := cur w1
 refine for_intro 0 10 0 (fun i e w' => e 3 = .pointer (some ⟨w.heap.size, 0, none⟩) ∧ e 9 = .int .i64 0 ∧ w' = w1) ?_ (Nat.le_refl _) ?_ ?_
 ·simp (maxSteps:=9^7)(disch:=first|assumption|(simp only[dz];first|done|assumption|omega)|omega|apply_rules[Fr.refl,Fr.alloc,Fr.drew]|rfl) only [↓gsd,gs,gv,Nat.reduceAdd,Nat.reduceEqDiff, Int.natCast_zero]
 ·simp (maxSteps:=9^7)(disch:=first|assumption|(simp only[dz];first|done|assumption|omega)|omega|apply_rules[Fr.refl,Fr.alloc,Fr.drew]|rfl) only [↓gsd,gs,gv,Nat.reduceAdd,Nat.reduceEqDiff, Int.natCast_zero]
 rintro i e w2 kk hi eS ⟨e3, e9, rfl⟩ hkk
 have cw2 := cur w2
 have d1 : decide ((i : Int) < 0) = false := decide_eq_false (by omega)
 simp (maxSteps:=9^7)(disch:=first|assumption|(simp only[dz];first|done|assumption|omega)|omega|apply_rules[Fr.refl,Fr.alloc,Fr.drew]|rfl) only [↓gd,gp,Nat.reduceAdd,Nat.reduceEqDiff, ↓hk100, e3, e9, eS, d1]
 exact hK _ _ hf1 (Nat.le_refl _) g1
theorem coLen_spec {b l c : Nat} {a : Option Addr} (h : w.heap[b]? = some (.cells ([.slice a l c] : List Value).toArray 212 (0, 0))) (hK : K (.int .i64 l) w) : CallsN Tryz.prog 42 [.pointer (some ⟨b, 0, none⟩)] w K := by
 have cw := cur w
 refine call42 ?_
 simp (maxSteps:=9^7)(disch:=first|assumption|(simp only[dz];first|done|assumption|omega)|omega|apply_rules[Fr.refl,Fr.alloc,Fr.drew]|rfl) only [↓gd,gp,Nat.reduceAdd,Nat.reduceEqDiff, ↓hk42]
 refine call105 ?_
 simp (maxSteps:=9^7)(disch:=first|assumption|(simp only[dz];first|done|assumption|omega)|omega|apply_rules[Fr.refl,Fr.alloc,Fr.drew]|rfl) only [↓gd,gp,Nat.reduceAdd,Nat.reduceEqDiff, ↓hk105, ↓hk42, h]
 exact hK
theorem known_nil {k : ByteArray} (hK : ∀ b w', Fr [] w w' → w.heap.size ≤ b → w'.heap[b]? = some (.cells ([.slice none 0 0] : List Value).toArray 212 (0, 0)) → K (.pointer (some ⟨b, 0, none⟩)) w') : CallsN Tryz.prog 37 [.pointer none, .string k] w K := by
 have cw := cur w
 refine call37 ?_
 simp (maxSteps:=9^7)(disch:=first|assumption|(simp only[dz];first|done|assumption|omega)|omega|apply_rules[Fr.refl,Fr.alloc,Fr.drew]|rfl) only [↓gd,gp,Nat.reduceAdd,Nat.reduceEqDiff, ↓hk37]
 refine coNew_nil fun b w1 hf1 hb hg => ?_
 have cw1 := cur w1
 simp (maxSteps:=9^7)(disch:=first|assumption|(simp only[dz];first|done|assumption|omega)|omega|apply_rules[Fr.refl,Fr.alloc,Fr.drew]|rfl) only [↓gd,gp,Nat.reduceAdd,Nat.reduceEqDiff, ↓hk37]
 refine up_nil ?_
 simp (maxSteps:=9^7)(disch:=first|assumption|(simp only[dz];first|done|assumption|omega)|omega|apply_rules[Fr.refl,Fr.alloc,Fr.drew]|rfl) only [↓gd,gp,Nat.reduceAdd,Nat.reduceEqDiff, ↓hk37]
 exact hK b _ hf1 hb hg
end Go.Proofs.YtomlgkecckffeaaGreat

set_option linter.unusedVariables false
set_option linter.unusedSimpArgs false
set_option maxRecDepth 10000
namespace Go.Proofs.YtomlgkecckffeaaGreat
open Go.VW
set_option maxHeartbeats 32000000 in
theorem none_spec {o : Op12} {w : World} {K : Value → World → Prop} (hK : ∀ w', Fr [] w w' → K (.bool true) w') : CallsN Tryz.prog 13 [.agg (encOp12 o).toArray] w K := by
 have cw := cur w
 refine call13 ?_
 unfold encOp12
 simp (maxSteps:=9^7)(disch:=first|assumption|(simp only[dz];first|done|assumption|omega)|omega|apply_rules[Fr.refl,Fr.alloc,Fr.drew]|rfl) only [↓gd,gp,Nat.reduceAdd,Nat.reduceEqDiff, ↓hk13]
 generalize hW : World.alloc w _ = w1
 have hf1 : Fr [] w w1 := by rw [← hW]; (repeat first|exact Fr.refl _ _|assumption|with_reducible first|apply Fr.alloc|apply Fr.drew|refine Fr.setB ?_ _ _ (.inr (by first|omega|(simp only[gz];omega)))|refine Fr.setB ?_ _ _ (.inl (by first|assumption|simp))|refine Fr.trans' ?_ (by assumption))
 have hz1 : w1.heap.size = w.heap.size + 1 := by rw [← hW]; simp only [gz]
 have g1 : w1.heap[w.heap.size]? = some (.cells (encOp12 o).toArray 50 (0, 0)) := by rw [← hW]; exact get_alloc_new _ _
 clear hW
 have cw1 := cur w1
 refine fixed_spec fun w2 hf2 => ?_
 have cw2 := cur w2
 have hz2 := hf2.size
 have g2 := hf2.getN g1
 have k2 := lt_of_get _ _ g2
 unfold encOp12 at g2
 simp (maxSteps:=9^7)(disch:=first|assumption|(simp only[dz];first|done|assumption|omega)|omega|apply_rules[Fr.refl,Fr.alloc,Fr.drew]|rfl) only [↓gd,gp,Nat.reduceAdd,Nat.reduceEqDiff, ↓hk13, g2]
 refine look_nil fun w3 hf3 => ?_
 have cw3 := cur w3
 have hz3 := hf3.size
 have g3 := hf3.getN g2
 have k3 := lt_of_get _ _ g3
 unfold lookV
 simp (maxSteps:=9^7)(disch:=first|assumption|(simp only[dz];first|done|assumption|omega)|omega|apply_rules[Fr.refl,Fr.alloc,Fr.drew]|rfl) only [↓gd,gp,Nat.reduceAdd,Nat.reduceEqDiff, ↓c13_8_s, ↓c13_7_s, ↓c13_6_s, ↓c13_5_s, ↓c13_3_s, ↓c13_2_s, ↓c13_11_s, ↓c13_10_s, ↓c13_9_s, ↓c13_1_s, ↓c13_s, ↓w3t_13]
 generalize hW : World.setB _ _ _ = w4
 have hf4 : Fr [] w3 w4 := by rw [← hW]; (repeat first|exact Fr.refl _ _|assumption|with_reducible first|apply Fr.alloc|apply Fr.drew|refine Fr.setB ?_ _ _ (.inr (by first|omega|(simp only[gz];omega)))|refine Fr.setB ?_ _ _ (.inl (by first|assumption|simp))|refine Fr.trans' ?_ (by assumption))
 have x4 : w4.heap[w3.heap.size]? = some (.cells ([.bool false, .string ⟨#[]⟩] : List Value).toArray 31 (0, 0)) := by rw [← hW]; simp (maxSteps:=9^7)(disch:=first|assumption|(simp only[dz];first|done|assumption|omega)|omega|apply_rules[Fr.refl,Fr.alloc,Fr.drew]|rfl) only [↓gsd,gs,gv,Nat.reduceAdd,Nat.reduceEqDiff]
 have x5 : w4.heap[w3.heap.size + 1]? = some (.cells ([.int .i64 0, .int .i64 0] : List Value).toArray 48 (0, 0)) := by rw [← hW]; simp (maxSteps:=9^7)(disch:=first|assumption|(simp only[dz];first|done|assumption|omega)|omega|apply_rules[Fr.refl,Fr.alloc,Fr.drew]|rfl) only [↓gsd,gs,gv,Nat.reduceAdd,Nat.reduceEqDiff]
 clear hW
 have cw4 := cur w4
 have hz4 := hf4.size
 have g4 := hf4.getN g3
 simp (maxSteps:=9^7)(disch:=first|assumption|(simp only[dz];first|done|assumption|omega)|omega|apply_rules[Fr.refl,Fr.alloc,Fr.drew]|rfl) only [↓gd,gp,Nat.reduceAdd,Nat.reduceEqDiff, ↓hk13]
 refine squeeze_nil fun w5 hf5 => ?_
 have cw5 := cur w5
 have hz5 := hf5.size
 unfold encEnt
 simp (maxSteps:=9^7)(disch:=first|assumption|(simp only[dz];first|done|assumption|omega)|omega|apply_rules[Fr.refl,Fr.alloc,Fr.drew]|rfl) only [↓gd,gp,Nat.reduceAdd,Nat.reduceEqDiff, ↓c13_8_s, ↓c13_7_s, ↓c13_6_s, ↓c13_4_s, ↓c13_3_s, ↓c13_2_s, ↓c13_11_s, ↓c13_10_s, ↓c13_9_s, ↓c13_1_s, ↓c13_s, ↓w3t_13]
 generalize hW : World.alloc w5 _ = w6
 have hf6 : Fr [] w5 w6 := by rw [← hW]; (repeat first|exact Fr.refl _ _|assumption|with_reducible first|apply Fr.alloc|apply Fr.drew|refine Fr.setB ?_ _ _ (.inr (by first|omega|(simp only[gz];omega)))|refine Fr.setB ?_ _ _ (.inl (by first|assumption|simp))|refine Fr.trans' ?_ (by assumption))
 have x7 : w6.heap[w5.heap.size]? = some (.cells (encEnt entZ).toArray 52 (0, 0)) := by rw [← hW]; exact get_alloc_new _ _
 clear hW
 have cw6 := cur w6
 have hz6 := hf6.size
 simp (maxSteps:=9^7)(disch:=first|assumption|(simp only[dz];first|done|assumption|omega)|omega|apply_rules[Fr.refl,Fr.alloc,Fr.drew]|rfl) only [↓gd,gp,Nat.reduceAdd,Nat.reduceEqDiff, ↓hk13]
 refine wants_nil ?_
 simp (maxSteps:=9^7)(disch:=first|assumption|(simp only[dz];first|done|assumption|omega)|omega|apply_rules[Fr.refl,Fr.alloc,Fr.drew]|rfl) only [↓gd,gp,Nat.reduceAdd,Nat.reduceEqDiff, ↓hk13]
 refine view_nil fun w7 hf7 => ?_
 have cw7 := cur w7
 have hz7 := hf7.size
 simp (maxSteps:=9^7)(disch:=first|assumption|(simp only[dz];first|done|assumption|omega)|omega|apply_rules[Fr.refl,Fr.alloc,Fr.drew]|rfl) only [↓gd,gp,Nat.reduceAdd,Nat.reduceEqDiff, ↓c13_8_s, ↓c13_6_s, ↓c13_5_s, ↓c13_4_s, ↓c13_3_s, ↓c13_2_s, ↓c13_11_s, ↓c13_10_s, ↓c13_9_s, ↓c13_1_s, ↓c13_s, ↓w3t_13]
 generalize hW : World.alloc w7 _ = w8
 have hf8 : Fr [] w7 w8 := by rw [← hW]; (repeat first|exact Fr.refl _ _|assumption|with_reducible first|apply Fr.alloc|apply Fr.drew|refine Fr.setB ?_ _ _ (.inr (by first|omega|(simp only[gz];omega)))|refine Fr.setB ?_ _ _ (.inl (by first|assumption|simp))|refine Fr.trans' ?_ (by assumption))
 have x12 : w8.heap[w7.heap.size]? = some (.cells ([.bool false, .bool false, .int .i64 0, .int .i64 0, .int .i64 0, .slice none 0 0, .int .i64 0, .slice none 0 0] : List Value).toArray 43 (0, 0)) := by rw [← hW]; exact get_alloc_new _ _
 clear hW
 have cw8 := cur w8
 have hz8 := hf8.size
 have hf48 := ((hf5.trans' hf6).trans' hf7).trans' hf8
 have g8 := hf48.getN g4
 have k8 := lt_of_get _ _ g8
 simp (maxSteps:=9^7)(disch:=first|assumption|(simp only[dz];first|done|assumption|omega)|omega|apply_rules[Fr.refl,Fr.alloc,Fr.drew]|rfl) only [↓gd,gp,Nat.reduceAdd,Nat.reduceEqDiff, ↓hk13, g8]
 refine known_nil fun b w9 hf9 hb hgb => ?_
 have cw9 := cur w9
 have hz9 := hf9.size
 have hf49 := hf48.trans' hf9
 have g9 := hf49.getN g4
 have y4 := hf49.getN x4
 have y5 := hf49.getN x5
 have y7 := ((hf7.trans' hf8).trans' hf9).getN x7
 have y12 := hf9.getN x12
 have k9 := lt_of_get _ _ g9
 have ke : (decide (false = false) && (decide ((⟨#[]⟩ : ByteArray) = ⟨#[]⟩) && true)) = true := by decide
 have kp : (decide ((0 : Int) = 0) && (decide ((0 : Int) = 0) && true)) = true := by decide
 have kE : eqEB entZ entZ = true := eqEB_iff.2 rfl
 have hE := fun x y w => ent_eq x y w entZ entZ
 rw [kE] at hE
 unfold encEnt at hE y7
 have d0 : decide ((0 : Int) = 0) = true := by decide
 simp (maxSteps:=9^7)(disch:=first|assumption|(simp only[dz];first|done|assumption|omega)|omega|apply_rules[Fr.refl,Fr.alloc,Fr.drew]|rfl) only [↓gd,gp,Nat.reduceAdd,Nat.reduceEqDiff, ↓hk13, g9, y4, y5, y7, y12, val_eq, pin_eq, hE, ke, kp, d0]
 have F9 : Fr [] w w9 := (((hf1.trans' hf2).trans' hf3).trans' hf4).trans' hf49
 refine fill_nil (f := o.f) fun wA hfA => ?_
 have cwA := cur wA
 have gA := hfA.getN g9
 simp (maxSteps:=9^7)(disch:=first|assumption|(simp only[dz];first|done|assumption|omega)|omega|apply_rules[Fr.refl,Fr.alloc,Fr.drew]|rfl) only [↓gd,gp,Nat.reduceAdd,Nat.reduceEqDiff, ↓hk13, gA]
 refine apply_nil (r := ⟨o.n, o.ka, o.kl, o.kc⟩) fun wB hfB => ?_
 have cwB := cur wB
 have gB := hfB.getN gA
 have y12B := (hfA.trans' hfB).getN y12
 have hgB := (hfA.trans' hfB).getN hgb
 simp (maxSteps:=9^7)(disch:=first|assumption|(simp only[dz];first|done|assumption|omega)|omega|apply_rules[Fr.refl,Fr.alloc,Fr.drew]|rfl) only [↓gd,gp,Nat.reduceAdd,Nat.reduceEqDiff, ↓hk13, gB]
 refine start_nil ?_
 simp (maxSteps:=9^7)(disch:=first|assumption|(simp only[dz];first|done|assumption|omega)|omega|apply_rules[Fr.refl,Fr.alloc,Fr.drew]|rfl) only [↓gd,gp,Nat.reduceAdd,Nat.reduceEqDiff, ↓hk13]
 refine crash_nil ?_
 simp (maxSteps:=9^7)(disch:=first|assumption|(simp only[dz];first|done|assumption|omega)|omega|apply_rules[Fr.refl,Fr.alloc,Fr.drew]|rfl) only [↓gd,gp,Nat.reduceAdd,Nat.reduceEqDiff, ↓hk13]
 refine restart_nil ?_
 simp (maxSteps:=9^7)(disch:=first|assumption|(simp only[dz];first|done|assumption|omega)|omega|apply_rules[Fr.refl,Fr.alloc,Fr.drew]|rfl) only [↓gd,gp,Nat.reduceAdd,Nat.reduceEqDiff, ↓hk13, y12B, d0, Int.natCast_zero]
 refine coLen_spec hgB ?_
 simp (maxSteps:=9^7)(disch:=first|assumption|(simp only[dz];first|done|assumption|omega)|omega|apply_rules[Fr.refl,Fr.alloc,Fr.drew]|rfl) only [↓gd,gp,Nat.reduceAdd,Nat.reduceEqDiff, ↓hk13, d0, Int.natCast_zero]
 refine clone_nil ?_
 simp (maxSteps:=9^7)(disch:=first|assumption|(simp only[dz];first|done|assumption|omega)|omega|apply_rules[Fr.refl,Fr.alloc,Fr.drew]|rfl) only [↓gd,gp,Nat.reduceAdd,Nat.reduceEqDiff, ↓hk13]
 exact hK _ ((F9.trans' hfA).trans' hfB)
end Go.Proofs.YtomlgkecckffeaaGreat
