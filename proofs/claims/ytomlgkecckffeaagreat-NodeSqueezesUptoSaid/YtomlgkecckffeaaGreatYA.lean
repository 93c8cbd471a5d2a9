/- The model at the document's first example. Values, pins and entries compared. The document's first example, walked. The arguments of the node's laws, opened. The bulk of arguments. The last of a list that has a property; what a key has of a table's list. -/
import Derived.Test.YtomlgkecckffeaaGreatXA
import Derived.Test.YtomlgkecckffeaaGreatCB
import Derived.Test.YtomlgkecckffeaaGreatRows
set_option linter.unusedVariables false
set_option linter.unusedSimpArgs false
set_option maxRecDepth 10000
namespace Go.Proofs.YtomlgkecckffeaaGreat
open Go.VW
abbrev bK : ByteArray := ⟨#[107]⟩
abbrev bX : ByteArray := ⟨#[120]⟩
abbrev bJ : ByteArray := ⟨#[106]⟩
def cfgF : Cfg := ⟨1, 100, 2, 2, 2, 1, 1, 0⟩
def cF : Cfg := ⟨1, 100, 2, 2, 2, 1, 1, 0⟩
theorem cF_eq : cfgF.held = cF := by kernel_rfl
def fF : Ent := ⟨bK, true, bX, 0, openI, false, 0, 0⟩
def M0 : Mem := Mem.zero cF true 0
def eF (hi : Int) (hot : Bool) (st : Int) : Ent := ⟨bK, true, bX, 0, hi, hot, st, 1⟩
def tF (e : Ent) : Tab := ⟨[(bK, [e])], 1, 34⟩
def M1 : Mem := ⟨true, tF (eF openI false 1), ⟨0, 2, []⟩, ⟨2, [], 0, 0⟩, 1, 1⟩
theorem f1 : M0.settle fF 0 = fF := by kernel_rfl
theorem f2 : goodE fF = true := by kernel_rfl
theorem f3 : getE (M0.T.row fF.key) fF.lo = none := by kernel_rfl
theorem f4 : costE fF = 34 := by kernel_rfl
theorem f5 : M0.T.putR { fF with hot := false, stamp := wr1 M0.stamps, ins := wr1 M0.ins } = tF (eF openI false 1) := by kernel_rfl
theorem f6 : overK cF fF.key (tF (eF openI false 1)) = false := by kernel_rfl
theorem f7 : overB cF (tF (eF openI false 1)) = false := by kernel_rfl
theorem M1_eq : M0.fill cF fF 0 = (M1, true) := by
 unfold Mem.fill
 rw [f1, f2]
 rw [if_neg (by decide), if_neg (by decide)]
 unfold Mem.lay
 rw [f3, f4]
 simp only
 rw [if_neg (by decide), f5, evictF_sub f6, evictF_sub f7]
 rfl
def M2 : Mem := ⟨true, tF (eF openI false 1), ⟨1, 2, []⟩, ⟨2, [(1, bJ)], 0, 1⟩, 1, 1⟩
theorem M2_eq (x : KRec) (hn : x.r.n = 1) (hk : x.ks = [bJ]) : M1.apply 1 x = (M2, false) := by
 obtain ⟨⟨n, a, l, c⟩, ks⟩ := x
 simp only at hn hk
 subst hn; subst hk
 kernel_rfl
def M3 : Mem := ⟨true, tF (eF openI true 2), ⟨1, 2, []⟩, ⟨2, [(1, bJ)], 0, 1⟩, 2, 1⟩
theorem p3 : findE (M2.T.row bK) M2.g.at_ 1 5 = some (eF openI false 1) := by kernel_rfl
theorem p4 : M2.putS (eF openI false 1) true = M3 := by kernel_rfl

theorem M3_eq : M2.look cF bK 1 5 = (M3, some (eF openI false 1)) := by
 unfold Mem.look
 rw [p3]
 simp only
 have : M2.use cF (eF openI false 1) = M3 := by
  have hT : TI (M2.putS (eF openI false 1) true).T cF.bytes.toNat 1 := by
   have h0 := (MOK.zero cF true 0)
   have hc : CfgOK cF := by rw [← cF_eq]; exact held_ok _
   have h1 := h0.fill hc (by decide) fF 0
   have h2 : MOK cF M1 1 := by have := M1_eq; unfold M0 at this; rw [this] at h1; exact h1
   have h3 : TI M2.T cF.bytes.toNat 1 := h2.ti
   have hg : goodE (eF openI false 1) = true := by kernel_rfl
   have ha : M2.T.at (eF openI false 1).key (eF openI false 1).lo = some (eF openI false 1) := by kernel_rfl
   exact (h3.putS (by decide) hg ⟨_, ha, rfl, rfl⟩ true _).1
  have hl : (M2.putS (eF openI false 1) true).T.list.length = 1 := by
   have := sumE_list (fun _ => 1) hT.tok.nd
   rw [sumE_one] at this
   have q : sumR (fun _ => 1) (M2.putS (eF openI false 1) true).T.rows = 1 := by kernel_rfl
   exact this.trans q
  unfold Mem.use demL
  have h1 : ((oldIdx (M2.putS (eF openI false 1) true).T.list).filter (hotI (M2.putS (eF openI false 1) true).T.list)).length ≤ 1 := by
   refine Nat.le_trans (List.length_filter_le _ _) ?_
   unfold oldIdx
   rw [List.length_mergeSort, List.length_range, hl]
   exact Nat.le_refl _
  have h2 : demN cF.prot ((oldIdx (M2.putS (eF openI false 1) true).T.list).filter (hotI (M2.putS (eF openI false 1) true).T.list)).length = 0 := by
   have : cF.prot = 1 := rfl
   unfold demN
   rw [this]
   omega
  rw [h2, List.take_zero]
  exact p4
 rw [this]
def M4 : Mem := ⟨true, tF (eF 2 true 2), ⟨2, 2, []⟩, ⟨2, [(1, bJ), (2, bK)], 0, 2⟩, 2, 1⟩
theorem M4_eq (x : KRec) (hn : x.r.n = 2) (hk : x.ks = [bK]) : M3.apply 2 x = (M4, false) := by
 obtain ⟨⟨n, a, l, c⟩, ks⟩ := x
 simp only at hn hk
 subst hn; subst hk
 kernel_rfl
theorem p5 : findE (M4.T.row bK) M4.g.at_ 2 9 = none := by kernel_rfl
theorem M5_eq : M4.look cF bK 2 9 = (M4, none) := by
 unfold Mem.look
 rw [p5]
theorem eqd_val (d : Nat) (a a' : Bool) (b b' : ByteArray) (w : World) : (Op.equalIn (d + 2) 31 (.agg #[.bool a, .string b]) (.agg #[.bool a', .string b'])).run Tryz.prog w = .ok (decide (a = a') && (decide (b = b') && true)) w :=
 eqS (d := d + 1) Tryz.runUnderlying31 (by kernel_rfl) (eqF_cons (by decide) (part1 Tryz.isAgg4 rfl) (part1 Tryz.isAgg4 rfl) (eqv_bool Tryz.runUnderlying4 a a') (eqF_cons (by decide) (part1 Tryz.isAgg9 rfl) (part1 Tryz.isAgg9 rfl) (eqv_string Tryz.runUnderlying9 b b') eqF_nil)) w
theorem eqd_pin (d : Nat) (a a' b b' : Int) (w : World) : (Op.equalIn (d + 2) 48 (.agg #[.int .i64 a, .int .i64 b]) (.agg #[.int .i64 a', .int .i64 b'])).run Tryz.prog w = .ok (decide (a = a') && (decide (b = b') && true)) w :=
 eqS (d := d + 1) Tryz.runUnderlying48 (by kernel_rfl) (eqF_cons (by decide) (part1 Tryz.isAgg2 rfl) (part1 Tryz.isAgg2 rfl) (eqv_int Tryz.runUnderlying2 _ a a') (eqF_cons (by decide) (part1 Tryz.isAgg2 rfl) (part1 Tryz.isAgg2 rfl) (eqv_int Tryz.runUnderlying2 _ b b') eqF_nil)) w
theorem eqd_fact (d : Nat) (e f : Ent) (w : World) : (Op.equalIn (d + 3) 34 (.agg (encFct e).toArray) (.agg (encFct f).toArray)).run Tryz.prog w = .ok (decide (e.key = f.key) && ((decide (e.has = f.has) && (decide (e.data = f.data) && true)) && (decide (e.lo = f.lo) && (decide (e.hi = f.hi) && true)))) w := by
 unfold encFct
 exact eqS (d := d + 2) Tryz.runUnderlying34 (by kernel_rfl) (eqF_cons (by decide) (part1 Tryz.isAgg9 rfl) (part1 Tryz.isAgg9 rfl) (eqv_string Tryz.runUnderlying9 _ _) (eqF_cons (by decide) (partN (l := [.bool e.has, .string e.data]) Tryz.isAgg31 Tryz.sizeOf31 rfl) (partN (l := [.bool f.has, .string f.data]) Tryz.isAgg31 Tryz.sizeOf31 rfl) (eqd_val d e.has f.has e.data f.data) (eqF_cons (by decide) (part1 Tryz.isAgg2 rfl) (part1 Tryz.isAgg2 rfl) (eqv_int Tryz.runUnderlying2 _ _ _) (eqF_cons (by decide) (part1 Tryz.isAgg2 rfl) (part1 Tryz.isAgg2 rfl) (eqv_int Tryz.runUnderlying2 _ _ _) eqF_nil)))) w
def eqFB (e f : Ent) : Bool := decide (e.key = f.key) && ((decide (e.has = f.has) && (decide (e.data = f.data) && true)) && (decide (e.lo = f.lo) && (decide (e.hi = f.hi) && true)))
def eqEB (e f : Ent) : Bool := eqFB e f && (decide (e.hot = f.hot) && (decide (e.stamp = f.stamp) && (decide (e.ins = f.ins) && true)))
theorem eqd_ent (d : Nat) (e f : Ent) (w : World) : (Op.equalIn (d + 4) 52 (.agg (encEnt e).toArray) (.agg (encEnt f).toArray)).run Tryz.prog w = .ok (eqEB e f) w := by
 unfold encEnt
 exact eqS (d := d + 3) Tryz.runUnderlying52 (by kernel_rfl) (eqF_cons (by decide) (partN (l := encFct e) Tryz.isAgg34 Tryz.sizeOf34 rfl) (partN (l := encFct f) Tryz.isAgg34 Tryz.sizeOf34 rfl) (eqd_fact d e f) (eqF_cons (by decide) (part1 Tryz.isAgg4 rfl) (part1 Tryz.isAgg4 rfl) (eqv_bool Tryz.runUnderlying4 _ _) (eqF_cons (by decide) (part1 Tryz.isAgg2 rfl) (part1 Tryz.isAgg2 rfl) (eqv_int Tryz.runUnderlying2 _ _ _) (eqF_cons (by decide) (part1 Tryz.isAgg2 rfl) (part1 Tryz.isAgg2 rfl) (eqv_int Tryz.runUnderlying2 _ _ _) eqF_nil)))) w
theorem eqEB_iff {e f : Ent} : eqEB e f = true ↔ e = f := by
 unfold eqEB eqFB
 obtain ⟨a1, a2, a3, a4, a5, a6, a7, a8⟩ := e
 obtain ⟨b1, b2, b3, b4, b5, b6, b7, b8⟩ := f
 simp only [Bool.and_eq_true, decide_eq_true_eq, and_true, Ent.mk.injEq]
 constructor
 ·rintro ⟨⟨h1, ⟨h2, h3⟩, h4, h5⟩, h6, h7, h8⟩; exact ⟨h1, h2, h3, h4, h5, h6, h7, h8⟩
 ·rintro ⟨h1, h2, h3, h4, h5, h6, h7, h8⟩; exact ⟨⟨h1, ⟨h2, h3⟩, h4, h5⟩, h6, h7, h8⟩
section
variable (x y : Operand) (w : World)
theorem val_ne (a a' : Bool) (b b' : ByteArray) : (xbin .neq 31 x y (.agg #[.bool a, .string b]) (.agg #[.bool a', .string b'])).run Tryz.prog w = .ok (.bool !(decide (a = a') && (decide (b = b') && true))) w := neX (by kernel_rfl) (eqd_val 9998 a a' b b') x y w
theorem pin_ne (a a' b b' : Int) : (xbin .neq 48 x y (.agg #[.int .i64 a, .int .i64 b]) (.agg #[.int .i64 a', .int .i64 b'])).run Tryz.prog w = .ok (.bool !(decide (a = a') && (decide (b = b') && true))) w := neX (by kernel_rfl) (eqd_pin 9998 a a' b b') x y w
theorem ent_eq (e f : Ent) : (xbin .eql 52 x y (.agg (encEnt e).toArray) (.agg (encEnt f).toArray)).run Tryz.prog w = .ok (.bool (eqEB e f)) w := eqX (by kernel_rfl) (eqd_ent 9996 e f) x y w
theorem ent_ne (e f : Ent) : (xbin .neq 52 x y (.agg (encEnt e).toArray) (.agg (encEnt f).toArray)).run Tryz.prog w = .ok (.bool !(eqEB e f)) w := neX (by kernel_rfl) (eqd_ent 9996 e f) x y w
variable {M : Option (List Nat)} {w0 : World} (K : Value → Prop)
theorem tval_ne (a a' : Bool) (b b' : ByteArray) : takeP Tryz.prog (FrX M w0) (xv (xbin .neq 31 x y (.agg #[.bool a, .string b]) (.agg #[.bool a', .string b']))) K = K (.bool !(decide (a = a') && (decide (b = b') && true))) := takeP_xv (fun w => val_ne x y w a a' b b') K
theorem tpin_ne (a a' b b' : Int) : takeP Tryz.prog (FrX M w0) (xv (xbin .neq 48 x y (.agg #[.int .i64 a, .int .i64 b]) (.agg #[.int .i64 a', .int .i64 b']))) K = K (.bool !(decide (a = a') && (decide (b = b') && true))) := takeP_xv (fun w => pin_ne x y w a a' b b') K
end
theorem text_spec {s : ByteArray} {w : World} {K : Value → World → Prop} (hK : ∀ w', Fr [] w w' → K (.agg ([.bool true, .string s] : List Value).toArray) w') : CallsN Tryz.prog 17 [.string s] w K := by
 have cw := cur w
 refine call17 ?_
 simp (maxSteps:=9^7)(disch:=first|assumption|(simp only[dz];first|done|assumption|omega)|omega|apply_rules[Fr.refl,Fr.alloc,Fr.drew]|rfl) only [↓gd,gp,Nat.reduceAdd,Nat.reduceEqDiff, ↓hk17]
 exact hK _ fr_
theorem sl_one {w : World} {b : Nat} {s : ByteArray} {t : TypeId} (h : w.heap[b]? = some (.cells ([.string s] : List Value).toArray t (0, 0))) : SlOf 1 encS w (.slice (some ⟨b, 0, none⟩) 1 1) [s] := by
 refine ⟨rfl, .inr ⟨b, 0, 1, _, t, (0, 0), rfl, h, rfl⟩⟩
theorem cF_ok : CfgOK cF := by rw [← cF_eq]; exact held_ok _
theorem M1_ok : MOK cF M1 1 := by
 have h1 := (MOK.zero cF true 0).fill cF_ok (by decide) fF 0
 have := M1_eq
 unfold M0 at this
 rw [this] at h1
 exact h1
theorem all_ge {a : Lay} {n m : Nat} (h : ∀ y ∈ a.all, n ≤ y) {S' : List Nat} (hS : ∀ x ∈ S', x ∈ a.S ∨ m ≤ x) (hm : n ≤ m) : ∀ y ∈ Lay.all { a with S := S' }, n ≤ y := by
 intro y hy
 unfold Lay.all at hy
 rcases List.mem_append.1 hy with q | q
 ·exact h y (List.mem_append_left _ q)
 ·rcases hS y q with q | q
  ·exact h y (List.mem_append_right _ q)
  ·omega
set_option maxHeartbeats 32000000 in
theorem fixed_spec {w : World} {K : Value → World → Prop} (hK : ∀ w', Fr [] w w' → K (.bool true) w') : CallsN Tryz.prog 14 [] w K := by
 have cw := cur w
 refine call14 ?_
 simp (maxSteps:=9^7)(disch:=first|assumption|(simp only[dz];first|done|assumption|omega)|omega|apply_rules[Fr.refl,Fr.alloc,Fr.drew]|rfl) only [↓gd,gp,Nat.reduceAdd,Nat.reduceEqDiff, ↓hk14]
 refine newN_spec (c := cfgF) fun a w1 hf1 hall h1 => ?_
 rw [cF_eq] at h1
 have cw1 := cur w1
 have hz1 := hf1.size
 have h1 : NodeAt w1 a cF 1 M0 := h1
 simp (maxSteps:=9^7)(disch:=first|assumption|(simp only[dz];first|done|assumption|omega)|omega|apply_rules[Fr.refl,Fr.alloc,Fr.drew]|rfl) only [↓gd,gp,Nat.reduceAdd,Nat.reduceEqDiff, ↓hk14]
 refine text_spec fun w2 hf2 => ?_
 have cw2 := cur w2
 have hz2 := hf2.size
 simp (maxSteps:=9^7)(disch:=first|assumption|(simp only[dz];first|done|assumption|omega)|omega|apply_rules[Fr.refl,Fr.alloc,Fr.drew]|rfl) only [↓gd,gp,Nat.reduceAdd,Nat.reduceEqDiff, ↓hk14]
 refine fill_spec (f := fF) (read := 0) (h1.frN hf2) (MOK.zero cF true 0).ti.tok (by decide) fun w3 S3 h3 hS3 hf3 => ?_
 have cw3 := cur w3
 have hz3 := hf3.size
 have hM1 := M1_eq
 rw [hM1] at h3 ⊢
 simp only at h3
 simp (maxSteps:=9^7)(disch:=first|assumption|(simp only[dz];first|done|assumption|omega)|omega|apply_rules[Fr.refl,Fr.alloc,Fr.drew]|rfl) only [↓gd,gp,Nat.reduceAdd,Nat.reduceEqDiff, ↓hk14]
 have hF3 : Fr [] w w3 := (hf1.trans' hf2).trans hf3 fun y hy => .inr (hall y hy)
 have hall3 := all_ge hall hS3 (by omega)
 generalize hW : World.alloc w3 _ = w4
 have hf4 : Fr [] w3 w4 := by rw [← hW]; exact fr_
 have g4 : w4.heap[w3.heap.size]? = some (.cells ([.string bJ] : List Value).toArray 9 (0, 0)) := by rw [← hW]; exact get_alloc_new _ _
 clear hW
 have cw4 := cur w4
 have hz4 := hf4.size
 refine apply_spec (a := { a with S := S3 }) (x := ⟨⟨1, some ⟨w3.heap.size, 0, none⟩, 1, 1⟩, [bJ]⟩) (n := 1) (h3.frN hf4) M1_ok.ti (by decide) M1_ok.wf (sl_one g4) (by show (1 : Nat) ≤ _; decide) fun w5 S5 x5 hx1 hx2 h5 hT5 hg5 hS5 hf5 => ?_
 have cw5 := cur w5
 have hz5 := hf5.size
 rw [M2_eq x5 hx1 hx2] at h5 hT5 hg5 ⊢
 simp only at h5 hT5 hg5
 have hF5 : Fr [] w w5 := (hF3.trans' hf4).trans hf5 fun y hy => .inr (hall3 y hy)
 have hall5 := all_ge hall3 hS5 (by omega)
 simp (maxSteps:=9^7)(disch:=first|assumption|(simp only[dz];first|done|assumption|omega)|omega|apply_rules[Fr.refl,Fr.alloc,Fr.drew]|rfl) only [↓gd,gp,Nat.reduceAdd,Nat.reduceEqDiff, ↓hk14]
 refine look_spec (a := { a with S := S5 }) h5 hT5.tok (by decide) hT5.nd (by decide) fun w6 S6 h6 hS6 hf6 => ?_
 have cw6 := cur w6
 have hz6 := hf6.size
 rw [M3_eq] at h6 ⊢
 simp only at h6
 have hF6 : Fr [] w w6 := hF5.trans hf6 fun y hy => .inr (hall5 y hy)
 have hall6 := all_ge hall5 hS6 (by omega)
 have hM3 : MOK cF M3 1 := by
  have h0 : MOK cF M2 1 := ⟨hT5, hg5, by decide, by decide⟩
  have := h0.look cF_ok bK 1 5
  rw [M3_eq] at this
  exact this
 have hlv : lookV (some (eF openI false 1)) M2.g.at_ = [.agg #[.bool true, .string bX], .agg #[.int .i64 0, .int .i64 2], .bool true] := by kernel_rfl
 rw [hlv]
 simp (maxSteps:=9^7)(disch:=first|assumption|(simp only[dz];first|done|assumption|omega)|omega|apply_rules[Fr.refl,Fr.alloc,Fr.drew]|rfl) only [↓gd,gp,Nat.reduceAdd,Nat.reduceEqDiff, ↓c14_6_s, ↓c14_5_s, ↓c14_9_s, ↓c14_8_s, ↓c14_7_s, ↓c14_3_s, ↓c14_12_s, ↓c14_11_s, ↓c14_10_s, ↓c14_2_s, ↓c14_1_s, ↓c14_s, ↓w3t_14]
 generalize hW : World.setB _ _ _ = w7
 have hf7 : Fr [] w6 w7 := by rw [← hW]; exact fr_
 have g72 : w7.heap[w6.heap.size]? = some (.cells ([.bool true, .string bX] : List Value).toArray 31 (0, 0)) := by rw [← hW]; simp (maxSteps:=9^7)(disch:=first|assumption|(simp only[dz];first|done|assumption|omega)|omega|apply_rules[Fr.refl,Fr.alloc,Fr.drew]|rfl) only [↓gsd,gs,gv,Nat.reduceAdd,Nat.reduceEqDiff]
 have g73 : w7.heap[w6.heap.size + 1]? = some (.cells ([.int .i64 0, .int .i64 2] : List Value).toArray 48 (0, 0)) := by rw [← hW]; simp (maxSteps:=9^7)(disch:=first|assumption|(simp only[dz];first|done|assumption|omega)|omega|apply_rules[Fr.refl,Fr.alloc,Fr.drew]|rfl) only [↓gsd,gs,gv,Nat.reduceAdd,Nat.reduceEqDiff]
 clear hW
 have cw7 := cur w7
 have hz7 := hf7.size
 have k2 := lt_of_get _ _ g72
 have k3 := lt_of_get _ _ g73
 simp (maxSteps:=9^7)(disch:=first|assumption|(simp only[dz];first|done|assumption|omega)|omega|apply_rules[Fr.refl,Fr.alloc,Fr.drew]|rfl) only [↓gd,gp,Nat.reduceAdd,Nat.reduceEqDiff, ↓hk14, g72, g73]
 refine text_spec fun w8 hf8 => ?_
 have cw8 := cur w8
 have hf78 : Fr [] w7 w8 := Fr.trans' fr_ hf8
 have hz8 := hf78.size
 have g82 := hf78.getN g72
 have g83 := hf78.getN g73
 have bb : (decide (true = true) && (decide (bX = bX) && true)) = true := by decide
 have bp : (decide ((0 : Int) = 0) && (decide ((2 : Int) = 2) && true)) = true := by decide
 refine ⟨.inl hf78, ?_⟩
 simp (maxSteps:=9^7)(disch:=first|assumption|(simp only[dz];first|done|assumption|omega)|omega|apply_rules[Fr.refl,Fr.alloc,Fr.drew]|rfl) only [↓gd,gp,Nat.reduceAdd,Nat.reduceEqDiff, ↓hk14, g82, g83, tval_ne, tpin_ne, bb, bp]
 generalize hW : World.alloc w8 _ = w9
 have hf9 : Fr [] w8 w9 := by rw [← hW]; exact fr_
 have g9 : w9.heap[w8.heap.size]? = some (.cells ([.string bK] : List Value).toArray 9 (0, 0)) := by rw [← hW]; exact get_alloc_new _ _
 clear hW
 have cw9 := cur w9
 have hz9 := hf9.size
 have hf69 := (hf7.trans' hf78).trans' hf9
 refine apply_spec (a := { a with S := S6 }) (x := ⟨⟨2, some ⟨w8.heap.size, 0, none⟩, 1, 1⟩, [bK]⟩) (n := 1) (h6.frN hf69) hM3.ti (by decide) hM3.wf (sl_one g9) (by show (1 : Nat) ≤ _; decide) fun w10 S10 x10 hx1 hx2 h10 hT10 hg10 hS10 hf10 => ?_
 have cw10 := cur w10
 have hz10 := hf10.size
 rw [M4_eq x10 hx1 hx2] at h10 hT10 hg10 ⊢
 simp only at h10 hT10 hg10
 have hF10 : Fr [] w w10 := (hF6.trans' hf69).trans hf10 fun y hy => .inr (hall6 y hy)
 have hall10 := all_ge hall6 hS10 (by omega)
 simp (maxSteps:=9^7)(disch:=first|assumption|(simp only[dz];first|done|assumption|omega)|omega|apply_rules[Fr.refl,Fr.alloc,Fr.drew]|rfl) only [↓gd,gp,Nat.reduceAdd,Nat.reduceEqDiff, ↓hk14]
 refine look_spec (a := { a with S := S10 }) h10 hT10.tok (by decide) hT10.nd (by decide) fun w11 S11 h11 hS11 hf11 => ?_
 have cw11 := cur w11
 have hz11 := hf11.size
 rw [M5_eq] at h11 ⊢
 simp only at h11
 have hF11 : Fr [] w w11 := hF10.trans hf11 fun y hy => .inr (hall10 y hy)
 have hlv2 : lookV none M4.g.at_ = [.agg #[.bool false, .string ⟨#[]⟩], .agg #[.int .i64 0, .int .i64 0], .bool false] := by kernel_rfl
 rw [hlv2]
 simp (maxSteps:=9^7)(disch:=first|assumption|(simp only[dz];first|done|assumption|omega)|omega|apply_rules[Fr.refl,Fr.alloc,Fr.drew]|rfl) only [↓gd,gp,Nat.reduceAdd,Nat.reduceEqDiff, ↓hk14]
 refine view_spec (a := { a with S := S11 }) h11 hT10.tok (by decide) hg10 fun vw ve w12 _ _ _ _ _ hf12 => ?_
 have cw12 := cur w12
 unfold viewV
 have d2 : decide ((2 : Int) = 2) = true := by decide
 have ha : M4.g.at_ = 2 := rfl
 rw [ha]
 simp (maxSteps:=9^7)(disch:=first|assumption|(simp only[dz];first|done|assumption|omega)|omega|apply_rules[Fr.refl,Fr.alloc,Fr.drew]|rfl) only [↓gd,gp,Nat.reduceAdd,Nat.reduceEqDiff, ↓hk14, d2]
 exact hK _ (hF11.trans' hf12)
theorem nun2 : Tryz.prog.underlying 2 = some (.int .i64) := by kernel_rfl
theorem nun4 : Tryz.prog.underlying 4 = some .bool := by kernel_rfl
theorem nun5 : Tryz.prog.underlying 5 = some (.int .u8) := by kernel_rfl
theorem nun9 : Tryz.prog.underlying 9 = some .string := by kernel_rfl
theorem nco2 : Tryz.prog.cellsOf 2 = 1 := by kernel_rfl
theorem nco4 : Tryz.prog.cellsOf 4 = 1 := by kernel_rfl
theorem nco5 : Tryz.prog.cellsOf 5 = 1 := by kernel_rfl
theorem nco9 : Tryz.prog.cellsOf 9 = 1 := by kernel_rfl
theorem ncoV : Tryz.prog.cellsOf 31 = 2 := by kernel_rfl
theorem ncoF : Tryz.prog.cellsOf 34 = 5 := by kernel_rfl
theorem ncoP : Tryz.prog.cellsOf 48 = 2 := by kernel_rfl
theorem ncoOp12 : Tryz.prog.cellsOf 50 = 12 := by kernel_rfl
theorem nco3 : Tryz.prog.cellsOf 3 = 1 := by kernel_rfl
theorem nun3 : Tryz.prog.underlying 3 = some (.int .i64) := by kernel_rfl
theorem ncoStrs : Tryz.prog.cellsOf 22 = 1 := by kernel_rfl
theorem nunStrs : Tryz.prog.underlying 22 = some (.slice 9) := by kernel_rfl
theorem u_val : ∃ fs, Tryz.prog.underlying 31 = some (.struct fs) ∧ ∃ f0 f1, fs[0]? = some f0 ∧ fs[1]? = some f1 ∧ (f0.type = 4 ∧ f0.offset = 0) ∧ (f1.type = 9 ∧ f1.offset = 1) ∧ fs.size = 2 :=
 ⟨_, und_of (Tryz.runUnderlying31 default), _, _, rfl, rfl, ⟨rfl, rfl⟩, ⟨rfl, rfl⟩, rfl⟩
theorem u_fct : ∃ fs, Tryz.prog.underlying 34 = some (.struct fs) ∧ ∃ f0 f1 f2 f3, fs[0]? = some f0 ∧ fs[1]? = some f1 ∧ fs[2]? = some f2 ∧ fs[3]? = some f3 ∧ (f0.type = 9 ∧ f0.offset = 0) ∧ (f1.type = 31 ∧ f1.offset = 1) ∧ (f2.type = 2 ∧ f2.offset = 3) ∧ (f3.type = 2 ∧ f3.offset = 4) ∧ fs.size = 4 :=
 ⟨_, und_of (Tryz.runUnderlying34 default), _, _, _, _, rfl, rfl, rfl, rfl, ⟨rfl, rfl⟩, ⟨rfl, rfl⟩, ⟨rfl, rfl⟩, ⟨rfl, rfl⟩, rfl⟩
theorem u_pin : ∃ fs, Tryz.prog.underlying 48 = some (.struct fs) ∧ ∃ f0 f1, fs[0]? = some f0 ∧ fs[1]? = some f1 ∧ (f0.type = 2 ∧ f0.offset = 0) ∧ (f1.type = 2 ∧ f1.offset = 1) ∧ fs.size = 2 :=
 ⟨_, und_of (Tryz.runUnderlying48 default), _, _, rfl, rfl, ⟨rfl, rfl⟩, ⟨rfl, rfl⟩, rfl⟩
theorem u_op12 : ∃ fs, Tryz.prog.underlying 50 = some (.struct fs) ∧ ∃ f0 f1 f2 f3 f4 f5 f6, fs[0]? = some f0 ∧ fs[1]? = some f1 ∧ fs[2]? = some f2 ∧ fs[3]? = some f3 ∧ fs[4]? = some f4 ∧ fs[5]? = some f5 ∧ fs[6]? = some f6 ∧ (f0.type = 5 ∧ f0.offset = 0) ∧ (f1.type = 9 ∧ f1.offset = 1) ∧ (f2.type = 48 ∧ f2.offset = 2) ∧ (f3.type = 34 ∧ f3.offset = 4) ∧ (f4.type = 2 ∧ f4.offset = 9) ∧ (f5.type = 22 ∧ f5.offset = 10) ∧ (f6.type = 3 ∧ f6.offset = 11) ∧ fs.size = 7 :=
 ⟨_, und_of (Tryz.runUnderlying50 default), _, _, _, _, _, _, _, rfl, rfl, rfl, rfl, rfl, rfl, rfl, ⟨rfl, rfl⟩, ⟨rfl, rfl⟩, ⟨rfl, rfl⟩, ⟨rfl, rfl⟩, ⟨rfl, rfl⟩, ⟨rfl, rfl⟩, ⟨rfl, rfl⟩, rfl⟩
structure Op12 where
 k : Int
 key : ByteArray
 lo : Int
 hi : Int
 f : Ent
 n : Int
 ka : Option Addr
 kl : Nat
 kc : Nat
 inc : Int
def encOp12 (o : Op12) : List Value := [.int .u8 o.k, .string o.key, .int .i64 o.lo, .int .i64 o.hi, .string o.f.key, .bool o.f.has, .string o.f.data, .int .i64 o.f.lo, .int .i64 o.f.hi, .int .i64 o.n, .slice o.ka o.kl o.kc, .int .i64 o.inc]
theorem encOp12_len (o : Op12) : (encOp12 o).length = 12 := rfl
structure Op12.ok (w : World) (o : Op12) (ks : List ByteArray) : Prop where
 sl : SlOf 1 encS w (.slice o.ka o.kl o.kc) ks
 len : ks.length ≤ maxLen
 k0 : 0 ≤ o.k
 k1 : o.k ≤ 255
section
variable {H : Type} {ec : TypeId × Value → H} {w : World} {base : Nat} {spare : Nat → Bool} {held : Bool}
theorem open_val {n : Nat} {cs : List Value} {x : DataW H × List MemPlace} (h : DataW.trod ec Tryz.prog w base spare held n 31 cs = some x) : ∃ b s, cs = [.bool b, .string s] := by
 obtain ⟨fs, hu, f0, f1, e0, e1, ⟨t0, o0⟩, ⟨t1, o1⟩, hs⟩ := u_val
 obtain ⟨xs, m, rfl, rfl, hl, hxl, hx⟩ := DataW.trod_struct hu h
 rw [ncoV] at hl
 have h0 := hx 0 f0 e0
 have h1 := hx 1 f1 e1
 rw [t0, o0, nco4, List.getElem?_eq_getElem (by omega)] at h0
 rw [t1, o1, nco9, List.getElem?_eq_getElem (by omega)] at h1
 obtain ⟨b, hb, _⟩ := DataW.trod_bool nun4 h0
 obtain ⟨s, hs2, _⟩ := DataW.trod_string nun9 h1
 obtain ⟨c0, c1, rfl⟩ : ∃ c0 c1, cs = [c0, c1] := by
  match cs, hl with
  | [a, b], _ => exact ⟨a, b, rfl⟩
 simp at hb hs2
 exact ⟨b, s, by rw [hb, hs2]⟩
theorem open_pin {n : Nat} {cs : List Value} {x : DataW H × List MemPlace} (h : DataW.trod ec Tryz.prog w base spare held n 48 cs = some x) : ∃ a b, cs = [.int .i64 a, .int .i64 b] := by
 obtain ⟨fs, hu, f0, f1, e0, e1, ⟨t0, o0⟩, ⟨t1, o1⟩, hs⟩ := u_pin
 obtain ⟨xs, m, rfl, rfl, hl, hxl, hx⟩ := DataW.trod_struct hu h
 rw [ncoP] at hl
 have h0 := hx 0 f0 e0
 have h1 := hx 1 f1 e1
 rw [t0, o0, nco2, List.getElem?_eq_getElem (by omega)] at h0
 rw [t1, o1, nco2, List.getElem?_eq_getElem (by omega)] at h1
 obtain ⟨a, ha, _⟩ := DataW.trod_int nun2 h0
 obtain ⟨b, hb, _⟩ := DataW.trod_int nun2 h1
 obtain ⟨c0, c1, rfl⟩ : ∃ c0 c1, cs = [c0, c1] := by
  match cs, hl with
  | [a, b], _ => exact ⟨a, b, rfl⟩
 simp at ha hb
 exact ⟨a, b, by rw [ha, hb]⟩
theorem open_fct {n : Nat} {cs : List Value} {x : DataW H × List MemPlace} (h : DataW.trod ec Tryz.prog w base spare held n 34 cs = some x) : ∃ k b d lo hi, cs = [.string k, .bool b, .string d, .int .i64 lo, .int .i64 hi] := by
 obtain ⟨fs, hu, f0, f1, f2, f3, e0, e1, e2, e3, ⟨t0, o0⟩, ⟨t1, o1⟩, ⟨t2, o2⟩, ⟨t3, o3⟩, hs⟩ := u_fct
 obtain ⟨xs, m, rfl, rfl, hl, hxl, hx⟩ := DataW.trod_struct hu h
 rw [ncoF] at hl
 have h0 := hx 0 f0 e0
 have h1 := hx 1 f1 e1
 have h2 := hx 2 f2 e2
 have h3 := hx 3 f3 e3
 rw [t0, o0, nco9, List.getElem?_eq_getElem (by omega)] at h0
 rw [t1, o1, ncoV, List.getElem?_eq_getElem (by omega)] at h1
 rw [t2, o2, nco2, List.getElem?_eq_getElem (by omega)] at h2
 rw [t3, o3, nco2, List.getElem?_eq_getElem (by omega)] at h3
 obtain ⟨k, hk, _⟩ := DataW.trod_string nun9 h0
 obtain ⟨b, d, hbd⟩ := open_val h1
 obtain ⟨lo, hlo, _⟩ := DataW.trod_int nun2 h2
 obtain ⟨hi, hhi, _⟩ := DataW.trod_int nun2 h3
 obtain ⟨c0, c1, c2, c3, c4, rfl⟩ : ∃ c0 c1 c2 c3 c4, cs = [c0, c1, c2, c3, c4] := by
  match cs, hl with
  | [a, b, c, d, e], _ => exact ⟨a, b, c, d, e, rfl⟩
 simp at hk hbd hlo hhi
 exact ⟨k, b, d, lo, hi, by rw [hk, hbd.1, hbd.2, hlo, hhi]⟩
theorem open_keys {n : Nat} {cs : List Value} {x : DataW H × List MemPlace} (h : DataW.trod ec Tryz.prog w base spare held n 22 cs = some x) : ∃ v ks, cs = [v] ∧ SlOf 1 encS w v ks ∧ ks.length ≤ maxLen := by
 obtain ⟨v, xs, h1, h2, h3, _⟩ := open_slOf (enc := encS) (fun _ _ => True) nunStrs nco9 (by decide) (fun _ => rfl) (fun n cs y hy => by
  obtain ⟨s, hs, _⟩ := DataW.trod_string nun9 hy
  exact ⟨s, hs, fun _ => trivial⟩) h
 exact ⟨v, xs, h1, h2, h3⟩
theorem open_op12 {n : Nat} {cs : List Value} {x : DataW H × List MemPlace} (h : DataW.trod ec Tryz.prog w base spare held n 50 cs = some x) : ∃ o : Op12, cs = encOp12 o ∧ ∃ ks, o.ok w ks := by
 obtain ⟨fs, hu, f0, f1, f2, f3, f4, f5, f6, e0, e1, e2, e3, e4, e5, e6, ⟨t0, o0⟩, ⟨t1, o1⟩, ⟨t2, o2⟩, ⟨t3, o3⟩, ⟨t4, o4⟩, ⟨t5, o5⟩, ⟨t6, o6⟩, hs⟩ := u_op12
 obtain ⟨xs, m, rfl, rfl, hl, hxl, hx⟩ := DataW.trod_struct hu h
 rw [ncoOp12] at hl
 have h0 := hx 0 f0 e0
 have h1 := hx 1 f1 e1
 have h2 := hx 2 f2 e2
 have h3 := hx 3 f3 e3
 have h4 := hx 4 f4 e4
 have h5 := hx 5 f5 e5
 have h6 := hx 6 f6 e6
 rw [t0, o0, nco5, List.getElem?_eq_getElem (by omega)] at h0
 rw [t1, o1, nco9, List.getElem?_eq_getElem (by omega)] at h1
 rw [t2, o2, ncoP, List.getElem?_eq_getElem (by omega)] at h2
 rw [t3, o3, ncoF, List.getElem?_eq_getElem (by omega)] at h3
 rw [t4, o4, nco2, List.getElem?_eq_getElem (by omega)] at h4
 rw [t5, o5, ncoStrs, List.getElem?_eq_getElem (by omega)] at h5
 rw [t6, o6, nco3, List.getElem?_eq_getElem (by omega)] at h6
 obtain ⟨k, hk, hw⟩ := DataW.trod_int nun5 h0
 obtain ⟨key, hkey, _⟩ := DataW.trod_string nun9 h1
 obtain ⟨lo, hi, hp⟩ := open_pin h2
 obtain ⟨fk, fb, fd, fl, fh, hf⟩ := open_fct h3
 obtain ⟨nn, hn, _⟩ := DataW.trod_int nun2 h4
 obtain ⟨v, ks, hv, hsl, hm⟩ := open_keys h5
 obtain ⟨inc, hinc, _⟩ := DataW.trod_int nun3 h6
 have hw' : 0 ≤ k ∧ k ≤ 255 := by simpa [Lit.wf, IntKind.min, IntKind.max, IntKind.signed, IntKind.bits] using hw.2
 obtain ⟨a, c, rfl⟩ := hsl.form
 obtain ⟨c0, c1, c2, c3, c4, c5, c6, c7, c8, c9, cA, cB, rfl⟩ : ∃ c0 c1 c2 c3 c4 c5 c6 c7 c8 c9 cA cB, cs = [c0, c1, c2, c3, c4, c5, c6, c7, c8, c9, cA, cB] := by
  match cs, hl with
  | [a, b, c, d, e, f, g, h, i, j, k, l], _ => exact ⟨a, b, c, d, e, f, g, h, i, j, k, l, rfl⟩
 simp at hk hkey hp hf hn hv hinc
 obtain ⟨r0, r1, r2, r3, r4⟩ := hf
 exact ⟨⟨k, key, lo, hi, ⟨fk, fb, fd, fl, fh, false, 0, 0⟩, nn, a, ks.length, c, inc⟩, by rw [hk, hkey, hp.1, hp.2, r0, r1, r2, r3, r4, hn, hv, hinc]; rfl, ks, ⟨hsl, hm, hw'.1, hw'.2⟩⟩
end
section
variable {H : Type} {ec : TypeId × Value → H} {w : World} {base : Nat} {spare : Nat → Bool} {held : Bool}
theorem bulk_len (l : List (DataW H)) : l.length ≤ Rows.uptoBulkAll l := by
 induction l with
 | nil => simp [Rows.uptoBulkAll]
 | cons x r ih =>
   have : 1 ≤ Rows.uptoBulk x := by
    cases x with
    | lit l => cases l <;> simp [Rows.uptoBulk]
    | nil => simp [Rows.uptoBulk]
    | ptr d => simp [Rows.uptoBulk]
    | slice elems spare => simp [Rows.uptoBulk]
    | agg parts => simp [Rows.uptoBulk]
    | iface t d => simp [Rows.uptoBulk]
    | map entries => simp [Rows.uptoBulk]
    | held h => simp [Rows.uptoBulk]
   simp only [Rows.uptoBulkAll, List.length_cons]; omega
theorem bulk_slice {t e : TypeId} {n : Nat} {a : Option Addr} {l c : Nat} {x : DataW H × List MemPlace} (ht : Tryz.prog.underlying t = some (.slice e)) (h : DataW.trod ec Tryz.prog w base spare held n t [.slice a l c] = some x) : l ≤ Rows.uptoBulk x.1 := by
 rcases Go.Deep.open_slice ht h with ⟨h1, _⟩ | ⟨a', len, cap, m, n', D, Pl, h1, _, _, _, _, h2, _⟩
 ·simp only [List.cons.injEq, Value.slice.injEq, and_true] at h1
  omega
 ·simp only [List.cons.injEq, Value.slice.injEq, and_true] at h1
  rw [h2]
  simp only [Rows.uptoBulk]
  have := bulk_len ((List.range len).map D)
  simp only [List.length_map, List.length_range] at this
  omega
end
end Go.Proofs.YtomlgkecckffeaaGreat
