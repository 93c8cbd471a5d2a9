/- The model at the document's first example. Values, pins and entries compared. The document's first example, walked. The arguments of the node's laws, opened. The bulk of arguments. The last of a list that has a property; what a key has of a table's list. The equations of the code of some functions, written by the printer gen3.py: each is checked by the kernel. NodeAnswers: the script. The config, a pin and a script among the arguments, opened. NodeAnswers: its end. -/
import Derived.Test.YtomlgkecckffeaaGreatXA
import Derived.Test.YtomlgkecckffeaaGreatCB
import Derived.Test.YtomlgkecckffeaaGreatRows
import Derived.Test.YtomlgkecckffeaaGreatCI
set_option linter.unusedVariables false
set_option linter.unusedSimpArgs false
set_option maxRecDepth 10000
namespace Go.Proofs.YtomlgkecckffeaaGreat
open Go.VW
abbrev bK : ByteArray := ⟨#[107]⟩
abbrev bX : ByteArray := ⟨#[120]⟩
abbrev bJ : ByteArray := ⟨#[106]⟩
def cfgF : Cfg := ⟨1, 100, 2, 2, 2, 1, 1, 0⟩
def cF : Cfg := ⟨1, 100, 2, 2, 2, 1, 1, 0⟩
theorem cF_eq : cfgF.held = cF := by kernel_rfl
def fF : Ent := ⟨bK, true, bX, 0, openI, false, 0, 0⟩
def M0 : Mem := Mem.zero cF true 0
def eF (hi : Int) (hot : Bool) (st : Int) : Ent := ⟨bK, true, bX, 0, hi, hot, st, 1⟩
def tF (e : Ent) : Tab := ⟨[(bK, [e])], 1, 34⟩
def M1 : Mem := ⟨true, tF (eF openI false 1), ⟨0, 2, []⟩, ⟨2, [], 0, 0⟩, 1, 1⟩
theorem f1 : M0.settle fF 0 = fF := by kernel_rfl
theorem f2 : goodE fF = true := by kernel_rfl
theorem f3 : getE (M0.T.row fF.key) fF.lo = none := by kernel_rfl
theorem f4 : costE fF = 34 := by kernel_rfl
theorem f5 : M0.T.putR { fF with hot := false, stamp := wr1 M0.stamps, ins := wr1 M0.ins } = tF (eF openI false 1) := by kernel_rfl
theorem f6 : overK cF fF.key (tF (eF openI false 1)) = false := by kernel_rfl
theorem f7 : overB cF (tF (eF openI false 1)) = false := by kernel_rfl
theorem M1_eq : M0.fill cF fF 0 = (M1, true) := by
 unfold Mem.fill
 rw [f1, f2]
 rw [if_neg (by decide), if_neg (by decide)]
 unfold Mem.lay
 rw [f3, f4]
 simp only
 rw [if_neg (by decide), f5, evictF_sub f6, evictF_sub f7]
 rfl
def M2 : Mem := ⟨true, tF (eF openI false 1), ⟨1, 2, []⟩, ⟨2, [(1, bJ)], 0, 1⟩, 1, 1⟩
theorem M2_eq (x : KRec) (hn : x.r.n = 1) (hk : x.ks = [bJ]) : M1.apply 1 x = (M2, false) := by
 obtain ⟨⟨n, a, l, c⟩, ks⟩ := x
 simp only at hn hk
 subst hn; subst hk
 kernel_rfl
def M3 : Mem := ⟨true, tF (eF openI true 2), ⟨1, 2, []⟩, ⟨2, [(1, bJ)], 0, 1⟩, 2, 1⟩
theorem p3 : findE (M2.T.row bK) M2.g.at_ 1 5 = some (eF openI false 1) := by kernel_rfl
theorem p4 : M2.putS (eF openI false 1) true = M3 := by kernel_rfl

theorem M3_eq : M2.look cF bK 1 5 = (M3, some (eF openI false 1)) := by
 unfold Mem.look
 rw [p3]
 simp only
 have : M2.use cF (eF openI false 1) = M3 := by
  have hT : TI (M2.putS (eF openI false 1) true).T cF.bytes.toNat 1 := by
   have h0 := (MOK.zero cF true 0)
   have hc : CfgOK cF := by rw [← cF_eq]; exact held_ok _
   have h1 := h0.fill hc (by decide) fF 0
   have h2 : MOK cF M1 1 := by have := M1_eq; unfold M0 at this; rw [this] at h1; exact h1
   have h3 : TI M2.T cF.bytes.toNat 1 := h2.ti
   have hg : goodE (eF openI false 1) = true := by kernel_rfl
   have ha : M2.T.at (eF openI false 1).key (eF openI false 1).lo = some (eF openI false 1) := by kernel_rfl
   exact (h3.putS (by decide) hg ⟨_, ha, rfl, rfl⟩ true _).1
  have hl : (M2.putS (eF openI false 1) true).T.list.length = 1 := by
   have := sumE_list (fun _ => 1) hT.tok.nd
   rw [sumE_one] at this
   have q : sumR (fun _ => 1) (M2.putS (eF openI false 1) true).T.rows = 1 := by kernel_rfl
   exact this.trans q
  unfold Mem.use demL
  have h1 : ((oldIdx (M2.putS (eF openI false 1) true).T.list).filter (hotI (M2.putS (eF openI false 1) true).T.list)).length ≤ 1 := by
   refine Nat.le_trans (List.length_filter_le _ _) ?_
   unfold oldIdx
   rw [List.length_mergeSort, List.length_range, hl]
   exact Nat.le_refl _
  have h2 : demN cF.prot ((oldIdx (M2.putS (eF openI false 1) true).T.list).filter (hotI (M2.putS (eF openI false 1) true).T.list)).length = 0 := by
   have : cF.prot = 1 := rfl
   unfold demN
   rw [this]
   omega
  rw [h2, List.take_zero]
  exact p4
 rw [this]
def M4 : Mem := ⟨true, tF (eF 2 true 2), ⟨2, 2, []⟩, ⟨2, [(1, bJ), (2, bK)], 0, 2⟩, 2, 1⟩
theorem M4_eq (x : KRec) (hn : x.r.n = 2) (hk : x.ks = [bK]) : M3.apply 2 x = (M4, false) := by
 obtain ⟨⟨n, a, l, c⟩, ks⟩ := x
 simp only at hn hk
 subst hn; subst hk
 kernel_rfl
theorem p5 : findE (M4.T.row bK) M4.g.at_ 2 9 = none := by kernel_rfl
theorem M5_eq : M4.look cF bK 2 9 = (M4, none) := by
 unfold Mem.look
 rw [p5]
theorem eqd_val (d : Nat) (a a' : Bool) (b b' : ByteArray) (w : World) : (Op.equalIn (d + 2) 31 (.agg #[.bool a, .string b]) (.agg #[.bool a', .string b'])).run Tryz.prog w = .ok (decide (a = a') && (decide (b = b') && true)) w :=
 eqS (d := d + 1) Tryz.runUnderlying31 (by kernel_rfl) (eqF_cons (by decide) (part1 Tryz.isAgg4 rfl) (part1 Tryz.isAgg4 rfl) (eqv_bool Tryz.runUnderlying4 a a') (eqF_cons (by decide) (part1 Tryz.isAgg9 rfl) (part1 Tryz.isAgg9 rfl) (eqv_string Tryz.runUnderlying9 b b') eqF_nil)) w
theorem eqd_pin (d : Nat) (a a' b b' : Int) (w : World) : (Op.equalIn (d + 2) 48 (.agg #[.int .i64 a, .int .i64 b]) (.agg #[.int .i64 a', .int .i64 b'])).run Tryz.prog w = .ok (decide (a = a') && (decide (b = b') && true)) w :=
 eqS (d := d + 1) Tryz.runUnderlying48 (by kernel_rfl) (eqF_cons (by decide) (part1 Tryz.isAgg2 rfl) (part1 Tryz.isAgg2 rfl) (eqv_int Tryz.runUnderlying2 _ a a') (eqF_cons (by decide) (part1 Tryz.isAgg2 rfl) (part1 Tryz.isAgg2 rfl) (eqv_int Tryz.runUnderlying2 _ b b') eqF_nil)) w
section
variable (x y : Operand) (w : World)
theorem val_ne (a a' : Bool) (b b' : ByteArray) : (xbin .neq 31 x y (.agg #[.bool a, .string b]) (.agg #[.bool a', .string b'])).run Tryz.prog w = .ok (.bool !(decide (a = a') && (decide (b = b') && true))) w := neX (by kernel_rfl) (eqd_val 9998 a a' b b') x y w
theorem pin_ne (a a' b b' : Int) : (xbin .neq 48 x y (.agg #[.int .i64 a, .int .i64 b]) (.agg #[.int .i64 a', .int .i64 b'])).run Tryz.prog w = .ok (.bool !(decide (a = a') && (decide (b = b') && true))) w := neX (by kernel_rfl) (eqd_pin 9998 a a' b b') x y w
variable {M : Option (List Nat)} {w0 : World} (K : Value → Prop)
theorem tval_ne (a a' : Bool) (b b' : ByteArray) : takeP Tryz.prog (FrX M w0) (xv (xbin .neq 31 x y (.agg #[.bool a, .string b]) (.agg #[.bool a', .string b']))) K = K (.bool !(decide (a = a') && (decide (b = b') && true))) := takeP_xv (fun w => val_ne x y w a a' b b') K
theorem tpin_ne (a a' b b' : Int) : takeP Tryz.prog (FrX M w0) (xv (xbin .neq 48 x y (.agg #[.int .i64 a, .int .i64 b]) (.agg #[.int .i64 a', .int .i64 b']))) K = K (.bool !(decide (a = a') && (decide (b = b') && true))) := takeP_xv (fun w => pin_ne x y w a a' b b') K
end
theorem text_spec {s : ByteArray} {w : World} {K : Value → World → Prop} (hK : ∀ w', Fr [] w w' → K (.agg ([.bool true, .string s] : List Value).toArray) w') : CallsN Tryz.prog 17 [.string s] w K := by
 have cw := cur w
 refine call17 ?_
 simp (disch:=first|assumption|(simp only[dz];first|done|assumption|omega)|omega) only [↓gd,gp,Nat.reduceAdd,Nat.reduceEqDiff, ↓hk17]
 exact hK _ fr_
theorem sl_one {w : World} {b : Nat} {s : ByteArray} {t : TypeId} (h : w.heap[b]? = some (.cells ([.string s] : List Value).toArray t (0, 0))) : SlOf 1 encS w (.slice (some ⟨b, 0, none⟩) 1 1) [s] := by
 refine ⟨rfl, .inr ⟨b, 0, 1, _, t, (0, 0), rfl, h, rfl⟩⟩
theorem cF_ok : CfgOK cF := by rw [← cF_eq]; exact held_ok _
theorem M1_ok : MOK cF M1 1 := by
 have h1 := (MOK.zero cF true 0).fill cF_ok (by decide) fF 0
 have := M1_eq
 unfold M0 at this
 rw [this] at h1
 exact h1
theorem all_ge {a : Lay} {n m : Nat} (h : ∀ y ∈ a.all, n ≤ y) {S' : List Nat} (hS : ∀ x ∈ S', x ∈ a.S ∨ m ≤ x) (hm : n ≤ m) : ∀ y ∈ Lay.all { a with S := S' }, n ≤ y := by
 intro y hy
 unfold Lay.all at hy
 rcases List.mem_append.1 hy with q | q
 ·exact h y (List.mem_append_left _ q)
 ·rcases hS y q with q | q
  ·exact h y (List.mem_append_right _ q)
  ·omega
set_option maxHeartbeats 32000000 in
theorem fixed_spec {w : World} {K : Value → World → Prop} (hK : ∀ w', Fr [] w w' → K (.bool true) w') : CallsN Tryz.prog 14 [] w K := by
 have cw := cur w
 refine call14 ?_
 simp (disch:=first|assumption|(simp only[dz];first|done|assumption|omega)|omega) only [↓gd,gp,Nat.reduceAdd,Nat.reduceEqDiff, ↓hk14]
 refine newN_spec (c := cfgF) fun a w1 hf1 hall h1 => ?_
 rw [cF_eq] at h1
 have cw1 := cur w1
 have hz1 := hf1.size
 have h1 : NodeAt w1 a cF 1 M0 := h1
 simp (disch:=first|assumption|(simp only[dz];first|done|assumption|omega)|omega) only [↓gd,gp,Nat.reduceAdd,Nat.reduceEqDiff, ↓hk14]
 refine text_spec fun w2 hf2 => ?_
 have cw2 := cur w2
 have hz2 := hf2.size
 simp (disch:=first|assumption|(simp only[dz];first|done|assumption|omega)|omega) only [↓gd,gp,Nat.reduceAdd,Nat.reduceEqDiff, ↓hk14]
 refine fill_spec (f := fF) (read := 0) (h1.frN hf2) (MOK.zero cF true 0).ti.tok (by decide) fun w3 S3 h3 hS3 hf3 => ?_
 have cw3 := cur w3
 have hz3 := hf3.size
 have hM1 := M1_eq
 rw [hM1] at h3 ⊢
 simp only at h3
 simp (disch:=first|assumption|(simp only[dz];first|done|assumption|omega)|omega) only [↓gd,gp,Nat.reduceAdd,Nat.reduceEqDiff, ↓hk14]
 have hF3 : Fr [] w w3 := (hf1.trans' hf2).trans hf3 fun y hy => .inr (hall y hy)
 have hall3 := all_ge hall hS3 (by omega)
 generalize hW : World.alloc w3 _ = w4
 have hf4 : Fr [] w3 w4 := by rw [← hW]; exact fr_
 have g4 : w4.heap[w3.heap.size]? = some (.cells ([.string bJ] : List Value).toArray 9 (0, 0)) := by rw [← hW]; exact get_alloc_new _ _
 clear hW
 have cw4 := cur w4
 have hz4 := hf4.size
 refine apply_spec (a := { a with S := S3 }) (x := ⟨⟨1, some ⟨w3.heap.size, 0, none⟩, 1, 1⟩, [bJ]⟩) (n := 1) (h3.frN hf4) M1_ok.ti (by decide) M1_ok.wf (sl_one g4) (by show (1 : Nat) ≤ _; decide) fun w5 S5 x5 hx1 hx2 h5 hT5 hg5 hS5 hf5 => ?_
 have cw5 := cur w5
 have hz5 := hf5.size
 rw [M2_eq x5 hx1 hx2] at h5 hT5 hg5 ⊢
 simp only at h5 hT5 hg5
 have hF5 : Fr [] w w5 := (hF3.trans' hf4).trans hf5 fun y hy => .inr (hall3 y hy)
 have hall5 := all_ge hall3 hS5 (by omega)
 simp (disch:=first|assumption|(simp only[dz];first|done|assumption|omega)|omega) only [↓gd,gp,Nat.reduceAdd,Nat.reduceEqDiff, ↓hk14]
 refine look_spec (a := { a with S := S5 }) h5 hT5.tok (by decide) hT5.nd (by decide) fun w6 S6 h6 hS6 hf6 => ?_
 have cw6 := cur w6
 have hz6 := hf6.size
 rw [M3_eq] at h6 ⊢
 simp only at h6
 have hF6 : Fr [] w w6 := hF5.trans hf6 fun y hy => .inr (hall5 y hy)
 have hall6 := all_ge hall5 hS6 (by omega)
 have hM3 : MOK cF M3 1 := by
  have h0 : MOK cF M2 1 := ⟨hT5, hg5, by decide, by decide⟩
  have := h0.look cF_ok bK 1 5
  rw [M3_eq] at this
  exact this
 have hlv : lookV (some (eF openI false 1)) M2.g.at_ = [.agg #[.bool true, .string bX], .agg #[.int .i64 0, .int .i64 2], .bool true] := by kernel_rfl
 rw [hlv]
 simp (disch:=first|assumption|(simp only[dz];first|done|assumption|omega)|omega) only [↓gd,gp,Nat.reduceAdd,Nat.reduceEqDiff, ↓c14_6_s, ↓c14_5_s, ↓c14_9_s, ↓c14_8_s, ↓c14_7_s, ↓c14_3_s, ↓c14_12_s, ↓c14_11_s, ↓c14_10_s, ↓c14_2_s, ↓c14_1_s, ↓c14_s, ↓w3t_14]
 generalize hW : World.setB _ _ _ = w7
 have hf7 : Fr [] w6 w7 := by rw [← hW]; exact fr_
 have g72 : w7.heap[w6.heap.size]? = some (.cells ([.bool true, .string bX] : List Value).toArray 31 (0, 0)) := by rw [← hW]; simp (disch:=first|assumption|(simp only[dz];first|done|assumption|omega)|omega) only [↓gsd,gs,gv,Nat.reduceAdd,Nat.reduceEqDiff]
 have g73 : w7.heap[w6.heap.size + 1]? = some (.cells ([.int .i64 0, .int .i64 2] : List Value).toArray 48 (0, 0)) := by rw [← hW]; simp (disch:=first|assumption|(simp only[dz];first|done|assumption|omega)|omega) only [↓gsd,gs,gv,Nat.reduceAdd,Nat.reduceEqDiff]
 clear hW
 have cw7 := cur w7
 have hz7 := hf7.size
 have k2 := lt_of_get _ _ g72
 have k3 := lt_of_get _ _ g73
 simp (disch:=first|assumption|(simp only[dz];first|done|assumption|omega)|omega) only [↓gd,gp,Nat.reduceAdd,Nat.reduceEqDiff, ↓hk14, g72, g73]
 refine text_spec fun w8 hf8 => ?_
 have cw8 := cur w8
 have hf78 : Fr [] w7 w8 := Fr.trans' fr_ hf8
 have hz8 := hf78.size
 have g82 := hf78.getN g72
 have g83 := hf78.getN g73
 have bb : (decide (true = true) && (decide (bX = bX) && true)) = true := by decide
 have bp : (decide ((0 : Int) = 0) && (decide ((2 : Int) = 2) && true)) = true := by decide
 refine ⟨.inl hf78, ?_⟩
 simp (disch:=first|assumption|(simp only[dz];first|done|assumption|omega)|omega) only [↓gd,gp,Nat.reduceAdd,Nat.reduceEqDiff, ↓hk14, g82, g83, tval_ne, tpin_ne, bb, bp]
 generalize hW : World.alloc w8 _ = w9
 have hf9 : Fr [] w8 w9 := by rw [← hW]; exact fr_
 have g9 : w9.heap[w8.heap.size]? = some (.cells ([.string bK] : List Value).toArray 9 (0, 0)) := by rw [← hW]; exact get_alloc_new _ _
 clear hW
 have cw9 := cur w9
 have hz9 := hf9.size
 have hf69 := (hf7.trans' hf78).trans' hf9
 refine apply_spec (a := { a with S := S6 }) (x := ⟨⟨2, some ⟨w8.heap.size, 0, none⟩, 1, 1⟩, [bK]⟩) (n := 1) (h6.frN hf69) hM3.ti (by decide) hM3.wf (sl_one g9) (by show (1 : Nat) ≤ _; decide) fun w10 S10 x10 hx1 hx2 h10 hT10 hg10 hS10 hf10 => ?_
 have cw10 := cur w10
 have hz10 := hf10.size
 rw [M4_eq x10 hx1 hx2] at h10 hT10 hg10 ⊢
 simp only at h10 hT10 hg10
 have hF10 : Fr [] w w10 := (hF6.trans' hf69).trans hf10 fun y hy => .inr (hall6 y hy)
 have hall10 := all_ge hall6 hS10 (by omega)
 simp (disch:=first|assumption|(simp only[dz];first|done|assumption|omega)|omega) only [↓gd,gp,Nat.reduceAdd,Nat.reduceEqDiff, ↓hk14]
 refine look_spec (a := { a with S := S10 }) h10 hT10.tok (by decide) hT10.nd (by decide) fun w11 S11 h11 hS11 hf11 => ?_
 have cw11 := cur w11
 have hz11 := hf11.size
 rw [M5_eq] at h11 ⊢
 simp only at h11
 have hF11 : Fr [] w w11 := hF10.trans hf11 fun y hy => .inr (hall10 y hy)
 have hlv2 : lookV none M4.g.at_ = [.agg #[.bool false, .string ⟨#[]⟩], .agg #[.int .i64 0, .int .i64 0], .bool false] := by kernel_rfl
 rw [hlv2]
 simp (disch:=first|assumption|(simp only[dz];first|done|assumption|omega)|omega) only [↓gd,gp,Nat.reduceAdd,Nat.reduceEqDiff, ↓hk14]
 refine view_spec (a := { a with S := S11 }) h11 hT10.tok (by decide) hg10 fun vw ve w12 _ _ _ _ _ hf12 => ?_
 have cw12 := cur w12
 unfold viewV
 have d2 : decide ((2 : Int) = 2) = true := by decide
 have ha : M4.g.at_ = 2 := rfl
 rw [ha]
 simp (disch:=first|assumption|(simp only[dz];first|done|assumption|omega)|omega) only [↓gd,gp,Nat.reduceAdd,Nat.reduceEqDiff, ↓hk14, d2]
 exact hK _ (hF11.trans' hf12)
theorem nun9 : Tryz.prog.underlying 9 = some .string := by kernel_rfl
theorem nco9 : Tryz.prog.cellsOf 9 = 1 := by kernel_rfl
theorem nunStrs : Tryz.prog.underlying 22 = some (.slice 9) := by kernel_rfl
structure Op12 where
 k : Int
 key : ByteArray
 lo : Int
 hi : Int
 f : Ent
 n : Int
 ka : Option Addr
 kl : Nat
 kc : Nat
 inc : Int
def encOp12 (o : Op12) : List Value := [.int .u8 o.k, .string o.key, .int .i64 o.lo, .int .i64 o.hi, .string o.f.key, .bool o.f.has, .string o.f.data, .int .i64 o.f.lo, .int .i64 o.f.hi, .int .i64 o.n, .slice o.ka o.kl o.kc, .int .i64 o.inc]
structure Op12.ok (w : World) (o : Op12) (ks : List ByteArray) : Prop where
 sl : SlOf 1 encS w (.slice o.ka o.kl o.kc) ks
 len : ks.length ≤ maxLen
 k0 : 0 ≤ o.k
 k1 : o.k ≤ 255
section
variable {H : Type} {ec : TypeId × Value → H} {w : World} {base : Nat} {spare : Nat → Bool} {held : Bool}
theorem open_keys {n : Nat} {cs : List Value} {x : DataW H × List MemPlace} (h : DataW.trod ec Tryz.prog w base spare held n 22 cs = some x) : ∃ v ks, cs = [v] ∧ SlOf 1 encS w v ks ∧ ks.length ≤ maxLen := by
 obtain ⟨v, xs, h1, h2, h3, _⟩ := open_slOf (enc := encS) (fun _ _ => True) nunStrs nco9 (by decide) (fun _ => rfl) (fun n cs y hy => by
  obtain ⟨s, hs, _⟩ := DataW.trod_string nun9 hy
  exact ⟨s, hs, fun _ => trivial⟩) h
 exact ⟨v, xs, h1, h2, h3⟩
end
theorem u8_range {a : Int} (h : (Lit.int .u8 a).wf = true) : 0 ≤ a ∧ a < 256 := by
 have e1 : IntKind.u8.min = 0 := by decide
 have e2 : IntKind.u8.max = 255 := by decide
 simp only [Lit.wf, e1, e2, Bool.and_eq_true, decide_eq_true_eq] at h
 omega
section
variable {H : Type} {ec : TypeId × Value → H} {w : World} {base : Nat} {spare : Nat → Bool} {held : Bool}
theorem bulk_len (l : List (DataW H)) : l.length ≤ Rows.uptoBulkAll l := by
 induction l with
 | nil => simp [Rows.uptoBulkAll]
 | cons x r ih =>
   have : 1 ≤ Rows.uptoBulk x := by
    cases x with
    | lit l => cases l <;> simp [Rows.uptoBulk]
    | nil => simp [Rows.uptoBulk]
    | ptr d => simp [Rows.uptoBulk]
    | slice elems spare => simp [Rows.uptoBulk]
    | agg parts => simp [Rows.uptoBulk]
    | iface t d => simp [Rows.uptoBulk]
    | map entries => simp [Rows.uptoBulk]
    | held h => simp [Rows.uptoBulk]
   simp only [Rows.uptoBulkAll, List.length_cons]; omega
theorem bulk_slice {t e : TypeId} {n : Nat} {a : Option Addr} {l c : Nat} {x : DataW H × List MemPlace} (ht : Tryz.prog.underlying t = some (.slice e)) (h : DataW.trod ec Tryz.prog w base spare held n t [.slice a l c] = some x) : l ≤ Rows.uptoBulk x.1 := by
 rcases Go.Deep.open_slice ht h with ⟨h1, _⟩ | ⟨a', len, cap, m, n', D, Pl, h1, _, _, _, _, h2, _⟩
 ·simp only [List.cons.injEq, Value.slice.injEq, and_true] at h1
  omega
 ·simp only [List.cons.injEq, Value.slice.injEq, and_true] at h1
  rw [h2]
  simp only [Rows.uptoBulk]
  have := bulk_len ((List.range len).map D)
  simp only [List.length_map, List.length_range] at this
  omega
end
theorem known_met {e : Ent} {x lo hi : Int} (h1 : 0 ≤ e.lo) (hx : 0 ≤ x) (hx2 : x ≤ 1099511627776) (h : max e.lo lo < min (endE e x) hi) : knownE e x = (e.lo, endE e x) := by
 have hk : knownE e x = spOf e.lo (endE e x) := by
  unfold knownE endE
  split
  ·rw [show behindI x = x + 1 by unfold behindI; omega]
  ·rfl
 rw [hk]
 unfold spOf
 rw [if_neg (by omega)]
end Go.Proofs.YtomlgkecckffeaaGreat

set_option maxRecDepth 100000
namespace Go.Proofs.YtomlgkecckffeaaGreat
open Go.VW
open Go.Instr (loadAt storeAt fieldAt indexAt)
noncomputable section
set_option linter.defProp false
variable {N : NT} {T : T3T} {M : MT} {G : GT} {H : HT} {Y : YT} {k : KT} {Q : Exit → Env → World → Prop} {e el eg : Env} {w u0 u1 u2 u3 u4 u5 u6 u7 u8 u9 : World}
/-! ### vouch/vouchlaw12.NodeAnswers -/
noncomputable def c4:Code:=(Tryz.f4.body.getD .skip)
-- K4: ↓hk4
/-! ### vouch/vouchlaw12.NodeBounds -/
-- K6: ↓hk6
/-! ### vouch/vouchlaw12.NodeSqueezes -/
-- K7: ↓hk7
/-! ### vouch/vouchlaw12.NodeOver -/
-- K11: ↓hk11
/-! ### vouch/vouchlaw12.taken -/
def V35 : Nat → Bool := fun i => [0, 1, 4, 5, 9, 17].elem i
noncomputable def c35:Code:=(Tryz.f35.body.getD .skip)
theorem call35 {a0 a1 : Value} {w : World} {R : Value → World → Prop} (h : W3 Tryz.prog 18 V35 c35 (retQ Tryz.prog [.tmp 4] R) (argE [a0, a1]) w) : CallsN Tryz.prog 35 [a0, a1] w R :=
 callsN_of_W3 (c := c35) (rs := [.tmp 4]) V35 Tryz.ntmps35 (by rw [Tryz.results35]) mixed Tryz.func35 (by kernel_rfl) (by kernel_rfl) (by kernel_rfl) (by kernel_rfl) (by simp) h
-- K35: ↓hk35
/-! ### vouch/vouchlaw12.kept -/
def V36 : Nat → Bool := fun i => [0, 1, 3, 4, 5, 6, 7, 8, 13, 25, 54].elem i
noncomputable def c36:Code:=(Tryz.f36.body.getD .skip)
theorem call36 {a0 a1 : Value} {w : World} {R : Value → World → Prop} (h : W3 Tryz.prog 55 V36 c36 (retQ Tryz.prog [.tmp 4] R) (argE [a0, a1]) w) : CallsN Tryz.prog 36 [a0, a1] w R :=
 callsN_of_W3 (c := c36) (rs := [.tmp 4]) V36 Tryz.ntmps36 (by rw [Tryz.results36]) mixed Tryz.func36 (by kernel_rfl) (by kernel_rfl) (by kernel_rfl) (by kernel_rfl) (by simp) h
-- K36: ↓hk36
/-! ### vouch/policy.Order -/
def V28 : Nat → Bool := fun i => [0, 2].elem i
noncomputable def c28:Code:=(Tryz.f28.body.getD .skip)
theorem call28 {a0 : Value} {w : World} {R : Value → World → Prop} (h : W3 Tryz.prog 5 V28 c28 (retQ Tryz.prog [.tmp 2] R) (argE [a0]) w) : CallsN Tryz.prog 28 [a0] w R :=
 callsN_of_W3 (c := c28) (rs := [.tmp 2]) V28 Tryz.ntmps28 (by rw [Tryz.results28]) mixed Tryz.func28 (by kernel_rfl) (by kernel_rfl) (by kernel_rfl) (by kernel_rfl) (by simp) h
-- K28: ↓hk28
end
end Go.Proofs.YtomlgkecckffeaaGreat

set_option maxRecDepth 10000
namespace Go.Proofs.YtomlgkecckffeaaGreat
open Go.VW
structure OpsAt (w : World) (v : Value) (os : List Op12) : Prop where
 sl : SlOf 12 encOp12 w v os
 len : os.length ≤ 2000000
 ok : ∀ o ∈ os, ∃ ks, o.ok w ks ∧ ks.length ≤ 2000000
theorem OpsAt.frN {w w' : World} {v : Value} {os : List Op12} (h : OpsAt w v os) (hf : Fr [] w w') : OpsAt w' v os :=
 ⟨h.sl.frN hf, h.len, fun o ho => by obtain ⟨ks, k1, k2⟩ := h.ok o ho; exact ⟨ks, ⟨k1.sl.frN hf, k1.len, k1.k0, k1.k1⟩, k2⟩⟩
structure NodeIn (W w : World) (a : Lay) (c : Cfg) (inc : Int) (M : Mem) (i : Int) : Prop where
 at_ : NodeAt w a c inc M
 ok : MOK c M i
 ge : ∀ y ∈ a.all, W.heap.size ≤ y
 fr : Fr [] W w
theorem NodeIn.frN {W w w' : World} {a : Lay} {c : Cfg} {inc : Int} {M : Mem} {i : Int} (h : NodeIn W w a c inc M i) (hf : Fr [] w w') : NodeIn W w' a c inc M i := ⟨h.at_.frN hf, h.ok, h.ge, h.fr.trans' hf⟩
section
variable {W w : World} {a : Lay} {c : Cfg} {inc : Int} {M : Mem} {i : Int} {K : Value → World → Prop}
theorem apply_in (h : NodeIn W w a c inc M i) (hc : CfgOK c) {x : KRec} (hs : SlOf 1 encS w (.slice x.r.a x.r.l x.r.c) x.ks) (hsl : x.ks.length ≤ 4000000000000)
  (hK : ∀ w' S' x', x'.r.n = x.r.n → x'.ks = x.ks → NodeIn W w' { a with S := S' } c inc (M.apply x.r.n x').1 i → K (.bool (M.apply x.r.n x').2) w') :
  CallsN Tryz.prog 20 [.pointer (some ⟨a.nb, 0, none⟩), .agg (encR x.r).toArray] w K := by
 have hb0 := hc.b0
 have hb1 := hc.b1
 exact apply_spec h.at_ h.ok.ti (by omega) h.ok.wf hs hsl fun w' S' x' q1 q2 h' hT' hg' hS' hf' => hK w' S' x' q1 q2 ⟨h', ⟨by rw [(apply_ins _ _ _).1]; exact hT', hg', by rw [(apply_ins _ _ _).1]; exact h.ok.i0, by rw [(apply_ins _ _ _).1]; exact h.ok.i1⟩, all_ge h.ge hS' h.fr.size, h.fr.trans hf' fun y hy => .inr (h.ge y hy)⟩
theorem new_in {c : Cfg} (hK : ∀ a w', NodeIn w w' a c.held 1 (Mem.zero c.held true 0) 0 → K (.pointer (some ⟨a.nb, 0, none⟩)) w') : CallsN Tryz.prog 15 [.agg (encCfg c).toArray] w K :=
 newN_spec fun a w' hf hge h => hK a w' ⟨h, MOK.zero _ _ _, hge, hf⟩
end
section
variable {H : Type} {ec : TypeId × Value → H} {w : World} {base : Nat} {spare : Nat → Bool} {held : Bool}
theorem bulk_mem {d : DataW H} {l : List (DataW H)} (h : d ∈ l) : Rows.uptoBulk d ≤ Rows.uptoBulkAll l := by
 induction l with
 | nil => cases h
 | cons x r ih =>
   simp only [Rows.uptoBulkAll]
   rcases List.mem_cons.1 h with rfl | h
   ·omega
   ·have := ih h; omega
end
theorem NodeIn.base {V W w : World} {a : Lay} {c : Cfg} {inc : Int} {M : Mem} {i : Int} (h : NodeIn W w a c inc M i) (hf : Fr [] V W) : NodeIn V w a c inc M i := ⟨h.at_, h.ok, fun y hy => Nat.le_trans hf.size (h.ge y hy), hf.trans' h.fr⟩
end Go.Proofs.YtomlgkecckffeaaGreat
