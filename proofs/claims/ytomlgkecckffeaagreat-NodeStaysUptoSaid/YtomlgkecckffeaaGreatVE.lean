/- The equations of the code of some functions, written by the printer gen3.py: each is checked by the kernel. -/
import Derived.Test.YtomlgkecckffeaaGreatCI
set_option linter.unusedVariables false
set_option linter.unusedSimpArgs false
set_option maxRecDepth 100000
namespace Go.Proofs.YtomlgkecckffeaaGreat
open Go.VW
open Go.Instr (loadAt storeAt fieldAt indexAt)
noncomputable section
set_option linter.defProp false
variable {N : NT} {T : T3T} {M : MT} {G : GT} {H : HT} {Y : YT} {k : KT} {Q : Exit → Env → World → Prop} {e el eg : Env} {w u0 u1 u2 u3 u4 u5 u6 u7 u8 u9 : World}
/-! ### vouch/policy.rank -/
def V147 : Nat → Bool := fun i => [0, 1, 2, 3, 7, 15].elem i
def cond147:=@s_cond Tryz.prog 22 V147
def reg147:=@s_reg Tryz.prog 22 V147
def rend147:=@s_rend Tryz.prog 22 V147
def seq147:=@s_seq Tryz.prog 22 V147
noncomputable def c147:Code:=(Tryz.f147.body.getD .skip)
noncomputable def c147_1:=cR c147
noncomputable def c147_2:=cR c147_1
noncomputable def c147_3:=cR c147_2
noncomputable def c147_4:=cR c147_3
noncomputable def c147_5:=cL c147_3
noncomputable def c147_6:=cR c147_5
noncomputable def c147_7:=cL c147_6
noncomputable def c147_8:=cL c147_1
noncomputable def c147_9:=cR c147_8
noncomputable def c147_10:=cL c147_9
def c147_4_s:=reg147 c147_4 .ret (fun N M G k e w =>
 M (e 3) fun t16 =>
 N (xv (fieldAt 52 (e 1) 2)) w fun t17 w =>
 N (xv (loadAt 2 t17)) w fun t18 w =>
 N (xv (fieldAt 52 (e 1) 3)) w fun t19 w =>
 N (xv (loadAt 2 t19)) w fun t20 w =>
 N (xv (Instr.build 202 ([(0, (.int .i64 1)), (1, t16), (2, t18), (3, t20)]).toArray)) w fun t21 w =>
 N (xu (storeAt 202 (e 2) t21)) w fun _ w =>
 k e w)
def c147_7_s:=rend147 c147_7 (fun N M G k e w =>
 M (.int .i64 1) fun t3 =>
 k (Env.p e 3 t3) w)
def c147_6_s:=cond147 c147_6 .skip 15 c147_7
def c147_5_s:=reg147 c147_5 c147_6 (fun N M G k e w =>
 N (xv (fieldAt 52 (e 1) 1)) w fun t14 w =>
 N (xv (loadAt 4 t14)) w fun t15 w =>
 k (Env.p e 15 t15) w)
def c147_3_s:=seq147 c147_3 c147_4 c147_5
def c147_2_s:=reg147 c147_2 c147_3 (fun N M G k e w =>
 M (.int .i64 0) fun t3 =>
 k (Env.p e 3 t3) w)
def c147_10_s:=reg147 c147_10 .ret (fun N M G k e w =>
 N (xv (fieldAt 52 (e 1) 0)) w fun t8 w =>
 N (xv (fieldAt 34 t8 3)) w fun t9 w =>
 N (xv (loadAt 2 t9)) w fun t10 w =>
 N (xv (fieldAt 52 (e 1) 3)) w fun t11 w =>
 N (xv (loadAt 2 t11)) w fun t12 w =>
 N (xv (Instr.build 202 ([(0, (.int .i64 0)), (1, (.int .i64 0)), (2, t10), (3, t12)]).toArray)) w fun t13 w =>
 N (xu (storeAt 202 (e 2) t13)) w fun _ w =>
 k e w)
def c147_9_s:=cond147 c147_9 .skip 7 c147_10
def c147_8_s:=reg147 c147_8 c147_9 (fun N M G k e w =>
 N (xv (fieldAt 52 (e 1) 0)) w fun t4 w =>
 N (xv (fieldAt 34 t4 3)) w fun t5 w =>
 N (xv (loadAt 2 t5)) w fun t6 w =>
 N (xv (xbin .neq 2 (.tmp 6) (.const (.int .i64 4611686018427387904)) t6 (.int .i64 4611686018427387904))) w fun t7 w =>
 k (Env.p e 7 t7) w)
def c147_1_s:=seq147 c147_1 c147_2 c147_8
def c147_s:=reg147 c147 c147_1 (fun N M G k e w =>
 N (xv (Instr.box 52 (e 0))) w fun t1 w =>
 N (xv (Instr.alloc 202 true (.tuple #[]))) w fun t2 w =>
 k (Env.p (Env.p e 1 t1) 2 t2) w)
theorem call147 {a0 : Value} {w : World} {R : Value → World → Prop} (h : W3 Tryz.prog 22 V147 c147 (retQ Tryz.prog [.cell 2 202] R) (argE [a0]) w) : CallsN Tryz.prog 147 [a0] w R :=
 callsN_of_W3 (c := c147) (rs := [.cell 2 202]) V147 Tryz.ntmps147 (by rw [Tryz.results147]) mixed Tryz.func147 (by kernel_rfl) (by kernel_rfl) (by kernel_rfl) (by kernel_rfl) (by simp) h
def w3t_147:=w3t Tryz.prog 22 V147
def hk147 := aI @c147_4_s <| aI @c147_7_s <| aI @c147_6_s <| aI @c147_5_s <| aI @c147_3_s <| aI @c147_2_s <| aI @c147_10_s <| aI @c147_9_s <| aI @c147_8_s <| aI @c147_1_s <| aI @c147_s <| @w3t_147
-- K147: ↓hk147
/-! ### vouch/policy.compare -/
def V87 : Nat → Bool := fun i => [0, 1, 2, 3, 4, 5, 6].elem i
def drw87:=@s_drw Tryz.prog 14 V87
def reg87:=@s_reg Tryz.prog 14 V87
noncomputable def c87:Code:=(Tryz.f87.body.getD .skip)
noncomputable def c87_1:=cR c87
noncomputable def b87_1:List Row:=[(0, 0, 4, 8, true), (1, 1, 128, 9, false), (0, 0, 8, 10, true), (6, 7, 512, 11, false), (0, 0, 0, 6, false), (0, 0, 0, 7, false), (59, 63, 288, 0, false), (127, 127, 1088, 0, false)]
noncomputable def c87_2:=cR c87_1
noncomputable def b87_2:List Row:=[(0, 0, 32, 12, true), (0, 0, 64, 13, true), (3, 3, 6144, 14, false), (7, 7, 8192, 5, true)]
def c87_2_s:=drw87 c87_2 .ret b87_2 4 (fun N T M G H Y k e w =>
 T (FrX none w) (xv (Instr.sliceAt 202 (e 5) none none none)) fun t11 =>
 T (FrX none w) (xv (Instr.sliceAt 202 (e 6) none none none)) fun t12 =>
 N (xcall (.func (.func 148) #[] #[]) [t11, t12]) w fun t13 w2 =>
 M t13 fun t4 =>
 k (Env.p e 4 t4) w2)
def c87_1_s:=drw87 c87_1 c87_2 b87_1 8 (fun N T M G H Y k e w =>
 T (FrX (some []) w) (xv (loadAt 52 (e 2))) fun t7 =>
 T (FrX (some []) w) (xv (loadAt 52 (e 3))) fun t9 =>
 (N (xcall (.func (.func 147) #[] #[]) [t7]) w fun t8 w1 =>
 Y true (xv (loadAt 52 (e 3))) t9 w w1 ∧ ((N (xcall (.func (.func 147) #[] #[]) [t9]) w1 fun t10 w3 =>
 (N (xv (Instr.alloc 202 true (.tuple #[]))) w3 fun t5 w4 =>
 N (xv (Instr.alloc 202 true (.tuple #[]))) w4 fun t6 w5 =>
 N (xu (storeAt 202 t5 t8)) w5 fun _ w6 =>
 N (xu (storeAt 202 t6 t10)) w6 fun _ w7 =>
 k (Env.p (Env.p e 5 t5) 6 t6) w7) ∧ (N (xv (Instr.alloc 202 true (.tuple #[]))) w3 fun t6 w5 =>
 N (xv (Instr.alloc 202 true (.tuple #[]))) w5 fun t5 w4 =>
 N (xu (storeAt 202 t5 t8)) w4 fun _ w6 =>
 N (xu (storeAt 202 t6 t10)) w6 fun _ w7 =>
 k (Env.p (Env.p e 6 t6) 5 t5) w7)) ∧ (N (xv (Instr.alloc 202 true (.tuple #[]))) w1 fun t5 w4 =>
 Y true (xv (loadAt 52 (e 3))) t9 w w4 ∧ ((N (xcall (.func (.func 147) #[] #[]) [t9]) w4 fun t10 w3 =>
 N (xv (Instr.alloc 202 true (.tuple #[]))) w3 fun t6 w5 =>
 N (xu (storeAt 202 t5 t8)) w5 fun _ w6 =>
 N (xu (storeAt 202 t6 t10)) w6 fun _ w7 =>
 k (Env.p (Env.p e 5 t5) 6 t6) w7) ∧ (N (xv (Instr.alloc 202 true (.tuple #[]))) w4 fun t6 w5 =>
 Y true (xv (loadAt 52 (e 3))) t9 w w5 ∧ (N (xcall (.func (.func 147) #[] #[]) [t9]) w5 fun t10 w3 =>
 N (xu (storeAt 202 t5 t8)) w3 fun _ w6 =>
 N (xu (storeAt 202 t6 t10)) w6 fun _ w7 =>
 k (Env.p (Env.p e 5 t5) 6 t6) w7)))) ∧ (N (xv (Instr.alloc 202 true (.tuple #[]))) w1 fun t6 w5 =>
 Y true (xv (loadAt 52 (e 3))) t9 w w5 ∧ ((N (xcall (.func (.func 147) #[] #[]) [t9]) w5 fun t10 w3 =>
 N (xv (Instr.alloc 202 true (.tuple #[]))) w3 fun t5 w4 =>
 N (xu (storeAt 202 t5 t8)) w4 fun _ w6 =>
 N (xu (storeAt 202 t6 t10)) w6 fun _ w7 =>
 k (Env.p (Env.p e 6 t6) 5 t5) w7) ∧ (N (xv (Instr.alloc 202 true (.tuple #[]))) w5 fun t5 w4 =>
 Y true (xv (loadAt 52 (e 3))) t9 w w4 ∧ (N (xcall (.func (.func 147) #[] #[]) [t9]) w4 fun t10 w3 =>
 N (xu (storeAt 202 t5 t8)) w3 fun _ w6 =>
 N (xu (storeAt 202 t6 t10)) w6 fun _ w7 =>
 k (Env.p (Env.p e 6 t6) 5 t5) w7)))))) ∧ (N (xv (Instr.alloc 202 true (.tuple #[]))) w fun t5 w4 =>
 Y true (xv (loadAt 52 (e 3))) t9 w w4 ∧ (Y true (xv (loadAt 52 (e 2))) t7 w w4 ∧ ((N (xcall (.func (.func 147) #[] #[]) [t7]) w4 fun t8 w1 =>
 Y true (xv (loadAt 52 (e 3))) t9 w w1 ∧ ((N (xcall (.func (.func 147) #[] #[]) [t9]) w1 fun t10 w3 =>
 N (xv (Instr.alloc 202 true (.tuple #[]))) w3 fun t6 w5 =>
 N (xu (storeAt 202 t5 t8)) w5 fun _ w6 =>
 N (xu (storeAt 202 t6 t10)) w6 fun _ w7 =>
 k (Env.p (Env.p e 5 t5) 6 t6) w7) ∧ (N (xv (Instr.alloc 202 true (.tuple #[]))) w1 fun t6 w5 =>
 Y true (xv (loadAt 52 (e 3))) t9 w w5 ∧ (N (xcall (.func (.func 147) #[] #[]) [t9]) w5 fun t10 w3 =>
 N (xu (storeAt 202 t5 t8)) w3 fun _ w6 =>
 N (xu (storeAt 202 t6 t10)) w6 fun _ w7 =>
 k (Env.p (Env.p e 5 t5) 6 t6) w7)))) ∧ (N (xv (Instr.alloc 202 true (.tuple #[]))) w4 fun t6 w5 =>
 Y true (xv (loadAt 52 (e 3))) t9 w w5 ∧ (Y true (xv (loadAt 52 (e 2))) t7 w w5 ∧ (N (xcall (.func (.func 147) #[] #[]) [t7]) w5 fun t8 w1 =>
 Y true (xv (loadAt 52 (e 3))) t9 w w1 ∧ (N (xcall (.func (.func 147) #[] #[]) [t9]) w1 fun t10 w3 =>
 N (xu (storeAt 202 t5 t8)) w3 fun _ w6 =>
 N (xu (storeAt 202 t6 t10)) w6 fun _ w7 =>
 k (Env.p (Env.p e 5 t5) 6 t6) w7))))))) ∧ (N (xv (Instr.alloc 202 true (.tuple #[]))) w fun t6 w5 =>
 Y true (xv (loadAt 52 (e 3))) t9 w w5 ∧ (Y true (xv (loadAt 52 (e 2))) t7 w w5 ∧ ((N (xcall (.func (.func 147) #[] #[]) [t7]) w5 fun t8 w1 =>
 Y true (xv (loadAt 52 (e 3))) t9 w w1 ∧ ((N (xcall (.func (.func 147) #[] #[]) [t9]) w1 fun t10 w3 =>
 N (xv (Instr.alloc 202 true (.tuple #[]))) w3 fun t5 w4 =>
 N (xu (storeAt 202 t5 t8)) w4 fun _ w6 =>
 N (xu (storeAt 202 t6 t10)) w6 fun _ w7 =>
 k (Env.p (Env.p e 6 t6) 5 t5) w7) ∧ (N (xv (Instr.alloc 202 true (.tuple #[]))) w1 fun t5 w4 =>
 Y true (xv (loadAt 52 (e 3))) t9 w w4 ∧ (N (xcall (.func (.func 147) #[] #[]) [t9]) w4 fun t10 w3 =>
 N (xu (storeAt 202 t5 t8)) w3 fun _ w6 =>
 N (xu (storeAt 202 t6 t10)) w6 fun _ w7 =>
 k (Env.p (Env.p e 6 t6) 5 t5) w7)))) ∧ (N (xv (Instr.alloc 202 true (.tuple #[]))) w5 fun t5 w4 =>
 Y true (xv (loadAt 52 (e 3))) t9 w w4 ∧ (Y true (xv (loadAt 52 (e 2))) t7 w w4 ∧ (N (xcall (.func (.func 147) #[] #[]) [t7]) w4 fun t8 w1 =>
 Y true (xv (loadAt 52 (e 3))) t9 w w1 ∧ (N (xcall (.func (.func 147) #[] #[]) [t9]) w1 fun t10 w3 =>
 N (xu (storeAt 202 t5 t8)) w3 fun _ w6 =>
 N (xu (storeAt 202 t6 t10)) w6 fun _ w7 =>
 k (Env.p (Env.p e 6 t6) 5 t5) w7))))))))
def c87_s:=reg87 c87 c87_1 (fun N M G k e w =>
 N (xv (Instr.box 52 (e 0))) w fun t2 w =>
 N (xv (Instr.box 52 (e 1))) w fun t3 w =>
 M (.int .i64 0) fun t4 =>
 k (Env.p (Env.p (Env.p e 2 t2) 3 t3) 4 t4) w)
theorem call87 {a0 a1 : Value} {w : World} {R : Value → World → Prop} (h : W3 Tryz.prog 14 V87 c87 (retQ Tryz.prog [.tmp 4] R) (argE [a0, a1]) w) : CallsN Tryz.prog 87 [a0, a1] w R :=
 callsN_of_W3 (c := c87) (rs := [.tmp 4]) V87 Tryz.ntmps87 (by rw [Tryz.results87]) mixed Tryz.func87 (by kernel_rfl) (by kernel_rfl) (by kernel_rfl) (by kernel_rfl) (by simp) h
def w3t_87:=w3t Tryz.prog 14 V87
def hk87 := aI @c87_2_s <| aI @c87_1_s <| aI @c87_s <| @w3t_87
-- K87: ↓hk87
/-! ### vouch/policy.Before -/
def V149 : Nat → Bool := fun i => [0, 1, 2, 3, 4].elem i
def reg149:=@s_reg Tryz.prog 9 V149
noncomputable def c149:Code:=(Tryz.f149.body.getD .skip)
noncomputable def c149_1:=cR c149
def c149_1_s:=reg149 c149_1 .ret (fun N M G k e w =>
 N (xv (loadAt 52 (e 2))) w fun t5 w =>
 N (xv (loadAt 52 (e 3))) w fun t6 w =>
 N (xcall (.func (.func 87) #[] #[]) [t5, t6]) w fun t7 w =>
 N (xv (xbin .lss 3 (.tmp 7) (.const (.int .i64 0)) t7 (.int .i64 0))) w fun t8 w =>
 M t8 fun t4 =>
 k (Env.p e 4 t4) w)
def c149_s:=reg149 c149 c149_1 (fun N M G k e w =>
 N (xv (Instr.box 52 (e 0))) w fun t2 w =>
 N (xv (Instr.box 52 (e 1))) w fun t3 w =>
 M (.bool false) fun t4 =>
 k (Env.p (Env.p (Env.p e 2 t2) 3 t3) 4 t4) w)
theorem call149 {a0 a1 : Value} {w : World} {R : Value → World → Prop} (h : W3 Tryz.prog 9 V149 c149 (retQ Tryz.prog [.tmp 4] R) (argE [a0, a1]) w) : CallsN Tryz.prog 149 [a0, a1] w R :=
 callsN_of_W3 (c := c149) (rs := [.tmp 4]) V149 Tryz.ntmps149 (by rw [Tryz.results149]) mixed Tryz.func149 (by kernel_rfl) (by kernel_rfl) (by kernel_rfl) (by kernel_rfl) (by simp) h
def w3t_149:=w3t Tryz.prog 9 V149
def hk149 := aI @c149_1_s <| aI @c149_s <| @w3t_149
-- K149: ↓hk149
/-! ### vouch/policy.Victim -/
def V88 : Nat → Bool := fun i => [0, 2, 3, 4, 5, 6, 7, 8, 9, 22].elem i
def block88:=@s_block Tryz.prog 26 V88
def cond88:=@s_cond Tryz.prog 26 V88
def drw88:=@s_drw Tryz.prog 26 V88
def loop88:=@s_loop Tryz.prog 26 V88
def reg88:=@s_reg Tryz.prog 26 V88
def rend88:=@s_rend Tryz.prog 26 V88
def seq88:=@s_seq Tryz.prog 26 V88
noncomputable def c88:Code:=(Tryz.f88.body.getD .skip)
noncomputable def c88_1:=cR c88
noncomputable def c88_2:=cR c88_1
noncomputable def c88_3:=cR c88_2
noncomputable def c88_4:=cL c88_2
noncomputable def c88_5:=cR c88_4
noncomputable def c88_6:=cL c88_5
noncomputable def c88_7:=cL c88_6
noncomputable def c88_8:=cR c88_7
noncomputable def c88_9:=cR c88_8
noncomputable def c88_10:=cR c88_9
noncomputable def c88_11:=cL c88_9
noncomputable def c88_12:=cL c88_11
noncomputable def c88_13:=cR c88_12
noncomputable def b88_5:List Row:=[(0, 0, 8, 14, true), (1, 1, 8192, 15, true), (2, 3, 16384, 16, true), (4, 7, 32800, 17, true), (4, 7, 32769, 18, true), (4, 7, 32776, 19, true), (52, 55, 425984, 20, true), (68, 119, 557056, 21, true), (140, 255, 1146880, 22, false), (260, 511, 2129920, 23, true)]
noncomputable def c88_14:=cR c88_13
noncomputable def c88_15:=cL c88_14
noncomputable def c88_16:=cL c88_8
def c88_3_s:=reg88 c88_3 .ret (fun N M G k e w =>
 M (e 3) fun t25 =>
 M t25 fun t2 =>
 k (Env.p e 2 t2) w)
def c88_10_s:=rend88 c88_10 (fun N M G k e w =>
 N (xv (xbin .add 3 (.tmp 8) (.const (.int .i64 1)) (e 8) (.int .i64 1))) w fun t24 w =>
 M t24 fun t8 =>
 k (Env.p e 8 t8) w)
def c88_15_s:=rend88 c88_15 (fun N M G k e w =>
 M (e 4) fun t23 =>
 M t23 fun t3 =>
 k (Env.p e 3 t3) w)
def c88_14_s:=cond88 c88_14 .skip 22 c88_15
def c88_13_s:=drw88 c88_13 c88_14 b88_5 10 (fun N T M G H Y k e w =>
 M (e 3) fun t13 =>
 T (FrX none w) (xv (xbin .lss 3 (.tmp 13) (.const (.int .i64 0)) t13 (.int .i64 0))) fun t14 =>
 M t14 fun t15 =>
 H (isB t15 false) (fun K => T (FrX (some []) w) (xv (loadAt 52 (e 5))) K) (fun t16 =>
 H (isB t15 false) (fun K => M (e 0) K) (fun t17 =>
 H (isB t15 false) (fun K => M (e 3) K) (fun t18 =>
 H (isB t15 false) (fun K => T (FrX none w) (xv (indexAt 41 t17 t18)) K) (fun t19 =>
 H (isB t15 false) (fun K => T (FrX (some []) w) (xv (loadAt 52 t19)) K) (fun t20 =>
 G (isB t15 false) (fun K => N (xcall (.func (.func 149) #[] #[]) [t16, t20]) w K) (fun t21 w8 =>
 T (FrX none w8) (xpick t15 (.bool true) t21) fun t22 =>
 k (Env.p e 22 t22) w8) w))))))
def c88_12_s:=reg88 c88_12 c88_13 (fun N M G k e w =>
 M (e 8) fun t10 =>
 N (xv (indexAt 41 (e 6) (e 8))) w fun t11 w =>
 N (xv (loadAt 52 t11)) w fun t12 w =>
 N (xv (Instr.alloc 52 true (.tuple #[]))) w fun t5 w =>
 M t10 fun t4 =>
 N (xu (storeAt 52 t5 t12)) w fun _ w =>
 k (Env.p (Env.p e 5 t5) 4 t4) w)
def c88_11_s:=block88 c88_11 c88_12 1
def c88_9_s:=seq88 c88_9 c88_10 c88_11
def c88_16_s:=cond88 c88_16 (.exit 0) 9 .skip
def c88_8_s:=seq88 c88_8 c88_9 c88_16
def c88_7_s:=reg88 c88_7 c88_8 (fun N M G k e w =>
 N (xv (xbin .lss 3 (.tmp 8) (.tmp 7) (e 8) (e 7))) w fun t9 w =>
 k (Env.p e 9 t9) w)
def c88_6_s:=loop88 c88_6 c88_7
def c88_5_s:=block88 c88_5 c88_6 0
def c88_4_s:=reg88 c88_4 c88_5 (fun N M G k e w =>
 M (e 0) fun t6 =>
 N (builtin Builtin.len #[41] 3 ([false]).toArray ([t6]).toArray) w fun t7 w =>
 M (.int .i64 0) fun t8 =>
 k (Env.p (Env.p (Env.p e 6 t6) 7 t7) 8 t8) w)
def c88_2_s:=seq88 c88_2 c88_3 c88_4
def c88_1_s:=reg88 c88_1 c88_2 (fun N M G k e w =>
 M (.int .i64 (-1)) fun t3 =>
 k (Env.p e 3 t3) w)
def c88_s:=reg88 c88 c88_1 (fun N M G k e w =>
 M (.int .i64 0) fun t2 =>
 k (Env.p e 2 t2) w)
theorem call88 {a0 : Value} {w : World} {R : Value → World → Prop} (h : W3 Tryz.prog 26 V88 c88 (retQ Tryz.prog [.tmp 2] R) (argE [a0]) w) : CallsN Tryz.prog 88 [a0] w R :=
 callsN_of_W3 (c := c88) (rs := [.tmp 2]) V88 Tryz.ntmps88 (by rw [Tryz.results88]) mixed Tryz.func88 (by kernel_rfl) (by kernel_rfl) (by kernel_rfl) (by kernel_rfl) (by simp) h
def w3t_88:=w3t Tryz.prog 26 V88
def hk88 := aI @c88_3_s <| aI @c88_10_s <| aI @c88_15_s <| aI @c88_14_s <| aI @c88_13_s <| aI @c88_12_s <| aI @c88_11_s <| aI @c88_9_s <| aI @c88_16_s <| aI @c88_8_s <| aI @c88_7_s <| aI @c88_6_s <| aI @c88_5_s <| aI @c88_4_s <| aI @c88_2_s <| aI @c88_1_s <| aI @c88_s <| @w3t_88
-- K88: ↓hk88
/-! ### vouch/policy.places -/
def V86 : Nat → Bool := fun i => [0, 1, 2, 3, 4, 5, 6, 8, 9, 10].elem i
def block86:=@s_block Tryz.prog 21 V86
def cond86:=@s_cond Tryz.prog 21 V86
def loop86:=@s_loop Tryz.prog 21 V86
def reg86:=@s_reg Tryz.prog 21 V86
def rend86:=@s_rend Tryz.prog 21 V86
def seq86:=@s_seq Tryz.prog 21 V86
noncomputable def c86:Code:=(Tryz.f86.body.getD .skip)
noncomputable def c86_1:=cR c86
noncomputable def c86_2:=cR c86_1
noncomputable def c86_3:=cR c86_2
noncomputable def c86_4:=cR c86_3
noncomputable def c86_5:=cL c86_2
noncomputable def c86_6:=cR c86_5
noncomputable def c86_7:=cL c86_6
noncomputable def c86_8:=cL c86_7
noncomputable def c86_9:=cR c86_8
noncomputable def c86_10:=cR c86_9
noncomputable def c86_11:=cR c86_10
noncomputable def c86_12:=cL c86_10
noncomputable def c86_13:=cL c86_12
noncomputable def c86_14:=cR c86_13
noncomputable def c86_15:=cL c86_9
def c86_4_s:=reg86 c86_4 .ret (fun N M G k e w =>
 M (e 5) fun t20 =>
 M t20 fun t4 =>
 k (Env.p e 4 t4) w)
def c86_3_s:=reg86 c86_3 c86_4 (fun N M G k e w =>
 M (e 5) fun t17 =>
 N (xv (Instr.makeFunc (Fn.func 146) ([]).toArray ([(e 3), (e 2)]).toArray)) w fun t18 w =>
 N (xcall (.func (.func 145) #[] #[]) [t17, t18]) w fun t19 w =>
 k e w)
def c86_11_s:=rend86 c86_11 (fun N M G k e w =>
 N (xv (xbin .add 3 (.tmp 9) (.const (.int .i64 1)) (e 9) (.int .i64 1))) w fun t16 w =>
 M t16 fun t9 =>
 k (Env.p e 9 t9) w)
def c86_14_s:=rend86 c86_14 (fun N M G k e w =>
 M (e 5) fun t12 =>
 M (e 6) fun t13 =>
 N (xv (Instr.buildSlice 63 1 ([(0, t13)]).toArray)) w fun t14 w =>
 N (builtin Builtin.append #[63, 63] 63 ([false, false]).toArray ([t12, t14]).toArray) w fun t15 w =>
 M t15 fun t5 =>
 k (Env.p e 5 t5) w)
def c86_13_s:=reg86 c86_13 c86_14 (fun N M G k e w =>
 M (e 9) fun t11 =>
 M t11 fun t6 =>
 k (Env.p e 6 t6) w)
def c86_12_s:=block86 c86_12 c86_13 1
def c86_10_s:=seq86 c86_10 c86_11 c86_12
def c86_15_s:=cond86 c86_15 (.exit 0) 10 .skip
def c86_9_s:=seq86 c86_9 c86_10 c86_15
def c86_8_s:=reg86 c86_8 c86_9 (fun N M G k e w =>
 N (xv (xbin .lss 3 (.tmp 9) (.tmp 8) (e 9) (e 8))) w fun t10 w =>
 k (Env.p e 10 t10) w)
def c86_7_s:=loop86 c86_7 c86_8
def c86_6_s:=block86 c86_6 c86_7 0
def c86_5_s:=reg86 c86_5 c86_6 (fun N M G k e w =>
 N (xv (loadAt 41 (e 2))) w fun t7 w =>
 N (builtin Builtin.len #[41] 3 ([false]).toArray ([t7]).toArray) w fun t8 w =>
 M (.int .i64 0) fun t9 =>
 k (Env.p (Env.p e 8 t8) 9 t9) w)
def c86_2_s:=seq86 c86_2 c86_3 c86_5
def c86_1_s:=reg86 c86_1 c86_2 (fun N M G k e w =>
 M (.slice none 0 0) fun t5 =>
 k (Env.p e 5 t5) w)
def c86_s:=reg86 c86 c86_1 (fun N M G k e w =>
 N (xv (Instr.box 41 (e 0))) w fun t2 w =>
 N (xv (Instr.box 141 (e 1))) w fun t3 w =>
 M (.slice none 0 0) fun t4 =>
 k (Env.p (Env.p (Env.p e 2 t2) 3 t3) 4 t4) w)
theorem call86 {a0 a1 : Value} {w : World} {R : Value → World → Prop} (h : W3 Tryz.prog 21 V86 c86 (retQ Tryz.prog [.tmp 4] R) (argE [a0, a1]) w) : CallsN Tryz.prog 86 [a0, a1] w R :=
 callsN_of_W3 (c := c86) (rs := [.tmp 4]) V86 Tryz.ntmps86 (by rw [Tryz.results86]) mixed Tryz.func86 (by kernel_rfl) (by kernel_rfl) (by kernel_rfl) (by kernel_rfl) (by simp) h
def w3t_86:=w3t Tryz.prog 21 V86
def hk86 := aI @c86_4_s <| aI @c86_3_s <| aI @c86_11_s <| aI @c86_14_s <| aI @c86_13_s <| aI @c86_12_s <| aI @c86_10_s <| aI @c86_15_s <| aI @c86_9_s <| aI @c86_8_s <| aI @c86_7_s <| aI @c86_6_s <| aI @c86_5_s <| aI @c86_2_s <| aI @c86_1_s <| aI @c86_s <| @w3t_86
-- K86: ↓hk86
/-! ### vouch/policy.places$1 -/
def V146 : Nat → Bool := fun i => [0, 1, 2, 3, 6].elem i
def drw146:=@s_drw Tryz.prog 17 V146
def reg146:=@s_reg Tryz.prog 17 V146
noncomputable def c146:Code:=(Tryz.f146.body.getD .skip)
noncomputable def c146_1:=cR c146
noncomputable def b146_1:List Row:=[(0, 0, 4, 8, true), (0, 0, 8, 9, true), (0, 0, 1, 10, true), (6, 6, 768, 11, true), (8, 14, 1024, 12, true), (0, 0, 8, 13, true), (0, 0, 2, 14, true), (96, 96, 12288, 15, true), (128, 224, 16384, 16, true), (273, 511, 34944, 17, false), (1023, 1023, 65536, 7, true)]
def c146_1_s:=drw146 c146_1 .ret b146_1 11 (fun N T M G H Y k e w =>
 T (FrX (some []) w) (xv (loadAt 141 (e 2))) fun t7 =>
 T (FrX (some []) w) (xv (loadAt 41 (e 3))) fun t8 =>
 M (e 0) fun t9 =>
 T (FrX none w) (xv (indexAt 41 t8 t9)) fun t10 =>
 T (FrX (some []) w) (xv (loadAt 52 t10)) fun t11 =>
 T (FrX (some []) w) (xv (loadAt 41 (e 3))) fun t12 =>
 M (e 1) fun t13 =>
 T (FrX none w) (xv (indexAt 41 t12 t13)) fun t14 =>
 T (FrX (some []) w) (xv (loadAt 52 t14)) fun t15 =>
 N (xcall t7 [t11, t15]) w fun t16 w9 =>
 M t16 fun t6 =>
 k (Env.p e 6 t6) w9)
def c146_s:=reg146 c146 c146_1 (fun N M G k e w =>
 M (.int .i64 0) fun t6 =>
 k (Env.p e 6 t6) w)
theorem call146 {a0 a1 a2 a3 : Value} {w : World} {R : Value → World → Prop} (h : W3 Tryz.prog 17 V146 c146 (retQ Tryz.prog [.tmp 6] R) (argE [a0, a1, a2, a3]) w) : CallsN Tryz.prog 146 [a0, a1, a2, a3] w R :=
 callsN_of_W3 (c := c146) (rs := [.tmp 6]) V146 Tryz.ntmps146 (by rw [Tryz.results146]) mixed Tryz.func146 (by kernel_rfl) (by kernel_rfl) (by kernel_rfl) (by kernel_rfl) (by simp) h
def w3t_146:=w3t Tryz.prog 17 V146
def hk146 := aI @c146_1_s <| aI @c146_s <| @w3t_146
-- K146: ↓hk146
/-! ### vouch/policy.Demote -/
def V142 : Nat → Bool := fun i => [0, 1, 2, 4, 5, 6].elem i
def reg142:=@s_reg Tryz.prog 20 V142
noncomputable def c142:Code:=(Tryz.f142.body.getD .skip)
noncomputable def c142_1:=cR c142
noncomputable def c142_2:=cR c142_1
noncomputable def c142_3:=cR c142_2
def c142_3_s:=reg142 c142_3 .ret (fun N M G k e w =>
 M (e 6) fun t12 =>
 M (e 6) fun t13 =>
 N (builtin Builtin.len #[63] 3 ([false]).toArray ([t13]).toArray) w fun t14 w =>
 M (e 1) fun t15 =>
 N (builtin Builtin.max #[3, 3] 3 ([false, true]).toArray ([t15, (.int .i64 0)]).toArray) w fun t16 w =>
 N (xv (xbin .sub 3 (.tmp 14) (.tmp 16) t14 t16)) w fun t17 w =>
 N (builtin Builtin.max #[3, 3] 3 ([false, true]).toArray ([t17, (.int .i64 0)]).toArray) w fun t18 w =>
 N (xv (Instr.sliceAt 63 t12 none (some t18) none)) w fun t19 w =>
 M t19 fun t4 =>
 k (Env.p e 4 t4) w)
def c142_2_s:=reg142 c142_2 c142_3 (fun N M G k e w =>
 M (e 5) fun t9 =>
 N (xv (Instr.makeFunc (Fn.func 184) ([]).toArray ([(e 2)]).toArray)) w fun t10 w =>
 N (xcall (.func (.func 183) #[] #[]) [t9, t10]) w fun t11 w =>
 M t11 fun t6 =>
 k (Env.p e 6 t6) w)
def c142_1_s:=reg142 c142_1 c142_2 (fun N M G k e w =>
 N (xv (loadAt 41 (e 2))) w fun t7 w =>
 N (xcall (.func (.func 86) #[] #[]) [t7, (.func (.func 180) #[] #[])]) w fun t8 w =>
 M t8 fun t5 =>
 k (Env.p e 5 t5) w)
def c142_s:=reg142 c142 c142_1 (fun N M G k e w =>
 N (xv (Instr.box 41 (e 0))) w fun t2 w =>
 M (.slice none 0 0) fun t4 =>
 k (Env.p (Env.p e 2 t2) 4 t4) w)
theorem call142 {a0 a1 : Value} {w : World} {R : Value → World → Prop} (h : W3 Tryz.prog 20 V142 c142 (retQ Tryz.prog [.tmp 4] R) (argE [a0, a1]) w) : CallsN Tryz.prog 142 [a0, a1] w R :=
 callsN_of_W3 (c := c142) (rs := [.tmp 4]) V142 Tryz.ntmps142 (by rw [Tryz.results142]) mixed Tryz.func142 (by kernel_rfl) (by kernel_rfl) (by kernel_rfl) (by kernel_rfl) (by simp) h
def w3t_142:=w3t Tryz.prog 20 V142
def hk142 := aI @c142_3_s <| aI @c142_2_s <| aI @c142_1_s <| aI @c142_s <| @w3t_142
-- K142: ↓hk142
/-! ### vouch/policy.Demote$1 -/
def V180 : Nat → Bool := fun i => [0, 1, 2, 3, 4].elem i
def drw180:=@s_drw Tryz.prog 17 V180
def reg180:=@s_reg Tryz.prog 17 V180
noncomputable def c180:Code:=(Tryz.f180.body.getD .skip)
noncomputable def c180_1:=cR c180
noncomputable def b180_1:List Row:=[(0, 0, 4, 6, true), (1, 1, 32, 7, true), (0, 0, 8, 8, true), (4, 4, 128, 9, true), (10, 15, 320, 10, false), (0, 0, 4, 11, true), (32, 32, 1024, 12, true), (0, 0, 8, 13, true), (128, 128, 4096, 14, true), (336, 511, 10240, 15, false), (528, 1023, 16896, 16, false), (1536, 2047, 32768, 17, false), (4095, 4095, 65536, 5, true)]
def c180_1_s:=drw180 c180_1 .ret b180_1 13 (fun N T M G H Y k e w =>
 T (FrX none w) (xv (fieldAt 52 (e 2) 2)) fun t5 =>
 T (FrX (some []) w) (xv (loadAt 2 t5)) fun t6 =>
 T (FrX none w) (xv (fieldAt 52 (e 3) 2)) fun t7 =>
 T (FrX (some []) w) (xv (loadAt 2 t7)) fun t8 =>
 T (FrX none w) (xv (fieldAt 52 (e 2) 3)) fun t10 =>
 T (FrX (some []) w) (xv (loadAt 2 t10)) fun t11 =>
 T (FrX none w) (xv (fieldAt 52 (e 3) 3)) fun t12 =>
 T (FrX (some []) w) (xv (loadAt 2 t12)) fun t13 =>
 N (xcall (.func (.func 182) #[] #[]) [t6, t8]) w fun t9 w4 =>
 Y true (xv (loadAt 2 t12)) t13 w w4 ∧ (Y true (xv (loadAt 2 t10)) t11 w w4 ∧ (N (xcall (.func (.func 182) #[] #[]) [t11, t13]) w4 fun t14 w9 =>
 N (xv (Instr.buildSlice 63 2 ([(0, t9), (1, t14)]).toArray)) w9 fun t15 w10 =>
 N (xcall (.func (.func 181) #[] #[]) [t15]) w10 fun t16 w11 =>
 M t16 fun t4 =>
 k (Env.p e 4 t4) w11)))
def c180_s:=reg180 c180 c180_1 (fun N M G k e w =>
 N (xv (Instr.box 52 (e 0))) w fun t2 w =>
 N (xv (Instr.box 52 (e 1))) w fun t3 w =>
 M (.int .i64 0) fun t4 =>
 k (Env.p (Env.p (Env.p e 2 t2) 3 t3) 4 t4) w)
theorem call180 {a0 a1 : Value} {w : World} {R : Value → World → Prop} (h : W3 Tryz.prog 17 V180 c180 (retQ Tryz.prog [.tmp 4] R) (argE [a0, a1]) w) : CallsN Tryz.prog 180 [a0, a1] w R :=
 callsN_of_W3 (c := c180) (rs := [.tmp 4]) V180 Tryz.ntmps180 (by rw [Tryz.results180]) mixed Tryz.func180 (by kernel_rfl) (by kernel_rfl) (by kernel_rfl) (by kernel_rfl) (by simp) h
def w3t_180:=w3t Tryz.prog 17 V180
def hk180 := aI @c180_1_s <| aI @c180_s <| @w3t_180
-- K180: ↓hk180
/-! ### vouch/policy.Demote$2 -/
def V184 : Nat → Bool := fun i => [0, 1, 3].elem i
def reg184:=@s_reg Tryz.prog 10 V184
noncomputable def c184:Code:=(Tryz.f184.body.getD .skip)
noncomputable def c184_1:=cR c184
def c184_1_s:=reg184 c184_1 .ret (fun N M G k e w =>
 N (xv (loadAt 41 (e 1))) w fun t4 w =>
 M (e 0) fun t5 =>
 N (xv (indexAt 41 t4 t5)) w fun t6 w =>
 N (xv (fieldAt 52 t6 1)) w fun t7 w =>
 N (xv (loadAt 4 t7)) w fun t8 w =>
 N (xv (Op.unary .not t8)) w fun t9 w =>
 M t9 fun t3 =>
 k (Env.p e 3 t3) w)
def c184_s:=reg184 c184 c184_1 (fun N M G k e w =>
 M (.bool false) fun t3 =>
 k (Env.p e 3 t3) w)
theorem call184 {a0 a1 : Value} {w : World} {R : Value → World → Prop} (h : W3 Tryz.prog 10 V184 c184 (retQ Tryz.prog [.tmp 3] R) (argE [a0, a1]) w) : CallsN Tryz.prog 184 [a0, a1] w R :=
 callsN_of_W3 (c := c184) (rs := [.tmp 3]) V184 Tryz.ntmps184 (by rw [Tryz.results184]) mixed Tryz.func184 (by kernel_rfl) (by kernel_rfl) (by kernel_rfl) (by kernel_rfl) (by simp) h
def w3t_184:=w3t Tryz.prog 10 V184
def hk184 := aI @c184_1_s <| aI @c184_s <| @w3t_184
-- K184: ↓hk184
/-! ### cmp.Or[int] -/
def V181 : Nat → Bool := fun i => [0, 2, 3, 5, 6, 7, 8, 9, 14].elem i
def block181:=@s_block Tryz.prog 18 V181
def cond181:=@s_cond Tryz.prog 18 V181
def loop181:=@s_loop Tryz.prog 18 V181
def reg181:=@s_reg Tryz.prog 18 V181
def rend181:=@s_rend Tryz.prog 18 V181
def seq181:=@s_seq Tryz.prog 18 V181
noncomputable def c181:Code:=(Tryz.f181.body.getD .skip)
noncomputable def c181_1:=cR c181
noncomputable def c181_2:=cR c181_1
noncomputable def c181_3:=cR c181_2
noncomputable def c181_4:=cL c181_2
noncomputable def c181_5:=cR c181_4
noncomputable def c181_6:=cL c181_5
noncomputable def c181_7:=cL c181_6
noncomputable def c181_8:=cR c181_7
noncomputable def c181_9:=cR c181_8
noncomputable def c181_10:=cR c181_9
noncomputable def c181_11:=cL c181_9
noncomputable def c181_12:=cL c181_11
noncomputable def c181_13:=cR c181_12
noncomputable def c181_14:=cR c181_13
noncomputable def c181_15:=cL c181_14
noncomputable def c181_16:=cL c181_8
def c181_3_s:=reg181 c181_3 .ret (fun N M G k e w =>
 M (e 3) fun t17 =>
 M t17 fun t2 =>
 k (Env.p e 2 t2) w)
def c181_10_s:=rend181 c181_10 (fun N M G k e w =>
 N (xv (xbin .add 3 (.tmp 8) (.const (.int .i64 1)) (e 8) (.int .i64 1))) w fun t16 w =>
 M t16 fun t8 =>
 k (Env.p e 8 t8) w)
def c181_15_s:=reg181 c181_15 .ret (fun N M G k e w =>
 M (e 5) fun t15 =>
 M t15 fun t2 =>
 k (Env.p e 2 t2) w)
def c181_14_s:=cond181 c181_14 .skip 14 c181_15
def c181_13_s:=reg181 c181_13 c181_14 (fun N M G k e w =>
 M (e 5) fun t12 =>
 M (e 3) fun t13 =>
 N (xv (xbin .neq 3 (.tmp 12) (.tmp 13) t12 t13)) w fun t14 w =>
 k (Env.p e 14 t14) w)
def c181_12_s:=reg181 c181_12 c181_13 (fun N M G k e w =>
 N (xv (indexAt 63 (e 6) (e 8))) w fun t10 w =>
 N (xv (loadAt 3 t10)) w fun t11 w =>
 M t11 fun t5 =>
 k (Env.p e 5 t5) w)
def c181_11_s:=block181 c181_11 c181_12 1
def c181_9_s:=seq181 c181_9 c181_10 c181_11
def c181_16_s:=cond181 c181_16 (.exit 0) 9 .skip
def c181_8_s:=seq181 c181_8 c181_9 c181_16
def c181_7_s:=reg181 c181_7 c181_8 (fun N M G k e w =>
 N (xv (xbin .lss 3 (.tmp 8) (.tmp 7) (e 8) (e 7))) w fun t9 w =>
 k (Env.p e 9 t9) w)
def c181_6_s:=loop181 c181_6 c181_7
def c181_5_s:=block181 c181_5 c181_6 0
def c181_4_s:=reg181 c181_4 c181_5 (fun N M G k e w =>
 M (e 0) fun t6 =>
 N (builtin Builtin.len #[63] 3 ([false]).toArray ([t6]).toArray) w fun t7 w =>
 M (.int .i64 0) fun t8 =>
 k (Env.p (Env.p (Env.p e 6 t6) 7 t7) 8 t8) w)
def c181_2_s:=seq181 c181_2 c181_3 c181_4
def c181_1_s:=reg181 c181_1 c181_2 (fun N M G k e w =>
 M (.int .i64 0) fun t3 =>
 k (Env.p e 3 t3) w)
def c181_s:=reg181 c181 c181_1 (fun N M G k e w =>
 M (.int .i64 0) fun t2 =>
 k (Env.p e 2 t2) w)
theorem call181 {a0 : Value} {w : World} {R : Value → World → Prop} (h : W3 Tryz.prog 18 V181 c181 (retQ Tryz.prog [.tmp 2] R) (argE [a0]) w) : CallsN Tryz.prog 181 [a0] w R :=
 callsN_of_W3 (c := c181) (rs := [.tmp 2]) V181 Tryz.ntmps181 (by rw [Tryz.results181]) mixed Tryz.func181 (by kernel_rfl) (by kernel_rfl) (by kernel_rfl) (by kernel_rfl) (by simp) h
def w3t_181:=w3t Tryz.prog 18 V181
def hk181 := aI @c181_3_s <| aI @c181_10_s <| aI @c181_15_s <| aI @c181_14_s <| aI @c181_13_s <| aI @c181_12_s <| aI @c181_11_s <| aI @c181_9_s <| aI @c181_16_s <| aI @c181_8_s <| aI @c181_7_s <| aI @c181_6_s <| aI @c181_5_s <| aI @c181_4_s <| aI @c181_2_s <| aI @c181_1_s <| aI @c181_s <| @w3t_181
-- K181: ↓hk181
/-! ### slices.Compare[[]int64,int64] -/
def V148 : Nat → Bool := fun i => [0, 1, 4, 5, 6, 7, 8, 9, 10, 11, 12, 19, 28, 35].elem i
def block148:=@s_block Tryz.prog 36 V148
def cond148:=@s_cond Tryz.prog 36 V148
def loop148:=@s_loop Tryz.prog 36 V148
def reg148:=@s_reg Tryz.prog 36 V148
def rend148:=@s_rend Tryz.prog 36 V148
def seq148:=@s_seq Tryz.prog 36 V148
noncomputable def c148:Code:=(Tryz.f148.body.getD .skip)
noncomputable def c148_1:=cR c148
noncomputable def c148_2:=cR c148_1
noncomputable def c148_3:=cR c148_2
noncomputable def c148_4:=cL c148_2
noncomputable def c148_5:=cR c148_4
noncomputable def c148_6:=cL c148_5
noncomputable def c148_7:=cL c148_1
noncomputable def c148_8:=cR c148_7
noncomputable def c148_9:=cL c148_8
noncomputable def c148_10:=cL c148_9
noncomputable def c148_11:=cR c148_10
noncomputable def c148_12:=cR c148_11
noncomputable def c148_13:=cR c148_12
noncomputable def c148_14:=cL c148_12
noncomputable def c148_15:=cL c148_14
noncomputable def c148_16:=cR c148_15
noncomputable def c148_17:=cR c148_16
noncomputable def c148_18:=cR c148_17
noncomputable def c148_19:=cR c148_18
noncomputable def c148_20:=cR c148_19
noncomputable def c148_21:=cL c148_20
noncomputable def c148_22:=cL c148_16
noncomputable def c148_23:=cR c148_22
noncomputable def c148_24:=cL c148_23
noncomputable def c148_25:=cL c148_11
def c148_3_s:=reg148 c148_3 .ret (fun N M G k e w =>
 M (.int .i64 0) fun t4 =>
 k (Env.p e 4 t4) w)
def c148_6_s:=reg148 c148_6 .ret (fun N M G k e w =>
 M (.int .i64 (-1)) fun t4 =>
 k (Env.p e 4 t4) w)
def c148_5_s:=cond148 c148_5 .skip 35 c148_6
def c148_4_s:=reg148 c148_4 c148_5 (fun N M G k e w =>
 M (e 0) fun t31 =>
 N (builtin Builtin.len #[40] 3 ([false]).toArray ([t31]).toArray) w fun t32 w =>
 M (e 1) fun t33 =>
 N (builtin Builtin.len #[40] 3 ([false]).toArray ([t33]).toArray) w fun t34 w =>
 N (xv (xbin .lss 3 (.tmp 32) (.tmp 34) t32 t34)) w fun t35 w =>
 k (Env.p e 35 t35) w)
def c148_2_s:=seq148 c148_2 c148_3 c148_4
def c148_13_s:=rend148 c148_13 (fun N M G k e w =>
 N (xv (xbin .add 3 (.tmp 11) (.const (.int .i64 1)) (e 11) (.int .i64 1))) w fun t30 w =>
 M t30 fun t11 =>
 k (Env.p e 11 t11) w)
def c148_21_s:=reg148 c148_21 .ret (fun N M G k e w =>
 M (e 8) fun t29 =>
 M t29 fun t4 =>
 k (Env.p e 4 t4) w)
def c148_20_s:=cond148 c148_20 .skip 28 c148_21
def c148_19_s:=reg148 c148_19 c148_20 (fun N M G k e w =>
 M (e 8) fun t27 =>
 N (xv (xbin .neq 3 (.tmp 27) (.const (.int .i64 0)) t27 (.int .i64 0))) w fun t28 w =>
 k (Env.p e 28 t28) w)
def c148_18_s:=reg148 c148_18 c148_19 (fun N M G k e w =>
 M (e 6) fun t24 =>
 M (e 7) fun t25 =>
 N (xcall (.func (.func 182) #[] #[]) [t24, t25]) w fun t26 w =>
 M t26 fun t8 =>
 k (Env.p e 8 t8) w)
def c148_17_s:=reg148 c148_17 c148_18 (fun N M G k e w =>
 M (e 1) fun t20 =>
 M (e 5) fun t21 =>
 N (xv (indexAt 40 t20 t21)) w fun t22 w =>
 N (xv (loadAt 2 t22)) w fun t23 w =>
 M t23 fun t7 =>
 k (Env.p e 7 t7) w)
def c148_24_s:=reg148 c148_24 .ret (fun N M G k e w =>
 M (.int .i64 1) fun t4 =>
 k (Env.p e 4 t4) w)
def c148_23_s:=cond148 c148_23 .skip 19 c148_24
def c148_22_s:=reg148 c148_22 c148_23 (fun N M G k e w =>
 M (e 5) fun t16 =>
 M (e 1) fun t17 =>
 N (builtin Builtin.len #[40] 3 ([false]).toArray ([t17]).toArray) w fun t18 w =>
 N (xv (xbin .geq 3 (.tmp 16) (.tmp 18) t16 t18)) w fun t19 w =>
 k (Env.p e 19 t19) w)
def c148_16_s:=seq148 c148_16 c148_17 c148_22
def c148_15_s:=reg148 c148_15 c148_16 (fun N M G k e w =>
 M (e 11) fun t13 =>
 N (xv (indexAt 40 (e 9) (e 11))) w fun t14 w =>
 N (xv (loadAt 2 t14)) w fun t15 w =>
 M t13 fun t5 =>
 M t15 fun t6 =>
 k (Env.p (Env.p e 5 t5) 6 t6) w)
def c148_14_s:=block148 c148_14 c148_15 1
def c148_12_s:=seq148 c148_12 c148_13 c148_14
def c148_25_s:=cond148 c148_25 (.exit 0) 12 .skip
def c148_11_s:=seq148 c148_11 c148_12 c148_25
def c148_10_s:=reg148 c148_10 c148_11 (fun N M G k e w =>
 N (xv (xbin .lss 3 (.tmp 11) (.tmp 10) (e 11) (e 10))) w fun t12 w =>
 k (Env.p e 12 t12) w)
def c148_9_s:=loop148 c148_9 c148_10
def c148_8_s:=block148 c148_8 c148_9 0
def c148_7_s:=reg148 c148_7 c148_8 (fun N M G k e w =>
 M (e 0) fun t9 =>
 N (builtin Builtin.len #[40] 3 ([false]).toArray ([t9]).toArray) w fun t10 w =>
 M (.int .i64 0) fun t11 =>
 k (Env.p (Env.p (Env.p e 9 t9) 10 t10) 11 t11) w)
def c148_1_s:=seq148 c148_1 c148_2 c148_7
def c148_s:=reg148 c148 c148_1 (fun N M G k e w =>
 M (.int .i64 0) fun t4 =>
 k (Env.p e 4 t4) w)
theorem call148 {a0 a1 : Value} {w : World} {R : Value → World → Prop} (h : W3 Tryz.prog 36 V148 c148 (retQ Tryz.prog [.tmp 4] R) (argE [a0, a1]) w) : CallsN Tryz.prog 148 [a0, a1] w R :=
 callsN_of_W3 (c := c148) (rs := [.tmp 4]) V148 Tryz.ntmps148 (by rw [Tryz.results148]) mixed Tryz.func148 (by kernel_rfl) (by kernel_rfl) (by kernel_rfl) (by kernel_rfl) (by simp) h
def w3t_148:=w3t Tryz.prog 36 V148
def hk148 := aI @c148_3_s <| aI @c148_6_s <| aI @c148_5_s <| aI @c148_4_s <| aI @c148_2_s <| aI @c148_13_s <| aI @c148_21_s <| aI @c148_20_s <| aI @c148_19_s <| aI @c148_18_s <| aI @c148_17_s <| aI @c148_24_s <| aI @c148_23_s <| aI @c148_22_s <| aI @c148_16_s <| aI @c148_15_s <| aI @c148_14_s <| aI @c148_12_s <| aI @c148_25_s <| aI @c148_11_s <| aI @c148_10_s <| aI @c148_9_s <| aI @c148_8_s <| aI @c148_7_s <| aI @c148_1_s <| aI @c148_s <| @w3t_148
-- K148: ↓hk148
/-! ### slices.DeleteFunc[[]int,int] -/
def V183 : Nat → Bool := fun i => [0, 1, 4, 5, 6, 7, 12, 19, 29].elem i
def block183:=@s_block Tryz.prog 42 V183
def cond183:=@s_cond Tryz.prog 42 V183
def loop183:=@s_loop Tryz.prog 42 V183
def reg183:=@s_reg Tryz.prog 42 V183
def rend183:=@s_rend Tryz.prog 42 V183
def seq183:=@s_seq Tryz.prog 42 V183
noncomputable def c183:Code:=(Tryz.f183.body.getD .skip)
noncomputable def c183_1:=cR c183
noncomputable def c183_2:=cR c183_1
noncomputable def c183_3:=cR c183_2
noncomputable def c183_4:=cR c183_3
noncomputable def c183_5:=cR c183_4
noncomputable def c183_6:=cL c183_3
noncomputable def c183_7:=cR c183_6
noncomputable def c183_8:=cL c183_7
noncomputable def c183_9:=cL c183_8
noncomputable def c183_10:=cR c183_9
noncomputable def c183_11:=cR c183_10
noncomputable def c183_12:=cL c183_10
noncomputable def c183_13:=cL c183_12
noncomputable def c183_14:=cR c183_13
noncomputable def c183_15:=cR c183_14
noncomputable def c183_16:=cL c183_15
noncomputable def c183_17:=cR c183_16
noncomputable def c183_18:=cL c183_9
noncomputable def c183_19:=cR c183_18
noncomputable def c183_20:=cL c183_2
noncomputable def c183_21:=cR c183_20
noncomputable def c183_22:=cL c183_21
def c183_5_s:=reg183 c183_5 .ret (fun N M G k e w =>
 M (e 0) fun t39 =>
 M (e 5) fun t40 =>
 N (xv (Instr.sliceAt 63 t39 none (some t40) none)) w fun t41 w =>
 M t41 fun t4 =>
 k (Env.p e 4 t4) w)
def c183_4_s:=reg183 c183_4 c183_5 (fun N M G k e w =>
 M (e 0) fun t36 =>
 M (e 5) fun t37 =>
 N (xv (Instr.sliceAt 63 t36 (some t37) none none)) w fun t38 w =>
 N (builtin Builtin.clear #[63] 0 ([false]).toArray ([t38]).toArray) w fun _ w =>
 k e w)
def c183_11_s:=rend183 c183_11 (fun N M G k e w =>
 M (e 6) fun t20 =>
 N (xv (xbin .add 3 (.tmp 20) (.const (.int .i64 1)) t20 (.int .i64 1))) w fun t21 w =>
 M t21 fun t6 =>
 k (Env.p e 6 t6) w)
def c183_17_s:=rend183 c183_17 (fun N M G k e w =>
 M (e 5) fun t34 =>
 N (xv (xbin .add 3 (.tmp 34) (.const (.int .i64 1)) t34 (.int .i64 1))) w fun t35 w =>
 M t35 fun t5 =>
 k (Env.p e 5 t5) w)
def c183_16_s:=reg183 c183_16 c183_17 (fun N M G k e w =>
 M (e 0) fun t30 =>
 M (e 5) fun t31 =>
 M (e 7) fun t32 =>
 N (xv (indexAt 63 t30 t31)) w fun t33 w =>
 N (xu (storeAt 3 t33 t32)) w fun _ w =>
 k e w)
def c183_15_s:=cond183 c183_15 .skip 29 c183_16
def c183_14_s:=reg183 c183_14 c183_15 (fun N M G k e w =>
 M (e 1) fun t26 =>
 M (e 7) fun t27 =>
 N (xcall t26 [t27]) w fun t28 w =>
 N (xv (Op.unary .not t28)) w fun t29 w =>
 k (Env.p e 29 t29) w)
def c183_13_s:=reg183 c183_13 c183_14 (fun N M G k e w =>
 M (e 0) fun t22 =>
 M (e 6) fun t23 =>
 N (xv (indexAt 63 t22 t23)) w fun t24 w =>
 N (xv (loadAt 3 t24)) w fun t25 w =>
 M t25 fun t7 =>
 k (Env.p e 7 t7) w)
def c183_12_s:=block183 c183_12 c183_13 1
def c183_10_s:=seq183 c183_10 c183_11 c183_12
def c183_19_s:=cond183 c183_19 (.exit 0) 19 .skip
def c183_18_s:=reg183 c183_18 c183_19 (fun N M G k e w =>
 M (e 6) fun t16 =>
 M (e 0) fun t17 =>
 N (builtin Builtin.len #[63] 3 ([false]).toArray ([t17]).toArray) w fun t18 w =>
 N (xv (xbin .lss 3 (.tmp 16) (.tmp 18) t16 t18)) w fun t19 w =>
 k (Env.p e 19 t19) w)
def c183_9_s:=seq183 c183_9 c183_10 c183_18
def c183_8_s:=loop183 c183_8 c183_9
def c183_7_s:=block183 c183_7 c183_8 0
def c183_6_s:=reg183 c183_6 c183_7 (fun N M G k e w =>
 M (e 5) fun t14 =>
 N (xv (xbin .add 3 (.tmp 14) (.const (.int .i64 1)) t14 (.int .i64 1))) w fun t15 w =>
 M t15 fun t6 =>
 k (Env.p e 6 t6) w)
def c183_3_s:=seq183 c183_3 c183_4 c183_6
def c183_22_s:=reg183 c183_22 .ret (fun N M G k e w =>
 M (e 0) fun t13 =>
 M t13 fun t4 =>
 k (Env.p e 4 t4) w)
def c183_21_s:=cond183 c183_21 .skip 12 c183_22
def c183_20_s:=reg183 c183_20 c183_21 (fun N M G k e w =>
 M (e 5) fun t11 =>
 N (xv (xbin .eql 3 (.tmp 11) (.const (.int .i64 (-1))) t11 (.int .i64 (-1)))) w fun t12 w =>
 k (Env.p e 12 t12) w)
def c183_2_s:=seq183 c183_2 c183_3 c183_20
def c183_1_s:=reg183 c183_1 c183_2 (fun N M G k e w =>
 M (e 0) fun t8 =>
 M (e 1) fun t9 =>
 N (xcall (.func (.func 207) #[] #[]) [t8, t9]) w fun t10 w =>
 M t10 fun t5 =>
 k (Env.p e 5 t5) w)
def c183_s:=reg183 c183 c183_1 (fun N M G k e w =>
 M (.slice none 0 0) fun t4 =>
 k (Env.p e 4 t4) w)
theorem call183 {a0 a1 : Value} {w : World} {R : Value → World → Prop} (h : W3 Tryz.prog 42 V183 c183 (retQ Tryz.prog [.tmp 4] R) (argE [a0, a1]) w) : CallsN Tryz.prog 183 [a0, a1] w R :=
 callsN_of_W3 (c := c183) (rs := [.tmp 4]) V183 Tryz.ntmps183 (by rw [Tryz.results183]) mixed Tryz.func183 (by kernel_rfl) (by kernel_rfl) (by kernel_rfl) (by kernel_rfl) (by simp) h
def w3t_183:=w3t Tryz.prog 42 V183
def hk183 := aI @c183_5_s <| aI @c183_4_s <| aI @c183_11_s <| aI @c183_17_s <| aI @c183_16_s <| aI @c183_15_s <| aI @c183_14_s <| aI @c183_13_s <| aI @c183_12_s <| aI @c183_10_s <| aI @c183_19_s <| aI @c183_18_s <| aI @c183_9_s <| aI @c183_8_s <| aI @c183_7_s <| aI @c183_6_s <| aI @c183_3_s <| aI @c183_22_s <| aI @c183_21_s <| aI @c183_20_s <| aI @c183_2_s <| aI @c183_1_s <| aI @c183_s <| @w3t_183
-- K183: ↓hk183
/-! ### slices.IndexFunc[[]int,int] -/
def V207 : Nat → Bool := fun i => [0, 1, 4, 5, 7, 8, 9, 16].elem i
def block207:=@s_block Tryz.prog 19 V207
def cond207:=@s_cond Tryz.prog 19 V207
def loop207:=@s_loop Tryz.prog 19 V207
def reg207:=@s_reg Tryz.prog 19 V207
def rend207:=@s_rend Tryz.prog 19 V207
def seq207:=@s_seq Tryz.prog 19 V207
noncomputable def c207:Code:=(Tryz.f207.body.getD .skip)
noncomputable def c207_1:=cR c207
noncomputable def c207_2:=cR c207_1
noncomputable def c207_3:=cL c207_1
noncomputable def c207_4:=cR c207_3
noncomputable def c207_5:=cL c207_4
noncomputable def c207_6:=cL c207_5
noncomputable def c207_7:=cR c207_6
noncomputable def c207_8:=cR c207_7
noncomputable def c207_9:=cR c207_8
noncomputable def c207_10:=cL c207_8
noncomputable def c207_11:=cL c207_10
noncomputable def c207_12:=cR c207_11
noncomputable def c207_13:=cR c207_12
noncomputable def c207_14:=cL c207_13
noncomputable def c207_15:=cL c207_7
def c207_2_s:=reg207 c207_2 .ret (fun N M G k e w =>
 M (.int .i64 (-1)) fun t4 =>
 k (Env.p e 4 t4) w)
def c207_9_s:=rend207 c207_9 (fun N M G k e w =>
 N (xv (xbin .add 3 (.tmp 8) (.const (.int .i64 1)) (e 8) (.int .i64 1))) w fun t18 w =>
 M t18 fun t8 =>
 k (Env.p e 8 t8) w)
def c207_14_s:=reg207 c207_14 .ret (fun N M G k e w =>
 M (e 5) fun t17 =>
 M t17 fun t4 =>
 k (Env.p e 4 t4) w)
def c207_13_s:=cond207 c207_13 .skip 16 c207_14
def c207_12_s:=reg207 c207_12 c207_13 (fun N M G k e w =>
 M (e 1) fun t11 =>
 M (e 0) fun t12 =>
 M (e 5) fun t13 =>
 N (xv (indexAt 63 t12 t13)) w fun t14 w =>
 N (xv (loadAt 3 t14)) w fun t15 w =>
 N (xcall t11 [t15]) w fun t16 w =>
 k (Env.p e 16 t16) w)
def c207_11_s:=reg207 c207_11 c207_12 (fun N M G k e w =>
 M (e 8) fun t10 =>
 M t10 fun t5 =>
 k (Env.p e 5 t5) w)
def c207_10_s:=block207 c207_10 c207_11 1
def c207_8_s:=seq207 c207_8 c207_9 c207_10
def c207_15_s:=cond207 c207_15 (.exit 0) 9 .skip
def c207_7_s:=seq207 c207_7 c207_8 c207_15
def c207_6_s:=reg207 c207_6 c207_7 (fun N M G k e w =>
 N (xv (xbin .lss 3 (.tmp 8) (.tmp 7) (e 8) (e 7))) w fun t9 w =>
 k (Env.p e 9 t9) w)
def c207_5_s:=loop207 c207_5 c207_6
def c207_4_s:=block207 c207_4 c207_5 0
def c207_3_s:=reg207 c207_3 c207_4 (fun N M G k e w =>
 M (e 0) fun t6 =>
 N (builtin Builtin.len #[63] 3 ([false]).toArray ([t6]).toArray) w fun t7 w =>
 M (.int .i64 0) fun t8 =>
 k (Env.p (Env.p e 7 t7) 8 t8) w)
def c207_1_s:=seq207 c207_1 c207_2 c207_3
def c207_s:=reg207 c207 c207_1 (fun N M G k e w =>
 M (.int .i64 0) fun t4 =>
 k (Env.p e 4 t4) w)
theorem call207 {a0 a1 : Value} {w : World} {R : Value → World → Prop} (h : W3 Tryz.prog 19 V207 c207 (retQ Tryz.prog [.tmp 4] R) (argE [a0, a1]) w) : CallsN Tryz.prog 207 [a0, a1] w R :=
 callsN_of_W3 (c := c207) (rs := [.tmp 4]) V207 Tryz.ntmps207 (by rw [Tryz.results207]) mixed Tryz.func207 (by kernel_rfl) (by kernel_rfl) (by kernel_rfl) (by kernel_rfl) (by simp) h
def w3t_207:=w3t Tryz.prog 19 V207
def hk207 := aI @c207_2_s <| aI @c207_9_s <| aI @c207_14_s <| aI @c207_13_s <| aI @c207_12_s <| aI @c207_11_s <| aI @c207_10_s <| aI @c207_8_s <| aI @c207_15_s <| aI @c207_7_s <| aI @c207_6_s <| aI @c207_5_s <| aI @c207_4_s <| aI @c207_3_s <| aI @c207_1_s <| aI @c207_s <| @w3t_207
-- K207: ↓hk207
end
end Go.Proofs.YtomlgkecckffeaaGreat
