/- The equations of the code of some functions, written by the printer gen3.py: each is checked by the kernel. -/
import Derived.Test.YtomlgkecckffeaaGreatCI
set_option linter.unusedVariables false
set_option linter.unusedSimpArgs false
set_option maxRecDepth 100000
namespace Go.Proofs.YtomlgkecckffeaaGreat
open Go.VW
open Go.Instr (loadAt storeAt fieldAt indexAt)
noncomputable section
set_option linter.defProp false
variable {N : NT} {T : T3T} {M : MT} {G : GT} {H : HT} {Y : YT} {k : KT} {Q : Exit → Env → World → Prop} {e el eg : Env} {w u0 u1 u2 u3 u4 u5 u6 u7 u8 u9 : World}
/-! ### vouch/table.New -/
def V107 : Nat → Bool := fun i => [0].elem i
def reg107:=@s_reg Tryz.prog 3 V107
noncomputable def c107:Code:=(Tryz.f107.body.getD .skip)
noncomputable def c107_1:=cR c107
def c107_1_s:=reg107 c107_1 .ret (fun N M G k e w =>
 N (xv (Instr.build 194 ([]).toArray)) w fun t1 w =>
 N (xv (Instr.box 194 t1)) w fun t2 w =>
 M t2 fun t0 =>
 k (Env.p e 0 t0) w)
def c107_s:=reg107 c107 c107_1 (fun N M G k e w =>
 M (.pointer none) fun t0 =>
 k (Env.p e 0 t0) w)
theorem call107 {w : World} {R : Value → World → Prop} (h : W3 Tryz.prog 3 V107 c107 (retQ Tryz.prog [.tmp 0] R) (argE []) w) : CallsN Tryz.prog 107 [] w R :=
 callsN_of_W3 (c := c107) (rs := [.tmp 0]) V107 Tryz.ntmps107 (by rw [Tryz.results107]) mixed Tryz.func107 (by kernel_rfl) (by kernel_rfl) (by kernel_rfl) (by kernel_rfl) (by simp) h
def w3t_107:=w3t Tryz.prog 3 V107
def hk107 := aI @c107_1_s <| aI @c107_s <| @w3t_107
-- K107: ↓hk107
/-! ### (*vouch/table.Table) . Bytes -/
def V78 : Nat → Bool := fun i => [0, 2, 4].elem i
def cond78:=@s_cond Tryz.prog 9 V78
def reg78:=@s_reg Tryz.prog 9 V78
def seq78:=@s_seq Tryz.prog 9 V78
noncomputable def c78:Code:=(Tryz.f78.body.getD .skip)
noncomputable def c78_1:=cR c78
noncomputable def c78_2:=cR c78_1
noncomputable def c78_3:=cL c78_1
noncomputable def c78_4:=cR c78_3
noncomputable def c78_5:=cL c78_4
def c78_2_s:=reg78 c78_2 .ret (fun N M G k e w =>
 M (e 0) fun t5 =>
 N (xnil t5) w fun t6 w =>
 N (xv (fieldAt 194 t6 2)) w fun t7 w =>
 N (xv (loadAt 3 t7)) w fun t8 w =>
 M t8 fun t2 =>
 k (Env.p e 2 t2) w)
def c78_5_s:=reg78 c78_5 .ret (fun N M G k e w =>
 M (.int .i64 0) fun t2 =>
 k (Env.p e 2 t2) w)
def c78_4_s:=cond78 c78_4 .skip 4 c78_5
def c78_3_s:=reg78 c78_3 c78_4 (fun N M G k e w =>
 M (e 0) fun t3 =>
 N (xv (xbin .eql 114 (.tmp 3) (.const (.pointer none)) t3 (.pointer none))) w fun t4 w =>
 k (Env.p e 4 t4) w)
def c78_1_s:=seq78 c78_1 c78_2 c78_3
def c78_s:=reg78 c78 c78_1 (fun N M G k e w =>
 M (.int .i64 0) fun t2 =>
 k (Env.p e 2 t2) w)
theorem call78 {a0 : Value} {w : World} {R : Value → World → Prop} (h : W3 Tryz.prog 9 V78 c78 (retQ Tryz.prog [.tmp 2] R) (argE [a0]) w) : CallsN Tryz.prog 78 [a0] w R :=
 callsN_of_W3 (c := c78) (rs := [.tmp 2]) V78 Tryz.ntmps78 (by rw [Tryz.results78]) mixed Tryz.func78 (by kernel_rfl) (by kernel_rfl) (by kernel_rfl) (by kernel_rfl) (by simp) h
def w3t_78:=w3t Tryz.prog 9 V78
def hk78 := aI @c78_2_s <| aI @c78_5_s <| aI @c78_4_s <| aI @c78_3_s <| aI @c78_1_s <| aI @c78_s <| @w3t_78
-- K78: ↓hk78
/-! ### (*vouch/table.Table) . All -/
def V68 : Nat → Bool := fun i => [0, 2, 3, 5, 7, 13, 14, 15, 16].elem i
def block68:=@s_block Tryz.prog 29 V68
def cond68:=@s_cond Tryz.prog 29 V68
def loop68:=@s_loop Tryz.prog 29 V68
def reg68:=@s_reg Tryz.prog 29 V68
def rend68:=@s_rend Tryz.prog 29 V68
def seq68:=@s_seq Tryz.prog 29 V68
noncomputable def c68:Code:=(Tryz.f68.body.getD .skip)
noncomputable def c68_1:=cR c68
noncomputable def c68_2:=cR c68_1
noncomputable def c68_3:=cR c68_2
noncomputable def c68_4:=cR c68_3
noncomputable def c68_5:=cL c68_3
noncomputable def c68_6:=cR c68_5
noncomputable def c68_7:=cL c68_6
noncomputable def c68_8:=cL c68_7
noncomputable def c68_9:=cR c68_8
noncomputable def c68_10:=cR c68_9
noncomputable def c68_11:=cR c68_10
noncomputable def c68_12:=cL c68_10
noncomputable def c68_13:=cL c68_12
noncomputable def c68_14:=cR c68_13
noncomputable def c68_15:=cL c68_9
noncomputable def c68_16:=cL c68_1
noncomputable def c68_17:=cR c68_16
noncomputable def c68_18:=cL c68_17
def c68_4_s:=reg68 c68_4 .ret (fun N M G k e w =>
 M (e 3) fun t28 =>
 M t28 fun t2 =>
 k (Env.p e 2 t2) w)
def c68_11_s:=rend68 c68_11 (fun N M G k e w =>
 N (xv (xbin .add 3 (.tmp 15) (.const (.int .i64 1)) (e 15) (.int .i64 1))) w fun t27 w =>
 M t27 fun t15 =>
 k (Env.p e 15 t15) w)
def c68_14_s:=rend68 c68_14 (fun N M G k e w =>
 M (e 3) fun t19 =>
 M (e 0) fun t20 =>
 N (xnil t20) w fun t21 w =>
 N (xv (fieldAt 194 t21 0)) w fun t22 w =>
 N (xv (loadAt 192 t22)) w fun t23 w =>
 M (e 5) fun t24 =>
 N (xv (Instr.lookup 192 t23 t24 false)) w fun t25 w =>
 N (builtin Builtin.append #[41, 41] 41 ([false, false]).toArray ([t19, t25]).toArray) w fun t26 w =>
 M t26 fun t3 =>
 k (Env.p e 3 t3) w)
def c68_13_s:=reg68 c68_13 c68_14 (fun N M G k e w =>
 N (xv (indexAt 22 (e 13) (e 15))) w fun t17 w =>
 N (xv (loadAt 9 t17)) w fun t18 w =>
 M t18 fun t5 =>
 k (Env.p e 5 t5) w)
def c68_12_s:=block68 c68_12 c68_13 1
def c68_10_s:=seq68 c68_10 c68_11 c68_12
def c68_15_s:=cond68 c68_15 (.exit 0) 16 .skip
def c68_9_s:=seq68 c68_9 c68_10 c68_15
def c68_8_s:=reg68 c68_8 c68_9 (fun N M G k e w =>
 N (xv (xbin .lss 3 (.tmp 15) (.tmp 14) (e 15) (e 14))) w fun t16 w =>
 k (Env.p e 16 t16) w)
def c68_7_s:=loop68 c68_7 c68_8
def c68_6_s:=block68 c68_6 c68_7 0
def c68_5_s:=reg68 c68_5 c68_6 (fun N M G k e w =>
 M (e 0) fun t8 =>
 N (xnil t8) w fun t9 w =>
 N (xv (fieldAt 194 t9 0)) w fun t10 w =>
 N (xv (loadAt 192 t10)) w fun t11 w =>
 N (xcall (.func (.func 139) #[] #[]) [t11]) w fun t12 w =>
 N (xcall (.func (.func 138) #[] #[]) [t12]) w fun t13 w =>
 N (builtin Builtin.len #[22] 3 ([false]).toArray ([t13]).toArray) w fun t14 w =>
 M (.int .i64 0) fun t15 =>
 k (Env.p (Env.p (Env.p e 13 t13) 14 t14) 15 t15) w)
def c68_3_s:=seq68 c68_3 c68_4 c68_5
def c68_2_s:=reg68 c68_2 c68_3 (fun N M G k e w =>
 M (.slice none 0 0) fun t3 =>
 k (Env.p e 3 t3) w)
def c68_18_s:=reg68 c68_18 .ret (fun N M G k e w =>
 M (.slice none 0 0) fun t2 =>
 k (Env.p e 2 t2) w)
def c68_17_s:=cond68 c68_17 .skip 7 c68_18
def c68_16_s:=reg68 c68_16 c68_17 (fun N M G k e w =>
 M (e 0) fun t6 =>
 N (xv (xbin .eql 114 (.tmp 6) (.const (.pointer none)) t6 (.pointer none))) w fun t7 w =>
 k (Env.p e 7 t7) w)
def c68_1_s:=seq68 c68_1 c68_2 c68_16
def c68_s:=reg68 c68 c68_1 (fun N M G k e w =>
 M (.slice none 0 0) fun t2 =>
 k (Env.p e 2 t2) w)
theorem call68 {a0 : Value} {w : World} {R : Value → World → Prop} (h : W3 Tryz.prog 29 V68 c68 (retQ Tryz.prog [.tmp 2] R) (argE [a0]) w) : CallsN Tryz.prog 68 [a0] w R :=
 callsN_of_W3 (c := c68) (rs := [.tmp 2]) V68 Tryz.ntmps68 (by rw [Tryz.results68]) mixed Tryz.func68 (by kernel_rfl) (by kernel_rfl) (by kernel_rfl) (by kernel_rfl) (by simp) h
def w3t_68:=w3t Tryz.prog 29 V68
def hk68 := aI @c68_4_s <| aI @c68_11_s <| aI @c68_14_s <| aI @c68_13_s <| aI @c68_12_s <| aI @c68_10_s <| aI @c68_15_s <| aI @c68_9_s <| aI @c68_8_s <| aI @c68_7_s <| aI @c68_6_s <| aI @c68_5_s <| aI @c68_3_s <| aI @c68_2_s <| aI @c68_18_s <| aI @c68_17_s <| aI @c68_16_s <| aI @c68_1_s <| aI @c68_s <| @w3t_68
-- K68: ↓hk68
/-! ### (*vouch/table.Table) . Find -/
def V80 : Nat → Bool := fun i => [0, 1, 2, 3, 7, 8, 9, 10, 11, 19, 29].elem i
def block80:=@s_block Tryz.prog 35 V80
def cond80:=@s_cond Tryz.prog 35 V80
def drw80:=@s_drw Tryz.prog 35 V80
def loop80:=@s_loop Tryz.prog 35 V80
def reg80:=@s_reg Tryz.prog 35 V80
def rend80:=@s_rend Tryz.prog 35 V80
def seq80:=@s_seq Tryz.prog 35 V80
noncomputable def c80:Code:=(Tryz.f80.body.getD .skip)
noncomputable def c80_1:=cR c80
noncomputable def c80_2:=cR c80_1
noncomputable def c80_3:=cR c80_2
noncomputable def c80_4:=cL c80_2
noncomputable def c80_5:=cR c80_4
noncomputable def c80_6:=cL c80_5
noncomputable def c80_7:=cL c80_6
noncomputable def c80_8:=cR c80_7
noncomputable def c80_9:=cR c80_8
noncomputable def c80_10:=cL c80_8
noncomputable def c80_11:=cL c80_10
noncomputable def b80_5:List Row:=[(0, 0, 1024, 23, true), (0, 0, 2048, 24, true), (3, 3, 12582912, 25, true), (4, 7, 16777216, 26, true), (8, 15, 33554432, 27, true), (0, 0, 4, 28, true), (0, 0, 128, 29, true), (112, 127, 469762048, 30, false)]
noncomputable def c80_12:=cR c80_11
noncomputable def c80_13:=cL c80_12
noncomputable def c80_14:=cL c80_7
noncomputable def c80_15:=cR c80_14
def c80_3_s:=reg80 c80_3 .ret (fun N M G k e w =>
 N (xv (Instr.build 52 ([]).toArray)) w fun t34 w =>
 N (xu (storeAt 52 (e 8) t34)) w fun _ w =>
 M (.bool false) fun t9 =>
 k (Env.p e 9 t9) w)
def c80_9_s:=rend80 c80_9 (fun N M G k e w =>
 M (e 11) fun t20 =>
 N (xv (xbin .sub 3 (.tmp 20) (.const (.int .i64 1)) t20 (.int .i64 1))) w fun t21 w =>
 M t21 fun t11 =>
 k (Env.p e 11 t11) w)
def c80_13_s:=reg80 c80_13 .ret (fun N M G k e w =>
 M (e 10) fun t30 =>
 M (e 11) fun t31 =>
 N (xv (indexAt 41 t30 t31)) w fun t32 w =>
 N (xv (loadAt 52 t32)) w fun t33 w =>
 N (xu (storeAt 52 (e 8) t33)) w fun _ w =>
 M (.bool true) fun t9 =>
 k (Env.p e 9 t9) w)
def c80_12_s:=cond80 c80_12 .skip 29 c80_13
def c80_11_s:=drw80 c80_11 c80_12 b80_5 8 (fun N T M G H Y k e w =>
 M (e 10) fun t22 =>
 M (e 11) fun t23 =>
 T (FrX none w) (xv (indexAt 41 t22 t23)) fun t24 =>
 T (FrX none w) (xv (fieldAt 52 t24 0)) fun t25 =>
 T (FrX (some []) w) (xv (loadAt 34 t25)) fun t26 =>
 M (e 2) fun t27 =>
 T (FrX (some []) w) (xv (loadAt 48 (e 7))) fun t28 =>
 N (xcall (.func (.func 141) #[] #[]) [t26, t27, t28]) w fun t29 w7 =>
 k (Env.p e 29 t29) w7)
def c80_10_s:=block80 c80_10 c80_11 1
def c80_8_s:=seq80 c80_8 c80_9 c80_10
def c80_15_s:=cond80 c80_15 (.exit 0) 19 .skip
def c80_14_s:=reg80 c80_14 c80_15 (fun N M G k e w =>
 M (e 11) fun t18 =>
 N (xv (xbin .geq 3 (.tmp 18) (.const (.int .i64 0)) t18 (.int .i64 0))) w fun t19 w =>
 k (Env.p e 19 t19) w)
def c80_7_s:=seq80 c80_7 c80_8 c80_14
def c80_6_s:=loop80 c80_6 c80_7
def c80_5_s:=block80 c80_5 c80_6 0
def c80_4_s:=reg80 c80_4 c80_5 (fun N M G k e w =>
 M (e 10) fun t15 =>
 N (builtin Builtin.len #[41] 3 ([false]).toArray ([t15]).toArray) w fun t16 w =>
 N (xv (xbin .sub 3 (.tmp 16) (.const (.int .i64 1)) t16 (.int .i64 1))) w fun t17 w =>
 M t17 fun t11 =>
 k (Env.p e 11 t11) w)
def c80_2_s:=seq80 c80_2 c80_3 c80_4
def c80_1_s:=reg80 c80_1 c80_2 (fun N M G k e w =>
 M (e 0) fun t12 =>
 M (e 1) fun t13 =>
 N (xcall (.func (.func 136) #[] #[]) [t12, t13]) w fun t14 w =>
 M t14 fun t10 =>
 k (Env.p e 10 t10) w)
def c80_s:=reg80 c80 c80_1 (fun N M G k e w =>
 N (xv (Instr.box 48 (e 3))) w fun t7 w =>
 N (xv (Instr.alloc 52 true (.tuple #[]))) w fun t8 w =>
 M (.bool false) fun t9 =>
 k (Env.p (Env.p (Env.p e 7 t7) 8 t8) 9 t9) w)
theorem call80 {a0 a1 a2 a3 : Value} {w : World} {R : Value → World → Prop} (h : W3 Tryz.prog 35 V80 c80 (retQ Tryz.prog [.cell 8 52, .tmp 9] R) (argE [a0, a1, a2, a3]) w) : CallsN Tryz.prog 80 [a0, a1, a2, a3] w R :=
 callsN_of_W3 (c := c80) (rs := [.cell 8 52, .tmp 9]) V80 Tryz.ntmps80 (by rw [Tryz.results80]) mixed Tryz.func80 (by kernel_rfl) (by kernel_rfl) (by kernel_rfl) (by kernel_rfl) (by simp) h
def w3t_80:=w3t Tryz.prog 35 V80
def hk80 := aI @c80_3_s <| aI @c80_9_s <| aI @c80_13_s <| aI @c80_12_s <| aI @c80_11_s <| aI @c80_10_s <| aI @c80_8_s <| aI @c80_15_s <| aI @c80_14_s <| aI @c80_7_s <| aI @c80_6_s <| aI @c80_5_s <| aI @c80_4_s <| aI @c80_2_s <| aI @c80_1_s <| aI @c80_s <| @w3t_80
-- K80: ↓hk80
/-! ### (*vouch/table.Table) . Get -/
def V112 : Nat → Bool := fun i => [0, 1, 2, 6, 7, 8, 9, 18].elem i
def cond112:=@s_cond Tryz.prog 26 V112
def reg112:=@s_reg Tryz.prog 26 V112
def seq112:=@s_seq Tryz.prog 26 V112
noncomputable def c112:Code:=(Tryz.f112.body.getD .skip)
noncomputable def c112_1:=cR c112
noncomputable def c112_2:=cR c112_1
noncomputable def c112_3:=cR c112_2
noncomputable def c112_4:=cL c112_2
noncomputable def c112_5:=cR c112_4
noncomputable def c112_6:=cL c112_5
def c112_3_s:=reg112 c112_3 .ret (fun N M G k e w =>
 M (e 0) fun t20 =>
 M (e 1) fun t21 =>
 N (xcall (.func (.func 136) #[] #[]) [t20, t21]) w fun t22 w =>
 M (e 8) fun t23 =>
 N (xv (indexAt 41 t22 t23)) w fun t24 w =>
 N (xv (loadAt 52 t24)) w fun t25 w =>
 N (xu (storeAt 52 (e 6) t25)) w fun _ w =>
 M (.bool true) fun t7 =>
 k (Env.p e 7 t7) w)
def c112_6_s:=reg112 c112_6 .ret (fun N M G k e w =>
 N (xv (Instr.build 52 ([]).toArray)) w fun t19 w =>
 N (xu (storeAt 52 (e 6) t19)) w fun _ w =>
 M (.bool false) fun t7 =>
 k (Env.p e 7 t7) w)
def c112_5_s:=cond112 c112_5 .skip 18 c112_6
def c112_4_s:=reg112 c112_4 c112_5 (fun N M G k e w =>
 M (e 9) fun t17 =>
 N (xv (Op.unary .not t17)) w fun t18 w =>
 k (Env.p e 18 t18) w)
def c112_2_s:=seq112 c112_2 c112_3 c112_4
def c112_1_s:=reg112 c112_1 c112_2 (fun N M G k e w =>
 M (e 0) fun t11 =>
 M (e 1) fun t12 =>
 M (e 2) fun t13 =>
 N (xcall (.func (.func 150) #[] #[]) [t11, t12, t13]) w fun t14 w =>
 M t14 fun t10 =>
 N (xv (Instr.extract t10 0)) w fun t15 w =>
 N (xv (Instr.extract t10 1)) w fun t16 w =>
 M t15 fun t8 =>
 M t16 fun t9 =>
 k (Env.p (Env.p e 8 t8) 9 t9) w)
def c112_s:=reg112 c112 c112_1 (fun N M G k e w =>
 N (xv (Instr.alloc 52 true (.tuple #[]))) w fun t6 w =>
 M (.bool false) fun t7 =>
 k (Env.p (Env.p e 6 t6) 7 t7) w)
theorem call112 {a0 a1 a2 : Value} {w : World} {R : Value → World → Prop} (h : W3 Tryz.prog 26 V112 c112 (retQ Tryz.prog [.cell 6 52, .tmp 7] R) (argE [a0, a1, a2]) w) : CallsN Tryz.prog 112 [a0, a1, a2] w R :=
 callsN_of_W3 (c := c112) (rs := [.cell 6 52, .tmp 7]) V112 Tryz.ntmps112 (by rw [Tryz.results112]) mixed Tryz.func112 (by kernel_rfl) (by kernel_rfl) (by kernel_rfl) (by kernel_rfl) (by simp) h
def w3t_112:=w3t Tryz.prog 26 V112
def hk112 := aI @c112_3_s <| aI @c112_6_s <| aI @c112_5_s <| aI @c112_4_s <| aI @c112_2_s <| aI @c112_1_s <| aI @c112_s <| @w3t_112
-- K112: ↓hk112
/-! ### (*vouch/table.Table) . Of -/
def V65 : Nat → Bool := fun i => [0, 1, 4].elem i
def reg65:=@s_reg Tryz.prog 9 V65
noncomputable def c65:Code:=(Tryz.f65.body.getD .skip)
noncomputable def c65_1:=cR c65
def c65_1_s:=reg65 c65_1 .ret (fun N M G k e w =>
 M (e 0) fun t5 =>
 M (e 1) fun t6 =>
 N (xcall (.func (.func 136) #[] #[]) [t5, t6]) w fun t7 w =>
 N (xcall (.func (.func 135) #[] #[]) [t7]) w fun t8 w =>
 M t8 fun t4 =>
 k (Env.p e 4 t4) w)
def c65_s:=reg65 c65 c65_1 (fun N M G k e w =>
 M (.slice none 0 0) fun t4 =>
 k (Env.p e 4 t4) w)
theorem call65 {a0 a1 : Value} {w : World} {R : Value → World → Prop} (h : W3 Tryz.prog 9 V65 c65 (retQ Tryz.prog [.tmp 4] R) (argE [a0, a1]) w) : CallsN Tryz.prog 65 [a0, a1] w R :=
 callsN_of_W3 (c := c65) (rs := [.tmp 4]) V65 Tryz.ntmps65 (by rw [Tryz.results65]) mixed Tryz.func65 (by kernel_rfl) (by kernel_rfl) (by kernel_rfl) (by kernel_rfl) (by simp) h
def w3t_65:=w3t Tryz.prog 9 V65
def hk65 := aI @c65_1_s <| aI @c65_s <| @w3t_65
-- K65: ↓hk65
/-! ### vouch/fact.Good -/
def V48 : Nat → Bool := fun i => [0, 1, 2, 3, 13].elem i
def block48:=@s_block Tryz.prog 56 V48
def cond48:=@s_cond Tryz.prog 56 V48
def reg48:=@s_reg Tryz.prog 56 V48
def seq48:=@s_seq Tryz.prog 56 V48
noncomputable def c48:Code:=(Tryz.f48.body.getD .skip)
noncomputable def c48_1:=cR c48
noncomputable def c48_2:=cR c48_1
noncomputable def c48_3:=cL c48_1
noncomputable def c48_4:=cL c48_3
noncomputable def c48_5:=cR c48_4
noncomputable def c48_6:=cL c48_5
noncomputable def c48_7:=cR c48_5
noncomputable def c48_8:=cR c48_7
noncomputable def c48_9:=cL c48_8
def c48_2_s:=reg48 c48_2 .ret (fun N M G k e w =>
 N (xv (fieldAt 34 (e 1) 2)) w fun t31 w =>
 N (xv (loadAt 2 t31)) w fun t32 w =>
 N (xv (xbin .geq 2 (.tmp 32) (.const (.int .i64 0)) t32 (.int .i64 0))) w fun t33 w =>
 M t33 fun t34 =>
 G (isB t34 true) (fun K => N (xv (fieldAt 34 (e 1) 2)) w K) (fun t35 w =>
 G (isB t34 true) (fun K => N (xv (loadAt 2 t35)) w K) (fun t36 w =>
 G (isB t34 true) (fun K => N (xv (xbin .leq 2 (.tmp 36) (.const (.int .i64 1099511627776)) t36 (.int .i64 1099511627776))) w K) (fun t37 w =>
 N (xpick t34 t37 (.bool false)) w fun t38 w =>
 M t38 fun t39 =>
 G (isB t39 true) (fun K => N (xv (fieldAt 34 (e 1) 3)) w K) (fun t40 w =>
 G (isB t39 true) (fun K => N (xv (loadAt 2 t40)) w K) (fun t41 w =>
 G (isB t39 true) (fun K => N (xv (fieldAt 34 (e 1) 2)) w K) (fun t42 w =>
 G (isB t39 true) (fun K => N (xv (loadAt 2 t42)) w K) (fun t43 w =>
 G (isB t39 true) (fun K => N (xv (xbin .gtr 2 (.tmp 41) (.tmp 43) t41 t43)) w K) (fun t44 w =>
 N (xpick t39 t44 (.bool false)) w fun t45 w =>
 M t45 fun t46 =>
 G (isB t46 true) (fun K => N (xv (fieldAt 34 (e 1) 3)) w K) (fun t47 w =>
 G (isB t46 true) (fun K => N (xv (loadAt 2 t47)) w K) (fun t48 w =>
 G (isB t46 true) (fun K => N (xv (xbin .eql 2 (.tmp 48) (.const (.int .i64 4611686018427387904)) t48 (.int .i64 4611686018427387904))) w K) (fun t49 w =>
 G (isB t46 true) (fun K => M t49 fun v => K v w) (fun t50 w =>
 G (isB t50 false) (fun K => N (xv (fieldAt 34 (e 1) 3)) w K) (fun t51 w =>
 G (isB t50 false) (fun K => N (xv (loadAt 2 t51)) w K) (fun t52 w =>
 G (isB t50 false) (fun K => N (xv (xbin .leq 2 (.tmp 52) (.const (.int .i64 1099511627777)) t52 (.int .i64 1099511627777))) w K) (fun t53 w =>
 G (isB t46 true) (fun K => N (xpick t50 (.bool true) t53) w K) (fun t54 w =>
 N (xpick t46 t54 (.bool false)) w fun t55 w =>
 M t55 fun t2 =>
 k (Env.p e 2 t2) w) w) w) w) w) w) w) w) w) w) w) w) w) w) w) w) w)
def c48_6_s:=reg48 c48_6 .ret (fun N M G k e w =>
 M (.bool false) fun t2 =>
 k (Env.p e 2 t2) w)
def c48_9_s:=reg48 c48_9 .ret (fun N M G k e w =>
 M (.bool false) fun t2 =>
 k (Env.p e 2 t2) w)
def c48_8_s:=cond48 c48_8 .skip 13 c48_9
def c48_7_s:=reg48 c48_7 c48_8 (fun N M G k e w =>
 N (xv (fieldAt 34 (e 1) 1)) w fun t14 w =>
 N (xv (fieldAt 31 t14 1)) w fun t15 w =>
 N (xv (loadAt 9 t15)) w fun t16 w =>
 N (builtin Builtin.len #[9] 3 ([false]).toArray ([t16]).toArray) w fun t17 w =>
 N (xv (xbin .gtr 3 (.tmp 17) (.const (.int .i64 256)) t17 (.int .i64 256))) w fun t18 w =>
 M t18 fun t19 =>
 G (isB t19 false) (fun K => N (xv (fieldAt 34 (e 1) 1)) w K) (fun t20 w =>
 G (isB t19 false) (fun K => N (xv (fieldAt 31 t20 0)) w K) (fun t21 w =>
 G (isB t19 false) (fun K => N (xv (loadAt 4 t21)) w K) (fun t22 w =>
 G (isB t19 false) (fun K => N (xv (Op.unary .not t22)) w K) (fun t23 w =>
 G (isB t19 false) (fun K => M t23 fun v => K v w) (fun t24 w =>
 G (isB t24 true) (fun K => N (xv (fieldAt 34 (e 1) 1)) w K) (fun t25 w =>
 G (isB t24 true) (fun K => N (xv (fieldAt 31 t25 1)) w K) (fun t26 w =>
 G (isB t24 true) (fun K => N (xv (loadAt 9 t26)) w K) (fun t27 w =>
 G (isB t24 true) (fun K => N (xv (xbin .neq 9 (.tmp 27) (.const (.string ⟨#[]⟩)) t27 (.string ⟨#[]⟩))) w K) (fun t28 w =>
 G (isB t19 false) (fun K => N (xpick t24 t28 (.bool false)) w K) (fun t29 w =>
 N (xpick t19 (.bool true) t29) w fun t30 w =>
 M t30 fun t13 =>
 k (Env.p e 13 t13) w) w) w) w) w) w) w) w) w) w) w)
def c48_5_s:=cond48 c48_5 c48_7 3 c48_6
def c48_4_s:=reg48 c48_4 c48_5 (fun N M G k e w =>
 N (xv (fieldAt 34 (e 1) 0)) w fun t4 w =>
 N (xv (loadAt 9 t4)) w fun t5 w =>
 N (xv (xbin .eql 9 (.tmp 5) (.const (.string ⟨#[]⟩)) t5 (.string ⟨#[]⟩))) w fun t6 w =>
 M t6 fun t7 =>
 G (isB t7 false) (fun K => N (xv (fieldAt 34 (e 1) 0)) w K) (fun t8 w =>
 G (isB t7 false) (fun K => N (xv (loadAt 9 t8)) w K) (fun t9 w =>
 G (isB t7 false) (fun K => N (builtin Builtin.len #[9] 3 ([false]).toArray ([t9]).toArray) w K) (fun t10 w =>
 G (isB t7 false) (fun K => N (xv (xbin .gtr 3 (.tmp 10) (.const (.int .i64 32)) t10 (.int .i64 32))) w K) (fun t11 w =>
 N (xpick t7 (.bool true) t11) w fun t12 w =>
 M t12 fun t3 =>
 k (Env.p e 3 t3) w) w) w) w) w)
def c48_3_s:=block48 c48_3 c48_4 0
def c48_1_s:=seq48 c48_1 c48_2 c48_3
def c48_s:=reg48 c48 c48_1 (fun N M G k e w =>
 N (xv (Instr.box 34 (e 0))) w fun t1 w =>
 M (.bool false) fun t2 =>
 k (Env.p (Env.p e 1 t1) 2 t2) w)
theorem call48 {a0 : Value} {w : World} {R : Value → World → Prop} (h : W3 Tryz.prog 56 V48 c48 (retQ Tryz.prog [.tmp 2] R) (argE [a0]) w) : CallsN Tryz.prog 48 [a0] w R :=
 callsN_of_W3 (c := c48) (rs := [.tmp 2]) V48 Tryz.ntmps48 (by rw [Tryz.results48]) mixed Tryz.func48 (by kernel_rfl) (by kernel_rfl) (by kernel_rfl) (by kernel_rfl) (by simp) h
def w3t_48:=w3t Tryz.prog 56 V48
def hk48 := aI @c48_2_s <| aI @c48_6_s <| aI @c48_9_s <| aI @c48_8_s <| aI @c48_7_s <| aI @c48_5_s <| aI @c48_4_s <| aI @c48_3_s <| aI @c48_1_s <| aI @c48_s <| @w3t_48
-- K48: ↓hk48
/-! ### (*vouch/table.Table) . find -/
def V150 : Nat → Bool := fun i => [0, 1, 2, 6, 7].elem i
def reg150:=@s_reg Tryz.prog 15 V150
noncomputable def c150:Code:=(Tryz.f150.body.getD .skip)
noncomputable def c150_1:=cR c150
def c150_1_s:=reg150 c150_1 .ret (fun N M G k e w =>
 M (e 0) fun t8 =>
 M (e 1) fun t9 =>
 N (xcall (.func (.func 136) #[] #[]) [t8, t9]) w fun t10 w =>
 M (e 2) fun t11 =>
 N (xcall (.func (.func 186) #[] #[]) [t10, t11, (.func (.func 187) #[] #[])]) w fun t12 w =>
 N (xv (Instr.extract t12 0)) w fun t13 w =>
 N (xv (Instr.extract t12 1)) w fun t14 w =>
 M t13 fun t6 =>
 M t14 fun t7 =>
 k (Env.p (Env.p e 6 t6) 7 t7) w)
def c150_s:=reg150 c150 c150_1 (fun N M G k e w =>
 M (.int .i64 0) fun t6 =>
 M (.bool false) fun t7 =>
 k (Env.p (Env.p e 6 t6) 7 t7) w)
theorem call150 {a0 a1 a2 : Value} {w : World} {R : Value → World → Prop} (h : W3 Tryz.prog 15 V150 c150 (retQ Tryz.prog [.tmp 6, .tmp 7] R) (argE [a0, a1, a2]) w) : CallsN Tryz.prog 150 [a0, a1, a2] w R :=
 callsN_of_W3 (c := c150) (rs := [.tmp 6, .tmp 7]) V150 Tryz.ntmps150 (by rw [Tryz.results150]) mixed Tryz.func150 (by kernel_rfl) (by kernel_rfl) (by kernel_rfl) (by kernel_rfl) (by simp) h
def w3t_150:=w3t Tryz.prog 15 V150
def hk150 := aI @c150_1_s <| aI @c150_s <| @w3t_150
-- K150: ↓hk150
/-! ### slices.Insert[[]vouch/api.Entry,vouch/api.Entry] -/
def V169 : Nat → Bool := fun i => [0, 1, 2, 6, 7, 8, 9, 16, 22, 31, 68].elem i
def cond169:=@s_cond Tryz.prog 95 V169
def drw169:=@s_drw Tryz.prog 95 V169
def reg169:=@s_reg Tryz.prog 95 V169
def seq169:=@s_seq Tryz.prog 95 V169
noncomputable def c169:Code:=(Tryz.f169.body.getD .skip)
noncomputable def c169_1:=cR c169
noncomputable def c169_2:=cR c169_1
noncomputable def c169_3:=cR c169_2
noncomputable def c169_4:=cR c169_3
noncomputable def c169_5:=cR c169_4
noncomputable def c169_6:=cR c169_5
noncomputable def c169_7:=cR c169_6
noncomputable def c169_8:=cR c169_7
noncomputable def c169_9:=cR c169_8
noncomputable def c169_10:=cR c169_9
noncomputable def c169_11:=cR c169_10
noncomputable def c169_12:=cL c169_8
noncomputable def c169_13:=cR c169_12
noncomputable def c169_14:=cL c169_13
noncomputable def b169_15:List Row:=[(0, 0, 1, 70, true), (0, 0, 2, 71, true), (0, 0, 128, 72, true), (6, 6, 3541774862152233910272, 73, true), (9, 15, 5312662293228350865408, 74, true), (0, 0, 1, 75, true), (0, 0, 2, 76, true), (96, 96, 56668397794435742564352, 77, true), (144, 255, 85002596691653613846528, 78, false)]
noncomputable def c169_15:=cR c169_14
noncomputable def c169_16:=cR c169_15
noncomputable def c169_17:=cL c169_6
noncomputable def c169_18:=cR c169_17
noncomputable def c169_19:=cL c169_18
noncomputable def c169_20:=cR c169_19
noncomputable def c169_21:=cR c169_20
noncomputable def b169_11:List Row:=[(0, 0, 512, 47, true), (0, 0, 2, 48, true), (0, 0, 128, 49, true), (6, 6, 422212465065984, 50, true), (9, 15, 633318697598976, 51, true), (0, 0, 1, 52, true), (0, 0, 2, 53, true), (96, 96, 6755399441055744, 54, true), (144, 255, 10133099161583616, 55, false)]
noncomputable def c169_22:=cR c169_21
noncomputable def c169_23:=cL c169_5
noncomputable def c169_24:=cR c169_23
noncomputable def c169_25:=cL c169_24
noncomputable def c169_26:=cL c169_3
noncomputable def c169_27:=cR c169_26
noncomputable def c169_28:=cL c169_27
def c169_11_s:=reg169 c169_11 .ret (fun N M G k e w =>
 M (e 0) fun t94 =>
 M t94 fun t6 =>
 k (Env.p e 6 t6) w)
def c169_10_s:=reg169 c169_10 c169_11 (fun N M G k e w =>
 M (e 0) fun t89 =>
 M (e 1) fun t90 =>
 N (xv (Instr.sliceAt 41 t89 (some t90) none none)) w fun t91 w =>
 M (e 7) fun t92 =>
 N (xcall (.func (.func 199) #[] #[]) [t91, t92]) w fun t93 w =>
 k e w)
def c169_9_s:=reg169 c169_9 c169_10 (fun N M G k e w =>
 M (e 0) fun t84 =>
 M (e 8) fun t85 =>
 N (xv (Instr.sliceAt 41 t84 (some t85) none none)) w fun t86 w =>
 M (e 2) fun t87 =>
 N (builtin Builtin.copy #[41, 41] 3 ([false, false]).toArray ([t86, t87]).toArray) w fun t88 w =>
 k e w)
def c169_16_s:=reg169 c169_16 .ret (fun N M G k e w =>
 M (e 0) fun t83 =>
 M t83 fun t6 =>
 k (Env.p e 6 t6) w)
def c169_15_s:=reg169 c169_15 c169_16 (fun N M G k e w =>
 M (e 0) fun t78 =>
 M (e 1) fun t79 =>
 N (xv (Instr.sliceAt 41 t78 (some t79) none none)) w fun t80 w =>
 M (e 2) fun t81 =>
 N (builtin Builtin.copy #[41, 41] 3 ([false, false]).toArray ([t80, t81]).toArray) w fun t82 w =>
 k e w)
def c169_14_s:=drw169 c169_14 c169_15 b169_15 9 (fun N T M G H Y k e w =>
 M (e 0) fun t69 =>
 M (e 1) fun t70 =>
 M (e 7) fun t71 =>
 T (FrX none w) (xv (xbin .add 3 (.tmp 70) (.tmp 71) t70 t71)) fun t72 =>
 T (FrX none w) (xv (Instr.sliceAt 41 t69 (some t72) none none)) fun t73 =>
 M (e 0) fun t74 =>
 M (e 1) fun t75 =>
 T (FrX none w) (xv (Instr.sliceAt 41 t74 (some t75) none none)) fun t76 =>
 N (builtin Builtin.copy #[41, 41] 3 ([false, false]).toArray ([t73, t76]).toArray) w fun t77 w8 =>
 k e w8)
def c169_13_s:=cond169 c169_13 .skip 68 c169_14
def c169_12_s:=reg169 c169_12 c169_13 (fun N M G k e w =>
 M (e 2) fun t61 =>
 M (e 0) fun t62 =>
 M (e 1) fun t63 =>
 M (e 7) fun t64 =>
 N (xv (xbin .add 3 (.tmp 63) (.tmp 64) t63 t64)) w fun t65 w =>
 N (xv (Instr.sliceAt 41 t62 (some t65) none none)) w fun t66 w =>
 N (xcall (.func (.func 198) #[] #[]) [t61, t66]) w fun t67 w =>
 N (xv (Op.unary .not t67)) w fun t68 w =>
 k (Env.p e 68 t68) w)
def c169_8_s:=seq169 c169_8 c169_9 c169_12
def c169_7_s:=reg169 c169_7 c169_8 (fun N M G k e w =>
 M (e 0) fun t56 =>
 M (e 8) fun t57 =>
 M (e 7) fun t58 =>
 N (xv (xbin .add 3 (.tmp 57) (.tmp 58) t57 t58)) w fun t59 w =>
 N (xv (Instr.sliceAt 41 t56 none (some t59) none)) w fun t60 w =>
 M t60 fun t0 =>
 k (Env.p e 0 t0) w)
def c169_22_s:=reg169 c169_22 .ret (fun N M G k e w =>
 M (e 9) fun t55 =>
 M t55 fun t6 =>
 k (Env.p e 6 t6) w)
def c169_21_s:=drw169 c169_21 c169_22 b169_11 9 (fun N T M G H Y k e w =>
 M (e 9) fun t46 =>
 M (e 1) fun t47 =>
 M (e 7) fun t48 =>
 T (FrX none w) (xv (xbin .add 3 (.tmp 47) (.tmp 48) t47 t48)) fun t49 =>
 T (FrX none w) (xv (Instr.sliceAt 41 t46 (some t49) none none)) fun t50 =>
 M (e 0) fun t51 =>
 M (e 1) fun t52 =>
 T (FrX none w) (xv (Instr.sliceAt 41 t51 (some t52) none none)) fun t53 =>
 N (builtin Builtin.copy #[41, 41] 3 ([false, false]).toArray ([t50, t53]).toArray) w fun t54 w8 =>
 k e w8)
def c169_20_s:=reg169 c169_20 c169_21 (fun N M G k e w =>
 M (e 9) fun t41 =>
 M (e 1) fun t42 =>
 N (xv (Instr.sliceAt 41 t41 (some t42) none none)) w fun t43 w =>
 M (e 2) fun t44 =>
 N (builtin Builtin.copy #[41, 41] 3 ([false, false]).toArray ([t43, t44]).toArray) w fun t45 w =>
 k e w)
def c169_19_s:=reg169 c169_19 c169_20 (fun N M G k e w =>
 M (e 0) fun t32 =>
 M (e 1) fun t33 =>
 N (xv (Instr.sliceAt 41 t32 none (some t33) none)) w fun t34 w =>
 M (e 8) fun t35 =>
 M (e 7) fun t36 =>
 N (xv (xbin .add 3 (.tmp 35) (.tmp 36) t35 t36)) w fun t37 w =>
 M (e 1) fun t38 =>
 N (xv (xbin .sub 3 (.tmp 37) (.tmp 38) t37 t38)) w fun t39 w =>
 N (builtin Builtin.append #[41, 3] 41 ([false, false]).toArray ([t34, t39]).toArray) w fun t40 w =>
 M t40 fun t9 =>
 k (Env.p e 9 t9) w)
def c169_18_s:=cond169 c169_18 .skip 31 c169_19
def c169_17_s:=reg169 c169_17 c169_18 (fun N M G k e w =>
 M (e 8) fun t26 =>
 M (e 7) fun t27 =>
 N (xv (xbin .add 3 (.tmp 26) (.tmp 27) t26 t27)) w fun t28 w =>
 M (e 0) fun t29 =>
 N (builtin Builtin.cap #[41] 3 ([false]).toArray ([t29]).toArray) w fun t30 w =>
 N (xv (xbin .gtr 3 (.tmp 28) (.tmp 30) t28 t30)) w fun t31 w =>
 k (Env.p e 31 t31) w)
def c169_6_s:=seq169 c169_6 c169_7 c169_17
def c169_25_s:=reg169 c169_25 .ret (fun N M G k e w =>
 M (e 0) fun t23 =>
 M (e 2) fun t24 =>
 N (builtin Builtin.append #[41, 41] 41 ([false, false]).toArray ([t23, t24]).toArray) w fun t25 w =>
 M t25 fun t6 =>
 k (Env.p e 6 t6) w)
def c169_24_s:=cond169 c169_24 .skip 22 c169_25
def c169_23_s:=reg169 c169_23 c169_24 (fun N M G k e w =>
 M (e 1) fun t20 =>
 M (e 8) fun t21 =>
 N (xv (xbin .eql 3 (.tmp 20) (.tmp 21) t20 t21)) w fun t22 w =>
 k (Env.p e 22 t22) w)
def c169_5_s:=seq169 c169_5 c169_6 c169_23
def c169_4_s:=reg169 c169_4 c169_5 (fun N M G k e w =>
 M (e 0) fun t18 =>
 N (builtin Builtin.len #[41] 3 ([false]).toArray ([t18]).toArray) w fun t19 w =>
 M t19 fun t8 =>
 k (Env.p e 8 t8) w)
def c169_28_s:=reg169 c169_28 .ret (fun N M G k e w =>
 M (e 0) fun t17 =>
 M t17 fun t6 =>
 k (Env.p e 6 t6) w)
def c169_27_s:=cond169 c169_27 .skip 16 c169_28
def c169_26_s:=reg169 c169_26 c169_27 (fun N M G k e w =>
 M (e 7) fun t15 =>
 N (xv (xbin .eql 3 (.tmp 15) (.const (.int .i64 0)) t15 (.int .i64 0))) w fun t16 w =>
 k (Env.p e 16 t16) w)
def c169_3_s:=seq169 c169_3 c169_4 c169_26
def c169_2_s:=reg169 c169_2 c169_3 (fun N M G k e w =>
 M (e 2) fun t13 =>
 N (builtin Builtin.len #[41] 3 ([false]).toArray ([t13]).toArray) w fun t14 w =>
 M t14 fun t7 =>
 k (Env.p e 7 t7) w)
def c169_1_s:=reg169 c169_1 c169_2 (fun N M G k e w =>
 M (e 0) fun t10 =>
 M (e 1) fun t11 =>
 N (xv (Instr.sliceAt 41 t10 (some t11) none none)) w fun t12 w =>
 k e w)
def c169_s:=reg169 c169 c169_1 (fun N M G k e w =>
 M (.slice none 0 0) fun t6 =>
 k (Env.p e 6 t6) w)
theorem call169 {a0 a1 a2 : Value} {w : World} {R : Value → World → Prop} (h : W3 Tryz.prog 95 V169 c169 (retQ Tryz.prog [.tmp 6] R) (argE [a0, a1, a2]) w) : CallsN Tryz.prog 169 [a0, a1, a2] w R :=
 callsN_of_W3 (c := c169) (rs := [.tmp 6]) V169 Tryz.ntmps169 (by rw [Tryz.results169]) mixed Tryz.func169 (by kernel_rfl) (by kernel_rfl) (by kernel_rfl) (by kernel_rfl) (by simp) h
def w3t_169:=w3t Tryz.prog 95 V169
def hk169 := aI @c169_11_s <| aI @c169_10_s <| aI @c169_9_s <| aI @c169_16_s <| aI @c169_15_s <| aI @c169_14_s <| aI @c169_13_s <| aI @c169_12_s <| aI @c169_8_s <| aI @c169_7_s <| aI @c169_22_s <| aI @c169_21_s <| aI @c169_20_s <| aI @c169_19_s <| aI @c169_18_s <| aI @c169_17_s <| aI @c169_6_s <| aI @c169_25_s <| aI @c169_24_s <| aI @c169_23_s <| aI @c169_5_s <| aI @c169_4_s <| aI @c169_28_s <| aI @c169_27_s <| aI @c169_26_s <| aI @c169_3_s <| aI @c169_2_s <| aI @c169_1_s <| aI @c169_s <| @w3t_169
-- K169: ↓hk169
/-! ### vouch/fact.Cost -/
def V115 : Nat → Bool := fun i => [0, 1, 2].elem i
def reg115:=@s_reg Tryz.prog 12 V115
noncomputable def c115:Code:=(Tryz.f115.body.getD .skip)
noncomputable def c115_1:=cR c115
def c115_1_s:=reg115 c115_1 .ret (fun N M G k e w =>
 N (xv (fieldAt 34 (e 1) 0)) w fun t3 w =>
 N (xv (loadAt 9 t3)) w fun t4 w =>
 N (builtin Builtin.len #[9] 3 ([false]).toArray ([t4]).toArray) w fun t5 w =>
 N (xv (xbin .add 3 (.const (.int .i64 32)) (.tmp 5) (.int .i64 32) t5)) w fun t6 w =>
 N (xv (fieldAt 34 (e 1) 1)) w fun t7 w =>
 N (xv (fieldAt 31 t7 1)) w fun t8 w =>
 N (xv (loadAt 9 t8)) w fun t9 w =>
 N (builtin Builtin.len #[9] 3 ([false]).toArray ([t9]).toArray) w fun t10 w =>
 N (xv (xbin .add 3 (.tmp 6) (.tmp 10) t6 t10)) w fun t11 w =>
 M t11 fun t2 =>
 k (Env.p e 2 t2) w)
def c115_s:=reg115 c115 c115_1 (fun N M G k e w =>
 N (xv (Instr.box 34 (e 0))) w fun t1 w =>
 M (.int .i64 0) fun t2 =>
 k (Env.p (Env.p e 1 t1) 2 t2) w)
theorem call115 {a0 : Value} {w : World} {R : Value → World → Prop} (h : W3 Tryz.prog 12 V115 c115 (retQ Tryz.prog [.tmp 2] R) (argE [a0]) w) : CallsN Tryz.prog 115 [a0] w R :=
 callsN_of_W3 (c := c115) (rs := [.tmp 2]) V115 Tryz.ntmps115 (by rw [Tryz.results115]) mixed Tryz.func115 (by kernel_rfl) (by kernel_rfl) (by kernel_rfl) (by kernel_rfl) (by simp) h
def w3t_115:=w3t Tryz.prog 12 V115
def hk115 := aI @c115_1_s <| aI @c115_s <| @w3t_115
-- K115: ↓hk115
/-! ### (*vouch/table.Table) . row -/
def V136 : Nat → Bool := fun i => [0, 1, 4, 6].elem i
def cond136:=@s_cond Tryz.prog 13 V136
def reg136:=@s_reg Tryz.prog 13 V136
def seq136:=@s_seq Tryz.prog 13 V136
noncomputable def c136:Code:=(Tryz.f136.body.getD .skip)
noncomputable def c136_1:=cR c136
noncomputable def c136_2:=cR c136_1
noncomputable def c136_3:=cL c136_1
noncomputable def c136_4:=cR c136_3
noncomputable def c136_5:=cL c136_4
def c136_2_s:=reg136 c136_2 .ret (fun N M G k e w =>
 M (e 0) fun t7 =>
 N (xnil t7) w fun t8 w =>
 N (xv (fieldAt 194 t8 0)) w fun t9 w =>
 N (xv (loadAt 192 t9)) w fun t10 w =>
 M (e 1) fun t11 =>
 N (xv (Instr.lookup 192 t10 t11 false)) w fun t12 w =>
 M t12 fun t4 =>
 k (Env.p e 4 t4) w)
def c136_5_s:=reg136 c136_5 .ret (fun N M G k e w =>
 M (.slice none 0 0) fun t4 =>
 k (Env.p e 4 t4) w)
def c136_4_s:=cond136 c136_4 .skip 6 c136_5
def c136_3_s:=reg136 c136_3 c136_4 (fun N M G k e w =>
 M (e 0) fun t5 =>
 N (xv (xbin .eql 114 (.tmp 5) (.const (.pointer none)) t5 (.pointer none))) w fun t6 w =>
 k (Env.p e 6 t6) w)
def c136_1_s:=seq136 c136_1 c136_2 c136_3
def c136_s:=reg136 c136 c136_1 (fun N M G k e w =>
 M (.slice none 0 0) fun t4 =>
 k (Env.p e 4 t4) w)
theorem call136 {a0 a1 : Value} {w : World} {R : Value → World → Prop} (h : W3 Tryz.prog 13 V136 c136 (retQ Tryz.prog [.tmp 4] R) (argE [a0, a1]) w) : CallsN Tryz.prog 136 [a0, a1] w R :=
 callsN_of_W3 (c := c136) (rs := [.tmp 4]) V136 Tryz.ntmps136 (by rw [Tryz.results136]) mixed Tryz.func136 (by kernel_rfl) (by kernel_rfl) (by kernel_rfl) (by kernel_rfl) (by simp) h
def w3t_136:=w3t Tryz.prog 13 V136
def hk136 := aI @c136_2_s <| aI @c136_5_s <| aI @c136_4_s <| aI @c136_3_s <| aI @c136_1_s <| aI @c136_s <| @w3t_136
-- K136: ↓hk136
/-! ### vouch/fact.Meets -/
def V141 : Nat → Bool := fun i => [0, 1, 2, 3, 5, 6].elem i
def drw141:=@s_drw Tryz.prog 13 V141
def reg141:=@s_reg Tryz.prog 13 V141
noncomputable def c141:Code:=(Tryz.f141.body.getD .skip)
noncomputable def c141_1:=cR c141
noncomputable def b141_1:List Row:=[(0, 0, 8, 8, true), (0, 0, 2, 9, true), (3, 3, 384, 10, false), (0, 0, 32, 11, true), (12, 15, 1024, 12, false), (20, 31, 2560, 13, false), (63, 63, 4096, 7, true)]
def c141_1_s:=drw141 c141_1 .ret b141_1 7 (fun N T M G H Y k e w =>
 T (FrX (some []) w) (xv (loadAt 34 (e 3))) fun t7 =>
 M (e 1) fun t8 =>
 T (FrX (some []) w) (xv (loadAt 48 (e 5))) fun t10 =>
 N (xcall (.func (.func 82) #[] #[]) [t7, t8]) w fun t9 w2 =>
 Y true (xv (loadAt 48 (e 5))) t10 w w2 ∧ (N (xcall (.func (.func 179) #[] #[]) [t10]) w2 fun t11 w4 =>
 N (xcall (.func (.func 178) #[] #[]) [t9, t11]) w4 fun t12 w5 =>
 M t12 fun t6 =>
 k (Env.p e 6 t6) w5))
def c141_s:=reg141 c141 c141_1 (fun N M G k e w =>
 N (xv (Instr.box 34 (e 0))) w fun t3 w =>
 N (xv (Instr.box 48 (e 2))) w fun t5 w =>
 M (.bool false) fun t6 =>
 k (Env.p (Env.p (Env.p e 3 t3) 5 t5) 6 t6) w)
theorem call141 {a0 a1 a2 : Value} {w : World} {R : Value → World → Prop} (h : W3 Tryz.prog 13 V141 c141 (retQ Tryz.prog [.tmp 6] R) (argE [a0, a1, a2]) w) : CallsN Tryz.prog 141 [a0, a1, a2] w R :=
 callsN_of_W3 (c := c141) (rs := [.tmp 6]) V141 Tryz.ntmps141 (by rw [Tryz.results141]) mixed Tryz.func141 (by kernel_rfl) (by kernel_rfl) (by kernel_rfl) (by kernel_rfl) (by simp) h
def w3t_141:=w3t Tryz.prog 13 V141
def hk141 := aI @c141_1_s <| aI @c141_s <| @w3t_141
-- K141: ↓hk141
/-! ### slices.Clone[[]vouch/api.Entry,vouch/api.Entry] -/
def V135 : Nat → Bool := fun i => [0, 2, 4].elem i
def cond135:=@s_cond Tryz.prog 8 V135
def reg135:=@s_reg Tryz.prog 8 V135
def seq135:=@s_seq Tryz.prog 8 V135
noncomputable def c135:Code:=(Tryz.f135.body.getD .skip)
noncomputable def c135_1:=cR c135
noncomputable def c135_2:=cR c135_1
noncomputable def c135_3:=cL c135_1
noncomputable def c135_4:=cR c135_3
noncomputable def c135_5:=cL c135_4
def c135_2_s:=reg135 c135_2 .ret (fun N M G k e w =>
 N (xv (Instr.buildSlice 41 0 ([]).toArray)) w fun t5 w =>
 M (e 0) fun t6 =>
 N (builtin Builtin.append #[41, 41] 41 ([false, false]).toArray ([t5, t6]).toArray) w fun t7 w =>
 M t7 fun t2 =>
 k (Env.p e 2 t2) w)
def c135_5_s:=reg135 c135_5 .ret (fun N M G k e w =>
 M (.slice none 0 0) fun t2 =>
 k (Env.p e 2 t2) w)
def c135_4_s:=cond135 c135_4 .skip 4 c135_5
def c135_3_s:=reg135 c135_3 c135_4 (fun N M G k e w =>
 M (e 0) fun t3 =>
 N (xv (xbin .eql 41 (.tmp 3) (.const (.slice none 0 0)) t3 (.slice none 0 0))) w fun t4 w =>
 k (Env.p e 4 t4) w)
def c135_1_s:=seq135 c135_1 c135_2 c135_3
def c135_s:=reg135 c135 c135_1 (fun N M G k e w =>
 M (.slice none 0 0) fun t2 =>
 k (Env.p e 2 t2) w)
theorem call135 {a0 : Value} {w : World} {R : Value → World → Prop} (h : W3 Tryz.prog 8 V135 c135 (retQ Tryz.prog [.tmp 2] R) (argE [a0]) w) : CallsN Tryz.prog 135 [a0] w R :=
 callsN_of_W3 (c := c135) (rs := [.tmp 2]) V135 Tryz.ntmps135 (by rw [Tryz.results135]) mixed Tryz.func135 (by kernel_rfl) (by kernel_rfl) (by kernel_rfl) (by kernel_rfl) (by simp) h
def w3t_135:=w3t Tryz.prog 8 V135
def hk135 := aI @c135_2_s <| aI @c135_5_s <| aI @c135_4_s <| aI @c135_3_s <| aI @c135_1_s <| aI @c135_s <| @w3t_135
-- K135: ↓hk135
/-! ### slices.Delete[[]vouch/api.Entry,vouch/api.Entry] -/
def V151 : Nat → Bool := fun i => [0, 1, 2, 6, 7, 16].elem i
def cond151:=@s_cond Tryz.prog 33 V151
def drw151:=@s_drw Tryz.prog 33 V151
def reg151:=@s_reg Tryz.prog 33 V151
def seq151:=@s_seq Tryz.prog 33 V151
noncomputable def c151:Code:=(Tryz.f151.body.getD .skip)
noncomputable def c151_1:=cR c151
noncomputable def c151_2:=cR c151_1
noncomputable def c151_3:=cR c151_2
noncomputable def c151_4:=cR c151_3
noncomputable def b151_5:List Row:=[(0, 0, 1, 21, true), (0, 0, 2, 22, true), (3, 3, 3145728, 23, true), (0, 0, 1, 24, true), (0, 0, 4, 25, true), (24, 24, 25165824, 26, true), (36, 63, 37748736, 27, false), (127, 127, 67108864, 1, true)]
noncomputable def c151_5:=cR c151_4
noncomputable def c151_6:=cR c151_5
noncomputable def c151_7:=cL c151_2
noncomputable def c151_8:=cR c151_7
noncomputable def c151_9:=cL c151_8
def c151_6_s:=reg151 c151_6 .ret (fun N M G k e w =>
 M (e 0) fun t32 =>
 M t32 fun t6 =>
 k (Env.p e 6 t6) w)
def c151_5_s:=reg151 c151_5 c151_6 (fun N M G k e w =>
 M (e 0) fun t27 =>
 M (e 0) fun t28 =>
 N (builtin Builtin.len #[41] 3 ([false]).toArray ([t28]).toArray) w fun t29 w =>
 M (e 7) fun t30 =>
 N (xv (Instr.sliceAt 41 t27 (some t29) (some t30) none)) w fun t31 w =>
 N (builtin Builtin.clear #[41] 0 ([false]).toArray ([t31]).toArray) w fun _ w =>
 k e w)
def c151_4_s:=drw151 c151_4 c151_5 b151_5 8 (fun N T M G H Y k e w =>
 M (e 0) fun t20 =>
 M (e 1) fun t21 =>
 T (FrX none w) (xv (Instr.sliceAt 41 t20 none (some t21) none)) fun t22 =>
 M (e 0) fun t23 =>
 M (e 2) fun t24 =>
 T (FrX none w) (xv (Instr.sliceAt 41 t23 (some t24) none none)) fun t25 =>
 N (builtin Builtin.append #[41, 41] 41 ([false, false]).toArray ([t22, t25]).toArray) w fun t26 w6 =>
 M t26 fun t0 =>
 k (Env.p e 0 t0) w6)
def c151_3_s:=reg151 c151_3 c151_4 (fun N M G k e w =>
 M (e 0) fun t18 =>
 N (builtin Builtin.len #[41] 3 ([false]).toArray ([t18]).toArray) w fun t19 w =>
 M t19 fun t7 =>
 k (Env.p e 7 t7) w)
def c151_9_s:=reg151 c151_9 .ret (fun N M G k e w =>
 M (e 0) fun t17 =>
 M t17 fun t6 =>
 k (Env.p e 6 t6) w)
def c151_8_s:=cond151 c151_8 .skip 16 c151_9
def c151_7_s:=reg151 c151_7 c151_8 (fun N M G k e w =>
 M (e 1) fun t14 =>
 M (e 2) fun t15 =>
 N (xv (xbin .eql 3 (.tmp 14) (.tmp 15) t14 t15)) w fun t16 w =>
 k (Env.p e 16 t16) w)
def c151_2_s:=seq151 c151_2 c151_3 c151_7
def c151_1_s:=reg151 c151_1 c151_2 (fun N M G k e w =>
 M (e 0) fun t8 =>
 M (e 1) fun t9 =>
 M (e 2) fun t10 =>
 M (e 0) fun t11 =>
 N (builtin Builtin.len #[41] 3 ([false]).toArray ([t11]).toArray) w fun t12 w =>
 N (xv (Instr.sliceAt 41 t8 (some t9) (some t10) (some t12))) w fun t13 w =>
 k e w)
def c151_s:=reg151 c151 c151_1 (fun N M G k e w =>
 M (.slice none 0 0) fun t6 =>
 k (Env.p e 6 t6) w)
theorem call151 {a0 a1 a2 : Value} {w : World} {R : Value → World → Prop} (h : W3 Tryz.prog 33 V151 c151 (retQ Tryz.prog [.tmp 6] R) (argE [a0, a1, a2]) w) : CallsN Tryz.prog 151 [a0, a1, a2] w R :=
 callsN_of_W3 (c := c151) (rs := [.tmp 6]) V151 Tryz.ntmps151 (by rw [Tryz.results151]) mixed Tryz.func151 (by kernel_rfl) (by kernel_rfl) (by kernel_rfl) (by kernel_rfl) (by simp) h
def w3t_151:=w3t Tryz.prog 33 V151
def hk151 := aI @c151_6_s <| aI @c151_5_s <| aI @c151_4_s <| aI @c151_3_s <| aI @c151_9_s <| aI @c151_8_s <| aI @c151_7_s <| aI @c151_2_s <| aI @c151_1_s <| aI @c151_s <| @w3t_151
-- K151: ↓hk151
/-! ### slices.BinarySearchFunc[[]vouch/api.Entry,vouch/api.Entry,int64] -/
def V186 : Nat → Bool := fun i => [0, 1, 2, 6, 7, 8, 9, 10, 11, 17, 31].elem i
def block186:=@s_block Tryz.prog 49 V186
def cond186:=@s_cond Tryz.prog 49 V186
def loop186:=@s_loop Tryz.prog 49 V186
def reg186:=@s_reg Tryz.prog 49 V186
def rend186:=@s_rend Tryz.prog 49 V186
def seq186:=@s_seq Tryz.prog 49 V186
noncomputable def c186:Code:=(Tryz.f186.body.getD .skip)
noncomputable def c186_1:=cR c186
noncomputable def c186_2:=cR c186_1
noncomputable def c186_3:=cR c186_2
noncomputable def c186_4:=cR c186_3
noncomputable def c186_5:=cL c186_3
noncomputable def c186_6:=cL c186_5
noncomputable def c186_7:=cL c186_6
noncomputable def c186_8:=cR c186_7
noncomputable def c186_9:=cL c186_8
noncomputable def c186_10:=cR c186_9
noncomputable def c186_11:=cR c186_10
noncomputable def c186_12:=cL c186_11
noncomputable def c186_13:=cR c186_11
noncomputable def c186_14:=cL c186_7
noncomputable def c186_15:=cR c186_14
def c186_4_s:=reg186 c186_4 .ret (fun N M G k e w =>
 M (e 9) fun t35 =>
 M (e 9) fun t36 =>
 M (e 8) fun t37 =>
 N (xv (xbin .lss 3 (.tmp 36) (.tmp 37) t36 t37)) w fun t38 w =>
 M t38 fun t39 =>
 G (isB t39 true) (fun K => M (e 2) fun v => K v w) (fun t40 w =>
 G (isB t39 true) (fun K => M (e 0) fun v => K v w) (fun t41 w =>
 G (isB t39 true) (fun K => M (e 9) fun v => K v w) (fun t42 w =>
 G (isB t39 true) (fun K => N (xv (indexAt 41 t41 t42)) w K) (fun t43 w =>
 G (isB t39 true) (fun K => N (xv (loadAt 52 t43)) w K) (fun t44 w =>
 G (isB t39 true) (fun K => M (e 1) fun v => K v w) (fun t45 w =>
 G (isB t39 true) (fun K => N (xcall t40 [t44, t45]) w K) (fun t46 w =>
 G (isB t39 true) (fun K => N (xv (xbin .eql 3 (.tmp 46) (.const (.int .i64 0)) t46 (.int .i64 0))) w K) (fun t47 w =>
 N (xpick t39 t47 (.bool false)) w fun t48 w =>
 M t35 fun t6 =>
 M t48 fun t7 =>
 k (Env.p (Env.p e 6 t6) 7 t7) w) w) w) w) w) w) w) w) w)
def c186_12_s:=rend186 c186_12 (fun N M G k e w =>
 M (e 11) fun t32 =>
 N (xv (xbin .add 3 (.tmp 32) (.const (.int .i64 1)) t32 (.int .i64 1))) w fun t33 w =>
 M t33 fun t9 =>
 k (Env.p e 9 t9) w)
def c186_13_s:=rend186 c186_13 (fun N M G k e w =>
 M (e 11) fun t34 =>
 M t34 fun t10 =>
 k (Env.p e 10 t10) w)
def c186_11_s:=cond186 c186_11 c186_13 31 c186_12
def c186_10_s:=reg186 c186_10 c186_11 (fun N M G k e w =>
 M (e 2) fun t24 =>
 M (e 0) fun t25 =>
 M (e 11) fun t26 =>
 N (xv (indexAt 41 t25 t26)) w fun t27 w =>
 N (xv (loadAt 52 t27)) w fun t28 w =>
 M (e 1) fun t29 =>
 N (xcall t24 [t28, t29]) w fun t30 w =>
 N (xv (xbin .lss 3 (.tmp 30) (.const (.int .i64 0)) t30 (.int .i64 0))) w fun t31 w =>
 k (Env.p e 31 t31) w)
def c186_9_s:=reg186 c186_9 c186_10 (fun N M G k e w =>
 M (e 9) fun t18 =>
 M (e 10) fun t19 =>
 N (xv (xbin .add 3 (.tmp 18) (.tmp 19) t18 t19)) w fun t20 w =>
 N (xv (convert 3 246 t20)) w fun t21 w =>
 N (xv (xbin .shr 246 (.tmp 21) (.const (.int .u64 1)) t21 (.int .u64 1))) w fun t22 w =>
 N (xv (convert 246 3 t22)) w fun t23 w =>
 M t23 fun t11 =>
 k (Env.p e 11 t11) w)
def c186_8_s:=block186 c186_8 c186_9 1
def c186_15_s:=cond186 c186_15 (.exit 0) 17 .skip
def c186_14_s:=reg186 c186_14 c186_15 (fun N M G k e w =>
 M (e 9) fun t15 =>
 M (e 10) fun t16 =>
 N (xv (xbin .lss 3 (.tmp 15) (.tmp 16) t15 t16)) w fun t17 w =>
 k (Env.p e 17 t17) w)
def c186_7_s:=seq186 c186_7 c186_8 c186_14
def c186_6_s:=loop186 c186_6 c186_7
def c186_5_s:=block186 c186_5 c186_6 0
def c186_3_s:=seq186 c186_3 c186_4 c186_5
def c186_2_s:=reg186 c186_2 c186_3 (fun N M G k e w =>
 M (e 8) fun t14 =>
 M (.int .i64 0) fun t9 =>
 M t14 fun t10 =>
 k (Env.p (Env.p e 9 t9) 10 t10) w)
def c186_1_s:=reg186 c186_1 c186_2 (fun N M G k e w =>
 M (e 0) fun t12 =>
 N (builtin Builtin.len #[41] 3 ([false]).toArray ([t12]).toArray) w fun t13 w =>
 M t13 fun t8 =>
 k (Env.p e 8 t8) w)
def c186_s:=reg186 c186 c186_1 (fun N M G k e w =>
 M (.int .i64 0) fun t6 =>
 M (.bool false) fun t7 =>
 k (Env.p (Env.p e 6 t6) 7 t7) w)
theorem call186 {a0 a1 a2 : Value} {w : World} {R : Value → World → Prop} (h : W3 Tryz.prog 49 V186 c186 (retQ Tryz.prog [.tmp 6, .tmp 7] R) (argE [a0, a1, a2]) w) : CallsN Tryz.prog 186 [a0, a1, a2] w R :=
 callsN_of_W3 (c := c186) (rs := [.tmp 6, .tmp 7]) V186 Tryz.ntmps186 (by rw [Tryz.results186]) mixed Tryz.func186 (by kernel_rfl) (by kernel_rfl) (by kernel_rfl) (by kernel_rfl) (by simp) h
def w3t_186:=w3t Tryz.prog 49 V186
def hk186 := aI @c186_4_s <| aI @c186_12_s <| aI @c186_13_s <| aI @c186_11_s <| aI @c186_10_s <| aI @c186_9_s <| aI @c186_8_s <| aI @c186_15_s <| aI @c186_14_s <| aI @c186_7_s <| aI @c186_6_s <| aI @c186_5_s <| aI @c186_3_s <| aI @c186_2_s <| aI @c186_1_s <| aI @c186_s <| @w3t_186
-- K186: ↓hk186
/-! ### (*vouch/table.Table) . find$1 -/
def V187 : Nat → Bool := fun i => [0, 1, 2, 4].elem i
def reg187:=@s_reg Tryz.prog 10 V187
noncomputable def c187:Code:=(Tryz.f187.body.getD .skip)
noncomputable def c187_1:=cR c187
def c187_1_s:=reg187 c187_1 .ret (fun N M G k e w =>
 N (xv (fieldAt 52 (e 2) 0)) w fun t5 w =>
 N (xv (fieldAt 34 t5 2)) w fun t6 w =>
 N (xv (loadAt 2 t6)) w fun t7 w =>
 M (e 1) fun t8 =>
 N (xcall (.func (.func 182) #[] #[]) [t7, t8]) w fun t9 w =>
 M t9 fun t4 =>
 k (Env.p e 4 t4) w)
def c187_s:=reg187 c187 c187_1 (fun N M G k e w =>
 N (xv (Instr.box 52 (e 0))) w fun t2 w =>
 M (.int .i64 0) fun t4 =>
 k (Env.p (Env.p e 2 t2) 4 t4) w)
theorem call187 {a0 a1 : Value} {w : World} {R : Value → World → Prop} (h : W3 Tryz.prog 10 V187 c187 (retQ Tryz.prog [.tmp 4] R) (argE [a0, a1]) w) : CallsN Tryz.prog 187 [a0, a1] w R :=
 callsN_of_W3 (c := c187) (rs := [.tmp 4]) V187 Tryz.ntmps187 (by rw [Tryz.results187]) mixed Tryz.func187 (by kernel_rfl) (by kernel_rfl) (by kernel_rfl) (by kernel_rfl) (by simp) h
def w3t_187:=w3t Tryz.prog 10 V187
def hk187 := aI @c187_1_s <| aI @c187_s <| @w3t_187
-- K187: ↓hk187
/-! ### cmp.Compare[int64] -/
def V182 : Nat → Bool := fun i => [0, 1, 4, 5, 6, 11, 12, 13, 16, 19].elem i
def cond182:=@s_cond Tryz.prog 20 V182
def reg182:=@s_reg Tryz.prog 20 V182
def seq182:=@s_seq Tryz.prog 20 V182
noncomputable def c182:Code:=(Tryz.f182.body.getD .skip)
noncomputable def c182_1:=cR c182
noncomputable def c182_2:=cR c182_1
noncomputable def c182_3:=cR c182_2
noncomputable def c182_4:=cR c182_3
noncomputable def c182_5:=cR c182_4
noncomputable def c182_6:=cR c182_5
noncomputable def c182_7:=cR c182_6
noncomputable def c182_8:=cL c182_6
noncomputable def c182_9:=cR c182_8
noncomputable def c182_10:=cL c182_9
noncomputable def c182_11:=cL c182_5
noncomputable def c182_12:=cR c182_11
noncomputable def c182_13:=cL c182_12
noncomputable def c182_14:=cL c182_4
noncomputable def c182_15:=cR c182_14
noncomputable def c182_16:=cL c182_15
noncomputable def c182_17:=cL c182_3
noncomputable def c182_18:=cR c182_17
noncomputable def c182_19:=cL c182_18
noncomputable def c182_20:=cR c182_19
noncomputable def c182_21:=cL c182_19
noncomputable def c182_22:=cR c182_21
noncomputable def c182_23:=cL c182_22
def c182_7_s:=reg182 c182_7 .ret (fun N M G k e w =>
 M (.int .i64 0) fun t4 =>
 k (Env.p e 4 t4) w)
def c182_10_s:=reg182 c182_10 .ret (fun N M G k e w =>
 M (.int .i64 1) fun t4 =>
 k (Env.p e 4 t4) w)
def c182_9_s:=cond182 c182_9 .skip 19 c182_10
def c182_8_s:=reg182 c182_8 c182_9 (fun N M G k e w =>
 M (e 0) fun t17 =>
 M (e 1) fun t18 =>
 N (xv (xbin .gtr 2 (.tmp 17) (.tmp 18) t17 t18)) w fun t19 w =>
 k (Env.p e 19 t19) w)
def c182_6_s:=seq182 c182_6 c182_7 c182_8
def c182_13_s:=reg182 c182_13 .ret (fun N M G k e w =>
 M (.int .i64 (-1)) fun t4 =>
 k (Env.p e 4 t4) w)
def c182_12_s:=cond182 c182_12 .skip 16 c182_13
def c182_11_s:=reg182 c182_11 c182_12 (fun N M G k e w =>
 M (e 0) fun t14 =>
 M (e 1) fun t15 =>
 N (xv (xbin .lss 2 (.tmp 14) (.tmp 15) t14 t15)) w fun t16 w =>
 k (Env.p e 16 t16) w)
def c182_5_s:=seq182 c182_5 c182_6 c182_11
def c182_16_s:=reg182 c182_16 .ret (fun N M G k e w =>
 M (.int .i64 1) fun t4 =>
 k (Env.p e 4 t4) w)
def c182_15_s:=cond182 c182_15 .skip 13 c182_16
def c182_14_s:=reg182 c182_14 c182_15 (fun N M G k e w =>
 M (e 6) fun t13 =>
 k (Env.p e 13 t13) w)
def c182_4_s:=seq182 c182_4 c182_5 c182_14
def c182_20_s:=reg182 c182_20 .ret (fun N M G k e w =>
 M (.int .i64 (-1)) fun t4 =>
 k (Env.p e 4 t4) w)
def c182_23_s:=reg182 c182_23 .ret (fun N M G k e w =>
 M (.int .i64 0) fun t4 =>
 k (Env.p e 4 t4) w)
def c182_22_s:=cond182 c182_22 .skip 12 c182_23
def c182_21_s:=reg182 c182_21 c182_22 (fun N M G k e w =>
 M (e 6) fun t12 =>
 k (Env.p e 12 t12) w)
def c182_19_s:=seq182 c182_19 c182_20 c182_21
def c182_18_s:=cond182 c182_18 .skip 11 c182_19
def c182_17_s:=reg182 c182_17 c182_18 (fun N M G k e w =>
 M (e 5) fun t11 =>
 k (Env.p e 11 t11) w)
def c182_3_s:=seq182 c182_3 c182_4 c182_17
def c182_2_s:=reg182 c182_2 c182_3 (fun N M G k e w =>
 M (e 1) fun t9 =>
 N (xcall (.func (.func 206) #[] #[]) [t9]) w fun t10 w =>
 M t10 fun t6 =>
 k (Env.p e 6 t6) w)
def c182_1_s:=reg182 c182_1 c182_2 (fun N M G k e w =>
 M (e 0) fun t7 =>
 N (xcall (.func (.func 206) #[] #[]) [t7]) w fun t8 w =>
 M t8 fun t5 =>
 k (Env.p e 5 t5) w)
def c182_s:=reg182 c182 c182_1 (fun N M G k e w =>
 M (.int .i64 0) fun t4 =>
 k (Env.p e 4 t4) w)
theorem call182 {a0 a1 : Value} {w : World} {R : Value → World → Prop} (h : W3 Tryz.prog 20 V182 c182 (retQ Tryz.prog [.tmp 4] R) (argE [a0, a1]) w) : CallsN Tryz.prog 182 [a0, a1] w R :=
 callsN_of_W3 (c := c182) (rs := [.tmp 4]) V182 Tryz.ntmps182 (by rw [Tryz.results182]) mixed Tryz.func182 (by kernel_rfl) (by kernel_rfl) (by kernel_rfl) (by kernel_rfl) (by simp) h
def w3t_182:=w3t Tryz.prog 20 V182
def hk182 := aI @c182_7_s <| aI @c182_10_s <| aI @c182_9_s <| aI @c182_8_s <| aI @c182_6_s <| aI @c182_13_s <| aI @c182_12_s <| aI @c182_11_s <| aI @c182_5_s <| aI @c182_16_s <| aI @c182_15_s <| aI @c182_14_s <| aI @c182_4_s <| aI @c182_20_s <| aI @c182_23_s <| aI @c182_22_s <| aI @c182_21_s <| aI @c182_19_s <| aI @c182_18_s <| aI @c182_17_s <| aI @c182_3_s <| aI @c182_2_s <| aI @c182_1_s <| aI @c182_s <| @w3t_182
-- K182: ↓hk182
/-! ### cmp.isNaN[int64] -/
def V206 : Nat → Bool := fun i => [0, 2].elem i
def reg206:=@s_reg Tryz.prog 6 V206
noncomputable def c206:Code:=(Tryz.f206.body.getD .skip)
noncomputable def c206_1:=cR c206
def c206_1_s:=reg206 c206_1 .ret (fun N M G k e w =>
 M (e 0) fun t3 =>
 M (e 0) fun t4 =>
 N (xv (xbin .neq 2 (.tmp 3) (.tmp 4) t3 t4)) w fun t5 w =>
 M t5 fun t2 =>
 k (Env.p e 2 t2) w)
def c206_s:=reg206 c206 c206_1 (fun N M G k e w =>
 M (.bool false) fun t2 =>
 k (Env.p e 2 t2) w)
theorem call206 {a0 : Value} {w : World} {R : Value → World → Prop} (h : W3 Tryz.prog 6 V206 c206 (retQ Tryz.prog [.tmp 2] R) (argE [a0]) w) : CallsN Tryz.prog 206 [a0] w R :=
 callsN_of_W3 (c := c206) (rs := [.tmp 2]) V206 Tryz.ntmps206 (by rw [Tryz.results206]) mixed Tryz.func206 (by kernel_rfl) (by kernel_rfl) (by kernel_rfl) (by kernel_rfl) (by simp) h
def w3t_206:=w3t Tryz.prog 6 V206
def hk206 := aI @c206_1_s <| aI @c206_s <| @w3t_206
-- K206: ↓hk206
/-! ### vouch/fact.Known -/
def V82 : Nat → Bool := fun i => [0, 1, 2, 4, 7].elem i
def cond82:=@s_cond Tryz.prog 18 V82
def drw82:=@s_drw Tryz.prog 18 V82
def reg82:=@s_reg Tryz.prog 18 V82
def seq82:=@s_seq Tryz.prog 18 V82
noncomputable def c82:Code:=(Tryz.f82.body.getD .skip)
noncomputable def c82_1:=cR c82
noncomputable def c82_2:=cR c82_1
noncomputable def c82_3:=cL c82_1
noncomputable def c82_4:=cR c82_3
noncomputable def c82_5:=cL c82_4
noncomputable def b82_2:List Row:=[(0, 0, 4, 9, true), (1, 1, 256, 10, true), (0, 0, 2, 11, true), (4, 4, 1024, 12, false), (10, 15, 2560, 13, false), (31, 31, 4112, 0, false)]
def c82_2_s:=reg82 c82_2 .ret (fun N M G k e w =>
 N (xv (fieldAt 34 (e 2) 2)) w fun t13 w =>
 N (xv (loadAt 2 t13)) w fun t14 w =>
 N (xv (fieldAt 34 (e 2) 3)) w fun t15 w =>
 N (xv (loadAt 2 t15)) w fun t16 w =>
 N (xcall (.func (.func 143) #[] #[]) [t14, t16]) w fun t17 w =>
 N (xu (storeAt 135 (e 4) t17)) w fun _ w =>
 k e w)
def c82_5_s:=drw82 c82_5 .ret b82_2 6 (fun N T M G H Y k e w =>
 T (FrX none w) (xv (fieldAt 34 (e 2) 2)) fun t8 =>
 T (FrX (some []) w) (xv (loadAt 2 t8)) fun t9 =>
 M (e 1) fun t10 =>
 N (xcall (.func (.func 144) #[] #[]) [t10]) w fun t11 w3 =>
 Y true (xv (loadAt 2 t8)) t9 w w3 ∧ (N (xcall (.func (.func 143) #[] #[]) [t9, t11]) w3 fun t12 w4 =>
 N (xu (storeAt 135 (e 4) t12)) w4 fun _ w5 =>
 k e w5))
def c82_4_s:=cond82 c82_4 .skip 7 c82_5
def c82_3_s:=reg82 c82_3 c82_4 (fun N M G k e w =>
 N (xv (fieldAt 34 (e 2) 3)) w fun t5 w =>
 N (xv (loadAt 2 t5)) w fun t6 w =>
 N (xv (xbin .eql 2 (.tmp 6) (.const (.int .i64 4611686018427387904)) t6 (.int .i64 4611686018427387904))) w fun t7 w =>
 k (Env.p e 7 t7) w)
def c82_1_s:=seq82 c82_1 c82_2 c82_3
def c82_s:=reg82 c82 c82_1 (fun N M G k e w =>
 N (xv (Instr.box 34 (e 0))) w fun t2 w =>
 N (xv (Instr.alloc 135 true (.tuple #[]))) w fun t4 w =>
 k (Env.p (Env.p e 2 t2) 4 t4) w)
theorem call82 {a0 a1 : Value} {w : World} {R : Value → World → Prop} (h : W3 Tryz.prog 18 V82 c82 (retQ Tryz.prog [.cell 4 135] R) (argE [a0, a1]) w) : CallsN Tryz.prog 82 [a0, a1] w R :=
 callsN_of_W3 (c := c82) (rs := [.cell 4 135]) V82 Tryz.ntmps82 (by rw [Tryz.results82]) mixed Tryz.func82 (by kernel_rfl) (by kernel_rfl) (by kernel_rfl) (by kernel_rfl) (by simp) h
def w3t_82:=w3t Tryz.prog 18 V82
def hk82 := aI @c82_2_s <| aI @c82_5_s <| aI @c82_4_s <| aI @c82_3_s <| aI @c82_1_s <| aI @c82_s <| @w3t_82
-- K82: ↓hk82
/-! ### (vouch/span.Span[int64]) . Meets -/
def V178 : Nat → Bool := fun i => [0, 1, 2, 3, 4].elem i
def reg178:=@s_reg Tryz.prog 20 V178
noncomputable def c178:Code:=(Tryz.f178.body.getD .skip)
noncomputable def c178_1:=cR c178
def c178_1_s:=reg178 c178_1 .ret (fun N M G k e w =>
 N (xv (loadAt 135 (e 2))) w fun t5 w =>
 N (xcall (.func (.func 159) #[] #[]) [t5]) w fun t6 w =>
 N (xv (Op.unary .not t6)) w fun t7 w =>
 M t7 fun t8 =>
 G (isB t8 true) (fun K => N (xv (loadAt 135 (e 3))) w K) (fun t9 w =>
 G (isB t8 true) (fun K => N (xcall (.func (.func 159) #[] #[]) [t9]) w K) (fun t10 w =>
 G (isB t8 true) (fun K => N (xv (Op.unary .not t10)) w K) (fun t11 w =>
 N (xpick t8 t11 (.bool false)) w fun t12 w =>
 M t12 fun t13 =>
 G (isB t13 true) (fun K => N (xv (loadAt 135 (e 2))) w K) (fun t14 w =>
 G (isB t13 true) (fun K => N (xv (loadAt 135 (e 3))) w K) (fun t15 w =>
 G (isB t13 true) (fun K => N (xcall (.func (.func 205) #[] #[]) [t14, t15]) w K) (fun t16 w =>
 G (isB t13 true) (fun K => N (xcall (.func (.func 159) #[] #[]) [t16]) w K) (fun t17 w =>
 G (isB t13 true) (fun K => N (xv (Op.unary .not t17)) w K) (fun t18 w =>
 N (xpick t13 t18 (.bool false)) w fun t19 w =>
 M t19 fun t4 =>
 k (Env.p e 4 t4) w) w) w) w) w) w) w) w) w)
def c178_s:=reg178 c178 c178_1 (fun N M G k e w =>
 N (xv (Instr.box 135 (e 0))) w fun t2 w =>
 N (xv (Instr.box 135 (e 1))) w fun t3 w =>
 M (.bool false) fun t4 =>
 k (Env.p (Env.p (Env.p e 2 t2) 3 t3) 4 t4) w)
theorem call178 {a0 a1 : Value} {w : World} {R : Value → World → Prop} (h : W3 Tryz.prog 20 V178 c178 (retQ Tryz.prog [.tmp 4] R) (argE [a0, a1]) w) : CallsN Tryz.prog 178 [a0, a1] w R :=
 callsN_of_W3 (c := c178) (rs := [.tmp 4]) V178 Tryz.ntmps178 (by rw [Tryz.results178]) mixed Tryz.func178 (by kernel_rfl) (by kernel_rfl) (by kernel_rfl) (by kernel_rfl) (by simp) h
def w3t_178:=w3t Tryz.prog 20 V178
def hk178 := aI @c178_1_s <| aI @c178_s <| @w3t_178
-- K178: ↓hk178
/-! ### vouch/fact.pinned -/
def V179 : Nat → Bool := fun i => [0, 1, 2].elem i
def reg179:=@s_reg Tryz.prog 8 V179
noncomputable def c179:Code:=(Tryz.f179.body.getD .skip)
noncomputable def c179_1:=cR c179
def c179_1_s:=reg179 c179_1 .ret (fun N M G k e w =>
 N (xv (fieldAt 48 (e 1) 0)) w fun t3 w =>
 N (xv (loadAt 2 t3)) w fun t4 w =>
 N (xv (fieldAt 48 (e 1) 1)) w fun t5 w =>
 N (xv (loadAt 2 t5)) w fun t6 w =>
 N (xcall (.func (.func 143) #[] #[]) [t4, t6]) w fun t7 w =>
 N (xu (storeAt 135 (e 2) t7)) w fun _ w =>
 k e w)
def c179_s:=reg179 c179 c179_1 (fun N M G k e w =>
 N (xv (Instr.box 48 (e 0))) w fun t1 w =>
 N (xv (Instr.alloc 135 true (.tuple #[]))) w fun t2 w =>
 k (Env.p (Env.p e 1 t1) 2 t2) w)
theorem call179 {a0 : Value} {w : World} {R : Value → World → Prop} (h : W3 Tryz.prog 8 V179 c179 (retQ Tryz.prog [.cell 2 135] R) (argE [a0]) w) : CallsN Tryz.prog 179 [a0] w R :=
 callsN_of_W3 (c := c179) (rs := [.cell 2 135]) V179 Tryz.ntmps179 (by rw [Tryz.results179]) mixed Tryz.func179 (by kernel_rfl) (by kernel_rfl) (by kernel_rfl) (by kernel_rfl) (by simp) h
def w3t_179:=w3t Tryz.prog 8 V179
def hk179 := aI @c179_1_s <| aI @c179_s <| @w3t_179
-- K179: ↓hk179
/-! ### vouch/span.Of[int64] -/
def V143 : Nat → Bool := fun i => [0, 1, 4, 7].elem i
def cond143:=@s_cond Tryz.prog 12 V143
def reg143:=@s_reg Tryz.prog 12 V143
def seq143:=@s_seq Tryz.prog 12 V143
noncomputable def c143:Code:=(Tryz.f143.body.getD .skip)
noncomputable def c143_1:=cR c143
noncomputable def c143_2:=cR c143_1
noncomputable def c143_3:=cL c143_1
noncomputable def c143_4:=cR c143_3
noncomputable def c143_5:=cL c143_4
def c143_2_s:=reg143 c143_2 .ret (fun N M G k e w =>
 M (e 0) fun t9 =>
 M (e 1) fun t10 =>
 N (xv (Instr.build 135 ([(0, t9), (1, t10)]).toArray)) w fun t11 w =>
 N (xu (storeAt 135 (e 4) t11)) w fun _ w =>
 k e w)
def c143_5_s:=reg143 c143_5 .ret (fun N M G k e w =>
 N (xv (Instr.build 135 ([]).toArray)) w fun t8 w =>
 N (xu (storeAt 135 (e 4) t8)) w fun _ w =>
 k e w)
def c143_4_s:=cond143 c143_4 .skip 7 c143_5
def c143_3_s:=reg143 c143_3 c143_4 (fun N M G k e w =>
 M (e 0) fun t5 =>
 M (e 1) fun t6 =>
 N (xv (xbin .geq 2 (.tmp 5) (.tmp 6) t5 t6)) w fun t7 w =>
 k (Env.p e 7 t7) w)
def c143_1_s:=seq143 c143_1 c143_2 c143_3
def c143_s:=reg143 c143 c143_1 (fun N M G k e w =>
 N (xv (Instr.alloc 135 true (.tuple #[]))) w fun t4 w =>
 k (Env.p e 4 t4) w)
theorem call143 {a0 a1 : Value} {w : World} {R : Value → World → Prop} (h : W3 Tryz.prog 12 V143 c143 (retQ Tryz.prog [.cell 4 135] R) (argE [a0, a1]) w) : CallsN Tryz.prog 143 [a0, a1] w R :=
 callsN_of_W3 (c := c143) (rs := [.cell 4 135]) V143 Tryz.ntmps143 (by rw [Tryz.results143]) mixed Tryz.func143 (by kernel_rfl) (by kernel_rfl) (by kernel_rfl) (by kernel_rfl) (by simp) h
def w3t_143:=w3t Tryz.prog 12 V143
def hk143 := aI @c143_2_s <| aI @c143_5_s <| aI @c143_4_s <| aI @c143_3_s <| aI @c143_1_s <| aI @c143_s <| @w3t_143
-- K143: ↓hk143
/-! ### vouch/fact.behind -/
def V144 : Nat → Bool := fun i => [0, 2].elem i
def reg144:=@s_reg Tryz.prog 7 V144
noncomputable def c144:Code:=(Tryz.f144.body.getD .skip)
noncomputable def c144_1:=cR c144
def c144_1_s:=reg144 c144_1 .ret (fun N M G k e w =>
 M (e 0) fun t3 =>
 N (builtin Builtin.max #[2, 2] 2 ([false, true]).toArray ([t3, (.int .i64 0)]).toArray) w fun t4 w =>
 N (builtin Builtin.min #[2, 2] 2 ([false, true]).toArray ([t4, (.int .i64 1099511627776)]).toArray) w fun t5 w =>
 N (xv (xbin .add 2 (.tmp 5) (.const (.int .i64 1)) t5 (.int .i64 1))) w fun t6 w =>
 M t6 fun t2 =>
 k (Env.p e 2 t2) w)
def c144_s:=reg144 c144 c144_1 (fun N M G k e w =>
 M (.int .i64 0) fun t2 =>
 k (Env.p e 2 t2) w)
theorem call144 {a0 : Value} {w : World} {R : Value → World → Prop} (h : W3 Tryz.prog 7 V144 c144 (retQ Tryz.prog [.tmp 2] R) (argE [a0]) w) : CallsN Tryz.prog 144 [a0] w R :=
 callsN_of_W3 (c := c144) (rs := [.tmp 2]) V144 Tryz.ntmps144 (by rw [Tryz.results144]) mixed Tryz.func144 (by kernel_rfl) (by kernel_rfl) (by kernel_rfl) (by kernel_rfl) (by simp) h
def w3t_144:=w3t Tryz.prog 7 V144
def hk144 := aI @c144_1_s <| aI @c144_s <| @w3t_144
-- K144: ↓hk144
/-! ### (vouch/span.Span[int64]) . Empty -/
def V159 : Nat → Bool := fun i => [0, 1, 2].elem i
def reg159:=@s_reg Tryz.prog 8 V159
noncomputable def c159:Code:=(Tryz.f159.body.getD .skip)
noncomputable def c159_1:=cR c159
def c159_1_s:=reg159 c159_1 .ret (fun N M G k e w =>
 N (xv (fieldAt 135 (e 1) 0)) w fun t3 w =>
 N (xv (loadAt 2 t3)) w fun t4 w =>
 N (xv (fieldAt 135 (e 1) 1)) w fun t5 w =>
 N (xv (loadAt 2 t5)) w fun t6 w =>
 N (xv (xbin .geq 2 (.tmp 4) (.tmp 6) t4 t6)) w fun t7 w =>
 M t7 fun t2 =>
 k (Env.p e 2 t2) w)
def c159_s:=reg159 c159 c159_1 (fun N M G k e w =>
 N (xv (Instr.box 135 (e 0))) w fun t1 w =>
 M (.bool false) fun t2 =>
 k (Env.p (Env.p e 1 t1) 2 t2) w)
theorem call159 {a0 : Value} {w : World} {R : Value → World → Prop} (h : W3 Tryz.prog 8 V159 c159 (retQ Tryz.prog [.tmp 2] R) (argE [a0]) w) : CallsN Tryz.prog 159 [a0] w R :=
 callsN_of_W3 (c := c159) (rs := [.tmp 2]) V159 Tryz.ntmps159 (by rw [Tryz.results159]) mixed Tryz.func159 (by kernel_rfl) (by kernel_rfl) (by kernel_rfl) (by kernel_rfl) (by simp) h
def w3t_159:=w3t Tryz.prog 8 V159
def hk159 := aI @c159_1_s <| aI @c159_s <| @w3t_159
-- K159: ↓hk159
/-! ### (vouch/span.Span[int64]) . Meet -/
def V205 : Nat → Bool := fun i => [0, 1, 2, 3, 4].elem i
def reg205:=@s_reg Tryz.prog 16 V205
noncomputable def c205:Code:=(Tryz.f205.body.getD .skip)
noncomputable def c205_1:=cR c205
def c205_1_s:=reg205 c205_1 .ret (fun N M G k e w =>
 N (xv (fieldAt 135 (e 2) 0)) w fun t5 w =>
 N (xv (loadAt 2 t5)) w fun t6 w =>
 N (xv (fieldAt 135 (e 3) 0)) w fun t7 w =>
 N (xv (loadAt 2 t7)) w fun t8 w =>
 N (builtin Builtin.max #[2, 2] 2 ([false, false]).toArray ([t6, t8]).toArray) w fun t9 w =>
 N (xv (fieldAt 135 (e 2) 1)) w fun t10 w =>
 N (xv (loadAt 2 t10)) w fun t11 w =>
 N (xv (fieldAt 135 (e 3) 1)) w fun t12 w =>
 N (xv (loadAt 2 t12)) w fun t13 w =>
 N (builtin Builtin.min #[2, 2] 2 ([false, false]).toArray ([t11, t13]).toArray) w fun t14 w =>
 N (xcall (.func (.func 143) #[] #[]) [t9, t14]) w fun t15 w =>
 N (xu (storeAt 135 (e 4) t15)) w fun _ w =>
 k e w)
def c205_s:=reg205 c205 c205_1 (fun N M G k e w =>
 N (xv (Instr.box 135 (e 0))) w fun t2 w =>
 N (xv (Instr.box 135 (e 1))) w fun t3 w =>
 N (xv (Instr.alloc 135 true (.tuple #[]))) w fun t4 w =>
 k (Env.p (Env.p (Env.p e 2 t2) 3 t3) 4 t4) w)
theorem call205 {a0 a1 : Value} {w : World} {R : Value → World → Prop} (h : W3 Tryz.prog 16 V205 c205 (retQ Tryz.prog [.cell 4 135] R) (argE [a0, a1]) w) : CallsN Tryz.prog 205 [a0, a1] w R :=
 callsN_of_W3 (c := c205) (rs := [.cell 4 135]) V205 Tryz.ntmps205 (by rw [Tryz.results205]) mixed Tryz.func205 (by kernel_rfl) (by kernel_rfl) (by kernel_rfl) (by kernel_rfl) (by simp) h
def w3t_205:=w3t Tryz.prog 16 V205
def hk205 := aI @c205_1_s <| aI @c205_s <| @w3t_205
-- K205: ↓hk205
end
end Go.Proofs.YtomlgkecckffeaaGreat
