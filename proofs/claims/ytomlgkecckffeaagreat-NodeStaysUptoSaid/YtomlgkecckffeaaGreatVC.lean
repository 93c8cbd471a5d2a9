/- The equations of the code of some functions, written by the printer gen3.py: each is checked by the kernel. -/
import Derived.Test.YtomlgkecckffeaaGreatCI
set_option linter.unusedVariables false
set_option linter.unusedSimpArgs false
set_option maxRecDepth 100000
namespace Go.Proofs.YtomlgkecckffeaaGreat
open Go.VW
open Go.Instr (loadAt storeAt fieldAt indexAt)
noncomputable section
set_option linter.defProp false
variable {N : NT} {T : T3T} {M : MT} {G : GT} {H : HT} {Y : YT} {k : KT} {Q : Exit → Env → World → Prop} {e el eg : Env} {w u0 u1 u2 u3 u4 u5 u6 u7 u8 u9 : World}
/-! ### vouch/gap.New[vouch/api.Record] -/
def V108 : Nat → Bool := fun i => [0, 1, 4, 5].elem i
def reg108:=@s_reg Tryz.prog 15 V108
noncomputable def c108:Code:=(Tryz.f108.body.getD .skip)
noncomputable def c108_1:=cR c108
noncomputable def c108_2:=cR c108_1
noncomputable def c108_3:=cR c108_2
def c108_3_s:=reg108 c108_3 .ret (fun N M G k e w =>
 M (e 5) fun t14 =>
 M t14 fun t4 =>
 k (Env.p e 4 t4) w)
def c108_2_s:=reg108 c108_2 c108_3 (fun N M G k e w =>
 M (e 5) fun t11 =>
 M (e 0) fun t12 =>
 N (xcall (.func (.func 84) #[] #[]) [t11, t12]) w fun t13 w =>
 k e w)
def c108_1_s:=reg108 c108_1 c108_2 (fun N M G k e w =>
 M (e 1) fun t6 =>
 N (builtin Builtin.max #[3, 3] 3 ([false, true]).toArray ([t6, (.int .i64 0)]).toArray) w fun t7 w =>
 N (builtin Builtin.min #[3, 3] 3 ([false, true]).toArray ([t7, (.int .i64 256)]).toArray) w fun t8 w =>
 N (xv (Instr.build 179 ([(1, t8)]).toArray)) w fun t9 w =>
 N (xv (Instr.box 179 t9)) w fun t10 w =>
 M t10 fun t5 =>
 k (Env.p e 5 t5) w)
def c108_s:=reg108 c108 c108_1 (fun N M G k e w =>
 M (.pointer none) fun t4 =>
 k (Env.p e 4 t4) w)
theorem call108 {a0 a1 : Value} {w : World} {R : Value → World → Prop} (h : W3 Tryz.prog 15 V108 c108 (retQ Tryz.prog [.tmp 4] R) (argE [a0, a1]) w) : CallsN Tryz.prog 108 [a0, a1] w R :=
 callsN_of_W3 (c := c108) (rs := [.tmp 4]) V108 Tryz.ntmps108 (by rw [Tryz.results108]) mixed Tryz.func108 (by kernel_rfl) (by kernel_rfl) (by kernel_rfl) (by kernel_rfl) (by simp) h
def w3t_108:=w3t Tryz.prog 15 V108
def hk108 := aI @c108_3_s <| aI @c108_2_s <| aI @c108_1_s <| aI @c108_s <| @w3t_108
-- K108: ↓hk108
/-! ### (*vouch/gap.Gap[vouch/api.Record]) . Clear -/
def V84 : Nat → Bool := fun i => [0, 1, 5].elem i
def cond84:=@s_cond Tryz.prog 16 V84
def reg84:=@s_reg Tryz.prog 16 V84
def rend84:=@s_rend Tryz.prog 16 V84
noncomputable def c84:Code:=(Tryz.f84.body.getD .skip)
noncomputable def c84_1:=cR c84
noncomputable def c84_2:=cL c84_1
def c84_2_s:=rend84 c84_2 (fun N M G k e w =>
 M (e 0) fun t6 =>
 M (e 0) fun t7 =>
 M (e 1) fun t8 =>
 N (builtin Builtin.max #[2, 2] 2 ([false, true]).toArray ([t8, (.int .i64 0)]).toArray) w fun t9 w =>
 N (builtin Builtin.min #[2, 2] 2 ([false, true]).toArray ([t9, (.int .i64 1099511627776)]).toArray) w fun t10 w =>
 N (xv (Instr.makeMap 177 none)) w fun t11 w =>
 N (xnil t6) w fun t12 w =>
 N (xv (fieldAt 179 t12 0)) w fun t13 w =>
 N (xu (storeAt 2 t13 t10)) w fun _ w =>
 N (xnil t7) w fun t14 w =>
 N (xv (fieldAt 179 t14 2)) w fun t15 w =>
 N (xu (storeAt 177 t15 t11)) w fun _ w =>
 k e w)
def c84_1_s:=cond84 c84_1 .skip 5 c84_2
def c84_s:=reg84 c84 c84_1 (fun N M G k e w =>
 M (e 0) fun t4 =>
 N (xv (xbin .neq 115 (.tmp 4) (.const (.pointer none)) t4 (.pointer none))) w fun t5 w =>
 k (Env.p e 5 t5) w)
theorem call84 {a0 a1 : Value} {w : World} {R : Value → World → Prop} (h : W3 Tryz.prog 16 V84 c84 (retQ Tryz.prog [] R) (argE [a0, a1]) w) : CallsN Tryz.prog 84 [a0, a1] w R :=
 callsN_of_W3 (c := c84) (rs := []) V84 Tryz.ntmps84 (by rw [Tryz.results84]) mixed Tryz.func84 (by kernel_rfl) (by kernel_rfl) (by kernel_rfl) (by kernel_rfl) (by simp) h
def w3t_84:=w3t Tryz.prog 16 V84
def hk84 := aI @c84_2_s <| aI @c84_1_s <| aI @c84_s <| @w3t_84
-- K84: ↓hk84
/-! ### (*vouch/gap.Gap[vouch/api.Record]) . Put -/
def V63 : Nat → Bool := fun i => [0, 1, 2, 5, 6, 7, 9, 23, 33, 40, 53].elem i
def cond63:=@s_cond Tryz.prog 64 V63
def drw63:=@s_drw Tryz.prog 64 V63
def reg63:=@s_reg Tryz.prog 64 V63
def seq63:=@s_seq Tryz.prog 64 V63
noncomputable def c63:Code:=(Tryz.f63.body.getD .skip)
noncomputable def c63_1:=cR c63
noncomputable def c63_2:=cR c63_1
noncomputable def c63_3:=cR c63_2
noncomputable def c63_4:=cR c63_3
noncomputable def c63_5:=cR c63_4
noncomputable def b63_11:List Row:=[(0, 0, 1, 59, true), (1, 1, 288230376151711744, 60, true), (2, 3, 576460752303423488, 61, true), (4, 7, 1152921504606846976, 62, true), (0, 0, 2, 63, true), (0, 0, 32, 64, true), (63, 63, 16140901064495857664, 0, false)]
noncomputable def c63_6:=cR c63_5
noncomputable def c63_7:=cL c63_4
noncomputable def b63_8:List Row:=[(0, 0, 1, 45, true), (1, 1, 17592186044416, 46, true), (2, 3, 35184372088832, 47, true), (4, 7, 70368744177664, 48, true), (8, 15, 140737488355328, 49, true), (0, 0, 1, 50, true), (32, 32, 562949953421312, 51, true), (64, 96, 1125899906842624, 52, true), (128, 224, 2251799813685248, 53, true), (272, 511, 4785074604081152, 54, true)]
noncomputable def c63_8:=cR c63_7
noncomputable def c63_9:=cL c63_8
noncomputable def c63_10:=cR c63_9
noncomputable def c63_11:=cL c63_3
noncomputable def c63_12:=cR c63_11
noncomputable def c63_13:=cL c63_12
noncomputable def c63_14:=cL c63_2
noncomputable def c63_15:=cR c63_14
noncomputable def c63_16:=cR c63_15
noncomputable def c63_17:=cL c63_16
noncomputable def c63_18:=cL c63_1
noncomputable def c63_19:=cR c63_18
noncomputable def c63_20:=cL c63_19
def c63_6_s:=reg63 c63_6 .ret (fun N M G k e w =>
 M (.slice none 0 0) fun t6 =>
 M (.bool false) fun t7 =>
 k (Env.p (Env.p e 6 t6) 7 t7) w)
def c63_5_s:=drw63 c63_5 c63_6 b63_11 7 (fun N T M G H Y k e w =>
 M (e 0) fun t58 =>
 T (FrX none w) (xnil t58) fun t59 =>
 T (FrX none w) (xv (fieldAt 179 t59 2)) fun t60 =>
 T (FrX (some []) w) (xv (loadAt 177 t60)) fun t61 =>
 M (e 1) fun t62 =>
 T (FrX (some []) w) (xv (loadAt 38 (e 5))) fun t63 =>
 N (xu (Instr.mapUpdate 177 t61 t62 t63)) w fun _ w6 =>
 k e w6)
def c63_10_s:=reg63 c63_10 .ret (fun N M G k e w =>
 M (.slice none 0 0) fun t6 =>
 M (.bool true) fun t7 =>
 k (Env.p (Env.p e 6 t6) 7 t7) w)
def c63_9_s:=reg63 c63_9 c63_10 (fun N M G k e w =>
 M (e 0) fun t54 =>
 N (xnil t54) w fun t55 w =>
 N (xv (fieldAt 179 t55 2)) w fun t56 w =>
 N (xv (loadAt 177 t56)) w fun t57 w =>
 N (builtin Builtin.clear #[177] 0 ([false]).toArray ([t57]).toArray) w fun _ w =>
 k e w)
def c63_8_s:=cond63 c63_8 .skip 53 c63_9
def c63_7_s:=drw63 c63_7 c63_8 b63_8 10 (fun N T M G H Y k e w =>
 M (e 0) fun t44 =>
 T (FrX none w) (xnil t44) fun t45 =>
 T (FrX none w) (xv (fieldAt 179 t45 2)) fun t46 =>
 T (FrX (some []) w) (xv (loadAt 177 t46)) fun t47 =>
 T (FrX (some []) w) (builtin Builtin.len #[177] 3 ([false]).toArray ([t47]).toArray) fun t48 =>
 M (e 0) fun t49 =>
 T (FrX none w) (xnil t49) fun t50 =>
 T (FrX none w) (xv (fieldAt 179 t50 1)) fun t51 =>
 T (FrX (some []) w) (xv (loadAt 3 t51)) fun t52 =>
 T (FrX none w) (xv (xbin .geq 3 (.tmp 48) (.tmp 52) t48 t52)) fun t53 =>
 k (Env.p e 53 t53) w)
def c63_4_s:=seq63 c63_4 c63_5 c63_7
def c63_13_s:=reg63 c63_13 .ret (fun N M G k e w =>
 M (e 0) fun t41 =>
 N (xv (loadAt 38 (e 5))) w fun t42 w =>
 N (xcall (.func (.func 134) #[] #[]) [t41, t42]) w fun t43 w =>
 M t43 fun t6 =>
 M (.bool false) fun t7 =>
 k (Env.p (Env.p e 6 t6) 7 t7) w)
def c63_12_s:=cond63 c63_12 .skip 40 c63_13
def c63_11_s:=reg63 c63_11 c63_12 (fun N M G k e w =>
 M (e 1) fun t34 =>
 M (e 0) fun t35 =>
 N (xnil t35) w fun t36 w =>
 N (xv (fieldAt 179 t36 0)) w fun t37 w =>
 N (xv (loadAt 2 t37)) w fun t38 w =>
 N (xv (xbin .add 2 (.tmp 38) (.const (.int .i64 1)) t38 (.int .i64 1))) w fun t39 w =>
 N (xv (xbin .eql 2 (.tmp 34) (.tmp 39) t34 t39)) w fun t40 w =>
 k (Env.p e 40 t40) w)
def c63_3_s:=seq63 c63_3 c63_4 c63_11
def c63_17_s:=reg63 c63_17 .ret (fun N M G k e w =>
 M (.slice none 0 0) fun t6 =>
 M (.bool false) fun t7 =>
 k (Env.p (Env.p e 6 t6) 7 t7) w)
def c63_16_s:=cond63 c63_16 .skip 33 c63_17
def c63_15_s:=reg63 c63_15 c63_16 (fun N M G k e w =>
 M (e 9) fun t33 =>
 k (Env.p e 33 t33) w)
def c63_14_s:=reg63 c63_14 c63_15 (fun N M G k e w =>
 M (e 0) fun t25 =>
 N (xnil t25) w fun t26 w =>
 N (xv (fieldAt 179 t26 2)) w fun t27 w =>
 N (xv (loadAt 177 t27)) w fun t28 w =>
 M (e 1) fun t29 =>
 N (xv (Instr.lookup 177 t28 t29 true)) w fun t30 w =>
 M t30 fun t24 =>
 N (xv (Instr.extract t24 0)) w fun t31 w =>
 N (xv (Instr.extract t24 1)) w fun t32 w =>
 N (xv (Instr.alloc 38 true (.tuple #[]))) w fun t8 w =>
 N (xu (storeAt 38 t8 t31)) w fun _ w =>
 M t32 fun t9 =>
 k (Env.p e 9 t9) w)
def c63_2_s:=seq63 c63_2 c63_3 c63_14
def c63_20_s:=reg63 c63_20 .ret (fun N M G k e w =>
 M (.slice none 0 0) fun t6 =>
 M (.bool false) fun t7 =>
 k (Env.p (Env.p e 6 t6) 7 t7) w)
def c63_19_s:=cond63 c63_19 .skip 23 c63_20
def c63_18_s:=reg63 c63_18 c63_19 (fun N M G k e w =>
 M (e 0) fun t10 =>
 N (xv (xbin .eql 115 (.tmp 10) (.const (.pointer none)) t10 (.pointer none))) w fun t11 w =>
 M t11 fun t12 =>
 G (isB t12 false) (fun K => M (e 1) fun v => K v w) (fun t13 w =>
 G (isB t12 false) (fun K => M (e 0) fun v => K v w) (fun t14 w =>
 G (isB t12 false) (fun K => N (xnil t14) w K) (fun t15 w =>
 G (isB t12 false) (fun K => N (xv (fieldAt 179 t15 0)) w K) (fun t16 w =>
 G (isB t12 false) (fun K => N (xv (loadAt 2 t16)) w K) (fun t17 w =>
 G (isB t12 false) (fun K => N (xv (xbin .leq 2 (.tmp 13) (.tmp 17) t13 t17)) w K) (fun t18 w =>
 N (xpick t12 (.bool true) t18) w fun t19 w =>
 M t19 fun t20 =>
 G (isB t20 false) (fun K => M (e 1) fun v => K v w) (fun t21 w =>
 G (isB t20 false) (fun K => N (xv (xbin .gtr 2 (.tmp 21) (.const (.int .i64 1099511627776)) t21 (.int .i64 1099511627776))) w K) (fun t22 w =>
 N (xpick t20 (.bool true) t22) w fun t23 w =>
 k (Env.p e 23 t23) w) w) w) w) w) w) w) w) w)
def c63_1_s:=seq63 c63_1 c63_2 c63_18
def c63_s:=reg63 c63 c63_1 (fun N M G k e w =>
 N (xv (Instr.box 38 (e 2))) w fun t5 w =>
 M (.slice none 0 0) fun t6 =>
 M (.bool false) fun t7 =>
 k (Env.p (Env.p (Env.p e 5 t5) 6 t6) 7 t7) w)
theorem call63 {a0 a1 a2 : Value} {w : World} {R : Value → World → Prop} (h : W3 Tryz.prog 64 V63 c63 (retQ Tryz.prog [.tmp 6, .tmp 7] R) (argE [a0, a1, a2]) w) : CallsN Tryz.prog 63 [a0, a1, a2] w R :=
 callsN_of_W3 (c := c63) (rs := [.tmp 6, .tmp 7]) V63 Tryz.ntmps63 (by rw [Tryz.results63]) mixed Tryz.func63 (by kernel_rfl) (by kernel_rfl) (by kernel_rfl) (by kernel_rfl) (by simp) h
def w3t_63:=w3t Tryz.prog 64 V63
def hk63 := aI @c63_6_s <| aI @c63_5_s <| aI @c63_10_s <| aI @c63_9_s <| aI @c63_8_s <| aI @c63_7_s <| aI @c63_4_s <| aI @c63_13_s <| aI @c63_12_s <| aI @c63_11_s <| aI @c63_3_s <| aI @c63_17_s <| aI @c63_16_s <| aI @c63_15_s <| aI @c63_14_s <| aI @c63_2_s <| aI @c63_20_s <| aI @c63_19_s <| aI @c63_18_s <| aI @c63_1_s <| aI @c63_s <| @w3t_63
-- K63: ↓hk63
/-! ### (*vouch/gap.Gap[vouch/api.Record]) . out -/
def V134 : Nat → Bool := fun i => [0, 1, 3, 4, 5, 6, 7, 31].elem i
def block134:=@s_block Tryz.prog 52 V134
def cond134:=@s_cond Tryz.prog 52 V134
def drw134:=@s_drw Tryz.prog 52 V134
def drwE134:=@s_drwE Tryz.prog 52 V134
def loop134:=@s_loop Tryz.prog 52 V134
def reg134:=@s_reg Tryz.prog 52 V134
def seq134:=@s_seq Tryz.prog 52 V134
noncomputable def c134:Code:=(Tryz.f134.body.getD .skip)
noncomputable def c134_1:=cR c134
noncomputable def c134_2:=cR c134_1
noncomputable def c134_3:=cR c134_2
noncomputable def c134_4:=cL c134_3
noncomputable def c134_5:=cL c134_4
noncomputable def c134_6:=cL c134_5
noncomputable def b134_3:List Row:=[(0, 0, 1, 19, true), (1, 1, 262144, 20, true), (2, 3, 524288, 21, true), (4, 7, 1048576, 22, true), (0, 0, 1, 23, true), (16, 16, 4194304, 24, true), (32, 48, 8388608, 25, true), (64, 112, 16777216, 26, true), (128, 240, 33554432, 27, true), (264, 511, 69206016, 28, true), (512, 1023, 134217728, 18, true), (1024, 2047, 131072, 29, true), (1024, 2047, 131072, 30, true), (0, 0, 0, 7, false), (12287, 12287, 268435520, 0, false), (32767, 32767, 536870912, 8, true)]
noncomputable def c134_7:=cR c134_6
noncomputable def c134_8:=cR c134_7
noncomputable def c134_9:=cR c134_8
noncomputable def c134_10:=cR c134_9
noncomputable def b134_8:List Row:=[(0, 0, 1, 45, true), (1, 1, 17592186044416, 46, true), (2, 3, 35184372088832, 47, true), (4, 7, 70368744177664, 48, true), (0, 0, 1, 49, true), (16, 16, 281474976710656, 50, true), (32, 48, 562949953421312, 51, true), (64, 112, 1125899906842624, 52, true), (136, 255, 2392537302040576, 0, false)]
noncomputable def c134_11:=cL c134_7
noncomputable def c134_12:=cR c134_11
noncomputable def c134_13:=cL c134_12
def c134_10_s:=drwE134 c134_10 b134_8 9 (fun N T M G H Y k e w =>
 M (e 0) fun t44 =>
 T (FrX none w) (xnil t44) fun t45 =>
 T (FrX none w) (xv (fieldAt 179 t45 2)) fun t46 =>
 T (FrX (some []) w) (xv (loadAt 177 t46)) fun t47 =>
 M (e 0) fun t48 =>
 T (FrX none w) (xnil t48) fun t49 =>
 T (FrX none w) (xv (fieldAt 179 t49 0)) fun t50 =>
 T (FrX (some []) w) (xv (loadAt 2 t50)) fun t51 =>
 N (builtin Builtin.delete #[177, 2] 0 ([false, false]).toArray ([t47, t51]).toArray) w fun _ w8 =>
 k e w8)
def c134_9_s:=reg134 c134_9 c134_10 (fun N M G k e w =>
 M (e 0) fun t37 =>
 N (xnil t37) w fun t38 w =>
 N (xv (fieldAt 179 t38 0)) w fun t39 w =>
 N (xv (loadAt 2 t39)) w fun t40 w =>
 N (xv (xbin .add 2 (.tmp 40) (.const (.int .i64 1)) t40 (.int .i64 1))) w fun t41 w =>
 N (xnil t37) w fun t42 w =>
 N (xv (fieldAt 179 t42 0)) w fun t43 w =>
 N (xu (storeAt 2 t43 t41)) w fun _ w =>
 k e w)
def c134_8_s:=reg134 c134_8 c134_9 (fun N M G k e w =>
 M (e 5) fun t33 =>
 N (xv (loadAt 38 (e 6))) w fun t34 w =>
 N (xv (Instr.buildSlice 95 1 ([(0, t34)]).toArray)) w fun t35 w =>
 N (builtin Builtin.append #[95, 95] 95 ([false, false]).toArray ([t33, t35]).toArray) w fun t36 w =>
 M t36 fun t5 =>
 k (Env.p e 5 t5) w)
def c134_13_s:=reg134 c134_13 .ret (fun N M G k e w =>
 M (e 5) fun t32 =>
 M t32 fun t4 =>
 k (Env.p e 4 t4) w)
def c134_12_s:=cond134 c134_12 .skip 31 c134_13
def c134_11_s:=reg134 c134_11 c134_12 (fun N M G k e w =>
 M (e 7) fun t30 =>
 N (xv (Op.unary .not t30)) w fun t31 w =>
 k (Env.p e 31 t31) w)
def c134_7_s:=seq134 c134_7 c134_8 c134_11
def c134_6_s:=drw134 c134_6 c134_7 b134_3 16 (fun N T M G H Y k e w =>
 M (e 0) fun t18 =>
 T (FrX none w) (xnil t18) fun t19 =>
 T (FrX none w) (xv (fieldAt 179 t19 2)) fun t20 =>
 T (FrX (some []) w) (xv (loadAt 177 t20)) fun t21 =>
 M (e 0) fun t22 =>
 T (FrX none w) (xnil t22) fun t23 =>
 T (FrX none w) (xv (fieldAt 179 t23 0)) fun t24 =>
 T (FrX (some []) w) (xv (loadAt 2 t24)) fun t25 =>
 T (FrX none w) (xv (xbin .add 2 (.tmp 25) (.const (.int .i64 1)) t25 (.int .i64 1))) fun t26 =>
 T (FrX (some []) w) (xv (Instr.lookup 177 t21 t26 true)) fun t27 =>
 M t27 fun t17 =>
 T (FrX none w) (xv (Instr.extract t17 0)) fun t28 =>
 T (FrX none w) (xv (Instr.extract t17 1)) fun t29 =>
 N (xv (Instr.alloc 38 true (.tuple #[]))) w fun t6 w13 =>
 Y true (xv (Instr.lookup 177 t21 t26 true)) t27 w w13 ∧ (Y true (xv (loadAt 2 t24)) t25 w w13 ∧ (Y true (xv (loadAt 177 t20)) t21 w w13 ∧ (N (xu (storeAt 38 t6 t28)) w13 fun _ w14 =>
 M t29 fun t7 =>
 k (Env.p (Env.p e 6 t6) 7 t7) w14))))
def c134_5_s:=block134 c134_5 c134_6 1
def c134_4_s:=loop134 c134_4 c134_5
def c134_3_s:=block134 c134_3 c134_4 0
def c134_2_s:=reg134 c134_2 c134_3 (fun N M G k e w =>
 M (e 0) fun t10 =>
 N (xnil t10) w fun t11 w =>
 N (xv (fieldAt 179 t11 0)) w fun t12 w =>
 N (xv (loadAt 2 t12)) w fun t13 w =>
 N (xv (xbin .add 2 (.tmp 13) (.const (.int .i64 1)) t13 (.int .i64 1))) w fun t14 w =>
 N (xnil t10) w fun t15 w =>
 N (xv (fieldAt 179 t15 0)) w fun t16 w =>
 N (xu (storeAt 2 t16 t14)) w fun _ w =>
 k e w)
def c134_1_s:=reg134 c134_1 c134_2 (fun N M G k e w =>
 N (xv (loadAt 38 (e 3))) w fun t8 w =>
 N (xv (Instr.buildSlice 95 1 ([(0, t8)]).toArray)) w fun t9 w =>
 M t9 fun t5 =>
 k (Env.p e 5 t5) w)
def c134_s:=reg134 c134 c134_1 (fun N M G k e w =>
 N (xv (Instr.box 38 (e 1))) w fun t3 w =>
 M (.slice none 0 0) fun t4 =>
 k (Env.p (Env.p e 3 t3) 4 t4) w)
theorem call134 {a0 a1 : Value} {w : World} {R : Value → World → Prop} (h : W3 Tryz.prog 52 V134 c134 (retQ Tryz.prog [.tmp 4] R) (argE [a0, a1]) w) : CallsN Tryz.prog 134 [a0, a1] w R :=
 callsN_of_W3 (c := c134) (rs := [.tmp 4]) V134 Tryz.ntmps134 (by rw [Tryz.results134]) mixed Tryz.func134 (by kernel_rfl) (by kernel_rfl) (by kernel_rfl) (by kernel_rfl) (by simp) h
def w3t_134:=w3t Tryz.prog 52 V134
def hk134 := aI @c134_10_s <| aI @c134_9_s <| aI @c134_8_s <| aI @c134_13_s <| aI @c134_12_s <| aI @c134_11_s <| aI @c134_7_s <| aI @c134_6_s <| aI @c134_5_s <| aI @c134_4_s <| aI @c134_3_s <| aI @c134_2_s <| aI @c134_1_s <| aI @c134_s <| @w3t_134
-- K134: ↓hk134
/-! ### (*vouch/gap.Gap[vouch/api.Record]) . At -/
def V70 : Nat → Bool := fun i => [0, 2, 4].elem i
def cond70:=@s_cond Tryz.prog 9 V70
def reg70:=@s_reg Tryz.prog 9 V70
def seq70:=@s_seq Tryz.prog 9 V70
noncomputable def c70:Code:=(Tryz.f70.body.getD .skip)
noncomputable def c70_1:=cR c70
noncomputable def c70_2:=cR c70_1
noncomputable def c70_3:=cL c70_1
noncomputable def c70_4:=cR c70_3
noncomputable def c70_5:=cL c70_4
def c70_2_s:=reg70 c70_2 .ret (fun N M G k e w =>
 M (e 0) fun t5 =>
 N (xnil t5) w fun t6 w =>
 N (xv (fieldAt 179 t6 0)) w fun t7 w =>
 N (xv (loadAt 2 t7)) w fun t8 w =>
 M t8 fun t2 =>
 k (Env.p e 2 t2) w)
def c70_5_s:=reg70 c70_5 .ret (fun N M G k e w =>
 M (.int .i64 0) fun t2 =>
 k (Env.p e 2 t2) w)
def c70_4_s:=cond70 c70_4 .skip 4 c70_5
def c70_3_s:=reg70 c70_3 c70_4 (fun N M G k e w =>
 M (e 0) fun t3 =>
 N (xv (xbin .eql 115 (.tmp 3) (.const (.pointer none)) t3 (.pointer none))) w fun t4 w =>
 k (Env.p e 4 t4) w)
def c70_1_s:=seq70 c70_1 c70_2 c70_3
def c70_s:=reg70 c70 c70_1 (fun N M G k e w =>
 M (.int .i64 0) fun t2 =>
 k (Env.p e 2 t2) w)
theorem call70 {a0 : Value} {w : World} {R : Value → World → Prop} (h : W3 Tryz.prog 9 V70 c70 (retQ Tryz.prog [.tmp 2] R) (argE [a0]) w) : CallsN Tryz.prog 70 [a0] w R :=
 callsN_of_W3 (c := c70) (rs := [.tmp 2]) V70 Tryz.ntmps70 (by rw [Tryz.results70]) mixed Tryz.func70 (by kernel_rfl) (by kernel_rfl) (by kernel_rfl) (by kernel_rfl) (by simp) h
def w3t_70:=w3t Tryz.prog 9 V70
def hk70 := aI @c70_2_s <| aI @c70_5_s <| aI @c70_4_s <| aI @c70_3_s <| aI @c70_1_s <| aI @c70_s <| @w3t_70
-- K70: ↓hk70
/-! ### (*vouch/gap.Gap[vouch/api.Record]) . Waits -/
def V61 : Nat → Bool := fun i => [0, 2, 4].elem i
def cond61:=@s_cond Tryz.prog 11 V61
def reg61:=@s_reg Tryz.prog 11 V61
def seq61:=@s_seq Tryz.prog 11 V61
noncomputable def c61:Code:=(Tryz.f61.body.getD .skip)
noncomputable def c61_1:=cR c61
noncomputable def c61_2:=cR c61_1
noncomputable def c61_3:=cL c61_1
noncomputable def c61_4:=cR c61_3
noncomputable def c61_5:=cL c61_4
def c61_2_s:=reg61 c61_2 .ret (fun N M G k e w =>
 M (e 0) fun t5 =>
 N (xnil t5) w fun t6 w =>
 N (xv (fieldAt 179 t6 2)) w fun t7 w =>
 N (xv (loadAt 177 t7)) w fun t8 w =>
 N (xcall (.func (.func 133) #[] #[]) [t8]) w fun t9 w =>
 N (xcall (.func (.func 132) #[] #[]) [t9]) w fun t10 w =>
 M t10 fun t2 =>
 k (Env.p e 2 t2) w)
def c61_5_s:=reg61 c61_5 .ret (fun N M G k e w =>
 M (.slice none 0 0) fun t2 =>
 k (Env.p e 2 t2) w)
def c61_4_s:=cond61 c61_4 .skip 4 c61_5
def c61_3_s:=reg61 c61_3 c61_4 (fun N M G k e w =>
 M (e 0) fun t3 =>
 N (xv (xbin .eql 115 (.tmp 3) (.const (.pointer none)) t3 (.pointer none))) w fun t4 w =>
 k (Env.p e 4 t4) w)
def c61_1_s:=seq61 c61_1 c61_2 c61_3
def c61_s:=reg61 c61 c61_1 (fun N M G k e w =>
 M (.slice none 0 0) fun t2 =>
 k (Env.p e 2 t2) w)
theorem call61 {a0 : Value} {w : World} {R : Value → World → Prop} (h : W3 Tryz.prog 11 V61 c61 (retQ Tryz.prog [.tmp 2] R) (argE [a0]) w) : CallsN Tryz.prog 61 [a0] w R :=
 callsN_of_W3 (c := c61) (rs := [.tmp 2]) V61 Tryz.ntmps61 (by rw [Tryz.results61]) mixed Tryz.func61 (by kernel_rfl) (by kernel_rfl) (by kernel_rfl) (by kernel_rfl) (by simp) h
def w3t_61:=w3t Tryz.prog 11 V61
def hk61 := aI @c61_2_s <| aI @c61_5_s <| aI @c61_4_s <| aI @c61_3_s <| aI @c61_1_s <| aI @c61_s <| @w3t_61
-- K61: ↓hk61
/-! ### slices.Clone[[]string,string] -/
def V62 : Nat → Bool := fun i => [0, 2, 4].elem i
def cond62:=@s_cond Tryz.prog 8 V62
def reg62:=@s_reg Tryz.prog 8 V62
def seq62:=@s_seq Tryz.prog 8 V62
noncomputable def c62:Code:=(Tryz.f62.body.getD .skip)
noncomputable def c62_1:=cR c62
noncomputable def c62_2:=cR c62_1
noncomputable def c62_3:=cL c62_1
noncomputable def c62_4:=cR c62_3
noncomputable def c62_5:=cL c62_4
def c62_2_s:=reg62 c62_2 .ret (fun N M G k e w =>
 N (xv (Instr.buildSlice 22 0 ([]).toArray)) w fun t5 w =>
 M (e 0) fun t6 =>
 N (builtin Builtin.append #[22, 22] 22 ([false, false]).toArray ([t5, t6]).toArray) w fun t7 w =>
 M t7 fun t2 =>
 k (Env.p e 2 t2) w)
def c62_5_s:=reg62 c62_5 .ret (fun N M G k e w =>
 M (.slice none 0 0) fun t2 =>
 k (Env.p e 2 t2) w)
def c62_4_s:=cond62 c62_4 .skip 4 c62_5
def c62_3_s:=reg62 c62_3 c62_4 (fun N M G k e w =>
 M (e 0) fun t3 =>
 N (xv (xbin .eql 22 (.tmp 3) (.const (.slice none 0 0)) t3 (.slice none 0 0))) w fun t4 w =>
 k (Env.p e 4 t4) w)
def c62_1_s:=seq62 c62_1 c62_2 c62_3
def c62_s:=reg62 c62 c62_1 (fun N M G k e w =>
 M (.slice none 0 0) fun t2 =>
 k (Env.p e 2 t2) w)
theorem call62 {a0 : Value} {w : World} {R : Value → World → Prop} (h : W3 Tryz.prog 8 V62 c62 (retQ Tryz.prog [.tmp 2] R) (argE [a0]) w) : CallsN Tryz.prog 62 [a0] w R :=
 callsN_of_W3 (c := c62) (rs := [.tmp 2]) V62 Tryz.ntmps62 (by rw [Tryz.results62]) mixed Tryz.func62 (by kernel_rfl) (by kernel_rfl) (by kernel_rfl) (by kernel_rfl) (by simp) h
def w3t_62:=w3t Tryz.prog 8 V62
def hk62 := aI @c62_2_s <| aI @c62_5_s <| aI @c62_4_s <| aI @c62_3_s <| aI @c62_1_s <| aI @c62_s <| @w3t_62
-- K62: ↓hk62
end
end Go.Proofs.YtomlgkecckffeaaGreat
