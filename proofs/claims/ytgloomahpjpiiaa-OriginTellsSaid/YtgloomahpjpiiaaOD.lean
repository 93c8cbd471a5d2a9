/- The equations of the code of some functions, written by the printer gen3.py: each is checked by the kernel. -/
import Derived.Test.YtgloomahpjpiiaaQ0
import Derived.Test.YtgloomahpjpiiaaCI
set_option linter.unusedVariables false
set_option linter.unusedSimpArgs false
set_option maxRecDepth 100000
namespace Go.Proofs.Ytgloomahpjpiiaa
open Go.VW
noncomputable section
set_option linter.defProp false
variable {N : NT} {T : T3T} {M : MT} {G : GT} {H : HT} {Y : YT} {k : KT} {Q : Exit → Env → World → Prop} {e el eg : Env} {w u0 u1 u2 u3 u4 u5 u6 u7 u8 u9 : World}
/-! ### (*vouch/origin.Origin) . Clone -/
def V15 : Nat → Bool := fun i => [0, 2, 4].elem i
noncomputable def c15:Code:=(Try.f15.body.getD .skip)
noncomputable def o15_0:Array Oper:=rO (cL c15)
noncomputable def c15_1:Code:=(cR c15)
noncomputable def c15_2:Code:=(cR c15_1)
noncomputable def o15_3:Array Oper:=rO (cL c15_2)
noncomputable def b15_3:List Row:=[(0, 0, 1, 6, true), (1, 1, 32, 7, true), (2, 3, 64, 8, true), (4, 7, 128, 9, true), (0, 0, 1, 10, true), (16, 16, 512, 11, true), (32, 48, 1024, 12, true), (64, 112, 2048, 13, true), (128, 240, 4096, 14, false), (0, 0, 1, 15, true), (512, 512, 16384, 16, true), (1024, 1536, 32768, 17, true), (2048, 3584, 65536, 18, true), (4352, 8176, 131072, 19, false), (0, 0, 1, 20, true), (16384, 16384, 524288, 21, true), (32768, 49152, 1048576, 22, true), (65536, 114688, 2097152, 23, true), (139264, 262128, 4194304, 24, false), (270600, 524287, 8659200, 25, true), (524288, 1048575, 16777216, 26, false), (2097151, 2097151, 33554432, 3, true)]
noncomputable def c15_3:Code:=(cL c15_1)
noncomputable def o15_1:Array Oper:=rO (cL c15_3)
noncomputable def c15_4:Code:=(cR c15_3)
noncomputable def c15_5:Code:=(cL c15_4)
noncomputable def o15_2:Array Oper:=rO (cL c15_5)
noncomputable def c15_2_s:=@s_drw Try.prog 26 V15 c15_2 .ret 3 o15_3 b15_3 22 (fun N T M G H Y k e w =>
    M (e 0) fun t5 =>
    T (FrX none w) (xnil t5) fun t6 =>
    T (FrX none w) (xv (Instr.fieldAt 66 t6 0)) fun t7 =>
    T (FrX (some []) w) (xv (Instr.loadAt 28 t7)) fun t8 =>
    M (e 0) fun t9 =>
    T (FrX none w) (xnil t9) fun t10 =>
    T (FrX none w) (xv (Instr.fieldAt 66 t10 1)) fun t11 =>
    T (FrX (some []) w) (xv (Instr.loadAt 60 t11)) fun t12 =>
    M (e 0) fun t14 =>
    T (FrX none w) (xnil t14) fun t15 =>
    T (FrX none w) (xv (Instr.fieldAt 66 t15 2)) fun t16 =>
    T (FrX (some []) w) (xv (Instr.loadAt 62 t16)) fun t17 =>
    M (e 0) fun t19 =>
    T (FrX none w) (xnil t19) fun t20 =>
    T (FrX none w) (xv (Instr.fieldAt 66 t20 3)) fun t21 =>
    T (FrX (some []) w) (xv (Instr.loadAt 64 t21)) fun t22 =>
    N (xcall (Value.func (Fn.func 28) #[] #[]) [t12]) w fun t13 w8 =>
    Y true (xv (Instr.loadAt 64 t21)) t22 w w8 ∧ (Y true (xv (Instr.loadAt 62 t16)) t17 w w8 ∧ (Y true (xv (Instr.loadAt 28 t7)) t8 w w8 ∧ (N (xcall (Value.func (Fn.func 29) #[] #[]) [t17]) w8 fun t18 w13 =>
    Y true (xv (Instr.loadAt 64 t21)) t22 w w13 ∧ (Y true (xv (Instr.loadAt 28 t7)) t8 w w13 ∧ (N (xcall (Value.func (Fn.func 30) #[] #[]) [t22]) w13 fun t23 w18 =>
    Y true (xv (Instr.loadAt 28 t7)) t8 w w18 ∧ (T (FrX none w18) (xv (Instr.build 66 ([(0, t8), (1, t13), (2, t18), (3, t23)]).toArray)) fun t24 =>
    N (xv (Instr.box 66 t24)) w18 fun t25 w20 =>
    M t25 fun t2 =>
    k (Env.p e 2 t2) w20))))))) (by kernel_rfl) (by kernel_rfl) (by kernel_rfl) (by intros; kernel_rfl)
noncomputable def c15_5_s:=@s_reg Try.prog 26 V15 c15_5 .ret 2 o15_2 (fun N M G k e w =>
    M (Value.pointer none) fun t2 =>
    k (Env.p e 2 t2) w) (by kernel_rfl) (by intros; kernel_rfl)
noncomputable def c15_4_s:=@s_cond Try.prog 26 V15 c15_4 .skip 4 c15_5 (by kernel_rfl) (by kernel_rfl)
noncomputable def c15_3_s:=@s_reg Try.prog 26 V15 c15_3 c15_4 1 o15_1 (fun N M G k e w =>
    M (e 0) fun t3 =>
    N (xv (xbin BinOp.eql 25 (Operand.tmp 3) (Operand.const (Value.pointer none)) t3 (Value.pointer none))) w fun t4 w =>
    k (Env.p e 4 t4) w) (by kernel_rfl) (by intros; kernel_rfl)
noncomputable def c15_1_s:=@s_seq Try.prog 26 V15 c15_1 c15_2 c15_3 (by kernel_rfl)
noncomputable def c15_s:=@s_reg Try.prog 26 V15 c15 c15_1 0 o15_0 (fun N M G k e w =>
    M (Value.pointer none) fun t2 =>
    k (Env.p e 2 t2) w) (by kernel_rfl) (by intros; kernel_rfl)
theorem call15 {a0 : Value} {w : World} {R : Value → World → Prop} (h : W3 Try.prog 26 V15 c15 (retQ Try.prog [.tmp 2] R) (argE [a0]) w) : CallsN Try.prog 15 [a0] w R :=
  callsN_of_W3 (c := c15) (rs := [.tmp 2]) V15 Try.ntmps15 (by rw [Try.results15]) mixed Try.func15 (by kernel_rfl) (by kernel_rfl) (by kernel_rfl) (by kernel_rfl) (by simp) h
noncomputable def w3t_15:=w3t Try.prog 26 V15
noncomputable def hk15 := And.intro @c15_2_s <| And.intro @c15_5_s <| And.intro @c15_4_s <| And.intro @c15_3_s <| And.intro @c15_1_s <| And.intro @c15_s <| @w3t_15
-- K15: ↓hk15
end
end Go.Proofs.Ytgloomahpjpiiaa
