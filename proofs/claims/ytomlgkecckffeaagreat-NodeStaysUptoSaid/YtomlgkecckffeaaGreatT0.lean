/- Type facts, written by the printer gent.py. -/
import Derived.Test.YtomlgkecckffeaaGreatC5
import Derived.Test.YtomlgkecckffeaaGreatC8
set_option linter.unusedVariables false
set_option linter.unusedSimpArgs false
namespace Go.Proofs.YtomlgkecckffeaaGreat
open Go.VW
noncomputable section
set_option linter.defProp false
variable {N : List Nat} {M : Option (List Nat)} {w0 : World} (b i f len cap : Nat) (hb : b ∉ N) (r : Nat) (hr : r ∉ N) (parts : List (Nat × Value)) (ty : TypeId) (cs : Array Bool) (s : ByteArray) (x y : Operand) (K2 : Value → Prop) (n : Int) (v : Value) (w : World) (K : Value → World → Prop)
def ld2:=run_loadAt1 Tryz.isAgg2 b i w K
def tld2:=takeP_ld (N:=N) (w0:=w0) (ld2 b i) hb K2
def ld3:=run_loadAt1 Tryz.isAgg3 b i w K
def tld3:=takeP_ld (N:=N) (w0:=w0) (ld3 b i) hb K2
def ld4:=run_loadAt1 Tryz.isAgg4 b i w K
def tld4:=takeP_ld (N:=N) (w0:=w0) (ld4 b i) hb K2
def ld5:=run_loadAt1 Tryz.isAgg5 b i w K
def tld5:=takeP_ld (N:=N) (w0:=w0) (ld5 b i) hb K2
def ld9:=run_loadAt1 Tryz.isAgg9 b i w K
def tld9:=takeP_ld (N:=N) (w0:=w0) (ld9 b i) hb K2
def ld22:=run_loadAt1 Tryz.isAgg22 b i w K
def tld22:=takeP_ld (N:=N) (w0:=w0) (ld22 b i) hb K2
def ld25:=run_loadAtN Tryz.isAgg25 Tryz.sizeOf25 b i w K
def tld25:=takeP_ldn (N:=N) (w0:=w0) (ld25 b i) hb K2
def ld26:=run_loadAt1 Tryz.isAgg26 b i w K
def tld26:=takeP_ld (N:=N) (w0:=w0) (ld26 b i) hb K2
def ld31:=run_loadAtN Tryz.isAgg31 Tryz.sizeOf31 b i w K
def tld31:=takeP_ldn (N:=N) (w0:=w0) (ld31 b i) hb K2
def ld34:=run_loadAtN Tryz.isAgg34 Tryz.sizeOf34 b i w K
def tld34:=takeP_ldn (N:=N) (w0:=w0) (ld34 b i) hb K2
def ld38:=run_loadAtN Tryz.isAgg38 Tryz.sizeOf38 b i w K
def tld38:=takeP_ldn (N:=N) (w0:=w0) (ld38 b i) hb K2
def ld40:=run_loadAt1 Tryz.isAgg40 b i w K
def tld40:=takeP_ld (N:=N) (w0:=w0) (ld40 b i) hb K2
def ld41:=run_loadAt1 Tryz.isAgg41 b i w K
def tld41:=takeP_ld (N:=N) (w0:=w0) (ld41 b i) hb K2
def ld43:=run_loadAtN Tryz.isAgg43 Tryz.sizeOf43 b i w K
def tld43:=takeP_ldn (N:=N) (w0:=w0) (ld43 b i) hb K2
def ld48:=run_loadAtN Tryz.isAgg48 Tryz.sizeOf48 b i w K
def tld48:=takeP_ldn (N:=N) (w0:=w0) (ld48 b i) hb K2
def ld50:=run_loadAtN Tryz.isAgg50 Tryz.sizeOf50 b i w K
def tld50:=takeP_ldn (N:=N) (w0:=w0) (ld50 b i) hb K2
def ld52:=run_loadAtN Tryz.isAgg52 Tryz.sizeOf52 b i w K
def tld52:=takeP_ldn (N:=N) (w0:=w0) (ld52 b i) hb K2
def ld56:=run_loadAt1 Tryz.isAgg56 b i w K
def tld56:=takeP_ld (N:=N) (w0:=w0) (ld56 b i) hb K2
def ld70:=run_loadAtN Tryz.isAgg70 Tryz.sizeOf70 b i w K
def tld70:=takeP_ldn (N:=N) (w0:=w0) (ld70 b i) hb K2
def ld89:=run_loadAt1 Tryz.isAgg89 b i w K
def tld89:=takeP_ld (N:=N) (w0:=w0) (ld89 b i) hb K2
def ld98:=run_loadAt1 Tryz.isAgg98 b i w K
def tld98:=takeP_ld (N:=N) (w0:=w0) (ld98 b i) hb K2
def ld114:=run_loadAt1 Tryz.isAgg114 b i w K
def tld114:=takeP_ld (N:=N) (w0:=w0) (ld114 b i) hb K2
def ld115:=run_loadAt1 Tryz.isAgg115 b i w K
def tld115:=takeP_ld (N:=N) (w0:=w0) (ld115 b i) hb K2
def ld116:=run_loadAt1 Tryz.isAgg116 b i w K
def tld116:=takeP_ld (N:=N) (w0:=w0) (ld116 b i) hb K2
def ld118:=run_loadAtN Tryz.isAgg118 Tryz.sizeOf118 b i w K
def tld118:=takeP_ldn (N:=N) (w0:=w0) (ld118 b i) hb K2
def ld135:=run_loadAtN Tryz.isAgg135 Tryz.sizeOf135 b i w K
def tld135:=takeP_ldn (N:=N) (w0:=w0) (ld135 b i) hb K2
def ld141:=run_loadAt1 Tryz.isAgg141 b i w K
def tld141:=takeP_ld (N:=N) (w0:=w0) (ld141 b i) hb K2
def ld151:=run_loadAt1 Tryz.isAgg151 b i w K
def tld151:=takeP_ld (N:=N) (w0:=w0) (ld151 b i) hb K2
def ld158:=run_loadAt1 Tryz.isAgg158 b i w K
def tld158:=takeP_ld (N:=N) (w0:=w0) (ld158 b i) hb K2
def ld177:=run_loadAt1 Tryz.isAgg177 b i w K
def tld177:=takeP_ld (N:=N) (w0:=w0) (ld177 b i) hb K2
def ld184:=run_loadAtN Tryz.isAgg184 Tryz.sizeOf184 b i w K
def tld184:=takeP_ldn (N:=N) (w0:=w0) (ld184 b i) hb K2
def ld187:=run_loadAtN Tryz.isAgg187 Tryz.sizeOf187 b i w K
def tld187:=takeP_ldn (N:=N) (w0:=w0) (ld187 b i) hb K2
def ld192:=run_loadAt1 Tryz.isAgg192 b i w K
def tld192:=takeP_ld (N:=N) (w0:=w0) (ld192 b i) hb K2
def ld273:=run_loadAt1 Tryz.isAgg273 b i w K
def tld273:=takeP_ld (N:=N) (w0:=w0) (ld273 b i) hb K2
def st2:=run_storeAt Tryz.sizeOf2 (by decide) b i v w K
def st3:=run_storeAt Tryz.sizeOf3 (by decide) b i v w K
def st4:=run_storeAt Tryz.sizeOf4 (by decide) b i v w K
def st9:=run_storeAt Tryz.sizeOf9 (by decide) b i v w K
def st22:=run_storeAt Tryz.sizeOf22 (by decide) b i v w K
def st25:=run_storeAt Tryz.sizeOf25 (by decide) b i v w K
def st31:=run_storeAt Tryz.sizeOf31 (by decide) b i v w K
def st34:=run_storeAt Tryz.sizeOf34 (by decide) b i v w K
def st38:=run_storeAt Tryz.sizeOf38 (by decide) b i v w K
def st40:=run_storeAt Tryz.sizeOf40 (by decide) b i v w K
def st41:=run_storeAt Tryz.sizeOf41 (by decide) b i v w K
def st43:=run_storeAt Tryz.sizeOf43 (by decide) b i v w K
def st48:=run_storeAt Tryz.sizeOf48 (by decide) b i v w K
def st50:=run_storeAt Tryz.sizeOf50 (by decide) b i v w K
def st52:=run_storeAt Tryz.sizeOf52 (by decide) b i v w K
def st89:=run_storeAt Tryz.sizeOf89 (by decide) b i v w K
def st98:=run_storeAt Tryz.sizeOf98 (by decide) b i v w K
def st114:=run_storeAt Tryz.sizeOf114 (by decide) b i v w K
def st115:=run_storeAt Tryz.sizeOf115 (by decide) b i v w K
def st116:=run_storeAt Tryz.sizeOf116 (by decide) b i v w K
def st118:=run_storeAt Tryz.sizeOf118 (by decide) b i v w K
def st135:=run_storeAt Tryz.sizeOf135 (by decide) b i v w K
def st158:=run_storeAt Tryz.sizeOf158 (by decide) b i v w K
def st177:=run_storeAt Tryz.sizeOf177 (by decide) b i v w K
def st184:=run_storeAt Tryz.sizeOf184 (by decide) b i v w K
def st187:=run_storeAt Tryz.sizeOf187 (by decide) b i v w K
def st192:=run_storeAt Tryz.sizeOf192 (by decide) b i v w K
def st202:=run_storeAt Tryz.sizeOf202 (by decide) b i v w K
def st273:=run_storeAt Tryz.sizeOf273 (by decide) b i v w K
theorem al25 (x : Value) (w : World) : (Instr.alloc 25 true x).run Tryz.prog w = .ok (.pointer (some ⟨w.heap.size, 0, none⟩)) (w.alloc (.cells ([(.int .i64 0), (.int .i64 0), (.int .i64 0), (.int .i64 0), (.int .i64 0), (.int .i64 0), (.int .i64 0), (.int .i64 0)] : List Value).toArray 25)) := run_alloc Tryz.zeroValue25 x w
theorem al31 (x : Value) (w : World) : (Instr.alloc 31 true x).run Tryz.prog w = .ok (.pointer (some ⟨w.heap.size, 0, none⟩)) (w.alloc (.cells ([(.bool false), (.string ⟨#[]⟩)] : List Value).toArray 31)) := run_alloc Tryz.zeroValue31 x w
theorem al34 (x : Value) (w : World) : (Instr.alloc 34 true x).run Tryz.prog w = .ok (.pointer (some ⟨w.heap.size, 0, none⟩)) (w.alloc (.cells ([(.string ⟨#[]⟩), (.bool false), (.string ⟨#[]⟩), (.int .i64 0), (.int .i64 0)] : List Value).toArray 34)) := run_alloc Tryz.zeroValue34 x w
theorem al38 (x : Value) (w : World) : (Instr.alloc 38 true x).run Tryz.prog w = .ok (.pointer (some ⟨w.heap.size, 0, none⟩)) (w.alloc (.cells ([(.int .i64 0), (.slice none 0 0)] : List Value).toArray 38)) := run_alloc Tryz.zeroValue38 x w
theorem al43 (x : Value) (w : World) : (Instr.alloc 43 true x).run Tryz.prog w = .ok (.pointer (some ⟨w.heap.size, 0, none⟩)) (w.alloc (.cells ([(.bool false), (.bool false), (.int .i64 0), (.int .i64 0), (.int .i64 0), (.slice none 0 0), (.int .i64 0), (.slice none 0 0)] : List Value).toArray 43)) := run_alloc Tryz.zeroValue43 x w
theorem al48 (x : Value) (w : World) : (Instr.alloc 48 true x).run Tryz.prog w = .ok (.pointer (some ⟨w.heap.size, 0, none⟩)) (w.alloc (.cells ([(.int .i64 0), (.int .i64 0)] : List Value).toArray 48)) := run_alloc Tryz.zeroValue48 x w
theorem al50 (x : Value) (w : World) : (Instr.alloc 50 true x).run Tryz.prog w = .ok (.pointer (some ⟨w.heap.size, 0, none⟩)) (w.alloc (.cells ([(.int .u8 0), (.string ⟨#[]⟩), (.int .i64 0), (.int .i64 0), (.string ⟨#[]⟩), (.bool false), (.string ⟨#[]⟩), (.int .i64 0), (.int .i64 0), (.int .i64 0), (.slice none 0 0), (.int .i64 0)] : List Value).toArray 50)) := run_alloc Tryz.zeroValue50 x w
theorem al52 (x : Value) (w : World) : (Instr.alloc 52 true x).run Tryz.prog w = .ok (.pointer (some ⟨w.heap.size, 0, none⟩)) (w.alloc (.cells ([(.string ⟨#[]⟩), (.bool false), (.string ⟨#[]⟩), (.int .i64 0), (.int .i64 0), (.bool false), (.int .i64 0), (.int .i64 0)] : List Value).toArray 52)) := run_alloc Tryz.zeroValue52 x w
theorem al118 (x : Value) (w : World) : (Instr.alloc 118 true x).run Tryz.prog w = .ok (.pointer (some ⟨w.heap.size, 0, none⟩)) (w.alloc (.cells ([(.bool false), (.pointer none), (.pointer none), (.pointer none), (.int .i64 0), (.int .i64 0)] : List Value).toArray 118)) := run_alloc Tryz.zeroValue118 x w
theorem al135 (x : Value) (w : World) : (Instr.alloc 135 true x).run Tryz.prog w = .ok (.pointer (some ⟨w.heap.size, 0, none⟩)) (w.alloc (.cells ([(.int .i64 0), (.int .i64 0)] : List Value).toArray 135)) := run_alloc Tryz.zeroValue135 x w
theorem al184 (x : Value) (w : World) : (Instr.alloc 184 true x).run Tryz.prog w = .ok (.pointer (some ⟨w.heap.size, 0, none⟩)) (w.alloc (.cells ([(.slice none 0 0), (.int .i64 0), (.int .i64 0), (.int .i64 0), (.int .i64 0)] : List Value).toArray 184)) := run_alloc Tryz.zeroValue184 x w
theorem al187 (x : Value) (w : World) : (Instr.alloc 187 true x).run Tryz.prog w = .ok (.pointer (some ⟨w.heap.size, 0, none⟩)) (w.alloc (.cells ([(.int .i64 0), (.string ⟨#[]⟩)] : List Value).toArray 187)) := run_alloc Tryz.zeroValue187 x w
theorem al202 (x : Value) (w : World) : (Instr.alloc 202 true x).run Tryz.prog w = .ok (.pointer (some ⟨w.heap.size, 0, none⟩)) (w.alloc (.cells ([(.int .i64 0), (.int .i64 0), (.int .i64 0), (.int .i64 0)] : List Value).toArray 202)) := run_alloc Tryz.zeroValue202 x w
theorem fa25_0 (b i : Nat) (w : World) : (Instr.fieldAt 25 (.pointer (some ⟨b, i, none⟩)) 0).run Tryz.prog w = .ok (.pointer (some ⟨b, i, none⟩)) w := run_fieldAt Tryz.runUnderlying25 (j := 0) rfl Tryz.sizeOf3 (by decide) b i w
def tfa25_0:=takeP_xv (M:=M) (w0:=w0) (fa25_0 b i) K2
theorem fa25_1 (b i : Nat) (w : World) : (Instr.fieldAt 25 (.pointer (some ⟨b, i, none⟩)) 1).run Tryz.prog w = .ok (.pointer (some ⟨b, i + 1, none⟩)) w := run_fieldAt Tryz.runUnderlying25 (j := 1) rfl Tryz.sizeOf3 (by decide) b i w
def tfa25_1:=takeP_xv (M:=M) (w0:=w0) (fa25_1 b i) K2
theorem fa25_2 (b i : Nat) (w : World) : (Instr.fieldAt 25 (.pointer (some ⟨b, i, none⟩)) 2).run Tryz.prog w = .ok (.pointer (some ⟨b, i + 2, none⟩)) w := run_fieldAt Tryz.runUnderlying25 (j := 2) rfl Tryz.sizeOf3 (by decide) b i w
def tfa25_2:=takeP_xv (M:=M) (w0:=w0) (fa25_2 b i) K2
theorem fa25_3 (b i : Nat) (w : World) : (Instr.fieldAt 25 (.pointer (some ⟨b, i, none⟩)) 3).run Tryz.prog w = .ok (.pointer (some ⟨b, i + 3, none⟩)) w := run_fieldAt Tryz.runUnderlying25 (j := 3) rfl Tryz.sizeOf3 (by decide) b i w
def tfa25_3:=takeP_xv (M:=M) (w0:=w0) (fa25_3 b i) K2
theorem fa25_4 (b i : Nat) (w : World) : (Instr.fieldAt 25 (.pointer (some ⟨b, i, none⟩)) 4).run Tryz.prog w = .ok (.pointer (some ⟨b, i + 4, none⟩)) w := run_fieldAt Tryz.runUnderlying25 (j := 4) rfl Tryz.sizeOf3 (by decide) b i w
def tfa25_4:=takeP_xv (M:=M) (w0:=w0) (fa25_4 b i) K2
theorem fa25_5 (b i : Nat) (w : World) : (Instr.fieldAt 25 (.pointer (some ⟨b, i, none⟩)) 5).run Tryz.prog w = .ok (.pointer (some ⟨b, i + 5, none⟩)) w := run_fieldAt Tryz.runUnderlying25 (j := 5) rfl Tryz.sizeOf3 (by decide) b i w
def tfa25_5:=takeP_xv (M:=M) (w0:=w0) (fa25_5 b i) K2
theorem fa25_6 (b i : Nat) (w : World) : (Instr.fieldAt 25 (.pointer (some ⟨b, i, none⟩)) 6).run Tryz.prog w = .ok (.pointer (some ⟨b, i + 6, none⟩)) w := run_fieldAt Tryz.runUnderlying25 (j := 6) rfl Tryz.sizeOf3 (by decide) b i w
def tfa25_6:=takeP_xv (M:=M) (w0:=w0) (fa25_6 b i) K2
theorem fa25_7 (b i : Nat) (w : World) : (Instr.fieldAt 25 (.pointer (some ⟨b, i, none⟩)) 7).run Tryz.prog w = .ok (.pointer (some ⟨b, i + 7, none⟩)) w := run_fieldAt Tryz.runUnderlying25 (j := 7) rfl Tryz.sizeOf3 (by decide) b i w
def tfa25_7:=takeP_xv (M:=M) (w0:=w0) (fa25_7 b i) K2
theorem fa31_0 (b i : Nat) (w : World) : (Instr.fieldAt 31 (.pointer (some ⟨b, i, none⟩)) 0).run Tryz.prog w = .ok (.pointer (some ⟨b, i, none⟩)) w := run_fieldAt Tryz.runUnderlying31 (j := 0) rfl Tryz.sizeOf4 (by decide) b i w
def tfa31_0:=takeP_xv (M:=M) (w0:=w0) (fa31_0 b i) K2
theorem fa31_1 (b i : Nat) (w : World) : (Instr.fieldAt 31 (.pointer (some ⟨b, i, none⟩)) 1).run Tryz.prog w = .ok (.pointer (some ⟨b, i + 1, none⟩)) w := run_fieldAt Tryz.runUnderlying31 (j := 1) rfl Tryz.sizeOf9 (by decide) b i w
def tfa31_1:=takeP_xv (M:=M) (w0:=w0) (fa31_1 b i) K2
theorem fa34_0 (b i : Nat) (w : World) : (Instr.fieldAt 34 (.pointer (some ⟨b, i, none⟩)) 0).run Tryz.prog w = .ok (.pointer (some ⟨b, i, none⟩)) w := run_fieldAt Tryz.runUnderlying34 (j := 0) rfl Tryz.sizeOf9 (by decide) b i w
def tfa34_0:=takeP_xv (M:=M) (w0:=w0) (fa34_0 b i) K2
theorem fa34_1 (b i : Nat) (w : World) : (Instr.fieldAt 34 (.pointer (some ⟨b, i, none⟩)) 1).run Tryz.prog w = .ok (.pointer (some ⟨b, i + 1, none⟩)) w := run_fieldAt Tryz.runUnderlying34 (j := 1) rfl Tryz.sizeOf31 (by decide) b i w
def tfa34_1:=takeP_xv (M:=M) (w0:=w0) (fa34_1 b i) K2
theorem fa34_2 (b i : Nat) (w : World) : (Instr.fieldAt 34 (.pointer (some ⟨b, i, none⟩)) 2).run Tryz.prog w = .ok (.pointer (some ⟨b, i + 3, none⟩)) w := run_fieldAt Tryz.runUnderlying34 (j := 2) rfl Tryz.sizeOf2 (by decide) b i w
def tfa34_2:=takeP_xv (M:=M) (w0:=w0) (fa34_2 b i) K2
theorem fa34_3 (b i : Nat) (w : World) : (Instr.fieldAt 34 (.pointer (some ⟨b, i, none⟩)) 3).run Tryz.prog w = .ok (.pointer (some ⟨b, i + 4, none⟩)) w := run_fieldAt Tryz.runUnderlying34 (j := 3) rfl Tryz.sizeOf2 (by decide) b i w
def tfa34_3:=takeP_xv (M:=M) (w0:=w0) (fa34_3 b i) K2
theorem fa38_0 (b i : Nat) (w : World) : (Instr.fieldAt 38 (.pointer (some ⟨b, i, none⟩)) 0).run Tryz.prog w = .ok (.pointer (some ⟨b, i, none⟩)) w := run_fieldAt Tryz.runUnderlying38 (j := 0) rfl Tryz.sizeOf2 (by decide) b i w
def tfa38_0:=takeP_xv (M:=M) (w0:=w0) (fa38_0 b i) K2
theorem fa38_1 (b i : Nat) (w : World) : (Instr.fieldAt 38 (.pointer (some ⟨b, i, none⟩)) 1).run Tryz.prog w = .ok (.pointer (some ⟨b, i + 1, none⟩)) w := run_fieldAt Tryz.runUnderlying38 (j := 1) rfl Tryz.sizeOf22 (by decide) b i w
def tfa38_1:=takeP_xv (M:=M) (w0:=w0) (fa38_1 b i) K2
theorem fa43_0 (b i : Nat) (w : World) : (Instr.fieldAt 43 (.pointer (some ⟨b, i, none⟩)) 0).run Tryz.prog w = .ok (.pointer (some ⟨b, i, none⟩)) w := run_fieldAt Tryz.runUnderlying43 (j := 0) rfl Tryz.sizeOf4 (by decide) b i w
def tfa43_0:=takeP_xv (M:=M) (w0:=w0) (fa43_0 b i) K2
theorem fa43_2 (b i : Nat) (w : World) : (Instr.fieldAt 43 (.pointer (some ⟨b, i, none⟩)) 2).run Tryz.prog w = .ok (.pointer (some ⟨b, i + 2, none⟩)) w := run_fieldAt Tryz.runUnderlying43 (j := 2) rfl Tryz.sizeOf3 (by decide) b i w
def tfa43_2:=takeP_xv (M:=M) (w0:=w0) (fa43_2 b i) K2
theorem fa43_3 (b i : Nat) (w : World) : (Instr.fieldAt 43 (.pointer (some ⟨b, i, none⟩)) 3).run Tryz.prog w = .ok (.pointer (some ⟨b, i + 3, none⟩)) w := run_fieldAt Tryz.runUnderlying43 (j := 3) rfl Tryz.sizeOf2 (by decide) b i w
def tfa43_3:=takeP_xv (M:=M) (w0:=w0) (fa43_3 b i) K2
theorem fa43_5 (b i : Nat) (w : World) : (Instr.fieldAt 43 (.pointer (some ⟨b, i, none⟩)) 5).run Tryz.prog w = .ok (.pointer (some ⟨b, i + 5, none⟩)) w := run_fieldAt Tryz.runUnderlying43 (j := 5) rfl Tryz.sizeOf40 (by decide) b i w
def tfa43_5:=takeP_xv (M:=M) (w0:=w0) (fa43_5 b i) K2
theorem fa43_6 (b i : Nat) (w : World) : (Instr.fieldAt 43 (.pointer (some ⟨b, i, none⟩)) 6).run Tryz.prog w = .ok (.pointer (some ⟨b, i + 6, none⟩)) w := run_fieldAt Tryz.runUnderlying43 (j := 6) rfl Tryz.sizeOf3 (by decide) b i w
def tfa43_6:=takeP_xv (M:=M) (w0:=w0) (fa43_6 b i) K2
theorem fa43_7 (b i : Nat) (w : World) : (Instr.fieldAt 43 (.pointer (some ⟨b, i, none⟩)) 7).run Tryz.prog w = .ok (.pointer (some ⟨b, i + 7, none⟩)) w := run_fieldAt Tryz.runUnderlying43 (j := 7) rfl Tryz.sizeOf41 (by decide) b i w
def tfa43_7:=takeP_xv (M:=M) (w0:=w0) (fa43_7 b i) K2
theorem fa48_0 (b i : Nat) (w : World) : (Instr.fieldAt 48 (.pointer (some ⟨b, i, none⟩)) 0).run Tryz.prog w = .ok (.pointer (some ⟨b, i, none⟩)) w := run_fieldAt Tryz.runUnderlying48 (j := 0) rfl Tryz.sizeOf2 (by decide) b i w
def tfa48_0:=takeP_xv (M:=M) (w0:=w0) (fa48_0 b i) K2
theorem fa48_1 (b i : Nat) (w : World) : (Instr.fieldAt 48 (.pointer (some ⟨b, i, none⟩)) 1).run Tryz.prog w = .ok (.pointer (some ⟨b, i + 1, none⟩)) w := run_fieldAt Tryz.runUnderlying48 (j := 1) rfl Tryz.sizeOf2 (by decide) b i w
def tfa48_1:=takeP_xv (M:=M) (w0:=w0) (fa48_1 b i) K2
theorem fa50_0 (b i : Nat) (w : World) : (Instr.fieldAt 50 (.pointer (some ⟨b, i, none⟩)) 0).run Tryz.prog w = .ok (.pointer (some ⟨b, i, none⟩)) w := run_fieldAt Tryz.runUnderlying50 (j := 0) rfl Tryz.sizeOf5 (by decide) b i w
def tfa50_0:=takeP_xv (M:=M) (w0:=w0) (fa50_0 b i) K2
theorem fa50_1 (b i : Nat) (w : World) : (Instr.fieldAt 50 (.pointer (some ⟨b, i, none⟩)) 1).run Tryz.prog w = .ok (.pointer (some ⟨b, i + 1, none⟩)) w := run_fieldAt Tryz.runUnderlying50 (j := 1) rfl Tryz.sizeOf9 (by decide) b i w
def tfa50_1:=takeP_xv (M:=M) (w0:=w0) (fa50_1 b i) K2
theorem fa50_2 (b i : Nat) (w : World) : (Instr.fieldAt 50 (.pointer (some ⟨b, i, none⟩)) 2).run Tryz.prog w = .ok (.pointer (some ⟨b, i + 2, none⟩)) w := run_fieldAt Tryz.runUnderlying50 (j := 2) rfl Tryz.sizeOf48 (by decide) b i w
def tfa50_2:=takeP_xv (M:=M) (w0:=w0) (fa50_2 b i) K2
theorem fa50_3 (b i : Nat) (w : World) : (Instr.fieldAt 50 (.pointer (some ⟨b, i, none⟩)) 3).run Tryz.prog w = .ok (.pointer (some ⟨b, i + 4, none⟩)) w := run_fieldAt Tryz.runUnderlying50 (j := 3) rfl Tryz.sizeOf34 (by decide) b i w
def tfa50_3:=takeP_xv (M:=M) (w0:=w0) (fa50_3 b i) K2
theorem fa50_4 (b i : Nat) (w : World) : (Instr.fieldAt 50 (.pointer (some ⟨b, i, none⟩)) 4).run Tryz.prog w = .ok (.pointer (some ⟨b, i + 9, none⟩)) w := run_fieldAt Tryz.runUnderlying50 (j := 4) rfl Tryz.sizeOf2 (by decide) b i w
def tfa50_4:=takeP_xv (M:=M) (w0:=w0) (fa50_4 b i) K2
theorem fa50_5 (b i : Nat) (w : World) : (Instr.fieldAt 50 (.pointer (some ⟨b, i, none⟩)) 5).run Tryz.prog w = .ok (.pointer (some ⟨b, i + 10, none⟩)) w := run_fieldAt Tryz.runUnderlying50 (j := 5) rfl Tryz.sizeOf22 (by decide) b i w
def tfa50_5:=takeP_xv (M:=M) (w0:=w0) (fa50_5 b i) K2
theorem fa50_6 (b i : Nat) (w : World) : (Instr.fieldAt 50 (.pointer (some ⟨b, i, none⟩)) 6).run Tryz.prog w = .ok (.pointer (some ⟨b, i + 11, none⟩)) w := run_fieldAt Tryz.runUnderlying50 (j := 6) rfl Tryz.sizeOf3 (by decide) b i w
def tfa50_6:=takeP_xv (M:=M) (w0:=w0) (fa50_6 b i) K2
theorem fa52_0 (b i : Nat) (w : World) : (Instr.fieldAt 52 (.pointer (some ⟨b, i, none⟩)) 0).run Tryz.prog w = .ok (.pointer (some ⟨b, i, none⟩)) w := run_fieldAt Tryz.runUnderlying52 (j := 0) rfl Tryz.sizeOf34 (by decide) b i w
def tfa52_0:=takeP_xv (M:=M) (w0:=w0) (fa52_0 b i) K2
theorem fa52_1 (b i : Nat) (w : World) : (Instr.fieldAt 52 (.pointer (some ⟨b, i, none⟩)) 1).run Tryz.prog w = .ok (.pointer (some ⟨b, i + 5, none⟩)) w := run_fieldAt Tryz.runUnderlying52 (j := 1) rfl Tryz.sizeOf4 (by decide) b i w
def tfa52_1:=takeP_xv (M:=M) (w0:=w0) (fa52_1 b i) K2
theorem fa52_2 (b i : Nat) (w : World) : (Instr.fieldAt 52 (.pointer (some ⟨b, i, none⟩)) 2).run Tryz.prog w = .ok (.pointer (some ⟨b, i + 6, none⟩)) w := run_fieldAt Tryz.runUnderlying52 (j := 2) rfl Tryz.sizeOf2 (by decide) b i w
def tfa52_2:=takeP_xv (M:=M) (w0:=w0) (fa52_2 b i) K2
theorem fa52_3 (b i : Nat) (w : World) : (Instr.fieldAt 52 (.pointer (some ⟨b, i, none⟩)) 3).run Tryz.prog w = .ok (.pointer (some ⟨b, i + 7, none⟩)) w := run_fieldAt Tryz.runUnderlying52 (j := 3) rfl Tryz.sizeOf2 (by decide) b i w
def tfa52_3:=takeP_xv (M:=M) (w0:=w0) (fa52_3 b i) K2
theorem fa58_0 (b i : Nat) (w : World) : (Instr.fieldAt 58 (.pointer (some ⟨b, i, none⟩)) 0).run Tryz.prog w = .ok (.pointer (some ⟨b, i, none⟩)) w := run_fieldAt Tryz.runUnderlying58 (j := 0) rfl Tryz.sizeOf56 (by decide) b i w
def tfa58_0:=takeP_xv (M:=M) (w0:=w0) (fa58_0 b i) K2
theorem fa70_0 (b i : Nat) (w : World) : (Instr.fieldAt 70 (.pointer (some ⟨b, i, none⟩)) 0).run Tryz.prog w = .ok (.pointer (some ⟨b, i, none⟩)) w := run_fieldAt Tryz.runUnderlying70 (j := 0) rfl Tryz.sizeOf5 (by decide) b i w
def tfa70_0:=takeP_xv (M:=M) (w0:=w0) (fa70_0 b i) K2
theorem fa70_1 (b i : Nat) (w : World) : (Instr.fieldAt 70 (.pointer (some ⟨b, i, none⟩)) 1).run Tryz.prog w = .ok (.pointer (some ⟨b, i + 1, none⟩)) w := run_fieldAt Tryz.runUnderlying70 (j := 1) rfl Tryz.sizeOf9 (by decide) b i w
def tfa70_1:=takeP_xv (M:=M) (w0:=w0) (fa70_1 b i) K2
theorem fa70_2 (b i : Nat) (w : World) : (Instr.fieldAt 70 (.pointer (some ⟨b, i, none⟩)) 2).run Tryz.prog w = .ok (.pointer (some ⟨b, i + 2, none⟩)) w := run_fieldAt Tryz.runUnderlying70 (j := 2) rfl Tryz.sizeOf5 (by decide) b i w
def tfa70_2:=takeP_xv (M:=M) (w0:=w0) (fa70_2 b i) K2
theorem fa70_3 (b i : Nat) (w : World) : (Instr.fieldAt 70 (.pointer (some ⟨b, i, none⟩)) 3).run Tryz.prog w = .ok (.pointer (some ⟨b, i + 3, none⟩)) w := run_fieldAt Tryz.runUnderlying70 (j := 3) rfl Tryz.sizeOf5 (by decide) b i w
def tfa70_3:=takeP_xv (M:=M) (w0:=w0) (fa70_3 b i) K2
theorem fa92_0 (b i : Nat) (w : World) : (Instr.fieldAt 92 (.pointer (some ⟨b, i, none⟩)) 0).run Tryz.prog w = .ok (.pointer (some ⟨b, i, none⟩)) w := run_fieldAt Tryz.runUnderlying92 (j := 0) rfl Tryz.sizeOf25 (by decide) b i w
def tfa92_0:=takeP_xv (M:=M) (w0:=w0) (fa92_0 b i) K2
theorem fa92_1 (b i : Nat) (w : World) : (Instr.fieldAt 92 (.pointer (some ⟨b, i, none⟩)) 1).run Tryz.prog w = .ok (.pointer (some ⟨b, i + 8, none⟩)) w := run_fieldAt Tryz.runUnderlying92 (j := 1) rfl Tryz.sizeOf3 (by decide) b i w
def tfa92_1:=takeP_xv (M:=M) (w0:=w0) (fa92_1 b i) K2
theorem fa92_2 (b i : Nat) (w : World) : (Instr.fieldAt 92 (.pointer (some ⟨b, i, none⟩)) 2).run Tryz.prog w = .ok (.pointer (some ⟨b, i + 9, none⟩)) w := run_fieldAt Tryz.runUnderlying92 (j := 2) rfl Tryz.sizeOf89 (by decide) b i w
def tfa92_2:=takeP_xv (M:=M) (w0:=w0) (fa92_2 b i) K2
theorem fa118_0 (b i : Nat) (w : World) : (Instr.fieldAt 118 (.pointer (some ⟨b, i, none⟩)) 0).run Tryz.prog w = .ok (.pointer (some ⟨b, i, none⟩)) w := run_fieldAt Tryz.runUnderlying118 (j := 0) rfl Tryz.sizeOf4 (by decide) b i w
def tfa118_0:=takeP_xv (M:=M) (w0:=w0) (fa118_0 b i) K2
theorem fa118_1 (b i : Nat) (w : World) : (Instr.fieldAt 118 (.pointer (some ⟨b, i, none⟩)) 1).run Tryz.prog w = .ok (.pointer (some ⟨b, i + 1, none⟩)) w := run_fieldAt Tryz.runUnderlying118 (j := 1) rfl Tryz.sizeOf114 (by decide) b i w
def tfa118_1:=takeP_xv (M:=M) (w0:=w0) (fa118_1 b i) K2
theorem fa118_2 (b i : Nat) (w : World) : (Instr.fieldAt 118 (.pointer (some ⟨b, i, none⟩)) 2).run Tryz.prog w = .ok (.pointer (some ⟨b, i + 2, none⟩)) w := run_fieldAt Tryz.runUnderlying118 (j := 2) rfl Tryz.sizeOf115 (by decide) b i w
def tfa118_2:=takeP_xv (M:=M) (w0:=w0) (fa118_2 b i) K2
theorem fa118_3 (b i : Nat) (w : World) : (Instr.fieldAt 118 (.pointer (some ⟨b, i, none⟩)) 3).run Tryz.prog w = .ok (.pointer (some ⟨b, i + 3, none⟩)) w := run_fieldAt Tryz.runUnderlying118 (j := 3) rfl Tryz.sizeOf116 (by decide) b i w
def tfa118_3:=takeP_xv (M:=M) (w0:=w0) (fa118_3 b i) K2
theorem fa118_4 (b i : Nat) (w : World) : (Instr.fieldAt 118 (.pointer (some ⟨b, i, none⟩)) 4).run Tryz.prog w = .ok (.pointer (some ⟨b, i + 4, none⟩)) w := run_fieldAt Tryz.runUnderlying118 (j := 4) rfl Tryz.sizeOf2 (by decide) b i w
def tfa118_4:=takeP_xv (M:=M) (w0:=w0) (fa118_4 b i) K2
theorem fa118_5 (b i : Nat) (w : World) : (Instr.fieldAt 118 (.pointer (some ⟨b, i, none⟩)) 5).run Tryz.prog w = .ok (.pointer (some ⟨b, i + 5, none⟩)) w := run_fieldAt Tryz.runUnderlying118 (j := 5) rfl Tryz.sizeOf2 (by decide) b i w
def tfa118_5:=takeP_xv (M:=M) (w0:=w0) (fa118_5 b i) K2
theorem fa135_0 (b i : Nat) (w : World) : (Instr.fieldAt 135 (.pointer (some ⟨b, i, none⟩)) 0).run Tryz.prog w = .ok (.pointer (some ⟨b, i, none⟩)) w := run_fieldAt Tryz.runUnderlying135 (j := 0) rfl Tryz.sizeOf2 (by decide) b i w
def tfa135_0:=takeP_xv (M:=M) (w0:=w0) (fa135_0 b i) K2
theorem fa135_1 (b i : Nat) (w : World) : (Instr.fieldAt 135 (.pointer (some ⟨b, i, none⟩)) 1).run Tryz.prog w = .ok (.pointer (some ⟨b, i + 1, none⟩)) w := run_fieldAt Tryz.runUnderlying135 (j := 1) rfl Tryz.sizeOf2 (by decide) b i w
def tfa135_1:=takeP_xv (M:=M) (w0:=w0) (fa135_1 b i) K2
theorem fa153_0 (b i : Nat) (w : World) : (Instr.fieldAt 153 (.pointer (some ⟨b, i, none⟩)) 0).run Tryz.prog w = .ok (.pointer (some ⟨b, i, none⟩)) w := run_fieldAt Tryz.runUnderlying153 (j := 0) rfl Tryz.sizeOf151 (by decide) b i w
def tfa153_0:=takeP_xv (M:=M) (w0:=w0) (fa153_0 b i) K2
theorem fa155_0 (b i : Nat) (w : World) : (Instr.fieldAt 155 (.pointer (some ⟨b, i, none⟩)) 0).run Tryz.prog w = .ok (.pointer (some ⟨b, i, none⟩)) w := run_fieldAt Tryz.runUnderlying155 (j := 0) rfl Tryz.sizeOf2 (by decide) b i w
def tfa155_0:=takeP_xv (M:=M) (w0:=w0) (fa155_0 b i) K2
theorem fa155_1 (b i : Nat) (w : World) : (Instr.fieldAt 155 (.pointer (some ⟨b, i, none⟩)) 1).run Tryz.prog w = .ok (.pointer (some ⟨b, i + 1, none⟩)) w := run_fieldAt Tryz.runUnderlying155 (j := 1) rfl Tryz.sizeOf2 (by decide) b i w
def tfa155_1:=takeP_xv (M:=M) (w0:=w0) (fa155_1 b i) K2
theorem fa179_0 (b i : Nat) (w : World) : (Instr.fieldAt 179 (.pointer (some ⟨b, i, none⟩)) 0).run Tryz.prog w = .ok (.pointer (some ⟨b, i, none⟩)) w := run_fieldAt Tryz.runUnderlying179 (j := 0) rfl Tryz.sizeOf2 (by decide) b i w
def tfa179_0:=takeP_xv (M:=M) (w0:=w0) (fa179_0 b i) K2
theorem fa179_1 (b i : Nat) (w : World) : (Instr.fieldAt 179 (.pointer (some ⟨b, i, none⟩)) 1).run Tryz.prog w = .ok (.pointer (some ⟨b, i + 1, none⟩)) w := run_fieldAt Tryz.runUnderlying179 (j := 1) rfl Tryz.sizeOf3 (by decide) b i w
def tfa179_1:=takeP_xv (M:=M) (w0:=w0) (fa179_1 b i) K2
theorem fa179_2 (b i : Nat) (w : World) : (Instr.fieldAt 179 (.pointer (some ⟨b, i, none⟩)) 2).run Tryz.prog w = .ok (.pointer (some ⟨b, i + 2, none⟩)) w := run_fieldAt Tryz.runUnderlying179 (j := 2) rfl Tryz.sizeOf177 (by decide) b i w
def tfa179_2:=takeP_xv (M:=M) (w0:=w0) (fa179_2 b i) K2
theorem fa184_0 (b i : Nat) (w : World) : (Instr.fieldAt 184 (.pointer (some ⟨b, i, none⟩)) 0).run Tryz.prog w = .ok (.pointer (some ⟨b, i, none⟩)) w := run_fieldAt Tryz.runUnderlying184 (j := 0) rfl Tryz.sizeOf98 (by decide) b i w
def tfa184_0:=takeP_xv (M:=M) (w0:=w0) (fa184_0 b i) K2
theorem fa184_1 (b i : Nat) (w : World) : (Instr.fieldAt 184 (.pointer (some ⟨b, i, none⟩)) 1).run Tryz.prog w = .ok (.pointer (some ⟨b, i + 1, none⟩)) w := run_fieldAt Tryz.runUnderlying184 (j := 1) rfl Tryz.sizeOf3 (by decide) b i w
def tfa184_1:=takeP_xv (M:=M) (w0:=w0) (fa184_1 b i) K2
theorem fa184_2 (b i : Nat) (w : World) : (Instr.fieldAt 184 (.pointer (some ⟨b, i, none⟩)) 2).run Tryz.prog w = .ok (.pointer (some ⟨b, i + 2, none⟩)) w := run_fieldAt Tryz.runUnderlying184 (j := 2) rfl Tryz.sizeOf3 (by decide) b i w
def tfa184_2:=takeP_xv (M:=M) (w0:=w0) (fa184_2 b i) K2
theorem fa184_3 (b i : Nat) (w : World) : (Instr.fieldAt 184 (.pointer (some ⟨b, i, none⟩)) 3).run Tryz.prog w = .ok (.pointer (some ⟨b, i + 3, none⟩)) w := run_fieldAt Tryz.runUnderlying184 (j := 3) rfl Tryz.sizeOf2 (by decide) b i w
def tfa184_3:=takeP_xv (M:=M) (w0:=w0) (fa184_3 b i) K2
theorem fa184_4 (b i : Nat) (w : World) : (Instr.fieldAt 184 (.pointer (some ⟨b, i, none⟩)) 4).run Tryz.prog w = .ok (.pointer (some ⟨b, i + 4, none⟩)) w := run_fieldAt Tryz.runUnderlying184 (j := 4) rfl Tryz.sizeOf2 (by decide) b i w
def tfa184_4:=takeP_xv (M:=M) (w0:=w0) (fa184_4 b i) K2
theorem fa187_0 (b i : Nat) (w : World) : (Instr.fieldAt 187 (.pointer (some ⟨b, i, none⟩)) 0).run Tryz.prog w = .ok (.pointer (some ⟨b, i, none⟩)) w := run_fieldAt Tryz.runUnderlying187 (j := 0) rfl Tryz.sizeOf2 (by decide) b i w
def tfa187_0:=takeP_xv (M:=M) (w0:=w0) (fa187_0 b i) K2
theorem fa187_1 (b i : Nat) (w : World) : (Instr.fieldAt 187 (.pointer (some ⟨b, i, none⟩)) 1).run Tryz.prog w = .ok (.pointer (some ⟨b, i + 1, none⟩)) w := run_fieldAt Tryz.runUnderlying187 (j := 1) rfl Tryz.sizeOf9 (by decide) b i w
def tfa187_1:=takeP_xv (M:=M) (w0:=w0) (fa187_1 b i) K2
theorem fa194_0 (b i : Nat) (w : World) : (Instr.fieldAt 194 (.pointer (some ⟨b, i, none⟩)) 0).run Tryz.prog w = .ok (.pointer (some ⟨b, i, none⟩)) w := run_fieldAt Tryz.runUnderlying194 (j := 0) rfl Tryz.sizeOf192 (by decide) b i w
def tfa194_0:=takeP_xv (M:=M) (w0:=w0) (fa194_0 b i) K2
theorem fa194_1 (b i : Nat) (w : World) : (Instr.fieldAt 194 (.pointer (some ⟨b, i, none⟩)) 1).run Tryz.prog w = .ok (.pointer (some ⟨b, i + 1, none⟩)) w := run_fieldAt Tryz.runUnderlying194 (j := 1) rfl Tryz.sizeOf3 (by decide) b i w
def tfa194_1:=takeP_xv (M:=M) (w0:=w0) (fa194_1 b i) K2
theorem fa194_2 (b i : Nat) (w : World) : (Instr.fieldAt 194 (.pointer (some ⟨b, i, none⟩)) 2).run Tryz.prog w = .ok (.pointer (some ⟨b, i + 2, none⟩)) w := run_fieldAt Tryz.runUnderlying194 (j := 2) rfl Tryz.sizeOf3 (by decide) b i w
def tfa194_2:=takeP_xv (M:=M) (w0:=w0) (fa194_2 b i) K2
theorem fa212_0 (b i : Nat) (w : World) : (Instr.fieldAt 212 (.pointer (some ⟨b, i, none⟩)) 0).run Tryz.prog w = .ok (.pointer (some ⟨b, i, none⟩)) w := run_fieldAt Tryz.runUnderlying212 (j := 0) rfl Tryz.sizeOf158 (by decide) b i w
def tfa212_0:=takeP_xv (M:=M) (w0:=w0) (fa212_0 b i) K2
theorem fd34_1 (cs : List Value) (w : World) : (Instr.field 34 (.agg cs.toArray) 1).run Tryz.prog w = .ok (.agg ((cs.drop 1).take 2).toArray) w := run_fieldN Tryz.runUnderlying34 (j := 1) rfl Tryz.isAgg31 Tryz.sizeOf31 cs w
def tfd34_1 (cs : List Value):=takeP_xv (M:=M) (w0:=w0) (fd34_1 cs) K2
theorem fd34_3 (cs : List Value) (w : World) (K : Value → World → Prop) : vR ((Instr.field 34 (.agg cs.toArray) 3).run Tryz.prog w) K = oV (fdO Tryz.prog 34 cs 3 w K) cs[4]? (fun v => K v w) := run_field1 Tryz.runUnderlying34 (j := 3) rfl Tryz.isAgg2 cs w K
def tfd34_3 (cs : List Value):=takeP_oV (M:=M) (w0:=w0) (fd34_3 cs) K2
theorem fd43_2 (cs : List Value) (w : World) (K : Value → World → Prop) : vR ((Instr.field 43 (.agg cs.toArray) 2).run Tryz.prog w) K = oV (fdO Tryz.prog 43 cs 2 w K) cs[2]? (fun v => K v w) := run_field1 Tryz.runUnderlying43 (j := 2) rfl Tryz.isAgg3 cs w K
def tfd43_2 (cs : List Value):=takeP_oV (M:=M) (w0:=w0) (fd43_2 cs) K2
theorem fd43_3 (cs : List Value) (w : World) (K : Value → World → Prop) : vR ((Instr.field 43 (.agg cs.toArray) 3).run Tryz.prog w) K = oV (fdO Tryz.prog 43 cs 3 w K) cs[3]? (fun v => K v w) := run_field1 Tryz.runUnderlying43 (j := 3) rfl Tryz.isAgg2 cs w K
def tfd43_3 (cs : List Value):=takeP_oV (M:=M) (w0:=w0) (fd43_3 cs) K2
theorem fd43_5 (cs : List Value) (w : World) (K : Value → World → Prop) : vR ((Instr.field 43 (.agg cs.toArray) 5).run Tryz.prog w) K = oV (fdO Tryz.prog 43 cs 5 w K) cs[5]? (fun v => K v w) := run_field1 Tryz.runUnderlying43 (j := 5) rfl Tryz.isAgg40 cs w K
def tfd43_5 (cs : List Value):=takeP_oV (M:=M) (w0:=w0) (fd43_5 cs) K2
theorem fd43_7 (cs : List Value) (w : World) (K : Value → World → Prop) : vR ((Instr.field 43 (.agg cs.toArray) 7).run Tryz.prog w) K = oV (fdO Tryz.prog 43 cs 7 w K) cs[7]? (fun v => K v w) := run_field1 Tryz.runUnderlying43 (j := 7) rfl Tryz.isAgg41 cs w K
def tfd43_7 (cs : List Value):=takeP_oV (M:=M) (w0:=w0) (fd43_7 cs) K2
theorem bd25 (parts : List (Nat × Value)) (w : World) (K : Value → World → Prop) : vR ((Instr.build 25 parts.toArray).run Tryz.prog w) K = oL (bdO Tryz.prog 25 parts w K) (fillL [(0, 1), (1, 1), (2, 1), (3, 1), (4, 1), (5, 1), (6, 1), (7, 1)] [(.int .i64 0), (.int .i64 0), (.int .i64 0), (.int .i64 0), (.int .i64 0), (.int .i64 0), (.int .i64 0), (.int .i64 0)] parts) (fun cs => K (.agg cs.toArray) w) := run_buildV Tryz.zeroValue25 Tryz.runUnderlying25 (fun w => by simp [Tryz.sizeOf3]) parts w K
theorem tbd25 {M : Option (List Nat)} {w0 : World} (parts : List (Nat × Value)) (K : Value → Prop) : takeP Tryz.prog (FrX M w0) (xv (Instr.build 25 parts.toArray)) K = oL (tkO Tryz.prog M w0 (Instr.build 25 parts.toArray) K) (fillL [(0, 1), (1, 1), (2, 1), (3, 1), (4, 1), (5, 1), (6, 1), (7, 1)] [(.int .i64 0), (.int .i64 0), (.int .i64 0), (.int .i64 0), (.int .i64 0), (.int .i64 0), (.int .i64 0), (.int .i64 0)] parts) (fun cs => K (.agg cs.toArray)) := takeP_buildV Tryz.zeroValue25 Tryz.runUnderlying25 (fun w => by simp [Tryz.sizeOf3]) parts K
theorem bd31 (parts : List (Nat × Value)) (w : World) (K : Value → World → Prop) : vR ((Instr.build 31 parts.toArray).run Tryz.prog w) K = oL (bdO Tryz.prog 31 parts w K) (fillL [(0, 1), (1, 1)] [(.bool false), (.string ⟨#[]⟩)] parts) (fun cs => K (.agg cs.toArray) w) := run_buildV Tryz.zeroValue31 Tryz.runUnderlying31 (fun w => by simp [Tryz.sizeOf4, Tryz.sizeOf9]) parts w K
theorem tbd31 {M : Option (List Nat)} {w0 : World} (parts : List (Nat × Value)) (K : Value → Prop) : takeP Tryz.prog (FrX M w0) (xv (Instr.build 31 parts.toArray)) K = oL (tkO Tryz.prog M w0 (Instr.build 31 parts.toArray) K) (fillL [(0, 1), (1, 1)] [(.bool false), (.string ⟨#[]⟩)] parts) (fun cs => K (.agg cs.toArray)) := takeP_buildV Tryz.zeroValue31 Tryz.runUnderlying31 (fun w => by simp [Tryz.sizeOf4, Tryz.sizeOf9]) parts K
theorem bd34 (parts : List (Nat × Value)) (w : World) (K : Value → World → Prop) : vR ((Instr.build 34 parts.toArray).run Tryz.prog w) K = oL (bdO Tryz.prog 34 parts w K) (fillL [(0, 1), (1, 2), (3, 1), (4, 1)] [(.string ⟨#[]⟩), (.bool false), (.string ⟨#[]⟩), (.int .i64 0), (.int .i64 0)] parts) (fun cs => K (.agg cs.toArray) w) := run_buildV Tryz.zeroValue34 Tryz.runUnderlying34 (fun w => by simp [Tryz.sizeOf2, Tryz.sizeOf31, Tryz.sizeOf9]) parts w K
theorem tbd34 {M : Option (List Nat)} {w0 : World} (parts : List (Nat × Value)) (K : Value → Prop) : takeP Tryz.prog (FrX M w0) (xv (Instr.build 34 parts.toArray)) K = oL (tkO Tryz.prog M w0 (Instr.build 34 parts.toArray) K) (fillL [(0, 1), (1, 2), (3, 1), (4, 1)] [(.string ⟨#[]⟩), (.bool false), (.string ⟨#[]⟩), (.int .i64 0), (.int .i64 0)] parts) (fun cs => K (.agg cs.toArray)) := takeP_buildV Tryz.zeroValue34 Tryz.runUnderlying34 (fun w => by simp [Tryz.sizeOf2, Tryz.sizeOf31, Tryz.sizeOf9]) parts K
theorem bd38 (parts : List (Nat × Value)) (w : World) (K : Value → World → Prop) : vR ((Instr.build 38 parts.toArray).run Tryz.prog w) K = oL (bdO Tryz.prog 38 parts w K) (fillL [(0, 1), (1, 1)] [(.int .i64 0), (.slice none 0 0)] parts) (fun cs => K (.agg cs.toArray) w) := run_buildV Tryz.zeroValue38 Tryz.runUnderlying38 (fun w => by simp [Tryz.sizeOf2, Tryz.sizeOf22]) parts w K
theorem tbd38 {M : Option (List Nat)} {w0 : World} (parts : List (Nat × Value)) (K : Value → Prop) : takeP Tryz.prog (FrX M w0) (xv (Instr.build 38 parts.toArray)) K = oL (tkO Tryz.prog M w0 (Instr.build 38 parts.toArray) K) (fillL [(0, 1), (1, 1)] [(.int .i64 0), (.slice none 0 0)] parts) (fun cs => K (.agg cs.toArray)) := takeP_buildV Tryz.zeroValue38 Tryz.runUnderlying38 (fun w => by simp [Tryz.sizeOf2, Tryz.sizeOf22]) parts K
theorem bd43 (parts : List (Nat × Value)) (w : World) (K : Value → World → Prop) : vR ((Instr.build 43 parts.toArray).run Tryz.prog w) K = oL (bdO Tryz.prog 43 parts w K) (fillL [(0, 1), (1, 1), (2, 1), (3, 1), (4, 1), (5, 1), (6, 1), (7, 1)] [(.bool false), (.bool false), (.int .i64 0), (.int .i64 0), (.int .i64 0), (.slice none 0 0), (.int .i64 0), (.slice none 0 0)] parts) (fun cs => K (.agg cs.toArray) w) := run_buildV Tryz.zeroValue43 Tryz.runUnderlying43 (fun w => by simp [Tryz.sizeOf2, Tryz.sizeOf3, Tryz.sizeOf4, Tryz.sizeOf40, Tryz.sizeOf41]) parts w K
theorem tbd43 {M : Option (List Nat)} {w0 : World} (parts : List (Nat × Value)) (K : Value → Prop) : takeP Tryz.prog (FrX M w0) (xv (Instr.build 43 parts.toArray)) K = oL (tkO Tryz.prog M w0 (Instr.build 43 parts.toArray) K) (fillL [(0, 1), (1, 1), (2, 1), (3, 1), (4, 1), (5, 1), (6, 1), (7, 1)] [(.bool false), (.bool false), (.int .i64 0), (.int .i64 0), (.int .i64 0), (.slice none 0 0), (.int .i64 0), (.slice none 0 0)] parts) (fun cs => K (.agg cs.toArray)) := takeP_buildV Tryz.zeroValue43 Tryz.runUnderlying43 (fun w => by simp [Tryz.sizeOf2, Tryz.sizeOf3, Tryz.sizeOf4, Tryz.sizeOf40, Tryz.sizeOf41]) parts K
theorem bd48 (parts : List (Nat × Value)) (w : World) (K : Value → World → Prop) : vR ((Instr.build 48 parts.toArray).run Tryz.prog w) K = oL (bdO Tryz.prog 48 parts w K) (fillL [(0, 1), (1, 1)] [(.int .i64 0), (.int .i64 0)] parts) (fun cs => K (.agg cs.toArray) w) := run_buildV Tryz.zeroValue48 Tryz.runUnderlying48 (fun w => by simp [Tryz.sizeOf2]) parts w K
theorem tbd48 {M : Option (List Nat)} {w0 : World} (parts : List (Nat × Value)) (K : Value → Prop) : takeP Tryz.prog (FrX M w0) (xv (Instr.build 48 parts.toArray)) K = oL (tkO Tryz.prog M w0 (Instr.build 48 parts.toArray) K) (fillL [(0, 1), (1, 1)] [(.int .i64 0), (.int .i64 0)] parts) (fun cs => K (.agg cs.toArray)) := takeP_buildV Tryz.zeroValue48 Tryz.runUnderlying48 (fun w => by simp [Tryz.sizeOf2]) parts K
theorem bd52 (parts : List (Nat × Value)) (w : World) (K : Value → World → Prop) : vR ((Instr.build 52 parts.toArray).run Tryz.prog w) K = oL (bdO Tryz.prog 52 parts w K) (fillL [(0, 5), (5, 1), (6, 1), (7, 1)] [(.string ⟨#[]⟩), (.bool false), (.string ⟨#[]⟩), (.int .i64 0), (.int .i64 0), (.bool false), (.int .i64 0), (.int .i64 0)] parts) (fun cs => K (.agg cs.toArray) w) := run_buildV Tryz.zeroValue52 Tryz.runUnderlying52 (fun w => by simp [Tryz.sizeOf2, Tryz.sizeOf34, Tryz.sizeOf4]) parts w K
theorem tbd52 {M : Option (List Nat)} {w0 : World} (parts : List (Nat × Value)) (K : Value → Prop) : takeP Tryz.prog (FrX M w0) (xv (Instr.build 52 parts.toArray)) K = oL (tkO Tryz.prog M w0 (Instr.build 52 parts.toArray) K) (fillL [(0, 5), (5, 1), (6, 1), (7, 1)] [(.string ⟨#[]⟩), (.bool false), (.string ⟨#[]⟩), (.int .i64 0), (.int .i64 0), (.bool false), (.int .i64 0), (.int .i64 0)] parts) (fun cs => K (.agg cs.toArray)) := takeP_buildV Tryz.zeroValue52 Tryz.runUnderlying52 (fun w => by simp [Tryz.sizeOf2, Tryz.sizeOf34, Tryz.sizeOf4]) parts K
theorem bd92 (parts : List (Nat × Value)) (w : World) (K : Value → World → Prop) : vR ((Instr.build 92 parts.toArray).run Tryz.prog w) K = oL (bdO Tryz.prog 92 parts w K) (fillL [(0, 8), (8, 1), (9, 1)] [(.int .i64 0), (.int .i64 0), (.int .i64 0), (.int .i64 0), (.int .i64 0), (.int .i64 0), (.int .i64 0), (.int .i64 0), (.int .i64 0), (.pointer none)] parts) (fun cs => K (.agg cs.toArray) w) := run_buildV Tryz.zeroValue92 Tryz.runUnderlying92 (fun w => by simp [Tryz.sizeOf25, Tryz.sizeOf3, Tryz.sizeOf89]) parts w K
theorem tbd92 {M : Option (List Nat)} {w0 : World} (parts : List (Nat × Value)) (K : Value → Prop) : takeP Tryz.prog (FrX M w0) (xv (Instr.build 92 parts.toArray)) K = oL (tkO Tryz.prog M w0 (Instr.build 92 parts.toArray) K) (fillL [(0, 8), (8, 1), (9, 1)] [(.int .i64 0), (.int .i64 0), (.int .i64 0), (.int .i64 0), (.int .i64 0), (.int .i64 0), (.int .i64 0), (.int .i64 0), (.int .i64 0), (.pointer none)] parts) (fun cs => K (.agg cs.toArray)) := takeP_buildV Tryz.zeroValue92 Tryz.runUnderlying92 (fun w => by simp [Tryz.sizeOf25, Tryz.sizeOf3, Tryz.sizeOf89]) parts K
theorem bd118 (parts : List (Nat × Value)) (w : World) (K : Value → World → Prop) : vR ((Instr.build 118 parts.toArray).run Tryz.prog w) K = oL (bdO Tryz.prog 118 parts w K) (fillL [(0, 1), (1, 1), (2, 1), (3, 1), (4, 1), (5, 1)] [(.bool false), (.pointer none), (.pointer none), (.pointer none), (.int .i64 0), (.int .i64 0)] parts) (fun cs => K (.agg cs.toArray) w) := run_buildV Tryz.zeroValue118 Tryz.runUnderlying118 (fun w => by simp [Tryz.sizeOf114, Tryz.sizeOf115, Tryz.sizeOf116, Tryz.sizeOf2, Tryz.sizeOf4]) parts w K
theorem tbd118 {M : Option (List Nat)} {w0 : World} (parts : List (Nat × Value)) (K : Value → Prop) : takeP Tryz.prog (FrX M w0) (xv (Instr.build 118 parts.toArray)) K = oL (tkO Tryz.prog M w0 (Instr.build 118 parts.toArray) K) (fillL [(0, 1), (1, 1), (2, 1), (3, 1), (4, 1), (5, 1)] [(.bool false), (.pointer none), (.pointer none), (.pointer none), (.int .i64 0), (.int .i64 0)] parts) (fun cs => K (.agg cs.toArray)) := takeP_buildV Tryz.zeroValue118 Tryz.runUnderlying118 (fun w => by simp [Tryz.sizeOf114, Tryz.sizeOf115, Tryz.sizeOf116, Tryz.sizeOf2, Tryz.sizeOf4]) parts K
theorem bd135 (parts : List (Nat × Value)) (w : World) (K : Value → World → Prop) : vR ((Instr.build 135 parts.toArray).run Tryz.prog w) K = oL (bdO Tryz.prog 135 parts w K) (fillL [(0, 1), (1, 1)] [(.int .i64 0), (.int .i64 0)] parts) (fun cs => K (.agg cs.toArray) w) := run_buildV Tryz.zeroValue135 Tryz.runUnderlying135 (fun w => by simp [Tryz.sizeOf2]) parts w K
theorem tbd135 {M : Option (List Nat)} {w0 : World} (parts : List (Nat × Value)) (K : Value → Prop) : takeP Tryz.prog (FrX M w0) (xv (Instr.build 135 parts.toArray)) K = oL (tkO Tryz.prog M w0 (Instr.build 135 parts.toArray) K) (fillL [(0, 1), (1, 1)] [(.int .i64 0), (.int .i64 0)] parts) (fun cs => K (.agg cs.toArray)) := takeP_buildV Tryz.zeroValue135 Tryz.runUnderlying135 (fun w => by simp [Tryz.sizeOf2]) parts K
theorem bd153 (parts : List (Nat × Value)) (w : World) (K : Value → World → Prop) : vR ((Instr.build 153 parts.toArray).run Tryz.prog w) K = oL (bdO Tryz.prog 153 parts w K) (fillL [(0, 1)] [(.slice none 0 0)] parts) (fun cs => K (.agg cs.toArray) w) := run_buildV Tryz.zeroValue153 Tryz.runUnderlying153 (fun w => by simp [Tryz.sizeOf151]) parts w K
theorem tbd153 {M : Option (List Nat)} {w0 : World} (parts : List (Nat × Value)) (K : Value → Prop) : takeP Tryz.prog (FrX M w0) (xv (Instr.build 153 parts.toArray)) K = oL (tkO Tryz.prog M w0 (Instr.build 153 parts.toArray) K) (fillL [(0, 1)] [(.slice none 0 0)] parts) (fun cs => K (.agg cs.toArray)) := takeP_buildV Tryz.zeroValue153 Tryz.runUnderlying153 (fun w => by simp [Tryz.sizeOf151]) parts K
theorem bd179 (parts : List (Nat × Value)) (w : World) (K : Value → World → Prop) : vR ((Instr.build 179 parts.toArray).run Tryz.prog w) K = oL (bdO Tryz.prog 179 parts w K) (fillL [(0, 1), (1, 1), (2, 1)] [(.int .i64 0), (.int .i64 0), (.map none)] parts) (fun cs => K (.agg cs.toArray) w) := run_buildV Tryz.zeroValue179 Tryz.runUnderlying179 (fun w => by simp [Tryz.sizeOf177, Tryz.sizeOf2, Tryz.sizeOf3]) parts w K
theorem tbd179 {M : Option (List Nat)} {w0 : World} (parts : List (Nat × Value)) (K : Value → Prop) : takeP Tryz.prog (FrX M w0) (xv (Instr.build 179 parts.toArray)) K = oL (tkO Tryz.prog M w0 (Instr.build 179 parts.toArray) K) (fillL [(0, 1), (1, 1), (2, 1)] [(.int .i64 0), (.int .i64 0), (.map none)] parts) (fun cs => K (.agg cs.toArray)) := takeP_buildV Tryz.zeroValue179 Tryz.runUnderlying179 (fun w => by simp [Tryz.sizeOf177, Tryz.sizeOf2, Tryz.sizeOf3]) parts K
theorem bd184 (parts : List (Nat × Value)) (w : World) (K : Value → World → Prop) : vR ((Instr.build 184 parts.toArray).run Tryz.prog w) K = oL (bdO Tryz.prog 184 parts w K) (fillL [(0, 1), (1, 1), (2, 1), (3, 1), (4, 1)] [(.slice none 0 0), (.int .i64 0), (.int .i64 0), (.int .i64 0), (.int .i64 0)] parts) (fun cs => K (.agg cs.toArray) w) := run_buildV Tryz.zeroValue184 Tryz.runUnderlying184 (fun w => by simp [Tryz.sizeOf2, Tryz.sizeOf3, Tryz.sizeOf98]) parts w K
theorem tbd184 {M : Option (List Nat)} {w0 : World} (parts : List (Nat × Value)) (K : Value → Prop) : takeP Tryz.prog (FrX M w0) (xv (Instr.build 184 parts.toArray)) K = oL (tkO Tryz.prog M w0 (Instr.build 184 parts.toArray) K) (fillL [(0, 1), (1, 1), (2, 1), (3, 1), (4, 1)] [(.slice none 0 0), (.int .i64 0), (.int .i64 0), (.int .i64 0), (.int .i64 0)] parts) (fun cs => K (.agg cs.toArray)) := takeP_buildV Tryz.zeroValue184 Tryz.runUnderlying184 (fun w => by simp [Tryz.sizeOf2, Tryz.sizeOf3, Tryz.sizeOf98]) parts K
theorem bd187 (parts : List (Nat × Value)) (w : World) (K : Value → World → Prop) : vR ((Instr.build 187 parts.toArray).run Tryz.prog w) K = oL (bdO Tryz.prog 187 parts w K) (fillL [(0, 1), (1, 1)] [(.int .i64 0), (.string ⟨#[]⟩)] parts) (fun cs => K (.agg cs.toArray) w) := run_buildV Tryz.zeroValue187 Tryz.runUnderlying187 (fun w => by simp [Tryz.sizeOf2, Tryz.sizeOf9]) parts w K
theorem tbd187 {M : Option (List Nat)} {w0 : World} (parts : List (Nat × Value)) (K : Value → Prop) : takeP Tryz.prog (FrX M w0) (xv (Instr.build 187 parts.toArray)) K = oL (tkO Tryz.prog M w0 (Instr.build 187 parts.toArray) K) (fillL [(0, 1), (1, 1)] [(.int .i64 0), (.string ⟨#[]⟩)] parts) (fun cs => K (.agg cs.toArray)) := takeP_buildV Tryz.zeroValue187 Tryz.runUnderlying187 (fun w => by simp [Tryz.sizeOf2, Tryz.sizeOf9]) parts K
theorem bd194 (parts : List (Nat × Value)) (w : World) (K : Value → World → Prop) : vR ((Instr.build 194 parts.toArray).run Tryz.prog w) K = oL (bdO Tryz.prog 194 parts w K) (fillL [(0, 1), (1, 1), (2, 1)] [(.map none), (.int .i64 0), (.int .i64 0)] parts) (fun cs => K (.agg cs.toArray) w) := run_buildV Tryz.zeroValue194 Tryz.runUnderlying194 (fun w => by simp [Tryz.sizeOf192, Tryz.sizeOf3]) parts w K
theorem tbd194 {M : Option (List Nat)} {w0 : World} (parts : List (Nat × Value)) (K : Value → Prop) : takeP Tryz.prog (FrX M w0) (xv (Instr.build 194 parts.toArray)) K = oL (tkO Tryz.prog M w0 (Instr.build 194 parts.toArray) K) (fillL [(0, 1), (1, 1), (2, 1)] [(.map none), (.int .i64 0), (.int .i64 0)] parts) (fun cs => K (.agg cs.toArray)) := takeP_buildV Tryz.zeroValue194 Tryz.runUnderlying194 (fun w => by simp [Tryz.sizeOf192, Tryz.sizeOf3]) parts K
theorem bd212 (parts : List (Nat × Value)) (w : World) (K : Value → World → Prop) : vR ((Instr.build 212 parts.toArray).run Tryz.prog w) K = oL (bdO Tryz.prog 212 parts w K) (fillL [(0, 1)] [(.slice none 0 0)] parts) (fun cs => K (.agg cs.toArray) w) := run_buildV Tryz.zeroValue212 Tryz.runUnderlying212 (fun w => by simp [Tryz.sizeOf158]) parts w K
theorem tbd212 {M : Option (List Nat)} {w0 : World} (parts : List (Nat × Value)) (K : Value → Prop) : takeP Tryz.prog (FrX M w0) (xv (Instr.build 212 parts.toArray)) K = oL (tkO Tryz.prog M w0 (Instr.build 212 parts.toArray) K) (fillL [(0, 1)] [(.slice none 0 0)] parts) (fun cs => K (.agg cs.toArray)) := takeP_buildV Tryz.zeroValue212 Tryz.runUnderlying212 (fun w => by simp [Tryz.sizeOf158]) parts K
theorem ia22 (b f len cap : Nat) (k : IntKind) (i : Int) (w : World) (K : Value → World → Prop) : vR ((Instr.indexAt 22 (.slice (some ⟨b, f, none⟩) len cap) (.int k i)).run Tryz.prog w) K = ifV (ixO Tryz.prog 22 b f len cap k i w K) (0 ≤ i ∧ i < len) (K (.pointer (some ⟨b, f + i.toNat * 1, none⟩)) w) := run_indexAt Tryz.runUnderlying22 Tryz.sizeOf9 b f len cap k i w K
def tia22 (k : IntKind) (i : Int):=takeP_ifV (M:=M) (w0:=w0) (ia22 b f len cap k i) K2
theorem ia40 (b f len cap : Nat) (k : IntKind) (i : Int) (w : World) (K : Value → World → Prop) : vR ((Instr.indexAt 40 (.slice (some ⟨b, f, none⟩) len cap) (.int k i)).run Tryz.prog w) K = ifV (ixO Tryz.prog 40 b f len cap k i w K) (0 ≤ i ∧ i < len) (K (.pointer (some ⟨b, f + i.toNat * 1, none⟩)) w) := run_indexAt Tryz.runUnderlying40 Tryz.sizeOf2 b f len cap k i w K
def tia40 (k : IntKind) (i : Int):=takeP_ifV (M:=M) (w0:=w0) (ia40 b f len cap k i) K2
theorem ia41 (b f len cap : Nat) (k : IntKind) (i : Int) (w : World) (K : Value → World → Prop) : vR ((Instr.indexAt 41 (.slice (some ⟨b, f, none⟩) len cap) (.int k i)).run Tryz.prog w) K = ifV (ixO Tryz.prog 41 b f len cap k i w K) (0 ≤ i ∧ i < len) (K (.pointer (some ⟨b, f + i.toNat * 8, none⟩)) w) := run_indexAt Tryz.runUnderlying41 Tryz.sizeOf52 b f len cap k i w K
def tia41 (k : IntKind) (i : Int):=takeP_ifV (M:=M) (w0:=w0) (ia41 b f len cap k i) K2
theorem ia46 (b f len cap : Nat) (k : IntKind) (i : Int) (w : World) (K : Value → World → Prop) : vR ((Instr.indexAt 46 (.slice (some ⟨b, f, none⟩) len cap) (.int k i)).run Tryz.prog w) K = ifV (ixO Tryz.prog 46 b f len cap k i w K) (0 ≤ i ∧ i < len) (K (.pointer (some ⟨b, f + i.toNat * 12, none⟩)) w) := run_indexAt Tryz.runUnderlying46 Tryz.sizeOf50 b f len cap k i w K
def tia46 (k : IntKind) (i : Int):=takeP_ifV (M:=M) (w0:=w0) (ia46 b f len cap k i) K2
theorem ia56 (b f len cap : Nat) (k : IntKind) (i : Int) (w : World) (K : Value → World → Prop) : vR ((Instr.indexAt 56 (.slice (some ⟨b, f, none⟩) len cap) (.int k i)).run Tryz.prog w) K = ifV (ixO Tryz.prog 56 b f len cap k i w K) (0 ≤ i ∧ i < len) (K (.pointer (some ⟨b, f + i.toNat * 1, none⟩)) w) := run_indexAt Tryz.runUnderlying56 Tryz.sizeOf22 b f len cap k i w K
def tia56 (k : IntKind) (i : Int):=takeP_ifV (M:=M) (w0:=w0) (ia56 b f len cap k i) K2
theorem ia63 (b f len cap : Nat) (k : IntKind) (i : Int) (w : World) (K : Value → World → Prop) : vR ((Instr.indexAt 63 (.slice (some ⟨b, f, none⟩) len cap) (.int k i)).run Tryz.prog w) K = ifV (ixO Tryz.prog 63 b f len cap k i w K) (0 ≤ i ∧ i < len) (K (.pointer (some ⟨b, f + i.toNat * 1, none⟩)) w) := run_indexAt Tryz.runUnderlying63 Tryz.sizeOf3 b f len cap k i w K
def tia63 (k : IntKind) (i : Int):=takeP_ifV (M:=M) (w0:=w0) (ia63 b f len cap k i) K2
theorem ia67 (b f len cap : Nat) (k : IntKind) (i : Int) (w : World) (K : Value → World → Prop) : vR ((Instr.indexAt 67 (.slice (some ⟨b, f, none⟩) len cap) (.int k i)).run Tryz.prog w) K = ifV (ixO Tryz.prog 67 b f len cap k i w K) (0 ≤ i ∧ i < len) (K (.pointer (some ⟨b, f + i.toNat * 4, none⟩)) w) := run_indexAt Tryz.runUnderlying67 Tryz.sizeOf70 b f len cap k i w K
def tia67 (k : IntKind) (i : Int):=takeP_ifV (M:=M) (w0:=w0) (ia67 b f len cap k i) K2
theorem ia95 (b f len cap : Nat) (k : IntKind) (i : Int) (w : World) (K : Value → World → Prop) : vR ((Instr.indexAt 95 (.slice (some ⟨b, f, none⟩) len cap) (.int k i)).run Tryz.prog w) K = ifV (ixO Tryz.prog 95 b f len cap k i w K) (0 ≤ i ∧ i < len) (K (.pointer (some ⟨b, f + i.toNat * 2, none⟩)) w) := run_indexAt Tryz.runUnderlying95 Tryz.sizeOf38 b f len cap k i w K
def tia95 (k : IntKind) (i : Int):=takeP_ifV (M:=M) (w0:=w0) (ia95 b f len cap k i) K2
theorem ia98 (b f len cap : Nat) (k : IntKind) (i : Int) (w : World) (K : Value → World → Prop) : vR ((Instr.indexAt 98 (.slice (some ⟨b, f, none⟩) len cap) (.int k i)).run Tryz.prog w) K = ifV (ixO Tryz.prog 98 b f len cap k i w K) (0 ≤ i ∧ i < len) (K (.pointer (some ⟨b, f + i.toNat * 2, none⟩)) w) := run_indexAt Tryz.runUnderlying98 Tryz.sizeOf187 b f len cap k i w K
def tia98 (k : IntKind) (i : Int):=takeP_ifV (M:=M) (w0:=w0) (ia98 b f len cap k i) K2
theorem ia151 (b f len cap : Nat) (k : IntKind) (i : Int) (w : World) (K : Value → World → Prop) : vR ((Instr.indexAt 151 (.slice (some ⟨b, f, none⟩) len cap) (.int k i)).run Tryz.prog w) K = ifV (ixO Tryz.prog 151 b f len cap k i w K) (0 ≤ i ∧ i < len) (K (.pointer (some ⟨b, f + i.toNat * 2, none⟩)) w) := run_indexAt Tryz.runUnderlying151 Tryz.sizeOf155 b f len cap k i w K
def tia151 (k : IntKind) (i : Int):=takeP_ifV (M:=M) (w0:=w0) (ia151 b f len cap k i) K2
theorem ia158 (b f len cap : Nat) (k : IntKind) (i : Int) (w : World) (K : Value → World → Prop) : vR ((Instr.indexAt 158 (.slice (some ⟨b, f, none⟩) len cap) (.int k i)).run Tryz.prog w) K = ifV (ixO Tryz.prog 158 b f len cap k i w K) (0 ≤ i ∧ i < len) (K (.pointer (some ⟨b, f + i.toNat * 2, none⟩)) w) := run_indexAt Tryz.runUnderlying158 Tryz.sizeOf135 b f len cap k i w K
def tia158 (k : IntKind) (i : Int):=takeP_ifV (M:=M) (w0:=w0) (ia158 b f len cap k i) K2
theorem eq4 (x y : Operand) (a b : Bool) (w : World) : (xbin .eql 4 x y (.bool a) (.bool b)).run Tryz.prog w = .ok (.bool (a == b)) w := run_eqb Tryz.runUnderlying4 x y a b w
def teq4 (a : Bool) (b : Bool):=takeP_xv (M:=M) (w0:=w0) (eq4 x y a b) K2
theorem ne4 (x y : Operand) (a b : Bool) (w : World) : (xbin .neq 4 x y (.bool a) (.bool b)).run Tryz.prog w = .ok (.bool (!(a == b))) w := run_neb Tryz.runUnderlying4 x y a b w
def tne4 (a : Bool) (b : Bool):=takeP_xv (M:=M) (w0:=w0) (ne4 x y a b) K2
theorem eq22 (x y : Operand) (a : Option Addr) (n c : Nat) (w : World) : (xbin .eql 22 x y (.slice a n c) (.slice none 0 0)).run Tryz.prog w = .ok (.bool a.isNone) w := run_eqsl Tryz.runUnderlying22 x y a n c w
theorem eq26 (x y : Operand) (a : Option Addr) (w : World) : (xbin .eql 26 x y (.pointer a) (.pointer none)).run Tryz.prog w = .ok (.bool a.isNone) w := run_eqp Tryz.runUnderlying26 x y a w
def teq26 (a : Option Addr):=takeP_xv (M:=M) (w0:=w0) (eq26 x y a) K2
theorem ne26 (x y : Operand) (a : Option Addr) (w : World) : (xbin .neq 26 x y (.pointer a) (.pointer none)).run Tryz.prog w = .ok (.bool (!a.isNone)) w := run_nep Tryz.runUnderlying26 x y a w
def tne26 (a : Option Addr):=takeP_xv (M:=M) (w0:=w0) (ne26 x y a) K2
theorem eq41 (x y : Operand) (a : Option Addr) (n c : Nat) (w : World) : (xbin .eql 41 x y (.slice a n c) (.slice none 0 0)).run Tryz.prog w = .ok (.bool a.isNone) w := run_eqsl Tryz.runUnderlying41 x y a n c w
theorem eq81 (x y : Operand) (a : Option Addr) (w : World) : (xbin .eql 81 x y (.pointer a) (.pointer none)).run Tryz.prog w = .ok (.bool a.isNone) w := run_eqp Tryz.runUnderlying81 x y a w
def teq81 (a : Option Addr):=takeP_xv (M:=M) (w0:=w0) (eq81 x y a) K2
theorem ne81 (x y : Operand) (a : Option Addr) (w : World) : (xbin .neq 81 x y (.pointer a) (.pointer none)).run Tryz.prog w = .ok (.bool (!a.isNone)) w := run_nep Tryz.runUnderlying81 x y a w
def tne81 (a : Option Addr):=takeP_xv (M:=M) (w0:=w0) (ne81 x y a) K2
theorem eq89 (x y : Operand) (a : Option Addr) (w : World) : (xbin .eql 89 x y (.pointer a) (.pointer none)).run Tryz.prog w = .ok (.bool a.isNone) w := run_eqp Tryz.runUnderlying89 x y a w
def teq89 (a : Option Addr):=takeP_xv (M:=M) (w0:=w0) (eq89 x y a) K2
theorem ne89 (x y : Operand) (a : Option Addr) (w : World) : (xbin .neq 89 x y (.pointer a) (.pointer none)).run Tryz.prog w = .ok (.bool (!a.isNone)) w := run_nep Tryz.runUnderlying89 x y a w
def tne89 (a : Option Addr):=takeP_xv (M:=M) (w0:=w0) (ne89 x y a) K2
theorem eq98 (x y : Operand) (a : Option Addr) (n c : Nat) (w : World) : (xbin .eql 98 x y (.slice a n c) (.slice none 0 0)).run Tryz.prog w = .ok (.bool a.isNone) w := run_eqsl Tryz.runUnderlying98 x y a n c w
theorem eq114 (x y : Operand) (a : Option Addr) (w : World) : (xbin .eql 114 x y (.pointer a) (.pointer none)).run Tryz.prog w = .ok (.bool a.isNone) w := run_eqp Tryz.runUnderlying114 x y a w
def teq114 (a : Option Addr):=takeP_xv (M:=M) (w0:=w0) (eq114 x y a) K2
theorem ne114 (x y : Operand) (a : Option Addr) (w : World) : (xbin .neq 114 x y (.pointer a) (.pointer none)).run Tryz.prog w = .ok (.bool (!a.isNone)) w := run_nep Tryz.runUnderlying114 x y a w
def tne114 (a : Option Addr):=takeP_xv (M:=M) (w0:=w0) (ne114 x y a) K2
theorem eq115 (x y : Operand) (a : Option Addr) (w : World) : (xbin .eql 115 x y (.pointer a) (.pointer none)).run Tryz.prog w = .ok (.bool a.isNone) w := run_eqp Tryz.runUnderlying115 x y a w
def teq115 (a : Option Addr):=takeP_xv (M:=M) (w0:=w0) (eq115 x y a) K2
theorem ne115 (x y : Operand) (a : Option Addr) (w : World) : (xbin .neq 115 x y (.pointer a) (.pointer none)).run Tryz.prog w = .ok (.bool (!a.isNone)) w := run_nep Tryz.runUnderlying115 x y a w
def tne115 (a : Option Addr):=takeP_xv (M:=M) (w0:=w0) (ne115 x y a) K2
theorem eq116 (x y : Operand) (a : Option Addr) (w : World) : (xbin .eql 116 x y (.pointer a) (.pointer none)).run Tryz.prog w = .ok (.bool a.isNone) w := run_eqp Tryz.runUnderlying116 x y a w
def teq116 (a : Option Addr):=takeP_xv (M:=M) (w0:=w0) (eq116 x y a) K2
theorem ne116 (x y : Operand) (a : Option Addr) (w : World) : (xbin .neq 116 x y (.pointer a) (.pointer none)).run Tryz.prog w = .ok (.bool (!a.isNone)) w := run_nep Tryz.runUnderlying116 x y a w
def tne116 (a : Option Addr):=takeP_xv (M:=M) (w0:=w0) (ne116 x y a) K2
theorem eq177 (x y : Operand) (a : Option Nat) (w : World) : (xbin .eql 177 x y (.map a) (.map none)).run Tryz.prog w = .ok (.bool a.isNone) w := run_eqm Tryz.runUnderlying177 x y a w
theorem eq192 (x y : Operand) (a : Option Nat) (w : World) : (xbin .eql 192 x y (.map a) (.map none)).run Tryz.prog w = .ok (.bool a.isNone) w := run_eqm Tryz.runUnderlying192 x y a w
theorem eqI31 (x0 y0 : Bool) (x1 y1 : ByteArray) : ∀ w, (Op.equalIn 10000 31 (.agg ([.bool x0, .string x1] : List Value).toArray) (.agg ([.bool y0, .string y1] : List Value).toArray)).run Tryz.prog w = .ok (decide (x0 = y0) && (decide (x1 = y1) && true)) w := eqS (d := 9999) Tryz.runUnderlying31 (by kernel_rfl) (eqF_cons (by decide) (part1 Tryz.isAgg4 rfl) (part1 Tryz.isAgg4 rfl) (eqv_bool Tryz.runUnderlying4 x0 y0) (eqF_cons (by decide) (part1 Tryz.isAgg9 rfl) (part1 Tryz.isAgg9 rfl) (eqv_string Tryz.runUnderlying9 x1 y1) (eqF_nil)))
theorem eq31 (x y : Operand) (x0 y0 : Bool) (x1 y1 : ByteArray) (w : World) : (xbin .eql 31 x y (.agg ([.bool x0, .string x1] : List Value).toArray) (.agg ([.bool y0, .string y1] : List Value).toArray)).run Tryz.prog w = .ok (.bool ((decide (x0 = y0) && (decide (x1 = y1) && true)))) w := eqX (by kernel_rfl) (eqI31 x0 y0 x1 y1) x y w
def teq31 (x0 : Bool) (y0 : Bool) (x1 : ByteArray) (y1 : ByteArray):=takeP_xv (M:=M) (w0:=w0) (eq31 x y x0 y0 x1 y1) K2
theorem ne31 (x y : Operand) (x0 y0 : Bool) (x1 y1 : ByteArray) (w : World) : (xbin .neq 31 x y (.agg ([.bool x0, .string x1] : List Value).toArray) (.agg ([.bool y0, .string y1] : List Value).toArray)).run Tryz.prog w = .ok (.bool (!(decide (x0 = y0) && (decide (x1 = y1) && true)))) w := neX (by kernel_rfl) (eqI31 x0 y0 x1 y1) x y w
def tne31 (x0 : Bool) (y0 : Bool) (x1 : ByteArray) (y1 : ByteArray):=takeP_xv (M:=M) (w0:=w0) (ne31 x y x0 y0 x1 y1) K2
theorem eqI48 (x0 y0 : Int) (x1 y1 : Int) : ∀ w, (Op.equalIn 10000 48 (.agg ([.int .i64 x0, .int .i64 x1] : List Value).toArray) (.agg ([.int .i64 y0, .int .i64 y1] : List Value).toArray)).run Tryz.prog w = .ok (decide (x0 = y0) && (decide (x1 = y1) && true)) w := eqS (d := 9999) Tryz.runUnderlying48 (by kernel_rfl) (eqF_cons (by decide) (part1 Tryz.isAgg2 rfl) (part1 Tryz.isAgg2 rfl) (eqv_int Tryz.runUnderlying2 _ x0 y0) (eqF_cons (by decide) (part1 Tryz.isAgg2 rfl) (part1 Tryz.isAgg2 rfl) (eqv_int Tryz.runUnderlying2 _ x1 y1) (eqF_nil)))
theorem eq48 (x y : Operand) (x0 y0 : Int) (x1 y1 : Int) (w : World) : (xbin .eql 48 x y (.agg ([.int .i64 x0, .int .i64 x1] : List Value).toArray) (.agg ([.int .i64 y0, .int .i64 y1] : List Value).toArray)).run Tryz.prog w = .ok (.bool ((decide (x0 = y0) && (decide (x1 = y1) && true)))) w := eqX (by kernel_rfl) (eqI48 x0 y0 x1 y1) x y w
def teq48 (x0 : Int) (y0 : Int) (x1 : Int) (y1 : Int):=takeP_xv (M:=M) (w0:=w0) (eq48 x y x0 y0 x1 y1) K2
theorem ne48 (x y : Operand) (x0 y0 : Int) (x1 y1 : Int) (w : World) : (xbin .neq 48 x y (.agg ([.int .i64 x0, .int .i64 x1] : List Value).toArray) (.agg ([.int .i64 y0, .int .i64 y1] : List Value).toArray)).run Tryz.prog w = .ok (.bool (!(decide (x0 = y0) && (decide (x1 = y1) && true)))) w := neX (by kernel_rfl) (eqI48 x0 y0 x1 y1) x y w
def tne48 (x0 : Int) (y0 : Int) (x1 : Int) (y1 : Int):=takeP_xv (M:=M) (w0:=w0) (ne48 x y x0 y0 x1 y1) K2
theorem eqI52 (x0 y0 : ByteArray) (x1 y1 : Bool) (x2 y2 : ByteArray) (x3 y3 : Int) (x4 y4 : Int) (x5 y5 : Bool) (x6 y6 : Int) (x7 y7 : Int) : ∀ w, (Op.equalIn 10000 52 (.agg ([.string x0, .bool x1, .string x2, .int .i64 x3, .int .i64 x4, .bool x5, .int .i64 x6, .int .i64 x7] : List Value).toArray) (.agg ([.string y0, .bool y1, .string y2, .int .i64 y3, .int .i64 y4, .bool y5, .int .i64 y6, .int .i64 y7] : List Value).toArray)).run Tryz.prog w = .ok ((decide (x0 = y0) && ((decide (x1 = y1) && (decide (x2 = y2) && true)) && (decide (x3 = y3) && (decide (x4 = y4) && true)))) && (decide (x5 = y5) && (decide (x6 = y6) && (decide (x7 = y7) && true)))) w := eqS (d := 9999) Tryz.runUnderlying52 (by kernel_rfl) (eqF_cons (by decide) (partN (l := [.string x0, .bool x1, .string x2, .int .i64 x3, .int .i64 x4]) Tryz.isAgg34 Tryz.sizeOf34 rfl) (partN (l := [.string y0, .bool y1, .string y2, .int .i64 y3, .int .i64 y4]) Tryz.isAgg34 Tryz.sizeOf34 rfl) (eqS (d := 9998) Tryz.runUnderlying34 (by kernel_rfl) (eqF_cons (by decide) (part1 Tryz.isAgg9 rfl) (part1 Tryz.isAgg9 rfl) (eqv_string Tryz.runUnderlying9 x0 y0) (eqF_cons (by decide) (partN (l := [.bool x1, .string x2]) Tryz.isAgg31 Tryz.sizeOf31 rfl) (partN (l := [.bool y1, .string y2]) Tryz.isAgg31 Tryz.sizeOf31 rfl) (eqS (d := 9997) Tryz.runUnderlying31 (by kernel_rfl) (eqF_cons (by decide) (part1 Tryz.isAgg4 rfl) (part1 Tryz.isAgg4 rfl) (eqv_bool Tryz.runUnderlying4 x1 y1) (eqF_cons (by decide) (part1 Tryz.isAgg9 rfl) (part1 Tryz.isAgg9 rfl) (eqv_string Tryz.runUnderlying9 x2 y2) (eqF_nil)))) (eqF_cons (by decide) (part1 Tryz.isAgg2 rfl) (part1 Tryz.isAgg2 rfl) (eqv_int Tryz.runUnderlying2 _ x3 y3) (eqF_cons (by decide) (part1 Tryz.isAgg2 rfl) (part1 Tryz.isAgg2 rfl) (eqv_int Tryz.runUnderlying2 _ x4 y4) (eqF_nil)))))) (eqF_cons (by decide) (part1 Tryz.isAgg4 rfl) (part1 Tryz.isAgg4 rfl) (eqv_bool Tryz.runUnderlying4 x5 y5) (eqF_cons (by decide) (part1 Tryz.isAgg2 rfl) (part1 Tryz.isAgg2 rfl) (eqv_int Tryz.runUnderlying2 _ x6 y6) (eqF_cons (by decide) (part1 Tryz.isAgg2 rfl) (part1 Tryz.isAgg2 rfl) (eqv_int Tryz.runUnderlying2 _ x7 y7) (eqF_nil)))))
theorem eq52 (x y : Operand) (x0 y0 : ByteArray) (x1 y1 : Bool) (x2 y2 : ByteArray) (x3 y3 : Int) (x4 y4 : Int) (x5 y5 : Bool) (x6 y6 : Int) (x7 y7 : Int) (w : World) : (xbin .eql 52 x y (.agg ([.string x0, .bool x1, .string x2, .int .i64 x3, .int .i64 x4, .bool x5, .int .i64 x6, .int .i64 x7] : List Value).toArray) (.agg ([.string y0, .bool y1, .string y2, .int .i64 y3, .int .i64 y4, .bool y5, .int .i64 y6, .int .i64 y7] : List Value).toArray)).run Tryz.prog w = .ok (.bool (((decide (x0 = y0) && ((decide (x1 = y1) && (decide (x2 = y2) && true)) && (decide (x3 = y3) && (decide (x4 = y4) && true)))) && (decide (x5 = y5) && (decide (x6 = y6) && (decide (x7 = y7) && true)))))) w := eqX (by kernel_rfl) (eqI52 x0 y0 x1 y1 x2 y2 x3 y3 x4 y4 x5 y5 x6 y6 x7 y7) x y w
def teq52 (x0 : ByteArray) (y0 : ByteArray) (x1 : Bool) (y1 : Bool) (x2 : ByteArray) (y2 : ByteArray) (x3 : Int) (y3 : Int) (x4 : Int) (y4 : Int) (x5 : Bool) (y5 : Bool) (x6 : Int) (y6 : Int) (x7 : Int) (y7 : Int):=takeP_xv (M:=M) (w0:=w0) (eq52 x y x0 y0 x1 y1 x2 y2 x3 y3 x4 y4 x5 y5 x6 y6 x7 y7) K2
theorem ne52 (x y : Operand) (x0 y0 : ByteArray) (x1 y1 : Bool) (x2 y2 : ByteArray) (x3 y3 : Int) (x4 y4 : Int) (x5 y5 : Bool) (x6 y6 : Int) (x7 y7 : Int) (w : World) : (xbin .neq 52 x y (.agg ([.string x0, .bool x1, .string x2, .int .i64 x3, .int .i64 x4, .bool x5, .int .i64 x6, .int .i64 x7] : List Value).toArray) (.agg ([.string y0, .bool y1, .string y2, .int .i64 y3, .int .i64 y4, .bool y5, .int .i64 y6, .int .i64 y7] : List Value).toArray)).run Tryz.prog w = .ok (.bool (!((decide (x0 = y0) && ((decide (x1 = y1) && (decide (x2 = y2) && true)) && (decide (x3 = y3) && (decide (x4 = y4) && true)))) && (decide (x5 = y5) && (decide (x6 = y6) && (decide (x7 = y7) && true)))))) w := neX (by kernel_rfl) (eqI52 x0 y0 x1 y1 x2 y2 x3 y3 x4 y4 x5 y5 x6 y6 x7 y7) x y w
def tne52 (x0 : ByteArray) (y0 : ByteArray) (x1 : Bool) (y1 : Bool) (x2 : ByteArray) (y2 : ByteArray) (x3 : Int) (y3 : Int) (x4 : Int) (y4 : Int) (x5 : Bool) (y5 : Bool) (x6 : Int) (y6 : Int) (x7 : Int) (y7 : Int):=takeP_xv (M:=M) (w0:=w0) (ne52 x y x0 y0 x1 y1 x2 y2 x3 y3 x4 y4 x5 y5 x6 y6 x7 y7) K2
theorem len9 (ty : TypeId) (s : ByteArray) (w : World) : (Builtin.len_ #[9] ty #[.string s]).run Tryz.prog w = .ok (.int .i64 s.size) w := run_len_string' Tryz.runUnderlying9 ty s w
theorem tlen9 {M : Option (List Nat)} {w0 : World} (ty : TypeId) (cs : Array Bool) (s : ByteArray) (K : Value → Prop) : takeP Tryz.prog (FrX M w0) (builtin .len #[9] ty cs #[.string s]) K = K (.int .i64 s.size) := takeP_bi rfl (len9 ty s) K
theorem len22 (ty : TypeId) (a : Option Addr) (n c : Nat) (w : World) : (Builtin.len_ #[22] ty #[.slice a n c]).run Tryz.prog w = .ok (.int .i64 n) w := run_len_slice' Tryz.runUnderlying22 ty a n c w
theorem tlen22 {M : Option (List Nat)} {w0 : World} (ty : TypeId) (cs : Array Bool) (a : Option Addr) (n c : Nat) (K : Value → Prop) : takeP Tryz.prog (FrX M w0) (builtin .len #[22] ty cs #[.slice a n c]) K = K (.int .i64 n) := takeP_bi rfl (len22 ty a n c) K
theorem len40 (ty : TypeId) (a : Option Addr) (n c : Nat) (w : World) : (Builtin.len_ #[40] ty #[.slice a n c]).run Tryz.prog w = .ok (.int .i64 n) w := run_len_slice' Tryz.runUnderlying40 ty a n c w
theorem tlen40 {M : Option (List Nat)} {w0 : World} (ty : TypeId) (cs : Array Bool) (a : Option Addr) (n c : Nat) (K : Value → Prop) : takeP Tryz.prog (FrX M w0) (builtin .len #[40] ty cs #[.slice a n c]) K = K (.int .i64 n) := takeP_bi rfl (len40 ty a n c) K
theorem len41 (ty : TypeId) (a : Option Addr) (n c : Nat) (w : World) : (Builtin.len_ #[41] ty #[.slice a n c]).run Tryz.prog w = .ok (.int .i64 n) w := run_len_slice' Tryz.runUnderlying41 ty a n c w
theorem tlen41 {M : Option (List Nat)} {w0 : World} (ty : TypeId) (cs : Array Bool) (a : Option Addr) (n c : Nat) (K : Value → Prop) : takeP Tryz.prog (FrX M w0) (builtin .len #[41] ty cs #[.slice a n c]) K = K (.int .i64 n) := takeP_bi rfl (len41 ty a n c) K
theorem len46 (ty : TypeId) (a : Option Addr) (n c : Nat) (w : World) : (Builtin.len_ #[46] ty #[.slice a n c]).run Tryz.prog w = .ok (.int .i64 n) w := run_len_slice' Tryz.runUnderlying46 ty a n c w
theorem tlen46 {M : Option (List Nat)} {w0 : World} (ty : TypeId) (cs : Array Bool) (a : Option Addr) (n c : Nat) (K : Value → Prop) : takeP Tryz.prog (FrX M w0) (builtin .len #[46] ty cs #[.slice a n c]) K = K (.int .i64 n) := takeP_bi rfl (len46 ty a n c) K
theorem len56 (ty : TypeId) (a : Option Addr) (n c : Nat) (w : World) : (Builtin.len_ #[56] ty #[.slice a n c]).run Tryz.prog w = .ok (.int .i64 n) w := run_len_slice' Tryz.runUnderlying56 ty a n c w
theorem tlen56 {M : Option (List Nat)} {w0 : World} (ty : TypeId) (cs : Array Bool) (a : Option Addr) (n c : Nat) (K : Value → Prop) : takeP Tryz.prog (FrX M w0) (builtin .len #[56] ty cs #[.slice a n c]) K = K (.int .i64 n) := takeP_bi rfl (len56 ty a n c) K
theorem len63 (ty : TypeId) (a : Option Addr) (n c : Nat) (w : World) : (Builtin.len_ #[63] ty #[.slice a n c]).run Tryz.prog w = .ok (.int .i64 n) w := run_len_slice' Tryz.runUnderlying63 ty a n c w
theorem tlen63 {M : Option (List Nat)} {w0 : World} (ty : TypeId) (cs : Array Bool) (a : Option Addr) (n c : Nat) (K : Value → Prop) : takeP Tryz.prog (FrX M w0) (builtin .len #[63] ty cs #[.slice a n c]) K = K (.int .i64 n) := takeP_bi rfl (len63 ty a n c) K
theorem len67 (ty : TypeId) (a : Option Addr) (n c : Nat) (w : World) : (Builtin.len_ #[67] ty #[.slice a n c]).run Tryz.prog w = .ok (.int .i64 n) w := run_len_slice' Tryz.runUnderlying67 ty a n c w
theorem tlen67 {M : Option (List Nat)} {w0 : World} (ty : TypeId) (cs : Array Bool) (a : Option Addr) (n c : Nat) (K : Value → Prop) : takeP Tryz.prog (FrX M w0) (builtin .len #[67] ty cs #[.slice a n c]) K = K (.int .i64 n) := takeP_bi rfl (len67 ty a n c) K
theorem len95 (ty : TypeId) (a : Option Addr) (n c : Nat) (w : World) : (Builtin.len_ #[95] ty #[.slice a n c]).run Tryz.prog w = .ok (.int .i64 n) w := run_len_slice' Tryz.runUnderlying95 ty a n c w
theorem tlen95 {M : Option (List Nat)} {w0 : World} (ty : TypeId) (cs : Array Bool) (a : Option Addr) (n c : Nat) (K : Value → Prop) : takeP Tryz.prog (FrX M w0) (builtin .len #[95] ty cs #[.slice a n c]) K = K (.int .i64 n) := takeP_bi rfl (len95 ty a n c) K
theorem len98 (ty : TypeId) (a : Option Addr) (n c : Nat) (w : World) : (Builtin.len_ #[98] ty #[.slice a n c]).run Tryz.prog w = .ok (.int .i64 n) w := run_len_slice' Tryz.runUnderlying98 ty a n c w
theorem tlen98 {M : Option (List Nat)} {w0 : World} (ty : TypeId) (cs : Array Bool) (a : Option Addr) (n c : Nat) (K : Value → Prop) : takeP Tryz.prog (FrX M w0) (builtin .len #[98] ty cs #[.slice a n c]) K = K (.int .i64 n) := takeP_bi rfl (len98 ty a n c) K
theorem len151 (ty : TypeId) (a : Option Addr) (n c : Nat) (w : World) : (Builtin.len_ #[151] ty #[.slice a n c]).run Tryz.prog w = .ok (.int .i64 n) w := run_len_slice' Tryz.runUnderlying151 ty a n c w
theorem tlen151 {M : Option (List Nat)} {w0 : World} (ty : TypeId) (cs : Array Bool) (a : Option Addr) (n c : Nat) (K : Value → Prop) : takeP Tryz.prog (FrX M w0) (builtin .len #[151] ty cs #[.slice a n c]) K = K (.int .i64 n) := takeP_bi rfl (len151 ty a n c) K
theorem len158 (ty : TypeId) (a : Option Addr) (n c : Nat) (w : World) : (Builtin.len_ #[158] ty #[.slice a n c]).run Tryz.prog w = .ok (.int .i64 n) w := run_len_slice' Tryz.runUnderlying158 ty a n c w
theorem tlen158 {M : Option (List Nat)} {w0 : World} (ty : TypeId) (cs : Array Bool) (a : Option Addr) (n c : Nat) (K : Value → Prop) : takeP Tryz.prog (FrX M w0) (builtin .len #[158] ty cs #[.slice a n c]) K = K (.int .i64 n) := takeP_bi rfl (len158 ty a n c) K
theorem kOK177 : KeyOK Tryz.prog 2 (Value.int .i64) := keyOK_int Tryz.runUnderlying2
theorem lk177 (r : Nat) (k : Int) (w : World) (K : Value → World → Prop) : vR ((Instr.lookup 177 (.map (some r)) (.int .i64 k) false).run Tryz.prog w) K = mapV (Value.int .i64) (lkO Tryz.prog 177 r (.int .i64 k) false w K) w.heap[r]? (fun es => K ((aget es k).getD (.agg ([(.int .i64 0), (.slice none 0 0)] : List Value).toArray)) w) := lookup_V Tryz.runUnderlying177 kOK177 Tryz.zeroValue38 r k w K
theorem tlk177 {N : List Nat} {w0 : World} (r : Nat) (hr : r ∉ N) (k : Int) (K : Value → Prop) : takeP Tryz.prog (FrX (some N) w0) (xv (Instr.lookup 177 (.map (some r)) (.int .i64 k) false)) K = mapV (Value.int .i64) (tkO Tryz.prog (some N) w0 (Instr.lookup 177 (.map (some r)) (.int .i64 k) false) K) w0.heap[r]? (fun es => K ((aget es k).getD (.agg ([(.int .i64 0), (.slice none 0 0)] : List Value).toArray))) := takeP_V inj_int hr (lk177 r k) K
theorem lkk177 (r : Nat) (k : Int) (w : World) (K : Value → World → Prop) : vR ((Instr.lookup 177 (.map (some r)) (.int .i64 k) true).run Tryz.prog w) K = mapV (Value.int .i64) (lkO Tryz.prog 177 r (.int .i64 k) true w K) w.heap[r]? (fun es => K (.tuple ([(aget es k).getD (.agg ([(.int .i64 0), (.slice none 0 0)] : List Value).toArray), .bool (aget es k).isSome] : List Value).toArray) w) := lookup2_V Tryz.runUnderlying177 kOK177 Tryz.zeroValue38 r k w K
theorem tlkk177 {N : List Nat} {w0 : World} (r : Nat) (hr : r ∉ N) (k : Int) (K : Value → Prop) : takeP Tryz.prog (FrX (some N) w0) (xv (Instr.lookup 177 (.map (some r)) (.int .i64 k) true)) K = mapV (Value.int .i64) (tkO Tryz.prog (some N) w0 (Instr.lookup 177 (.map (some r)) (.int .i64 k) true) K) w0.heap[r]? (fun es => K (.tuple ([(aget es k).getD (.agg ([(.int .i64 0), (.slice none 0 0)] : List Value).toArray), .bool (aget es k).isSome] : List Value).toArray)) := takeP_V inj_int hr (lkk177 r k) K
theorem lkn177 (k : Int) (w : World) : (Instr.lookup 177 (.map none) (.int .i64 k) false).run Tryz.prog w = .ok (.agg ([(.int .i64 0), (.slice none 0 0)] : List Value).toArray) w := map_lookup_nil Tryz.runUnderlying177 kOK177 Tryz.zeroValue38 w k
theorem mu177 (r : Nat) (k : Int) (v : Value) (w : World) (K : Value → World → Prop) : uR ((Instr.mapUpdate 177 (.map (some r)) (.int .i64 k) v).run Tryz.prog w) K = mapV (Value.int .i64) (muO Tryz.prog 177 r (.int .i64 k) v w K) w.heap[r]? (fun es => K undef (w.setB r (updO (Value.int .i64) es w.heap[r]? k v))) := update_V Tryz.runUnderlying177 kOK177 r k v w K
theorem mk177 (w : World) : (Instr.makeMap 177 none).run Tryz.prog w = .ok (.map (some w.heap.size)) (w.alloc (.map #[] 0)) := map_make (kt' := 2) (et := 38) w
theorem ml177 (ty : TypeId) (r : Nat) (w : World) (K : Value → World → Prop) : vR ((Builtin.len_ #[177] ty #[.map (some r)]).run Tryz.prog w) K = mapV (Value.int .i64) (mbO Tryz.prog (Builtin.len_ #[177] ty #[.map (some r)]) w K) w.heap[r]? (fun es => K (.int .i64 es.length) w) := mlen_V Tryz.runUnderlying177 ty r w K
theorem tml177 {N : List Nat} {w0 : World} (ty : TypeId) (cs : Array Bool) (r : Nat) (hr : r ∉ N) (K : Value → Prop) : takeP Tryz.prog (FrX (some N) w0) (builtin .len #[177] ty cs #[.map (some r)]) K = mapV (Value.int .i64) (tkO Tryz.prog (some N) w0 (Builtin.len_ #[177] ty #[.map (some r)]) K) w0.heap[r]? (fun es => K (.int .i64 es.length)) := takeP_biV (F := fun es => .int .i64 es.length) inj_int rfl hr (ml177 ty r) K
theorem mc177 (ty : TypeId) (r : Nat) (w : World) (K : Value → World → Prop) : vR ((Builtin.clear_ #[177] ty #[.map (some r)]).run Tryz.prog w) K = mapV (Value.int .i64) (mbO Tryz.prog (Builtin.clear_ #[177] ty #[.map (some r)]) w K) w.heap[r]? (fun es => K (.tuple #[]) (w.setB r (clrO w.heap[r]?))) := clear_V (kv := (Value.int .i64)) Tryz.runUnderlying177 ty r w K
theorem md177 (ty : TypeId) (r : Nat) (k : Int) (w : World) (K : Value → World → Prop) : vR ((Builtin.delete_ #[177, 2] ty #[.map (some r), .int .i64 k]).run Tryz.prog w) K = mapV (Value.int .i64) (mbO Tryz.prog (Builtin.delete_ #[177, 2] ty #[.map (some r), .int .i64 k]) w K) w.heap[r]? (fun es => K (.tuple #[]) (w.setB r (delO es w.heap[r]? k))) := delete_V Tryz.runUnderlying177 kOK177 ty r k w K
theorem kOK192 : KeyOK Tryz.prog 9 Value.string := keyOK_string Tryz.runUnderlying9
theorem lk192 (r : Nat) (k : ByteArray) (w : World) (K : Value → World → Prop) : vR ((Instr.lookup 192 (.map (some r)) (.string k) false).run Tryz.prog w) K = mapV Value.string (lkO Tryz.prog 192 r (.string k) false w K) w.heap[r]? (fun es => K ((aget es k).getD (.slice none 0 0)) w) := lookup_V Tryz.runUnderlying192 kOK192 Tryz.zeroValue41 r k w K
theorem tlk192 {N : List Nat} {w0 : World} (r : Nat) (hr : r ∉ N) (k : ByteArray) (K : Value → Prop) : takeP Tryz.prog (FrX (some N) w0) (xv (Instr.lookup 192 (.map (some r)) (.string k) false)) K = mapV Value.string (tkO Tryz.prog (some N) w0 (Instr.lookup 192 (.map (some r)) (.string k) false) K) w0.heap[r]? (fun es => K ((aget es k).getD (.slice none 0 0))) := takeP_V inj_string hr (lk192 r k) K
theorem lkk192 (r : Nat) (k : ByteArray) (w : World) (K : Value → World → Prop) : vR ((Instr.lookup 192 (.map (some r)) (.string k) true).run Tryz.prog w) K = mapV Value.string (lkO Tryz.prog 192 r (.string k) true w K) w.heap[r]? (fun es => K (.tuple ([(aget es k).getD (.slice none 0 0), .bool (aget es k).isSome] : List Value).toArray) w) := lookup2_V Tryz.runUnderlying192 kOK192 Tryz.zeroValue41 r k w K
theorem tlkk192 {N : List Nat} {w0 : World} (r : Nat) (hr : r ∉ N) (k : ByteArray) (K : Value → Prop) : takeP Tryz.prog (FrX (some N) w0) (xv (Instr.lookup 192 (.map (some r)) (.string k) true)) K = mapV Value.string (tkO Tryz.prog (some N) w0 (Instr.lookup 192 (.map (some r)) (.string k) true) K) w0.heap[r]? (fun es => K (.tuple ([(aget es k).getD (.slice none 0 0), .bool (aget es k).isSome] : List Value).toArray)) := takeP_V inj_string hr (lkk192 r k) K
theorem lkn192 (k : ByteArray) (w : World) : (Instr.lookup 192 (.map none) (.string k) false).run Tryz.prog w = .ok (.slice none 0 0) w := map_lookup_nil Tryz.runUnderlying192 kOK192 Tryz.zeroValue41 w k
theorem mu192 (r : Nat) (k : ByteArray) (v : Value) (w : World) (K : Value → World → Prop) : uR ((Instr.mapUpdate 192 (.map (some r)) (.string k) v).run Tryz.prog w) K = mapV Value.string (muO Tryz.prog 192 r (.string k) v w K) w.heap[r]? (fun es => K undef (w.setB r (updO Value.string es w.heap[r]? k v))) := update_V Tryz.runUnderlying192 kOK192 r k v w K
theorem mk192 (w : World) : (Instr.makeMap 192 none).run Tryz.prog w = .ok (.map (some w.heap.size)) (w.alloc (.map #[] 0)) := map_make (kt' := 9) (et := 41) w
theorem md192 (ty : TypeId) (r : Nat) (k : ByteArray) (w : World) (K : Value → World → Prop) : vR ((Builtin.delete_ #[192, 9] ty #[.map (some r), .string k]).run Tryz.prog w) K = mapV Value.string (mbO Tryz.prog (Builtin.delete_ #[192, 9] ty #[.map (some r), .string k]) w K) w.heap[r]? (fun es => K (.tuple #[]) (w.setB r (delO es w.heap[r]? k))) := delete_V Tryz.runUnderlying192 kOK192 ty r k w K
theorem cv3_5 (n : Int) (w : World) : (convert 3 5 (.int .i64 n)).run Tryz.prog w = .ok (.int .u8 (IntKind.u8.wrap n)) w := run_cvII Tryz.runUnderlying3 Tryz.runUnderlying5 n w
def tcv3_5:=takeP_xv (M:=M) (w0:=w0) (cv3_5 n) K2
theorem cv3_246 (n : Int) (w : World) : (convert 3 246 (.int .i64 n)).run Tryz.prog w = .ok (.int .u64 (IntKind.u64.wrap n)) w := run_cvII Tryz.runUnderlying3 Tryz.runUnderlying246 n w
def tcv3_246:=takeP_xv (M:=M) (w0:=w0) (cv3_246 n) K2
theorem cv5_3 (n : Int) (w : World) : (convert 5 3 (.int .u8 n)).run Tryz.prog w = .ok (.int .i64 (IntKind.i64.wrap n)) w := run_cvII Tryz.runUnderlying5 Tryz.runUnderlying3 n w
def tcv5_3:=takeP_xv (M:=M) (w0:=w0) (cv5_3 n) K2
theorem cv77_2 (n : Int) (w : World) : (convert 77 2 (.int .u16 n)).run Tryz.prog w = .ok (.int .i64 (IntKind.i64.wrap n)) w := run_cvII Tryz.runUnderlying77 Tryz.runUnderlying2 n w
def tcv77_2:=takeP_xv (M:=M) (w0:=w0) (cv77_2 n) K2
theorem cv246_3 (n : Int) (w : World) : (convert 246 3 (.int .u64 n)).run Tryz.prog w = .ok (.int .i64 (IntKind.i64.wrap n)) w := run_cvII Tryz.runUnderlying246 Tryz.runUnderlying3 n w
def tcv246_3:=takeP_xv (M:=M) (w0:=w0) (cv246_3 n) K2
theorem bs22_0 (w : World) : (Instr.buildSlice 22 0 ([]).toArray).run Tryz.prog w = .ok (.slice (some ⟨w.heap.size, 0, none⟩) 0 0) (w.alloc (.cells #[] 9)) := run_buildSlice0 Tryz.runUnderlying22 Tryz.sizeOf9 w
theorem bs22_1 (s0 : ByteArray) (w : World) : (Instr.buildSlice 22 1 ([(0, .string s0)]).toArray).run Tryz.prog w = .ok (.slice (some ⟨w.heap.size, 0, none⟩) 1 1) (w.alloc (.cells ([.string s0] : List Value).toArray 9)) := by
  have := run_buildSlice Tryz.runUnderlying22 Tryz.sizeOf9 Tryz.zeroValue9 rfl (by decide) [.string s0] (by simp [Value.cells]) (by simp) (by simp) w
  simpa [Value.cells] using this
theorem bs40_1 (z0 : Int) (w : World) : (Instr.buildSlice 40 1 ([(0, .int .i64 z0)]).toArray).run Tryz.prog w = .ok (.slice (some ⟨w.heap.size, 0, none⟩) 1 1) (w.alloc (.cells ([.int .i64 z0] : List Value).toArray 2)) := by
  have := run_buildSlice Tryz.runUnderlying40 Tryz.sizeOf2 Tryz.zeroValue2 rfl (by decide) [.int .i64 z0] (by simp [Value.cells]) (by simp) (by simp) w
  simpa [Value.cells] using this
theorem bs41_0 (w : World) : (Instr.buildSlice 41 0 ([]).toArray).run Tryz.prog w = .ok (.slice (some ⟨w.heap.size, 0, none⟩) 0 0) (w.alloc (.cells #[] 52)) := run_buildSlice0 Tryz.runUnderlying41 Tryz.sizeOf52 w
theorem bs41_1 (l0 : List Value) (hl0 : l0.length = 8) (w : World) : (Instr.buildSlice 41 1 ([(0, .agg l0.toArray)]).toArray).run Tryz.prog w = .ok (.slice (some ⟨w.heap.size, 0, none⟩) 1 1) (w.alloc (.cells (l0).toArray 52)) := by
  have := run_buildSlice Tryz.runUnderlying41 Tryz.sizeOf52 Tryz.zeroValue52 rfl (by decide) [.agg l0.toArray] (by simp [Value.cells, hl0]) (by simp) (by simp) w
  simpa [Value.cells] using this
theorem bs63_1 (z0 : Int) (w : World) : (Instr.buildSlice 63 1 ([(0, .int .i64 z0)]).toArray).run Tryz.prog w = .ok (.slice (some ⟨w.heap.size, 0, none⟩) 1 1) (w.alloc (.cells ([.int .i64 z0] : List Value).toArray 3)) := by
  have := run_buildSlice Tryz.runUnderlying63 Tryz.sizeOf3 Tryz.zeroValue3 rfl (by decide) [.int .i64 z0] (by simp [Value.cells]) (by simp) (by simp) w
  simpa [Value.cells] using this
theorem bs63_2 (z0 : Int) (z1 : Int) (w : World) : (Instr.buildSlice 63 2 ([(0, .int .i64 z0), (1, .int .i64 z1)]).toArray).run Tryz.prog w = .ok (.slice (some ⟨w.heap.size, 0, none⟩) 2 2) (w.alloc (.cells ([.int .i64 z0, .int .i64 z1] : List Value).toArray 3)) := by
  have := run_buildSlice Tryz.runUnderlying63 Tryz.sizeOf3 Tryz.zeroValue3 rfl (by decide) [.int .i64 z0, .int .i64 z1] (by simp [Value.cells]) (by simp) (by simp) w
  simpa [Value.cells] using this
theorem bs95_1 (l0 : List Value) (hl0 : l0.length = 2) (w : World) : (Instr.buildSlice 95 1 ([(0, .agg l0.toArray)]).toArray).run Tryz.prog w = .ok (.slice (some ⟨w.heap.size, 0, none⟩) 1 1) (w.alloc (.cells (l0).toArray 38)) := by
  have := run_buildSlice Tryz.runUnderlying95 Tryz.sizeOf38 Tryz.zeroValue38 rfl (by decide) [.agg l0.toArray] (by simp [Value.cells, hl0]) (by simp) (by simp) w
  simpa [Value.cells] using this
theorem bs98_0 (w : World) : (Instr.buildSlice 98 0 ([]).toArray).run Tryz.prog w = .ok (.slice (some ⟨w.heap.size, 0, none⟩) 0 0) (w.alloc (.cells #[] 187)) := run_buildSlice0 Tryz.runUnderlying98 Tryz.sizeOf187 w
theorem bs158_1 (l0 : List Value) (hl0 : l0.length = 2) (w : World) : (Instr.buildSlice 158 1 ([(0, .agg l0.toArray)]).toArray).run Tryz.prog w = .ok (.slice (some ⟨w.heap.size, 0, none⟩) 1 1) (w.alloc (.cells (l0).toArray 135)) := by
  have := run_buildSlice Tryz.runUnderlying158 Tryz.sizeOf135 Tryz.zeroValue135 rfl (by decide) [.agg l0.toArray] (by simp [Value.cells, hl0]) (by simp) (by simp) w
  simpa [Value.cells] using this
theorem bs199_1 (z0 : Int) (w : World) : (Instr.buildSlice 199 1 ([(0, .int .u8 z0)]).toArray).run Tryz.prog w = .ok (.slice (some ⟨w.heap.size, 0, none⟩) 1 1) (w.alloc (.cells ([.int .u8 z0] : List Value).toArray 5)) := by
  have := run_buildSlice Tryz.runUnderlying199 Tryz.sizeOf5 Tryz.zeroValue5 rfl (by decide) [.int .u8 z0] (by simp [Value.cells]) (by simp) (by simp) w
  simpa [Value.cells] using this
theorem ap22 {ty : TypeId} {w : World} {v x : Value} {n m : Nat} {cs ds : List Value} (h : Own 1 9 w v n cs) (hx : Sl 1 w x m ds) (h1 : ds.all oneC = true) (hlen : (n + m) * 16 ≤ 140737488355328) :
    ∃ v' w', (Builtin.append_ #[22, 22] ty #[v, x]).run Tryz.prog w = .ok v' w' ∧ Own 1 9 w' v' (n + m) (cs ++ ds) ∧ Fr (blkL v) w w' ∧ (v'.ownBlock = v.ownBlock ∨ ∃ b, v'.ownBlock = some b ∧ w.heap.size ≤ b) := run_append (i := Tryz.t9) (by kernel_rfl) (by kernel_rfl) rfl rfl rfl rfl (by decide) h hx h1 hlen (by decide)
theorem ap41 {ty : TypeId} {w : World} {v x : Value} {n m : Nat} {cs ds : List Value} (h : Own 8 52 w v n cs) (hx : Sl 8 w x m ds) (h1 : ds.all oneC = true) (hlen : (n + m) * 80 ≤ 140737488355328) :
    ∃ v' w', (Builtin.append_ #[41, 41] ty #[v, x]).run Tryz.prog w = .ok v' w' ∧ Own 8 52 w' v' (n + m) (cs ++ ds) ∧ Fr (blkL v) w w' ∧ (v'.ownBlock = v.ownBlock ∨ ∃ b, v'.ownBlock = some b ∧ w.heap.size ≤ b) := run_append (i := Tryz.t52) (by kernel_rfl) (by kernel_rfl) rfl rfl rfl rfl (by decide) h hx h1 hlen (by decide)
theorem ap63 {ty : TypeId} {w : World} {v x : Value} {n m : Nat} {cs ds : List Value} (h : Own 1 3 w v n cs) (hx : Sl 1 w x m ds) (h1 : ds.all oneC = true) (hlen : (n + m) * 8 ≤ 140737488355328) :
    ∃ v' w', (Builtin.append_ #[63, 63] ty #[v, x]).run Tryz.prog w = .ok v' w' ∧ Own 1 3 w' v' (n + m) (cs ++ ds) ∧ Fr (blkL v) w w' ∧ (v'.ownBlock = v.ownBlock ∨ ∃ b, v'.ownBlock = some b ∧ w.heap.size ≤ b) := run_append (i := Tryz.t3) (by kernel_rfl) (by kernel_rfl) rfl rfl rfl rfl (by decide) h hx h1 hlen (by decide)
theorem ap95 {ty : TypeId} {w : World} {v x : Value} {n m : Nat} {cs ds : List Value} (h : Own 2 38 w v n cs) (hx : Sl 2 w x m ds) (h1 : ds.all oneC = true) (hlen : (n + m) * 32 ≤ 140737488355328) :
    ∃ v' w', (Builtin.append_ #[95, 95] ty #[v, x]).run Tryz.prog w = .ok v' w' ∧ Own 2 38 w' v' (n + m) (cs ++ ds) ∧ Fr (blkL v) w w' ∧ (v'.ownBlock = v.ownBlock ∨ ∃ b, v'.ownBlock = some b ∧ w.heap.size ≤ b) := run_append (i := Tryz.t38) (by kernel_rfl) (by kernel_rfl) rfl rfl rfl rfl (by decide) h hx h1 hlen (by decide)
def xc14:=nx_xcall Tryz.call14
def xc15:=nx_xcall Tryz.call15
def xc16:=nx_xcall Tryz.call16
def xc17:=nx_xcall Tryz.call17
def xc18:=nx_xcall Tryz.call18
def xc19:=nx_xcall Tryz.call19
def xc20:=nx_xcall Tryz.call20
def xc21:=nx_xcall Tryz.call21
def xc22:=nx_xcall Tryz.call22
def xc23:=nx_xcall Tryz.call23
def xc24:=nx_xcall Tryz.call24
def xc25:=nx_xcall Tryz.call25
def xc26:=nx_xcall Tryz.call26
def xc27:=nx_xcall Tryz.call27
def xc28:=nx_xcall Tryz.call28
def xc29:=nx_xcall Tryz.call29
def xc30:=nx_xcall Tryz.call30
def xc31:=nx_xcall Tryz.call31
def xc32:=nx_xcall Tryz.call32
def xc33:=nx_xcall Tryz.call33
def xc34:=nx_xcall Tryz.call34
def xc35:=nx_xcall Tryz.call35
def xc36:=nx_xcall Tryz.call36
def xc37:=nx_xcall Tryz.call37
def xc38:=nx_xcall Tryz.call38
def xc39:=nx_xcall Tryz.call39
def xc40:=nx_xcall Tryz.call40
def xc41:=nx_xcall Tryz.call41
def xc42:=nx_xcall Tryz.call42
def xc43:=nx_xcall Tryz.call43
def xc44:=nx_xcall Tryz.call44
def xc47:=nx_xcall Tryz.call47
def xc48:=nx_xcall Tryz.call48
def xc49:=nx_xcall Tryz.call49
def xc50:=nx_xcall Tryz.call50
def xc61:=nx_xcall Tryz.call61
def xc62:=nx_xcall Tryz.call62
def xc63:=nx_xcall Tryz.call63
def xc64:=nx_xcall Tryz.call64
def xc65:=nx_xcall Tryz.call65
def xc66:=nx_xcall Tryz.call66
def xc67:=nx_xcall Tryz.call67
def xc68:=nx_xcall Tryz.call68
def xc69:=nx_xcall Tryz.call69
def xc70:=nx_xcall Tryz.call70
def xc77:=nx_xcall Tryz.call77
def xc78:=nx_xcall Tryz.call78
def xc80:=nx_xcall Tryz.call80
def xc81:=nx_xcall Tryz.call81
def xc82:=nx_xcall Tryz.call82
def xc83:=nx_xcall Tryz.call83
def xc84:=nx_xcall Tryz.call84
def xc85:=nx_xcall Tryz.call85
def xc86:=nx_xcall Tryz.call86
def xc87:=nx_xcall Tryz.call87
def xc88:=nx_xcall Tryz.call88
def xc89:=nx_xcall Tryz.call89
def xc90:=nx_xcall Tryz.call90
def xc91:=nx_xcall Tryz.call91
def xc92:=nx_xcall Tryz.call92
def xc93:=nx_xcall Tryz.call93
def xc94:=nx_xcall Tryz.call94
def xc95:=nx_xcall Tryz.call95
def xc96:=nx_xcall Tryz.call96
def xc97:=nx_xcall Tryz.call97
def xc98:=nx_xcall Tryz.call98
def xc99:=nx_xcall Tryz.call99
def xc100:=nx_xcall Tryz.call100
def xc101:=nx_xcall Tryz.call101
def xc102:=nx_xcall Tryz.call102
def xc103:=nx_xcall Tryz.call103
def xc104:=nx_xcall Tryz.call104
def xc105:=nx_xcall Tryz.call105
def xc107:=nx_xcall Tryz.call107
def xc108:=nx_xcall Tryz.call108
def xc112:=nx_xcall Tryz.call112
def xc113:=nx_xcall Tryz.call113
def xc114:=nx_xcall Tryz.call114
def xc115:=nx_xcall Tryz.call115
def xc116:=nx_xcall Tryz.call116
def xc117:=nx_xcall Tryz.call117
def xc118:=nx_xcall Tryz.call118
def xc119:=nx_xcall Tryz.call119
def xc120:=nx_xcall Tryz.call120
def xc121:=nx_xcall Tryz.call121
def xc122:=nx_xcall Tryz.call122
def xc123:=nx_xcall Tryz.call123
def xc132:=nx_xcall Tryz.call132
def xc133:=nx_xcall Tryz.call133
def xc134:=nx_xcall Tryz.call134
def xc135:=nx_xcall Tryz.call135
def xc136:=nx_xcall Tryz.call136
def xc137:=nx_xcall Tryz.call137
def xc138:=nx_xcall Tryz.call138
def xc139:=nx_xcall Tryz.call139
def xc141:=nx_xcall Tryz.call141
def xc142:=nx_xcall Tryz.call142
def xc143:=nx_xcall Tryz.call143
def xc144:=nx_xcall Tryz.call144
def xc145:=nx_xcall Tryz.call145
def xc146:=nx_xcall Tryz.call146
def xc147:=nx_xcall Tryz.call147
def xc148:=nx_xcall Tryz.call148
def xc149:=nx_xcall Tryz.call149
def xc150:=nx_xcall Tryz.call150
def xc151:=nx_xcall Tryz.call151
def xc155:=nx_xcall Tryz.call155
def xc156:=nx_xcall Tryz.call156
def xc157:=nx_xcall Tryz.call157
def xc158:=nx_xcall Tryz.call158
def xc159:=nx_xcall Tryz.call159
def xc160:=nx_xcall Tryz.call160
def xc161:=nx_xcall Tryz.call161
def xc162:=nx_xcall Tryz.call162
def xc169:=nx_xcall Tryz.call169
def xc170:=nx_xcall Tryz.call170
def xc172:=nx_xcall Tryz.call172
def xc173:=nx_xcall Tryz.call173
def xc174:=nx_xcall Tryz.call174
def xc175:=nx_xcall Tryz.call175
def xc176:=nx_xcall Tryz.call176
def xc177:=nx_xcall Tryz.call177
def xc178:=nx_xcall Tryz.call178
def xc179:=nx_xcall Tryz.call179
def xc181:=nx_xcall Tryz.call181
def xc182:=nx_xcall Tryz.call182
def xc183:=nx_xcall Tryz.call183
def xc184:=nx_xcall Tryz.call184
def xc185:=nx_xcall Tryz.call185
def xc186:=nx_xcall Tryz.call186
def xc190:=nx_xcall Tryz.call190
def xc192:=nx_xcall Tryz.call192
def xc194:=nx_xcall Tryz.call194
def xc195:=nx_xcall Tryz.call195
def xc199:=nx_xcall Tryz.call199
def xc200:=nx_xcall Tryz.call200
def xc201:=nx_xcall Tryz.call201
def xc202:=nx_xcall Tryz.call202
def xc203:=nx_xcall Tryz.call203
def xc204:=nx_xcall Tryz.call204
def xc205:=nx_xcall Tryz.call205
def xc206:=nx_xcall Tryz.call206
def xc207:=nx_xcall Tryz.call207
def xc208:=nx_xcall Tryz.call208
def xc209:=nx_xcall Tryz.call209
def xc233:=nx_xcall Tryz.call233
def xc244:=nx_xcall Tryz.call244
def xc245:=nx_xcall Tryz.call245
end
end Go.Proofs.YtomlgkecckffeaaGreat
-- GT: ld2, tld2, ld3, tld3, ld4, tld4, ld5, tld5, ld9, tld9, ld22, tld22, ld25, tld25, ld26, tld26, ld31, tld31, ld34, tld34, ld38, tld38, ld40, tld40, ld41, tld41, ld43, tld43, ld48, tld48, ld50, tld50, ld52, tld52, ld56, tld56, ld70, tld70, ld89, tld89, ld98, tld98, ld114, tld114, ld115, tld115, ld116, tld116, ld118, tld118, ld135, tld135, ld141, tld141, ld151, tld151, ld158, tld158, ld177, tld177, ld184, tld184, ld187, tld187, ld192, tld192, ld273, tld273, st2, st3, st4, st9, st22, st25, st31, st34, st38, st40, st41, st43, st48, st50, st52, st89, st98, st114, st115, st116, st118, st135, st158, st177, st184, st187, st192, st202, st273, al25, al31, al34, al38, al43, al48, al50, al52, al118, al135, al184, al187, al202, fa25_0, tfa25_0, fa25_1, tfa25_1, fa25_2, tfa25_2, fa25_3, tfa25_3, fa25_4, tfa25_4, fa25_5, tfa25_5, fa25_6, tfa25_6, fa25_7, tfa25_7, fa31_0, tfa31_0, fa31_1, tfa31_1, fa34_0, tfa34_0, fa34_1, tfa34_1, fa34_2, tfa34_2, fa34_3, tfa34_3, fa38_0, tfa38_0, fa38_1, tfa38_1, fa43_0, tfa43_0, fa43_2, tfa43_2, fa43_3, tfa43_3, fa43_5, tfa43_5, fa43_6, tfa43_6, fa43_7, tfa43_7, fa48_0, tfa48_0, fa48_1, tfa48_1, fa50_0, tfa50_0, fa50_1, tfa50_1, fa50_2, tfa50_2, fa50_3, tfa50_3, fa50_4, tfa50_4, fa50_5, tfa50_5, fa50_6, tfa50_6, fa52_0, tfa52_0, fa52_1, tfa52_1, fa52_2, tfa52_2, fa52_3, tfa52_3, fa58_0, tfa58_0, fa70_0, tfa70_0, fa70_1, tfa70_1, fa70_2, tfa70_2, fa70_3, tfa70_3, fa92_0, tfa92_0, fa92_1, tfa92_1, fa92_2, tfa92_2, fa118_0, tfa118_0, fa118_1, tfa118_1, fa118_2, tfa118_2, fa118_3, tfa118_3, fa118_4, tfa118_4, fa118_5, tfa118_5, fa135_0, tfa135_0, fa135_1, tfa135_1, fa153_0, tfa153_0, fa155_0, tfa155_0, fa155_1, tfa155_1, fa179_0, tfa179_0, fa179_1, tfa179_1, fa179_2, tfa179_2, fa184_0, tfa184_0, fa184_1, tfa184_1, fa184_2, tfa184_2, fa184_3, tfa184_3, fa184_4, tfa184_4, fa187_0, tfa187_0, fa187_1, tfa187_1, fa194_0, tfa194_0, fa194_1, tfa194_1, fa194_2, tfa194_2, fa212_0, tfa212_0, fd34_1, tfd34_1, fd34_3, tfd34_3, fd43_2, tfd43_2, fd43_3, tfd43_3, fd43_5, tfd43_5, fd43_7, tfd43_7, bd25, tbd25, bd31, tbd31, bd34, tbd34, bd38, tbd38, bd43, tbd43, bd48, tbd48, bd52, tbd52, bd92, tbd92, bd118, tbd118, bd135, tbd135, bd153, tbd153, bd179, tbd179, bd184, tbd184, bd187, tbd187, bd194, tbd194, bd212, tbd212, ia22, tia22, ia40, tia40, ia41, tia41, ia46, tia46, ia56, tia56, ia63, tia63, ia67, tia67, ia95, tia95, ia98, tia98, ia151, tia151, ia158, tia158, eq4, teq4, ne4, tne4, eq22, eq26, teq26, ne26, tne26, eq41, eq81, teq81, ne81, tne81, eq89, teq89, ne89, tne89, eq98, eq114, teq114, ne114, tne114, eq115, teq115, ne115, tne115, eq116, teq116, ne116, tne116, eq177, eq192, eq31, teq31, ne31, tne31, eq48, teq48, ne48, tne48, eq52, teq52, ne52, tne52, len9, tlen9, len22, tlen22, len40, tlen40, len41, tlen41, len46, tlen46, len56, tlen56, len63, tlen63, len67, tlen67, len95, tlen95, len98, tlen98, len151, tlen151, len158, tlen158, lk177, tlk177, lkk177, tlkk177, lkn177, mu177, mk177, ml177, tml177, mc177, md177, lk192, tlk192, lkk192, tlkk192, lkn192, mu192, mk192, md192, cv3_5, tcv3_5, cv3_246, tcv3_246, cv5_3, tcv5_3, cv77_2, tcv77_2, cv246_3, tcv246_3, bs22_0, bs22_1, bs40_1, bs41_0, bs41_1, bs63_1, bs63_2, bs95_1, bs98_0, bs158_1, bs199_1, xc14, xc15, xc16, xc17, xc18, xc19, xc20, xc21, xc22, xc23, xc24, xc25, xc26, xc27, xc28, xc29, xc30, xc31, xc32, xc33, xc34, xc35, xc36, xc37, xc38, xc39, xc40, xc41, xc42, xc43, xc44, xc47, xc48, xc49, xc50, xc61, xc62, xc63, xc64, xc65, xc66, xc67, xc68, xc69, xc70, xc77, xc78, xc80, xc81, xc82, xc83, xc84, xc85, xc86, xc87, xc88, xc89, xc90, xc91, xc92, xc93, xc94, xc95, xc96, xc97, xc98, xc99, xc100, xc101, xc102, xc103, xc104, xc105, xc107, xc108, xc112, xc113, xc114, xc115, xc116, xc117, xc118, xc119, xc120, xc121, xc122, xc123, xc132, xc133, xc134, xc135, xc136, xc137, xc138, xc139, xc141, xc142, xc143, xc144, xc145, xc146, xc147, xc148, xc149, xc150, xc151, xc155, xc156, xc157, xc158, xc159, xc160, xc161, xc162, xc169, xc170, xc172, xc173, xc174, xc175, xc176, xc177, xc178, xc179, xc181, xc182, xc183, xc184, xc185, xc186, xc190, xc192, xc194, xc195, xc199, xc200, xc201, xc202, xc203, xc204, xc205, xc206, xc207, xc208, xc209, xc233, xc244, xc245
