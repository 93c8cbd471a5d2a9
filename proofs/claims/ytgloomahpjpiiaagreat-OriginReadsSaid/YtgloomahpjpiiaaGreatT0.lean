/- Type facts, written by the printer gent.py. -/
import Derived.Test.YtgloomahpjpiiaaGreatG0
import Derived.Test.YtgloomahpjpiiaaGreatC8
set_option linter.unusedVariables false
set_option linter.unusedSimpArgs false
namespace Go.Proofs.YtgloomahpjpiiaaGreat
open Go.VW
noncomputable section
set_option linter.defProp false
variable {N : List Nat} {M : Option (List Nat)} {w0 : World} (b i f len cap : Nat) (hb : b ∉ N) (r : Nat) (hr : r ∉ N) (parts : List (Nat × Value)) (ty : TypeId) (cs : Array Bool) (s : ByteArray) (x y : Operand) (K2 : Value → Prop) (n : Int) (v : Value) (w : World) (K : Value → World → Prop)
def ld2:=run_loadAt1 Tryz.isAgg2 b i w K
def tld2:=takeP_ld (N:=N) (w0:=w0) (ld2 b i) hb K2
def ld3:=run_loadAt1 Tryz.isAgg3 b i w K
def tld3:=takeP_ld (N:=N) (w0:=w0) (ld3 b i) hb K2
def ld4:=run_loadAt1 Tryz.isAgg4 b i w K
def tld4:=takeP_ld (N:=N) (w0:=w0) (ld4 b i) hb K2
def ld9:=run_loadAt1 Tryz.isAgg9 b i w K
def tld9:=takeP_ld (N:=N) (w0:=w0) (ld9 b i) hb K2
def ld23:=run_loadAtN Tryz.isAgg23 Tryz.sizeOf23 b i w K
def tld23:=takeP_ldn (N:=N) (w0:=w0) (ld23 b i) hb K2
def ld33:=run_loadAtN Tryz.isAgg33 Tryz.sizeOf33 b i w K
def tld33:=takeP_ldn (N:=N) (w0:=w0) (ld33 b i) hb K2
def ld35:=run_loadAtN Tryz.isAgg35 Tryz.sizeOf35 b i w K
def tld35:=takeP_ldn (N:=N) (w0:=w0) (ld35 b i) hb K2
def ld36:=run_loadAt1 Tryz.isAgg36 b i w K
def tld36:=takeP_ld (N:=N) (w0:=w0) (ld36 b i) hb K2
def ld37:=run_loadAt1 Tryz.isAgg37 b i w K
def tld37:=takeP_ld (N:=N) (w0:=w0) (ld37 b i) hb K2
def ld38:=run_loadAt1 Tryz.isAgg38 b i w K
def tld38:=takeP_ld (N:=N) (w0:=w0) (ld38 b i) hb K2
def ld40:=run_loadAtN Tryz.isAgg40 Tryz.sizeOf40 b i w K
def tld40:=takeP_ldn (N:=N) (w0:=w0) (ld40 b i) hb K2
def ld42:=run_loadAt1 Tryz.isAgg42 b i w K
def tld42:=takeP_ld (N:=N) (w0:=w0) (ld42 b i) hb K2
def ld44:=run_loadAtN Tryz.isAgg44 Tryz.sizeOf44 b i w K
def tld44:=takeP_ldn (N:=N) (w0:=w0) (ld44 b i) hb K2
def ld45:=run_loadAt1 Tryz.isAgg45 b i w K
def tld45:=takeP_ld (N:=N) (w0:=w0) (ld45 b i) hb K2
def ld49:=run_loadAtN Tryz.isAgg49 Tryz.sizeOf49 b i w K
def tld49:=takeP_ldn (N:=N) (w0:=w0) (ld49 b i) hb K2
def ld57:=run_loadAtN Tryz.isAgg57 Tryz.sizeOf57 b i w K
def tld57:=takeP_ldn (N:=N) (w0:=w0) (ld57 b i) hb K2
def ld66:=run_loadAtN Tryz.isAgg66 Tryz.sizeOf66 b i w K
def tld66:=takeP_ldn (N:=N) (w0:=w0) (ld66 b i) hb K2
def ld74:=run_loadAt1 Tryz.isAgg74 b i w K
def tld74:=takeP_ld (N:=N) (w0:=w0) (ld74 b i) hb K2
def ld76:=run_loadAt1 Tryz.isAgg76 b i w K
def tld76:=takeP_ld (N:=N) (w0:=w0) (ld76 b i) hb K2
def ld78:=run_loadAt1 Tryz.isAgg78 b i w K
def tld78:=takeP_ld (N:=N) (w0:=w0) (ld78 b i) hb K2
def ld86:=run_loadAtN Tryz.isAgg86 Tryz.sizeOf86 b i w K
def tld86:=takeP_ldn (N:=N) (w0:=w0) (ld86 b i) hb K2
def ld91:=run_loadAt1 Tryz.isAgg91 b i w K
def tld91:=takeP_ld (N:=N) (w0:=w0) (ld91 b i) hb K2
def ld99:=run_loadAtN Tryz.isAgg99 Tryz.sizeOf99 b i w K
def tld99:=takeP_ldn (N:=N) (w0:=w0) (ld99 b i) hb K2
def ld101:=run_loadAt1 Tryz.isAgg101 b i w K
def tld101:=takeP_ld (N:=N) (w0:=w0) (ld101 b i) hb K2
def ld104:=run_loadAt1 Tryz.isAgg104 b i w K
def tld104:=takeP_ld (N:=N) (w0:=w0) (ld104 b i) hb K2
def st2:=run_storeAt Tryz.sizeOf2 (by decide) b i v w K
def st3:=run_storeAt Tryz.sizeOf3 (by decide) b i v w K
def st4:=run_storeAt Tryz.sizeOf4 (by decide) b i v w K
def st9:=run_storeAt Tryz.sizeOf9 (by decide) b i v w K
def st23:=run_storeAt Tryz.sizeOf23 (by decide) b i v w K
def st33:=run_storeAt Tryz.sizeOf33 (by decide) b i v w K
def st35:=run_storeAt Tryz.sizeOf35 (by decide) b i v w K
def st36:=run_storeAt Tryz.sizeOf36 (by decide) b i v w K
def st37:=run_storeAt Tryz.sizeOf37 (by decide) b i v w K
def st38:=run_storeAt Tryz.sizeOf38 (by decide) b i v w K
def st40:=run_storeAt Tryz.sizeOf40 (by decide) b i v w K
def st42:=run_storeAt Tryz.sizeOf42 (by decide) b i v w K
def st45:=run_storeAt Tryz.sizeOf45 (by decide) b i v w K
def st49:=run_storeAt Tryz.sizeOf49 (by decide) b i v w K
def st57:=run_storeAt Tryz.sizeOf57 (by decide) b i v w K
def st66:=run_storeAt Tryz.sizeOf66 (by decide) b i v w K
def st86:=run_storeAt Tryz.sizeOf86 (by decide) b i v w K
def st91:=run_storeAt Tryz.sizeOf91 (by decide) b i v w K
def st99:=run_storeAt Tryz.sizeOf99 (by decide) b i v w K
def st104:=run_storeAt Tryz.sizeOf104 (by decide) b i v w K
def st128:=run_storeAt Tryz.sizeOf128 (by decide) b i v w K
theorem al23 (x : Value) (w : World) : (Instr.alloc 23 true x).run Tryz.prog w = .ok (.pointer (some ⟨w.heap.size, 0, none⟩)) (w.alloc (.cells ([(.int .i64 0), (.int .i64 0), (.int .i64 0), (.int .i64 0), (.int .i64 0), (.int .i64 0), (.int .i64 0), (.int .i64 0)] : List Value).toArray 23)) := run_alloc Tryz.zeroValue23 x w
theorem al40 (x : Value) (w : World) : (Instr.alloc 40 true x).run Tryz.prog w = .ok (.pointer (some ⟨w.heap.size, 0, none⟩)) (w.alloc (.cells ([(.int .i64 0), (.int .i64 0), (.int .i64 0), (.int .i64 0), (.int .i64 0), (.int .i64 0), (.string ⟨#[]⟩), (.int .i64 0), (.int .i64 0), (.bool false), (.string ⟨#[]⟩), (.bool false), (.int .i64 0), (.int .i64 0), (.slice none 0 0), (.slice none 0 0)] : List Value).toArray 40)) := run_alloc Tryz.zeroValue40 x w
theorem al49 (x : Value) (w : World) : (Instr.alloc 49 true x).run Tryz.prog w = .ok (.pointer (some ⟨w.heap.size, 0, none⟩)) (w.alloc (.cells ([(.int .i64 0), (.int .i64 0), (.int .i64 0)] : List Value).toArray 49)) := run_alloc Tryz.zeroValue49 x w
theorem al57 (x : Value) (w : World) : (Instr.alloc 57 true x).run Tryz.prog w = .ok (.pointer (some ⟨w.heap.size, 0, none⟩)) (w.alloc (.cells ([(.string ⟨#[]⟩), (.bool false), (.string ⟨#[]⟩), (.int .i64 0), (.int .i64 0)] : List Value).toArray 57)) := run_alloc Tryz.zeroValue57 x w
theorem al66 (x : Value) (w : World) : (Instr.alloc 66 true x).run Tryz.prog w = .ok (.pointer (some ⟨w.heap.size, 0, none⟩)) (w.alloc (.cells ([(.string ⟨#[]⟩), (.bool false), (.string ⟨#[]⟩)] : List Value).toArray 66)) := run_alloc Tryz.zeroValue66 x w
theorem al86 (x : Value) (w : World) : (Instr.alloc 86 true x).run Tryz.prog w = .ok (.pointer (some ⟨w.heap.size, 0, none⟩)) (w.alloc (.cells ([(.int .i64 0), (.slice none 0 0)] : List Value).toArray 86)) := run_alloc Tryz.zeroValue86 x w
theorem al91 (x : Value) (w : World) : (Instr.alloc 91 true x).run Tryz.prog w = .ok (.pointer (some ⟨w.heap.size, 0, none⟩)) (w.alloc (.cells ([(.slice none 0 0)] : List Value).toArray 91)) := run_alloc Tryz.zeroValue91 x w
theorem al99 (x : Value) (w : World) : (Instr.alloc 99 true x).run Tryz.prog w = .ok (.pointer (some ⟨w.heap.size, 0, none⟩)) (w.alloc (.cells ([(.int .i64 0), (.int .i64 0), (.int .i64 0)] : List Value).toArray 99)) := run_alloc Tryz.zeroValue99 x w
theorem al128 (x : Value) (w : World) : (Instr.alloc 128 true x).run Tryz.prog w = .ok (.pointer (some ⟨w.heap.size, 0, none⟩)) (w.alloc (.cells ([(.slice none 0 0), (.bool false)] : List Value).toArray 128)) := run_alloc Tryz.zeroValue128 x w
theorem fa23_0 (b i : Nat) (w : World) : (Instr.fieldAt 23 (.pointer (some ⟨b, i, none⟩)) 0).run Tryz.prog w = .ok (.pointer (some ⟨b, i, none⟩)) w := run_fieldAt Tryz.runUnderlying23 (j := 0) rfl Tryz.sizeOf3 (by decide) b i w
def tfa23_0:=takeP_xv (M:=M) (w0:=w0) (fa23_0 b i) K2
theorem fa23_1 (b i : Nat) (w : World) : (Instr.fieldAt 23 (.pointer (some ⟨b, i, none⟩)) 1).run Tryz.prog w = .ok (.pointer (some ⟨b, i + 1, none⟩)) w := run_fieldAt Tryz.runUnderlying23 (j := 1) rfl Tryz.sizeOf3 (by decide) b i w
def tfa23_1:=takeP_xv (M:=M) (w0:=w0) (fa23_1 b i) K2
theorem fa23_2 (b i : Nat) (w : World) : (Instr.fieldAt 23 (.pointer (some ⟨b, i, none⟩)) 2).run Tryz.prog w = .ok (.pointer (some ⟨b, i + 2, none⟩)) w := run_fieldAt Tryz.runUnderlying23 (j := 2) rfl Tryz.sizeOf3 (by decide) b i w
def tfa23_2:=takeP_xv (M:=M) (w0:=w0) (fa23_2 b i) K2
theorem fa23_3 (b i : Nat) (w : World) : (Instr.fieldAt 23 (.pointer (some ⟨b, i, none⟩)) 3).run Tryz.prog w = .ok (.pointer (some ⟨b, i + 3, none⟩)) w := run_fieldAt Tryz.runUnderlying23 (j := 3) rfl Tryz.sizeOf3 (by decide) b i w
def tfa23_3:=takeP_xv (M:=M) (w0:=w0) (fa23_3 b i) K2
theorem fa23_4 (b i : Nat) (w : World) : (Instr.fieldAt 23 (.pointer (some ⟨b, i, none⟩)) 4).run Tryz.prog w = .ok (.pointer (some ⟨b, i + 4, none⟩)) w := run_fieldAt Tryz.runUnderlying23 (j := 4) rfl Tryz.sizeOf3 (by decide) b i w
def tfa23_4:=takeP_xv (M:=M) (w0:=w0) (fa23_4 b i) K2
theorem fa23_5 (b i : Nat) (w : World) : (Instr.fieldAt 23 (.pointer (some ⟨b, i, none⟩)) 5).run Tryz.prog w = .ok (.pointer (some ⟨b, i + 5, none⟩)) w := run_fieldAt Tryz.runUnderlying23 (j := 5) rfl Tryz.sizeOf3 (by decide) b i w
def tfa23_5:=takeP_xv (M:=M) (w0:=w0) (fa23_5 b i) K2
theorem fa23_6 (b i : Nat) (w : World) : (Instr.fieldAt 23 (.pointer (some ⟨b, i, none⟩)) 6).run Tryz.prog w = .ok (.pointer (some ⟨b, i + 6, none⟩)) w := run_fieldAt Tryz.runUnderlying23 (j := 6) rfl Tryz.sizeOf3 (by decide) b i w
def tfa23_6:=takeP_xv (M:=M) (w0:=w0) (fa23_6 b i) K2
theorem fa23_7 (b i : Nat) (w : World) : (Instr.fieldAt 23 (.pointer (some ⟨b, i, none⟩)) 7).run Tryz.prog w = .ok (.pointer (some ⟨b, i + 7, none⟩)) w := run_fieldAt Tryz.runUnderlying23 (j := 7) rfl Tryz.sizeOf3 (by decide) b i w
def tfa23_7:=takeP_xv (M:=M) (w0:=w0) (fa23_7 b i) K2
theorem fa33_0 (b i : Nat) (w : World) : (Instr.fieldAt 33 (.pointer (some ⟨b, i, none⟩)) 0).run Tryz.prog w = .ok (.pointer (some ⟨b, i, none⟩)) w := run_fieldAt Tryz.runUnderlying33 (j := 0) rfl Tryz.sizeOf2 (by decide) b i w
def tfa33_0:=takeP_xv (M:=M) (w0:=w0) (fa33_0 b i) K2
theorem fa33_1 (b i : Nat) (w : World) : (Instr.fieldAt 33 (.pointer (some ⟨b, i, none⟩)) 1).run Tryz.prog w = .ok (.pointer (some ⟨b, i + 1, none⟩)) w := run_fieldAt Tryz.runUnderlying33 (j := 1) rfl Tryz.sizeOf2 (by decide) b i w
def tfa33_1:=takeP_xv (M:=M) (w0:=w0) (fa33_1 b i) K2
theorem fa35_0 (b i : Nat) (w : World) : (Instr.fieldAt 35 (.pointer (some ⟨b, i, none⟩)) 0).run Tryz.prog w = .ok (.pointer (some ⟨b, i, none⟩)) w := run_fieldAt Tryz.runUnderlying35 (j := 0) rfl Tryz.sizeOf4 (by decide) b i w
def tfa35_0:=takeP_xv (M:=M) (w0:=w0) (fa35_0 b i) K2
theorem fa35_1 (b i : Nat) (w : World) : (Instr.fieldAt 35 (.pointer (some ⟨b, i, none⟩)) 1).run Tryz.prog w = .ok (.pointer (some ⟨b, i + 1, none⟩)) w := run_fieldAt Tryz.runUnderlying35 (j := 1) rfl Tryz.sizeOf9 (by decide) b i w
def tfa35_1:=takeP_xv (M:=M) (w0:=w0) (fa35_1 b i) K2
theorem fa40_0 (b i : Nat) (w : World) : (Instr.fieldAt 40 (.pointer (some ⟨b, i, none⟩)) 0).run Tryz.prog w = .ok (.pointer (some ⟨b, i, none⟩)) w := run_fieldAt Tryz.runUnderlying40 (j := 0) rfl Tryz.sizeOf3 (by decide) b i w
def tfa40_0:=takeP_xv (M:=M) (w0:=w0) (fa40_0 b i) K2
theorem fa40_1 (b i : Nat) (w : World) : (Instr.fieldAt 40 (.pointer (some ⟨b, i, none⟩)) 1).run Tryz.prog w = .ok (.pointer (some ⟨b, i + 1, none⟩)) w := run_fieldAt Tryz.runUnderlying40 (j := 1) rfl Tryz.sizeOf3 (by decide) b i w
def tfa40_1:=takeP_xv (M:=M) (w0:=w0) (fa40_1 b i) K2
theorem fa40_2 (b i : Nat) (w : World) : (Instr.fieldAt 40 (.pointer (some ⟨b, i, none⟩)) 2).run Tryz.prog w = .ok (.pointer (some ⟨b, i + 2, none⟩)) w := run_fieldAt Tryz.runUnderlying40 (j := 2) rfl Tryz.sizeOf3 (by decide) b i w
def tfa40_2:=takeP_xv (M:=M) (w0:=w0) (fa40_2 b i) K2
theorem fa40_3 (b i : Nat) (w : World) : (Instr.fieldAt 40 (.pointer (some ⟨b, i, none⟩)) 3).run Tryz.prog w = .ok (.pointer (some ⟨b, i + 3, none⟩)) w := run_fieldAt Tryz.runUnderlying40 (j := 3) rfl Tryz.sizeOf3 (by decide) b i w
def tfa40_3:=takeP_xv (M:=M) (w0:=w0) (fa40_3 b i) K2
theorem fa40_4 (b i : Nat) (w : World) : (Instr.fieldAt 40 (.pointer (some ⟨b, i, none⟩)) 4).run Tryz.prog w = .ok (.pointer (some ⟨b, i + 4, none⟩)) w := run_fieldAt Tryz.runUnderlying40 (j := 4) rfl Tryz.sizeOf3 (by decide) b i w
def tfa40_4:=takeP_xv (M:=M) (w0:=w0) (fa40_4 b i) K2
theorem fa40_5 (b i : Nat) (w : World) : (Instr.fieldAt 40 (.pointer (some ⟨b, i, none⟩)) 5).run Tryz.prog w = .ok (.pointer (some ⟨b, i + 5, none⟩)) w := run_fieldAt Tryz.runUnderlying40 (j := 5) rfl Tryz.sizeOf3 (by decide) b i w
def tfa40_5:=takeP_xv (M:=M) (w0:=w0) (fa40_5 b i) K2
theorem fa40_6 (b i : Nat) (w : World) : (Instr.fieldAt 40 (.pointer (some ⟨b, i, none⟩)) 6).run Tryz.prog w = .ok (.pointer (some ⟨b, i + 6, none⟩)) w := run_fieldAt Tryz.runUnderlying40 (j := 6) rfl Tryz.sizeOf9 (by decide) b i w
def tfa40_6:=takeP_xv (M:=M) (w0:=w0) (fa40_6 b i) K2
theorem fa40_7 (b i : Nat) (w : World) : (Instr.fieldAt 40 (.pointer (some ⟨b, i, none⟩)) 7).run Tryz.prog w = .ok (.pointer (some ⟨b, i + 7, none⟩)) w := run_fieldAt Tryz.runUnderlying40 (j := 7) rfl Tryz.sizeOf33 (by decide) b i w
def tfa40_7:=takeP_xv (M:=M) (w0:=w0) (fa40_7 b i) K2
theorem fa40_8 (b i : Nat) (w : World) : (Instr.fieldAt 40 (.pointer (some ⟨b, i, none⟩)) 8).run Tryz.prog w = .ok (.pointer (some ⟨b, i + 9, none⟩)) w := run_fieldAt Tryz.runUnderlying40 (j := 8) rfl Tryz.sizeOf35 (by decide) b i w
def tfa40_8:=takeP_xv (M:=M) (w0:=w0) (fa40_8 b i) K2
theorem fa40_9 (b i : Nat) (w : World) : (Instr.fieldAt 40 (.pointer (some ⟨b, i, none⟩)) 9).run Tryz.prog w = .ok (.pointer (some ⟨b, i + 11, none⟩)) w := run_fieldAt Tryz.runUnderlying40 (j := 9) rfl Tryz.sizeOf4 (by decide) b i w
def tfa40_9:=takeP_xv (M:=M) (w0:=w0) (fa40_9 b i) K2
theorem fa40_10 (b i : Nat) (w : World) : (Instr.fieldAt 40 (.pointer (some ⟨b, i, none⟩)) 10).run Tryz.prog w = .ok (.pointer (some ⟨b, i + 12, none⟩)) w := run_fieldAt Tryz.runUnderlying40 (j := 10) rfl Tryz.sizeOf36 (by decide) b i w
def tfa40_10:=takeP_xv (M:=M) (w0:=w0) (fa40_10 b i) K2
theorem fa40_11 (b i : Nat) (w : World) : (Instr.fieldAt 40 (.pointer (some ⟨b, i, none⟩)) 11).run Tryz.prog w = .ok (.pointer (some ⟨b, i + 13, none⟩)) w := run_fieldAt Tryz.runUnderlying40 (j := 11) rfl Tryz.sizeOf2 (by decide) b i w
def tfa40_11:=takeP_xv (M:=M) (w0:=w0) (fa40_11 b i) K2
theorem fa40_12 (b i : Nat) (w : World) : (Instr.fieldAt 40 (.pointer (some ⟨b, i, none⟩)) 12).run Tryz.prog w = .ok (.pointer (some ⟨b, i + 14, none⟩)) w := run_fieldAt Tryz.runUnderlying40 (j := 12) rfl Tryz.sizeOf37 (by decide) b i w
def tfa40_12:=takeP_xv (M:=M) (w0:=w0) (fa40_12 b i) K2
theorem fa40_13 (b i : Nat) (w : World) : (Instr.fieldAt 40 (.pointer (some ⟨b, i, none⟩)) 13).run Tryz.prog w = .ok (.pointer (some ⟨b, i + 15, none⟩)) w := run_fieldAt Tryz.runUnderlying40 (j := 13) rfl Tryz.sizeOf38 (by decide) b i w
def tfa40_13:=takeP_xv (M:=M) (w0:=w0) (fa40_13 b i) K2
theorem fa44_0 (b i : Nat) (w : World) : (Instr.fieldAt 44 (.pointer (some ⟨b, i, none⟩)) 0).run Tryz.prog w = .ok (.pointer (some ⟨b, i, none⟩)) w := run_fieldAt Tryz.runUnderlying44 (j := 0) rfl Tryz.sizeOf42 (by decide) b i w
def tfa44_0:=takeP_xv (M:=M) (w0:=w0) (fa44_0 b i) K2
theorem fa44_1 (b i : Nat) (w : World) : (Instr.fieldAt 44 (.pointer (some ⟨b, i, none⟩)) 1).run Tryz.prog w = .ok (.pointer (some ⟨b, i + 1, none⟩)) w := run_fieldAt Tryz.runUnderlying44 (j := 1) rfl Tryz.sizeOf3 (by decide) b i w
def tfa44_1:=takeP_xv (M:=M) (w0:=w0) (fa44_1 b i) K2
theorem fa44_2 (b i : Nat) (w : World) : (Instr.fieldAt 44 (.pointer (some ⟨b, i, none⟩)) 2).run Tryz.prog w = .ok (.pointer (some ⟨b, i + 2, none⟩)) w := run_fieldAt Tryz.runUnderlying44 (j := 2) rfl Tryz.sizeOf2 (by decide) b i w
def tfa44_2:=takeP_xv (M:=M) (w0:=w0) (fa44_2 b i) K2
theorem fa47_0 (b i : Nat) (w : World) : (Instr.fieldAt 47 (.pointer (some ⟨b, i, none⟩)) 0).run Tryz.prog w = .ok (.pointer (some ⟨b, i, none⟩)) w := run_fieldAt Tryz.runUnderlying47 (j := 0) rfl Tryz.sizeOf45 (by decide) b i w
def tfa47_0:=takeP_xv (M:=M) (w0:=w0) (fa47_0 b i) K2
theorem fa49_0 (b i : Nat) (w : World) : (Instr.fieldAt 49 (.pointer (some ⟨b, i, none⟩)) 0).run Tryz.prog w = .ok (.pointer (some ⟨b, i, none⟩)) w := run_fieldAt Tryz.runUnderlying49 (j := 0) rfl Tryz.sizeOf3 (by decide) b i w
def tfa49_0:=takeP_xv (M:=M) (w0:=w0) (fa49_0 b i) K2
theorem fa49_1 (b i : Nat) (w : World) : (Instr.fieldAt 49 (.pointer (some ⟨b, i, none⟩)) 1).run Tryz.prog w = .ok (.pointer (some ⟨b, i + 1, none⟩)) w := run_fieldAt Tryz.runUnderlying49 (j := 1) rfl Tryz.sizeOf2 (by decide) b i w
def tfa49_1:=takeP_xv (M:=M) (w0:=w0) (fa49_1 b i) K2
theorem fa49_2 (b i : Nat) (w : World) : (Instr.fieldAt 49 (.pointer (some ⟨b, i, none⟩)) 2).run Tryz.prog w = .ok (.pointer (some ⟨b, i + 2, none⟩)) w := run_fieldAt Tryz.runUnderlying49 (j := 2) rfl Tryz.sizeOf3 (by decide) b i w
def tfa49_2:=takeP_xv (M:=M) (w0:=w0) (fa49_2 b i) K2
theorem fa52_0 (b i : Nat) (w : World) : (Instr.fieldAt 52 (.pointer (some ⟨b, i, none⟩)) 0).run Tryz.prog w = .ok (.pointer (some ⟨b, i, none⟩)) w := run_fieldAt Tryz.runUnderlying52 (j := 0) rfl Tryz.sizeOf23 (by decide) b i w
def tfa52_0:=takeP_xv (M:=M) (w0:=w0) (fa52_0 b i) K2
theorem fa52_1 (b i : Nat) (w : World) : (Instr.fieldAt 52 (.pointer (some ⟨b, i, none⟩)) 1).run Tryz.prog w = .ok (.pointer (some ⟨b, i + 8, none⟩)) w := run_fieldAt Tryz.runUnderlying52 (j := 1) rfl Tryz.sizeOf44 (by decide) b i w
def tfa52_1:=takeP_xv (M:=M) (w0:=w0) (fa52_1 b i) K2
theorem fa52_2 (b i : Nat) (w : World) : (Instr.fieldAt 52 (.pointer (some ⟨b, i, none⟩)) 2).run Tryz.prog w = .ok (.pointer (some ⟨b, i + 11, none⟩)) w := run_fieldAt Tryz.runUnderlying52 (j := 2) rfl Tryz.sizeOf47 (by decide) b i w
def tfa52_2:=takeP_xv (M:=M) (w0:=w0) (fa52_2 b i) K2
theorem fa52_3 (b i : Nat) (w : World) : (Instr.fieldAt 52 (.pointer (some ⟨b, i, none⟩)) 3).run Tryz.prog w = .ok (.pointer (some ⟨b, i + 12, none⟩)) w := run_fieldAt Tryz.runUnderlying52 (j := 3) rfl Tryz.sizeOf50 (by decide) b i w
def tfa52_3:=takeP_xv (M:=M) (w0:=w0) (fa52_3 b i) K2
theorem fa57_0 (b i : Nat) (w : World) : (Instr.fieldAt 57 (.pointer (some ⟨b, i, none⟩)) 0).run Tryz.prog w = .ok (.pointer (some ⟨b, i, none⟩)) w := run_fieldAt Tryz.runUnderlying57 (j := 0) rfl Tryz.sizeOf9 (by decide) b i w
def tfa57_0:=takeP_xv (M:=M) (w0:=w0) (fa57_0 b i) K2
theorem fa57_1 (b i : Nat) (w : World) : (Instr.fieldAt 57 (.pointer (some ⟨b, i, none⟩)) 1).run Tryz.prog w = .ok (.pointer (some ⟨b, i + 1, none⟩)) w := run_fieldAt Tryz.runUnderlying57 (j := 1) rfl Tryz.sizeOf35 (by decide) b i w
def tfa57_1:=takeP_xv (M:=M) (w0:=w0) (fa57_1 b i) K2
theorem fa57_2 (b i : Nat) (w : World) : (Instr.fieldAt 57 (.pointer (some ⟨b, i, none⟩)) 2).run Tryz.prog w = .ok (.pointer (some ⟨b, i + 3, none⟩)) w := run_fieldAt Tryz.runUnderlying57 (j := 2) rfl Tryz.sizeOf2 (by decide) b i w
def tfa57_2:=takeP_xv (M:=M) (w0:=w0) (fa57_2 b i) K2
theorem fa57_3 (b i : Nat) (w : World) : (Instr.fieldAt 57 (.pointer (some ⟨b, i, none⟩)) 3).run Tryz.prog w = .ok (.pointer (some ⟨b, i + 4, none⟩)) w := run_fieldAt Tryz.runUnderlying57 (j := 3) rfl Tryz.sizeOf2 (by decide) b i w
def tfa57_3:=takeP_xv (M:=M) (w0:=w0) (fa57_3 b i) K2
theorem fa66_0 (b i : Nat) (w : World) : (Instr.fieldAt 66 (.pointer (some ⟨b, i, none⟩)) 0).run Tryz.prog w = .ok (.pointer (some ⟨b, i, none⟩)) w := run_fieldAt Tryz.runUnderlying66 (j := 0) rfl Tryz.sizeOf9 (by decide) b i w
def tfa66_0:=takeP_xv (M:=M) (w0:=w0) (fa66_0 b i) K2
theorem fa66_1 (b i : Nat) (w : World) : (Instr.fieldAt 66 (.pointer (some ⟨b, i, none⟩)) 1).run Tryz.prog w = .ok (.pointer (some ⟨b, i + 1, none⟩)) w := run_fieldAt Tryz.runUnderlying66 (j := 1) rfl Tryz.sizeOf35 (by decide) b i w
def tfa66_1:=takeP_xv (M:=M) (w0:=w0) (fa66_1 b i) K2
theorem fa80_0 (b i : Nat) (w : World) : (Instr.fieldAt 80 (.pointer (some ⟨b, i, none⟩)) 0).run Tryz.prog w = .ok (.pointer (some ⟨b, i, none⟩)) w := run_fieldAt Tryz.runUnderlying80 (j := 0) rfl Tryz.sizeOf23 (by decide) b i w
def tfa80_0:=takeP_xv (M:=M) (w0:=w0) (fa80_0 b i) K2
theorem fa80_1 (b i : Nat) (w : World) : (Instr.fieldAt 80 (.pointer (some ⟨b, i, none⟩)) 1).run Tryz.prog w = .ok (.pointer (some ⟨b, i + 8, none⟩)) w := run_fieldAt Tryz.runUnderlying80 (j := 1) rfl Tryz.sizeOf74 (by decide) b i w
def tfa80_1:=takeP_xv (M:=M) (w0:=w0) (fa80_1 b i) K2
theorem fa80_2 (b i : Nat) (w : World) : (Instr.fieldAt 80 (.pointer (some ⟨b, i, none⟩)) 2).run Tryz.prog w = .ok (.pointer (some ⟨b, i + 9, none⟩)) w := run_fieldAt Tryz.runUnderlying80 (j := 2) rfl Tryz.sizeOf76 (by decide) b i w
def tfa80_2:=takeP_xv (M:=M) (w0:=w0) (fa80_2 b i) K2
theorem fa80_3 (b i : Nat) (w : World) : (Instr.fieldAt 80 (.pointer (some ⟨b, i, none⟩)) 3).run Tryz.prog w = .ok (.pointer (some ⟨b, i + 10, none⟩)) w := run_fieldAt Tryz.runUnderlying80 (j := 3) rfl Tryz.sizeOf78 (by decide) b i w
def tfa80_3:=takeP_xv (M:=M) (w0:=w0) (fa80_3 b i) K2
theorem fa86_0 (b i : Nat) (w : World) : (Instr.fieldAt 86 (.pointer (some ⟨b, i, none⟩)) 0).run Tryz.prog w = .ok (.pointer (some ⟨b, i, none⟩)) w := run_fieldAt Tryz.runUnderlying86 (j := 0) rfl Tryz.sizeOf2 (by decide) b i w
def tfa86_0:=takeP_xv (M:=M) (w0:=w0) (fa86_0 b i) K2
theorem fa86_1 (b i : Nat) (w : World) : (Instr.fieldAt 86 (.pointer (some ⟨b, i, none⟩)) 1).run Tryz.prog w = .ok (.pointer (some ⟨b, i + 1, none⟩)) w := run_fieldAt Tryz.runUnderlying86 (j := 1) rfl Tryz.sizeOf38 (by decide) b i w
def tfa86_1:=takeP_xv (M:=M) (w0:=w0) (fa86_1 b i) K2
theorem fa94_0 (b i : Nat) (w : World) : (Instr.fieldAt 94 (.pointer (some ⟨b, i, none⟩)) 0).run Tryz.prog w = .ok (.pointer (some ⟨b, i, none⟩)) w := run_fieldAt Tryz.runUnderlying94 (j := 0) rfl Tryz.sizeOf2 (by decide) b i w
def tfa94_0:=takeP_xv (M:=M) (w0:=w0) (fa94_0 b i) K2
theorem fa94_1 (b i : Nat) (w : World) : (Instr.fieldAt 94 (.pointer (some ⟨b, i, none⟩)) 1).run Tryz.prog w = .ok (.pointer (some ⟨b, i + 1, none⟩)) w := run_fieldAt Tryz.runUnderlying94 (j := 1) rfl Tryz.sizeOf35 (by decide) b i w
def tfa94_1:=takeP_xv (M:=M) (w0:=w0) (fa94_1 b i) K2
theorem fa99_0 (b i : Nat) (w : World) : (Instr.fieldAt 99 (.pointer (some ⟨b, i, none⟩)) 0).run Tryz.prog w = .ok (.pointer (some ⟨b, i, none⟩)) w := run_fieldAt Tryz.runUnderlying99 (j := 0) rfl Tryz.sizeOf3 (by decide) b i w
def tfa99_0:=takeP_xv (M:=M) (w0:=w0) (fa99_0 b i) K2
theorem fa99_1 (b i : Nat) (w : World) : (Instr.fieldAt 99 (.pointer (some ⟨b, i, none⟩)) 1).run Tryz.prog w = .ok (.pointer (some ⟨b, i + 1, none⟩)) w := run_fieldAt Tryz.runUnderlying99 (j := 1) rfl Tryz.sizeOf2 (by decide) b i w
def tfa99_1:=takeP_xv (M:=M) (w0:=w0) (fa99_1 b i) K2
theorem fa99_2 (b i : Nat) (w : World) : (Instr.fieldAt 99 (.pointer (some ⟨b, i, none⟩)) 2).run Tryz.prog w = .ok (.pointer (some ⟨b, i + 2, none⟩)) w := run_fieldAt Tryz.runUnderlying99 (j := 2) rfl Tryz.sizeOf36 (by decide) b i w
def tfa99_2:=takeP_xv (M:=M) (w0:=w0) (fa99_2 b i) K2
theorem fa103_0 (b i : Nat) (w : World) : (Instr.fieldAt 103 (.pointer (some ⟨b, i, none⟩)) 0).run Tryz.prog w = .ok (.pointer (some ⟨b, i, none⟩)) w := run_fieldAt Tryz.runUnderlying103 (j := 0) rfl Tryz.sizeOf101 (by decide) b i w
def tfa103_0:=takeP_xv (M:=M) (w0:=w0) (fa103_0 b i) K2
theorem fa103_1 (b i : Nat) (w : World) : (Instr.fieldAt 103 (.pointer (some ⟨b, i, none⟩)) 1).run Tryz.prog w = .ok (.pointer (some ⟨b, i + 1, none⟩)) w := run_fieldAt Tryz.runUnderlying103 (j := 1) rfl Tryz.sizeOf3 (by decide) b i w
def tfa103_1:=takeP_xv (M:=M) (w0:=w0) (fa103_1 b i) K2
theorem fa103_2 (b i : Nat) (w : World) : (Instr.fieldAt 103 (.pointer (some ⟨b, i, none⟩)) 2).run Tryz.prog w = .ok (.pointer (some ⟨b, i + 2, none⟩)) w := run_fieldAt Tryz.runUnderlying103 (j := 2) rfl Tryz.sizeOf2 (by decide) b i w
def tfa103_2:=takeP_xv (M:=M) (w0:=w0) (fa103_2 b i) K2
theorem fa106_0 (b i : Nat) (w : World) : (Instr.fieldAt 106 (.pointer (some ⟨b, i, none⟩)) 0).run Tryz.prog w = .ok (.pointer (some ⟨b, i, none⟩)) w := run_fieldAt Tryz.runUnderlying106 (j := 0) rfl Tryz.sizeOf104 (by decide) b i w
def tfa106_0:=takeP_xv (M:=M) (w0:=w0) (fa106_0 b i) K2
theorem fa128_0 (b i : Nat) (w : World) : (Instr.fieldAt 128 (.pointer (some ⟨b, i, none⟩)) 0).run Tryz.prog w = .ok (.pointer (some ⟨b, i, none⟩)) w := run_fieldAt Tryz.runUnderlying128 (j := 0) rfl Tryz.sizeOf91 (by decide) b i w
def tfa128_0:=takeP_xv (M:=M) (w0:=w0) (fa128_0 b i) K2
theorem fa128_1 (b i : Nat) (w : World) : (Instr.fieldAt 128 (.pointer (some ⟨b, i, none⟩)) 1).run Tryz.prog w = .ok (.pointer (some ⟨b, i + 1, none⟩)) w := run_fieldAt Tryz.runUnderlying128 (j := 1) rfl Tryz.sizeOf4 (by decide) b i w
def tfa128_1:=takeP_xv (M:=M) (w0:=w0) (fa128_1 b i) K2
theorem fa131_0 (b i : Nat) (w : World) : (Instr.fieldAt 131 (.pointer (some ⟨b, i, none⟩)) 0).run Tryz.prog w = .ok (.pointer (some ⟨b, i, none⟩)) w := run_fieldAt Tryz.runUnderlying131 (j := 0) rfl Tryz.sizeOf2 (by decide) b i w
def tfa131_0:=takeP_xv (M:=M) (w0:=w0) (fa131_0 b i) K2
theorem fa131_1 (b i : Nat) (w : World) : (Instr.fieldAt 131 (.pointer (some ⟨b, i, none⟩)) 1).run Tryz.prog w = .ok (.pointer (some ⟨b, i + 1, none⟩)) w := run_fieldAt Tryz.runUnderlying131 (j := 1) rfl Tryz.sizeOf66 (by decide) b i w
def tfa131_1:=takeP_xv (M:=M) (w0:=w0) (fa131_1 b i) K2
theorem fd128_0 (cs : List Value) (w : World) (K : Value → World → Prop) : vR ((Instr.field 128 (.agg cs.toArray) 0).run Tryz.prog w) K = oV (fdO Tryz.prog 128 cs 0 w K) cs[0]? (fun v => K v w) := run_field1 Tryz.runUnderlying128 (j := 0) rfl Tryz.isAgg91 cs w K
def tfd128_0 (cs : List Value):=takeP_oV (M:=M) (w0:=w0) (fd128_0 cs) K2
theorem fd128_1 (cs : List Value) (w : World) (K : Value → World → Prop) : vR ((Instr.field 128 (.agg cs.toArray) 1).run Tryz.prog w) K = oV (fdO Tryz.prog 128 cs 1 w K) cs[1]? (fun v => K v w) := run_field1 Tryz.runUnderlying128 (j := 1) rfl Tryz.isAgg4 cs w K
def tfd128_1 (cs : List Value):=takeP_oV (M:=M) (w0:=w0) (fd128_1 cs) K2
theorem bd23 (parts : List (Nat × Value)) (w : World) (K : Value → World → Prop) : vR ((Instr.build 23 parts.toArray).run Tryz.prog w) K = oL (bdO Tryz.prog 23 parts w K) (fillL [(0, 1), (1, 1), (2, 1), (3, 1), (4, 1), (5, 1), (6, 1), (7, 1)] [(.int .i64 0), (.int .i64 0), (.int .i64 0), (.int .i64 0), (.int .i64 0), (.int .i64 0), (.int .i64 0), (.int .i64 0)] parts) (fun cs => K (.agg cs.toArray) w) := run_buildV Tryz.zeroValue23 Tryz.runUnderlying23 (fun w => by simp [Tryz.sizeOf3]) parts w K
theorem tbd23 {M : Option (List Nat)} {w0 : World} (parts : List (Nat × Value)) (K : Value → Prop) : takeP Tryz.prog (FrX M w0) (xv (Instr.build 23 parts.toArray)) K = oL (tkO Tryz.prog M w0 (Instr.build 23 parts.toArray) K) (fillL [(0, 1), (1, 1), (2, 1), (3, 1), (4, 1), (5, 1), (6, 1), (7, 1)] [(.int .i64 0), (.int .i64 0), (.int .i64 0), (.int .i64 0), (.int .i64 0), (.int .i64 0), (.int .i64 0), (.int .i64 0)] parts) (fun cs => K (.agg cs.toArray)) := takeP_buildV Tryz.zeroValue23 Tryz.runUnderlying23 (fun w => by simp [Tryz.sizeOf3]) parts K
theorem bd33 (parts : List (Nat × Value)) (w : World) (K : Value → World → Prop) : vR ((Instr.build 33 parts.toArray).run Tryz.prog w) K = oL (bdO Tryz.prog 33 parts w K) (fillL [(0, 1), (1, 1)] [(.int .i64 0), (.int .i64 0)] parts) (fun cs => K (.agg cs.toArray) w) := run_buildV Tryz.zeroValue33 Tryz.runUnderlying33 (fun w => by simp [Tryz.sizeOf2]) parts w K
theorem tbd33 {M : Option (List Nat)} {w0 : World} (parts : List (Nat × Value)) (K : Value → Prop) : takeP Tryz.prog (FrX M w0) (xv (Instr.build 33 parts.toArray)) K = oL (tkO Tryz.prog M w0 (Instr.build 33 parts.toArray) K) (fillL [(0, 1), (1, 1)] [(.int .i64 0), (.int .i64 0)] parts) (fun cs => K (.agg cs.toArray)) := takeP_buildV Tryz.zeroValue33 Tryz.runUnderlying33 (fun w => by simp [Tryz.sizeOf2]) parts K
theorem bd35 (parts : List (Nat × Value)) (w : World) (K : Value → World → Prop) : vR ((Instr.build 35 parts.toArray).run Tryz.prog w) K = oL (bdO Tryz.prog 35 parts w K) (fillL [(0, 1), (1, 1)] [(.bool false), (.string ⟨#[]⟩)] parts) (fun cs => K (.agg cs.toArray) w) := run_buildV Tryz.zeroValue35 Tryz.runUnderlying35 (fun w => by simp [Tryz.sizeOf4, Tryz.sizeOf9]) parts w K
theorem tbd35 {M : Option (List Nat)} {w0 : World} (parts : List (Nat × Value)) (K : Value → Prop) : takeP Tryz.prog (FrX M w0) (xv (Instr.build 35 parts.toArray)) K = oL (tkO Tryz.prog M w0 (Instr.build 35 parts.toArray) K) (fillL [(0, 1), (1, 1)] [(.bool false), (.string ⟨#[]⟩)] parts) (fun cs => K (.agg cs.toArray)) := takeP_buildV Tryz.zeroValue35 Tryz.runUnderlying35 (fun w => by simp [Tryz.sizeOf4, Tryz.sizeOf9]) parts K
theorem bd40 (parts : List (Nat × Value)) (w : World) (K : Value → World → Prop) : vR ((Instr.build 40 parts.toArray).run Tryz.prog w) K = oL (bdO Tryz.prog 40 parts w K) (fillL [(0, 1), (1, 1), (2, 1), (3, 1), (4, 1), (5, 1), (6, 1), (7, 2), (9, 2), (11, 1), (12, 1), (13, 1), (14, 1), (15, 1)] [(.int .i64 0), (.int .i64 0), (.int .i64 0), (.int .i64 0), (.int .i64 0), (.int .i64 0), (.string ⟨#[]⟩), (.int .i64 0), (.int .i64 0), (.bool false), (.string ⟨#[]⟩), (.bool false), (.int .i64 0), (.int .i64 0), (.slice none 0 0), (.slice none 0 0)] parts) (fun cs => K (.agg cs.toArray) w) := run_buildV Tryz.zeroValue40 Tryz.runUnderlying40 (fun w => by simp [Tryz.sizeOf2, Tryz.sizeOf3, Tryz.sizeOf33, Tryz.sizeOf35, Tryz.sizeOf36, Tryz.sizeOf37, Tryz.sizeOf38, Tryz.sizeOf4, Tryz.sizeOf9]) parts w K
theorem tbd40 {M : Option (List Nat)} {w0 : World} (parts : List (Nat × Value)) (K : Value → Prop) : takeP Tryz.prog (FrX M w0) (xv (Instr.build 40 parts.toArray)) K = oL (tkO Tryz.prog M w0 (Instr.build 40 parts.toArray) K) (fillL [(0, 1), (1, 1), (2, 1), (3, 1), (4, 1), (5, 1), (6, 1), (7, 2), (9, 2), (11, 1), (12, 1), (13, 1), (14, 1), (15, 1)] [(.int .i64 0), (.int .i64 0), (.int .i64 0), (.int .i64 0), (.int .i64 0), (.int .i64 0), (.string ⟨#[]⟩), (.int .i64 0), (.int .i64 0), (.bool false), (.string ⟨#[]⟩), (.bool false), (.int .i64 0), (.int .i64 0), (.slice none 0 0), (.slice none 0 0)] parts) (fun cs => K (.agg cs.toArray)) := takeP_buildV Tryz.zeroValue40 Tryz.runUnderlying40 (fun w => by simp [Tryz.sizeOf2, Tryz.sizeOf3, Tryz.sizeOf33, Tryz.sizeOf35, Tryz.sizeOf36, Tryz.sizeOf37, Tryz.sizeOf38, Tryz.sizeOf4, Tryz.sizeOf9]) parts K
theorem bd44 (parts : List (Nat × Value)) (w : World) (K : Value → World → Prop) : vR ((Instr.build 44 parts.toArray).run Tryz.prog w) K = oL (bdO Tryz.prog 44 parts w K) (fillL [(0, 1), (1, 1), (2, 1)] [(.slice none 0 0), (.int .i64 0), (.int .i64 0)] parts) (fun cs => K (.agg cs.toArray) w) := run_buildV Tryz.zeroValue44 Tryz.runUnderlying44 (fun w => by simp [Tryz.sizeOf2, Tryz.sizeOf3, Tryz.sizeOf42]) parts w K
theorem tbd44 {M : Option (List Nat)} {w0 : World} (parts : List (Nat × Value)) (K : Value → Prop) : takeP Tryz.prog (FrX M w0) (xv (Instr.build 44 parts.toArray)) K = oL (tkO Tryz.prog M w0 (Instr.build 44 parts.toArray) K) (fillL [(0, 1), (1, 1), (2, 1)] [(.slice none 0 0), (.int .i64 0), (.int .i64 0)] parts) (fun cs => K (.agg cs.toArray)) := takeP_buildV Tryz.zeroValue44 Tryz.runUnderlying44 (fun w => by simp [Tryz.sizeOf2, Tryz.sizeOf3, Tryz.sizeOf42]) parts K
theorem bd49 (parts : List (Nat × Value)) (w : World) (K : Value → World → Prop) : vR ((Instr.build 49 parts.toArray).run Tryz.prog w) K = oL (bdO Tryz.prog 49 parts w K) (fillL [(0, 1), (1, 1), (2, 1)] [(.int .i64 0), (.int .i64 0), (.int .i64 0)] parts) (fun cs => K (.agg cs.toArray) w) := run_buildV Tryz.zeroValue49 Tryz.runUnderlying49 (fun w => by simp [Tryz.sizeOf2, Tryz.sizeOf3]) parts w K
theorem tbd49 {M : Option (List Nat)} {w0 : World} (parts : List (Nat × Value)) (K : Value → Prop) : takeP Tryz.prog (FrX M w0) (xv (Instr.build 49 parts.toArray)) K = oL (tkO Tryz.prog M w0 (Instr.build 49 parts.toArray) K) (fillL [(0, 1), (1, 1), (2, 1)] [(.int .i64 0), (.int .i64 0), (.int .i64 0)] parts) (fun cs => K (.agg cs.toArray)) := takeP_buildV Tryz.zeroValue49 Tryz.runUnderlying49 (fun w => by simp [Tryz.sizeOf2, Tryz.sizeOf3]) parts K
theorem bd52 (parts : List (Nat × Value)) (w : World) (K : Value → World → Prop) : vR ((Instr.build 52 parts.toArray).run Tryz.prog w) K = oL (bdO Tryz.prog 52 parts w K) (fillL [(0, 8), (8, 3), (11, 1), (12, 192)] [(.int .i64 0), (.int .i64 0), (.int .i64 0), (.int .i64 0), (.int .i64 0), (.int .i64 0), (.int .i64 0), (.int .i64 0), (.slice none 0 0), (.int .i64 0), (.int .i64 0), (.slice none 0 0), (.int .i64 0), (.int .i64 0), (.int .i64 0), (.int .i64 0), (.int .i64 0), (.int .i64 0), (.int .i64 0), (.int .i64 0), (.int .i64 0), (.int .i64 0), (.int .i64 0), (.int .i64 0), (.int .i64 0), (.int .i64 0), (.int .i64 0), (.int .i64 0), (.int .i64 0), (.int .i64 0), (.int .i64 0), (.int .i64 0), (.int .i64 0), (.int .i64 0), (.int .i64 0), (.int .i64 0), (.int .i64 0), (.int .i64 0), (.int .i64 0), (.int .i64 0), (.int .i64 0), (.int .i64 0), (.int .i64 0), (.int .i64 0), (.int .i64 0), (.int .i64 0), (.int .i64 0), (.int .i64 0), (.int .i64 0), (.int .i64 0), (.int .i64 0), (.int .i64 0), (.int .i64 0), (.int .i64 0), (.int .i64 0), (.int .i64 0), (.int .i64 0), (.int .i64 0), (.int .i64 0), (.int .i64 0), (.int .i64 0), (.int .i64 0), (.int .i64 0), (.int .i64 0), (.int .i64 0), (.int .i64 0), (.int .i64 0), (.int .i64 0), (.int .i64 0), (.int .i64 0), (.int .i64 0), (.int .i64 0), (.int .i64 0), (.int .i64 0), (.int .i64 0), (.int .i64 0), (.int .i64 0), (.int .i64 0), (.int .i64 0), (.int .i64 0), (.int .i64 0), (.int .i64 0), (.int .i64 0), (.int .i64 0), (.int .i64 0), (.int .i64 0), (.int .i64 0), (.int .i64 0), (.int .i64 0), (.int .i64 0), (.int .i64 0), (.int .i64 0), (.int .i64 0), (.int .i64 0), (.int .i64 0), (.int .i64 0), (.int .i64 0), (.int .i64 0), (.int .i64 0), (.int .i64 0), (.int .i64 0), (.int .i64 0), (.int .i64 0), (.int .i64 0), (.int .i64 0), (.int .i64 0), (.int .i64 0), (.int .i64 0), (.int .i64 0), (.int .i64 0), (.int .i64 0), (.int .i64 0), (.int .i64 0), (.int .i64 0), (.int .i64 0), (.int .i64 0), (.int .i64 0), (.int .i64 0), (.int .i64 0), (.int .i64 0), (.int .i64 0), (.int .i64 0), (.int .i64 0), (.int .i64 0), (.int .i64 0), (.int .i64 0), (.int .i64 0), (.int .i64 0), (.int .i64 0), (.int .i64 0), (.int .i64 0), (.int .i64 0), (.int .i64 0), (.int .i64 0), (.int .i64 0), (.int .i64 0), (.int .i64 0), (.int .i64 0), (.int .i64 0), (.int .i64 0), (.int .i64 0), (.int .i64 0), (.int .i64 0), (.int .i64 0), (.int .i64 0), (.int .i64 0), (.int .i64 0), (.int .i64 0), (.int .i64 0), (.int .i64 0), (.int .i64 0), (.int .i64 0), (.int .i64 0), (.int .i64 0), (.int .i64 0), (.int .i64 0), (.int .i64 0), (.int .i64 0), (.int .i64 0), (.int .i64 0), (.int .i64 0), (.int .i64 0), (.int .i64 0), (.int .i64 0), (.int .i64 0), (.int .i64 0), (.int .i64 0), (.int .i64 0), (.int .i64 0), (.int .i64 0), (.int .i64 0), (.int .i64 0), (.int .i64 0), (.int .i64 0), (.int .i64 0), (.int .i64 0), (.int .i64 0), (.int .i64 0), (.int .i64 0), (.int .i64 0), (.int .i64 0), (.int .i64 0), (.int .i64 0), (.int .i64 0), (.int .i64 0), (.int .i64 0), (.int .i64 0), (.int .i64 0), (.int .i64 0), (.int .i64 0), (.int .i64 0), (.int .i64 0), (.int .i64 0), (.int .i64 0), (.int .i64 0), (.int .i64 0), (.int .i64 0), (.int .i64 0), (.int .i64 0), (.int .i64 0), (.int .i64 0), (.int .i64 0), (.int .i64 0), (.int .i64 0)] parts) (fun cs => K (.agg cs.toArray) w) := run_buildV Tryz.zeroValue52 Tryz.runUnderlying52 (fun w => by simp [Tryz.sizeOf23, Tryz.sizeOf44, Tryz.sizeOf47, Tryz.sizeOf50]) parts w K
theorem tbd52 {M : Option (List Nat)} {w0 : World} (parts : List (Nat × Value)) (K : Value → Prop) : takeP Tryz.prog (FrX M w0) (xv (Instr.build 52 parts.toArray)) K = oL (tkO Tryz.prog M w0 (Instr.build 52 parts.toArray) K) (fillL [(0, 8), (8, 3), (11, 1), (12, 192)] [(.int .i64 0), (.int .i64 0), (.int .i64 0), (.int .i64 0), (.int .i64 0), (.int .i64 0), (.int .i64 0), (.int .i64 0), (.slice none 0 0), (.int .i64 0), (.int .i64 0), (.slice none 0 0), (.int .i64 0), (.int .i64 0), (.int .i64 0), (.int .i64 0), (.int .i64 0), (.int .i64 0), (.int .i64 0), (.int .i64 0), (.int .i64 0), (.int .i64 0), (.int .i64 0), (.int .i64 0), (.int .i64 0), (.int .i64 0), (.int .i64 0), (.int .i64 0), (.int .i64 0), (.int .i64 0), (.int .i64 0), (.int .i64 0), (.int .i64 0), (.int .i64 0), (.int .i64 0), (.int .i64 0), (.int .i64 0), (.int .i64 0), (.int .i64 0), (.int .i64 0), (.int .i64 0), (.int .i64 0), (.int .i64 0), (.int .i64 0), (.int .i64 0), (.int .i64 0), (.int .i64 0), (.int .i64 0), (.int .i64 0), (.int .i64 0), (.int .i64 0), (.int .i64 0), (.int .i64 0), (.int .i64 0), (.int .i64 0), (.int .i64 0), (.int .i64 0), (.int .i64 0), (.int .i64 0), (.int .i64 0), (.int .i64 0), (.int .i64 0), (.int .i64 0), (.int .i64 0), (.int .i64 0), (.int .i64 0), (.int .i64 0), (.int .i64 0), (.int .i64 0), (.int .i64 0), (.int .i64 0), (.int .i64 0), (.int .i64 0), (.int .i64 0), (.int .i64 0), (.int .i64 0), (.int .i64 0), (.int .i64 0), (.int .i64 0), (.int .i64 0), (.int .i64 0), (.int .i64 0), (.int .i64 0), (.int .i64 0), (.int .i64 0), (.int .i64 0), (.int .i64 0), (.int .i64 0), (.int .i64 0), (.int .i64 0), (.int .i64 0), (.int .i64 0), (.int .i64 0), (.int .i64 0), (.int .i64 0), (.int .i64 0), (.int .i64 0), (.int .i64 0), (.int .i64 0), (.int .i64 0), (.int .i64 0), (.int .i64 0), (.int .i64 0), (.int .i64 0), (.int .i64 0), (.int .i64 0), (.int .i64 0), (.int .i64 0), (.int .i64 0), (.int .i64 0), (.int .i64 0), (.int .i64 0), (.int .i64 0), (.int .i64 0), (.int .i64 0), (.int .i64 0), (.int .i64 0), (.int .i64 0), (.int .i64 0), (.int .i64 0), (.int .i64 0), (.int .i64 0), (.int .i64 0), (.int .i64 0), (.int .i64 0), (.int .i64 0), (.int .i64 0), (.int .i64 0), (.int .i64 0), (.int .i64 0), (.int .i64 0), (.int .i64 0), (.int .i64 0), (.int .i64 0), (.int .i64 0), (.int .i64 0), (.int .i64 0), (.int .i64 0), (.int .i64 0), (.int .i64 0), (.int .i64 0), (.int .i64 0), (.int .i64 0), (.int .i64 0), (.int .i64 0), (.int .i64 0), (.int .i64 0), (.int .i64 0), (.int .i64 0), (.int .i64 0), (.int .i64 0), (.int .i64 0), (.int .i64 0), (.int .i64 0), (.int .i64 0), (.int .i64 0), (.int .i64 0), (.int .i64 0), (.int .i64 0), (.int .i64 0), (.int .i64 0), (.int .i64 0), (.int .i64 0), (.int .i64 0), (.int .i64 0), (.int .i64 0), (.int .i64 0), (.int .i64 0), (.int .i64 0), (.int .i64 0), (.int .i64 0), (.int .i64 0), (.int .i64 0), (.int .i64 0), (.int .i64 0), (.int .i64 0), (.int .i64 0), (.int .i64 0), (.int .i64 0), (.int .i64 0), (.int .i64 0), (.int .i64 0), (.int .i64 0), (.int .i64 0), (.int .i64 0), (.int .i64 0), (.int .i64 0), (.int .i64 0), (.int .i64 0), (.int .i64 0), (.int .i64 0), (.int .i64 0), (.int .i64 0), (.int .i64 0), (.int .i64 0), (.int .i64 0), (.int .i64 0), (.int .i64 0), (.int .i64 0), (.int .i64 0), (.int .i64 0), (.int .i64 0), (.int .i64 0), (.int .i64 0)] parts) (fun cs => K (.agg cs.toArray)) := takeP_buildV Tryz.zeroValue52 Tryz.runUnderlying52 (fun w => by simp [Tryz.sizeOf23, Tryz.sizeOf44, Tryz.sizeOf47, Tryz.sizeOf50]) parts K
theorem bd57 (parts : List (Nat × Value)) (w : World) (K : Value → World → Prop) : vR ((Instr.build 57 parts.toArray).run Tryz.prog w) K = oL (bdO Tryz.prog 57 parts w K) (fillL [(0, 1), (1, 2), (3, 1), (4, 1)] [(.string ⟨#[]⟩), (.bool false), (.string ⟨#[]⟩), (.int .i64 0), (.int .i64 0)] parts) (fun cs => K (.agg cs.toArray) w) := run_buildV Tryz.zeroValue57 Tryz.runUnderlying57 (fun w => by simp [Tryz.sizeOf2, Tryz.sizeOf35, Tryz.sizeOf9]) parts w K
theorem tbd57 {M : Option (List Nat)} {w0 : World} (parts : List (Nat × Value)) (K : Value → Prop) : takeP Tryz.prog (FrX M w0) (xv (Instr.build 57 parts.toArray)) K = oL (tkO Tryz.prog M w0 (Instr.build 57 parts.toArray) K) (fillL [(0, 1), (1, 2), (3, 1), (4, 1)] [(.string ⟨#[]⟩), (.bool false), (.string ⟨#[]⟩), (.int .i64 0), (.int .i64 0)] parts) (fun cs => K (.agg cs.toArray)) := takeP_buildV Tryz.zeroValue57 Tryz.runUnderlying57 (fun w => by simp [Tryz.sizeOf2, Tryz.sizeOf35, Tryz.sizeOf9]) parts K
theorem bd66 (parts : List (Nat × Value)) (w : World) (K : Value → World → Prop) : vR ((Instr.build 66 parts.toArray).run Tryz.prog w) K = oL (bdO Tryz.prog 66 parts w K) (fillL [(0, 1), (1, 2)] [(.string ⟨#[]⟩), (.bool false), (.string ⟨#[]⟩)] parts) (fun cs => K (.agg cs.toArray) w) := run_buildV Tryz.zeroValue66 Tryz.runUnderlying66 (fun w => by simp [Tryz.sizeOf35, Tryz.sizeOf9]) parts w K
theorem tbd66 {M : Option (List Nat)} {w0 : World} (parts : List (Nat × Value)) (K : Value → Prop) : takeP Tryz.prog (FrX M w0) (xv (Instr.build 66 parts.toArray)) K = oL (tkO Tryz.prog M w0 (Instr.build 66 parts.toArray) K) (fillL [(0, 1), (1, 2)] [(.string ⟨#[]⟩), (.bool false), (.string ⟨#[]⟩)] parts) (fun cs => K (.agg cs.toArray)) := takeP_buildV Tryz.zeroValue66 Tryz.runUnderlying66 (fun w => by simp [Tryz.sizeOf35, Tryz.sizeOf9]) parts K
theorem bd80 (parts : List (Nat × Value)) (w : World) (K : Value → World → Prop) : vR ((Instr.build 80 parts.toArray).run Tryz.prog w) K = oL (bdO Tryz.prog 80 parts w K) (fillL [(0, 8), (8, 1), (9, 1), (10, 1)] [(.int .i64 0), (.int .i64 0), (.int .i64 0), (.int .i64 0), (.int .i64 0), (.int .i64 0), (.int .i64 0), (.int .i64 0), (.pointer none), (.pointer none), (.map none)] parts) (fun cs => K (.agg cs.toArray) w) := run_buildV Tryz.zeroValue80 Tryz.runUnderlying80 (fun w => by simp [Tryz.sizeOf23, Tryz.sizeOf74, Tryz.sizeOf76, Tryz.sizeOf78]) parts w K
theorem tbd80 {M : Option (List Nat)} {w0 : World} (parts : List (Nat × Value)) (K : Value → Prop) : takeP Tryz.prog (FrX M w0) (xv (Instr.build 80 parts.toArray)) K = oL (tkO Tryz.prog M w0 (Instr.build 80 parts.toArray) K) (fillL [(0, 8), (8, 1), (9, 1), (10, 1)] [(.int .i64 0), (.int .i64 0), (.int .i64 0), (.int .i64 0), (.int .i64 0), (.int .i64 0), (.int .i64 0), (.int .i64 0), (.pointer none), (.pointer none), (.map none)] parts) (fun cs => K (.agg cs.toArray)) := takeP_buildV Tryz.zeroValue80 Tryz.runUnderlying80 (fun w => by simp [Tryz.sizeOf23, Tryz.sizeOf74, Tryz.sizeOf76, Tryz.sizeOf78]) parts K
theorem bd86 (parts : List (Nat × Value)) (w : World) (K : Value → World → Prop) : vR ((Instr.build 86 parts.toArray).run Tryz.prog w) K = oL (bdO Tryz.prog 86 parts w K) (fillL [(0, 1), (1, 1)] [(.int .i64 0), (.slice none 0 0)] parts) (fun cs => K (.agg cs.toArray) w) := run_buildV Tryz.zeroValue86 Tryz.runUnderlying86 (fun w => by simp [Tryz.sizeOf2, Tryz.sizeOf38]) parts w K
theorem tbd86 {M : Option (List Nat)} {w0 : World} (parts : List (Nat × Value)) (K : Value → Prop) : takeP Tryz.prog (FrX M w0) (xv (Instr.build 86 parts.toArray)) K = oL (tkO Tryz.prog M w0 (Instr.build 86 parts.toArray) K) (fillL [(0, 1), (1, 1)] [(.int .i64 0), (.slice none 0 0)] parts) (fun cs => K (.agg cs.toArray)) := takeP_buildV Tryz.zeroValue86 Tryz.runUnderlying86 (fun w => by simp [Tryz.sizeOf2, Tryz.sizeOf38]) parts K
theorem bd94 (parts : List (Nat × Value)) (w : World) (K : Value → World → Prop) : vR ((Instr.build 94 parts.toArray).run Tryz.prog w) K = oL (bdO Tryz.prog 94 parts w K) (fillL [(0, 1), (1, 2)] [(.int .i64 0), (.bool false), (.string ⟨#[]⟩)] parts) (fun cs => K (.agg cs.toArray) w) := run_buildV Tryz.zeroValue94 Tryz.runUnderlying94 (fun w => by simp [Tryz.sizeOf2, Tryz.sizeOf35]) parts w K
theorem tbd94 {M : Option (List Nat)} {w0 : World} (parts : List (Nat × Value)) (K : Value → Prop) : takeP Tryz.prog (FrX M w0) (xv (Instr.build 94 parts.toArray)) K = oL (tkO Tryz.prog M w0 (Instr.build 94 parts.toArray) K) (fillL [(0, 1), (1, 2)] [(.int .i64 0), (.bool false), (.string ⟨#[]⟩)] parts) (fun cs => K (.agg cs.toArray)) := takeP_buildV Tryz.zeroValue94 Tryz.runUnderlying94 (fun w => by simp [Tryz.sizeOf2, Tryz.sizeOf35]) parts K
theorem bd99 (parts : List (Nat × Value)) (w : World) (K : Value → World → Prop) : vR ((Instr.build 99 parts.toArray).run Tryz.prog w) K = oL (bdO Tryz.prog 99 parts w K) (fillL [(0, 1), (1, 1), (2, 1)] [(.int .i64 0), (.int .i64 0), (.int .i64 0)] parts) (fun cs => K (.agg cs.toArray) w) := run_buildV Tryz.zeroValue99 Tryz.runUnderlying99 (fun w => by simp [Tryz.sizeOf2, Tryz.sizeOf3, Tryz.sizeOf36]) parts w K
theorem tbd99 {M : Option (List Nat)} {w0 : World} (parts : List (Nat × Value)) (K : Value → Prop) : takeP Tryz.prog (FrX M w0) (xv (Instr.build 99 parts.toArray)) K = oL (tkO Tryz.prog M w0 (Instr.build 99 parts.toArray) K) (fillL [(0, 1), (1, 1), (2, 1)] [(.int .i64 0), (.int .i64 0), (.int .i64 0)] parts) (fun cs => K (.agg cs.toArray)) := takeP_buildV Tryz.zeroValue99 Tryz.runUnderlying99 (fun w => by simp [Tryz.sizeOf2, Tryz.sizeOf3, Tryz.sizeOf36]) parts K
theorem bd103 (parts : List (Nat × Value)) (w : World) (K : Value → World → Prop) : vR ((Instr.build 103 parts.toArray).run Tryz.prog w) K = oL (bdO Tryz.prog 103 parts w K) (fillL [(0, 1), (1, 1), (2, 1)] [(.map none), (.int .i64 0), (.int .i64 0)] parts) (fun cs => K (.agg cs.toArray) w) := run_buildV Tryz.zeroValue103 Tryz.runUnderlying103 (fun w => by simp [Tryz.sizeOf101, Tryz.sizeOf2, Tryz.sizeOf3]) parts w K
theorem tbd103 {M : Option (List Nat)} {w0 : World} (parts : List (Nat × Value)) (K : Value → Prop) : takeP Tryz.prog (FrX M w0) (xv (Instr.build 103 parts.toArray)) K = oL (tkO Tryz.prog M w0 (Instr.build 103 parts.toArray) K) (fillL [(0, 1), (1, 1), (2, 1)] [(.map none), (.int .i64 0), (.int .i64 0)] parts) (fun cs => K (.agg cs.toArray)) := takeP_buildV Tryz.zeroValue103 Tryz.runUnderlying103 (fun w => by simp [Tryz.sizeOf101, Tryz.sizeOf2, Tryz.sizeOf3]) parts K
theorem bd106 (parts : List (Nat × Value)) (w : World) (K : Value → World → Prop) : vR ((Instr.build 106 parts.toArray).run Tryz.prog w) K = oL (bdO Tryz.prog 106 parts w K) (fillL [(0, 1)] [(.slice none 0 0)] parts) (fun cs => K (.agg cs.toArray) w) := run_buildV Tryz.zeroValue106 Tryz.runUnderlying106 (fun w => by simp [Tryz.sizeOf104]) parts w K
theorem tbd106 {M : Option (List Nat)} {w0 : World} (parts : List (Nat × Value)) (K : Value → Prop) : takeP Tryz.prog (FrX M w0) (xv (Instr.build 106 parts.toArray)) K = oL (tkO Tryz.prog M w0 (Instr.build 106 parts.toArray) K) (fillL [(0, 1)] [(.slice none 0 0)] parts) (fun cs => K (.agg cs.toArray)) := takeP_buildV Tryz.zeroValue106 Tryz.runUnderlying106 (fun w => by simp [Tryz.sizeOf104]) parts K
theorem bd128 (parts : List (Nat × Value)) (w : World) (K : Value → World → Prop) : vR ((Instr.build 128 parts.toArray).run Tryz.prog w) K = oL (bdO Tryz.prog 128 parts w K) (fillL [(0, 1), (1, 1)] [(.slice none 0 0), (.bool false)] parts) (fun cs => K (.agg cs.toArray) w) := run_buildV Tryz.zeroValue128 Tryz.runUnderlying128 (fun w => by simp [Tryz.sizeOf4, Tryz.sizeOf91]) parts w K
theorem tbd128 {M : Option (List Nat)} {w0 : World} (parts : List (Nat × Value)) (K : Value → Prop) : takeP Tryz.prog (FrX M w0) (xv (Instr.build 128 parts.toArray)) K = oL (tkO Tryz.prog M w0 (Instr.build 128 parts.toArray) K) (fillL [(0, 1), (1, 1)] [(.slice none 0 0), (.bool false)] parts) (fun cs => K (.agg cs.toArray)) := takeP_buildV Tryz.zeroValue128 Tryz.runUnderlying128 (fun w => by simp [Tryz.sizeOf4, Tryz.sizeOf91]) parts K
theorem bd131 (parts : List (Nat × Value)) (w : World) (K : Value → World → Prop) : vR ((Instr.build 131 parts.toArray).run Tryz.prog w) K = oL (bdO Tryz.prog 131 parts w K) (fillL [(0, 1), (1, 3)] [(.int .i64 0), (.string ⟨#[]⟩), (.bool false), (.string ⟨#[]⟩)] parts) (fun cs => K (.agg cs.toArray) w) := run_buildV Tryz.zeroValue131 Tryz.runUnderlying131 (fun w => by simp [Tryz.sizeOf2, Tryz.sizeOf66]) parts w K
theorem tbd131 {M : Option (List Nat)} {w0 : World} (parts : List (Nat × Value)) (K : Value → Prop) : takeP Tryz.prog (FrX M w0) (xv (Instr.build 131 parts.toArray)) K = oL (tkO Tryz.prog M w0 (Instr.build 131 parts.toArray) K) (fillL [(0, 1), (1, 3)] [(.int .i64 0), (.string ⟨#[]⟩), (.bool false), (.string ⟨#[]⟩)] parts) (fun cs => K (.agg cs.toArray)) := takeP_buildV Tryz.zeroValue131 Tryz.runUnderlying131 (fun w => by simp [Tryz.sizeOf2, Tryz.sizeOf66]) parts K
theorem ia24 (b f len cap : Nat) (k : IntKind) (i : Int) (w : World) (K : Value → World → Prop) : vR ((Instr.indexAt 24 (.slice (some ⟨b, f, none⟩) len cap) (.int k i)).run Tryz.prog w) K = ifV (ixO Tryz.prog 24 b f len cap k i w K) (0 ≤ i ∧ i < len) (K (.pointer (some ⟨b, f + i.toNat * 16, none⟩)) w) := run_indexAt Tryz.runUnderlying24 Tryz.sizeOf40 b f len cap k i w K
def tia24 (k : IntKind) (i : Int):=takeP_ifV (M:=M) (w0:=w0) (ia24 b f len cap k i) K2
theorem ia37 (b f len cap : Nat) (k : IntKind) (i : Int) (w : World) (K : Value → World → Prop) : vR ((Instr.indexAt 37 (.slice (some ⟨b, f, none⟩) len cap) (.int k i)).run Tryz.prog w) K = ifV (ixO Tryz.prog 37 b f len cap k i w K) (0 ≤ i ∧ i < len) (K (.pointer (some ⟨b, f + i.toNat * 3, none⟩)) w) := run_indexAt Tryz.runUnderlying37 Tryz.sizeOf66 b f len cap k i w K
def tia37 (k : IntKind) (i : Int):=takeP_ifV (M:=M) (w0:=w0) (ia37 b f len cap k i) K2
theorem ia38 (b f len cap : Nat) (k : IntKind) (i : Int) (w : World) (K : Value → World → Prop) : vR ((Instr.indexAt 38 (.slice (some ⟨b, f, none⟩) len cap) (.int k i)).run Tryz.prog w) K = ifV (ixO Tryz.prog 38 b f len cap k i w K) (0 ≤ i ∧ i < len) (K (.pointer (some ⟨b, f + i.toNat * 1, none⟩)) w) := run_indexAt Tryz.runUnderlying38 Tryz.sizeOf9 b f len cap k i w K
def tia38 (k : IntKind) (i : Int):=takeP_ifV (M:=M) (w0:=w0) (ia38 b f len cap k i) K2
theorem ia42 (b f len cap : Nat) (k : IntKind) (i : Int) (w : World) (K : Value → World → Prop) : vR ((Instr.indexAt 42 (.slice (some ⟨b, f, none⟩) len cap) (.int k i)).run Tryz.prog w) K = ifV (ixO Tryz.prog 42 b f len cap k i w K) (0 ≤ i ∧ i < len) (K (.pointer (some ⟨b, f + i.toNat * 4, none⟩)) w) := run_indexAt Tryz.runUnderlying42 Tryz.sizeOf131 b f len cap k i w K
def tia42 (k : IntKind) (i : Int):=takeP_ifV (M:=M) (w0:=w0) (ia42 b f len cap k i) K2
theorem ia45 (b f len cap : Nat) (k : IntKind) (i : Int) (w : World) (K : Value → World → Prop) : vR ((Instr.indexAt 45 (.slice (some ⟨b, f, none⟩) len cap) (.int k i)).run Tryz.prog w) K = ifV (ixO Tryz.prog 45 b f len cap k i w K) (0 ≤ i ∧ i < len) (K (.pointer (some ⟨b, f + i.toNat * 2, none⟩)) w) := run_indexAt Tryz.runUnderlying45 Tryz.sizeOf86 b f len cap k i w K
def tia45 (k : IntKind) (i : Int):=takeP_ifV (M:=M) (w0:=w0) (ia45 b f len cap k i) K2
theorem ia91 (b f len cap : Nat) (k : IntKind) (i : Int) (w : World) (K : Value → World → Prop) : vR ((Instr.indexAt 91 (.slice (some ⟨b, f, none⟩) len cap) (.int k i)).run Tryz.prog w) K = ifV (ixO Tryz.prog 91 b f len cap k i w K) (0 ≤ i ∧ i < len) (K (.pointer (some ⟨b, f + i.toNat * 3, none⟩)) w) := run_indexAt Tryz.runUnderlying91 Tryz.sizeOf94 b f len cap k i w K
def tia91 (k : IntKind) (i : Int):=takeP_ifV (M:=M) (w0:=w0) (ia91 b f len cap k i) K2
theorem ia104 (b f len cap : Nat) (k : IntKind) (i : Int) (w : World) (K : Value → World → Prop) : vR ((Instr.indexAt 104 (.slice (some ⟨b, f, none⟩) len cap) (.int k i)).run Tryz.prog w) K = ifV (ixO Tryz.prog 104 b f len cap k i w K) (0 ≤ i ∧ i < len) (K (.pointer (some ⟨b, f + i.toNat * 1, none⟩)) w) := run_indexAt Tryz.runUnderlying104 Tryz.sizeOf38 b f len cap k i w K
def tia104 (k : IntKind) (i : Int):=takeP_ifV (M:=M) (w0:=w0) (ia104 b f len cap k i) K2
theorem eq4 (x y : Operand) (a b : Bool) (w : World) : (xbin .eql 4 x y (.bool a) (.bool b)).run Tryz.prog w = .ok (.bool (a == b)) w := run_eqb Tryz.runUnderlying4 x y a b w
def teq4 (a : Bool) (b : Bool):=takeP_xv (M:=M) (w0:=w0) (eq4 x y a b) K2
theorem ne4 (x y : Operand) (a b : Bool) (w : World) : (xbin .neq 4 x y (.bool a) (.bool b)).run Tryz.prog w = .ok (.bool (!(a == b))) w := run_neb Tryz.runUnderlying4 x y a b w
def tne4 (a : Bool) (b : Bool):=takeP_xv (M:=M) (w0:=w0) (ne4 x y a b) K2
theorem eq26 (x y : Operand) (a : Option Addr) (w : World) : (xbin .eql 26 x y (.pointer a) (.pointer none)).run Tryz.prog w = .ok (.bool a.isNone) w := run_eqp Tryz.runUnderlying26 x y a w
def teq26 (a : Option Addr):=takeP_xv (M:=M) (w0:=w0) (eq26 x y a) K2
theorem ne26 (x y : Operand) (a : Option Addr) (w : World) : (xbin .neq 26 x y (.pointer a) (.pointer none)).run Tryz.prog w = .ok (.bool (!a.isNone)) w := run_nep Tryz.runUnderlying26 x y a w
def tne26 (a : Option Addr):=takeP_xv (M:=M) (w0:=w0) (ne26 x y a) K2
theorem eq38 (x y : Operand) (a : Option Addr) (n c : Nat) (w : World) : (xbin .eql 38 x y (.slice a n c) (.slice none 0 0)).run Tryz.prog w = .ok (.bool a.isNone) w := run_eqsl Tryz.runUnderlying38 x y a n c w
theorem eq74 (x y : Operand) (a : Option Addr) (w : World) : (xbin .eql 74 x y (.pointer a) (.pointer none)).run Tryz.prog w = .ok (.bool a.isNone) w := run_eqp Tryz.runUnderlying74 x y a w
def teq74 (a : Option Addr):=takeP_xv (M:=M) (w0:=w0) (eq74 x y a) K2
theorem ne74 (x y : Operand) (a : Option Addr) (w : World) : (xbin .neq 74 x y (.pointer a) (.pointer none)).run Tryz.prog w = .ok (.bool (!a.isNone)) w := run_nep Tryz.runUnderlying74 x y a w
def tne74 (a : Option Addr):=takeP_xv (M:=M) (w0:=w0) (ne74 x y a) K2
theorem eq76 (x y : Operand) (a : Option Addr) (w : World) : (xbin .eql 76 x y (.pointer a) (.pointer none)).run Tryz.prog w = .ok (.bool a.isNone) w := run_eqp Tryz.runUnderlying76 x y a w
def teq76 (a : Option Addr):=takeP_xv (M:=M) (w0:=w0) (eq76 x y a) K2
theorem ne76 (x y : Operand) (a : Option Addr) (w : World) : (xbin .neq 76 x y (.pointer a) (.pointer none)).run Tryz.prog w = .ok (.bool (!a.isNone)) w := run_nep Tryz.runUnderlying76 x y a w
def tne76 (a : Option Addr):=takeP_xv (M:=M) (w0:=w0) (ne76 x y a) K2
theorem eq91 (x y : Operand) (a : Option Addr) (n c : Nat) (w : World) : (xbin .eql 91 x y (.slice a n c) (.slice none 0 0)).run Tryz.prog w = .ok (.bool a.isNone) w := run_eqsl Tryz.runUnderlying91 x y a n c w
theorem eq104 (x y : Operand) (a : Option Addr) (n c : Nat) (w : World) : (xbin .eql 104 x y (.slice a n c) (.slice none 0 0)).run Tryz.prog w = .ok (.bool a.isNone) w := run_eqsl Tryz.runUnderlying104 x y a n c w
theorem eqI33 (x0 y0 : Int) (x1 y1 : Int) : ∀ w, (Op.equalIn 10000 33 (.agg ([.int .i64 x0, .int .i64 x1] : List Value).toArray) (.agg ([.int .i64 y0, .int .i64 y1] : List Value).toArray)).run Tryz.prog w = .ok (decide (x0 = y0) && (decide (x1 = y1) && true)) w := eqS (d := 9999) Tryz.runUnderlying33 (by kernel_rfl) (eqF_cons (by decide) (part1 Tryz.isAgg2 rfl) (part1 Tryz.isAgg2 rfl) (eqv_int Tryz.runUnderlying2 _ x0 y0) (eqF_cons (by decide) (part1 Tryz.isAgg2 rfl) (part1 Tryz.isAgg2 rfl) (eqv_int Tryz.runUnderlying2 _ x1 y1) (eqF_nil)))
theorem eq33 (x y : Operand) (x0 y0 : Int) (x1 y1 : Int) (w : World) : (xbin .eql 33 x y (.agg ([.int .i64 x0, .int .i64 x1] : List Value).toArray) (.agg ([.int .i64 y0, .int .i64 y1] : List Value).toArray)).run Tryz.prog w = .ok (.bool ((decide (x0 = y0) && (decide (x1 = y1) && true)))) w := eqX (by kernel_rfl) (eqI33 x0 y0 x1 y1) x y w
def teq33 (x0 : Int) (y0 : Int) (x1 : Int) (y1 : Int):=takeP_xv (M:=M) (w0:=w0) (eq33 x y x0 y0 x1 y1) K2
theorem ne33 (x y : Operand) (x0 y0 : Int) (x1 y1 : Int) (w : World) : (xbin .neq 33 x y (.agg ([.int .i64 x0, .int .i64 x1] : List Value).toArray) (.agg ([.int .i64 y0, .int .i64 y1] : List Value).toArray)).run Tryz.prog w = .ok (.bool (!(decide (x0 = y0) && (decide (x1 = y1) && true)))) w := neX (by kernel_rfl) (eqI33 x0 y0 x1 y1) x y w
def tne33 (x0 : Int) (y0 : Int) (x1 : Int) (y1 : Int):=takeP_xv (M:=M) (w0:=w0) (ne33 x y x0 y0 x1 y1) K2
theorem eqI35 (x0 y0 : Bool) (x1 y1 : ByteArray) : ∀ w, (Op.equalIn 10000 35 (.agg ([.bool x0, .string x1] : List Value).toArray) (.agg ([.bool y0, .string y1] : List Value).toArray)).run Tryz.prog w = .ok (decide (x0 = y0) && (decide (x1 = y1) && true)) w := eqS (d := 9999) Tryz.runUnderlying35 (by kernel_rfl) (eqF_cons (by decide) (part1 Tryz.isAgg4 rfl) (part1 Tryz.isAgg4 rfl) (eqv_bool Tryz.runUnderlying4 x0 y0) (eqF_cons (by decide) (part1 Tryz.isAgg9 rfl) (part1 Tryz.isAgg9 rfl) (eqv_string Tryz.runUnderlying9 x1 y1) (eqF_nil)))
theorem eq35 (x y : Operand) (x0 y0 : Bool) (x1 y1 : ByteArray) (w : World) : (xbin .eql 35 x y (.agg ([.bool x0, .string x1] : List Value).toArray) (.agg ([.bool y0, .string y1] : List Value).toArray)).run Tryz.prog w = .ok (.bool ((decide (x0 = y0) && (decide (x1 = y1) && true)))) w := eqX (by kernel_rfl) (eqI35 x0 y0 x1 y1) x y w
def teq35 (x0 : Bool) (y0 : Bool) (x1 : ByteArray) (y1 : ByteArray):=takeP_xv (M:=M) (w0:=w0) (eq35 x y x0 y0 x1 y1) K2
theorem ne35 (x y : Operand) (x0 y0 : Bool) (x1 y1 : ByteArray) (w : World) : (xbin .neq 35 x y (.agg ([.bool x0, .string x1] : List Value).toArray) (.agg ([.bool y0, .string y1] : List Value).toArray)).run Tryz.prog w = .ok (.bool (!(decide (x0 = y0) && (decide (x1 = y1) && true)))) w := neX (by kernel_rfl) (eqI35 x0 y0 x1 y1) x y w
def tne35 (x0 : Bool) (y0 : Bool) (x1 : ByteArray) (y1 : ByteArray):=takeP_xv (M:=M) (w0:=w0) (ne35 x y x0 y0 x1 y1) K2
theorem eqI66 (x0 y0 : ByteArray) (x1 y1 : Bool) (x2 y2 : ByteArray) : ∀ w, (Op.equalIn 10000 66 (.agg ([.string x0, .bool x1, .string x2] : List Value).toArray) (.agg ([.string y0, .bool y1, .string y2] : List Value).toArray)).run Tryz.prog w = .ok (decide (x0 = y0) && ((decide (x1 = y1) && (decide (x2 = y2) && true)) && true)) w := eqS (d := 9999) Tryz.runUnderlying66 (by kernel_rfl) (eqF_cons (by decide) (part1 Tryz.isAgg9 rfl) (part1 Tryz.isAgg9 rfl) (eqv_string Tryz.runUnderlying9 x0 y0) (eqF_cons (by decide) (partN (l := [.bool x1, .string x2]) Tryz.isAgg35 Tryz.sizeOf35 rfl) (partN (l := [.bool y1, .string y2]) Tryz.isAgg35 Tryz.sizeOf35 rfl) (eqS (d := 9998) Tryz.runUnderlying35 (by kernel_rfl) (eqF_cons (by decide) (part1 Tryz.isAgg4 rfl) (part1 Tryz.isAgg4 rfl) (eqv_bool Tryz.runUnderlying4 x1 y1) (eqF_cons (by decide) (part1 Tryz.isAgg9 rfl) (part1 Tryz.isAgg9 rfl) (eqv_string Tryz.runUnderlying9 x2 y2) (eqF_nil)))) (eqF_nil)))
theorem eq66 (x y : Operand) (x0 y0 : ByteArray) (x1 y1 : Bool) (x2 y2 : ByteArray) (w : World) : (xbin .eql 66 x y (.agg ([.string x0, .bool x1, .string x2] : List Value).toArray) (.agg ([.string y0, .bool y1, .string y2] : List Value).toArray)).run Tryz.prog w = .ok (.bool ((decide (x0 = y0) && ((decide (x1 = y1) && (decide (x2 = y2) && true)) && true)))) w := eqX (by kernel_rfl) (eqI66 x0 y0 x1 y1 x2 y2) x y w
def teq66 (x0 : ByteArray) (y0 : ByteArray) (x1 : Bool) (y1 : Bool) (x2 : ByteArray) (y2 : ByteArray):=takeP_xv (M:=M) (w0:=w0) (eq66 x y x0 y0 x1 y1 x2 y2) K2
theorem ne66 (x y : Operand) (x0 y0 : ByteArray) (x1 y1 : Bool) (x2 y2 : ByteArray) (w : World) : (xbin .neq 66 x y (.agg ([.string x0, .bool x1, .string x2] : List Value).toArray) (.agg ([.string y0, .bool y1, .string y2] : List Value).toArray)).run Tryz.prog w = .ok (.bool (!(decide (x0 = y0) && ((decide (x1 = y1) && (decide (x2 = y2) && true)) && true)))) w := neX (by kernel_rfl) (eqI66 x0 y0 x1 y1 x2 y2) x y w
def tne66 (x0 : ByteArray) (y0 : ByteArray) (x1 : Bool) (y1 : Bool) (x2 : ByteArray) (y2 : ByteArray):=takeP_xv (M:=M) (w0:=w0) (ne66 x y x0 y0 x1 y1 x2 y2) K2
theorem len9 (ty : TypeId) (s : ByteArray) (w : World) : (Builtin.len_ #[9] ty #[.string s]).run Tryz.prog w = .ok (.int .i64 s.size) w := run_len_string' Tryz.runUnderlying9 ty s w
theorem tlen9 {M : Option (List Nat)} {w0 : World} (ty : TypeId) (cs : Array Bool) (s : ByteArray) (K : Value → Prop) : takeP Tryz.prog (FrX M w0) (builtin .len #[9] ty cs #[.string s]) K = K (.int .i64 s.size) := takeP_bi rfl (len9 ty s) K
theorem len24 (ty : TypeId) (a : Option Addr) (n c : Nat) (w : World) : (Builtin.len_ #[24] ty #[.slice a n c]).run Tryz.prog w = .ok (.int .i64 n) w := run_len_slice' Tryz.runUnderlying24 ty a n c w
theorem tlen24 {M : Option (List Nat)} {w0 : World} (ty : TypeId) (cs : Array Bool) (a : Option Addr) (n c : Nat) (K : Value → Prop) : takeP Tryz.prog (FrX M w0) (builtin .len #[24] ty cs #[.slice a n c]) K = K (.int .i64 n) := takeP_bi rfl (len24 ty a n c) K
theorem len37 (ty : TypeId) (a : Option Addr) (n c : Nat) (w : World) : (Builtin.len_ #[37] ty #[.slice a n c]).run Tryz.prog w = .ok (.int .i64 n) w := run_len_slice' Tryz.runUnderlying37 ty a n c w
theorem tlen37 {M : Option (List Nat)} {w0 : World} (ty : TypeId) (cs : Array Bool) (a : Option Addr) (n c : Nat) (K : Value → Prop) : takeP Tryz.prog (FrX M w0) (builtin .len #[37] ty cs #[.slice a n c]) K = K (.int .i64 n) := takeP_bi rfl (len37 ty a n c) K
theorem len38 (ty : TypeId) (a : Option Addr) (n c : Nat) (w : World) : (Builtin.len_ #[38] ty #[.slice a n c]).run Tryz.prog w = .ok (.int .i64 n) w := run_len_slice' Tryz.runUnderlying38 ty a n c w
theorem tlen38 {M : Option (List Nat)} {w0 : World} (ty : TypeId) (cs : Array Bool) (a : Option Addr) (n c : Nat) (K : Value → Prop) : takeP Tryz.prog (FrX M w0) (builtin .len #[38] ty cs #[.slice a n c]) K = K (.int .i64 n) := takeP_bi rfl (len38 ty a n c) K
theorem len42 (ty : TypeId) (a : Option Addr) (n c : Nat) (w : World) : (Builtin.len_ #[42] ty #[.slice a n c]).run Tryz.prog w = .ok (.int .i64 n) w := run_len_slice' Tryz.runUnderlying42 ty a n c w
theorem tlen42 {M : Option (List Nat)} {w0 : World} (ty : TypeId) (cs : Array Bool) (a : Option Addr) (n c : Nat) (K : Value → Prop) : takeP Tryz.prog (FrX M w0) (builtin .len #[42] ty cs #[.slice a n c]) K = K (.int .i64 n) := takeP_bi rfl (len42 ty a n c) K
theorem len45 (ty : TypeId) (a : Option Addr) (n c : Nat) (w : World) : (Builtin.len_ #[45] ty #[.slice a n c]).run Tryz.prog w = .ok (.int .i64 n) w := run_len_slice' Tryz.runUnderlying45 ty a n c w
theorem tlen45 {M : Option (List Nat)} {w0 : World} (ty : TypeId) (cs : Array Bool) (a : Option Addr) (n c : Nat) (K : Value → Prop) : takeP Tryz.prog (FrX M w0) (builtin .len #[45] ty cs #[.slice a n c]) K = K (.int .i64 n) := takeP_bi rfl (len45 ty a n c) K
theorem len91 (ty : TypeId) (a : Option Addr) (n c : Nat) (w : World) : (Builtin.len_ #[91] ty #[.slice a n c]).run Tryz.prog w = .ok (.int .i64 n) w := run_len_slice' Tryz.runUnderlying91 ty a n c w
theorem tlen91 {M : Option (List Nat)} {w0 : World} (ty : TypeId) (cs : Array Bool) (a : Option Addr) (n c : Nat) (K : Value → Prop) : takeP Tryz.prog (FrX M w0) (builtin .len #[91] ty cs #[.slice a n c]) K = K (.int .i64 n) := takeP_bi rfl (len91 ty a n c) K
theorem len104 (ty : TypeId) (a : Option Addr) (n c : Nat) (w : World) : (Builtin.len_ #[104] ty #[.slice a n c]).run Tryz.prog w = .ok (.int .i64 n) w := run_len_slice' Tryz.runUnderlying104 ty a n c w
theorem tlen104 {M : Option (List Nat)} {w0 : World} (ty : TypeId) (cs : Array Bool) (a : Option Addr) (n c : Nat) (K : Value → Prop) : takeP Tryz.prog (FrX M w0) (builtin .len #[104] ty cs #[.slice a n c]) K = K (.int .i64 n) := takeP_bi rfl (len104 ty a n c) K
theorem kOK78 : KeyOK Tryz.prog 3 (Value.int .i64) := keyOK_int Tryz.runUnderlying3
theorem lk78 (r : Nat) (k : Int) (w : World) (K : Value → World → Prop) : vR ((Instr.lookup 78 (.map (some r)) (.int .i64 k) false).run Tryz.prog w) K = mapV (Value.int .i64) (lkO Tryz.prog 78 r (.int .i64 k) false w K) w.heap[r]? (fun es => K ((aget es k).getD (.agg ([(.int .i64 0), (.int .i64 0), (.int .i64 0)] : List Value).toArray)) w) := lookup_V Tryz.runUnderlying78 kOK78 Tryz.zeroValue99 r k w K
theorem tlk78 {N : List Nat} {w0 : World} (r : Nat) (hr : r ∉ N) (k : Int) (K : Value → Prop) : takeP Tryz.prog (FrX (some N) w0) (xv (Instr.lookup 78 (.map (some r)) (.int .i64 k) false)) K = mapV (Value.int .i64) (tkO Tryz.prog (some N) w0 (Instr.lookup 78 (.map (some r)) (.int .i64 k) false) K) w0.heap[r]? (fun es => K ((aget es k).getD (.agg ([(.int .i64 0), (.int .i64 0), (.int .i64 0)] : List Value).toArray))) := takeP_V inj_int hr (lk78 r k) K
theorem lkk78 (r : Nat) (k : Int) (w : World) (K : Value → World → Prop) : vR ((Instr.lookup 78 (.map (some r)) (.int .i64 k) true).run Tryz.prog w) K = mapV (Value.int .i64) (lkO Tryz.prog 78 r (.int .i64 k) true w K) w.heap[r]? (fun es => K (.tuple ([(aget es k).getD (.agg ([(.int .i64 0), (.int .i64 0), (.int .i64 0)] : List Value).toArray), .bool (aget es k).isSome] : List Value).toArray) w) := lookup2_V Tryz.runUnderlying78 kOK78 Tryz.zeroValue99 r k w K
theorem tlkk78 {N : List Nat} {w0 : World} (r : Nat) (hr : r ∉ N) (k : Int) (K : Value → Prop) : takeP Tryz.prog (FrX (some N) w0) (xv (Instr.lookup 78 (.map (some r)) (.int .i64 k) true)) K = mapV (Value.int .i64) (tkO Tryz.prog (some N) w0 (Instr.lookup 78 (.map (some r)) (.int .i64 k) true) K) w0.heap[r]? (fun es => K (.tuple ([(aget es k).getD (.agg ([(.int .i64 0), (.int .i64 0), (.int .i64 0)] : List Value).toArray), .bool (aget es k).isSome] : List Value).toArray)) := takeP_V inj_int hr (lkk78 r k) K
theorem lkn78 (k : Int) (w : World) : (Instr.lookup 78 (.map none) (.int .i64 k) false).run Tryz.prog w = .ok (.agg ([(.int .i64 0), (.int .i64 0), (.int .i64 0)] : List Value).toArray) w := map_lookup_nil Tryz.runUnderlying78 kOK78 Tryz.zeroValue99 w k
theorem mu78 (r : Nat) (k : Int) (v : Value) (w : World) (K : Value → World → Prop) : uR ((Instr.mapUpdate 78 (.map (some r)) (.int .i64 k) v).run Tryz.prog w) K = mapV (Value.int .i64) (muO Tryz.prog 78 r (.int .i64 k) v w K) w.heap[r]? (fun es => K undef (w.setB r (updO (Value.int .i64) es w.heap[r]? k v))) := update_V Tryz.runUnderlying78 kOK78 r k v w K
theorem mk78 (w : World) : (Instr.makeMap 78 none).run Tryz.prog w = .ok (.map (some w.heap.size)) (w.alloc (.map #[] 0)) := map_make (kt' := 3) (et := 99) w
theorem kOK101 : KeyOK Tryz.prog 9 Value.string := keyOK_string Tryz.runUnderlying9
theorem lk101 (r : Nat) (k : ByteArray) (w : World) (K : Value → World → Prop) : vR ((Instr.lookup 101 (.map (some r)) (.string k) false).run Tryz.prog w) K = mapV Value.string (lkO Tryz.prog 101 r (.string k) false w K) w.heap[r]? (fun es => K ((aget es k).getD (.agg ([(.slice none 0 0), (.bool false)] : List Value).toArray)) w) := lookup_V Tryz.runUnderlying101 kOK101 Tryz.zeroValue128 r k w K
theorem tlk101 {N : List Nat} {w0 : World} (r : Nat) (hr : r ∉ N) (k : ByteArray) (K : Value → Prop) : takeP Tryz.prog (FrX (some N) w0) (xv (Instr.lookup 101 (.map (some r)) (.string k) false)) K = mapV Value.string (tkO Tryz.prog (some N) w0 (Instr.lookup 101 (.map (some r)) (.string k) false) K) w0.heap[r]? (fun es => K ((aget es k).getD (.agg ([(.slice none 0 0), (.bool false)] : List Value).toArray))) := takeP_V inj_string hr (lk101 r k) K
theorem lkk101 (r : Nat) (k : ByteArray) (w : World) (K : Value → World → Prop) : vR ((Instr.lookup 101 (.map (some r)) (.string k) true).run Tryz.prog w) K = mapV Value.string (lkO Tryz.prog 101 r (.string k) true w K) w.heap[r]? (fun es => K (.tuple ([(aget es k).getD (.agg ([(.slice none 0 0), (.bool false)] : List Value).toArray), .bool (aget es k).isSome] : List Value).toArray) w) := lookup2_V Tryz.runUnderlying101 kOK101 Tryz.zeroValue128 r k w K
theorem tlkk101 {N : List Nat} {w0 : World} (r : Nat) (hr : r ∉ N) (k : ByteArray) (K : Value → Prop) : takeP Tryz.prog (FrX (some N) w0) (xv (Instr.lookup 101 (.map (some r)) (.string k) true)) K = mapV Value.string (tkO Tryz.prog (some N) w0 (Instr.lookup 101 (.map (some r)) (.string k) true) K) w0.heap[r]? (fun es => K (.tuple ([(aget es k).getD (.agg ([(.slice none 0 0), (.bool false)] : List Value).toArray), .bool (aget es k).isSome] : List Value).toArray)) := takeP_V inj_string hr (lkk101 r k) K
theorem lkn101 (k : ByteArray) (w : World) : (Instr.lookup 101 (.map none) (.string k) false).run Tryz.prog w = .ok (.agg ([(.slice none 0 0), (.bool false)] : List Value).toArray) w := map_lookup_nil Tryz.runUnderlying101 kOK101 Tryz.zeroValue128 w k
theorem mu101 (r : Nat) (k : ByteArray) (v : Value) (w : World) (K : Value → World → Prop) : uR ((Instr.mapUpdate 101 (.map (some r)) (.string k) v).run Tryz.prog w) K = mapV Value.string (muO Tryz.prog 101 r (.string k) v w K) w.heap[r]? (fun es => K undef (w.setB r (updO Value.string es w.heap[r]? k v))) := update_V Tryz.runUnderlying101 kOK101 r k v w K
theorem mk101 (w : World) : (Instr.makeMap 101 none).run Tryz.prog w = .ok (.map (some w.heap.size)) (w.alloc (.map #[] 0)) := map_make (kt' := 9) (et := 128) w
theorem kOK151 : KeyOK Tryz.prog 9 Value.string := keyOK_string Tryz.runUnderlying9
theorem lk151 (r : Nat) (k : ByteArray) (w : World) (K : Value → World → Prop) : vR ((Instr.lookup 151 (.map (some r)) (.string k) false).run Tryz.prog w) K = mapV Value.string (lkO Tryz.prog 151 r (.string k) false w K) w.heap[r]? (fun es => K ((aget es k).getD (.int .i64 0)) w) := lookup_V Tryz.runUnderlying151 kOK151 Tryz.zeroValue3 r k w K
theorem tlk151 {N : List Nat} {w0 : World} (r : Nat) (hr : r ∉ N) (k : ByteArray) (K : Value → Prop) : takeP Tryz.prog (FrX (some N) w0) (xv (Instr.lookup 151 (.map (some r)) (.string k) false)) K = mapV Value.string (tkO Tryz.prog (some N) w0 (Instr.lookup 151 (.map (some r)) (.string k) false) K) w0.heap[r]? (fun es => K ((aget es k).getD (.int .i64 0))) := takeP_V inj_string hr (lk151 r k) K
theorem lkk151 (r : Nat) (k : ByteArray) (w : World) (K : Value → World → Prop) : vR ((Instr.lookup 151 (.map (some r)) (.string k) true).run Tryz.prog w) K = mapV Value.string (lkO Tryz.prog 151 r (.string k) true w K) w.heap[r]? (fun es => K (.tuple ([(aget es k).getD (.int .i64 0), .bool (aget es k).isSome] : List Value).toArray) w) := lookup2_V Tryz.runUnderlying151 kOK151 Tryz.zeroValue3 r k w K
theorem tlkk151 {N : List Nat} {w0 : World} (r : Nat) (hr : r ∉ N) (k : ByteArray) (K : Value → Prop) : takeP Tryz.prog (FrX (some N) w0) (xv (Instr.lookup 151 (.map (some r)) (.string k) true)) K = mapV Value.string (tkO Tryz.prog (some N) w0 (Instr.lookup 151 (.map (some r)) (.string k) true) K) w0.heap[r]? (fun es => K (.tuple ([(aget es k).getD (.int .i64 0), .bool (aget es k).isSome] : List Value).toArray)) := takeP_V inj_string hr (lkk151 r k) K
theorem lkn151 (k : ByteArray) (w : World) : (Instr.lookup 151 (.map none) (.string k) false).run Tryz.prog w = .ok (.int .i64 0) w := map_lookup_nil Tryz.runUnderlying151 kOK151 Tryz.zeroValue3 w k
theorem mu151 (r : Nat) (k : ByteArray) (v : Value) (w : World) (K : Value → World → Prop) : uR ((Instr.mapUpdate 151 (.map (some r)) (.string k) v).run Tryz.prog w) K = mapV Value.string (muO Tryz.prog 151 r (.string k) v w K) w.heap[r]? (fun es => K undef (w.setB r (updO Value.string es w.heap[r]? k v))) := update_V Tryz.runUnderlying151 kOK151 r k v w K
theorem mk151 (w : World) : (Instr.makeMap 151 none).run Tryz.prog w = .ok (.map (some w.heap.size)) (w.alloc (.map #[] 0)) := map_make (kt' := 9) (et := 3) w
theorem cv3_143 (n : Int) (w : World) : (convert 3 143 (.int .i64 n)).run Tryz.prog w = .ok (.int .u64 (IntKind.u64.wrap n)) w := run_cvII Tryz.runUnderlying3 Tryz.runUnderlying143 n w
def tcv3_143:=takeP_xv (M:=M) (w0:=w0) (cv3_143 n) K2
theorem cv3_148 (n : Int) (w : World) : (convert 3 148 (.int .i64 n)).run Tryz.prog w = .ok (.int .u64 (IntKind.u64.wrap n)) w := run_cvII Tryz.runUnderlying3 Tryz.runUnderlying148 n w
def tcv3_148:=takeP_xv (M:=M) (w0:=w0) (cv3_148 n) K2
theorem cv5_143 (n : Int) (w : World) : (convert 5 143 (.int .u8 n)).run Tryz.prog w = .ok (.int .u64 (IntKind.u64.wrap n)) w := run_cvII Tryz.runUnderlying5 Tryz.runUnderlying143 n w
def tcv5_143:=takeP_xv (M:=M) (w0:=w0) (cv5_143 n) K2
theorem cv143_3 (n : Int) (w : World) : (convert 143 3 (.int .u64 n)).run Tryz.prog w = .ok (.int .i64 (IntKind.i64.wrap n)) w := run_cvII Tryz.runUnderlying143 Tryz.runUnderlying3 n w
def tcv143_3:=takeP_xv (M:=M) (w0:=w0) (cv143_3 n) K2
theorem cv148_3 (n : Int) (w : World) : (convert 148 3 (.int .u64 n)).run Tryz.prog w = .ok (.int .i64 (IntKind.i64.wrap n)) w := run_cvII Tryz.runUnderlying148 Tryz.runUnderlying3 n w
def tcv148_3:=takeP_xv (M:=M) (w0:=w0) (cv148_3 n) K2
theorem bs24_1 (l0 : List Value) (hl0 : l0.length = 16) (w : World) : (Instr.buildSlice 24 1 ([(0, .agg l0.toArray)]).toArray).run Tryz.prog w = .ok (.slice (some ⟨w.heap.size, 0, none⟩) 1 1) (w.alloc (.cells (l0).toArray 40)) := by
  have := run_buildSlice Tryz.runUnderlying24 Tryz.sizeOf40 Tryz.zeroValue40 rfl (by decide) [.agg l0.toArray] (by simp [Value.cells, hl0]) (by simp) (by simp) w
  simpa [Value.cells] using this
theorem bs24_2 (l0 l1 : List Value) (hl0 : l0.length = 16) (hl1 : l1.length = 16) (w : World) : (Instr.buildSlice 24 2 ([(0, .agg l0.toArray), (1, .agg l1.toArray)]).toArray).run Tryz.prog w = .ok (.slice (some ⟨w.heap.size, 0, none⟩) 2 2) (w.alloc (.cells (l0 ++ l1).toArray 40)) := by
  have := run_buildSlice Tryz.runUnderlying24 Tryz.sizeOf40 Tryz.zeroValue40 rfl (by decide) [.agg l0.toArray, .agg l1.toArray] (by simp [Value.cells, hl0, hl1]) (by simp) (by simp) w
  simpa [Value.cells] using this
theorem bs37_1 (l0 : List Value) (hl0 : l0.length = 3) (w : World) : (Instr.buildSlice 37 1 ([(0, .agg l0.toArray)]).toArray).run Tryz.prog w = .ok (.slice (some ⟨w.heap.size, 0, none⟩) 1 1) (w.alloc (.cells (l0).toArray 66)) := by
  have := run_buildSlice Tryz.runUnderlying37 Tryz.sizeOf66 Tryz.zeroValue66 rfl (by decide) [.agg l0.toArray] (by simp [Value.cells, hl0]) (by simp) (by simp) w
  simpa [Value.cells] using this
theorem bs38_0 (w : World) : (Instr.buildSlice 38 0 ([]).toArray).run Tryz.prog w = .ok (.slice (some ⟨w.heap.size, 0, none⟩) 0 0) (w.alloc (.cells #[] 9)) := run_buildSlice0 Tryz.runUnderlying38 Tryz.sizeOf9 w
theorem bs38_1 (s0 : ByteArray) (w : World) : (Instr.buildSlice 38 1 ([(0, .string s0)]).toArray).run Tryz.prog w = .ok (.slice (some ⟨w.heap.size, 0, none⟩) 1 1) (w.alloc (.cells ([.string s0] : List Value).toArray 9)) := by
  have := run_buildSlice Tryz.runUnderlying38 Tryz.sizeOf9 Tryz.zeroValue9 rfl (by decide) [.string s0] (by simp [Value.cells]) (by simp) (by simp) w
  simpa [Value.cells] using this
theorem bs42_1 (l0 : List Value) (hl0 : l0.length = 4) (w : World) : (Instr.buildSlice 42 1 ([(0, .agg l0.toArray)]).toArray).run Tryz.prog w = .ok (.slice (some ⟨w.heap.size, 0, none⟩) 1 1) (w.alloc (.cells (l0).toArray 131)) := by
  have := run_buildSlice Tryz.runUnderlying42 Tryz.sizeOf131 Tryz.zeroValue131 rfl (by decide) [.agg l0.toArray] (by simp [Value.cells, hl0]) (by simp) (by simp) w
  simpa [Value.cells] using this
theorem bs45_1 (l0 : List Value) (hl0 : l0.length = 2) (w : World) : (Instr.buildSlice 45 1 ([(0, .agg l0.toArray)]).toArray).run Tryz.prog w = .ok (.slice (some ⟨w.heap.size, 0, none⟩) 1 1) (w.alloc (.cells (l0).toArray 86)) := by
  have := run_buildSlice Tryz.runUnderlying45 Tryz.sizeOf86 Tryz.zeroValue86 rfl (by decide) [.agg l0.toArray] (by simp [Value.cells, hl0]) (by simp) (by simp) w
  simpa [Value.cells] using this
theorem bs91_0 (w : World) : (Instr.buildSlice 91 0 ([]).toArray).run Tryz.prog w = .ok (.slice (some ⟨w.heap.size, 0, none⟩) 0 0) (w.alloc (.cells #[] 94)) := run_buildSlice0 Tryz.runUnderlying91 Tryz.sizeOf94 w
theorem bs91_1 (l0 : List Value) (hl0 : l0.length = 3) (w : World) : (Instr.buildSlice 91 1 ([(0, .agg l0.toArray)]).toArray).run Tryz.prog w = .ok (.slice (some ⟨w.heap.size, 0, none⟩) 1 1) (w.alloc (.cells (l0).toArray 94)) := by
  have := run_buildSlice Tryz.runUnderlying91 Tryz.sizeOf94 Tryz.zeroValue94 rfl (by decide) [.agg l0.toArray] (by simp [Value.cells, hl0]) (by simp) (by simp) w
  simpa [Value.cells] using this
theorem bs104_0 (w : World) : (Instr.buildSlice 104 0 ([]).toArray).run Tryz.prog w = .ok (.slice (some ⟨w.heap.size, 0, none⟩) 0 0) (w.alloc (.cells #[] 38)) := run_buildSlice0 Tryz.runUnderlying104 Tryz.sizeOf38 w
theorem bs104_1 (a0 : Option Addr) (m0 c0 : Nat) (w : World) : (Instr.buildSlice 104 1 ([(0, .slice a0 m0 c0)]).toArray).run Tryz.prog w = .ok (.slice (some ⟨w.heap.size, 0, none⟩) 1 1) (w.alloc (.cells ([.slice a0 m0 c0] : List Value).toArray 38)) := by
  have := run_buildSlice Tryz.runUnderlying104 Tryz.sizeOf38 Tryz.zeroValue38 rfl (by decide) [.slice a0 m0 c0] (by simp [Value.cells]) (by simp) (by simp) w
  simpa [Value.cells] using this
theorem ap24 {ty : TypeId} {w : World} {v x : Value} {n m : Nat} {cs ds : List Value} (h : Own 16 40 w v n cs) (hx : Sl 16 w x m ds) (h1 : ds.all oneC = true) (hlen : (n + m) * 176 ≤ 140737488355328) :
    ∃ v' w', (Builtin.append_ #[24, 24] ty #[v, x]).run Tryz.prog w = .ok v' w' ∧ Own 16 40 w' v' (n + m) (cs ++ ds) ∧ Fr (blkL v) w w' ∧ (v'.ownBlock = v.ownBlock ∨ ∃ b, v'.ownBlock = some b ∧ w.heap.size ≤ b) := run_append (i := Tryz.t40) (by kernel_rfl) (by kernel_rfl) rfl rfl rfl rfl (by decide) h hx h1 hlen (by decide)
theorem ap38 {ty : TypeId} {w : World} {v x : Value} {n m : Nat} {cs ds : List Value} (h : Own 1 9 w v n cs) (hx : Sl 1 w x m ds) (h1 : ds.all oneC = true) (hlen : (n + m) * 16 ≤ 140737488355328) :
    ∃ v' w', (Builtin.append_ #[38, 38] ty #[v, x]).run Tryz.prog w = .ok v' w' ∧ Own 1 9 w' v' (n + m) (cs ++ ds) ∧ Fr (blkL v) w w' ∧ (v'.ownBlock = v.ownBlock ∨ ∃ b, v'.ownBlock = some b ∧ w.heap.size ≤ b) := run_append (i := Tryz.t9) (by kernel_rfl) (by kernel_rfl) rfl rfl rfl rfl (by decide) h hx h1 hlen (by decide)
theorem ap42 {ty : TypeId} {w : World} {v x : Value} {n m : Nat} {cs ds : List Value} (h : Own 4 131 w v n cs) (hx : Sl 4 w x m ds) (h1 : ds.all oneC = true) (hlen : (n + m) * 48 ≤ 140737488355328) :
    ∃ v' w', (Builtin.append_ #[42, 42] ty #[v, x]).run Tryz.prog w = .ok v' w' ∧ Own 4 131 w' v' (n + m) (cs ++ ds) ∧ Fr (blkL v) w w' ∧ (v'.ownBlock = v.ownBlock ∨ ∃ b, v'.ownBlock = some b ∧ w.heap.size ≤ b) := run_append (i := Tryz.t131) (by kernel_rfl) (by kernel_rfl) rfl rfl rfl rfl (by decide) h hx h1 hlen (by decide)
theorem ap45 {ty : TypeId} {w : World} {v x : Value} {n m : Nat} {cs ds : List Value} (h : Own 2 86 w v n cs) (hx : Sl 2 w x m ds) (h1 : ds.all oneC = true) (hlen : (n + m) * 32 ≤ 140737488355328) :
    ∃ v' w', (Builtin.append_ #[45, 45] ty #[v, x]).run Tryz.prog w = .ok v' w' ∧ Own 2 86 w' v' (n + m) (cs ++ ds) ∧ Fr (blkL v) w w' ∧ (v'.ownBlock = v.ownBlock ∨ ∃ b, v'.ownBlock = some b ∧ w.heap.size ≤ b) := run_append (i := Tryz.t86) (by kernel_rfl) (by kernel_rfl) rfl rfl rfl rfl (by decide) h hx h1 hlen (by decide)
theorem ap91 {ty : TypeId} {w : World} {v x : Value} {n m : Nat} {cs ds : List Value} (h : Own 3 94 w v n cs) (hx : Sl 3 w x m ds) (h1 : ds.all oneC = true) (hlen : (n + m) * 32 ≤ 140737488355328) :
    ∃ v' w', (Builtin.append_ #[91, 91] ty #[v, x]).run Tryz.prog w = .ok v' w' ∧ Own 3 94 w' v' (n + m) (cs ++ ds) ∧ Fr (blkL v) w w' ∧ (v'.ownBlock = v.ownBlock ∨ ∃ b, v'.ownBlock = some b ∧ w.heap.size ≤ b) := run_append (i := Tryz.t94) (by kernel_rfl) (by kernel_rfl) rfl rfl rfl rfl (by decide) h hx h1 hlen (by decide)
theorem ap104 {ty : TypeId} {w : World} {v x : Value} {n m : Nat} {cs ds : List Value} (h : Own 1 38 w v n cs) (hx : Sl 1 w x m ds) (h1 : ds.all oneC = true) (hlen : (n + m) * 24 ≤ 140737488355328) :
    ∃ v' w', (Builtin.append_ #[104, 104] ty #[v, x]).run Tryz.prog w = .ok v' w' ∧ Own 1 38 w' v' (n + m) (cs ++ ds) ∧ Fr (blkL v) w w' ∧ (v'.ownBlock = v.ownBlock ∨ ∃ b, v'.ownBlock = some b ∧ w.heap.size ≤ b) := run_append (i := Tryz.t38) (by kernel_rfl) (by kernel_rfl) rfl rfl rfl rfl (by decide) h hx h1 hlen (by decide)
def xc6:=nx_xcall Tryz.call6
def xc7:=nx_xcall Tryz.call7
def xc8:=nx_xcall Tryz.call8
def xc9:=nx_xcall Tryz.call9
def xc10:=nx_xcall Tryz.call10
def xc11:=nx_xcall Tryz.call11
def xc12:=nx_xcall Tryz.call12
def xc13:=nx_xcall Tryz.call13
def xc14:=nx_xcall Tryz.call14
def xc15:=nx_xcall Tryz.call15
def xc17:=nx_xcall Tryz.call17
def xc19:=nx_xcall Tryz.call19
def xc20:=nx_xcall Tryz.call20
def xc21:=nx_xcall Tryz.call21
def xc24:=nx_xcall Tryz.call24
def xc25:=nx_xcall Tryz.call25
def xc26:=nx_xcall Tryz.call26
def xc27:=nx_xcall Tryz.call27
def xc28:=nx_xcall Tryz.call28
def xc29:=nx_xcall Tryz.call29
def xc30:=nx_xcall Tryz.call30
def xc31:=nx_xcall Tryz.call31
def xc32:=nx_xcall Tryz.call32
def xc33:=nx_xcall Tryz.call33
def xc34:=nx_xcall Tryz.call34
def xc35:=nx_xcall Tryz.call35
def xc36:=nx_xcall Tryz.call36
def xc37:=nx_xcall Tryz.call37
def xc38:=nx_xcall Tryz.call38
def xc39:=nx_xcall Tryz.call39
def xc40:=nx_xcall Tryz.call40
def xc41:=nx_xcall Tryz.call41
def xc42:=nx_xcall Tryz.call42
def xc43:=nx_xcall Tryz.call43
def xc44:=nx_xcall Tryz.call44
def xc45:=nx_xcall Tryz.call45
def xc46:=nx_xcall Tryz.call46
def xc47:=nx_xcall Tryz.call47
def xc48:=nx_xcall Tryz.call48
def xc50:=nx_xcall Tryz.call50
def xc51:=nx_xcall Tryz.call51
def xc52:=nx_xcall Tryz.call52
def xc53:=nx_xcall Tryz.call53
def xc54:=nx_xcall Tryz.call54
def xc55:=nx_xcall Tryz.call55
def xc56:=nx_xcall Tryz.call56
def xc57:=nx_xcall Tryz.call57
def xc58:=nx_xcall Tryz.call58
def xc59:=nx_xcall Tryz.call59
def xc60:=nx_xcall Tryz.call60
def xc61:=nx_xcall Tryz.call61
def xc62:=nx_xcall Tryz.call62
def xc63:=nx_xcall Tryz.call63
def xc64:=nx_xcall Tryz.call64
def xc65:=nx_xcall Tryz.call65
def xc66:=nx_xcall Tryz.call66
def xc67:=nx_xcall Tryz.call67
def xc68:=nx_xcall Tryz.call68
def xc69:=nx_xcall Tryz.call69
def xc70:=nx_xcall Tryz.call70
def xc71:=nx_xcall Tryz.call71
def xc72:=nx_xcall Tryz.call72
def xc73:=nx_xcall Tryz.call73
def xc74:=nx_xcall Tryz.call74
def xc75:=nx_xcall Tryz.call75
def xc76:=nx_xcall Tryz.call76
def xc78:=nx_xcall Tryz.call78
def xc79:=nx_xcall Tryz.call79
def xc81:=nx_xcall Tryz.call81
def xc82:=nx_xcall Tryz.call82
def xc83:=nx_xcall Tryz.call83
def xc84:=nx_xcall Tryz.call84
def xc86:=nx_xcall Tryz.call86
def xc87:=nx_xcall Tryz.call87
def xc88:=nx_xcall Tryz.call88
def xc89:=nx_xcall Tryz.call89
def xc90:=nx_xcall Tryz.call90
def xc91:=nx_xcall Tryz.call91
def xc92:=nx_xcall Tryz.call92
def xc93:=nx_xcall Tryz.call93
def xc94:=nx_xcall Tryz.call94
def xc95:=nx_xcall Tryz.call95
def xc96:=nx_xcall Tryz.call96
def xc97:=nx_xcall Tryz.call97
def xc98:=nx_xcall Tryz.call98
def xc99:=nx_xcall Tryz.call99
def xc100:=nx_xcall Tryz.call100
def xc101:=nx_xcall Tryz.call101
def xc102:=nx_xcall Tryz.call102
def xc103:=nx_xcall Tryz.call103
def xc104:=nx_xcall Tryz.call104
def xc105:=nx_xcall Tryz.call105
def xc106:=nx_xcall Tryz.call106
end
end Go.Proofs.YtgloomahpjpiiaaGreat
-- GT: ld2, tld2, ld3, tld3, ld4, tld4, ld9, tld9, ld23, tld23, ld33, tld33, ld35, tld35, ld36, tld36, ld37, tld37, ld38, tld38, ld40, tld40, ld42, tld42, ld44, tld44, ld45, tld45, ld49, tld49, ld57, tld57, ld66, tld66, ld74, tld74, ld76, tld76, ld78, tld78, ld86, tld86, ld91, tld91, ld99, tld99, ld101, tld101, ld104, tld104, st2, st3, st4, st9, st23, st33, st35, st36, st37, st38, st40, st42, st45, st49, st57, st66, st86, st91, st99, st104, st128, al23, al40, al49, al57, al66, al86, al91, al99, al128, fa23_0, tfa23_0, fa23_1, tfa23_1, fa23_2, tfa23_2, fa23_3, tfa23_3, fa23_4, tfa23_4, fa23_5, tfa23_5, fa23_6, tfa23_6, fa23_7, tfa23_7, fa33_0, tfa33_0, fa33_1, tfa33_1, fa35_0, tfa35_0, fa35_1, tfa35_1, fa40_0, tfa40_0, fa40_1, tfa40_1, fa40_2, tfa40_2, fa40_3, tfa40_3, fa40_4, tfa40_4, fa40_5, tfa40_5, fa40_6, tfa40_6, fa40_7, tfa40_7, fa40_8, tfa40_8, fa40_9, tfa40_9, fa40_10, tfa40_10, fa40_11, tfa40_11, fa40_12, tfa40_12, fa40_13, tfa40_13, fa44_0, tfa44_0, fa44_1, tfa44_1, fa44_2, tfa44_2, fa47_0, tfa47_0, fa49_0, tfa49_0, fa49_1, tfa49_1, fa49_2, tfa49_2, fa52_0, tfa52_0, fa52_1, tfa52_1, fa52_2, tfa52_2, fa52_3, tfa52_3, fa57_0, tfa57_0, fa57_1, tfa57_1, fa57_2, tfa57_2, fa57_3, tfa57_3, fa66_0, tfa66_0, fa66_1, tfa66_1, fa80_0, tfa80_0, fa80_1, tfa80_1, fa80_2, tfa80_2, fa80_3, tfa80_3, fa86_0, tfa86_0, fa86_1, tfa86_1, fa94_0, tfa94_0, fa94_1, tfa94_1, fa99_0, tfa99_0, fa99_1, tfa99_1, fa99_2, tfa99_2, fa103_0, tfa103_0, fa103_1, tfa103_1, fa103_2, tfa103_2, fa106_0, tfa106_0, fa128_0, tfa128_0, fa128_1, tfa128_1, fa131_0, tfa131_0, fa131_1, tfa131_1, fd128_0, tfd128_0, fd128_1, tfd128_1, bd23, tbd23, bd33, tbd33, bd35, tbd35, bd40, tbd40, bd44, tbd44, bd49, tbd49, bd52, tbd52, bd57, tbd57, bd66, tbd66, bd80, tbd80, bd86, tbd86, bd94, tbd94, bd99, tbd99, bd103, tbd103, bd106, tbd106, bd128, tbd128, bd131, tbd131, ia24, tia24, ia37, tia37, ia38, tia38, ia42, tia42, ia45, tia45, ia91, tia91, ia104, tia104, eq4, teq4, ne4, tne4, eq26, teq26, ne26, tne26, eq38, eq74, teq74, ne74, tne74, eq76, teq76, ne76, tne76, eq91, eq104, eq33, teq33, ne33, tne33, eq35, teq35, ne35, tne35, eq66, teq66, ne66, tne66, len9, tlen9, len24, tlen24, len37, tlen37, len38, tlen38, len42, tlen42, len45, tlen45, len91, tlen91, len104, tlen104, lk78, tlk78, lkk78, tlkk78, lkn78, mu78, mk78, lk101, tlk101, lkk101, tlkk101, lkn101, mu101, mk101, lk151, tlk151, lkk151, tlkk151, lkn151, mu151, mk151, cv3_143, tcv3_143, cv3_148, tcv3_148, cv5_143, tcv5_143, cv143_3, tcv143_3, cv148_3, tcv148_3, bs24_1, bs24_2, bs37_1, bs38_0, bs38_1, bs42_1, bs45_1, bs91_0, bs91_1, bs104_0, bs104_1, xc6, xc7, xc8, xc9, xc10, xc11, xc12, xc13, xc14, xc15, xc17, xc19, xc20, xc21, xc24, xc25, xc26, xc27, xc28, xc29, xc30, xc31, xc32, xc33, xc34, xc35, xc36, xc37, xc38, xc39, xc40, xc41, xc42, xc43, xc44, xc45, xc46, xc47, xc48, xc50, xc51, xc52, xc53, xc54, xc55, xc56, xc57, xc58, xc59, xc60, xc61, xc62, xc63, xc64, xc65, xc66, xc67, xc68, xc69, xc70, xc71, xc72, xc73, xc74, xc75, xc76, xc78, xc79, xc81, xc82, xc83, xc84, xc86, xc87, xc88, xc89, xc90, xc91, xc92, xc93, xc94, xc95, xc96, xc97, xc98, xc99, xc100, xc101, xc102, xc103, xc104, xc105, xc106
