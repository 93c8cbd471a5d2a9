/- Type facts, written by the printer gent.py. -/
import Derived.Test.YtbbjnplellanaaaDoorG0
import Derived.Test.YtbbjnplellanaaaDoorC8
set_option linter.unusedVariables false
set_option linter.unusedSimpArgs false
namespace Go.Proofs.YtbbjnplellanaaaDoor
open Go.VW
noncomputable section
set_option linter.defProp false
variable {N : List Nat} {M : Option (List Nat)} {w0 : World} (b i f len cap : Nat) (hb : b ∉ N) (r : Nat) (hr : r ∉ N) (parts : List (Nat × Value)) (ty : TypeId) (cs : Array Bool) (s : ByteArray) (x y : Operand) (K2 : Value → Prop) (n : Int) (v : Value) (w : World) (K : Value → World → Prop)
def ld3:=run_loadAt1 Tryd.isAgg3 b i w K
def tld3:=takeP_ld (N:=N) (w0:=w0) (ld3 b i) hb K2
def ld4:=run_loadAt1 Tryd.isAgg4 b i w K
def tld4:=takeP_ld (N:=N) (w0:=w0) (ld4 b i) hb K2
def ld9:=run_loadAt1 Tryd.isAgg9 b i w K
def tld9:=takeP_ld (N:=N) (w0:=w0) (ld9 b i) hb K2
def ld31:=run_loadAt1 Tryd.isAgg31 b i w K
def tld31:=takeP_ld (N:=N) (w0:=w0) (ld31 b i) hb K2
def ld33:=run_loadAtN Tryd.isAgg33 Tryd.sizeOf33 b i w K
def tld33:=takeP_ldn (N:=N) (w0:=w0) (ld33 b i) hb K2
def ld50:=run_loadAt1 Tryd.isAgg50 b i w K
def tld50:=takeP_ld (N:=N) (w0:=w0) (ld50 b i) hb K2
def ld51:=run_loadAt1 Tryd.isAgg51 b i w K
def tld51:=takeP_ld (N:=N) (w0:=w0) (ld51 b i) hb K2
def ld53:=run_loadAtN Tryd.isAgg53 Tryd.sizeOf53 b i w K
def tld53:=takeP_ldn (N:=N) (w0:=w0) (ld53 b i) hb K2
def ld60:=run_loadAtN Tryd.isAgg60 Tryd.sizeOf60 b i w K
def tld60:=takeP_ldn (N:=N) (w0:=w0) (ld60 b i) hb K2
def st3:=run_storeAt Tryd.sizeOf3 (by decide) b i v w K
def st5:=run_storeAt Tryd.sizeOf5 (by decide) b i v w K
def st9:=run_storeAt Tryd.sizeOf9 (by decide) b i v w K
def st31:=run_storeAt Tryd.sizeOf31 (by decide) b i v w K
def st33:=run_storeAt Tryd.sizeOf33 (by decide) b i v w K
def st53:=run_storeAt Tryd.sizeOf53 (by decide) b i v w K
def st60:=run_storeAt Tryd.sizeOf60 (by decide) b i v w K
def st112:=run_storeAt Tryd.sizeOf112 (by decide) b i v w K
theorem al33 (x : Value) (w : World) : (Instr.alloc 33 true x).run Tryd.prog w = .ok (.pointer (some ⟨w.heap.size, 0, none⟩)) (w.alloc (.cells ([(.int .i64 0), (.int .i64 0), (.int .i64 0), (.int .i64 0), (.int .i64 0), (.string ⟨#[]⟩), (.slice none 0 0), (.string ⟨#[]⟩)] : List Value).toArray 33)) := run_alloc Tryd.zeroValue33 x w
theorem al53 (x : Value) (w : World) : (Instr.alloc 53 true x).run Tryd.prog w = .ok (.pointer (some ⟨w.heap.size, 0, none⟩)) (w.alloc (.cells ([(.string ⟨#[]⟩), (.int .i64 0), .nilFunc, .nilFunc] : List Value).toArray 53)) := run_alloc Tryd.zeroValue53 x w
theorem al60 (x : Value) (w : World) : (Instr.alloc 60 true x).run Tryd.prog w = .ok (.pointer (some ⟨w.heap.size, 0, none⟩)) (w.alloc (.cells ([(.string ⟨#[]⟩), (.bool false), (.string ⟨#[]⟩)] : List Value).toArray 60)) := run_alloc Tryd.zeroValue60 x w
theorem al63 (x : Value) (w : World) : (Instr.alloc 63 true x).run Tryd.prog w = .ok (.pointer (some ⟨w.heap.size, 0, none⟩)) (w.alloc (.cells ([(.pointer none), (.slice none 0 0)] : List Value).toArray 63)) := run_alloc Tryd.zeroValue63 x w
theorem al112 (x : Value) (w : World) : (Instr.alloc 112 true x).run Tryd.prog w = .ok (.pointer (some ⟨w.heap.size, 0, none⟩)) (w.alloc (.cells ([(.bool false), (.bool false), (.bool false), (.bool false), (.bool false), (.bool false), (.bool false), (.bool false), (.bool false), (.bool false), (.bool false), (.bool false), (.bool false), (.bool false), (.bool false), (.bool false), (.bool false), (.bool false), (.bool false), (.bool false), (.bool false), (.bool false), (.bool false), (.bool false), (.bool false), (.bool false), (.bool false), (.bool false), (.bool false), (.bool false), (.bool false), (.bool false), (.bool false), (.bool false), (.bool false), (.bool false), (.bool false), (.bool false), (.bool false), (.bool false), (.bool false), (.bool false), (.bool false), (.bool false), (.bool false), (.bool false), (.bool false), (.bool false), (.bool false), (.bool false), (.bool false), (.bool false), (.bool false), (.bool false), (.bool false), (.bool false), (.bool false), (.bool false), (.bool false), (.bool false), (.bool false), (.bool false), (.bool false), (.bool false), (.bool false), (.bool false), (.bool false), (.bool false), (.bool false), (.bool false), (.bool false), (.bool false), (.bool false), (.bool false), (.bool false), (.bool false), (.bool false), (.bool false), (.bool false), (.bool false), (.bool false), (.bool false), (.bool false), (.bool false), (.bool false), (.bool false), (.bool false), (.bool false), (.bool false), (.bool false), (.bool false), (.bool false), (.bool false), (.bool false), (.bool false), (.bool false), (.bool false), (.bool false), (.bool false), (.bool false), (.bool false), (.bool false), (.bool false), (.bool false), (.bool false), (.bool false), (.bool false), (.bool false), (.bool false), (.bool false), (.bool false), (.bool false), (.bool false), (.bool false), (.bool false), (.bool false), (.bool false), (.bool false), (.bool false), (.bool false), (.bool false), (.bool false), (.bool false), (.bool false), (.bool false), (.bool false), (.bool false), (.bool false), (.bool false), (.bool false), (.bool false), (.bool false), (.bool false), (.bool false), (.bool false), (.bool false), (.bool false), (.bool false), (.bool false), (.bool false), (.bool false), (.bool false), (.bool false), (.bool false), (.bool false), (.bool false), (.bool false), (.bool false), (.bool false), (.bool false), (.bool false), (.bool false), (.bool false), (.bool false), (.bool false), (.bool false), (.bool false), (.bool false), (.bool false), (.bool false), (.bool false), (.bool false), (.bool false), (.bool false), (.bool false), (.bool false), (.bool false), (.bool false), (.bool false), (.bool false), (.bool false), (.bool false), (.bool false), (.bool false), (.bool false), (.bool false), (.bool false), (.bool false), (.bool false), (.bool false), (.bool false), (.bool false), (.bool false), (.bool false), (.bool false), (.bool false), (.bool false), (.bool false), (.bool false), (.bool false), (.bool false), (.bool false), (.bool false), (.bool false), (.bool false), (.bool false), (.bool false), (.bool false), (.bool false), (.bool false), (.bool false), (.bool false), (.bool false), (.bool false), (.bool false), (.bool false), (.bool false), (.bool false), (.bool false), (.bool false), (.bool false), (.bool false), (.bool false), (.bool false), (.bool false), (.bool false), (.bool false), (.bool false), (.bool false), (.bool false), (.bool false), (.bool false), (.bool false), (.bool false), (.bool false), (.bool false), (.bool false), (.bool false), (.bool false), (.bool false), (.bool false), (.bool false), (.bool false), (.bool false), (.bool false), (.bool false), (.bool false), (.bool false), (.bool false), (.bool false), (.bool false), (.bool false), (.bool false), (.bool false), (.bool false), (.bool false), (.bool false), (.bool false), (.bool false), (.bool false), (.bool false), (.bool false), (.bool false), (.bool false), (.bool false), (.bool false)] : List Value).toArray 112)) := run_alloc Tryd.zeroValue112 x w
theorem fa33_0 (b i : Nat) (w : World) : (Instr.fieldAt 33 (.pointer (some ⟨b, i, none⟩)) 0).run Tryd.prog w = .ok (.pointer (some ⟨b, i, none⟩)) w := run_fieldAt Tryd.runUnderlying33 (j := 0) rfl Tryd.sizeOf3 (by decide) b i w
def tfa33_0:=takeP_xv (M:=M) (w0:=w0) (fa33_0 b i) K2
theorem fa33_1 (b i : Nat) (w : World) : (Instr.fieldAt 33 (.pointer (some ⟨b, i, none⟩)) 1).run Tryd.prog w = .ok (.pointer (some ⟨b, i + 1, none⟩)) w := run_fieldAt Tryd.runUnderlying33 (j := 1) rfl Tryd.sizeOf3 (by decide) b i w
def tfa33_1:=takeP_xv (M:=M) (w0:=w0) (fa33_1 b i) K2
theorem fa33_2 (b i : Nat) (w : World) : (Instr.fieldAt 33 (.pointer (some ⟨b, i, none⟩)) 2).run Tryd.prog w = .ok (.pointer (some ⟨b, i + 2, none⟩)) w := run_fieldAt Tryd.runUnderlying33 (j := 2) rfl Tryd.sizeOf3 (by decide) b i w
def tfa33_2:=takeP_xv (M:=M) (w0:=w0) (fa33_2 b i) K2
theorem fa33_3 (b i : Nat) (w : World) : (Instr.fieldAt 33 (.pointer (some ⟨b, i, none⟩)) 3).run Tryd.prog w = .ok (.pointer (some ⟨b, i + 3, none⟩)) w := run_fieldAt Tryd.runUnderlying33 (j := 3) rfl Tryd.sizeOf3 (by decide) b i w
def tfa33_3:=takeP_xv (M:=M) (w0:=w0) (fa33_3 b i) K2
theorem fa33_4 (b i : Nat) (w : World) : (Instr.fieldAt 33 (.pointer (some ⟨b, i, none⟩)) 4).run Tryd.prog w = .ok (.pointer (some ⟨b, i + 4, none⟩)) w := run_fieldAt Tryd.runUnderlying33 (j := 4) rfl Tryd.sizeOf3 (by decide) b i w
def tfa33_4:=takeP_xv (M:=M) (w0:=w0) (fa33_4 b i) K2
theorem fa33_5 (b i : Nat) (w : World) : (Instr.fieldAt 33 (.pointer (some ⟨b, i, none⟩)) 5).run Tryd.prog w = .ok (.pointer (some ⟨b, i + 5, none⟩)) w := run_fieldAt Tryd.runUnderlying33 (j := 5) rfl Tryd.sizeOf9 (by decide) b i w
def tfa33_5:=takeP_xv (M:=M) (w0:=w0) (fa33_5 b i) K2
theorem fa33_6 (b i : Nat) (w : World) : (Instr.fieldAt 33 (.pointer (some ⟨b, i, none⟩)) 6).run Tryd.prog w = .ok (.pointer (some ⟨b, i + 6, none⟩)) w := run_fieldAt Tryd.runUnderlying33 (j := 6) rfl Tryd.sizeOf31 (by decide) b i w
def tfa33_6:=takeP_xv (M:=M) (w0:=w0) (fa33_6 b i) K2
theorem fa33_7 (b i : Nat) (w : World) : (Instr.fieldAt 33 (.pointer (some ⟨b, i, none⟩)) 7).run Tryd.prog w = .ok (.pointer (some ⟨b, i + 7, none⟩)) w := run_fieldAt Tryd.runUnderlying33 (j := 7) rfl Tryd.sizeOf9 (by decide) b i w
def tfa33_7:=takeP_xv (M:=M) (w0:=w0) (fa33_7 b i) K2
theorem fa53_0 (b i : Nat) (w : World) : (Instr.fieldAt 53 (.pointer (some ⟨b, i, none⟩)) 0).run Tryd.prog w = .ok (.pointer (some ⟨b, i, none⟩)) w := run_fieldAt Tryd.runUnderlying53 (j := 0) rfl Tryd.sizeOf9 (by decide) b i w
def tfa53_0:=takeP_xv (M:=M) (w0:=w0) (fa53_0 b i) K2
theorem fa53_1 (b i : Nat) (w : World) : (Instr.fieldAt 53 (.pointer (some ⟨b, i, none⟩)) 1).run Tryd.prog w = .ok (.pointer (some ⟨b, i + 1, none⟩)) w := run_fieldAt Tryd.runUnderlying53 (j := 1) rfl Tryd.sizeOf3 (by decide) b i w
def tfa53_1:=takeP_xv (M:=M) (w0:=w0) (fa53_1 b i) K2
theorem fa53_2 (b i : Nat) (w : World) : (Instr.fieldAt 53 (.pointer (some ⟨b, i, none⟩)) 2).run Tryd.prog w = .ok (.pointer (some ⟨b, i + 2, none⟩)) w := run_fieldAt Tryd.runUnderlying53 (j := 2) rfl Tryd.sizeOf50 (by decide) b i w
def tfa53_2:=takeP_xv (M:=M) (w0:=w0) (fa53_2 b i) K2
theorem fa53_3 (b i : Nat) (w : World) : (Instr.fieldAt 53 (.pointer (some ⟨b, i, none⟩)) 3).run Tryd.prog w = .ok (.pointer (some ⟨b, i + 3, none⟩)) w := run_fieldAt Tryd.runUnderlying53 (j := 3) rfl Tryd.sizeOf51 (by decide) b i w
def tfa53_3:=takeP_xv (M:=M) (w0:=w0) (fa53_3 b i) K2
theorem fa58_0 (b i : Nat) (w : World) : (Instr.fieldAt 58 (.pointer (some ⟨b, i, none⟩)) 0).run Tryd.prog w = .ok (.pointer (some ⟨b, i, none⟩)) w := run_fieldAt Tryd.runUnderlying58 (j := 0) rfl Tryd.sizeOf4 (by decide) b i w
def tfa58_0:=takeP_xv (M:=M) (w0:=w0) (fa58_0 b i) K2
theorem fa58_1 (b i : Nat) (w : World) : (Instr.fieldAt 58 (.pointer (some ⟨b, i, none⟩)) 1).run Tryd.prog w = .ok (.pointer (some ⟨b, i + 1, none⟩)) w := run_fieldAt Tryd.runUnderlying58 (j := 1) rfl Tryd.sizeOf9 (by decide) b i w
def tfa58_1:=takeP_xv (M:=M) (w0:=w0) (fa58_1 b i) K2
theorem fa60_0 (b i : Nat) (w : World) : (Instr.fieldAt 60 (.pointer (some ⟨b, i, none⟩)) 0).run Tryd.prog w = .ok (.pointer (some ⟨b, i, none⟩)) w := run_fieldAt Tryd.runUnderlying60 (j := 0) rfl Tryd.sizeOf9 (by decide) b i w
def tfa60_0:=takeP_xv (M:=M) (w0:=w0) (fa60_0 b i) K2
theorem fa60_1 (b i : Nat) (w : World) : (Instr.fieldAt 60 (.pointer (some ⟨b, i, none⟩)) 1).run Tryd.prog w = .ok (.pointer (some ⟨b, i + 1, none⟩)) w := run_fieldAt Tryd.runUnderlying60 (j := 1) rfl Tryd.sizeOf58 (by decide) b i w
def tfa60_1:=takeP_xv (M:=M) (w0:=w0) (fa60_1 b i) K2
theorem bd33 (parts : List (Nat × Value)) (w : World) (K : Value → World → Prop) : vR ((Instr.build 33 parts.toArray).run Tryd.prog w) K = oL (bdO Tryd.prog 33 parts w K) (fillL [(0, 1), (1, 1), (2, 1), (3, 1), (4, 1), (5, 1), (6, 1), (7, 1)] [(.int .i64 0), (.int .i64 0), (.int .i64 0), (.int .i64 0), (.int .i64 0), (.string ⟨#[]⟩), (.slice none 0 0), (.string ⟨#[]⟩)] parts) (fun cs => K (.agg cs.toArray) w) := run_buildV Tryd.zeroValue33 Tryd.runUnderlying33 (fun w => by simp [Tryd.sizeOf3, Tryd.sizeOf31, Tryd.sizeOf9]) parts w K
theorem tbd33 {M : Option (List Nat)} {w0 : World} (parts : List (Nat × Value)) (K : Value → Prop) : takeP Tryd.prog (FrX M w0) (xv (Instr.build 33 parts.toArray)) K = oL (tkO Tryd.prog M w0 (Instr.build 33 parts.toArray) K) (fillL [(0, 1), (1, 1), (2, 1), (3, 1), (4, 1), (5, 1), (6, 1), (7, 1)] [(.int .i64 0), (.int .i64 0), (.int .i64 0), (.int .i64 0), (.int .i64 0), (.string ⟨#[]⟩), (.slice none 0 0), (.string ⟨#[]⟩)] parts) (fun cs => K (.agg cs.toArray)) := takeP_buildV Tryd.zeroValue33 Tryd.runUnderlying33 (fun w => by simp [Tryd.sizeOf3, Tryd.sizeOf31, Tryd.sizeOf9]) parts K
theorem bd53 (parts : List (Nat × Value)) (w : World) (K : Value → World → Prop) : vR ((Instr.build 53 parts.toArray).run Tryd.prog w) K = oL (bdO Tryd.prog 53 parts w K) (fillL [(0, 1), (1, 1), (2, 1), (3, 1)] [(.string ⟨#[]⟩), (.int .i64 0), .nilFunc, .nilFunc] parts) (fun cs => K (.agg cs.toArray) w) := run_buildV Tryd.zeroValue53 Tryd.runUnderlying53 (fun w => by simp [Tryd.sizeOf3, Tryd.sizeOf50, Tryd.sizeOf51, Tryd.sizeOf9]) parts w K
theorem tbd53 {M : Option (List Nat)} {w0 : World} (parts : List (Nat × Value)) (K : Value → Prop) : takeP Tryd.prog (FrX M w0) (xv (Instr.build 53 parts.toArray)) K = oL (tkO Tryd.prog M w0 (Instr.build 53 parts.toArray) K) (fillL [(0, 1), (1, 1), (2, 1), (3, 1)] [(.string ⟨#[]⟩), (.int .i64 0), .nilFunc, .nilFunc] parts) (fun cs => K (.agg cs.toArray)) := takeP_buildV Tryd.zeroValue53 Tryd.runUnderlying53 (fun w => by simp [Tryd.sizeOf3, Tryd.sizeOf50, Tryd.sizeOf51, Tryd.sizeOf9]) parts K
theorem bd58 (parts : List (Nat × Value)) (w : World) (K : Value → World → Prop) : vR ((Instr.build 58 parts.toArray).run Tryd.prog w) K = oL (bdO Tryd.prog 58 parts w K) (fillL [(0, 1), (1, 1)] [(.bool false), (.string ⟨#[]⟩)] parts) (fun cs => K (.agg cs.toArray) w) := run_buildV Tryd.zeroValue58 Tryd.runUnderlying58 (fun w => by simp [Tryd.sizeOf4, Tryd.sizeOf9]) parts w K
theorem tbd58 {M : Option (List Nat)} {w0 : World} (parts : List (Nat × Value)) (K : Value → Prop) : takeP Tryd.prog (FrX M w0) (xv (Instr.build 58 parts.toArray)) K = oL (tkO Tryd.prog M w0 (Instr.build 58 parts.toArray) K) (fillL [(0, 1), (1, 1)] [(.bool false), (.string ⟨#[]⟩)] parts) (fun cs => K (.agg cs.toArray)) := takeP_buildV Tryd.zeroValue58 Tryd.runUnderlying58 (fun w => by simp [Tryd.sizeOf4, Tryd.sizeOf9]) parts K
theorem bd60 (parts : List (Nat × Value)) (w : World) (K : Value → World → Prop) : vR ((Instr.build 60 parts.toArray).run Tryd.prog w) K = oL (bdO Tryd.prog 60 parts w K) (fillL [(0, 1), (1, 2)] [(.string ⟨#[]⟩), (.bool false), (.string ⟨#[]⟩)] parts) (fun cs => K (.agg cs.toArray) w) := run_buildV Tryd.zeroValue60 Tryd.runUnderlying60 (fun w => by simp [Tryd.sizeOf58, Tryd.sizeOf9]) parts w K
theorem tbd60 {M : Option (List Nat)} {w0 : World} (parts : List (Nat × Value)) (K : Value → Prop) : takeP Tryd.prog (FrX M w0) (xv (Instr.build 60 parts.toArray)) K = oL (tkO Tryd.prog M w0 (Instr.build 60 parts.toArray) K) (fillL [(0, 1), (1, 2)] [(.string ⟨#[]⟩), (.bool false), (.string ⟨#[]⟩)] parts) (fun cs => K (.agg cs.toArray)) := takeP_buildV Tryd.zeroValue60 Tryd.runUnderlying60 (fun w => by simp [Tryd.sizeOf58, Tryd.sizeOf9]) parts K
theorem ia23 (b f len cap : Nat) (k : IntKind) (i : Int) (w : World) (K : Value → World → Prop) : vR ((Instr.indexAt 23 (.slice (some ⟨b, f, none⟩) len cap) (.int k i)).run Tryd.prog w) K = ifV (ixO Tryd.prog 23 b f len cap k i w K) (0 ≤ i ∧ i < len) (K (.pointer (some ⟨b, f + i.toNat * 8, none⟩)) w) := run_indexAt Tryd.runUnderlying23 Tryd.sizeOf33 b f len cap k i w K
def tia23 (k : IntKind) (i : Int):=takeP_ifV (M:=M) (w0:=w0) (ia23 b f len cap k i) K2
theorem ia31 (b f len cap : Nat) (k : IntKind) (i : Int) (w : World) (K : Value → World → Prop) : vR ((Instr.indexAt 31 (.slice (some ⟨b, f, none⟩) len cap) (.int k i)).run Tryd.prog w) K = ifV (ixO Tryd.prog 31 b f len cap k i w K) (0 ≤ i ∧ i < len) (K (.pointer (some ⟨b, f + i.toNat * 3, none⟩)) w) := run_indexAt Tryd.runUnderlying31 Tryd.sizeOf60 b f len cap k i w K
def tia31 (k : IntKind) (i : Int):=takeP_ifV (M:=M) (w0:=w0) (ia31 b f len cap k i) K2
theorem ia43 (b f len cap : Nat) (k : IntKind) (i : Int) (w : World) (K : Value → World → Prop) : vR ((Instr.indexAt 43 (.slice (some ⟨b, f, none⟩) len cap) (.int k i)).run Tryd.prog w) K = ifV (ixO Tryd.prog 43 b f len cap k i w K) (0 ≤ i ∧ i < len) (K (.pointer (some ⟨b, f + i.toNat * 1, none⟩)) w) := run_indexAt Tryd.runUnderlying43 Tryd.sizeOf5 b f len cap k i w K
def tia43 (k : IntKind) (i : Int):=takeP_ifV (M:=M) (w0:=w0) (ia43 b f len cap k i) K2
theorem ia45 (b f len cap : Nat) (k : IntKind) (i : Int) (w : World) (K : Value → World → Prop) : vR ((Instr.indexAt 45 (.slice (some ⟨b, f, none⟩) len cap) (.int k i)).run Tryd.prog w) K = ifV (ixO Tryd.prog 45 b f len cap k i w K) (0 ≤ i ∧ i < len) (K (.pointer (some ⟨b, f + i.toNat * 4, none⟩)) w) := run_indexAt Tryd.runUnderlying45 Tryd.sizeOf53 b f len cap k i w K
def tia45 (k : IntKind) (i : Int):=takeP_ifV (M:=M) (w0:=w0) (ia45 b f len cap k i) K2
theorem ia47 (b f len cap : Nat) (k : IntKind) (i : Int) (w : World) (K : Value → World → Prop) : vR ((Instr.indexAt 47 (.slice (some ⟨b, f, none⟩) len cap) (.int k i)).run Tryd.prog w) K = ifV (ixO Tryd.prog 47 b f len cap k i w K) (0 ≤ i ∧ i < len) (K (.pointer (some ⟨b, f + i.toNat * 1, none⟩)) w) := run_indexAt Tryd.runUnderlying47 Tryd.sizeOf9 b f len cap k i w K
def tia47 (k : IntKind) (i : Int):=takeP_ifV (M:=M) (w0:=w0) (ia47 b f len cap k i) K2
theorem eqI60 (x0 y0 : ByteArray) (x1 y1 : Bool) (x2 y2 : ByteArray) : ∀ w, (Op.equalIn 10000 60 (.agg ([.string x0, .bool x1, .string x2] : List Value).toArray) (.agg ([.string y0, .bool y1, .string y2] : List Value).toArray)).run Tryd.prog w = .ok (decide (x0 = y0) && ((decide (x1 = y1) && (decide (x2 = y2) && true)) && true)) w := eqS (d := 9999) Tryd.runUnderlying60 (by kernel_rfl) (eqF_cons (by decide) (part1 Tryd.isAgg9 rfl) (part1 Tryd.isAgg9 rfl) (eqv_string Tryd.runUnderlying9 x0 y0) (eqF_cons (by decide) (partN (l := [.bool x1, .string x2]) Tryd.isAgg58 Tryd.sizeOf58 rfl) (partN (l := [.bool y1, .string y2]) Tryd.isAgg58 Tryd.sizeOf58 rfl) (eqS (d := 9998) Tryd.runUnderlying58 (by kernel_rfl) (eqF_cons (by decide) (part1 Tryd.isAgg4 rfl) (part1 Tryd.isAgg4 rfl) (eqv_bool Tryd.runUnderlying4 x1 y1) (eqF_cons (by decide) (part1 Tryd.isAgg9 rfl) (part1 Tryd.isAgg9 rfl) (eqv_string Tryd.runUnderlying9 x2 y2) (eqF_nil)))) (eqF_nil)))
theorem eq60 (x y : Operand) (x0 y0 : ByteArray) (x1 y1 : Bool) (x2 y2 : ByteArray) (w : World) : (xbin .eql 60 x y (.agg ([.string x0, .bool x1, .string x2] : List Value).toArray) (.agg ([.string y0, .bool y1, .string y2] : List Value).toArray)).run Tryd.prog w = .ok (.bool ((decide (x0 = y0) && ((decide (x1 = y1) && (decide (x2 = y2) && true)) && true)))) w := eqX (by kernel_rfl) (eqI60 x0 y0 x1 y1 x2 y2) x y w
def teq60 (x0 : ByteArray) (y0 : ByteArray) (x1 : Bool) (y1 : Bool) (x2 : ByteArray) (y2 : ByteArray):=takeP_xv (M:=M) (w0:=w0) (eq60 x y x0 y0 x1 y1 x2 y2) K2
theorem ne60 (x y : Operand) (x0 y0 : ByteArray) (x1 y1 : Bool) (x2 y2 : ByteArray) (w : World) : (xbin .neq 60 x y (.agg ([.string x0, .bool x1, .string x2] : List Value).toArray) (.agg ([.string y0, .bool y1, .string y2] : List Value).toArray)).run Tryd.prog w = .ok (.bool (!(decide (x0 = y0) && ((decide (x1 = y1) && (decide (x2 = y2) && true)) && true)))) w := neX (by kernel_rfl) (eqI60 x0 y0 x1 y1 x2 y2) x y w
def tne60 (x0 : ByteArray) (y0 : ByteArray) (x1 : Bool) (y1 : Bool) (x2 : ByteArray) (y2 : ByteArray):=takeP_xv (M:=M) (w0:=w0) (ne60 x y x0 y0 x1 y1 x2 y2) K2
theorem len9 (ty : TypeId) (s : ByteArray) (w : World) : (Builtin.len_ #[9] ty #[.string s]).run Tryd.prog w = .ok (.int .i64 s.size) w := run_len_string' Tryd.runUnderlying9 ty s w
theorem tlen9 {M : Option (List Nat)} {w0 : World} (ty : TypeId) (cs : Array Bool) (s : ByteArray) (K : Value → Prop) : takeP Tryd.prog (FrX M w0) (builtin .len #[9] ty cs #[.string s]) K = K (.int .i64 s.size) := takeP_bi rfl (len9 ty s) K
theorem len23 (ty : TypeId) (a : Option Addr) (n c : Nat) (w : World) : (Builtin.len_ #[23] ty #[.slice a n c]).run Tryd.prog w = .ok (.int .i64 n) w := run_len_slice' Tryd.runUnderlying23 ty a n c w
theorem tlen23 {M : Option (List Nat)} {w0 : World} (ty : TypeId) (cs : Array Bool) (a : Option Addr) (n c : Nat) (K : Value → Prop) : takeP Tryd.prog (FrX M w0) (builtin .len #[23] ty cs #[.slice a n c]) K = K (.int .i64 n) := takeP_bi rfl (len23 ty a n c) K
theorem len31 (ty : TypeId) (a : Option Addr) (n c : Nat) (w : World) : (Builtin.len_ #[31] ty #[.slice a n c]).run Tryd.prog w = .ok (.int .i64 n) w := run_len_slice' Tryd.runUnderlying31 ty a n c w
theorem tlen31 {M : Option (List Nat)} {w0 : World} (ty : TypeId) (cs : Array Bool) (a : Option Addr) (n c : Nat) (K : Value → Prop) : takeP Tryd.prog (FrX M w0) (builtin .len #[31] ty cs #[.slice a n c]) K = K (.int .i64 n) := takeP_bi rfl (len31 ty a n c) K
theorem len43 (ty : TypeId) (a : Option Addr) (n c : Nat) (w : World) : (Builtin.len_ #[43] ty #[.slice a n c]).run Tryd.prog w = .ok (.int .i64 n) w := run_len_slice' Tryd.runUnderlying43 ty a n c w
theorem tlen43 {M : Option (List Nat)} {w0 : World} (ty : TypeId) (cs : Array Bool) (a : Option Addr) (n c : Nat) (K : Value → Prop) : takeP Tryd.prog (FrX M w0) (builtin .len #[43] ty cs #[.slice a n c]) K = K (.int .i64 n) := takeP_bi rfl (len43 ty a n c) K
theorem len45 (ty : TypeId) (a : Option Addr) (n c : Nat) (w : World) : (Builtin.len_ #[45] ty #[.slice a n c]).run Tryd.prog w = .ok (.int .i64 n) w := run_len_slice' Tryd.runUnderlying45 ty a n c w
theorem tlen45 {M : Option (List Nat)} {w0 : World} (ty : TypeId) (cs : Array Bool) (a : Option Addr) (n c : Nat) (K : Value → Prop) : takeP Tryd.prog (FrX M w0) (builtin .len #[45] ty cs #[.slice a n c]) K = K (.int .i64 n) := takeP_bi rfl (len45 ty a n c) K
theorem len47 (ty : TypeId) (a : Option Addr) (n c : Nat) (w : World) : (Builtin.len_ #[47] ty #[.slice a n c]).run Tryd.prog w = .ok (.int .i64 n) w := run_len_slice' Tryd.runUnderlying47 ty a n c w
theorem tlen47 {M : Option (List Nat)} {w0 : World} (ty : TypeId) (cs : Array Bool) (a : Option Addr) (n c : Nat) (K : Value → Prop) : takeP Tryd.prog (FrX M w0) (builtin .len #[47] ty cs #[.slice a n c]) K = K (.int .i64 n) := takeP_bi rfl (len47 ty a n c) K
theorem cv2_5 (n : Int) (w : World) : (convert 2 5 (.int .i64 n)).run Tryd.prog w = .ok (.int .u8 (IntKind.u8.wrap n)) w := run_cvII Tryd.runUnderlying2 Tryd.runUnderlying5 n w
def tcv2_5:=takeP_xv (M:=M) (w0:=w0) (cv2_5 n) K2
theorem cv5_3 (n : Int) (w : World) : (convert 5 3 (.int .u8 n)).run Tryd.prog w = .ok (.int .i64 (IntKind.i64.wrap n)) w := run_cvII Tryd.runUnderlying5 Tryd.runUnderlying3 n w
def tcv5_3:=takeP_xv (M:=M) (w0:=w0) (cv5_3 n) K2
theorem cv5_21 (n : Int) (w : World) : (convert 5 21 (.int .u8 n)).run Tryd.prog w = .ok (.int .i32 (IntKind.i32.wrap n)) w := run_cvII Tryd.runUnderlying5 Tryd.runUnderlying21 n w
def tcv5_21:=takeP_xv (M:=M) (w0:=w0) (cv5_21 n) K2
theorem cv21_3 (n : Int) (w : World) : (convert 21 3 (.int .i32 n)).run Tryd.prog w = .ok (.int .i64 (IntKind.i64.wrap n)) w := run_cvII Tryd.runUnderlying21 Tryd.runUnderlying3 n w
def tcv21_3:=takeP_xv (M:=M) (w0:=w0) (cv21_3 n) K2
theorem cv21_5 (n : Int) (w : World) : (convert 21 5 (.int .i32 n)).run Tryd.prog w = .ok (.int .u8 (IntKind.u8.wrap n)) w := run_cvII Tryd.runUnderlying21 Tryd.runUnderlying5 n w
def tcv21_5:=takeP_xv (M:=M) (w0:=w0) (cv21_5 n) K2
theorem cv42_3 (n : Int) (w : World) : (convert 42 3 (.int .u16 n)).run Tryd.prog w = .ok (.int .i64 (IntKind.i64.wrap n)) w := run_cvII Tryd.runUnderlying42 Tryd.runUnderlying3 n w
def tcv42_3:=takeP_xv (M:=M) (w0:=w0) (cv42_3 n) K2
theorem bs23_0 (w : World) : (Instr.buildSlice 23 0 ([]).toArray).run Tryd.prog w = .ok (.slice (some ⟨w.heap.size, 0, none⟩) 0 0) (w.alloc (.cells #[] 33)) := run_buildSlice0 Tryd.runUnderlying23 Tryd.sizeOf33 w
theorem bs23_1 (l0 : List Value) (hl0 : l0.length = 8) (w : World) : (Instr.buildSlice 23 1 ([(0, .agg l0.toArray)]).toArray).run Tryd.prog w = .ok (.slice (some ⟨w.heap.size, 0, none⟩) 1 1) (w.alloc (.cells (l0).toArray 33)) := by
  have := run_buildSlice Tryd.runUnderlying23 Tryd.sizeOf33 Tryd.zeroValue33 rfl (by decide) [.agg l0.toArray] (by simp [Value.cells, hl0]) (by simp) (by simp) w
  simpa [Value.cells] using this
theorem bs31_1 (l0 : List Value) (hl0 : l0.length = 3) (w : World) : (Instr.buildSlice 31 1 ([(0, .agg l0.toArray)]).toArray).run Tryd.prog w = .ok (.slice (some ⟨w.heap.size, 0, none⟩) 1 1) (w.alloc (.cells (l0).toArray 60)) := by
  have := run_buildSlice Tryd.runUnderlying31 Tryd.sizeOf60 Tryd.zeroValue60 rfl (by decide) [.agg l0.toArray] (by simp [Value.cells, hl0]) (by simp) (by simp) w
  simpa [Value.cells] using this
theorem bs43_1 (z0 : Int) (w : World) : (Instr.buildSlice 43 1 ([(0, .int .u8 z0)]).toArray).run Tryd.prog w = .ok (.slice (some ⟨w.heap.size, 0, none⟩) 1 1) (w.alloc (.cells ([.int .u8 z0] : List Value).toArray 5)) := by
  have := run_buildSlice Tryd.runUnderlying43 Tryd.sizeOf5 Tryd.zeroValue5 rfl (by decide) [.int .u8 z0] (by simp [Value.cells]) (by simp) (by simp) w
  simpa [Value.cells] using this
theorem bs45_16 (l0 l1 l2 l3 l4 l5 l6 l7 l8 l9 l10 l11 l12 l13 l14 l15 : List Value) (hl0 : l0.length = 4) (hl1 : l1.length = 4) (hl2 : l2.length = 4) (hl3 : l3.length = 4) (hl4 : l4.length = 4) (hl5 : l5.length = 4) (hl6 : l6.length = 4) (hl7 : l7.length = 4) (hl8 : l8.length = 4) (hl9 : l9.length = 4) (hl10 : l10.length = 4) (hl11 : l11.length = 4) (hl12 : l12.length = 4) (hl13 : l13.length = 4) (hl14 : l14.length = 4) (hl15 : l15.length = 4) (w : World) : (Instr.buildSlice 45 16 ([(0, .agg l0.toArray), (1, .agg l1.toArray), (2, .agg l2.toArray), (3, .agg l3.toArray), (4, .agg l4.toArray), (5, .agg l5.toArray), (6, .agg l6.toArray), (7, .agg l7.toArray), (8, .agg l8.toArray), (9, .agg l9.toArray), (10, .agg l10.toArray), (11, .agg l11.toArray), (12, .agg l12.toArray), (13, .agg l13.toArray), (14, .agg l14.toArray), (15, .agg l15.toArray)]).toArray).run Tryd.prog w = .ok (.slice (some ⟨w.heap.size, 0, none⟩) 16 16) (w.alloc (.cells (l0 ++ l1 ++ l2 ++ l3 ++ l4 ++ l5 ++ l6 ++ l7 ++ l8 ++ l9 ++ l10 ++ l11 ++ l12 ++ l13 ++ l14 ++ l15).toArray 53)) := by
  have := run_buildSlice Tryd.runUnderlying45 Tryd.sizeOf53 Tryd.zeroValue53 rfl (by decide) [.agg l0.toArray, .agg l1.toArray, .agg l2.toArray, .agg l3.toArray, .agg l4.toArray, .agg l5.toArray, .agg l6.toArray, .agg l7.toArray, .agg l8.toArray, .agg l9.toArray, .agg l10.toArray, .agg l11.toArray, .agg l12.toArray, .agg l13.toArray, .agg l14.toArray, .agg l15.toArray] (by simp [Value.cells, hl0, hl1, hl2, hl3, hl4, hl5, hl6, hl7, hl8, hl9, hl10, hl11, hl12, hl13, hl14, hl15]) (by simp) (by simp) w
  simpa [Value.cells] using this
theorem bs47_1 (s0 : ByteArray) (w : World) : (Instr.buildSlice 47 1 ([(0, .string s0)]).toArray).run Tryd.prog w = .ok (.slice (some ⟨w.heap.size, 0, none⟩) 1 1) (w.alloc (.cells ([.string s0] : List Value).toArray 9)) := by
  have := run_buildSlice Tryd.runUnderlying47 Tryd.sizeOf9 Tryd.zeroValue9 rfl (by decide) [.string s0] (by simp [Value.cells]) (by simp) (by simp) w
  simpa [Value.cells] using this
theorem ap23 {ty : TypeId} {w : World} {v x : Value} {n m : Nat} {cs ds : List Value} (h : Own 8 33 w v n cs) (hx : Sl 8 w x m ds) (h1 : ds.all oneC = true) (hlen : (n + m) * 96 ≤ 140737488355328) :
    ∃ v' w', (Builtin.append_ #[23, 23] ty #[v, x]).run Tryd.prog w = .ok v' w' ∧ Own 8 33 w' v' (n + m) (cs ++ ds) ∧ Fr (blkL v) w w' ∧ (v'.ownBlock = v.ownBlock ∨ ∃ b, v'.ownBlock = some b ∧ w.heap.size ≤ b) := run_append (i := Tryd.t33) (by kernel_rfl) (by kernel_rfl) rfl rfl rfl rfl (by decide) h hx h1 hlen (by decide)
theorem ap31 {ty : TypeId} {w : World} {v x : Value} {n m : Nat} {cs ds : List Value} (h : Own 3 60 w v n cs) (hx : Sl 3 w x m ds) (h1 : ds.all oneC = true) (hlen : (n + m) * 40 ≤ 140737488355328) :
    ∃ v' w', (Builtin.append_ #[31, 31] ty #[v, x]).run Tryd.prog w = .ok v' w' ∧ Own 3 60 w' v' (n + m) (cs ++ ds) ∧ Fr (blkL v) w w' ∧ (v'.ownBlock = v.ownBlock ∨ ∃ b, v'.ownBlock = some b ∧ w.heap.size ≤ b) := run_append (i := Tryd.t60) (by kernel_rfl) (by kernel_rfl) rfl rfl rfl rfl (by decide) h hx h1 hlen (by decide)
theorem ap43 {ty : TypeId} {w : World} {v x : Value} {n m : Nat} {cs ds : List Value} (h : Own 1 5 w v n cs) (hx : Sl 1 w x m ds) (h1 : ds.all oneC = true) (hlen : (n + m) * 1 ≤ 140737488355328) :
    ∃ v' w', (Builtin.append_ #[43, 43] ty #[v, x]).run Tryd.prog w = .ok v' w' ∧ Own 1 5 w' v' (n + m) (cs ++ ds) ∧ Fr (blkL v) w w' ∧ (v'.ownBlock = v.ownBlock ∨ ∃ b, v'.ownBlock = some b ∧ w.heap.size ≤ b) := run_append (i := Tryd.t5) (by kernel_rfl) (by kernel_rfl) rfl rfl rfl rfl (by decide) h hx h1 hlen (by decide)
theorem ap47 {ty : TypeId} {w : World} {v x : Value} {n m : Nat} {cs ds : List Value} (h : Own 1 9 w v n cs) (hx : Sl 1 w x m ds) (h1 : ds.all oneC = true) (hlen : (n + m) * 16 ≤ 140737488355328) :
    ∃ v' w', (Builtin.append_ #[47, 47] ty #[v, x]).run Tryd.prog w = .ok v' w' ∧ Own 1 9 w' v' (n + m) (cs ++ ds) ∧ Fr (blkL v) w w' ∧ (v'.ownBlock = v.ownBlock ∨ ∃ b, v'.ownBlock = some b ∧ w.heap.size ≤ b) := run_append (i := Tryd.t9) (by kernel_rfl) (by kernel_rfl) rfl rfl rfl rfl (by decide) h hx h1 hlen (by decide)
def xc8:=nx_xcall Tryd.call8
def xc9:=nx_xcall Tryd.call9
def xc10:=nx_xcall Tryd.call10
def xc11:=nx_xcall Tryd.call11
def xc12:=nx_xcall Tryd.call12
def xc13:=nx_xcall Tryd.call13
def xc14:=nx_xcall Tryd.call14
def xc15:=nx_xcall Tryd.call15
def xc16:=nx_xcall Tryd.call16
def xc17:=nx_xcall Tryd.call17
def xc18:=nx_xcall Tryd.call18
def xc19:=nx_xcall Tryd.call19
def xc20:=nx_xcall Tryd.call20
def xc21:=nx_xcall Tryd.call21
def xc22:=nx_xcall Tryd.call22
def xc23:=nx_xcall Tryd.call23
def xc24:=nx_xcall Tryd.call24
def xc25:=nx_xcall Tryd.call25
def xc26:=nx_xcall Tryd.call26
def xc34:=nx_xcall Tryd.call34
def xc36:=nx_xcall Tryd.call36
def xc37:=nx_xcall Tryd.call37
def xc38:=nx_xcall Tryd.call38
def xc39:=nx_xcall Tryd.call39
def xc40:=nx_xcall Tryd.call40
def xc41:=nx_xcall Tryd.call41
def xc42:=nx_xcall Tryd.call42
def xc43:=nx_xcall Tryd.call43
def xc45:=nx_xcall Tryd.call45
def xc46:=nx_xcall Tryd.call46
def xc47:=nx_xcall Tryd.call47
def xc51:=nx_xcall Tryd.call51
def xc52:=nx_xcall Tryd.call52
def xc54:=nx_xcall Tryd.call54
def xc63:=nx_xcall Tryd.call63
def xc67:=nx_xcall Tryd.call67
def xc74:=nx_xcall Tryd.call74
def xc75:=nx_xcall Tryd.call75
def xc76:=nx_xcall Tryd.call76
def xc77:=nx_xcall Tryd.call77
def xc85:=nx_xcall Tryd.call85
def xc86:=nx_xcall Tryd.call86
end
end Go.Proofs.YtbbjnplellanaaaDoor
-- GT: ld3, tld3, ld4, tld4, ld9, tld9, ld31, tld31, ld33, tld33, ld50, tld50, ld51, tld51, ld53, tld53, ld60, tld60, st3, st5, st9, st31, st33, st53, st60, st112, al33, al53, al60, al63, al112, fa33_0, tfa33_0, fa33_1, tfa33_1, fa33_2, tfa33_2, fa33_3, tfa33_3, fa33_4, tfa33_4, fa33_5, tfa33_5, fa33_6, tfa33_6, fa33_7, tfa33_7, fa53_0, tfa53_0, fa53_1, tfa53_1, fa53_2, tfa53_2, fa53_3, tfa53_3, fa58_0, tfa58_0, fa58_1, tfa58_1, fa60_0, tfa60_0, fa60_1, tfa60_1, bd33, tbd33, bd53, tbd53, bd58, tbd58, bd60, tbd60, ia23, tia23, ia31, tia31, ia43, tia43, ia45, tia45, ia47, tia47, eq60, teq60, ne60, tne60, len9, tlen9, len23, tlen23, len31, tlen31, len43, tlen43, len45, tlen45, len47, tlen47, cv2_5, tcv2_5, cv5_3, tcv5_3, cv5_21, tcv5_21, cv21_3, tcv21_3, cv21_5, tcv21_5, cv42_3, tcv42_3, bs23_0, bs23_1, bs31_1, bs43_1, bs45_16, bs47_1, xc8, xc9, xc10, xc11, xc12, xc13, xc14, xc15, xc16, xc17, xc18, xc19, xc20, xc21, xc22, xc23, xc24, xc25, xc26, xc34, xc36, xc37, xc38, xc39, xc40, xc41, xc42, xc43, xc45, xc46, xc47, xc51, xc52, xc54, xc63, xc67, xc74, xc75, xc76, xc77, xc85, xc86
