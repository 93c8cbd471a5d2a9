/-
  No cell of these rows narrows 'for every input' (looked for: loops, veiled, ifaces, maps, wideKeys, modest, calm, conditions, laid).
  DERIVED. THE GIVEN ROWS OF THIS SEAT. 4 by the template 'for every input the law returns true; each argument reads behind the call as it read before'; 0 by the template 'total and deterministic' (their statements: YtldmkhakjnglmaaTotals.lean).
  GIVEN WITH THE SEED: the statements are not yours to turn. If you find one false, say at which input.
  Laid BY PROGRAM, IN A SANDBOX (cutbox-rows.mjs): the forced cells as the released guide's own fill.sh prints them over the translation ec436f413075514e… (all of the seat's roots in one cut). By AI agents, Wed Nov 11 2026. No macro, syntax, notation, axiom, sorry.
-/
import Derived.Test.YtldmkhakjnglmaaChecked
import GoSem.Claim
import GoSem.ClaimJoined
import GoSem.ClaimMapViews
import Derived.JoinedTies
import Derived.KernelRfl
namespace Go.Proofs.Ytldmkhakjnglmaa
/- THE CELL 'sum', in the pinned program and in every row, IS THE sha256 OF THE DUMP (.gsa) THAT YtldmkhakjnglmaaProg.lean LOADS. Nothing in Lean hashes anything: it is a label: what it is worth is what the hold of that sum in a sandbox is worth. -/
noncomputable def Try.pinned : Pinned := { name := "ytldmkhakjnglmaa", sum := "ec436f413075514e887cdb71a657d8dfe5d019ad7d8bb88a8d474a4addcc0ba8", checked := Try.checked }
namespace Rows
def none {H : Type} : Left H := { results := [], args := [] }

/-- 'vouchlaw10.TablePlays': WHATEVER THE INPUT: true; the input reads as it did. -/
def tablePlaysSpec : ChangeSpec := { name := "tablePlays", fn := fun _ => fun
  | [d] => { results := [.lit (.bool true)], args := [d] }
  | _ => none }
def tablePlaysRow : OpenClaim := { program := "ytldmkhakjnglmaa", sum := "ec436f413075514e887cdb71a657d8dfe5d019ad7d8bb88a8d474a4addcc0ba8", func := "vouch/vouchlaw10.TablePlays", spec := "tablePlays", inPlace := ["slices.overlaps[vouch/api.Entry]"], unfollowed := true, recurses := true, apart := false }
def TablePlaysSaid : Prop := tablePlaysRow.holds Try.pinned (OpenSpec.ofChange tablePlaysSpec)

/-- ITS FALSE NEIGHBOUR: 'it returns false'. Refute it at one input. -/
def tablePlaysWrong : ChangeSpec := { name := "tablePlays", fn := fun _ => fun
  | [d] => { results := [.lit (.bool false)], args := [d] }
  | _ => none }
def TablePlaysWrongFalsely : Prop := tablePlaysRow.holds Try.pinned (OpenSpec.ofChange tablePlaysWrong)

/-- 'vouchlaw10.TableFinds': WHATEVER THE INPUT: true; the input reads as it did. -/
def tableFindsSpec : ChangeSpec := { name := "tableFinds", fn := fun _ => fun
  | [d1, d2, d3, d4, d5] => { results := [.lit (.bool true)], args := [d1, d2, d3, d4, d5] }
  | _ => none }
def tableFindsRow : OpenClaim := { program := "ytldmkhakjnglmaa", sum := "ec436f413075514e887cdb71a657d8dfe5d019ad7d8bb88a8d474a4addcc0ba8", func := "vouch/vouchlaw10.TableFinds", spec := "tableFinds", inPlace := ["slices.overlaps[vouch/api.Entry]"], unfollowed := true, recurses := true, apart := false }
def TableFindsSaid : Prop := tableFindsRow.holds Try.pinned (OpenSpec.ofChange tableFindsSpec)

/-- ITS FALSE NEIGHBOUR: 'it returns false'. Refute it at one input. -/
def tableFindsWrong : ChangeSpec := { name := "tableFinds", fn := fun _ => fun
  | [d1, d2, d3, d4, d5] => { results := [.lit (.bool false)], args := [d1, d2, d3, d4, d5] }
  | _ => none }
def TableFindsWrongFalsely : Prop := tableFindsRow.holds Try.pinned (OpenSpec.ofChange tableFindsWrong)

/-- 'vouchlaw10.TableClones': WHATEVER THE INPUT: true; the input reads as it did. -/
def tableClonesSpec : ChangeSpec := { name := "tableClones", fn := fun _ => fun
  | [d1, d2] => { results := [.lit (.bool true)], args := [d1, d2] }
  | _ => none }
def tableClonesRow : OpenClaim := { program := "ytldmkhakjnglmaa", sum := "ec436f413075514e887cdb71a657d8dfe5d019ad7d8bb88a8d474a4addcc0ba8", func := "vouch/vouchlaw10.TableClones", spec := "tableClones", inPlace := ["slices.overlaps[vouch/api.Entry]"], unfollowed := true, recurses := true, apart := false }
def TableClonesSaid : Prop := tableClonesRow.holds Try.pinned (OpenSpec.ofChange tableClonesSpec)

/-- ITS FALSE NEIGHBOUR: 'it returns false'. Refute it at one input. -/
def tableClonesWrong : ChangeSpec := { name := "tableClones", fn := fun _ => fun
  | [d1, d2] => { results := [.lit (.bool false)], args := [d1, d2] }
  | _ => none }
def TableClonesWrongFalsely : Prop := tableClonesRow.holds Try.pinned (OpenSpec.ofChange tableClonesWrong)

/-- 'vouchlaw10.TableNone': WHATEVER THE INPUT: true; the input reads as it did. -/
def tableNoneSpec : ChangeSpec := { name := "tableNone", fn := fun _ => fun
  | [d] => { results := [.lit (.bool true)], args := [d] }
  | _ => none }
def tableNoneRow : OpenClaim := { program := "ytldmkhakjnglmaa", sum := "ec436f413075514e887cdb71a657d8dfe5d019ad7d8bb88a8d474a4addcc0ba8", func := "vouch/vouchlaw10.TableNone", spec := "tableNone", inPlace := ["slices.overlaps[vouch/api.Entry]"], unfollowed := true, recurses := true, apart := false }
def TableNoneSaid : Prop := tableNoneRow.holds Try.pinned (OpenSpec.ofChange tableNoneSpec)

/-- ITS FALSE NEIGHBOUR: 'it returns false'. Refute it at one input. -/
def tableNoneWrong : ChangeSpec := { name := "tableNone", fn := fun _ => fun
  | [d] => { results := [.lit (.bool false)], args := [d] }
  | _ => none }
def TableNoneWrongFalsely : Prop := tableNoneRow.holds Try.pinned (OpenSpec.ofChange tableNoneWrong)

/- THE SECOND FORM. 'bulk': how many values and letters a reading holds, each counted each time it is reached (what is shared counts as often as it is met; a slice's spare places count too). A statement '..UptoSaid' is the law's where the arguments, and the package variables that the reading takes, are together of bulk at most 1048576: NARROWER than '..Said'. Prove '..Said' where nothing that the law and all that it calls make is longer than what came in: it says more and counts as full. Else prove '..UptoSaid'. A law counts once. -/
mutual
def uptoBulk {H : Type} : DataW H → Nat
  | .lit (.string bytes) => bytes.length + 1
  | .lit _ => 1
  | .nil => 1
  | .ptr d => uptoBulk d + 1
  | .slice elems spare => uptoBulkAll elems + uptoBulkAll spare + 1
  | .agg parts => uptoBulkAll parts + 1
  | .iface _ d => uptoBulk d + 1
  | .map entries => uptoBulkEntries entries + 1
  | .held _ => 1
def uptoBulkAll {H : Type} : List (DataW H) → Nat
  | [] => 0
  | d :: r => uptoBulk d + uptoBulkAll r
def uptoBulkEntries {H : Type} : List (Lit × DataW H) → Nat
  | [] => 0
  | x :: r => uptoBulkEntry x + uptoBulkEntries r
def uptoBulkEntry {H : Type} : Lit × DataW H → Nat
  | (.string bytes, d) => bytes.length + uptoBulk d + 1
  | (_, d) => uptoBulk d + 1
 end
def uptoSmall : (H : Type) → List (DataW H) → Bool := fun _ ds => decide (uptoBulkAll ds ≤ 1048576)
def OpenSpec.upto (s : _root_.Go.ChangeSpec) : _root_.Go.OpenSpec := { _root_.Go.OpenSpec.ofChange s with cond := some uptoSmall }

/-- 'vouchlaw10.TablePlays', WHERE WHAT IT READS IS OF BULK AT MOST 1048576: true; the input reads as it did. -/
def tablePlaysUptoRow : OpenClaim := { program := "ytldmkhakjnglmaa", sum := "ec436f413075514e887cdb71a657d8dfe5d019ad7d8bb88a8d474a4addcc0ba8", func := "vouch/vouchlaw10.TablePlays", spec := "tablePlays", inPlace := ["slices.overlaps[vouch/api.Entry]"], unfollowed := true, recurses := true, apart := false, narrowed := true }
def TablePlaysUptoSaid : Prop := tablePlaysUptoRow.holds Try.pinned (OpenSpec.upto tablePlaysSpec)

/-- 'vouchlaw10.TableFinds', WHERE WHAT IT READS IS OF BULK AT MOST 1048576: true; the input reads as it did. -/
def tableFindsUptoRow : OpenClaim := { program := "ytldmkhakjnglmaa", sum := "ec436f413075514e887cdb71a657d8dfe5d019ad7d8bb88a8d474a4addcc0ba8", func := "vouch/vouchlaw10.TableFinds", spec := "tableFinds", inPlace := ["slices.overlaps[vouch/api.Entry]"], unfollowed := true, recurses := true, apart := false, narrowed := true }
def TableFindsUptoSaid : Prop := tableFindsUptoRow.holds Try.pinned (OpenSpec.upto tableFindsSpec)

/-- 'vouchlaw10.TableClones', WHERE WHAT IT READS IS OF BULK AT MOST 1048576: true; the input reads as it did. -/
def tableClonesUptoRow : OpenClaim := { program := "ytldmkhakjnglmaa", sum := "ec436f413075514e887cdb71a657d8dfe5d019ad7d8bb88a8d474a4addcc0ba8", func := "vouch/vouchlaw10.TableClones", spec := "tableClones", inPlace := ["slices.overlaps[vouch/api.Entry]"], unfollowed := true, recurses := true, apart := false, narrowed := true }
def TableClonesUptoSaid : Prop := tableClonesUptoRow.holds Try.pinned (OpenSpec.upto tableClonesSpec)

/-- 'vouchlaw10.TableNone', WHERE WHAT IT READS IS OF BULK AT MOST 1048576: true; the input reads as it did. -/
def tableNoneUptoRow : OpenClaim := { program := "ytldmkhakjnglmaa", sum := "ec436f413075514e887cdb71a657d8dfe5d019ad7d8bb88a8d474a4addcc0ba8", func := "vouch/vouchlaw10.TableNone", spec := "tableNone", inPlace := ["slices.overlaps[vouch/api.Entry]"], unfollowed := true, recurses := true, apart := false, narrowed := true }
def TableNoneUptoSaid : Prop := tableNoneUptoRow.holds Try.pinned (OpenSpec.upto tableNoneSpec)

end Rows
end Go.Proofs.Ytldmkhakjnglmaa
