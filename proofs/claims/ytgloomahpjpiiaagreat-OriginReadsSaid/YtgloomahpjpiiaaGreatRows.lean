/-
  No cell of these rows narrows 'for every input' (looked for: loops, veiled, ifaces, maps, wideKeys, modest, calm, conditions, laid).
  DERIVED. THE GIVEN ROWS OF THIS SEAT. 3 by the template 'for every input the law returns true; each argument reads behind the call as it read before'; 0 by the template 'total and deterministic' (their statements: YtgloomahpjpiiaaGreatTotals.lean).
  GIVEN WITH THE SEED: the statements are not yours to turn. If you find one false, say at which input.
  Laid BY PROGRAM, IN A SANDBOX (cutbox-rows.mjs): the forced cells as the released guide's own fill.sh prints them over the translation 5120bbd0880ca29a… (all of the seat's roots in one cut). By AI agents, Wed Nov 11 2026. No macro, syntax, notation, axiom, sorry.
-/
import Derived.Test.YtgloomahpjpiiaaGreatChecked
import GoSem.Claim
import GoSem.ClaimJoined
import GoSem.ClaimMapViews
import Derived.JoinedTies
import Derived.KernelRfl
namespace Go.Proofs.YtgloomahpjpiiaaGreat
/- THE CELL 'sum', in the pinned program and in every row, IS THE sha256 OF THE DUMP (.gsa) THAT YtgloomahpjpiiaaGreatProg.lean LOADS. Nothing in Lean hashes anything: it is a label: what it is worth is what the hold of that sum in a sandbox is worth. -/
noncomputable def Tryz.pinned : Pinned := { name := "ytgloomahpjpiiaagreat", sum := "5120bbd0880ca29a18f61257edd10f6a03e8328916faf9352fe838d227701aa1", checked := Tryz.checked }
namespace Rows
def none {H : Type} : Left H := { results := [], args := [] }

/-- 'vouchlaw15.OriginPlays': WHATEVER THE INPUT: true; the input reads as it did. -/
def originPlaysSpec : ChangeSpec := { name := "originPlays", fn := fun _ => fun
  | [d1, d2] => { results := [.lit (.bool true)], args := [d1, d2] }
  | _ => none }
def originPlaysRow : OpenClaim := { program := "ytgloomahpjpiiaagreat", sum := "5120bbd0880ca29a18f61257edd10f6a03e8328916faf9352fe838d227701aa1", func := "vouch/vouchlaw15.OriginPlays", spec := "originPlays", unfollowed := true, recurses := true, apart := false }
def OriginPlaysSaid : Prop := originPlaysRow.holds Tryz.pinned (OpenSpec.ofChange originPlaysSpec)

/-- ITS FALSE NEIGHBOUR: 'it returns false'. Refute it at one input. -/
def originPlaysWrong : ChangeSpec := { name := "originPlays", fn := fun _ => fun
  | [d1, d2] => { results := [.lit (.bool false)], args := [d1, d2] }
  | _ => none }
def OriginPlaysWrongFalsely : Prop := originPlaysRow.holds Tryz.pinned (OpenSpec.ofChange originPlaysWrong)

/-- 'vouchlaw15.OriginReads': WHATEVER THE INPUT: true; the input reads as it did. -/
def originReadsSpec : ChangeSpec := { name := "originReads", fn := fun _ => fun
  | [d1, d2, d3, d4, d5] => { results := [.lit (.bool true)], args := [d1, d2, d3, d4, d5] }
  | _ => none }
def originReadsRow : OpenClaim := { program := "ytgloomahpjpiiaagreat", sum := "5120bbd0880ca29a18f61257edd10f6a03e8328916faf9352fe838d227701aa1", func := "vouch/vouchlaw15.OriginReads", spec := "originReads", unfollowed := true, recurses := true, apart := false }
def OriginReadsSaid : Prop := originReadsRow.holds Tryz.pinned (OpenSpec.ofChange originReadsSpec)

/-- ITS FALSE NEIGHBOUR: 'it returns false'. Refute it at one input. -/
def originReadsWrong : ChangeSpec := { name := "originReads", fn := fun _ => fun
  | [d1, d2, d3, d4, d5] => { results := [.lit (.bool false)], args := [d1, d2, d3, d4, d5] }
  | _ => none }
def OriginReadsWrongFalsely : Prop := originReadsRow.holds Tryz.pinned (OpenSpec.ofChange originReadsWrong)

/-- 'vouchlaw15.OriginClones': WHATEVER THE INPUT: true; the input reads as it did. -/
def originClonesSpec : ChangeSpec := { name := "originClones", fn := fun _ => fun
  | [d1, d2, d3] => { results := [.lit (.bool true)], args := [d1, d2, d3] }
  | _ => none }
def originClonesRow : OpenClaim := { program := "ytgloomahpjpiiaagreat", sum := "5120bbd0880ca29a18f61257edd10f6a03e8328916faf9352fe838d227701aa1", func := "vouch/vouchlaw15.OriginClones", spec := "originClones", inPlace := ["maps.clone"], unfollowed := true, recurses := true, apart := false }
def OriginClonesSaid : Prop := originClonesRow.holds Tryz.pinned (OpenSpec.ofChange originClonesSpec)

/-- ITS FALSE NEIGHBOUR: 'it returns false'. Refute it at one input. -/
def originClonesWrong : ChangeSpec := { name := "originClones", fn := fun _ => fun
  | [d1, d2, d3] => { results := [.lit (.bool false)], args := [d1, d2, d3] }
  | _ => none }
def OriginClonesWrongFalsely : Prop := originClonesRow.holds Tryz.pinned (OpenSpec.ofChange originClonesWrong)

/- THE SECOND FORM. 'bulk': how many values and letters a reading holds, each counted each time it is reached (what is shared counts as often as it is met; a slice's spare places count too). A statement '..UptoSaid' is the law's where the arguments, and the package variables that the reading takes, are together of bulk at most 1048576: NARROWER than '..Said'. Prove '..Said' where nothing that the law and all that it calls make is longer than what came in: it says more and counts as full. Else prove '..UptoSaid'. A law counts once. -/
mutual
def uptoBulk {H : Type} : DataW H → Nat
  | .lit (.string bytes) => bytes.length + 1
  | .lit _ => 1
  | .nil => 1
  | .ptr d => uptoBulk d + 1
  | .slice elems spare => uptoBulkAll elems + uptoBulkAll spare + 1
  | .agg parts => uptoBulkAll parts + 1
  | .iface _ d => uptoBulk d + 1
  | .map entries => uptoBulkEntries entries + 1
  | .held _ => 1
def uptoBulkAll {H : Type} : List (DataW H) → Nat
  | [] => 0
  | d :: r => uptoBulk d + uptoBulkAll r
def uptoBulkEntries {H : Type} : List (Lit × DataW H) → Nat
  | [] => 0
  | x :: r => uptoBulkEntry x + uptoBulkEntries r
def uptoBulkEntry {H : Type} : Lit × DataW H → Nat
  | (.string bytes, d) => bytes.length + uptoBulk d + 1
  | (_, d) => uptoBulk d + 1
 end
def uptoSmall : (H : Type) → List (DataW H) → Bool := fun _ ds => decide (uptoBulkAll ds ≤ 1048576)
def OpenSpec.upto (s : _root_.Go.ChangeSpec) : _root_.Go.OpenSpec := { _root_.Go.OpenSpec.ofChange s with cond := some uptoSmall }

/-- 'vouchlaw15.OriginPlays', WHERE WHAT IT READS IS OF BULK AT MOST 1048576: true; the input reads as it did. -/
def originPlaysUptoRow : OpenClaim := { program := "ytgloomahpjpiiaagreat", sum := "5120bbd0880ca29a18f61257edd10f6a03e8328916faf9352fe838d227701aa1", func := "vouch/vouchlaw15.OriginPlays", spec := "originPlays", unfollowed := true, recurses := true, apart := false, narrowed := true }
def OriginPlaysUptoSaid : Prop := originPlaysUptoRow.holds Tryz.pinned (OpenSpec.upto originPlaysSpec)

/-- 'vouchlaw15.OriginReads', WHERE WHAT IT READS IS OF BULK AT MOST 1048576: true; the input reads as it did. -/
def originReadsUptoRow : OpenClaim := { program := "ytgloomahpjpiiaagreat", sum := "5120bbd0880ca29a18f61257edd10f6a03e8328916faf9352fe838d227701aa1", func := "vouch/vouchlaw15.OriginReads", spec := "originReads", unfollowed := true, recurses := true, apart := false, narrowed := true }
def OriginReadsUptoSaid : Prop := originReadsUptoRow.holds Tryz.pinned (OpenSpec.upto originReadsSpec)

/-- 'vouchlaw15.OriginClones', WHERE WHAT IT READS IS OF BULK AT MOST 1048576: true; the input reads as it did. -/
def originClonesUptoRow : OpenClaim := { program := "ytgloomahpjpiiaagreat", sum := "5120bbd0880ca29a18f61257edd10f6a03e8328916faf9352fe838d227701aa1", func := "vouch/vouchlaw15.OriginClones", spec := "originClones", inPlace := ["maps.clone"], unfollowed := true, recurses := true, apart := false, narrowed := true }
def OriginClonesUptoSaid : Prop := originClonesUptoRow.holds Tryz.pinned (OpenSpec.upto originClonesSpec)

end Rows
end Go.Proofs.YtgloomahpjpiiaaGreat
