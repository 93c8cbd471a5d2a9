/-
  No cell of these rows narrows 'for every input' (looked for: loops, veiled, ifaces, maps, wideKeys, modest, calm, conditions, laid).
  DERIVED. THE GIVEN ROWS OF THIS SEAT. 3 by the template 'for every input the law returns true; each argument reads behind the call as it read before'; 0 by the template 'total and deterministic' (their statements: YtgloomahpjpiiaaTotals.lean).
  GIVEN WITH THE SEED: the statements are not yours to turn. If you find one false, say at which input.
  Laid BY PROGRAM, IN A SANDBOX (cutbox-rows.mjs): the forced cells as the released guide's own fill.sh prints them over the translation f221176f653d5e91… (all of the seat's roots in one cut). By AI agents, Wed Nov 11 2026. No macro, syntax, notation, axiom, sorry.
-/
import Derived.Test.YtgloomahpjpiiaaChecked
import GoSem.Claim
import GoSem.ClaimJoined
import GoSem.ClaimMapViews
import Derived.JoinedTies
import Derived.KernelRfl
namespace Go.Proofs.Ytgloomahpjpiiaa
/- THE CELL 'sum', in the pinned program and in every row, IS THE sha256 OF THE DUMP (.gsa) THAT YtgloomahpjpiiaaProg.lean LOADS. Nothing in Lean hashes anything: it is a label: what it is worth is what the hold of that sum in a sandbox is worth. -/
noncomputable def Try.pinned : Pinned := { name := "ytgloomahpjpiiaa", sum := "f221176f653d5e910840511b7cabb522ec65fabb94404f796009a3af73249a50", checked := Try.checked }
namespace Rows
def none {H : Type} : Left H := { results := [], args := [] }

/-- 'vouchlaw15.OriginOnce': WHATEVER THE INPUT: true; the input reads as it did. -/
def originOnceSpec : ChangeSpec := { name := "originOnce", fn := fun _ => fun
  | [d1, d2] => { results := [.lit (.bool true)], args := [d1, d2] }
  | _ => none }
def originOnceRow : OpenClaim := { program := "ytgloomahpjpiiaa", sum := "f221176f653d5e910840511b7cabb522ec65fabb94404f796009a3af73249a50", func := "vouch/vouchlaw15.OriginOnce", spec := "originOnce", unfollowed := true, recurses := true, apart := false }
def OriginOnceSaid : Prop := originOnceRow.holds Try.pinned (OpenSpec.ofChange originOnceSpec)

/-- ITS FALSE NEIGHBOUR: 'it returns false'. Refute it at one input. -/
def originOnceWrong : ChangeSpec := { name := "originOnce", fn := fun _ => fun
  | [d1, d2] => { results := [.lit (.bool false)], args := [d1, d2] }
  | _ => none }
def OriginOnceWrongFalsely : Prop := originOnceRow.holds Try.pinned (OpenSpec.ofChange originOnceWrong)

/-- 'vouchlaw15.OriginTells': WHATEVER THE INPUT: true; the input reads as it did. -/
def originTellsSpec : ChangeSpec := { name := "originTells", fn := fun _ => fun
  | [d1, d2, d3, d4] => { results := [.lit (.bool true)], args := [d1, d2, d3, d4] }
  | _ => none }
def originTellsRow : OpenClaim := { program := "ytgloomahpjpiiaa", sum := "f221176f653d5e910840511b7cabb522ec65fabb94404f796009a3af73249a50", func := "vouch/vouchlaw15.OriginTells", spec := "originTells", unfollowed := true, recurses := true, apart := false }
def OriginTellsSaid : Prop := originTellsRow.holds Try.pinned (OpenSpec.ofChange originTellsSpec)

/-- ITS FALSE NEIGHBOUR: 'it returns false'. Refute it at one input. -/
def originTellsWrong : ChangeSpec := { name := "originTells", fn := fun _ => fun
  | [d1, d2, d3, d4] => { results := [.lit (.bool false)], args := [d1, d2, d3, d4] }
  | _ => none }
def OriginTellsWrongFalsely : Prop := originTellsRow.holds Try.pinned (OpenSpec.ofChange originTellsWrong)

/-- 'vouchlaw15.OriginNone': WHATEVER THE INPUT: true; the input reads as it did. -/
def originNoneSpec : ChangeSpec := { name := "originNone", fn := fun _ => fun
  | [d1, d2, d3, d4] => { results := [.lit (.bool true)], args := [d1, d2, d3, d4] }
  | _ => none }
def originNoneRow : OpenClaim := { program := "ytgloomahpjpiiaa", sum := "f221176f653d5e910840511b7cabb522ec65fabb94404f796009a3af73249a50", func := "vouch/vouchlaw15.OriginNone", spec := "originNone", inPlace := ["maps.clone"], unfollowed := true, recurses := true, apart := false }
def OriginNoneSaid : Prop := originNoneRow.holds Try.pinned (OpenSpec.ofChange originNoneSpec)

/-- ITS FALSE NEIGHBOUR: 'it returns false'. Refute it at one input. -/
def originNoneWrong : ChangeSpec := { name := "originNone", fn := fun _ => fun
  | [d1, d2, d3, d4] => { results := [.lit (.bool false)], args := [d1, d2, d3, d4] }
  | _ => none }
def OriginNoneWrongFalsely : Prop := originNoneRow.holds Try.pinned (OpenSpec.ofChange originNoneWrong)

/- THE SECOND FORM. 'bulk': how many values and letters a reading holds, each counted each time it is reached (what is shared counts as often as it is met; a slice's spare places count too). A statement '..UptoSaid' is the law's where the arguments, and the package variables that the reading takes, are together of bulk at most 1048576: NARROWER than '..Said'. Prove '..Said' where nothing that the law and all that it calls make is longer than what came in: it says more and counts as full. Else prove '..UptoSaid'. A law counts once. -/
mutual
def uptoBulk {H : Type} : DataW H → Nat
  | .lit (.string bytes) => bytes.length + 1
  | .lit _ => 1
  | .nil => 1
  | .ptr d => uptoBulk d + 1
  | .slice elems spare => uptoBulkAll elems + uptoBulkAll spare + 1
  | .agg parts => uptoBulkAll parts + 1
  | .iface _ d => uptoBulk d + 1
  | .map entries => uptoBulkEntries entries + 1
  | .held _ => 1
def uptoBulkAll {H : Type} : List (DataW H) → Nat
  | [] => 0
  | d :: r => uptoBulk d + uptoBulkAll r
def uptoBulkEntries {H : Type} : List (Lit × DataW H) → Nat
  | [] => 0
  | x :: r => uptoBulkEntry x + uptoBulkEntries r
def uptoBulkEntry {H : Type} : Lit × DataW H → Nat
  | (.string bytes, d) => bytes.length + uptoBulk d + 1
  | (_, d) => uptoBulk d + 1
 end
def uptoSmall : (H : Type) → List (DataW H) → Bool := fun _ ds => decide (uptoBulkAll ds ≤ 1048576)
def OpenSpec.upto (s : _root_.Go.ChangeSpec) : _root_.Go.OpenSpec := { _root_.Go.OpenSpec.ofChange s with cond := some uptoSmall }

/-- 'vouchlaw15.OriginOnce', WHERE WHAT IT READS IS OF BULK AT MOST 1048576: true; the input reads as it did. -/
def originOnceUptoRow : OpenClaim := { program := "ytgloomahpjpiiaa", sum := "f221176f653d5e910840511b7cabb522ec65fabb94404f796009a3af73249a50", func := "vouch/vouchlaw15.OriginOnce", spec := "originOnce", unfollowed := true, recurses := true, apart := false, narrowed := true }
def OriginOnceUptoSaid : Prop := originOnceUptoRow.holds Try.pinned (OpenSpec.upto originOnceSpec)

/-- 'vouchlaw15.OriginTells', WHERE WHAT IT READS IS OF BULK AT MOST 1048576: true; the input reads as it did. -/
def originTellsUptoRow : OpenClaim := { program := "ytgloomahpjpiiaa", sum := "f221176f653d5e910840511b7cabb522ec65fabb94404f796009a3af73249a50", func := "vouch/vouchlaw15.OriginTells", spec := "originTells", unfollowed := true, recurses := true, apart := false, narrowed := true }
def OriginTellsUptoSaid : Prop := originTellsUptoRow.holds Try.pinned (OpenSpec.upto originTellsSpec)

/-- 'vouchlaw15.OriginNone', WHERE WHAT IT READS IS OF BULK AT MOST 1048576: true; the input reads as it did. -/
def originNoneUptoRow : OpenClaim := { program := "ytgloomahpjpiiaa", sum := "f221176f653d5e910840511b7cabb522ec65fabb94404f796009a3af73249a50", func := "vouch/vouchlaw15.OriginNone", spec := "originNone", inPlace := ["maps.clone"], unfollowed := true, recurses := true, apart := false, narrowed := true }
def OriginNoneUptoSaid : Prop := originNoneUptoRow.holds Try.pinned (OpenSpec.upto originNoneSpec)

end Rows
end Go.Proofs.Ytgloomahpjpiiaa
