/-
  No cell of these rows narrows 'for every input' (looked for: loops, veiled, ifaces, maps, wideKeys, modest, calm, conditions, laid).
  DERIVED. THE GIVEN ROWS OF THIS SEAT. 11 by the template 'for every input the law returns true; each argument reads behind the call as it read before'; 0 by the template 'total and deterministic' (their statements: YtomlgkecckffeaaGreatTotals.lean).
  GIVEN WITH THE SEED: the statements are not yours to turn. If you find one false, say at which input.
  Laid BY PROGRAM, IN A SANDBOX (cutbox-rows.mjs): the forced cells as the released guide's own fill.sh prints them over the translation 5d93b86b7178d39b… (all of the seat's roots in one cut). By AI agents, Wed Nov 11 2026. No macro, syntax, notation, axiom, sorry.
-/
import Derived.Test.YtomlgkecckffeaaGreatChecked
import GoSem.Claim
import GoSem.ClaimJoined
import GoSem.ClaimMapViews
import Derived.JoinedTies
import Derived.KernelRfl
namespace Go.Proofs.YtomlgkecckffeaaGreat
/- THE CELL 'sum', in the pinned program and in every row, IS THE sha256 OF THE DUMP (.gsa) THAT YtomlgkecckffeaaGreatProg.lean LOADS. Nothing in Lean hashes anything: it is a label: what it is worth is what the hold of that sum in a sandbox is worth. -/
noncomputable def Tryz.pinned : Pinned := { name := "ytomlgkecckffeaagreat", sum := "5d93b86b7178d39bb6826f0fa9e770ed05bacc5e936e251de91435d2195750b2", checked := Tryz.checked }
namespace Rows
def none {H : Type} : Left H := { results := [], args := [] }

/-- 'vouchlaw12.NodeKeys': WHATEVER THE INPUT: true; the input reads as it did. -/
def nodeKeysSpec : ChangeSpec := { name := "nodeKeys", fn := fun _ => fun
  | [d1, d2] => { results := [.lit (.bool true)], args := [d1, d2] }
  | _ => none }
def nodeKeysRow : OpenClaim := { program := "ytomlgkecckffeaagreat", sum := "5d93b86b7178d39bb6826f0fa9e770ed05bacc5e936e251de91435d2195750b2", func := "vouch/vouchlaw12.NodeKeys", spec := "nodeKeys", inPlace := ["slices.overlaps[vouch/api.Entry]"], unfollowed := true, recurses := true, apart := false }
def NodeKeysSaid : Prop := nodeKeysRow.holds Tryz.pinned (OpenSpec.ofChange nodeKeysSpec)

/-- ITS FALSE NEIGHBOUR: 'it returns false'. Refute it at one input. -/
def nodeKeysWrong : ChangeSpec := { name := "nodeKeys", fn := fun _ => fun
  | [d1, d2] => { results := [.lit (.bool false)], args := [d1, d2] }
  | _ => none }
def NodeKeysWrongFalsely : Prop := nodeKeysRow.holds Tryz.pinned (OpenSpec.ofChange nodeKeysWrong)

/-- 'vouchlaw12.NodeAnswers': WHATEVER THE INPUT: true; the input reads as it did. -/
def nodeAnswersSpec : ChangeSpec := { name := "nodeAnswers", fn := fun _ => fun
  | [d1, d2, d3, d4] => { results := [.lit (.bool true)], args := [d1, d2, d3, d4] }
  | _ => none }
def nodeAnswersRow : OpenClaim := { program := "ytomlgkecckffeaagreat", sum := "5d93b86b7178d39bb6826f0fa9e770ed05bacc5e936e251de91435d2195750b2", func := "vouch/vouchlaw12.NodeAnswers", spec := "nodeAnswers", inPlace := ["slices.overlaps[vouch/api.Entry]"], unfollowed := true, recurses := true, apart := false }
def NodeAnswersSaid : Prop := nodeAnswersRow.holds Tryz.pinned (OpenSpec.ofChange nodeAnswersSpec)

/-- ITS FALSE NEIGHBOUR: 'it returns false'. Refute it at one input. -/
def nodeAnswersWrong : ChangeSpec := { name := "nodeAnswers", fn := fun _ => fun
  | [d1, d2, d3, d4] => { results := [.lit (.bool false)], args := [d1, d2, d3, d4] }
  | _ => none }
def NodeAnswersWrongFalsely : Prop := nodeAnswersRow.holds Tryz.pinned (OpenSpec.ofChange nodeAnswersWrong)

/-- 'vouchlaw12.NodeStays': WHATEVER THE INPUT: true; the input reads as it did. -/
def nodeStaysSpec : ChangeSpec := { name := "nodeStays", fn := fun _ => fun
  | [d1, d2, d3, d4, d5, d6] => { results := [.lit (.bool true)], args := [d1, d2, d3, d4, d5, d6] }
  | _ => none }
def nodeStaysRow : OpenClaim := { program := "ytomlgkecckffeaagreat", sum := "5d93b86b7178d39bb6826f0fa9e770ed05bacc5e936e251de91435d2195750b2", func := "vouch/vouchlaw12.NodeStays", spec := "nodeStays", inPlace := ["slices.overlaps[vouch/api.Entry]"], unfollowed := true, recurses := true, apart := false }
def NodeStaysSaid : Prop := nodeStaysRow.holds Tryz.pinned (OpenSpec.ofChange nodeStaysSpec)

/-- ITS FALSE NEIGHBOUR: 'it returns false'. Refute it at one input. -/
def nodeStaysWrong : ChangeSpec := { name := "nodeStays", fn := fun _ => fun
  | [d1, d2, d3, d4, d5, d6] => { results := [.lit (.bool false)], args := [d1, d2, d3, d4, d5, d6] }
  | _ => none }
def NodeStaysWrongFalsely : Prop := nodeStaysRow.holds Tryz.pinned (OpenSpec.ofChange nodeStaysWrong)

/-- 'vouchlaw12.NodeBounds': WHATEVER THE INPUT: true; the input reads as it did. -/
def nodeBoundsSpec : ChangeSpec := { name := "nodeBounds", fn := fun _ => fun
  | [d1, d2] => { results := [.lit (.bool true)], args := [d1, d2] }
  | _ => none }
def nodeBoundsRow : OpenClaim := { program := "ytomlgkecckffeaagreat", sum := "5d93b86b7178d39bb6826f0fa9e770ed05bacc5e936e251de91435d2195750b2", func := "vouch/vouchlaw12.NodeBounds", spec := "nodeBounds", inPlace := ["slices.overlaps[vouch/api.Entry]"], unfollowed := true, recurses := true, apart := false }
def NodeBoundsSaid : Prop := nodeBoundsRow.holds Tryz.pinned (OpenSpec.ofChange nodeBoundsSpec)

/-- ITS FALSE NEIGHBOUR: 'it returns false'. Refute it at one input. -/
def nodeBoundsWrong : ChangeSpec := { name := "nodeBounds", fn := fun _ => fun
  | [d1, d2] => { results := [.lit (.bool false)], args := [d1, d2] }
  | _ => none }
def NodeBoundsWrongFalsely : Prop := nodeBoundsRow.holds Tryz.pinned (OpenSpec.ofChange nodeBoundsWrong)

/-- 'vouchlaw12.NodeSqueezes': WHATEVER THE INPUT: true; the input reads as it did. -/
def nodeSqueezesSpec : ChangeSpec := { name := "nodeSqueezes", fn := fun _ => fun
  | [d1, d2] => { results := [.lit (.bool true)], args := [d1, d2] }
  | _ => none }
def nodeSqueezesRow : OpenClaim := { program := "ytomlgkecckffeaagreat", sum := "5d93b86b7178d39bb6826f0fa9e770ed05bacc5e936e251de91435d2195750b2", func := "vouch/vouchlaw12.NodeSqueezes", spec := "nodeSqueezes", inPlace := ["slices.overlaps[vouch/api.Entry]"], unfollowed := true, recurses := true, apart := false }
def NodeSqueezesSaid : Prop := nodeSqueezesRow.holds Tryz.pinned (OpenSpec.ofChange nodeSqueezesSpec)

/-- ITS FALSE NEIGHBOUR: 'it returns false'. Refute it at one input. -/
def nodeSqueezesWrong : ChangeSpec := { name := "nodeSqueezes", fn := fun _ => fun
  | [d1, d2] => { results := [.lit (.bool false)], args := [d1, d2] }
  | _ => none }
def NodeSqueezesWrongFalsely : Prop := nodeSqueezesRow.holds Tryz.pinned (OpenSpec.ofChange nodeSqueezesWrong)

/-- 'vouchlaw12.NodeSound': WHATEVER THE INPUT: true; the input reads as it did. -/
def nodeSoundSpec : ChangeSpec := { name := "nodeSound", fn := fun _ => fun
  | [d1, d2, d3] => { results := [.lit (.bool true)], args := [d1, d2, d3] }
  | _ => none }
def nodeSoundRow : OpenClaim := { program := "ytomlgkecckffeaagreat", sum := "5d93b86b7178d39bb6826f0fa9e770ed05bacc5e936e251de91435d2195750b2", func := "vouch/vouchlaw12.NodeSound", spec := "nodeSound", inPlace := ["slices.overlaps[vouch/api.Entry]"], unfollowed := true, recurses := true, apart := false }
def NodeSoundSaid : Prop := nodeSoundRow.holds Tryz.pinned (OpenSpec.ofChange nodeSoundSpec)

/-- ITS FALSE NEIGHBOUR: 'it returns false'. Refute it at one input. -/
def nodeSoundWrong : ChangeSpec := { name := "nodeSound", fn := fun _ => fun
  | [d1, d2, d3] => { results := [.lit (.bool false)], args := [d1, d2, d3] }
  | _ => none }
def NodeSoundWrongFalsely : Prop := nodeSoundRow.holds Tryz.pinned (OpenSpec.ofChange nodeSoundWrong)

/-- 'vouchlaw12.NodePlays': WHATEVER THE INPUT: true; the input reads as it did. -/
def nodePlaysSpec : ChangeSpec := { name := "nodePlays", fn := fun _ => fun
  | [d1, d2] => { results := [.lit (.bool true)], args := [d1, d2] }
  | _ => none }
def nodePlaysRow : OpenClaim := { program := "ytomlgkecckffeaagreat", sum := "5d93b86b7178d39bb6826f0fa9e770ed05bacc5e936e251de91435d2195750b2", func := "vouch/vouchlaw12.NodePlays", spec := "nodePlays", inPlace := ["slices.overlaps[vouch/api.Entry]"], unfollowed := true, recurses := true, apart := false }
def NodePlaysSaid : Prop := nodePlaysRow.holds Tryz.pinned (OpenSpec.ofChange nodePlaysSpec)

/-- ITS FALSE NEIGHBOUR: 'it returns false'. Refute it at one input. -/
def nodePlaysWrong : ChangeSpec := { name := "nodePlays", fn := fun _ => fun
  | [d1, d2] => { results := [.lit (.bool false)], args := [d1, d2] }
  | _ => none }
def NodePlaysWrongFalsely : Prop := nodePlaysRow.holds Tryz.pinned (OpenSpec.ofChange nodePlaysWrong)

/-- 'vouchlaw12.NodeClones': WHATEVER THE INPUT: true; the input reads as it did. -/
def nodeClonesSpec : ChangeSpec := { name := "nodeClones", fn := fun _ => fun
  | [d1, d2, d3] => { results := [.lit (.bool true)], args := [d1, d2, d3] }
  | _ => none }
def nodeClonesRow : OpenClaim := { program := "ytomlgkecckffeaagreat", sum := "5d93b86b7178d39bb6826f0fa9e770ed05bacc5e936e251de91435d2195750b2", func := "vouch/vouchlaw12.NodeClones", spec := "nodeClones", inPlace := ["slices.overlaps[vouch/api.Entry]", "maps.clone"], unfollowed := true, recurses := true, apart := false }
def NodeClonesSaid : Prop := nodeClonesRow.holds Tryz.pinned (OpenSpec.ofChange nodeClonesSpec)

/-- ITS FALSE NEIGHBOUR: 'it returns false'. Refute it at one input. -/
def nodeClonesWrong : ChangeSpec := { name := "nodeClones", fn := fun _ => fun
  | [d1, d2, d3] => { results := [.lit (.bool false)], args := [d1, d2, d3] }
  | _ => none }
def NodeClonesWrongFalsely : Prop := nodeClonesRow.holds Tryz.pinned (OpenSpec.ofChange nodeClonesWrong)

/-- 'vouchlaw12.NodeOver': WHATEVER THE INPUT: true; the input reads as it did. -/
def nodeOverSpec : ChangeSpec := { name := "nodeOver", fn := fun _ => fun
  | [d1, d2, d3] => { results := [.lit (.bool true)], args := [d1, d2, d3] }
  | _ => none }
def nodeOverRow : OpenClaim := { program := "ytomlgkecckffeaagreat", sum := "5d93b86b7178d39bb6826f0fa9e770ed05bacc5e936e251de91435d2195750b2", func := "vouch/vouchlaw12.NodeOver", spec := "nodeOver", inPlace := ["slices.overlaps[vouch/api.Entry]", "slices.overlaps[vouch/span.Span[int64]]"], unfollowed := true, recurses := true, apart := false }
def NodeOverSaid : Prop := nodeOverRow.holds Tryz.pinned (OpenSpec.ofChange nodeOverSpec)

/-- ITS FALSE NEIGHBOUR: 'it returns false'. Refute it at one input. -/
def nodeOverWrong : ChangeSpec := { name := "nodeOver", fn := fun _ => fun
  | [d1, d2, d3] => { results := [.lit (.bool false)], args := [d1, d2, d3] }
  | _ => none }
def NodeOverWrongFalsely : Prop := nodeOverRow.holds Tryz.pinned (OpenSpec.ofChange nodeOverWrong)

/-- 'vouchlaw12.NodeViews': WHATEVER THE INPUT: true; the input reads as it did. -/
def nodeViewsSpec : ChangeSpec := { name := "nodeViews", fn := fun _ => fun
  | [d1, d2] => { results := [.lit (.bool true)], args := [d1, d2] }
  | _ => none }
def nodeViewsRow : OpenClaim := { program := "ytomlgkecckffeaagreat", sum := "5d93b86b7178d39bb6826f0fa9e770ed05bacc5e936e251de91435d2195750b2", func := "vouch/vouchlaw12.NodeViews", spec := "nodeViews", inPlace := ["slices.overlaps[vouch/api.Entry]", "slices.overlaps[vouch/span.Span[int64]]"], unfollowed := true, recurses := true, apart := false }
def NodeViewsSaid : Prop := nodeViewsRow.holds Tryz.pinned (OpenSpec.ofChange nodeViewsSpec)

/-- ITS FALSE NEIGHBOUR: 'it returns false'. Refute it at one input. -/
def nodeViewsWrong : ChangeSpec := { name := "nodeViews", fn := fun _ => fun
  | [d1, d2] => { results := [.lit (.bool false)], args := [d1, d2] }
  | _ => none }
def NodeViewsWrongFalsely : Prop := nodeViewsRow.holds Tryz.pinned (OpenSpec.ofChange nodeViewsWrong)

/-- 'vouchlaw12.NodeNone': WHATEVER THE INPUT: true; the input reads as it did. -/
def nodeNoneSpec : ChangeSpec := { name := "nodeNone", fn := fun _ => fun
  | [d] => { results := [.lit (.bool true)], args := [d] }
  | _ => none }
def nodeNoneRow : OpenClaim := { program := "ytomlgkecckffeaagreat", sum := "5d93b86b7178d39bb6826f0fa9e770ed05bacc5e936e251de91435d2195750b2", func := "vouch/vouchlaw12.NodeNone", spec := "nodeNone", inPlace := ["slices.overlaps[vouch/api.Entry]", "slices.overlaps[vouch/span.Span[int64]]", "maps.clone"], unfollowed := true, recurses := true, apart := false }
def NodeNoneSaid : Prop := nodeNoneRow.holds Tryz.pinned (OpenSpec.ofChange nodeNoneSpec)

/-- ITS FALSE NEIGHBOUR: 'it returns false'. Refute it at one input. -/
def nodeNoneWrong : ChangeSpec := { name := "nodeNone", fn := fun _ => fun
  | [d] => { results := [.lit (.bool false)], args := [d] }
  | _ => none }
def NodeNoneWrongFalsely : Prop := nodeNoneRow.holds Tryz.pinned (OpenSpec.ofChange nodeNoneWrong)

/- THE SECOND FORM. 'bulk': how many values and letters a reading holds, each counted each time it is reached (what is shared counts as often as it is met; a slice's spare places count too). A statement '..UptoSaid' is the law's where the arguments, and the package variables that the reading takes, are together of bulk at most 1048576: NARROWER than '..Said'. Prove '..Said' where nothing that the law and all that it calls make is longer than what came in: it says more and counts as full. Else prove '..UptoSaid'. A law counts once. -/
mutual
def uptoBulk {H : Type} : DataW H → Nat
  | .lit (.string bytes) => bytes.length + 1
  | .lit _ => 1
  | .nil => 1
  | .ptr d => uptoBulk d + 1
  | .slice elems spare => uptoBulkAll elems + uptoBulkAll spare + 1
  | .agg parts => uptoBulkAll parts + 1
  | .iface _ d => uptoBulk d + 1
  | .map entries => uptoBulkEntries entries + 1
  | .held _ => 1
def uptoBulkAll {H : Type} : List (DataW H) → Nat
  | [] => 0
  | d :: r => uptoBulk d + uptoBulkAll r
def uptoBulkEntries {H : Type} : List (Lit × DataW H) → Nat
  | [] => 0
  | x :: r => uptoBulkEntry x + uptoBulkEntries r
def uptoBulkEntry {H : Type} : Lit × DataW H → Nat
  | (.string bytes, d) => bytes.length + uptoBulk d + 1
  | (_, d) => uptoBulk d + 1
 end
def uptoSmall : (H : Type) → List (DataW H) → Bool := fun _ ds => decide (uptoBulkAll ds ≤ 1048576)
def OpenSpec.upto (s : _root_.Go.ChangeSpec) : _root_.Go.OpenSpec := { _root_.Go.OpenSpec.ofChange s with cond := some uptoSmall }

/-- 'vouchlaw12.NodeKeys', WHERE WHAT IT READS IS OF BULK AT MOST 1048576: true; the input reads as it did. -/
def nodeKeysUptoRow : OpenClaim := { program := "ytomlgkecckffeaagreat", sum := "5d93b86b7178d39bb6826f0fa9e770ed05bacc5e936e251de91435d2195750b2", func := "vouch/vouchlaw12.NodeKeys", spec := "nodeKeys", inPlace := ["slices.overlaps[vouch/api.Entry]"], unfollowed := true, recurses := true, apart := false, narrowed := true }
def NodeKeysUptoSaid : Prop := nodeKeysUptoRow.holds Tryz.pinned (OpenSpec.upto nodeKeysSpec)

/-- 'vouchlaw12.NodeAnswers', WHERE WHAT IT READS IS OF BULK AT MOST 1048576: true; the input reads as it did. -/
def nodeAnswersUptoRow : OpenClaim := { program := "ytomlgkecckffeaagreat", sum := "5d93b86b7178d39bb6826f0fa9e770ed05bacc5e936e251de91435d2195750b2", func := "vouch/vouchlaw12.NodeAnswers", spec := "nodeAnswers", inPlace := ["slices.overlaps[vouch/api.Entry]"], unfollowed := true, recurses := true, apart := false, narrowed := true }
def NodeAnswersUptoSaid : Prop := nodeAnswersUptoRow.holds Tryz.pinned (OpenSpec.upto nodeAnswersSpec)

/-- 'vouchlaw12.NodeStays', WHERE WHAT IT READS IS OF BULK AT MOST 1048576: true; the input reads as it did. -/
def nodeStaysUptoRow : OpenClaim := { program := "ytomlgkecckffeaagreat", sum := "5d93b86b7178d39bb6826f0fa9e770ed05bacc5e936e251de91435d2195750b2", func := "vouch/vouchlaw12.NodeStays", spec := "nodeStays", inPlace := ["slices.overlaps[vouch/api.Entry]"], unfollowed := true, recurses := true, apart := false, narrowed := true }
def NodeStaysUptoSaid : Prop := nodeStaysUptoRow.holds Tryz.pinned (OpenSpec.upto nodeStaysSpec)

/-- 'vouchlaw12.NodeBounds', WHERE WHAT IT READS IS OF BULK AT MOST 1048576: true; the input reads as it did. -/
def nodeBoundsUptoRow : OpenClaim := { program := "ytomlgkecckffeaagreat", sum := "5d93b86b7178d39bb6826f0fa9e770ed05bacc5e936e251de91435d2195750b2", func := "vouch/vouchlaw12.NodeBounds", spec := "nodeBounds", inPlace := ["slices.overlaps[vouch/api.Entry]"], unfollowed := true, recurses := true, apart := false, narrowed := true }
def NodeBoundsUptoSaid : Prop := nodeBoundsUptoRow.holds Tryz.pinned (OpenSpec.upto nodeBoundsSpec)

/-- 'vouchlaw12.NodeSqueezes', WHERE WHAT IT READS IS OF BULK AT MOST 1048576: true; the input reads as it did. -/
def nodeSqueezesUptoRow : OpenClaim := { program := "ytomlgkecckffeaagreat", sum := "5d93b86b7178d39bb6826f0fa9e770ed05bacc5e936e251de91435d2195750b2", func := "vouch/vouchlaw12.NodeSqueezes", spec := "nodeSqueezes", inPlace := ["slices.overlaps[vouch/api.Entry]"], unfollowed := true, recurses := true, apart := false, narrowed := true }
def NodeSqueezesUptoSaid : Prop := nodeSqueezesUptoRow.holds Tryz.pinned (OpenSpec.upto nodeSqueezesSpec)

/-- 'vouchlaw12.NodeSound', WHERE WHAT IT READS IS OF BULK AT MOST 1048576: true; the input reads as it did. -/
def nodeSoundUptoRow : OpenClaim := { program := "ytomlgkecckffeaagreat", sum := "5d93b86b7178d39bb6826f0fa9e770ed05bacc5e936e251de91435d2195750b2", func := "vouch/vouchlaw12.NodeSound", spec := "nodeSound", inPlace := ["slices.overlaps[vouch/api.Entry]"], unfollowed := true, recurses := true, apart := false, narrowed := true }
def NodeSoundUptoSaid : Prop := nodeSoundUptoRow.holds Tryz.pinned (OpenSpec.upto nodeSoundSpec)

/-- 'vouchlaw12.NodePlays', WHERE WHAT IT READS IS OF BULK AT MOST 1048576: true; the input reads as it did. -/
def nodePlaysUptoRow : OpenClaim := { program := "ytomlgkecckffeaagreat", sum := "5d93b86b7178d39bb6826f0fa9e770ed05bacc5e936e251de91435d2195750b2", func := "vouch/vouchlaw12.NodePlays", spec := "nodePlays", inPlace := ["slices.overlaps[vouch/api.Entry]"], unfollowed := true, recurses := true, apart := false, narrowed := true }
def NodePlaysUptoSaid : Prop := nodePlaysUptoRow.holds Tryz.pinned (OpenSpec.upto nodePlaysSpec)

/-- 'vouchlaw12.NodeClones', WHERE WHAT IT READS IS OF BULK AT MOST 1048576: true; the input reads as it did. -/
def nodeClonesUptoRow : OpenClaim := { program := "ytomlgkecckffeaagreat", sum := "5d93b86b7178d39bb6826f0fa9e770ed05bacc5e936e251de91435d2195750b2", func := "vouch/vouchlaw12.NodeClones", spec := "nodeClones", inPlace := ["slices.overlaps[vouch/api.Entry]", "maps.clone"], unfollowed := true, recurses := true, apart := false, narrowed := true }
def NodeClonesUptoSaid : Prop := nodeClonesUptoRow.holds Tryz.pinned (OpenSpec.upto nodeClonesSpec)

/-- 'vouchlaw12.NodeOver', WHERE WHAT IT READS IS OF BULK AT MOST 1048576: true; the input reads as it did. -/
def nodeOverUptoRow : OpenClaim := { program := "ytomlgkecckffeaagreat", sum := "5d93b86b7178d39bb6826f0fa9e770ed05bacc5e936e251de91435d2195750b2", func := "vouch/vouchlaw12.NodeOver", spec := "nodeOver", inPlace := ["slices.overlaps[vouch/api.Entry]", "slices.overlaps[vouch/span.Span[int64]]"], unfollowed := true, recurses := true, apart := false, narrowed := true }
def NodeOverUptoSaid : Prop := nodeOverUptoRow.holds Tryz.pinned (OpenSpec.upto nodeOverSpec)

/-- 'vouchlaw12.NodeViews', WHERE WHAT IT READS IS OF BULK AT MOST 1048576: true; the input reads as it did. -/
def nodeViewsUptoRow : OpenClaim := { program := "ytomlgkecckffeaagreat", sum := "5d93b86b7178d39bb6826f0fa9e770ed05bacc5e936e251de91435d2195750b2", func := "vouch/vouchlaw12.NodeViews", spec := "nodeViews", inPlace := ["slices.overlaps[vouch/api.Entry]", "slices.overlaps[vouch/span.Span[int64]]"], unfollowed := true, recurses := true, apart := false, narrowed := true }
def NodeViewsUptoSaid : Prop := nodeViewsUptoRow.holds Tryz.pinned (OpenSpec.upto nodeViewsSpec)

/-- 'vouchlaw12.NodeNone', WHERE WHAT IT READS IS OF BULK AT MOST 1048576: true; the input reads as it did. -/
def nodeNoneUptoRow : OpenClaim := { program := "ytomlgkecckffeaagreat", sum := "5d93b86b7178d39bb6826f0fa9e770ed05bacc5e936e251de91435d2195750b2", func := "vouch/vouchlaw12.NodeNone", spec := "nodeNone", inPlace := ["slices.overlaps[vouch/api.Entry]", "slices.overlaps[vouch/span.Span[int64]]", "maps.clone"], unfollowed := true, recurses := true, apart := false, narrowed := true }
def NodeNoneUptoSaid : Prop := nodeNoneUptoRow.holds Tryz.pinned (OpenSpec.upto nodeNoneSpec)

end Rows
end Go.Proofs.YtomlgkecckffeaaGreat
