/-
  No cell of these rows narrows 'for every input' (looked for: loops, veiled, ifaces, maps, wideKeys, modest, calm, conditions, laid).
  DERIVED. THE GIVEN ROWS OF THIS SEAT. 12 by the template 'for every input the law returns true; each argument reads behind the call as it read before'; 0 by the template 'total and deterministic' (their statements: YtenokheiindfkaaTotals.lean).
  GIVEN WITH THE SEED: the statements are not yours to turn. If you find one false, say at which input.
  Laid BY PROGRAM, IN A SANDBOX (cutbox-rows.mjs): the forced cells as the released guide's own fill.sh prints them over the translation 61724a3e1af5a6e9… (all of the seat's roots in one cut). By AI agents, Wed Nov 11 2026. No macro, syntax, notation, axiom, sorry.
-/
import Derived.Test.YtenokheiindfkaaChecked
import GoSem.Claim
import GoSem.ClaimJoined
import GoSem.ClaimMapViews
import Derived.JoinedTies
import Derived.KernelRfl
namespace Go.Proofs.Ytenokheiindfkaa
/- THE CELL 'sum', in the pinned program and in every row, IS THE sha256 OF THE DUMP (.gsa) THAT YtenokheiindfkaaProg.lean LOADS. Nothing in Lean hashes anything: it is a label: what it is worth is what the hold of that sum in a sandbox is worth. -/
noncomputable def Try.pinned : Pinned := { name := "ytenokheiindfkaa", sum := "61724a3e1af5a6e941f67617ffc34e88c37566d2aef3b0ca6f0e289c1747e064", checked := Try.checked }
namespace Rows
def none {H : Type} : Left H := { results := [], args := [] }

/-- 'vouchlaw05.StoreSound': WHATEVER THE INPUT: true; the input reads as it did. -/
def storeSoundSpec : ChangeSpec := { name := "storeSound", fn := fun _ => fun
  | [d1, d2, d3, d4] => { results := [.lit (.bool true)], args := [d1, d2, d3, d4] }
  | _ => none }
def storeSoundRow : OpenClaim := { program := "ytenokheiindfkaa", sum := "61724a3e1af5a6e941f67617ffc34e88c37566d2aef3b0ca6f0e289c1747e064", func := "vouch/vouchlaw05.StoreSound", spec := "storeSound", unfollowed := true, recurses := true, apart := false }
def StoreSoundSaid : Prop := storeSoundRow.holds Try.pinned (OpenSpec.ofChange storeSoundSpec)

/-- ITS FALSE NEIGHBOUR: 'it returns false'. Refute it at one input. -/
def storeSoundWrong : ChangeSpec := { name := "storeSound", fn := fun _ => fun
  | [d1, d2, d3, d4] => { results := [.lit (.bool false)], args := [d1, d2, d3, d4] }
  | _ => none }
def StoreSoundWrongFalsely : Prop := storeSoundRow.holds Try.pinned (OpenSpec.ofChange storeSoundWrong)

/-- 'vouchlaw05.StoreParts': WHATEVER THE INPUT: true; the input reads as it did. -/
def storePartsSpec : ChangeSpec := { name := "storeParts", fn := fun _ => fun
  | [d1, d2, d3] => { results := [.lit (.bool true)], args := [d1, d2, d3] }
  | _ => none }
def storePartsRow : OpenClaim := { program := "ytenokheiindfkaa", sum := "61724a3e1af5a6e941f67617ffc34e88c37566d2aef3b0ca6f0e289c1747e064", func := "vouch/vouchlaw05.StoreParts", spec := "storeParts", unfollowed := true, recurses := true, apart := false }
def StorePartsSaid : Prop := storePartsRow.holds Try.pinned (OpenSpec.ofChange storePartsSpec)

/-- ITS FALSE NEIGHBOUR: 'it returns false'. Refute it at one input. -/
def storePartsWrong : ChangeSpec := { name := "storeParts", fn := fun _ => fun
  | [d1, d2, d3] => { results := [.lit (.bool false)], args := [d1, d2, d3] }
  | _ => none }
def StorePartsWrongFalsely : Prop := storePartsRow.holds Try.pinned (OpenSpec.ofChange storePartsWrong)

/-- 'vouchlaw05.StoreTrims': WHATEVER THE INPUT: true; the input reads as it did. -/
def storeTrimsSpec : ChangeSpec := { name := "storeTrims", fn := fun _ => fun
  | [d1, d2, d3] => { results := [.lit (.bool true)], args := [d1, d2, d3] }
  | _ => none }
def storeTrimsRow : OpenClaim := { program := "ytenokheiindfkaa", sum := "61724a3e1af5a6e941f67617ffc34e88c37566d2aef3b0ca6f0e289c1747e064", func := "vouch/vouchlaw05.StoreTrims", spec := "storeTrims", unfollowed := true, recurses := true, apart := false }
def StoreTrimsSaid : Prop := storeTrimsRow.holds Try.pinned (OpenSpec.ofChange storeTrimsSpec)

/-- ITS FALSE NEIGHBOUR: 'it returns false'. Refute it at one input. -/
def storeTrimsWrong : ChangeSpec := { name := "storeTrims", fn := fun _ => fun
  | [d1, d2, d3] => { results := [.lit (.bool false)], args := [d1, d2, d3] }
  | _ => none }
def StoreTrimsWrongFalsely : Prop := storeTrimsRow.holds Try.pinned (OpenSpec.ofChange storeTrimsWrong)

/-- 'vouchlaw07.GapPlays': WHATEVER THE INPUT: true; the input reads as it did. -/
def gapPlaysSpec : ChangeSpec := { name := "gapPlays", fn := fun _ => fun
  | [d1, d2, d3] => { results := [.lit (.bool true)], args := [d1, d2, d3] }
  | _ => none }
def gapPlaysRow : OpenClaim := { program := "ytenokheiindfkaa", sum := "61724a3e1af5a6e941f67617ffc34e88c37566d2aef3b0ca6f0e289c1747e064", func := "vouch/vouchlaw07.GapPlays", spec := "gapPlays", unfollowed := true, recurses := true, apart := false }
def GapPlaysSaid : Prop := gapPlaysRow.holds Try.pinned (OpenSpec.ofChange gapPlaysSpec)

/-- ITS FALSE NEIGHBOUR: 'it returns false'. Refute it at one input. -/
def gapPlaysWrong : ChangeSpec := { name := "gapPlays", fn := fun _ => fun
  | [d1, d2, d3] => { results := [.lit (.bool false)], args := [d1, d2, d3] }
  | _ => none }
def GapPlaysWrongFalsely : Prop := gapPlaysRow.holds Try.pinned (OpenSpec.ofChange gapPlaysWrong)

/-- 'vouchlaw07.GapOrder': WHATEVER THE INPUT: true; the input reads as it did. -/
def gapOrderSpec : ChangeSpec := { name := "gapOrder", fn := fun _ => fun
  | [d1, d2] => { results := [.lit (.bool true)], args := [d1, d2] }
  | _ => none }
def gapOrderRow : OpenClaim := { program := "ytenokheiindfkaa", sum := "61724a3e1af5a6e941f67617ffc34e88c37566d2aef3b0ca6f0e289c1747e064", func := "vouch/vouchlaw07.GapOrder", spec := "gapOrder", unfollowed := true, recurses := true, apart := false }
def GapOrderSaid : Prop := gapOrderRow.holds Try.pinned (OpenSpec.ofChange gapOrderSpec)

/-- ITS FALSE NEIGHBOUR: 'it returns false'. Refute it at one input. -/
def gapOrderWrong : ChangeSpec := { name := "gapOrder", fn := fun _ => fun
  | [d1, d2] => { results := [.lit (.bool false)], args := [d1, d2] }
  | _ => none }
def GapOrderWrongFalsely : Prop := gapOrderRow.holds Try.pinned (OpenSpec.ofChange gapOrderWrong)

/-- 'vouchlaw07.GapWhole': WHATEVER THE INPUT: true; the input reads as it did. -/
def gapWholeSpec : ChangeSpec := { name := "gapWhole", fn := fun _ => fun
  | [d1, d2] => { results := [.lit (.bool true)], args := [d1, d2] }
  | _ => none }
def gapWholeRow : OpenClaim := { program := "ytenokheiindfkaa", sum := "61724a3e1af5a6e941f67617ffc34e88c37566d2aef3b0ca6f0e289c1747e064", func := "vouch/vouchlaw07.GapWhole", spec := "gapWhole", unfollowed := true, recurses := true, apart := false }
def GapWholeSaid : Prop := gapWholeRow.holds Try.pinned (OpenSpec.ofChange gapWholeSpec)

/-- ITS FALSE NEIGHBOUR: 'it returns false'. Refute it at one input. -/
def gapWholeWrong : ChangeSpec := { name := "gapWhole", fn := fun _ => fun
  | [d1, d2] => { results := [.lit (.bool false)], args := [d1, d2] }
  | _ => none }
def GapWholeWrongFalsely : Prop := gapWholeRow.holds Try.pinned (OpenSpec.ofChange gapWholeWrong)

/-- 'vouchlaw07.GapClones': WHATEVER THE INPUT: true; the input reads as it did. -/
def gapClonesSpec : ChangeSpec := { name := "gapClones", fn := fun _ => fun
  | [d1, d2, d3] => { results := [.lit (.bool true)], args := [d1, d2, d3] }
  | _ => none }
def gapClonesRow : OpenClaim := { program := "ytenokheiindfkaa", sum := "61724a3e1af5a6e941f67617ffc34e88c37566d2aef3b0ca6f0e289c1747e064", func := "vouch/vouchlaw07.GapClones", spec := "gapClones", inPlace := ["maps.clone"], unfollowed := true, recurses := true, apart := false }
def GapClonesSaid : Prop := gapClonesRow.holds Try.pinned (OpenSpec.ofChange gapClonesSpec)

/-- ITS FALSE NEIGHBOUR: 'it returns false'. Refute it at one input. -/
def gapClonesWrong : ChangeSpec := { name := "gapClones", fn := fun _ => fun
  | [d1, d2, d3] => { results := [.lit (.bool false)], args := [d1, d2, d3] }
  | _ => none }
def GapClonesWrongFalsely : Prop := gapClonesRow.holds Try.pinned (OpenSpec.ofChange gapClonesWrong)

/-- 'vouchlaw07.GapNone': WHATEVER THE INPUT: true; the input reads as it did. -/
def gapNoneSpec : ChangeSpec := { name := "gapNone", fn := fun _ => fun
  | [d] => { results := [.lit (.bool true)], args := [d] }
  | _ => none }
def gapNoneRow : OpenClaim := { program := "ytenokheiindfkaa", sum := "61724a3e1af5a6e941f67617ffc34e88c37566d2aef3b0ca6f0e289c1747e064", func := "vouch/vouchlaw07.GapNone", spec := "gapNone", inPlace := ["maps.clone"], unfollowed := true, recurses := true, apart := false }
def GapNoneSaid : Prop := gapNoneRow.holds Try.pinned (OpenSpec.ofChange gapNoneSpec)

/-- ITS FALSE NEIGHBOUR: 'it returns false'. Refute it at one input. -/
def gapNoneWrong : ChangeSpec := { name := "gapNone", fn := fun _ => fun
  | [d] => { results := [.lit (.bool false)], args := [d] }
  | _ => none }
def GapNoneWrongFalsely : Prop := gapNoneRow.holds Try.pinned (OpenSpec.ofChange gapNoneWrong)

/-- 'vouchlaw07.GapLacks': WHATEVER THE INPUT: true; the input reads as it did. -/
def gapLacksSpec : ChangeSpec := { name := "gapLacks", fn := fun _ => fun
  | [d1, d2] => { results := [.lit (.bool true)], args := [d1, d2] }
  | _ => none }
def gapLacksRow : OpenClaim := { program := "ytenokheiindfkaa", sum := "61724a3e1af5a6e941f67617ffc34e88c37566d2aef3b0ca6f0e289c1747e064", func := "vouch/vouchlaw07.GapLacks", spec := "gapLacks", inPlace := ["maps.clone"], unfollowed := true, recurses := true, apart := false }
def GapLacksSaid : Prop := gapLacksRow.holds Try.pinned (OpenSpec.ofChange gapLacksSpec)

/-- ITS FALSE NEIGHBOUR: 'it returns false'. Refute it at one input. -/
def gapLacksWrong : ChangeSpec := { name := "gapLacks", fn := fun _ => fun
  | [d1, d2] => { results := [.lit (.bool false)], args := [d1, d2] }
  | _ => none }
def GapLacksWrongFalsely : Prop := gapLacksRow.holds Try.pinned (OpenSpec.ofChange gapLacksWrong)

/-- 'vouchlaw05.StorePlays': WHATEVER THE INPUT: true; the input reads as it did. -/
def storePlaysSpec : ChangeSpec := { name := "storePlays", fn := fun _ => fun
  | [d1, d2] => { results := [.lit (.bool true)], args := [d1, d2] }
  | _ => none }
def storePlaysRow : OpenClaim := { program := "ytenokheiindfkaa", sum := "61724a3e1af5a6e941f67617ffc34e88c37566d2aef3b0ca6f0e289c1747e064", func := "vouch/vouchlaw05.StorePlays", spec := "storePlays", unfollowed := true, recurses := true, apart := false }
def StorePlaysSaid : Prop := storePlaysRow.holds Try.pinned (OpenSpec.ofChange storePlaysSpec)

/-- ITS FALSE NEIGHBOUR: 'it returns false'. Refute it at one input. -/
def storePlaysWrong : ChangeSpec := { name := "storePlays", fn := fun _ => fun
  | [d1, d2] => { results := [.lit (.bool false)], args := [d1, d2] }
  | _ => none }
def StorePlaysWrongFalsely : Prop := storePlaysRow.holds Try.pinned (OpenSpec.ofChange storePlaysWrong)

/-- 'vouchlaw05.StoreClones': WHATEVER THE INPUT: true; the input reads as it did. -/
def storeClonesSpec : ChangeSpec := { name := "storeClones", fn := fun _ => fun
  | [d1, d2, d3] => { results := [.lit (.bool true)], args := [d1, d2, d3] }
  | _ => none }
def storeClonesRow : OpenClaim := { program := "ytenokheiindfkaa", sum := "61724a3e1af5a6e941f67617ffc34e88c37566d2aef3b0ca6f0e289c1747e064", func := "vouch/vouchlaw05.StoreClones", spec := "storeClones", inPlace := ["maps.clone"], unfollowed := true, recurses := true, apart := false }
def StoreClonesSaid : Prop := storeClonesRow.holds Try.pinned (OpenSpec.ofChange storeClonesSpec)

/-- ITS FALSE NEIGHBOUR: 'it returns false'. Refute it at one input. -/
def storeClonesWrong : ChangeSpec := { name := "storeClones", fn := fun _ => fun
  | [d1, d2, d3] => { results := [.lit (.bool false)], args := [d1, d2, d3] }
  | _ => none }
def StoreClonesWrongFalsely : Prop := storeClonesRow.holds Try.pinned (OpenSpec.ofChange storeClonesWrong)

/-- 'vouchlaw05.StoreNone': WHATEVER THE INPUT: true; the input reads as it did. -/
def storeNoneSpec : ChangeSpec := { name := "storeNone", fn := fun _ => fun
  | [d] => { results := [.lit (.bool true)], args := [d] }
  | _ => none }
def storeNoneRow : OpenClaim := { program := "ytenokheiindfkaa", sum := "61724a3e1af5a6e941f67617ffc34e88c37566d2aef3b0ca6f0e289c1747e064", func := "vouch/vouchlaw05.StoreNone", spec := "storeNone", inPlace := ["maps.clone"], unfollowed := true, recurses := true, apart := false }
def StoreNoneSaid : Prop := storeNoneRow.holds Try.pinned (OpenSpec.ofChange storeNoneSpec)

/-- ITS FALSE NEIGHBOUR: 'it returns false'. Refute it at one input. -/
def storeNoneWrong : ChangeSpec := { name := "storeNone", fn := fun _ => fun
  | [d] => { results := [.lit (.bool false)], args := [d] }
  | _ => none }
def StoreNoneWrongFalsely : Prop := storeNoneRow.holds Try.pinned (OpenSpec.ofChange storeNoneWrong)

/- THE SECOND FORM. 'bulk': how many values and letters a reading holds, each counted each time it is reached (what is shared counts as often as it is met; a slice's spare places count too). A statement '..UptoSaid' is the law's where the arguments, and the package variables that the reading takes, are together of bulk at most 1048576: NARROWER than '..Said'. Prove '..Said' where nothing that the law and all that it calls make is longer than what came in: it says more and counts as full. Else prove '..UptoSaid'. A law counts once. -/
mutual
def uptoBulk {H : Type} : DataW H → Nat
  | .lit (.string bytes) => bytes.length + 1
  | .lit _ => 1
  | .nil => 1
  | .ptr d => uptoBulk d + 1
  | .slice elems spare => uptoBulkAll elems + uptoBulkAll spare + 1
  | .agg parts => uptoBulkAll parts + 1
  | .iface _ d => uptoBulk d + 1
  | .map entries => uptoBulkEntries entries + 1
  | .held _ => 1
def uptoBulkAll {H : Type} : List (DataW H) → Nat
  | [] => 0
  | d :: r => uptoBulk d + uptoBulkAll r
def uptoBulkEntries {H : Type} : List (Lit × DataW H) → Nat
  | [] => 0
  | x :: r => uptoBulkEntry x + uptoBulkEntries r
def uptoBulkEntry {H : Type} : Lit × DataW H → Nat
  | (.string bytes, d) => bytes.length + uptoBulk d + 1
  | (_, d) => uptoBulk d + 1
 end
def uptoSmall : (H : Type) → List (DataW H) → Bool := fun _ ds => decide (uptoBulkAll ds ≤ 1048576)
def OpenSpec.upto (s : _root_.Go.ChangeSpec) : _root_.Go.OpenSpec := { _root_.Go.OpenSpec.ofChange s with cond := some uptoSmall }

/-- 'vouchlaw05.StoreSound', WHERE WHAT IT READS IS OF BULK AT MOST 1048576: true; the input reads as it did. -/
def storeSoundUptoRow : OpenClaim := { program := "ytenokheiindfkaa", sum := "61724a3e1af5a6e941f67617ffc34e88c37566d2aef3b0ca6f0e289c1747e064", func := "vouch/vouchlaw05.StoreSound", spec := "storeSound", unfollowed := true, recurses := true, apart := false, narrowed := true }
def StoreSoundUptoSaid : Prop := storeSoundUptoRow.holds Try.pinned (OpenSpec.upto storeSoundSpec)

/-- 'vouchlaw05.StoreParts', WHERE WHAT IT READS IS OF BULK AT MOST 1048576: true; the input reads as it did. -/
def storePartsUptoRow : OpenClaim := { program := "ytenokheiindfkaa", sum := "61724a3e1af5a6e941f67617ffc34e88c37566d2aef3b0ca6f0e289c1747e064", func := "vouch/vouchlaw05.StoreParts", spec := "storeParts", unfollowed := true, recurses := true, apart := false, narrowed := true }
def StorePartsUptoSaid : Prop := storePartsUptoRow.holds Try.pinned (OpenSpec.upto storePartsSpec)

/-- 'vouchlaw05.StoreTrims', WHERE WHAT IT READS IS OF BULK AT MOST 1048576: true; the input reads as it did. -/
def storeTrimsUptoRow : OpenClaim := { program := "ytenokheiindfkaa", sum := "61724a3e1af5a6e941f67617ffc34e88c37566d2aef3b0ca6f0e289c1747e064", func := "vouch/vouchlaw05.StoreTrims", spec := "storeTrims", unfollowed := true, recurses := true, apart := false, narrowed := true }
def StoreTrimsUptoSaid : Prop := storeTrimsUptoRow.holds Try.pinned (OpenSpec.upto storeTrimsSpec)

/-- 'vouchlaw07.GapPlays', WHERE WHAT IT READS IS OF BULK AT MOST 1048576: true; the input reads as it did. -/
def gapPlaysUptoRow : OpenClaim := { program := "ytenokheiindfkaa", sum := "61724a3e1af5a6e941f67617ffc34e88c37566d2aef3b0ca6f0e289c1747e064", func := "vouch/vouchlaw07.GapPlays", spec := "gapPlays", unfollowed := true, recurses := true, apart := false, narrowed := true }
def GapPlaysUptoSaid : Prop := gapPlaysUptoRow.holds Try.pinned (OpenSpec.upto gapPlaysSpec)

/-- 'vouchlaw07.GapOrder', WHERE WHAT IT READS IS OF BULK AT MOST 1048576: true; the input reads as it did. -/
def gapOrderUptoRow : OpenClaim := { program := "ytenokheiindfkaa", sum := "61724a3e1af5a6e941f67617ffc34e88c37566d2aef3b0ca6f0e289c1747e064", func := "vouch/vouchlaw07.GapOrder", spec := "gapOrder", unfollowed := true, recurses := true, apart := false, narrowed := true }
def GapOrderUptoSaid : Prop := gapOrderUptoRow.holds Try.pinned (OpenSpec.upto gapOrderSpec)

/-- 'vouchlaw07.GapWhole', WHERE WHAT IT READS IS OF BULK AT MOST 1048576: true; the input reads as it did. -/
def gapWholeUptoRow : OpenClaim := { program := "ytenokheiindfkaa", sum := "61724a3e1af5a6e941f67617ffc34e88c37566d2aef3b0ca6f0e289c1747e064", func := "vouch/vouchlaw07.GapWhole", spec := "gapWhole", unfollowed := true, recurses := true, apart := false, narrowed := true }
def GapWholeUptoSaid : Prop := gapWholeUptoRow.holds Try.pinned (OpenSpec.upto gapWholeSpec)

/-- 'vouchlaw07.GapClones', WHERE WHAT IT READS IS OF BULK AT MOST 1048576: true; the input reads as it did. -/
def gapClonesUptoRow : OpenClaim := { program := "ytenokheiindfkaa", sum := "61724a3e1af5a6e941f67617ffc34e88c37566d2aef3b0ca6f0e289c1747e064", func := "vouch/vouchlaw07.GapClones", spec := "gapClones", inPlace := ["maps.clone"], unfollowed := true, recurses := true, apart := false, narrowed := true }
def GapClonesUptoSaid : Prop := gapClonesUptoRow.holds Try.pinned (OpenSpec.upto gapClonesSpec)

/-- 'vouchlaw07.GapNone', WHERE WHAT IT READS IS OF BULK AT MOST 1048576: true; the input reads as it did. -/
def gapNoneUptoRow : OpenClaim := { program := "ytenokheiindfkaa", sum := "61724a3e1af5a6e941f67617ffc34e88c37566d2aef3b0ca6f0e289c1747e064", func := "vouch/vouchlaw07.GapNone", spec := "gapNone", inPlace := ["maps.clone"], unfollowed := true, recurses := true, apart := false, narrowed := true }
def GapNoneUptoSaid : Prop := gapNoneUptoRow.holds Try.pinned (OpenSpec.upto gapNoneSpec)

/-- 'vouchlaw07.GapLacks', WHERE WHAT IT READS IS OF BULK AT MOST 1048576: true; the input reads as it did. -/
def gapLacksUptoRow : OpenClaim := { program := "ytenokheiindfkaa", sum := "61724a3e1af5a6e941f67617ffc34e88c37566d2aef3b0ca6f0e289c1747e064", func := "vouch/vouchlaw07.GapLacks", spec := "gapLacks", inPlace := ["maps.clone"], unfollowed := true, recurses := true, apart := false, narrowed := true }
def GapLacksUptoSaid : Prop := gapLacksUptoRow.holds Try.pinned (OpenSpec.upto gapLacksSpec)

/-- 'vouchlaw05.StorePlays', WHERE WHAT IT READS IS OF BULK AT MOST 1048576: true; the input reads as it did. -/
def storePlaysUptoRow : OpenClaim := { program := "ytenokheiindfkaa", sum := "61724a3e1af5a6e941f67617ffc34e88c37566d2aef3b0ca6f0e289c1747e064", func := "vouch/vouchlaw05.StorePlays", spec := "storePlays", unfollowed := true, recurses := true, apart := false, narrowed := true }
def StorePlaysUptoSaid : Prop := storePlaysUptoRow.holds Try.pinned (OpenSpec.upto storePlaysSpec)

/-- 'vouchlaw05.StoreClones', WHERE WHAT IT READS IS OF BULK AT MOST 1048576: true; the input reads as it did. -/
def storeClonesUptoRow : OpenClaim := { program := "ytenokheiindfkaa", sum := "61724a3e1af5a6e941f67617ffc34e88c37566d2aef3b0ca6f0e289c1747e064", func := "vouch/vouchlaw05.StoreClones", spec := "storeClones", inPlace := ["maps.clone"], unfollowed := true, recurses := true, apart := false, narrowed := true }
def StoreClonesUptoSaid : Prop := storeClonesUptoRow.holds Try.pinned (OpenSpec.upto storeClonesSpec)

/-- 'vouchlaw05.StoreNone', WHERE WHAT IT READS IS OF BULK AT MOST 1048576: true; the input reads as it did. -/
def storeNoneUptoRow : OpenClaim := { program := "ytenokheiindfkaa", sum := "61724a3e1af5a6e941f67617ffc34e88c37566d2aef3b0ca6f0e289c1747e064", func := "vouch/vouchlaw05.StoreNone", spec := "storeNone", inPlace := ["maps.clone"], unfollowed := true, recurses := true, apart := false, narrowed := true }
def StoreNoneUptoSaid : Prop := storeNoneUptoRow.holds Try.pinned (OpenSpec.upto storeNoneSpec)

end Rows
end Go.Proofs.Ytenokheiindfkaa
