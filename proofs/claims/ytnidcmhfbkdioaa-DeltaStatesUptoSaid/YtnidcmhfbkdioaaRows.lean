/-
  No cell of these rows narrows 'for every input' (looked for: loops, veiled, ifaces, maps, wideKeys, modest, calm, conditions, laid).
  DERIVED. THE GIVEN ROWS OF THIS SEAT. 16 by the template 'for every input the law returns true; each argument reads behind the call as it read before'; 0 by the template 'total and deterministic' (their statements: YtnidcmhfbkdioaaTotals.lean).
  GIVEN WITH THE SEED: the statements are not yours to turn. If you find one false, say at which input.
  Laid BY PROGRAM, IN A SANDBOX (cutbox-rows.mjs): the forced cells as the released guide's own fill.sh prints them over the translation 6cbeaf2ccf4dccde… (all of the seat's roots in one cut). By AI agents, Wed Nov 11 2026. No macro, syntax, notation, axiom, sorry.
-/
import Derived.Test.YtnidcmhfbkdioaaChecked
import GoSem.Claim
import GoSem.ClaimJoined
import GoSem.ClaimMapViews
import Derived.JoinedTies
import Derived.KernelRfl
namespace Go.Proofs.Ytnidcmhfbkdioaa
/- THE CELL 'sum', in the pinned program and in every row, IS THE sha256 OF THE DUMP (.gsa) THAT YtnidcmhfbkdioaaProg.lean LOADS. Nothing in Lean hashes anything: it is a label: what it is worth is what the hold of that sum in a sandbox is worth. -/
noncomputable def Try.pinned : Pinned := { name := "ytnidcmhfbkdioaa", sum := "6cbeaf2ccf4dccde47851a526eb7e3bf2c2e3a1cbc6b79fcc1184bafc0752a45", checked := Try.checked }
namespace Rows
def none {H : Type} : Left H := { results := [], args := [] }

/-- 'tourlaw4.BridgeMaps': WHATEVER THE INPUT: true; the input reads as it did. -/
def bridgeMapsSpec : ChangeSpec := { name := "bridgeMaps", fn := fun _ => fun
  | [d] => { results := [.lit (.bool true)], args := [d] }
  | _ => none }
def bridgeMapsRow : OpenClaim := { program := "ytnidcmhfbkdioaa", sum := "6cbeaf2ccf4dccde47851a526eb7e3bf2c2e3a1cbc6b79fcc1184bafc0752a45", func := "tourney/tourlaw4.BridgeMaps", spec := "bridgeMaps", unfollowed := true, recurses := true, apart := false }
def BridgeMapsSaid : Prop := bridgeMapsRow.holds Try.pinned (OpenSpec.ofChange bridgeMapsSpec)

/-- ITS FALSE NEIGHBOUR: 'it returns false'. Refute it at one input. -/
def bridgeMapsWrong : ChangeSpec := { name := "bridgeMaps", fn := fun _ => fun
  | [d] => { results := [.lit (.bool false)], args := [d] }
  | _ => none }
def BridgeMapsWrongFalsely : Prop := bridgeMapsRow.holds Try.pinned (OpenSpec.ofChange bridgeMapsWrong)

/-- 'tourkeep4.PrefabCounts': WHATEVER THE INPUT: true; the input reads as it did. -/
def prefabCountsSpec : ChangeSpec := { name := "prefabCounts", fn := fun _ => fun
  | [d1, d2] => { results := [.lit (.bool true)], args := [d1, d2] }
  | _ => none }
def prefabCountsRow : OpenClaim := { program := "ytnidcmhfbkdioaa", sum := "6cbeaf2ccf4dccde47851a526eb7e3bf2c2e3a1cbc6b79fcc1184bafc0752a45", func := "tourney/tourkeep4.PrefabCounts", spec := "prefabCounts", unfollowed := true, recurses := true, apart := false }
def PrefabCountsSaid : Prop := prefabCountsRow.holds Try.pinned (OpenSpec.ofChange prefabCountsSpec)

/-- ITS FALSE NEIGHBOUR: 'it returns false'. Refute it at one input. -/
def prefabCountsWrong : ChangeSpec := { name := "prefabCounts", fn := fun _ => fun
  | [d1, d2] => { results := [.lit (.bool false)], args := [d1, d2] }
  | _ => none }
def PrefabCountsWrongFalsely : Prop := prefabCountsRow.holds Try.pinned (OpenSpec.ofChange prefabCountsWrong)

/-- 'tourlaw4.MergeSays': WHATEVER THE INPUT: true; the input reads as it did. -/
def mergeSaysSpec : ChangeSpec := { name := "mergeSays", fn := fun _ => fun
  | [d1, d2, d3, d4, d5, d6] => { results := [.lit (.bool true)], args := [d1, d2, d3, d4, d5, d6] }
  | _ => none }
def mergeSaysRow : OpenClaim := { program := "ytnidcmhfbkdioaa", sum := "6cbeaf2ccf4dccde47851a526eb7e3bf2c2e3a1cbc6b79fcc1184bafc0752a45", func := "tourney/tourlaw4.MergeSays", spec := "mergeSays", unfollowed := true, recurses := true, apart := false }
def MergeSaysSaid : Prop := mergeSaysRow.holds Try.pinned (OpenSpec.ofChange mergeSaysSpec)

/-- ITS FALSE NEIGHBOUR: 'it returns false'. Refute it at one input. -/
def mergeSaysWrong : ChangeSpec := { name := "mergeSays", fn := fun _ => fun
  | [d1, d2, d3, d4, d5, d6] => { results := [.lit (.bool false)], args := [d1, d2, d3, d4, d5, d6] }
  | _ => none }
def MergeSaysWrongFalsely : Prop := mergeSaysRow.holds Try.pinned (OpenSpec.ofChange mergeSaysWrong)

/-- 'tourkeep4.MergeOne': WHATEVER THE INPUT: true; the input reads as it did. -/
def mergeOneSpec : ChangeSpec := { name := "mergeOne", fn := fun _ => fun
  | [d1, d2] => { results := [.lit (.bool true)], args := [d1, d2] }
  | _ => none }
def mergeOneRow : OpenClaim := { program := "ytnidcmhfbkdioaa", sum := "6cbeaf2ccf4dccde47851a526eb7e3bf2c2e3a1cbc6b79fcc1184bafc0752a45", func := "tourney/tourkeep4.MergeOne", spec := "mergeOne", unfollowed := true, recurses := true, apart := false }
def MergeOneSaid : Prop := mergeOneRow.holds Try.pinned (OpenSpec.ofChange mergeOneSpec)

/-- ITS FALSE NEIGHBOUR: 'it returns false'. Refute it at one input. -/
def mergeOneWrong : ChangeSpec := { name := "mergeOne", fn := fun _ => fun
  | [d1, d2] => { results := [.lit (.bool false)], args := [d1, d2] }
  | _ => none }
def MergeOneWrongFalsely : Prop := mergeOneRow.holds Try.pinned (OpenSpec.ofChange mergeOneWrong)

/-- 'tourkeep4.MergeTurned': WHATEVER THE INPUT: true; the input reads as it did. -/
def mergeTurnedSpec : ChangeSpec := { name := "mergeTurned", fn := fun _ => fun
  | [d1, d2, d3] => { results := [.lit (.bool true)], args := [d1, d2, d3] }
  | _ => none }
def mergeTurnedRow : OpenClaim := { program := "ytnidcmhfbkdioaa", sum := "6cbeaf2ccf4dccde47851a526eb7e3bf2c2e3a1cbc6b79fcc1184bafc0752a45", func := "tourney/tourkeep4.MergeTurned", spec := "mergeTurned", unfollowed := true, recurses := true, apart := false }
def MergeTurnedSaid : Prop := mergeTurnedRow.holds Try.pinned (OpenSpec.ofChange mergeTurnedSpec)

/-- ITS FALSE NEIGHBOUR: 'it returns false'. Refute it at one input. -/
def mergeTurnedWrong : ChangeSpec := { name := "mergeTurned", fn := fun _ => fun
  | [d1, d2, d3] => { results := [.lit (.bool false)], args := [d1, d2, d3] }
  | _ => none }
def MergeTurnedWrongFalsely : Prop := mergeTurnedRow.holds Try.pinned (OpenSpec.ofChange mergeTurnedWrong)

/-- 'tourlaw4.DeltaStates': WHATEVER THE INPUT: true; the input reads as it did. -/
def deltaStatesSpec : ChangeSpec := { name := "deltaStates", fn := fun _ => fun
  | [d1, d2, d3] => { results := [.lit (.bool true)], args := [d1, d2, d3] }
  | _ => none }
def deltaStatesRow : OpenClaim := { program := "ytnidcmhfbkdioaa", sum := "6cbeaf2ccf4dccde47851a526eb7e3bf2c2e3a1cbc6b79fcc1184bafc0752a45", func := "tourney/tourlaw4.DeltaStates", spec := "deltaStates", unfollowed := true, recurses := true, apart := false }
def DeltaStatesSaid : Prop := deltaStatesRow.holds Try.pinned (OpenSpec.ofChange deltaStatesSpec)

/-- ITS FALSE NEIGHBOUR: 'it returns false'. Refute it at one input. -/
def deltaStatesWrong : ChangeSpec := { name := "deltaStates", fn := fun _ => fun
  | [d1, d2, d3] => { results := [.lit (.bool false)], args := [d1, d2, d3] }
  | _ => none }
def DeltaStatesWrongFalsely : Prop := deltaStatesRow.holds Try.pinned (OpenSpec.ofChange deltaStatesWrong)

/-- 'tourlaw4.DelaySays': WHATEVER THE INPUT: true; the input reads as it did. -/
def delaySaysSpec : ChangeSpec := { name := "delaySays", fn := fun _ => fun
  | [d1, d2, d3] => { results := [.lit (.bool true)], args := [d1, d2, d3] }
  | _ => none }
def delaySaysRow : OpenClaim := { program := "ytnidcmhfbkdioaa", sum := "6cbeaf2ccf4dccde47851a526eb7e3bf2c2e3a1cbc6b79fcc1184bafc0752a45", func := "tourney/tourlaw4.DelaySays", spec := "delaySays", unfollowed := true, recurses := true, apart := false }
def DelaySaysSaid : Prop := delaySaysRow.holds Try.pinned (OpenSpec.ofChange delaySaysSpec)

/-- ITS FALSE NEIGHBOUR: 'it returns false'. Refute it at one input. -/
def delaySaysWrong : ChangeSpec := { name := "delaySays", fn := fun _ => fun
  | [d1, d2, d3] => { results := [.lit (.bool false)], args := [d1, d2, d3] }
  | _ => none }
def DelaySaysWrongFalsely : Prop := delaySaysRow.holds Try.pinned (OpenSpec.ofChange delaySaysWrong)

/-- 'tourkeep4.DelayBounds': WHATEVER THE INPUT: true; the input reads as it did. -/
def delayBoundsSpec : ChangeSpec := { name := "delayBounds", fn := fun _ => fun
  | [d1, d2, d3] => { results := [.lit (.bool true)], args := [d1, d2, d3] }
  | _ => none }
def delayBoundsRow : OpenClaim := { program := "ytnidcmhfbkdioaa", sum := "6cbeaf2ccf4dccde47851a526eb7e3bf2c2e3a1cbc6b79fcc1184bafc0752a45", func := "tourney/tourkeep4.DelayBounds", spec := "delayBounds", unfollowed := true, recurses := true, apart := false }
def DelayBoundsSaid : Prop := delayBoundsRow.holds Try.pinned (OpenSpec.ofChange delayBoundsSpec)

/-- ITS FALSE NEIGHBOUR: 'it returns false'. Refute it at one input. -/
def delayBoundsWrong : ChangeSpec := { name := "delayBounds", fn := fun _ => fun
  | [d1, d2, d3] => { results := [.lit (.bool false)], args := [d1, d2, d3] }
  | _ => none }
def DelayBoundsWrongFalsely : Prop := delayBoundsRow.holds Try.pinned (OpenSpec.ofChange delayBoundsWrong)

/-- 'tourlaw4.BridgeScenes': WHATEVER THE INPUT: true; the input reads as it did. -/
def bridgeScenesSpec : ChangeSpec := { name := "bridgeScenes", fn := fun _ => fun
  | [d1, d2, d3, d4, d5, d6] => { results := [.lit (.bool true)], args := [d1, d2, d3, d4, d5, d6] }
  | _ => none }
def bridgeScenesRow : OpenClaim := { program := "ytnidcmhfbkdioaa", sum := "6cbeaf2ccf4dccde47851a526eb7e3bf2c2e3a1cbc6b79fcc1184bafc0752a45", func := "tourney/tourlaw4.BridgeScenes", spec := "bridgeScenes", unfollowed := true, recurses := true, named := ["math/bits.divideError", "math/bits.overflowError"], apart := false }
def BridgeScenesSaid : Prop := bridgeScenesRow.holds Try.pinned (OpenSpec.ofChange bridgeScenesSpec)

/-- ITS FALSE NEIGHBOUR: 'it returns false'. Refute it at one input. -/
def bridgeScenesWrong : ChangeSpec := { name := "bridgeScenes", fn := fun _ => fun
  | [d1, d2, d3, d4, d5, d6] => { results := [.lit (.bool false)], args := [d1, d2, d3, d4, d5, d6] }
  | _ => none }
def BridgeScenesWrongFalsely : Prop := bridgeScenesRow.holds Try.pinned (OpenSpec.ofChange bridgeScenesWrong)

/-- 'tourkeep4.PrefabBack': WHATEVER THE INPUT: true; the input reads as it did. -/
def prefabBackSpec : ChangeSpec := { name := "prefabBack", fn := fun _ => fun
  | [d1, d2, d3] => { results := [.lit (.bool true)], args := [d1, d2, d3] }
  | _ => none }
def prefabBackRow : OpenClaim := { program := "ytnidcmhfbkdioaa", sum := "6cbeaf2ccf4dccde47851a526eb7e3bf2c2e3a1cbc6b79fcc1184bafc0752a45", func := "tourney/tourkeep4.PrefabBack", spec := "prefabBack", unfollowed := true, recurses := true, apart := false }
def PrefabBackSaid : Prop := prefabBackRow.holds Try.pinned (OpenSpec.ofChange prefabBackSpec)

/-- ITS FALSE NEIGHBOUR: 'it returns false'. Refute it at one input. -/
def prefabBackWrong : ChangeSpec := { name := "prefabBack", fn := fun _ => fun
  | [d1, d2, d3] => { results := [.lit (.bool false)], args := [d1, d2, d3] }
  | _ => none }
def PrefabBackWrongFalsely : Prop := prefabBackRow.holds Try.pinned (OpenSpec.ofChange prefabBackWrong)

/-- 'tourlaw4.BridgeWorlds': WHATEVER THE INPUT: true; the input reads as it did. -/
def bridgeWorldsSpec : ChangeSpec := { name := "bridgeWorlds", fn := fun _ => fun
  | [d1, d2, d3, d4, d5] => { results := [.lit (.bool true)], args := [d1, d2, d3, d4, d5] }
  | _ => none }
def bridgeWorldsRow : OpenClaim := { program := "ytnidcmhfbkdioaa", sum := "6cbeaf2ccf4dccde47851a526eb7e3bf2c2e3a1cbc6b79fcc1184bafc0752a45", func := "tourney/tourlaw4.BridgeWorlds", spec := "bridgeWorlds", unfollowed := true, recurses := true, named := ["math/bits.divideError", "math/bits.overflowError"], apart := false }
def BridgeWorldsSaid : Prop := bridgeWorldsRow.holds Try.pinned (OpenSpec.ofChange bridgeWorldsSpec)

/-- ITS FALSE NEIGHBOUR: 'it returns false'. Refute it at one input. -/
def bridgeWorldsWrong : ChangeSpec := { name := "bridgeWorlds", fn := fun _ => fun
  | [d1, d2, d3, d4, d5] => { results := [.lit (.bool false)], args := [d1, d2, d3, d4, d5] }
  | _ => none }
def BridgeWorldsWrongFalsely : Prop := bridgeWorldsRow.holds Try.pinned (OpenSpec.ofChange bridgeWorldsWrong)

/-- 'tourlaw4.PrefabDiffs': WHATEVER THE INPUT: true; the input reads as it did. -/
def prefabDiffsSpec : ChangeSpec := { name := "prefabDiffs", fn := fun _ => fun
  | [d1, d2, d3, d4] => { results := [.lit (.bool true)], args := [d1, d2, d3, d4] }
  | _ => none }
def prefabDiffsRow : OpenClaim := { program := "ytnidcmhfbkdioaa", sum := "6cbeaf2ccf4dccde47851a526eb7e3bf2c2e3a1cbc6b79fcc1184bafc0752a45", func := "tourney/tourlaw4.PrefabDiffs", spec := "prefabDiffs", unfollowed := true, recurses := true, apart := false }
def PrefabDiffsSaid : Prop := prefabDiffsRow.holds Try.pinned (OpenSpec.ofChange prefabDiffsSpec)

/-- ITS FALSE NEIGHBOUR: 'it returns false'. Refute it at one input. -/
def prefabDiffsWrong : ChangeSpec := { name := "prefabDiffs", fn := fun _ => fun
  | [d1, d2, d3, d4] => { results := [.lit (.bool false)], args := [d1, d2, d3, d4] }
  | _ => none }
def PrefabDiffsWrongFalsely : Prop := prefabDiffsRow.holds Try.pinned (OpenSpec.ofChange prefabDiffsWrong)

/-- 'tourkeep4.BridgeKeeps': WHATEVER THE INPUT: true; the input reads as it did. -/
def bridgeKeepsSpec : ChangeSpec := { name := "bridgeKeeps", fn := fun _ => fun
  | [d1, d2] => { results := [.lit (.bool true)], args := [d1, d2] }
  | _ => none }
def bridgeKeepsRow : OpenClaim := { program := "ytnidcmhfbkdioaa", sum := "6cbeaf2ccf4dccde47851a526eb7e3bf2c2e3a1cbc6b79fcc1184bafc0752a45", func := "tourney/tourkeep4.BridgeKeeps", spec := "bridgeKeeps", unfollowed := true, recurses := true, named := ["math/bits.divideError", "math/bits.overflowError"], apart := false }
def BridgeKeepsSaid : Prop := bridgeKeepsRow.holds Try.pinned (OpenSpec.ofChange bridgeKeepsSpec)

/-- ITS FALSE NEIGHBOUR: 'it returns false'. Refute it at one input. -/
def bridgeKeepsWrong : ChangeSpec := { name := "bridgeKeeps", fn := fun _ => fun
  | [d1, d2] => { results := [.lit (.bool false)], args := [d1, d2] }
  | _ => none }
def BridgeKeepsWrongFalsely : Prop := bridgeKeepsRow.holds Try.pinned (OpenSpec.ofChange bridgeKeepsWrong)

/-- 'tourkeep4.BridgeTwice': WHATEVER THE INPUT: true; the input reads as it did. -/
def bridgeTwiceSpec : ChangeSpec := { name := "bridgeTwice", fn := fun _ => fun
  | [d1, d2] => { results := [.lit (.bool true)], args := [d1, d2] }
  | _ => none }
def bridgeTwiceRow : OpenClaim := { program := "ytnidcmhfbkdioaa", sum := "6cbeaf2ccf4dccde47851a526eb7e3bf2c2e3a1cbc6b79fcc1184bafc0752a45", func := "tourney/tourkeep4.BridgeTwice", spec := "bridgeTwice", unfollowed := true, recurses := true, named := ["math/bits.divideError", "math/bits.overflowError"], apart := false }
def BridgeTwiceSaid : Prop := bridgeTwiceRow.holds Try.pinned (OpenSpec.ofChange bridgeTwiceSpec)

/-- ITS FALSE NEIGHBOUR: 'it returns false'. Refute it at one input. -/
def bridgeTwiceWrong : ChangeSpec := { name := "bridgeTwice", fn := fun _ => fun
  | [d1, d2] => { results := [.lit (.bool false)], args := [d1, d2] }
  | _ => none }
def BridgeTwiceWrongFalsely : Prop := bridgeTwiceRow.holds Try.pinned (OpenSpec.ofChange bridgeTwiceWrong)

/-- 'tourkeep4.UndoAll': WHATEVER THE INPUT: true; the input reads as it did. -/
def undoAllSpec : ChangeSpec := { name := "undoAll", fn := fun _ => fun
  | [d1, d2, d3] => { results := [.lit (.bool true)], args := [d1, d2, d3] }
  | _ => none }
def undoAllRow : OpenClaim := { program := "ytnidcmhfbkdioaa", sum := "6cbeaf2ccf4dccde47851a526eb7e3bf2c2e3a1cbc6b79fcc1184bafc0752a45", func := "tourney/tourkeep4.UndoAll", spec := "undoAll", unfollowed := true, recurses := true, apart := false }
def UndoAllSaid : Prop := undoAllRow.holds Try.pinned (OpenSpec.ofChange undoAllSpec)

/-- ITS FALSE NEIGHBOUR: 'it returns false'. Refute it at one input. -/
def undoAllWrong : ChangeSpec := { name := "undoAll", fn := fun _ => fun
  | [d1, d2, d3] => { results := [.lit (.bool false)], args := [d1, d2, d3] }
  | _ => none }
def UndoAllWrongFalsely : Prop := undoAllRow.holds Try.pinned (OpenSpec.ofChange undoAllWrong)

/-- 'tourlaw4.UndoSays': WHATEVER THE INPUT: true; the input reads as it did. -/
def undoSaysSpec : ChangeSpec := { name := "undoSays", fn := fun _ => fun
  | [d1, d2] => { results := [.lit (.bool true)], args := [d1, d2] }
  | _ => none }
def undoSaysRow : OpenClaim := { program := "ytnidcmhfbkdioaa", sum := "6cbeaf2ccf4dccde47851a526eb7e3bf2c2e3a1cbc6b79fcc1184bafc0752a45", func := "tourney/tourlaw4.UndoSays", spec := "undoSays", unfollowed := true, recurses := true, apart := false }
def UndoSaysSaid : Prop := undoSaysRow.holds Try.pinned (OpenSpec.ofChange undoSaysSpec)

/-- ITS FALSE NEIGHBOUR: 'it returns false'. Refute it at one input. -/
def undoSaysWrong : ChangeSpec := { name := "undoSays", fn := fun _ => fun
  | [d1, d2] => { results := [.lit (.bool false)], args := [d1, d2] }
  | _ => none }
def UndoSaysWrongFalsely : Prop := undoSaysRow.holds Try.pinned (OpenSpec.ofChange undoSaysWrong)

/- THE SECOND FORM. 'bulk': how many values and letters a reading holds, each counted each time it is reached (what is shared counts as often as it is met; a slice's spare places count too). A statement '..UptoSaid' is the law's where the arguments, and the package variables that the reading takes, are together of bulk at most 1048576: NARROWER than '..Said'. Prove '..Said' where nothing that the law and all that it calls make is longer than what came in: it says more and counts as full. Else prove '..UptoSaid'. A law counts once. -/
mutual
def uptoBulk {H : Type} : DataW H → Nat
  | .lit (.string bytes) => bytes.length + 1
  | .lit _ => 1
  | .nil => 1
  | .ptr d => uptoBulk d + 1
  | .slice elems spare => uptoBulkAll elems + uptoBulkAll spare + 1
  | .agg parts => uptoBulkAll parts + 1
  | .iface _ d => uptoBulk d + 1
  | .map entries => uptoBulkEntries entries + 1
  | .held _ => 1
def uptoBulkAll {H : Type} : List (DataW H) → Nat
  | [] => 0
  | d :: r => uptoBulk d + uptoBulkAll r
def uptoBulkEntries {H : Type} : List (Lit × DataW H) → Nat
  | [] => 0
  | x :: r => uptoBulkEntry x + uptoBulkEntries r
def uptoBulkEntry {H : Type} : Lit × DataW H → Nat
  | (.string bytes, d) => bytes.length + uptoBulk d + 1
  | (_, d) => uptoBulk d + 1
 end
def uptoSmall : (H : Type) → List (DataW H) → Bool := fun _ ds => decide (uptoBulkAll ds ≤ 1048576)
def OpenSpec.upto (s : _root_.Go.ChangeSpec) : _root_.Go.OpenSpec := { _root_.Go.OpenSpec.ofChange s with cond := some uptoSmall }

/-- 'tourlaw4.BridgeMaps', WHERE WHAT IT READS IS OF BULK AT MOST 1048576: true; the input reads as it did. -/
def bridgeMapsUptoRow : OpenClaim := { program := "ytnidcmhfbkdioaa", sum := "6cbeaf2ccf4dccde47851a526eb7e3bf2c2e3a1cbc6b79fcc1184bafc0752a45", func := "tourney/tourlaw4.BridgeMaps", spec := "bridgeMaps", unfollowed := true, recurses := true, apart := false, narrowed := true }
def BridgeMapsUptoSaid : Prop := bridgeMapsUptoRow.holds Try.pinned (OpenSpec.upto bridgeMapsSpec)

/-- 'tourkeep4.PrefabCounts', WHERE WHAT IT READS IS OF BULK AT MOST 1048576: true; the input reads as it did. -/
def prefabCountsUptoRow : OpenClaim := { program := "ytnidcmhfbkdioaa", sum := "6cbeaf2ccf4dccde47851a526eb7e3bf2c2e3a1cbc6b79fcc1184bafc0752a45", func := "tourney/tourkeep4.PrefabCounts", spec := "prefabCounts", unfollowed := true, recurses := true, apart := false, narrowed := true }
def PrefabCountsUptoSaid : Prop := prefabCountsUptoRow.holds Try.pinned (OpenSpec.upto prefabCountsSpec)

/-- 'tourlaw4.MergeSays', WHERE WHAT IT READS IS OF BULK AT MOST 1048576: true; the input reads as it did. -/
def mergeSaysUptoRow : OpenClaim := { program := "ytnidcmhfbkdioaa", sum := "6cbeaf2ccf4dccde47851a526eb7e3bf2c2e3a1cbc6b79fcc1184bafc0752a45", func := "tourney/tourlaw4.MergeSays", spec := "mergeSays", unfollowed := true, recurses := true, apart := false, narrowed := true }
def MergeSaysUptoSaid : Prop := mergeSaysUptoRow.holds Try.pinned (OpenSpec.upto mergeSaysSpec)

/-- 'tourkeep4.MergeOne', WHERE WHAT IT READS IS OF BULK AT MOST 1048576: true; the input reads as it did. -/
def mergeOneUptoRow : OpenClaim := { program := "ytnidcmhfbkdioaa", sum := "6cbeaf2ccf4dccde47851a526eb7e3bf2c2e3a1cbc6b79fcc1184bafc0752a45", func := "tourney/tourkeep4.MergeOne", spec := "mergeOne", unfollowed := true, recurses := true, apart := false, narrowed := true }
def MergeOneUptoSaid : Prop := mergeOneUptoRow.holds Try.pinned (OpenSpec.upto mergeOneSpec)

/-- 'tourkeep4.MergeTurned', WHERE WHAT IT READS IS OF BULK AT MOST 1048576: true; the input reads as it did. -/
def mergeTurnedUptoRow : OpenClaim := { program := "ytnidcmhfbkdioaa", sum := "6cbeaf2ccf4dccde47851a526eb7e3bf2c2e3a1cbc6b79fcc1184bafc0752a45", func := "tourney/tourkeep4.MergeTurned", spec := "mergeTurned", unfollowed := true, recurses := true, apart := false, narrowed := true }
def MergeTurnedUptoSaid : Prop := mergeTurnedUptoRow.holds Try.pinned (OpenSpec.upto mergeTurnedSpec)

/-- 'tourlaw4.DeltaStates', WHERE WHAT IT READS IS OF BULK AT MOST 1048576: true; the input reads as it did. -/
def deltaStatesUptoRow : OpenClaim := { program := "ytnidcmhfbkdioaa", sum := "6cbeaf2ccf4dccde47851a526eb7e3bf2c2e3a1cbc6b79fcc1184bafc0752a45", func := "tourney/tourlaw4.DeltaStates", spec := "deltaStates", unfollowed := true, recurses := true, apart := false, narrowed := true }
def DeltaStatesUptoSaid : Prop := deltaStatesUptoRow.holds Try.pinned (OpenSpec.upto deltaStatesSpec)

/-- 'tourlaw4.DelaySays', WHERE WHAT IT READS IS OF BULK AT MOST 1048576: true; the input reads as it did. -/
def delaySaysUptoRow : OpenClaim := { program := "ytnidcmhfbkdioaa", sum := "6cbeaf2ccf4dccde47851a526eb7e3bf2c2e3a1cbc6b79fcc1184bafc0752a45", func := "tourney/tourlaw4.DelaySays", spec := "delaySays", unfollowed := true, recurses := true, apart := false, narrowed := true }
def DelaySaysUptoSaid : Prop := delaySaysUptoRow.holds Try.pinned (OpenSpec.upto delaySaysSpec)

/-- 'tourkeep4.DelayBounds', WHERE WHAT IT READS IS OF BULK AT MOST 1048576: true; the input reads as it did. -/
def delayBoundsUptoRow : OpenClaim := { program := "ytnidcmhfbkdioaa", sum := "6cbeaf2ccf4dccde47851a526eb7e3bf2c2e3a1cbc6b79fcc1184bafc0752a45", func := "tourney/tourkeep4.DelayBounds", spec := "delayBounds", unfollowed := true, recurses := true, apart := false, narrowed := true }
def DelayBoundsUptoSaid : Prop := delayBoundsUptoRow.holds Try.pinned (OpenSpec.upto delayBoundsSpec)

/-- 'tourlaw4.BridgeScenes', WHERE WHAT IT READS IS OF BULK AT MOST 1048576: true; the input reads as it did. -/
def bridgeScenesUptoRow : OpenClaim := { program := "ytnidcmhfbkdioaa", sum := "6cbeaf2ccf4dccde47851a526eb7e3bf2c2e3a1cbc6b79fcc1184bafc0752a45", func := "tourney/tourlaw4.BridgeScenes", spec := "bridgeScenes", unfollowed := true, recurses := true, named := ["math/bits.divideError", "math/bits.overflowError"], apart := false, narrowed := true }
def BridgeScenesUptoSaid : Prop := bridgeScenesUptoRow.holds Try.pinned (OpenSpec.upto bridgeScenesSpec)

/-- 'tourkeep4.PrefabBack', WHERE WHAT IT READS IS OF BULK AT MOST 1048576: true; the input reads as it did. -/
def prefabBackUptoRow : OpenClaim := { program := "ytnidcmhfbkdioaa", sum := "6cbeaf2ccf4dccde47851a526eb7e3bf2c2e3a1cbc6b79fcc1184bafc0752a45", func := "tourney/tourkeep4.PrefabBack", spec := "prefabBack", unfollowed := true, recurses := true, apart := false, narrowed := true }
def PrefabBackUptoSaid : Prop := prefabBackUptoRow.holds Try.pinned (OpenSpec.upto prefabBackSpec)

/-- 'tourlaw4.BridgeWorlds', WHERE WHAT IT READS IS OF BULK AT MOST 1048576: true; the input reads as it did. -/
def bridgeWorldsUptoRow : OpenClaim := { program := "ytnidcmhfbkdioaa", sum := "6cbeaf2ccf4dccde47851a526eb7e3bf2c2e3a1cbc6b79fcc1184bafc0752a45", func := "tourney/tourlaw4.BridgeWorlds", spec := "bridgeWorlds", unfollowed := true, recurses := true, named := ["math/bits.divideError", "math/bits.overflowError"], apart := false, narrowed := true }
def BridgeWorldsUptoSaid : Prop := bridgeWorldsUptoRow.holds Try.pinned (OpenSpec.upto bridgeWorldsSpec)

/-- 'tourlaw4.PrefabDiffs', WHERE WHAT IT READS IS OF BULK AT MOST 1048576: true; the input reads as it did. -/
def prefabDiffsUptoRow : OpenClaim := { program := "ytnidcmhfbkdioaa", sum := "6cbeaf2ccf4dccde47851a526eb7e3bf2c2e3a1cbc6b79fcc1184bafc0752a45", func := "tourney/tourlaw4.PrefabDiffs", spec := "prefabDiffs", unfollowed := true, recurses := true, apart := false, narrowed := true }
def PrefabDiffsUptoSaid : Prop := prefabDiffsUptoRow.holds Try.pinned (OpenSpec.upto prefabDiffsSpec)

/-- 'tourkeep4.BridgeKeeps', WHERE WHAT IT READS IS OF BULK AT MOST 1048576: true; the input reads as it did. -/
def bridgeKeepsUptoRow : OpenClaim := { program := "ytnidcmhfbkdioaa", sum := "6cbeaf2ccf4dccde47851a526eb7e3bf2c2e3a1cbc6b79fcc1184bafc0752a45", func := "tourney/tourkeep4.BridgeKeeps", spec := "bridgeKeeps", unfollowed := true, recurses := true, named := ["math/bits.divideError", "math/bits.overflowError"], apart := false, narrowed := true }
def BridgeKeepsUptoSaid : Prop := bridgeKeepsUptoRow.holds Try.pinned (OpenSpec.upto bridgeKeepsSpec)

/-- 'tourkeep4.BridgeTwice', WHERE WHAT IT READS IS OF BULK AT MOST 1048576: true; the input reads as it did. -/
def bridgeTwiceUptoRow : OpenClaim := { program := "ytnidcmhfbkdioaa", sum := "6cbeaf2ccf4dccde47851a526eb7e3bf2c2e3a1cbc6b79fcc1184bafc0752a45", func := "tourney/tourkeep4.BridgeTwice", spec := "bridgeTwice", unfollowed := true, recurses := true, named := ["math/bits.divideError", "math/bits.overflowError"], apart := false, narrowed := true }
def BridgeTwiceUptoSaid : Prop := bridgeTwiceUptoRow.holds Try.pinned (OpenSpec.upto bridgeTwiceSpec)

/-- 'tourkeep4.UndoAll', WHERE WHAT IT READS IS OF BULK AT MOST 1048576: true; the input reads as it did. -/
def undoAllUptoRow : OpenClaim := { program := "ytnidcmhfbkdioaa", sum := "6cbeaf2ccf4dccde47851a526eb7e3bf2c2e3a1cbc6b79fcc1184bafc0752a45", func := "tourney/tourkeep4.UndoAll", spec := "undoAll", unfollowed := true, recurses := true, apart := false, narrowed := true }
def UndoAllUptoSaid : Prop := undoAllUptoRow.holds Try.pinned (OpenSpec.upto undoAllSpec)

/-- 'tourlaw4.UndoSays', WHERE WHAT IT READS IS OF BULK AT MOST 1048576: true; the input reads as it did. -/
def undoSaysUptoRow : OpenClaim := { program := "ytnidcmhfbkdioaa", sum := "6cbeaf2ccf4dccde47851a526eb7e3bf2c2e3a1cbc6b79fcc1184bafc0752a45", func := "tourney/tourlaw4.UndoSays", spec := "undoSays", unfollowed := true, recurses := true, apart := false, narrowed := true }
def UndoSaysUptoSaid : Prop := undoSaysUptoRow.holds Try.pinned (OpenSpec.upto undoSaysSpec)

end Rows
end Go.Proofs.Ytnidcmhfbkdioaa
