/-
  No cell of these rows narrows 'for every input' (looked for: loops, veiled, ifaces, maps, wideKeys, modest, calm, conditions, laid).
  DERIVED. THE GIVEN ROWS OF THIS SEAT. 12 by the template 'for every input the law returns true; each argument reads behind the call as it read before'; 0 by the template 'total and deterministic' (their statements: YtlgcdcjfobfoiaaTotals.lean).
  GIVEN WITH THE SEED: the statements are not yours to turn. If you find one false, say at which input.
  Laid BY PROGRAM, IN A SANDBOX (cutbox-rows.mjs): the forced cells as the released guide's own fill.sh prints them over the translation e0a688480e4310ad… (all of the seat's roots in one cut). By AI agents, Wed Nov 11 2026. No macro, syntax, notation, axiom, sorry.
-/
import Derived.Test.YtlgcdcjfobfoiaaChecked
import GoSem.Claim
import GoSem.ClaimJoined
import GoSem.ClaimMapViews
import Derived.JoinedTies
import Derived.KernelRfl
namespace Go.Proofs.Ytlgcdcjfobfoiaa
/- THE CELL 'sum', in the pinned program and in every row, IS THE sha256 OF THE DUMP (.gsa) THAT YtlgcdcjfobfoiaaProg.lean LOADS. Nothing in Lean hashes anything: it is a label: what it is worth is what the hold of that sum in a sandbox is worth. -/
noncomputable def Try.pinned : Pinned := { name := "ytlgcdcjfobfoiaa", sum := "e0a688480e4310ad552c82288f0c140594ea5dcecf0243bc5a8ff9156eff68f4", checked := Try.checked }
namespace Rows
def none {H : Type} : Left H := { results := [], args := [] }

/-- 'tourlaw4.InputFaults': WHATEVER THE INPUT: true; the input reads as it did. -/
def inputFaultsSpec : ChangeSpec := { name := "inputFaults", fn := fun _ => fun
  | [d1, d2] => { results := [.lit (.bool true)], args := [d1, d2] }
  | _ => none }
def inputFaultsRow : OpenClaim := { program := "ytlgcdcjfobfoiaa", sum := "e0a688480e4310ad552c82288f0c140594ea5dcecf0243bc5a8ff9156eff68f4", func := "tourney/tourlaw4.InputFaults", spec := "inputFaults", apart := false }
def InputFaultsSaid : Prop := inputFaultsRow.holds Try.pinned (OpenSpec.ofChange inputFaultsSpec)

/-- ITS FALSE NEIGHBOUR: 'it returns false'. Refute it at one input. -/
def inputFaultsWrong : ChangeSpec := { name := "inputFaults", fn := fun _ => fun
  | [d1, d2] => { results := [.lit (.bool false)], args := [d1, d2] }
  | _ => none }
def InputFaultsWrongFalsely : Prop := inputFaultsRow.holds Try.pinned (OpenSpec.ofChange inputFaultsWrong)

/-- 'tourlaw4.InputPacks': WHATEVER THE INPUT: true; the input reads as it did. -/
def inputPacksSpec : ChangeSpec := { name := "inputPacks", fn := fun _ => fun
  | [d1, d2] => { results := [.lit (.bool true)], args := [d1, d2] }
  | _ => none }
def inputPacksRow : OpenClaim := { program := "ytlgcdcjfobfoiaa", sum := "e0a688480e4310ad552c82288f0c140594ea5dcecf0243bc5a8ff9156eff68f4", func := "tourney/tourlaw4.InputPacks", spec := "inputPacks", apart := false }
def InputPacksSaid : Prop := inputPacksRow.holds Try.pinned (OpenSpec.ofChange inputPacksSpec)

/-- ITS FALSE NEIGHBOUR: 'it returns false'. Refute it at one input. -/
def inputPacksWrong : ChangeSpec := { name := "inputPacks", fn := fun _ => fun
  | [d1, d2] => { results := [.lit (.bool false)], args := [d1, d2] }
  | _ => none }
def InputPacksWrongFalsely : Prop := inputPacksRow.holds Try.pinned (OpenSpec.ofChange inputPacksWrong)

/-- 'tourkeep4.NetAll': WHATEVER THE INPUT: true; the input reads as it did. -/
def netAllSpec : ChangeSpec := { name := "netAll", fn := fun _ => fun
  | [d1, d2] => { results := [.lit (.bool true)], args := [d1, d2] }
  | _ => none }
def netAllRow : OpenClaim := { program := "ytlgcdcjfobfoiaa", sum := "e0a688480e4310ad552c82288f0c140594ea5dcecf0243bc5a8ff9156eff68f4", func := "tourney/tourkeep4.NetAll", spec := "netAll", apart := false }
def NetAllSaid : Prop := netAllRow.holds Try.pinned (OpenSpec.ofChange netAllSpec)

/-- ITS FALSE NEIGHBOUR: 'it returns false'. Refute it at one input. -/
def netAllWrong : ChangeSpec := { name := "netAll", fn := fun _ => fun
  | [d1, d2] => { results := [.lit (.bool false)], args := [d1, d2] }
  | _ => none }
def NetAllWrongFalsely : Prop := netAllRow.holds Try.pinned (OpenSpec.ofChange netAllWrong)

/-- 'tourlaw4.NetSays': WHATEVER THE INPUT: true; the input reads as it did. -/
def netSaysSpec : ChangeSpec := { name := "netSays", fn := fun _ => fun
  | [d1, d2, d3] => { results := [.lit (.bool true)], args := [d1, d2, d3] }
  | _ => none }
def netSaysRow : OpenClaim := { program := "ytlgcdcjfobfoiaa", sum := "e0a688480e4310ad552c82288f0c140594ea5dcecf0243bc5a8ff9156eff68f4", func := "tourney/tourlaw4.NetSays", spec := "netSays", unfollowed := true, recurses := true, apart := false }
def NetSaysSaid : Prop := netSaysRow.holds Try.pinned (OpenSpec.ofChange netSaysSpec)

/-- ITS FALSE NEIGHBOUR: 'it returns false'. Refute it at one input. -/
def netSaysWrong : ChangeSpec := { name := "netSays", fn := fun _ => fun
  | [d1, d2, d3] => { results := [.lit (.bool false)], args := [d1, d2, d3] }
  | _ => none }
def NetSaysWrongFalsely : Prop := netSaysRow.holds Try.pinned (OpenSpec.ofChange netSaysWrong)

/-- 'tourkeep4.InputBack': WHATEVER THE INPUT: true; the input reads as it did. -/
def inputBackSpec : ChangeSpec := { name := "inputBack", fn := fun _ => fun
  | [d1, d2, d3] => { results := [.lit (.bool true)], args := [d1, d2, d3] }
  | _ => none }
def inputBackRow : OpenClaim := { program := "ytlgcdcjfobfoiaa", sum := "e0a688480e4310ad552c82288f0c140594ea5dcecf0243bc5a8ff9156eff68f4", func := "tourney/tourkeep4.InputBack", spec := "inputBack", unfollowed := true, recurses := true, apart := false }
def InputBackSaid : Prop := inputBackRow.holds Try.pinned (OpenSpec.ofChange inputBackSpec)

/-- ITS FALSE NEIGHBOUR: 'it returns false'. Refute it at one input. -/
def inputBackWrong : ChangeSpec := { name := "inputBack", fn := fun _ => fun
  | [d1, d2, d3] => { results := [.lit (.bool false)], args := [d1, d2, d3] }
  | _ => none }
def InputBackWrongFalsely : Prop := inputBackRow.holds Try.pinned (OpenSpec.ofChange inputBackWrong)

/-- 'tourkeep4.InputLess': WHATEVER THE INPUT: true; the input reads as it did. -/
def inputLessSpec : ChangeSpec := { name := "inputLess", fn := fun _ => fun
  | [d1, d2, d3, d4] => { results := [.lit (.bool true)], args := [d1, d2, d3, d4] }
  | _ => none }
def inputLessRow : OpenClaim := { program := "ytlgcdcjfobfoiaa", sum := "e0a688480e4310ad552c82288f0c140594ea5dcecf0243bc5a8ff9156eff68f4", func := "tourney/tourkeep4.InputLess", spec := "inputLess", unfollowed := true, recurses := true, apart := false }
def InputLessSaid : Prop := inputLessRow.holds Try.pinned (OpenSpec.ofChange inputLessSpec)

/-- ITS FALSE NEIGHBOUR: 'it returns false'. Refute it at one input. -/
def inputLessWrong : ChangeSpec := { name := "inputLess", fn := fun _ => fun
  | [d1, d2, d3, d4] => { results := [.lit (.bool false)], args := [d1, d2, d3, d4] }
  | _ => none }
def InputLessWrongFalsely : Prop := inputLessRow.holds Try.pinned (OpenSpec.ofChange inputLessWrong)

/-- 'tourlaw4.InputUnpacks': WHATEVER THE INPUT: true; the input reads as it did. -/
def inputUnpacksSpec : ChangeSpec := { name := "inputUnpacks", fn := fun _ => fun
  | [d1, d2] => { results := [.lit (.bool true)], args := [d1, d2] }
  | _ => none }
def inputUnpacksRow : OpenClaim := { program := "ytlgcdcjfobfoiaa", sum := "e0a688480e4310ad552c82288f0c140594ea5dcecf0243bc5a8ff9156eff68f4", func := "tourney/tourlaw4.InputUnpacks", spec := "inputUnpacks", unfollowed := true, recurses := true, apart := false }
def InputUnpacksSaid : Prop := inputUnpacksRow.holds Try.pinned (OpenSpec.ofChange inputUnpacksSpec)

/-- ITS FALSE NEIGHBOUR: 'it returns false'. Refute it at one input. -/
def inputUnpacksWrong : ChangeSpec := { name := "inputUnpacks", fn := fun _ => fun
  | [d1, d2] => { results := [.lit (.bool false)], args := [d1, d2] }
  | _ => none }
def InputUnpacksWrongFalsely : Prop := inputUnpacksRow.holds Try.pinned (OpenSpec.ofChange inputUnpacksWrong)

/-- 'tourlaw4.LinkSays': WHATEVER THE INPUT: true; the input reads as it did. -/
def linkSaysSpec : ChangeSpec := { name := "linkSays", fn := fun _ => fun
  | [d1, d2] => { results := [.lit (.bool true)], args := [d1, d2] }
  | _ => none }
def linkSaysRow : OpenClaim := { program := "ytlgcdcjfobfoiaa", sum := "e0a688480e4310ad552c82288f0c140594ea5dcecf0243bc5a8ff9156eff68f4", func := "tourney/tourlaw4.LinkSays", spec := "linkSays", unfollowed := true, recurses := true, apart := false }
def LinkSaysSaid : Prop := linkSaysRow.holds Try.pinned (OpenSpec.ofChange linkSaysSpec)

/-- ITS FALSE NEIGHBOUR: 'it returns false'. Refute it at one input. -/
def linkSaysWrong : ChangeSpec := { name := "linkSays", fn := fun _ => fun
  | [d1, d2] => { results := [.lit (.bool false)], args := [d1, d2] }
  | _ => none }
def LinkSaysWrongFalsely : Prop := linkSaysRow.holds Try.pinned (OpenSpec.ofChange linkSaysWrong)

/-- 'tourkeep4.LinkAll': WHATEVER THE INPUT: true; the input reads as it did. -/
def linkAllSpec : ChangeSpec := { name := "linkAll", fn := fun _ => fun
  | [d1, d2] => { results := [.lit (.bool true)], args := [d1, d2] }
  | _ => none }
def linkAllRow : OpenClaim := { program := "ytlgcdcjfobfoiaa", sum := "e0a688480e4310ad552c82288f0c140594ea5dcecf0243bc5a8ff9156eff68f4", func := "tourney/tourkeep4.LinkAll", spec := "linkAll", unfollowed := true, recurses := true, apart := false }
def LinkAllSaid : Prop := linkAllRow.holds Try.pinned (OpenSpec.ofChange linkAllSpec)

/-- ITS FALSE NEIGHBOUR: 'it returns false'. Refute it at one input. -/
def linkAllWrong : ChangeSpec := { name := "linkAll", fn := fun _ => fun
  | [d1, d2] => { results := [.lit (.bool false)], args := [d1, d2] }
  | _ => none }
def LinkAllWrongFalsely : Prop := linkAllRow.holds Try.pinned (OpenSpec.ofChange linkAllWrong)

/-- 'tourlaw4.DeltaInts': WHATEVER THE INPUT: true; the input reads as it did. -/
def deltaIntsSpec : ChangeSpec := { name := "deltaInts", fn := fun _ => fun
  | [d1, d2] => { results := [.lit (.bool true)], args := [d1, d2] }
  | _ => none }
def deltaIntsRow : OpenClaim := { program := "ytlgcdcjfobfoiaa", sum := "e0a688480e4310ad552c82288f0c140594ea5dcecf0243bc5a8ff9156eff68f4", func := "tourney/tourlaw4.DeltaInts", spec := "deltaInts", apart := false }
def DeltaIntsSaid : Prop := deltaIntsRow.holds Try.pinned (OpenSpec.ofChange deltaIntsSpec)

/-- ITS FALSE NEIGHBOUR: 'it returns false'. Refute it at one input. -/
def deltaIntsWrong : ChangeSpec := { name := "deltaInts", fn := fun _ => fun
  | [d1, d2] => { results := [.lit (.bool false)], args := [d1, d2] }
  | _ => none }
def DeltaIntsWrongFalsely : Prop := deltaIntsRow.holds Try.pinned (OpenSpec.ofChange deltaIntsWrong)

/-- 'tourkeep4.DeltaSmall': WHATEVER THE INPUT: true; the input reads as it did. -/
def deltaSmallSpec : ChangeSpec := { name := "deltaSmall", fn := fun _ => fun
  | [d1, d2, d3] => { results := [.lit (.bool true)], args := [d1, d2, d3] }
  | _ => none }
def deltaSmallRow : OpenClaim := { program := "ytlgcdcjfobfoiaa", sum := "e0a688480e4310ad552c82288f0c140594ea5dcecf0243bc5a8ff9156eff68f4", func := "tourney/tourkeep4.DeltaSmall", spec := "deltaSmall", apart := false }
def DeltaSmallSaid : Prop := deltaSmallRow.holds Try.pinned (OpenSpec.ofChange deltaSmallSpec)

/-- ITS FALSE NEIGHBOUR: 'it returns false'. Refute it at one input. -/
def deltaSmallWrong : ChangeSpec := { name := "deltaSmall", fn := fun _ => fun
  | [d1, d2, d3] => { results := [.lit (.bool false)], args := [d1, d2, d3] }
  | _ => none }
def DeltaSmallWrongFalsely : Prop := deltaSmallRow.holds Try.pinned (OpenSpec.ofChange deltaSmallWrong)

/-- 'tourlaw4.DeltaBack': WHATEVER THE INPUT: true; the input reads as it did. -/
def deltaBackSpec : ChangeSpec := { name := "deltaBack", fn := fun _ => fun
  | [d1, d2, d3, d4] => { results := [.lit (.bool true)], args := [d1, d2, d3, d4] }
  | _ => none }
def deltaBackRow : OpenClaim := { program := "ytlgcdcjfobfoiaa", sum := "e0a688480e4310ad552c82288f0c140594ea5dcecf0243bc5a8ff9156eff68f4", func := "tourney/tourlaw4.DeltaBack", spec := "deltaBack", apart := false }
def DeltaBackSaid : Prop := deltaBackRow.holds Try.pinned (OpenSpec.ofChange deltaBackSpec)

/-- ITS FALSE NEIGHBOUR: 'it returns false'. Refute it at one input. -/
def deltaBackWrong : ChangeSpec := { name := "deltaBack", fn := fun _ => fun
  | [d1, d2, d3, d4] => { results := [.lit (.bool false)], args := [d1, d2, d3, d4] }
  | _ => none }
def DeltaBackWrongFalsely : Prop := deltaBackRow.holds Try.pinned (OpenSpec.ofChange deltaBackWrong)

/- THE SECOND FORM. 'bulk': how many values and letters a reading holds, each counted each time it is reached (what is shared counts as often as it is met; a slice's spare places count too). A statement '..UptoSaid' is the law's where the arguments, and the package variables that the reading takes, are together of bulk at most 1048576: NARROWER than '..Said'. Prove '..Said' where nothing that the law and all that it calls make is longer than what came in: it says more and counts as full. Else prove '..UptoSaid'. A law counts once. -/
mutual
def uptoBulk {H : Type} : DataW H → Nat
  | .lit (.string bytes) => bytes.length + 1
  | .lit _ => 1
  | .nil => 1
  | .ptr d => uptoBulk d + 1
  | .slice elems spare => uptoBulkAll elems + uptoBulkAll spare + 1
  | .agg parts => uptoBulkAll parts + 1
  | .iface _ d => uptoBulk d + 1
  | .map entries => uptoBulkEntries entries + 1
  | .held _ => 1
def uptoBulkAll {H : Type} : List (DataW H) → Nat
  | [] => 0
  | d :: r => uptoBulk d + uptoBulkAll r
def uptoBulkEntries {H : Type} : List (Lit × DataW H) → Nat
  | [] => 0
  | x :: r => uptoBulkEntry x + uptoBulkEntries r
def uptoBulkEntry {H : Type} : Lit × DataW H → Nat
  | (.string bytes, d) => bytes.length + uptoBulk d + 1
  | (_, d) => uptoBulk d + 1
 end
def uptoSmall : (H : Type) → List (DataW H) → Bool := fun _ ds => decide (uptoBulkAll ds ≤ 1048576)
def OpenSpec.upto (s : _root_.Go.ChangeSpec) : _root_.Go.OpenSpec := { _root_.Go.OpenSpec.ofChange s with cond := some uptoSmall }

/-- 'tourlaw4.InputFaults', WHERE WHAT IT READS IS OF BULK AT MOST 1048576: true; the input reads as it did. -/
def inputFaultsUptoRow : OpenClaim := { program := "ytlgcdcjfobfoiaa", sum := "e0a688480e4310ad552c82288f0c140594ea5dcecf0243bc5a8ff9156eff68f4", func := "tourney/tourlaw4.InputFaults", spec := "inputFaults", apart := false, narrowed := true }
def InputFaultsUptoSaid : Prop := inputFaultsUptoRow.holds Try.pinned (OpenSpec.upto inputFaultsSpec)

/-- 'tourlaw4.InputPacks', WHERE WHAT IT READS IS OF BULK AT MOST 1048576: true; the input reads as it did. -/
def inputPacksUptoRow : OpenClaim := { program := "ytlgcdcjfobfoiaa", sum := "e0a688480e4310ad552c82288f0c140594ea5dcecf0243bc5a8ff9156eff68f4", func := "tourney/tourlaw4.InputPacks", spec := "inputPacks", apart := false, narrowed := true }
def InputPacksUptoSaid : Prop := inputPacksUptoRow.holds Try.pinned (OpenSpec.upto inputPacksSpec)

/-- 'tourkeep4.NetAll', WHERE WHAT IT READS IS OF BULK AT MOST 1048576: true; the input reads as it did. -/
def netAllUptoRow : OpenClaim := { program := "ytlgcdcjfobfoiaa", sum := "e0a688480e4310ad552c82288f0c140594ea5dcecf0243bc5a8ff9156eff68f4", func := "tourney/tourkeep4.NetAll", spec := "netAll", apart := false, narrowed := true }
def NetAllUptoSaid : Prop := netAllUptoRow.holds Try.pinned (OpenSpec.upto netAllSpec)

/-- 'tourlaw4.NetSays', WHERE WHAT IT READS IS OF BULK AT MOST 1048576: true; the input reads as it did. -/
def netSaysUptoRow : OpenClaim := { program := "ytlgcdcjfobfoiaa", sum := "e0a688480e4310ad552c82288f0c140594ea5dcecf0243bc5a8ff9156eff68f4", func := "tourney/tourlaw4.NetSays", spec := "netSays", unfollowed := true, recurses := true, apart := false, narrowed := true }
def NetSaysUptoSaid : Prop := netSaysUptoRow.holds Try.pinned (OpenSpec.upto netSaysSpec)

/-- 'tourkeep4.InputBack', WHERE WHAT IT READS IS OF BULK AT MOST 1048576: true; the input reads as it did. -/
def inputBackUptoRow : OpenClaim := { program := "ytlgcdcjfobfoiaa", sum := "e0a688480e4310ad552c82288f0c140594ea5dcecf0243bc5a8ff9156eff68f4", func := "tourney/tourkeep4.InputBack", spec := "inputBack", unfollowed := true, recurses := true, apart := false, narrowed := true }
def InputBackUptoSaid : Prop := inputBackUptoRow.holds Try.pinned (OpenSpec.upto inputBackSpec)

/-- 'tourkeep4.InputLess', WHERE WHAT IT READS IS OF BULK AT MOST 1048576: true; the input reads as it did. -/
def inputLessUptoRow : OpenClaim := { program := "ytlgcdcjfobfoiaa", sum := "e0a688480e4310ad552c82288f0c140594ea5dcecf0243bc5a8ff9156eff68f4", func := "tourney/tourkeep4.InputLess", spec := "inputLess", unfollowed := true, recurses := true, apart := false, narrowed := true }
def InputLessUptoSaid : Prop := inputLessUptoRow.holds Try.pinned (OpenSpec.upto inputLessSpec)

/-- 'tourlaw4.InputUnpacks', WHERE WHAT IT READS IS OF BULK AT MOST 1048576: true; the input reads as it did. -/
def inputUnpacksUptoRow : OpenClaim := { program := "ytlgcdcjfobfoiaa", sum := "e0a688480e4310ad552c82288f0c140594ea5dcecf0243bc5a8ff9156eff68f4", func := "tourney/tourlaw4.InputUnpacks", spec := "inputUnpacks", unfollowed := true, recurses := true, apart := false, narrowed := true }
def InputUnpacksUptoSaid : Prop := inputUnpacksUptoRow.holds Try.pinned (OpenSpec.upto inputUnpacksSpec)

/-- 'tourlaw4.LinkSays', WHERE WHAT IT READS IS OF BULK AT MOST 1048576: true; the input reads as it did. -/
def linkSaysUptoRow : OpenClaim := { program := "ytlgcdcjfobfoiaa", sum := "e0a688480e4310ad552c82288f0c140594ea5dcecf0243bc5a8ff9156eff68f4", func := "tourney/tourlaw4.LinkSays", spec := "linkSays", unfollowed := true, recurses := true, apart := false, narrowed := true }
def LinkSaysUptoSaid : Prop := linkSaysUptoRow.holds Try.pinned (OpenSpec.upto linkSaysSpec)

/-- 'tourkeep4.LinkAll', WHERE WHAT IT READS IS OF BULK AT MOST 1048576: true; the input reads as it did. -/
def linkAllUptoRow : OpenClaim := { program := "ytlgcdcjfobfoiaa", sum := "e0a688480e4310ad552c82288f0c140594ea5dcecf0243bc5a8ff9156eff68f4", func := "tourney/tourkeep4.LinkAll", spec := "linkAll", unfollowed := true, recurses := true, apart := false, narrowed := true }
def LinkAllUptoSaid : Prop := linkAllUptoRow.holds Try.pinned (OpenSpec.upto linkAllSpec)

/-- 'tourlaw4.DeltaInts', WHERE WHAT IT READS IS OF BULK AT MOST 1048576: true; the input reads as it did. -/
def deltaIntsUptoRow : OpenClaim := { program := "ytlgcdcjfobfoiaa", sum := "e0a688480e4310ad552c82288f0c140594ea5dcecf0243bc5a8ff9156eff68f4", func := "tourney/tourlaw4.DeltaInts", spec := "deltaInts", apart := false, narrowed := true }
def DeltaIntsUptoSaid : Prop := deltaIntsUptoRow.holds Try.pinned (OpenSpec.upto deltaIntsSpec)

/-- 'tourkeep4.DeltaSmall', WHERE WHAT IT READS IS OF BULK AT MOST 1048576: true; the input reads as it did. -/
def deltaSmallUptoRow : OpenClaim := { program := "ytlgcdcjfobfoiaa", sum := "e0a688480e4310ad552c82288f0c140594ea5dcecf0243bc5a8ff9156eff68f4", func := "tourney/tourkeep4.DeltaSmall", spec := "deltaSmall", apart := false, narrowed := true }
def DeltaSmallUptoSaid : Prop := deltaSmallUptoRow.holds Try.pinned (OpenSpec.upto deltaSmallSpec)

/-- 'tourlaw4.DeltaBack', WHERE WHAT IT READS IS OF BULK AT MOST 1048576: true; the input reads as it did. -/
def deltaBackUptoRow : OpenClaim := { program := "ytlgcdcjfobfoiaa", sum := "e0a688480e4310ad552c82288f0c140594ea5dcecf0243bc5a8ff9156eff68f4", func := "tourney/tourlaw4.DeltaBack", spec := "deltaBack", apart := false, narrowed := true }
def DeltaBackUptoSaid : Prop := deltaBackUptoRow.holds Try.pinned (OpenSpec.upto deltaBackSpec)

end Rows
end Go.Proofs.Ytlgcdcjfobfoiaa
