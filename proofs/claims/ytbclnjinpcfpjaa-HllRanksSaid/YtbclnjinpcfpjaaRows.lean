/-
  No cell of these rows narrows 'for every input' (looked for: loops, veiled, ifaces, maps, wideKeys, modest, calm, conditions, laid).
  DERIVED. THE GIVEN ROWS OF THIS SEAT. 12 by the template 'for every input the law returns true; each argument reads behind the call as it read before'; 0 by the template 'total and deterministic' (their statements: YtbclnjinpcfpjaaTotals.lean).
  GIVEN WITH THE SEED: the statements are not yours to turn. If you find one false, say at which input.
  Laid BY PROGRAM, IN A SANDBOX (cutbox-rows.mjs): the forced cells as the released guide's own fill.sh prints them over the translation bb70a8663dd22a5d… (all of the seat's roots in one cut). By AI agents, Wed Nov 11 2026. No macro, syntax, notation, axiom, sorry.
-/
import Derived.Test.YtbclnjinpcfpjaaChecked
import GoSem.Claim
import GoSem.ClaimJoined
import GoSem.ClaimMapViews
import Derived.JoinedTies
import Derived.KernelRfl
namespace Go.Proofs.Ytbclnjinpcfpjaa
/- THE CELL 'sum', in the pinned program and in every row, IS THE sha256 OF THE DUMP (.gsa) THAT YtbclnjinpcfpjaaProg.lean LOADS. Nothing in Lean hashes anything: it is a label: what it is worth is what the hold of that sum in a sandbox is worth. -/
noncomputable def Try.pinned : Pinned := { name := "ytbclnjinpcfpjaa", sum := "bb70a8663dd22a5d72bbaffd58756ee5d98de5ff20f51f3ead2eac6f6791658a", checked := Try.checked }
namespace Rows
def none {H : Type} : Left H := { results := [], args := [] }

/-- 'tallymanlaw15.DenseLogs': WHATEVER THE INPUT: true; the input reads as it did. -/
def denseLogsSpec : ChangeSpec := { name := "denseLogs", fn := fun _ => fun
  | [d1, d2, d3] => { results := [.lit (.bool true)], args := [d1, d2, d3] }
  | _ => none }
def denseLogsRow : OpenClaim := { program := "ytbclnjinpcfpjaa", sum := "bb70a8663dd22a5d72bbaffd58756ee5d98de5ff20f51f3ead2eac6f6791658a", func := "tallyman/tallymanlaw15.DenseLogs", spec := "denseLogs", apart := false }
def DenseLogsSaid : Prop := denseLogsRow.holds Try.pinned (OpenSpec.ofChange denseLogsSpec)

/-- ITS FALSE NEIGHBOUR: 'it returns false'. Refute it at one input. -/
def denseLogsWrong : ChangeSpec := { name := "denseLogs", fn := fun _ => fun
  | [d1, d2, d3] => { results := [.lit (.bool false)], args := [d1, d2, d3] }
  | _ => none }
def DenseLogsWrongFalsely : Prop := denseLogsRow.holds Try.pinned (OpenSpec.ofChange denseLogsWrong)

/-- 'tallymanlaw15.DenseShort': WHATEVER THE INPUT: true; the input reads as it did. -/
def denseShortSpec : ChangeSpec := { name := "denseShort", fn := fun _ => fun
  | [d1, d2, d3] => { results := [.lit (.bool true)], args := [d1, d2, d3] }
  | _ => none }
def denseShortRow : OpenClaim := { program := "ytbclnjinpcfpjaa", sum := "bb70a8663dd22a5d72bbaffd58756ee5d98de5ff20f51f3ead2eac6f6791658a", func := "tallyman/tallymanlaw15.DenseShort", spec := "denseShort", apart := false }
def DenseShortSaid : Prop := denseShortRow.holds Try.pinned (OpenSpec.ofChange denseShortSpec)

/-- ITS FALSE NEIGHBOUR: 'it returns false'. Refute it at one input. -/
def denseShortWrong : ChangeSpec := { name := "denseShort", fn := fun _ => fun
  | [d1, d2, d3] => { results := [.lit (.bool false)], args := [d1, d2, d3] }
  | _ => none }
def DenseShortWrongFalsely : Prop := denseShortRow.holds Try.pinned (OpenSpec.ofChange denseShortWrong)

/-- 'tallymanlaw15.DenseGrows': WHATEVER THE INPUT: true; the input reads as it did. -/
def denseGrowsSpec : ChangeSpec := { name := "denseGrows", fn := fun _ => fun
  | [d1, d2] => { results := [.lit (.bool true)], args := [d1, d2] }
  | _ => none }
def denseGrowsRow : OpenClaim := { program := "ytbclnjinpcfpjaa", sum := "bb70a8663dd22a5d72bbaffd58756ee5d98de5ff20f51f3ead2eac6f6791658a", func := "tallyman/tallymanlaw15.DenseGrows", spec := "denseGrows", inPlace := ["math/bits.Add64", "math/bits.Sub64"], unfollowed := true, recurses := true, apart := false }
def DenseGrowsSaid : Prop := denseGrowsRow.holds Try.pinned (OpenSpec.ofChange denseGrowsSpec)

/-- ITS FALSE NEIGHBOUR: 'it returns false'. Refute it at one input. -/
def denseGrowsWrong : ChangeSpec := { name := "denseGrows", fn := fun _ => fun
  | [d1, d2] => { results := [.lit (.bool false)], args := [d1, d2] }
  | _ => none }
def DenseGrowsWrongFalsely : Prop := denseGrowsRow.holds Try.pinned (OpenSpec.ofChange denseGrowsWrong)

/-- 'tallymanlaw14.HllRanks': WHATEVER THE INPUT: true; the input reads as it did. -/
def hllRanksSpec : ChangeSpec := { name := "hllRanks", fn := fun _ => fun
  | [d1, d2] => { results := [.lit (.bool true)], args := [d1, d2] }
  | _ => none }
def hllRanksRow : OpenClaim := { program := "ytbclnjinpcfpjaa", sum := "bb70a8663dd22a5d72bbaffd58756ee5d98de5ff20f51f3ead2eac6f6791658a", func := "tallyman/tallymanlaw14.HllRanks", spec := "hllRanks", inPlace := ["slices.overlaps[tallyman/api.Reg]"], unfollowed := true, recurses := true, apart := false }
def HllRanksSaid : Prop := hllRanksRow.holds Try.pinned (OpenSpec.ofChange hllRanksSpec)

/-- ITS FALSE NEIGHBOUR: 'it returns false'. Refute it at one input. -/
def hllRanksWrong : ChangeSpec := { name := "hllRanks", fn := fun _ => fun
  | [d1, d2] => { results := [.lit (.bool false)], args := [d1, d2] }
  | _ => none }
def HllRanksWrongFalsely : Prop := hllRanksRow.holds Try.pinned (OpenSpec.ofChange hllRanksWrong)

/-- 'tallymanlaw14.HllSets': WHATEVER THE INPUT: true; the input reads as it did. -/
def hllSetsSpec : ChangeSpec := { name := "hllSets", fn := fun _ => fun
  | [d1, d2, d3] => { results := [.lit (.bool true)], args := [d1, d2, d3] }
  | _ => none }
def hllSetsRow : OpenClaim := { program := "ytbclnjinpcfpjaa", sum := "bb70a8663dd22a5d72bbaffd58756ee5d98de5ff20f51f3ead2eac6f6791658a", func := "tallyman/tallymanlaw14.HllSets", spec := "hllSets", inPlace := ["slices.overlaps[tallyman/api.Reg]"], unfollowed := true, recurses := true, apart := false }
def HllSetsSaid : Prop := hllSetsRow.holds Try.pinned (OpenSpec.ofChange hllSetsSpec)

/-- ITS FALSE NEIGHBOUR: 'it returns false'. Refute it at one input. -/
def hllSetsWrong : ChangeSpec := { name := "hllSets", fn := fun _ => fun
  | [d1, d2, d3] => { results := [.lit (.bool false)], args := [d1, d2, d3] }
  | _ => none }
def HllSetsWrongFalsely : Prop := hllSetsRow.holds Try.pinned (OpenSpec.ofChange hllSetsWrong)

/-- 'tallymanlaw14.HllThree': WHATEVER THE INPUT: true; the input reads as it did. -/
def hllThreeSpec : ChangeSpec := { name := "hllThree", fn := fun _ => fun
  | [d1, d2, d3] => { results := [.lit (.bool true)], args := [d1, d2, d3] }
  | _ => none }
def hllThreeRow : OpenClaim := { program := "ytbclnjinpcfpjaa", sum := "bb70a8663dd22a5d72bbaffd58756ee5d98de5ff20f51f3ead2eac6f6791658a", func := "tallyman/tallymanlaw14.HllThree", spec := "hllThree", inPlace := ["slices.overlaps[tallyman/api.Reg]"], unfollowed := true, recurses := true, apart := false }
def HllThreeSaid : Prop := hllThreeRow.holds Try.pinned (OpenSpec.ofChange hllThreeSpec)

/-- ITS FALSE NEIGHBOUR: 'it returns false'. Refute it at one input. -/
def hllThreeWrong : ChangeSpec := { name := "hllThree", fn := fun _ => fun
  | [d1, d2, d3] => { results := [.lit (.bool false)], args := [d1, d2, d3] }
  | _ => none }
def HllThreeWrongFalsely : Prop := hllThreeRow.holds Try.pinned (OpenSpec.ofChange hllThreeWrong)

/-- 'tallymanlaw15.DenseBack': WHATEVER THE INPUT: true; the input reads as it did. -/
def denseBackSpec : ChangeSpec := { name := "denseBack", fn := fun _ => fun
  | [d1, d2, d3] => { results := [.lit (.bool true)], args := [d1, d2, d3] }
  | _ => none }
def denseBackRow : OpenClaim := { program := "ytbclnjinpcfpjaa", sum := "bb70a8663dd22a5d72bbaffd58756ee5d98de5ff20f51f3ead2eac6f6791658a", func := "tallyman/tallymanlaw15.DenseBack", spec := "denseBack", apart := false }
def DenseBackSaid : Prop := denseBackRow.holds Try.pinned (OpenSpec.ofChange denseBackSpec)

/-- ITS FALSE NEIGHBOUR: 'it returns false'. Refute it at one input. -/
def denseBackWrong : ChangeSpec := { name := "denseBack", fn := fun _ => fun
  | [d1, d2, d3] => { results := [.lit (.bool false)], args := [d1, d2, d3] }
  | _ => none }
def DenseBackWrongFalsely : Prop := denseBackRow.holds Try.pinned (OpenSpec.ofChange denseBackWrong)

/-- 'tallymanlaw14.HllFolds': WHATEVER THE INPUT: true; the input reads as it did. -/
def hllFoldsSpec : ChangeSpec := { name := "hllFolds", fn := fun _ => fun
  | [d1, d2, d3, d4, d5] => { results := [.lit (.bool true)], args := [d1, d2, d3, d4, d5] }
  | _ => none }
def hllFoldsRow : OpenClaim := { program := "ytbclnjinpcfpjaa", sum := "bb70a8663dd22a5d72bbaffd58756ee5d98de5ff20f51f3ead2eac6f6791658a", func := "tallyman/tallymanlaw14.HllFolds", spec := "hllFolds", inPlace := ["slices.overlaps[tallyman/api.Reg]"], unfollowed := true, recurses := true, apart := false }
def HllFoldsSaid : Prop := hllFoldsRow.holds Try.pinned (OpenSpec.ofChange hllFoldsSpec)

/-- ITS FALSE NEIGHBOUR: 'it returns false'. Refute it at one input. -/
def hllFoldsWrong : ChangeSpec := { name := "hllFolds", fn := fun _ => fun
  | [d1, d2, d3, d4, d5] => { results := [.lit (.bool false)], args := [d1, d2, d3, d4, d5] }
  | _ => none }
def HllFoldsWrongFalsely : Prop := hllFoldsRow.holds Try.pinned (OpenSpec.ofChange hllFoldsWrong)

/-- 'tallymanlaw14.HllNames': WHATEVER THE INPUT: true; the input reads as it did. -/
def hllNamesSpec : ChangeSpec := { name := "hllNames", fn := fun _ => fun
  | [] => { results := [.lit (.bool true)], args := [] }
  | _ => none }
def hllNamesRow : OpenClaim := { program := "ytbclnjinpcfpjaa", sum := "bb70a8663dd22a5d72bbaffd58756ee5d98de5ff20f51f3ead2eac6f6791658a", func := "tallyman/tallymanlaw14.HllNames", spec := "hllNames", inPlace := ["slices.overlaps[tallyman/api.Reg]"], unfollowed := true, recurses := true, apart := false }
def HllNamesSaid : Prop := hllNamesRow.holds Try.pinned (OpenSpec.ofChange hllNamesSpec)

/-- ITS FALSE NEIGHBOUR: 'it returns false'. Refute it at one input. -/
def hllNamesWrong : ChangeSpec := { name := "hllNames", fn := fun _ => fun
  | [] => { results := [.lit (.bool false)], args := [] }
  | _ => none }
def HllNamesWrongFalsely : Prop := hllNamesRow.holds Try.pinned (OpenSpec.ofChange hllNamesWrong)

/-- 'tallymanlaw14.HllCalls': WHATEVER THE INPUT: true; the input reads as it did. -/
def hllCallsSpec : ChangeSpec := { name := "hllCalls", fn := fun _ => fun
  | [d1, d2, d3, d4, d5] => { results := [.lit (.bool true)], args := [d1, d2, d3, d4, d5] }
  | _ => none }
def hllCallsRow : OpenClaim := { program := "ytbclnjinpcfpjaa", sum := "bb70a8663dd22a5d72bbaffd58756ee5d98de5ff20f51f3ead2eac6f6791658a", func := "tallyman/tallymanlaw14.HllCalls", spec := "hllCalls", inPlace := ["slices.overlaps[tallyman/api.Reg]"], unfollowed := true, recurses := true, apart := false }
def HllCallsSaid : Prop := hllCallsRow.holds Try.pinned (OpenSpec.ofChange hllCallsSpec)

/-- ITS FALSE NEIGHBOUR: 'it returns false'. Refute it at one input. -/
def hllCallsWrong : ChangeSpec := { name := "hllCalls", fn := fun _ => fun
  | [d1, d2, d3, d4, d5] => { results := [.lit (.bool false)], args := [d1, d2, d3, d4, d5] }
  | _ => none }
def HllCallsWrongFalsely : Prop := hllCallsRow.holds Try.pinned (OpenSpec.ofChange hllCallsWrong)

/-- 'tallymanlaw15.DenseNames': WHATEVER THE INPUT: true; the input reads as it did. -/
def denseNamesSpec : ChangeSpec := { name := "denseNames", fn := fun _ => fun
  | [] => { results := [.lit (.bool true)], args := [] }
  | _ => none }
def denseNamesRow : OpenClaim := { program := "ytbclnjinpcfpjaa", sum := "bb70a8663dd22a5d72bbaffd58756ee5d98de5ff20f51f3ead2eac6f6791658a", func := "tallyman/tallymanlaw15.DenseNames", spec := "denseNames", inPlace := ["math/bits.Add64", "math/bits.Sub64"], apart := false }
def DenseNamesSaid : Prop := denseNamesRow.holds Try.pinned (OpenSpec.ofChange denseNamesSpec)

/-- ITS FALSE NEIGHBOUR: 'it returns false'. Refute it at one input. -/
def denseNamesWrong : ChangeSpec := { name := "denseNames", fn := fun _ => fun
  | [] => { results := [.lit (.bool false)], args := [] }
  | _ => none }
def DenseNamesWrongFalsely : Prop := denseNamesRow.holds Try.pinned (OpenSpec.ofChange denseNamesWrong)

/-- 'tallymanlaw15.DenseCalls': WHATEVER THE INPUT: true; the input reads as it did. -/
def denseCallsSpec : ChangeSpec := { name := "denseCalls", fn := fun _ => fun
  | [d1, d2, d3, d4] => { results := [.lit (.bool true)], args := [d1, d2, d3, d4] }
  | _ => none }
def denseCallsRow : OpenClaim := { program := "ytbclnjinpcfpjaa", sum := "bb70a8663dd22a5d72bbaffd58756ee5d98de5ff20f51f3ead2eac6f6791658a", func := "tallyman/tallymanlaw15.DenseCalls", spec := "denseCalls", inPlace := ["math/bits.Add64", "math/bits.Sub64"], apart := false }
def DenseCallsSaid : Prop := denseCallsRow.holds Try.pinned (OpenSpec.ofChange denseCallsSpec)

/-- ITS FALSE NEIGHBOUR: 'it returns false'. Refute it at one input. -/
def denseCallsWrong : ChangeSpec := { name := "denseCalls", fn := fun _ => fun
  | [d1, d2, d3, d4] => { results := [.lit (.bool false)], args := [d1, d2, d3, d4] }
  | _ => none }
def DenseCallsWrongFalsely : Prop := denseCallsRow.holds Try.pinned (OpenSpec.ofChange denseCallsWrong)

/- THE SECOND FORM. 'bulk': how many values and letters a reading holds, each counted each time it is reached (what is shared counts as often as it is met; a slice's spare places count too). A statement '..UptoSaid' is the law's where the arguments, and the package variables that the reading takes, are together of bulk at most 1048576: NARROWER than '..Said'. Prove '..Said' where nothing that the law and all that it calls make is longer than what came in: it says more and counts as full. Else prove '..UptoSaid'. A law counts once. -/
mutual
def uptoBulk {H : Type} : DataW H → Nat
  | .lit (.string bytes) => bytes.length + 1
  | .lit _ => 1
  | .nil => 1
  | .ptr d => uptoBulk d + 1
  | .slice elems spare => uptoBulkAll elems + uptoBulkAll spare + 1
  | .agg parts => uptoBulkAll parts + 1
  | .iface _ d => uptoBulk d + 1
  | .map entries => uptoBulkEntries entries + 1
  | .held _ => 1
def uptoBulkAll {H : Type} : List (DataW H) → Nat
  | [] => 0
  | d :: r => uptoBulk d + uptoBulkAll r
def uptoBulkEntries {H : Type} : List (Lit × DataW H) → Nat
  | [] => 0
  | x :: r => uptoBulkEntry x + uptoBulkEntries r
def uptoBulkEntry {H : Type} : Lit × DataW H → Nat
  | (.string bytes, d) => bytes.length + uptoBulk d + 1
  | (_, d) => uptoBulk d + 1
 end
def uptoSmall : (H : Type) → List (DataW H) → Bool := fun _ ds => decide (uptoBulkAll ds ≤ 1048576)
def OpenSpec.upto (s : _root_.Go.ChangeSpec) : _root_.Go.OpenSpec := { _root_.Go.OpenSpec.ofChange s with cond := some uptoSmall }

/-- 'tallymanlaw15.DenseLogs', WHERE WHAT IT READS IS OF BULK AT MOST 1048576: true; the input reads as it did. -/
def denseLogsUptoRow : OpenClaim := { program := "ytbclnjinpcfpjaa", sum := "bb70a8663dd22a5d72bbaffd58756ee5d98de5ff20f51f3ead2eac6f6791658a", func := "tallyman/tallymanlaw15.DenseLogs", spec := "denseLogs", apart := false, narrowed := true }
def DenseLogsUptoSaid : Prop := denseLogsUptoRow.holds Try.pinned (OpenSpec.upto denseLogsSpec)

/-- 'tallymanlaw15.DenseShort', WHERE WHAT IT READS IS OF BULK AT MOST 1048576: true; the input reads as it did. -/
def denseShortUptoRow : OpenClaim := { program := "ytbclnjinpcfpjaa", sum := "bb70a8663dd22a5d72bbaffd58756ee5d98de5ff20f51f3ead2eac6f6791658a", func := "tallyman/tallymanlaw15.DenseShort", spec := "denseShort", apart := false, narrowed := true }
def DenseShortUptoSaid : Prop := denseShortUptoRow.holds Try.pinned (OpenSpec.upto denseShortSpec)

/-- 'tallymanlaw15.DenseGrows', WHERE WHAT IT READS IS OF BULK AT MOST 1048576: true; the input reads as it did. -/
def denseGrowsUptoRow : OpenClaim := { program := "ytbclnjinpcfpjaa", sum := "bb70a8663dd22a5d72bbaffd58756ee5d98de5ff20f51f3ead2eac6f6791658a", func := "tallyman/tallymanlaw15.DenseGrows", spec := "denseGrows", inPlace := ["math/bits.Add64", "math/bits.Sub64"], unfollowed := true, recurses := true, apart := false, narrowed := true }
def DenseGrowsUptoSaid : Prop := denseGrowsUptoRow.holds Try.pinned (OpenSpec.upto denseGrowsSpec)

/-- 'tallymanlaw14.HllRanks', WHERE WHAT IT READS IS OF BULK AT MOST 1048576: true; the input reads as it did. -/
def hllRanksUptoRow : OpenClaim := { program := "ytbclnjinpcfpjaa", sum := "bb70a8663dd22a5d72bbaffd58756ee5d98de5ff20f51f3ead2eac6f6791658a", func := "tallyman/tallymanlaw14.HllRanks", spec := "hllRanks", inPlace := ["slices.overlaps[tallyman/api.Reg]"], unfollowed := true, recurses := true, apart := false, narrowed := true }
def HllRanksUptoSaid : Prop := hllRanksUptoRow.holds Try.pinned (OpenSpec.upto hllRanksSpec)

/-- 'tallymanlaw14.HllSets', WHERE WHAT IT READS IS OF BULK AT MOST 1048576: true; the input reads as it did. -/
def hllSetsUptoRow : OpenClaim := { program := "ytbclnjinpcfpjaa", sum := "bb70a8663dd22a5d72bbaffd58756ee5d98de5ff20f51f3ead2eac6f6791658a", func := "tallyman/tallymanlaw14.HllSets", spec := "hllSets", inPlace := ["slices.overlaps[tallyman/api.Reg]"], unfollowed := true, recurses := true, apart := false, narrowed := true }
def HllSetsUptoSaid : Prop := hllSetsUptoRow.holds Try.pinned (OpenSpec.upto hllSetsSpec)

/-- 'tallymanlaw14.HllThree', WHERE WHAT IT READS IS OF BULK AT MOST 1048576: true; the input reads as it did. -/
def hllThreeUptoRow : OpenClaim := { program := "ytbclnjinpcfpjaa", sum := "bb70a8663dd22a5d72bbaffd58756ee5d98de5ff20f51f3ead2eac6f6791658a", func := "tallyman/tallymanlaw14.HllThree", spec := "hllThree", inPlace := ["slices.overlaps[tallyman/api.Reg]"], unfollowed := true, recurses := true, apart := false, narrowed := true }
def HllThreeUptoSaid : Prop := hllThreeUptoRow.holds Try.pinned (OpenSpec.upto hllThreeSpec)

/-- 'tallymanlaw15.DenseBack', WHERE WHAT IT READS IS OF BULK AT MOST 1048576: true; the input reads as it did. -/
def denseBackUptoRow : OpenClaim := { program := "ytbclnjinpcfpjaa", sum := "bb70a8663dd22a5d72bbaffd58756ee5d98de5ff20f51f3ead2eac6f6791658a", func := "tallyman/tallymanlaw15.DenseBack", spec := "denseBack", apart := false, narrowed := true }
def DenseBackUptoSaid : Prop := denseBackUptoRow.holds Try.pinned (OpenSpec.upto denseBackSpec)

/-- 'tallymanlaw14.HllFolds', WHERE WHAT IT READS IS OF BULK AT MOST 1048576: true; the input reads as it did. -/
def hllFoldsUptoRow : OpenClaim := { program := "ytbclnjinpcfpjaa", sum := "bb70a8663dd22a5d72bbaffd58756ee5d98de5ff20f51f3ead2eac6f6791658a", func := "tallyman/tallymanlaw14.HllFolds", spec := "hllFolds", inPlace := ["slices.overlaps[tallyman/api.Reg]"], unfollowed := true, recurses := true, apart := false, narrowed := true }
def HllFoldsUptoSaid : Prop := hllFoldsUptoRow.holds Try.pinned (OpenSpec.upto hllFoldsSpec)

/-- 'tallymanlaw14.HllNames', WHERE WHAT IT READS IS OF BULK AT MOST 1048576: true; the input reads as it did. -/
def hllNamesUptoRow : OpenClaim := { program := "ytbclnjinpcfpjaa", sum := "bb70a8663dd22a5d72bbaffd58756ee5d98de5ff20f51f3ead2eac6f6791658a", func := "tallyman/tallymanlaw14.HllNames", spec := "hllNames", inPlace := ["slices.overlaps[tallyman/api.Reg]"], unfollowed := true, recurses := true, apart := false, narrowed := true }
def HllNamesUptoSaid : Prop := hllNamesUptoRow.holds Try.pinned (OpenSpec.upto hllNamesSpec)

/-- 'tallymanlaw14.HllCalls', WHERE WHAT IT READS IS OF BULK AT MOST 1048576: true; the input reads as it did. -/
def hllCallsUptoRow : OpenClaim := { program := "ytbclnjinpcfpjaa", sum := "bb70a8663dd22a5d72bbaffd58756ee5d98de5ff20f51f3ead2eac6f6791658a", func := "tallyman/tallymanlaw14.HllCalls", spec := "hllCalls", inPlace := ["slices.overlaps[tallyman/api.Reg]"], unfollowed := true, recurses := true, apart := false, narrowed := true }
def HllCallsUptoSaid : Prop := hllCallsUptoRow.holds Try.pinned (OpenSpec.upto hllCallsSpec)

/-- 'tallymanlaw15.DenseNames', WHERE WHAT IT READS IS OF BULK AT MOST 1048576: true; the input reads as it did. -/
def denseNamesUptoRow : OpenClaim := { program := "ytbclnjinpcfpjaa", sum := "bb70a8663dd22a5d72bbaffd58756ee5d98de5ff20f51f3ead2eac6f6791658a", func := "tallyman/tallymanlaw15.DenseNames", spec := "denseNames", inPlace := ["math/bits.Add64", "math/bits.Sub64"], apart := false, narrowed := true }
def DenseNamesUptoSaid : Prop := denseNamesUptoRow.holds Try.pinned (OpenSpec.upto denseNamesSpec)

/-- 'tallymanlaw15.DenseCalls', WHERE WHAT IT READS IS OF BULK AT MOST 1048576: true; the input reads as it did. -/
def denseCallsUptoRow : OpenClaim := { program := "ytbclnjinpcfpjaa", sum := "bb70a8663dd22a5d72bbaffd58756ee5d98de5ff20f51f3ead2eac6f6791658a", func := "tallyman/tallymanlaw15.DenseCalls", spec := "denseCalls", inPlace := ["math/bits.Add64", "math/bits.Sub64"], apart := false, narrowed := true }
def DenseCallsUptoSaid : Prop := denseCallsUptoRow.holds Try.pinned (OpenSpec.upto denseCallsSpec)

end Rows
end Go.Proofs.Ytbclnjinpcfpjaa
