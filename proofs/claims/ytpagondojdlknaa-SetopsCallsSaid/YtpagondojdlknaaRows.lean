/-
  No cell of these rows narrows 'for every input' (looked for: loops, veiled, ifaces, maps, wideKeys, modest, calm, conditions, laid).
  DERIVED. THE GIVEN ROWS OF THIS SEAT. 12 by the template 'for every input the law returns true; each argument reads behind the call as it read before'; 0 by the template 'total and deterministic' (their statements: YtpagondojdlknaaTotals.lean).
  GIVEN WITH THE SEED: the statements are not yours to turn. If you find one false, say at which input.
  Laid BY PROGRAM, IN A SANDBOX (cutbox-rows.mjs): the forced cells as the released guide's own fill.sh prints them over the translation 58176627deccff41… (all of the seat's roots in one cut). By AI agents, Wed Nov 11 2026. No macro, syntax, notation, axiom, sorry.
-/
import Derived.Test.YtpagondojdlknaaChecked
import GoSem.Claim
import GoSem.ClaimJoined
import GoSem.ClaimMapViews
import Derived.JoinedTies
import Derived.KernelRfl
namespace Go.Proofs.Ytpagondojdlknaa
/- THE CELL 'sum', in the pinned program and in every row, IS THE sha256 OF THE DUMP (.gsa) THAT YtpagondojdlknaaProg.lean LOADS. Nothing in Lean hashes anything: it is a label: what it is worth is what the hold of that sum in a sandbox is worth. -/
noncomputable def Try.pinned : Pinned := { name := "ytpagondojdlknaa", sum := "58176627deccff4103dfc6a81da7f7ff74bf4e0a7205038b41e51ea66bc40bbe", checked := Try.checked }
namespace Rows
def none {H : Type} : Left H := { results := [], args := [] }

/-- 'tallymanlaw17.SetopsAgain': WHATEVER THE INPUT: true; the input reads as it did. -/
def setopsAgainSpec : ChangeSpec := { name := "setopsAgain", fn := fun _ => fun
  | [d1, d2] => { results := [.lit (.bool true)], args := [d1, d2] }
  | _ => none }
def setopsAgainRow : OpenClaim := { program := "ytpagondojdlknaa", sum := "58176627deccff4103dfc6a81da7f7ff74bf4e0a7205038b41e51ea66bc40bbe", func := "tallyman/tallymanlaw17.SetopsAgain", spec := "setopsAgain", unfollowed := true, recurses := true, named := ["math/bits.divideError", "math/bits.overflowError"], apart := false }
def SetopsAgainSaid : Prop := setopsAgainRow.holds Try.pinned (OpenSpec.ofChange setopsAgainSpec)

/-- ITS FALSE NEIGHBOUR: 'it returns false'. Refute it at one input. -/
def setopsAgainWrong : ChangeSpec := { name := "setopsAgain", fn := fun _ => fun
  | [d1, d2] => { results := [.lit (.bool false)], args := [d1, d2] }
  | _ => none }
def SetopsAgainWrongFalsely : Prop := setopsAgainRow.holds Try.pinned (OpenSpec.ofChange setopsAgainWrong)

/-- 'tallymanlaw17.SetopsSound': WHATEVER THE INPUT: true; the input reads as it did. -/
def setopsSoundSpec : ChangeSpec := { name := "setopsSound", fn := fun _ => fun
  | [d1, d2, d3, d4] => { results := [.lit (.bool true)], args := [d1, d2, d3, d4] }
  | _ => none }
def setopsSoundRow : OpenClaim := { program := "ytpagondojdlknaa", sum := "58176627deccff4103dfc6a81da7f7ff74bf4e0a7205038b41e51ea66bc40bbe", func := "tallyman/tallymanlaw17.SetopsSound", spec := "setopsSound", unfollowed := true, recurses := true, named := ["math/bits.divideError", "math/bits.overflowError"], apart := false }
def SetopsSoundSaid : Prop := setopsSoundRow.holds Try.pinned (OpenSpec.ofChange setopsSoundSpec)

/-- ITS FALSE NEIGHBOUR: 'it returns false'. Refute it at one input. -/
def setopsSoundWrong : ChangeSpec := { name := "setopsSound", fn := fun _ => fun
  | [d1, d2, d3, d4] => { results := [.lit (.bool false)], args := [d1, d2, d3, d4] }
  | _ => none }
def SetopsSoundWrongFalsely : Prop := setopsSoundRow.holds Try.pinned (OpenSpec.ofChange setopsSoundWrong)

/-- 'tallymanlaw17.SetopsParts': WHATEVER THE INPUT: true; the input reads as it did. -/
def setopsPartsSpec : ChangeSpec := { name := "setopsParts", fn := fun _ => fun
  | [d1, d2, d3] => { results := [.lit (.bool true)], args := [d1, d2, d3] }
  | _ => none }
def setopsPartsRow : OpenClaim := { program := "ytpagondojdlknaa", sum := "58176627deccff4103dfc6a81da7f7ff74bf4e0a7205038b41e51ea66bc40bbe", func := "tallyman/tallymanlaw17.SetopsParts", spec := "setopsParts", unfollowed := true, recurses := true, named := ["math/bits.divideError", "math/bits.overflowError"], apart := false }
def SetopsPartsSaid : Prop := setopsPartsRow.holds Try.pinned (OpenSpec.ofChange setopsPartsSpec)

/-- ITS FALSE NEIGHBOUR: 'it returns false'. Refute it at one input. -/
def setopsPartsWrong : ChangeSpec := { name := "setopsParts", fn := fun _ => fun
  | [d1, d2, d3] => { results := [.lit (.bool false)], args := [d1, d2, d3] }
  | _ => none }
def SetopsPartsWrongFalsely : Prop := setopsPartsRow.holds Try.pinned (OpenSpec.ofChange setopsPartsWrong)

/-- 'tallymanlaw17.SetopsNames': WHATEVER THE INPUT: true; the input reads as it did. -/
def setopsNamesSpec : ChangeSpec := { name := "setopsNames", fn := fun _ => fun
  | [] => { results := [.lit (.bool true)], args := [] }
  | _ => none }
def setopsNamesRow : OpenClaim := { program := "ytpagondojdlknaa", sum := "58176627deccff4103dfc6a81da7f7ff74bf4e0a7205038b41e51ea66bc40bbe", func := "tallyman/tallymanlaw17.SetopsNames", spec := "setopsNames", unfollowed := true, recurses := true, named := ["math/bits.divideError", "math/bits.overflowError"], apart := false }
def SetopsNamesSaid : Prop := setopsNamesRow.holds Try.pinned (OpenSpec.ofChange setopsNamesSpec)

/-- ITS FALSE NEIGHBOUR: 'it returns false'. Refute it at one input. -/
def setopsNamesWrong : ChangeSpec := { name := "setopsNames", fn := fun _ => fun
  | [] => { results := [.lit (.bool false)], args := [] }
  | _ => none }
def SetopsNamesWrongFalsely : Prop := setopsNamesRow.holds Try.pinned (OpenSpec.ofChange setopsNamesWrong)

/-- 'tallymanlaw17.SetopsCalls': WHATEVER THE INPUT: true; the input reads as it did. -/
def setopsCallsSpec : ChangeSpec := { name := "setopsCalls", fn := fun _ => fun
  | [d1, d2, d3, d4] => { results := [.lit (.bool true)], args := [d1, d2, d3, d4] }
  | _ => none }
def setopsCallsRow : OpenClaim := { program := "ytpagondojdlknaa", sum := "58176627deccff4103dfc6a81da7f7ff74bf4e0a7205038b41e51ea66bc40bbe", func := "tallyman/tallymanlaw17.SetopsCalls", spec := "setopsCalls", unfollowed := true, recurses := true, named := ["math/bits.divideError", "math/bits.overflowError"], apart := false }
def SetopsCallsSaid : Prop := setopsCallsRow.holds Try.pinned (OpenSpec.ofChange setopsCallsSpec)

/-- ITS FALSE NEIGHBOUR: 'it returns false'. Refute it at one input. -/
def setopsCallsWrong : ChangeSpec := { name := "setopsCalls", fn := fun _ => fun
  | [d1, d2, d3, d4] => { results := [.lit (.bool false)], args := [d1, d2, d3, d4] }
  | _ => none }
def SetopsCallsWrongFalsely : Prop := setopsCallsRow.holds Try.pinned (OpenSpec.ofChange setopsCallsWrong)

/-- 'tallymanlaw16.ThetaKnows': WHATEVER THE INPUT: true; the input reads as it did. -/
def thetaKnowsSpec : ChangeSpec := { name := "thetaKnows", fn := fun _ => fun
  | [d1, d2, d3] => { results := [.lit (.bool true)], args := [d1, d2, d3] }
  | _ => none }
def thetaKnowsRow : OpenClaim := { program := "ytpagondojdlknaa", sum := "58176627deccff4103dfc6a81da7f7ff74bf4e0a7205038b41e51ea66bc40bbe", func := "tallyman/tallymanlaw16.ThetaKnows", spec := "thetaKnows", unfollowed := true, recurses := true, named := ["math/bits.divideError", "math/bits.overflowError"], apart := false }
def ThetaKnowsSaid : Prop := thetaKnowsRow.holds Try.pinned (OpenSpec.ofChange thetaKnowsSpec)

/-- ITS FALSE NEIGHBOUR: 'it returns false'. Refute it at one input. -/
def thetaKnowsWrong : ChangeSpec := { name := "thetaKnows", fn := fun _ => fun
  | [d1, d2, d3] => { results := [.lit (.bool false)], args := [d1, d2, d3] }
  | _ => none }
def ThetaKnowsWrongFalsely : Prop := thetaKnowsRow.holds Try.pinned (OpenSpec.ofChange thetaKnowsWrong)

/-- 'tallymanlaw16.ThetaGrows': WHATEVER THE INPUT: true; the input reads as it did. -/
def thetaGrowsSpec : ChangeSpec := { name := "thetaGrows", fn := fun _ => fun
  | [d1, d2] => { results := [.lit (.bool true)], args := [d1, d2] }
  | _ => none }
def thetaGrowsRow : OpenClaim := { program := "ytpagondojdlknaa", sum := "58176627deccff4103dfc6a81da7f7ff74bf4e0a7205038b41e51ea66bc40bbe", func := "tallyman/tallymanlaw16.ThetaGrows", spec := "thetaGrows", unfollowed := true, recurses := true, named := ["math/bits.divideError", "math/bits.overflowError"], apart := false }
def ThetaGrowsSaid : Prop := thetaGrowsRow.holds Try.pinned (OpenSpec.ofChange thetaGrowsSpec)

/-- ITS FALSE NEIGHBOUR: 'it returns false'. Refute it at one input. -/
def thetaGrowsWrong : ChangeSpec := { name := "thetaGrows", fn := fun _ => fun
  | [d1, d2] => { results := [.lit (.bool false)], args := [d1, d2] }
  | _ => none }
def ThetaGrowsWrongFalsely : Prop := thetaGrowsRow.holds Try.pinned (OpenSpec.ofChange thetaGrowsWrong)

/-- 'tallymanlaw16.ThetaThree': WHATEVER THE INPUT: true; the input reads as it did. -/
def thetaThreeSpec : ChangeSpec := { name := "thetaThree", fn := fun _ => fun
  | [d1, d2, d3] => { results := [.lit (.bool true)], args := [d1, d2, d3] }
  | _ => none }
def thetaThreeRow : OpenClaim := { program := "ytpagondojdlknaa", sum := "58176627deccff4103dfc6a81da7f7ff74bf4e0a7205038b41e51ea66bc40bbe", func := "tallyman/tallymanlaw16.ThetaThree", spec := "thetaThree", unfollowed := true, recurses := true, named := ["math/bits.divideError", "math/bits.overflowError"], apart := false }
def ThetaThreeSaid : Prop := thetaThreeRow.holds Try.pinned (OpenSpec.ofChange thetaThreeSpec)

/-- ITS FALSE NEIGHBOUR: 'it returns false'. Refute it at one input. -/
def thetaThreeWrong : ChangeSpec := { name := "thetaThree", fn := fun _ => fun
  | [d1, d2, d3] => { results := [.lit (.bool false)], args := [d1, d2, d3] }
  | _ => none }
def ThetaThreeWrongFalsely : Prop := thetaThreeRow.holds Try.pinned (OpenSpec.ofChange thetaThreeWrong)

/-- 'tallymanlaw16.ThetaSets': WHATEVER THE INPUT: true; the input reads as it did. -/
def thetaSetsSpec : ChangeSpec := { name := "thetaSets", fn := fun _ => fun
  | [d1, d2, d3, d4] => { results := [.lit (.bool true)], args := [d1, d2, d3, d4] }
  | _ => none }
def thetaSetsRow : OpenClaim := { program := "ytpagondojdlknaa", sum := "58176627deccff4103dfc6a81da7f7ff74bf4e0a7205038b41e51ea66bc40bbe", func := "tallyman/tallymanlaw16.ThetaSets", spec := "thetaSets", unfollowed := true, recurses := true, named := ["math/bits.divideError", "math/bits.overflowError"], apart := false }
def ThetaSetsSaid : Prop := thetaSetsRow.holds Try.pinned (OpenSpec.ofChange thetaSetsSpec)

/-- ITS FALSE NEIGHBOUR: 'it returns false'. Refute it at one input. -/
def thetaSetsWrong : ChangeSpec := { name := "thetaSets", fn := fun _ => fun
  | [d1, d2, d3, d4] => { results := [.lit (.bool false)], args := [d1, d2, d3, d4] }
  | _ => none }
def ThetaSetsWrongFalsely : Prop := thetaSetsRow.holds Try.pinned (OpenSpec.ofChange thetaSetsWrong)

/-- 'tallymanlaw16.ThetaNames': WHATEVER THE INPUT: true; the input reads as it did. -/
def thetaNamesSpec : ChangeSpec := { name := "thetaNames", fn := fun _ => fun
  | [] => { results := [.lit (.bool true)], args := [] }
  | _ => none }
def thetaNamesRow : OpenClaim := { program := "ytpagondojdlknaa", sum := "58176627deccff4103dfc6a81da7f7ff74bf4e0a7205038b41e51ea66bc40bbe", func := "tallyman/tallymanlaw16.ThetaNames", spec := "thetaNames", unfollowed := true, recurses := true, named := ["math/bits.divideError", "math/bits.overflowError"], apart := false }
def ThetaNamesSaid : Prop := thetaNamesRow.holds Try.pinned (OpenSpec.ofChange thetaNamesSpec)

/-- ITS FALSE NEIGHBOUR: 'it returns false'. Refute it at one input. -/
def thetaNamesWrong : ChangeSpec := { name := "thetaNames", fn := fun _ => fun
  | [] => { results := [.lit (.bool false)], args := [] }
  | _ => none }
def ThetaNamesWrongFalsely : Prop := thetaNamesRow.holds Try.pinned (OpenSpec.ofChange thetaNamesWrong)

/-- 'tallymanlaw16.ThetaBack': WHATEVER THE INPUT: true; the input reads as it did. -/
def thetaBackSpec : ChangeSpec := { name := "thetaBack", fn := fun _ => fun
  | [d1, d2] => { results := [.lit (.bool true)], args := [d1, d2] }
  | _ => none }
def thetaBackRow : OpenClaim := { program := "ytpagondojdlknaa", sum := "58176627deccff4103dfc6a81da7f7ff74bf4e0a7205038b41e51ea66bc40bbe", func := "tallyman/tallymanlaw16.ThetaBack", spec := "thetaBack", unfollowed := true, recurses := true, named := ["math/bits.divideError", "math/bits.overflowError"], apart := false }
def ThetaBackSaid : Prop := thetaBackRow.holds Try.pinned (OpenSpec.ofChange thetaBackSpec)

/-- ITS FALSE NEIGHBOUR: 'it returns false'. Refute it at one input. -/
def thetaBackWrong : ChangeSpec := { name := "thetaBack", fn := fun _ => fun
  | [d1, d2] => { results := [.lit (.bool false)], args := [d1, d2] }
  | _ => none }
def ThetaBackWrongFalsely : Prop := thetaBackRow.holds Try.pinned (OpenSpec.ofChange thetaBackWrong)

/-- 'tallymanlaw16.ThetaCalls': WHATEVER THE INPUT: true; the input reads as it did. -/
def thetaCallsSpec : ChangeSpec := { name := "thetaCalls", fn := fun _ => fun
  | [d1, d2, d3, d4, d5] => { results := [.lit (.bool true)], args := [d1, d2, d3, d4, d5] }
  | _ => none }
def thetaCallsRow : OpenClaim := { program := "ytpagondojdlknaa", sum := "58176627deccff4103dfc6a81da7f7ff74bf4e0a7205038b41e51ea66bc40bbe", func := "tallyman/tallymanlaw16.ThetaCalls", spec := "thetaCalls", unfollowed := true, recurses := true, named := ["math/bits.divideError", "math/bits.overflowError"], apart := false }
def ThetaCallsSaid : Prop := thetaCallsRow.holds Try.pinned (OpenSpec.ofChange thetaCallsSpec)

/-- ITS FALSE NEIGHBOUR: 'it returns false'. Refute it at one input. -/
def thetaCallsWrong : ChangeSpec := { name := "thetaCalls", fn := fun _ => fun
  | [d1, d2, d3, d4, d5] => { results := [.lit (.bool false)], args := [d1, d2, d3, d4, d5] }
  | _ => none }
def ThetaCallsWrongFalsely : Prop := thetaCallsRow.holds Try.pinned (OpenSpec.ofChange thetaCallsWrong)

/- THE SECOND FORM. 'bulk': how many values and letters a reading holds, each counted each time it is reached (what is shared counts as often as it is met; a slice's spare places count too). A statement '..UptoSaid' is the law's where the arguments, and the package variables that the reading takes, are together of bulk at most 1048576: NARROWER than '..Said'. Prove '..Said' where nothing that the law and all that it calls make is longer than what came in: it says more and counts as full. Else prove '..UptoSaid'. A law counts once. -/
mutual
def uptoBulk {H : Type} : DataW H → Nat
  | .lit (.string bytes) => bytes.length + 1
  | .lit _ => 1
  | .nil => 1
  | .ptr d => uptoBulk d + 1
  | .slice elems spare => uptoBulkAll elems + uptoBulkAll spare + 1
  | .agg parts => uptoBulkAll parts + 1
  | .iface _ d => uptoBulk d + 1
  | .map entries => uptoBulkEntries entries + 1
  | .held _ => 1
def uptoBulkAll {H : Type} : List (DataW H) → Nat
  | [] => 0
  | d :: r => uptoBulk d + uptoBulkAll r
def uptoBulkEntries {H : Type} : List (Lit × DataW H) → Nat
  | [] => 0
  | x :: r => uptoBulkEntry x + uptoBulkEntries r
def uptoBulkEntry {H : Type} : Lit × DataW H → Nat
  | (.string bytes, d) => bytes.length + uptoBulk d + 1
  | (_, d) => uptoBulk d + 1
 end
def uptoSmall : (H : Type) → List (DataW H) → Bool := fun _ ds => decide (uptoBulkAll ds ≤ 1048576)
def OpenSpec.upto (s : _root_.Go.ChangeSpec) : _root_.Go.OpenSpec := { _root_.Go.OpenSpec.ofChange s with cond := some uptoSmall }

/-- 'tallymanlaw17.SetopsAgain', WHERE WHAT IT READS IS OF BULK AT MOST 1048576: true; the input reads as it did. -/
def setopsAgainUptoRow : OpenClaim := { program := "ytpagondojdlknaa", sum := "58176627deccff4103dfc6a81da7f7ff74bf4e0a7205038b41e51ea66bc40bbe", func := "tallyman/tallymanlaw17.SetopsAgain", spec := "setopsAgain", unfollowed := true, recurses := true, named := ["math/bits.divideError", "math/bits.overflowError"], apart := false, narrowed := true }
def SetopsAgainUptoSaid : Prop := setopsAgainUptoRow.holds Try.pinned (OpenSpec.upto setopsAgainSpec)

/-- 'tallymanlaw17.SetopsSound', WHERE WHAT IT READS IS OF BULK AT MOST 1048576: true; the input reads as it did. -/
def setopsSoundUptoRow : OpenClaim := { program := "ytpagondojdlknaa", sum := "58176627deccff4103dfc6a81da7f7ff74bf4e0a7205038b41e51ea66bc40bbe", func := "tallyman/tallymanlaw17.SetopsSound", spec := "setopsSound", unfollowed := true, recurses := true, named := ["math/bits.divideError", "math/bits.overflowError"], apart := false, narrowed := true }
def SetopsSoundUptoSaid : Prop := setopsSoundUptoRow.holds Try.pinned (OpenSpec.upto setopsSoundSpec)

/-- 'tallymanlaw17.SetopsParts', WHERE WHAT IT READS IS OF BULK AT MOST 1048576: true; the input reads as it did. -/
def setopsPartsUptoRow : OpenClaim := { program := "ytpagondojdlknaa", sum := "58176627deccff4103dfc6a81da7f7ff74bf4e0a7205038b41e51ea66bc40bbe", func := "tallyman/tallymanlaw17.SetopsParts", spec := "setopsParts", unfollowed := true, recurses := true, named := ["math/bits.divideError", "math/bits.overflowError"], apart := false, narrowed := true }
def SetopsPartsUptoSaid : Prop := setopsPartsUptoRow.holds Try.pinned (OpenSpec.upto setopsPartsSpec)

/-- 'tallymanlaw17.SetopsNames', WHERE WHAT IT READS IS OF BULK AT MOST 1048576: true; the input reads as it did. -/
def setopsNamesUptoRow : OpenClaim := { program := "ytpagondojdlknaa", sum := "58176627deccff4103dfc6a81da7f7ff74bf4e0a7205038b41e51ea66bc40bbe", func := "tallyman/tallymanlaw17.SetopsNames", spec := "setopsNames", unfollowed := true, recurses := true, named := ["math/bits.divideError", "math/bits.overflowError"], apart := false, narrowed := true }
def SetopsNamesUptoSaid : Prop := setopsNamesUptoRow.holds Try.pinned (OpenSpec.upto setopsNamesSpec)

/-- 'tallymanlaw17.SetopsCalls', WHERE WHAT IT READS IS OF BULK AT MOST 1048576: true; the input reads as it did. -/
def setopsCallsUptoRow : OpenClaim := { program := "ytpagondojdlknaa", sum := "58176627deccff4103dfc6a81da7f7ff74bf4e0a7205038b41e51ea66bc40bbe", func := "tallyman/tallymanlaw17.SetopsCalls", spec := "setopsCalls", unfollowed := true, recurses := true, named := ["math/bits.divideError", "math/bits.overflowError"], apart := false, narrowed := true }
def SetopsCallsUptoSaid : Prop := setopsCallsUptoRow.holds Try.pinned (OpenSpec.upto setopsCallsSpec)

/-- 'tallymanlaw16.ThetaKnows', WHERE WHAT IT READS IS OF BULK AT MOST 1048576: true; the input reads as it did. -/
def thetaKnowsUptoRow : OpenClaim := { program := "ytpagondojdlknaa", sum := "58176627deccff4103dfc6a81da7f7ff74bf4e0a7205038b41e51ea66bc40bbe", func := "tallyman/tallymanlaw16.ThetaKnows", spec := "thetaKnows", unfollowed := true, recurses := true, named := ["math/bits.divideError", "math/bits.overflowError"], apart := false, narrowed := true }
def ThetaKnowsUptoSaid : Prop := thetaKnowsUptoRow.holds Try.pinned (OpenSpec.upto thetaKnowsSpec)

/-- 'tallymanlaw16.ThetaGrows', WHERE WHAT IT READS IS OF BULK AT MOST 1048576: true; the input reads as it did. -/
def thetaGrowsUptoRow : OpenClaim := { program := "ytpagondojdlknaa", sum := "58176627deccff4103dfc6a81da7f7ff74bf4e0a7205038b41e51ea66bc40bbe", func := "tallyman/tallymanlaw16.ThetaGrows", spec := "thetaGrows", unfollowed := true, recurses := true, named := ["math/bits.divideError", "math/bits.overflowError"], apart := false, narrowed := true }
def ThetaGrowsUptoSaid : Prop := thetaGrowsUptoRow.holds Try.pinned (OpenSpec.upto thetaGrowsSpec)

/-- 'tallymanlaw16.ThetaThree', WHERE WHAT IT READS IS OF BULK AT MOST 1048576: true; the input reads as it did. -/
def thetaThreeUptoRow : OpenClaim := { program := "ytpagondojdlknaa", sum := "58176627deccff4103dfc6a81da7f7ff74bf4e0a7205038b41e51ea66bc40bbe", func := "tallyman/tallymanlaw16.ThetaThree", spec := "thetaThree", unfollowed := true, recurses := true, named := ["math/bits.divideError", "math/bits.overflowError"], apart := false, narrowed := true }
def ThetaThreeUptoSaid : Prop := thetaThreeUptoRow.holds Try.pinned (OpenSpec.upto thetaThreeSpec)

/-- 'tallymanlaw16.ThetaSets', WHERE WHAT IT READS IS OF BULK AT MOST 1048576: true; the input reads as it did. -/
def thetaSetsUptoRow : OpenClaim := { program := "ytpagondojdlknaa", sum := "58176627deccff4103dfc6a81da7f7ff74bf4e0a7205038b41e51ea66bc40bbe", func := "tallyman/tallymanlaw16.ThetaSets", spec := "thetaSets", unfollowed := true, recurses := true, named := ["math/bits.divideError", "math/bits.overflowError"], apart := false, narrowed := true }
def ThetaSetsUptoSaid : Prop := thetaSetsUptoRow.holds Try.pinned (OpenSpec.upto thetaSetsSpec)

/-- 'tallymanlaw16.ThetaNames', WHERE WHAT IT READS IS OF BULK AT MOST 1048576: true; the input reads as it did. -/
def thetaNamesUptoRow : OpenClaim := { program := "ytpagondojdlknaa", sum := "58176627deccff4103dfc6a81da7f7ff74bf4e0a7205038b41e51ea66bc40bbe", func := "tallyman/tallymanlaw16.ThetaNames", spec := "thetaNames", unfollowed := true, recurses := true, named := ["math/bits.divideError", "math/bits.overflowError"], apart := false, narrowed := true }
def ThetaNamesUptoSaid : Prop := thetaNamesUptoRow.holds Try.pinned (OpenSpec.upto thetaNamesSpec)

/-- 'tallymanlaw16.ThetaBack', WHERE WHAT IT READS IS OF BULK AT MOST 1048576: true; the input reads as it did. -/
def thetaBackUptoRow : OpenClaim := { program := "ytpagondojdlknaa", sum := "58176627deccff4103dfc6a81da7f7ff74bf4e0a7205038b41e51ea66bc40bbe", func := "tallyman/tallymanlaw16.ThetaBack", spec := "thetaBack", unfollowed := true, recurses := true, named := ["math/bits.divideError", "math/bits.overflowError"], apart := false, narrowed := true }
def ThetaBackUptoSaid : Prop := thetaBackUptoRow.holds Try.pinned (OpenSpec.upto thetaBackSpec)

/-- 'tallymanlaw16.ThetaCalls', WHERE WHAT IT READS IS OF BULK AT MOST 1048576: true; the input reads as it did. -/
def thetaCallsUptoRow : OpenClaim := { program := "ytpagondojdlknaa", sum := "58176627deccff4103dfc6a81da7f7ff74bf4e0a7205038b41e51ea66bc40bbe", func := "tallyman/tallymanlaw16.ThetaCalls", spec := "thetaCalls", unfollowed := true, recurses := true, named := ["math/bits.divideError", "math/bits.overflowError"], apart := false, narrowed := true }
def ThetaCallsUptoSaid : Prop := thetaCallsUptoRow.holds Try.pinned (OpenSpec.upto thetaCallsSpec)

end Rows
end Go.Proofs.Ytpagondojdlknaa
