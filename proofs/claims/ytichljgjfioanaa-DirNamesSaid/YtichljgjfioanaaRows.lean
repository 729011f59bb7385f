/-
  No cell of these rows narrows 'for every input' (looked for: loops, veiled, ifaces, maps, wideKeys, modest, calm, conditions, laid).
  DERIVED. THE GIVEN ROWS OF THIS SEAT. 11 by the template 'for every input the law returns true; each argument reads behind the call as it read before'; 0 by the template 'total and deterministic' (their statements: YtichljgjfioanaaTotals.lean).
  GIVEN WITH THE SEED: the statements are not yours to turn. If you find one false, say at which input.
  Laid BY PROGRAM, IN A SANDBOX (cutbox-rows.mjs): the forced cells as the released guide's own fill.sh prints them over the translation 128d75ff43157f4e… (all of the seat's roots in one cut). By AI agents, Wed Nov 11 2026. No macro, syntax, notation, axiom, sorry.
-/
import Derived.Test.YtichljgjfioanaaChecked
import GoSem.Claim
import GoSem.ClaimJoined
import GoSem.ClaimMapViews
import Derived.JoinedTies
import Derived.KernelRfl
namespace Go.Proofs.Ytichljgjfioanaa
/- THE CELL 'sum', in the pinned program and in every row, IS THE sha256 OF THE DUMP (.gsa) THAT YtichljgjfioanaaProg.lean LOADS. Nothing in Lean hashes anything: it is a label: what it is worth is what the hold of that sum in a sandbox is worth. -/
noncomputable def Try.pinned : Pinned := { name := "ytichljgjfioanaa", sum := "128d75ff43157f4e267bca5bff5696ddd21d9cccf310abb7730e4e0dad32ddb5", checked := Try.checked }
namespace Rows
def none {H : Type} : Left H := { results := [], args := [] }

/-- 'tallymanlaw20.BucketKeeps': WHATEVER THE INPUT: true; the input reads as it did. -/
def bucketKeepsSpec : ChangeSpec := { name := "bucketKeeps", fn := fun _ => fun
  | [d1, d2] => { results := [.lit (.bool true)], args := [d1, d2] }
  | _ => none }
def bucketKeepsRow : OpenClaim := { program := "ytichljgjfioanaa", sum := "128d75ff43157f4e267bca5bff5696ddd21d9cccf310abb7730e4e0dad32ddb5", func := "tallyman/tallymanlaw20.BucketKeeps", spec := "bucketKeeps", inPlace := ["slices.overlaps[tallyman/api.Ref]"], unfollowed := true, recurses := true, plainKeys := false, apart := false }
def BucketKeepsSaid : Prop := bucketKeepsRow.holds Try.pinned (OpenSpec.ofChange bucketKeepsSpec)

/-- ITS FALSE NEIGHBOUR: 'it returns false'. Refute it at one input. -/
def bucketKeepsWrong : ChangeSpec := { name := "bucketKeeps", fn := fun _ => fun
  | [d1, d2] => { results := [.lit (.bool false)], args := [d1, d2] }
  | _ => none }
def BucketKeepsWrongFalsely : Prop := bucketKeepsRow.holds Try.pinned (OpenSpec.ofChange bucketKeepsWrong)

/-- 'tallymanlaw19.DirNames': WHATEVER THE INPUT: true; the input reads as it did. -/
def dirNamesSpec : ChangeSpec := { name := "dirNames", fn := fun _ => fun
  | [] => { results := [.lit (.bool true)], args := [] }
  | _ => none }
def dirNamesRow : OpenClaim := { program := "ytichljgjfioanaa", sum := "128d75ff43157f4e267bca5bff5696ddd21d9cccf310abb7730e4e0dad32ddb5", func := "tallyman/tallymanlaw19.DirNames", spec := "dirNames", plainKeys := false, apart := false }
def DirNamesSaid : Prop := dirNamesRow.holds Try.pinned (OpenSpec.ofChange dirNamesSpec)

/-- ITS FALSE NEIGHBOUR: 'it returns false'. Refute it at one input. -/
def dirNamesWrong : ChangeSpec := { name := "dirNames", fn := fun _ => fun
  | [] => { results := [.lit (.bool false)], args := [] }
  | _ => none }
def DirNamesWrongFalsely : Prop := dirNamesRow.holds Try.pinned (OpenSpec.ofChange dirNamesWrong)

/-- 'tallymanlaw19.DirCommutes': WHATEVER THE INPUT: true; the input reads as it did. -/
def dirCommutesSpec : ChangeSpec := { name := "dirCommutes", fn := fun _ => fun
  | [d1, d2, d3] => { results := [.lit (.bool true)], args := [d1, d2, d3] }
  | _ => none }
def dirCommutesRow : OpenClaim := { program := "ytichljgjfioanaa", sum := "128d75ff43157f4e267bca5bff5696ddd21d9cccf310abb7730e4e0dad32ddb5", func := "tallyman/tallymanlaw19.DirCommutes", spec := "dirCommutes", recurses := true, plainKeys := false, apart := false }
def DirCommutesSaid : Prop := dirCommutesRow.holds Try.pinned (OpenSpec.ofChange dirCommutesSpec)

/-- ITS FALSE NEIGHBOUR: 'it returns false'. Refute it at one input. -/
def dirCommutesWrong : ChangeSpec := { name := "dirCommutes", fn := fun _ => fun
  | [d1, d2, d3] => { results := [.lit (.bool false)], args := [d1, d2, d3] }
  | _ => none }
def DirCommutesWrongFalsely : Prop := dirCommutesRow.holds Try.pinned (OpenSpec.ofChange dirCommutesWrong)

/-- 'tallymanlaw19.DirSplits': WHATEVER THE INPUT: true; the input reads as it did. -/
def dirSplitsSpec : ChangeSpec := { name := "dirSplits", fn := fun _ => fun
  | [d1, d2, d3] => { results := [.lit (.bool true)], args := [d1, d2, d3] }
  | _ => none }
def dirSplitsRow : OpenClaim := { program := "ytichljgjfioanaa", sum := "128d75ff43157f4e267bca5bff5696ddd21d9cccf310abb7730e4e0dad32ddb5", func := "tallyman/tallymanlaw19.DirSplits", spec := "dirSplits", recurses := true, plainKeys := false, apart := false }
def DirSplitsSaid : Prop := dirSplitsRow.holds Try.pinned (OpenSpec.ofChange dirSplitsSpec)

/-- ITS FALSE NEIGHBOUR: 'it returns false'. Refute it at one input. -/
def dirSplitsWrong : ChangeSpec := { name := "dirSplits", fn := fun _ => fun
  | [d1, d2, d3] => { results := [.lit (.bool false)], args := [d1, d2, d3] }
  | _ => none }
def DirSplitsWrongFalsely : Prop := dirSplitsRow.holds Try.pinned (OpenSpec.ofChange dirSplitsWrong)

/-- 'tallymanlaw20.BucketSplits': WHATEVER THE INPUT: true; the input reads as it did. -/
def bucketSplitsSpec : ChangeSpec := { name := "bucketSplits", fn := fun _ => fun
  | [d1, d2, d3] => { results := [.lit (.bool true)], args := [d1, d2, d3] }
  | _ => none }
def bucketSplitsRow : OpenClaim := { program := "ytichljgjfioanaa", sum := "128d75ff43157f4e267bca5bff5696ddd21d9cccf310abb7730e4e0dad32ddb5", func := "tallyman/tallymanlaw20.BucketSplits", spec := "bucketSplits", inPlace := ["slices.overlaps[tallyman/api.Ref]"], unfollowed := true, recurses := true, plainKeys := false, apart := false }
def BucketSplitsSaid : Prop := bucketSplitsRow.holds Try.pinned (OpenSpec.ofChange bucketSplitsSpec)

/-- ITS FALSE NEIGHBOUR: 'it returns false'. Refute it at one input. -/
def bucketSplitsWrong : ChangeSpec := { name := "bucketSplits", fn := fun _ => fun
  | [d1, d2, d3] => { results := [.lit (.bool false)], args := [d1, d2, d3] }
  | _ => none }
def BucketSplitsWrongFalsely : Prop := bucketSplitsRow.holds Try.pinned (OpenSpec.ofChange bucketSplitsWrong)

/-- 'tallymanlaw19.DirShares': WHATEVER THE INPUT: true; the input reads as it did. -/
def dirSharesSpec : ChangeSpec := { name := "dirShares", fn := fun _ => fun
  | [d] => { results := [.lit (.bool true)], args := [d] }
  | _ => none }
def dirSharesRow : OpenClaim := { program := "ytichljgjfioanaa", sum := "128d75ff43157f4e267bca5bff5696ddd21d9cccf310abb7730e4e0dad32ddb5", func := "tallyman/tallymanlaw19.DirShares", spec := "dirShares", recurses := true, plainKeys := false, apart := false }
def DirSharesSaid : Prop := dirSharesRow.holds Try.pinned (OpenSpec.ofChange dirSharesSpec)

/-- ITS FALSE NEIGHBOUR: 'it returns false'. Refute it at one input. -/
def dirSharesWrong : ChangeSpec := { name := "dirShares", fn := fun _ => fun
  | [d] => { results := [.lit (.bool false)], args := [d] }
  | _ => none }
def DirSharesWrongFalsely : Prop := dirSharesRow.holds Try.pinned (OpenSpec.ofChange dirSharesWrong)

/-- 'tallymanlaw19.DirApart': WHATEVER THE INPUT: true; the input reads as it did. -/
def dirApartSpec : ChangeSpec := { name := "dirApart", fn := fun _ => fun
  | [d1, d2] => { results := [.lit (.bool true)], args := [d1, d2] }
  | _ => none }
def dirApartRow : OpenClaim := { program := "ytichljgjfioanaa", sum := "128d75ff43157f4e267bca5bff5696ddd21d9cccf310abb7730e4e0dad32ddb5", func := "tallyman/tallymanlaw19.DirApart", spec := "dirApart", recurses := true, plainKeys := false, apart := false }
def DirApartSaid : Prop := dirApartRow.holds Try.pinned (OpenSpec.ofChange dirApartSpec)

/-- ITS FALSE NEIGHBOUR: 'it returns false'. Refute it at one input. -/
def dirApartWrong : ChangeSpec := { name := "dirApart", fn := fun _ => fun
  | [d1, d2] => { results := [.lit (.bool false)], args := [d1, d2] }
  | _ => none }
def DirApartWrongFalsely : Prop := dirApartRow.holds Try.pinned (OpenSpec.ofChange dirApartWrong)

/-- 'tallymanlaw19.DirCalls': WHATEVER THE INPUT: true; the input reads as it did. -/
def dirCallsSpec : ChangeSpec := { name := "dirCalls", fn := fun _ => fun
  | [d1, d2, d3, d4, d5] => { results := [.lit (.bool true)], args := [d1, d2, d3, d4, d5] }
  | _ => none }
def dirCallsRow : OpenClaim := { program := "ytichljgjfioanaa", sum := "128d75ff43157f4e267bca5bff5696ddd21d9cccf310abb7730e4e0dad32ddb5", func := "tallyman/tallymanlaw19.DirCalls", spec := "dirCalls", recurses := true, plainKeys := false, apart := false }
def DirCallsSaid : Prop := dirCallsRow.holds Try.pinned (OpenSpec.ofChange dirCallsSpec)

/-- ITS FALSE NEIGHBOUR: 'it returns false'. Refute it at one input. -/
def dirCallsWrong : ChangeSpec := { name := "dirCalls", fn := fun _ => fun
  | [d1, d2, d3, d4, d5] => { results := [.lit (.bool false)], args := [d1, d2, d3, d4, d5] }
  | _ => none }
def DirCallsWrongFalsely : Prop := dirCallsRow.holds Try.pinned (OpenSpec.ofChange dirCallsWrong)

/-- 'tallymanlaw20.BucketParts': WHATEVER THE INPUT: true; the input reads as it did. -/
def bucketPartsSpec : ChangeSpec := { name := "bucketParts", fn := fun _ => fun
  | [d1, d2, d3, d4] => { results := [.lit (.bool true)], args := [d1, d2, d3, d4] }
  | _ => none }
def bucketPartsRow : OpenClaim := { program := "ytichljgjfioanaa", sum := "128d75ff43157f4e267bca5bff5696ddd21d9cccf310abb7730e4e0dad32ddb5", func := "tallyman/tallymanlaw20.BucketParts", spec := "bucketParts", inPlace := ["slices.overlaps[tallyman/api.Ref]"], unfollowed := true, recurses := true, plainKeys := false, apart := false }
def BucketPartsSaid : Prop := bucketPartsRow.holds Try.pinned (OpenSpec.ofChange bucketPartsSpec)

/-- ITS FALSE NEIGHBOUR: 'it returns false'. Refute it at one input. -/
def bucketPartsWrong : ChangeSpec := { name := "bucketParts", fn := fun _ => fun
  | [d1, d2, d3, d4] => { results := [.lit (.bool false)], args := [d1, d2, d3, d4] }
  | _ => none }
def BucketPartsWrongFalsely : Prop := bucketPartsRow.holds Try.pinned (OpenSpec.ofChange bucketPartsWrong)

/-- 'tallymanlaw20.BucketNames': WHATEVER THE INPUT: true; the input reads as it did. -/
def bucketNamesSpec : ChangeSpec := { name := "bucketNames", fn := fun _ => fun
  | [] => { results := [.lit (.bool true)], args := [] }
  | _ => none }
def bucketNamesRow : OpenClaim := { program := "ytichljgjfioanaa", sum := "128d75ff43157f4e267bca5bff5696ddd21d9cccf310abb7730e4e0dad32ddb5", func := "tallyman/tallymanlaw20.BucketNames", spec := "bucketNames", inPlace := ["slices.overlaps[tallyman/api.Ref]"], unfollowed := true, recurses := true, plainKeys := false, apart := false }
def BucketNamesSaid : Prop := bucketNamesRow.holds Try.pinned (OpenSpec.ofChange bucketNamesSpec)

/-- ITS FALSE NEIGHBOUR: 'it returns false'. Refute it at one input. -/
def bucketNamesWrong : ChangeSpec := { name := "bucketNames", fn := fun _ => fun
  | [] => { results := [.lit (.bool false)], args := [] }
  | _ => none }
def BucketNamesWrongFalsely : Prop := bucketNamesRow.holds Try.pinned (OpenSpec.ofChange bucketNamesWrong)

/-- 'tallymanlaw20.BucketCalls': WHATEVER THE INPUT: true; the input reads as it did. -/
def bucketCallsSpec : ChangeSpec := { name := "bucketCalls", fn := fun _ => fun
  | [d1, d2, d3, d4, d5, d6] => { results := [.lit (.bool true)], args := [d1, d2, d3, d4, d5, d6] }
  | _ => none }
def bucketCallsRow : OpenClaim := { program := "ytichljgjfioanaa", sum := "128d75ff43157f4e267bca5bff5696ddd21d9cccf310abb7730e4e0dad32ddb5", func := "tallyman/tallymanlaw20.BucketCalls", spec := "bucketCalls", inPlace := ["slices.overlaps[tallyman/api.Ref]"], unfollowed := true, recurses := true, plainKeys := false, apart := false }
def BucketCallsSaid : Prop := bucketCallsRow.holds Try.pinned (OpenSpec.ofChange bucketCallsSpec)

/-- ITS FALSE NEIGHBOUR: 'it returns false'. Refute it at one input. -/
def bucketCallsWrong : ChangeSpec := { name := "bucketCalls", fn := fun _ => fun
  | [d1, d2, d3, d4, d5, d6] => { results := [.lit (.bool false)], args := [d1, d2, d3, d4, d5, d6] }
  | _ => none }
def BucketCallsWrongFalsely : Prop := bucketCallsRow.holds Try.pinned (OpenSpec.ofChange bucketCallsWrong)

/- THE SECOND FORM. 'bulk': how many values and letters a reading holds, each counted each time it is reached (what is shared counts as often as it is met; a slice's spare places count too). A statement '..UptoSaid' is the law's where the arguments, and the package variables that the reading takes, are together of bulk at most 1048576: NARROWER than '..Said'. Prove '..Said' where nothing that the law and all that it calls make is longer than what came in: it says more and counts as full. Else prove '..UptoSaid'. A law counts once. -/
mutual
def uptoBulk {H : Type} : DataW H → Nat
  | .lit (.string bytes) => bytes.length + 1
  | .lit _ => 1
  | .nil => 1
  | .ptr d => uptoBulk d + 1
  | .slice elems spare => uptoBulkAll elems + uptoBulkAll spare + 1
  | .agg parts => uptoBulkAll parts + 1
  | .iface _ d => uptoBulk d + 1
  | .map entries => uptoBulkEntries entries + 1
  | .held _ => 1
def uptoBulkAll {H : Type} : List (DataW H) → Nat
  | [] => 0
  | d :: r => uptoBulk d + uptoBulkAll r
def uptoBulkEntries {H : Type} : List (Lit × DataW H) → Nat
  | [] => 0
  | x :: r => uptoBulkEntry x + uptoBulkEntries r
def uptoBulkEntry {H : Type} : Lit × DataW H → Nat
  | (.string bytes, d) => bytes.length + uptoBulk d + 1
  | (_, d) => uptoBulk d + 1
 end
def uptoSmall : (H : Type) → List (DataW H) → Bool := fun _ ds => decide (uptoBulkAll ds ≤ 1048576)
def OpenSpec.upto (s : _root_.Go.ChangeSpec) : _root_.Go.OpenSpec := { _root_.Go.OpenSpec.ofChange s with cond := some uptoSmall }

/-- 'tallymanlaw20.BucketKeeps', WHERE WHAT IT READS IS OF BULK AT MOST 1048576: true; the input reads as it did. -/
def bucketKeepsUptoRow : OpenClaim := { program := "ytichljgjfioanaa", sum := "128d75ff43157f4e267bca5bff5696ddd21d9cccf310abb7730e4e0dad32ddb5", func := "tallyman/tallymanlaw20.BucketKeeps", spec := "bucketKeeps", inPlace := ["slices.overlaps[tallyman/api.Ref]"], unfollowed := true, recurses := true, plainKeys := false, apart := false, narrowed := true }
def BucketKeepsUptoSaid : Prop := bucketKeepsUptoRow.holds Try.pinned (OpenSpec.upto bucketKeepsSpec)

/-- 'tallymanlaw19.DirNames', WHERE WHAT IT READS IS OF BULK AT MOST 1048576: true; the input reads as it did. -/
def dirNamesUptoRow : OpenClaim := { program := "ytichljgjfioanaa", sum := "128d75ff43157f4e267bca5bff5696ddd21d9cccf310abb7730e4e0dad32ddb5", func := "tallyman/tallymanlaw19.DirNames", spec := "dirNames", plainKeys := false, apart := false, narrowed := true }
def DirNamesUptoSaid : Prop := dirNamesUptoRow.holds Try.pinned (OpenSpec.upto dirNamesSpec)

/-- 'tallymanlaw19.DirCommutes', WHERE WHAT IT READS IS OF BULK AT MOST 1048576: true; the input reads as it did. -/
def dirCommutesUptoRow : OpenClaim := { program := "ytichljgjfioanaa", sum := "128d75ff43157f4e267bca5bff5696ddd21d9cccf310abb7730e4e0dad32ddb5", func := "tallyman/tallymanlaw19.DirCommutes", spec := "dirCommutes", recurses := true, plainKeys := false, apart := false, narrowed := true }
def DirCommutesUptoSaid : Prop := dirCommutesUptoRow.holds Try.pinned (OpenSpec.upto dirCommutesSpec)

/-- 'tallymanlaw19.DirSplits', WHERE WHAT IT READS IS OF BULK AT MOST 1048576: true; the input reads as it did. -/
def dirSplitsUptoRow : OpenClaim := { program := "ytichljgjfioanaa", sum := "128d75ff43157f4e267bca5bff5696ddd21d9cccf310abb7730e4e0dad32ddb5", func := "tallyman/tallymanlaw19.DirSplits", spec := "dirSplits", recurses := true, plainKeys := false, apart := false, narrowed := true }
def DirSplitsUptoSaid : Prop := dirSplitsUptoRow.holds Try.pinned (OpenSpec.upto dirSplitsSpec)

/-- 'tallymanlaw20.BucketSplits', WHERE WHAT IT READS IS OF BULK AT MOST 1048576: true; the input reads as it did. -/
def bucketSplitsUptoRow : OpenClaim := { program := "ytichljgjfioanaa", sum := "128d75ff43157f4e267bca5bff5696ddd21d9cccf310abb7730e4e0dad32ddb5", func := "tallyman/tallymanlaw20.BucketSplits", spec := "bucketSplits", inPlace := ["slices.overlaps[tallyman/api.Ref]"], unfollowed := true, recurses := true, plainKeys := false, apart := false, narrowed := true }
def BucketSplitsUptoSaid : Prop := bucketSplitsUptoRow.holds Try.pinned (OpenSpec.upto bucketSplitsSpec)

/-- 'tallymanlaw19.DirShares', WHERE WHAT IT READS IS OF BULK AT MOST 1048576: true; the input reads as it did. -/
def dirSharesUptoRow : OpenClaim := { program := "ytichljgjfioanaa", sum := "128d75ff43157f4e267bca5bff5696ddd21d9cccf310abb7730e4e0dad32ddb5", func := "tallyman/tallymanlaw19.DirShares", spec := "dirShares", recurses := true, plainKeys := false, apart := false, narrowed := true }
def DirSharesUptoSaid : Prop := dirSharesUptoRow.holds Try.pinned (OpenSpec.upto dirSharesSpec)

/-- 'tallymanlaw19.DirApart', WHERE WHAT IT READS IS OF BULK AT MOST 1048576: true; the input reads as it did. -/
def dirApartUptoRow : OpenClaim := { program := "ytichljgjfioanaa", sum := "128d75ff43157f4e267bca5bff5696ddd21d9cccf310abb7730e4e0dad32ddb5", func := "tallyman/tallymanlaw19.DirApart", spec := "dirApart", recurses := true, plainKeys := false, apart := false, narrowed := true }
def DirApartUptoSaid : Prop := dirApartUptoRow.holds Try.pinned (OpenSpec.upto dirApartSpec)

/-- 'tallymanlaw19.DirCalls', WHERE WHAT IT READS IS OF BULK AT MOST 1048576: true; the input reads as it did. -/
def dirCallsUptoRow : OpenClaim := { program := "ytichljgjfioanaa", sum := "128d75ff43157f4e267bca5bff5696ddd21d9cccf310abb7730e4e0dad32ddb5", func := "tallyman/tallymanlaw19.DirCalls", spec := "dirCalls", recurses := true, plainKeys := false, apart := false, narrowed := true }
def DirCallsUptoSaid : Prop := dirCallsUptoRow.holds Try.pinned (OpenSpec.upto dirCallsSpec)

/-- 'tallymanlaw20.BucketParts', WHERE WHAT IT READS IS OF BULK AT MOST 1048576: true; the input reads as it did. -/
def bucketPartsUptoRow : OpenClaim := { program := "ytichljgjfioanaa", sum := "128d75ff43157f4e267bca5bff5696ddd21d9cccf310abb7730e4e0dad32ddb5", func := "tallyman/tallymanlaw20.BucketParts", spec := "bucketParts", inPlace := ["slices.overlaps[tallyman/api.Ref]"], unfollowed := true, recurses := true, plainKeys := false, apart := false, narrowed := true }
def BucketPartsUptoSaid : Prop := bucketPartsUptoRow.holds Try.pinned (OpenSpec.upto bucketPartsSpec)

/-- 'tallymanlaw20.BucketNames', WHERE WHAT IT READS IS OF BULK AT MOST 1048576: true; the input reads as it did. -/
def bucketNamesUptoRow : OpenClaim := { program := "ytichljgjfioanaa", sum := "128d75ff43157f4e267bca5bff5696ddd21d9cccf310abb7730e4e0dad32ddb5", func := "tallyman/tallymanlaw20.BucketNames", spec := "bucketNames", inPlace := ["slices.overlaps[tallyman/api.Ref]"], unfollowed := true, recurses := true, plainKeys := false, apart := false, narrowed := true }
def BucketNamesUptoSaid : Prop := bucketNamesUptoRow.holds Try.pinned (OpenSpec.upto bucketNamesSpec)

/-- 'tallymanlaw20.BucketCalls', WHERE WHAT IT READS IS OF BULK AT MOST 1048576: true; the input reads as it did. -/
def bucketCallsUptoRow : OpenClaim := { program := "ytichljgjfioanaa", sum := "128d75ff43157f4e267bca5bff5696ddd21d9cccf310abb7730e4e0dad32ddb5", func := "tallyman/tallymanlaw20.BucketCalls", spec := "bucketCalls", inPlace := ["slices.overlaps[tallyman/api.Ref]"], unfollowed := true, recurses := true, plainKeys := false, apart := false, narrowed := true }
def BucketCallsUptoSaid : Prop := bucketCallsUptoRow.holds Try.pinned (OpenSpec.upto bucketCallsSpec)

end Rows
end Go.Proofs.Ytichljgjfioanaa
