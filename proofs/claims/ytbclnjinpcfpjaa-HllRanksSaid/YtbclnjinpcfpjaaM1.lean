/- Contracts of Go functions, walked by hand: each call comes to the Lean function beside it and leaves what was there before. -/
import Derived.Test.YtbclnjinpcfpjaaProg
import Derived.Below
import Derived.Deep.Draws
import Derived.Deep.AppendLies
import Derived.Maps.AppendAt
import Derived.OwnWalk
import Derived.Laws.BytesArg
import Derived.Laws.MakeOwn
import Derived.Laws.OwnMore
import Derived.Deep.OwnRows
import Derived.Tactics
import Derived.Lib.ConvBytes
import Derived.Laws.Slices
import Derived.WalkKit
import Derived.KernelRfl
import Derived.RowKit3
import Derived.Deep.LoopGhost
import Derived.Deep.QuietTactic
import Derived.BigQuiet
import Derived.WideLaws
import Derived.Deep.DeepCutAuto
import Derived.Deep.CutBlock
import Derived.Deep.RegionHeld3
import Derived.Laws.Rows
import Derived.Lib.AppendStr
import Derived.ArgAppend
import Derived.Laws.IdiomCopy
import Derived.OrdersHeld
import Derived.Laws.BitsLemmas
import Derived.RowKit
import Derived.WalkSpells
import Derived.WalkLawsBesides
import Derived.Laws.Bits64b
import Derived.Laws.BitsAllLaws
import Derived.Maps.OwnSet
import Derived.Test.YtbclnjinpcfpjaaWWords
import Derived.Test.YtbclnjinpcfpjaaWLast
import Derived.Test.YtbclnjinpcfpjaaWTab
import Derived.Test.YtbclnjinpcfpjaaWFour
import Derived.Test.YtbclnjinpcfpjaaWQPut
import Derived.Test.YtbclnjinpcfpjaaWApart
import Derived.Test.YtbclnjinpcfpjaaWArr
import Derived.Test.YtbclnjinpcfpjaaWZeros
import Derived.Test.YtbclnjinpcfpjaaWFoot
import Derived.Test.YtbclnjinpcfpjaaWKept
import Derived.Test.YtbclnjinpcfpjaaWShare
import Derived.Test.YtbclnjinpcfpjaaWN
import Derived.Test.YtbclnjinpcfpjaaWFootNe
import Derived.Test.YtbclnjinpcfpjaaWAt
import Derived.Test.YtbclnjinpcfpjaaWEqStruct
import Derived.Test.YtbclnjinpcfpjaaWRepsOne
import Derived.Test.YtbclnjinpcfpjaaWInv
import Derived.Test.YtbclnjinpcfpjaaWInvWords
import Derived.Test.YtbclnjinpcfpjaaWGuard
import Derived.Test.YtbclnjinpcfpjaaWNEv
import Derived.Test.YtbclnjinpcfpjaaWMore
import Derived.Shelf.Lay
import Derived.Shelf.Strconv.Itoa0
import Derived.Ground.NamesProg
namespace Go.Proofs.Ytbclnjinpcfpjaa.H
open Go.RowKit Go.Proofs.YtbclnjinpcfpjaaW.PrintWords Go.Proofs.YtbclnjinpcfpjaaW.PrintLast Go.Proofs.YtbclnjinpcfpjaaW.PrintMore
attribute [local go_sem] max2_int min2_int max_two min_two max_three min_three max_four min_four
set_option linter.unusedVariables false
set_option linter.unusedSimpArgs false


/-! ### math/bits.Len64: the kit's own contract, laid at this program -/
def lays129_ren : Go.Shelf.Ren := ⟨fun | 129 => 58 | n => n, fun | 53 => 22 | 3 => 3 | 4 => 4 | 46 => 26 | 5 => 5 | 9 => 9 | n => n, fun | n => n⟩
theorem lays129 : Go.Proofs.Lays.n129 Try.prog lays129_ren := {
  mixed := by kernel_rfl
  f129 := Try.func58.trans (congrArg some (by kernel_rfl))
  t3 := Try.underlying3
  a3 := Try.isAgg3
  z3 := Try.sizeOf3
  v3 := Try.zeroValue3
  t4 := Try.underlying4
  a4 := Try.isAgg4
  z4 := Try.sizeOf4
  v4 := Try.zeroValue4
  t5 := Try.underlying5
  a5 := Try.isAgg5
  z5 := Try.sizeOf5
  v5 := Try.zeroValue5
  t9 := Try.underlying9
  a9 := Try.isAgg9
  z9 := Try.sizeOf9
  v9 := Try.zeroValue9
  t46 := Try.underlying26
  a46 := Try.isAgg26
  z46 := Try.sizeOf26
  v46 := Try.zeroValue26
  t53 := Try.underlying22
  a53 := Try.isAgg22
  z53 := Try.sizeOf22
  v53 := Try.zeroValue22 }
def bits_Len64.f (a0 : Int) : Option Int := if 0 ≤ a0 ∧ a0 ≤ 18446744073709551615 then some (Lib.bitLen a0.toNat) else none
theorem bits_Len64.calls (a0 : Int) (r : Int) (w : World) (h : bits_Len64.f a0 = some r) :
    Calls Try.prog 58 #[.int .u64 a0] w fun e w' => e = .returned (.int .i64 r) ∧ Drawn0 w w' := by
  unfold bits_Len64.f at h
  split at h
  case isFalse => cases h
  case isTrue hl =>
    obtain rfl := Option.some.inj h
    refine (Go.Proofs.Any.bits_Len64 lays129 a0 w hl.1 hl.2).mono ?_
    rintro e w' ⟨rfl, rfl⟩
    exact ⟨rfl, Drawn0.refl _⟩

end Go.Proofs.Ytbclnjinpcfpjaa.H
