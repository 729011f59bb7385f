/- Contracts of Go functions, walked by hand: each call comes to the Lean function beside it and leaves what was there before. -/
import Derived.Test.YtbclnjinpcfpjaaProg
import Derived.Below
import Derived.Deep.Draws
import Derived.Deep.AppendLies
import Derived.Maps.AppendAt
import Derived.OwnWalk
import Derived.Laws.BytesArg
import Derived.Laws.MakeOwn
import Derived.Laws.OwnMore
import Derived.Deep.OwnRows
import Derived.Tactics
import Derived.Lib.ConvBytes
import Derived.Laws.Slices
import Derived.WalkKit
import Derived.KernelRfl
import Derived.RowKit3
import Derived.Deep.LoopGhost
import Derived.Deep.QuietTactic
import Derived.BigQuiet
import Derived.WideLaws
import Derived.Deep.DeepCutAuto
import Derived.Deep.CutBlock
import Derived.Deep.RegionHeld3
import Derived.Laws.Rows
import Derived.Lib.AppendStr
import Derived.ArgAppend
import Derived.Laws.IdiomCopy
import Derived.OrdersHeld
import Derived.Laws.BitsLemmas
import Derived.RowKit
import Derived.WalkSpells
import Derived.WalkLawsBesides
import Derived.Laws.Bits64b
import Derived.Laws.BitsAllLaws
import Derived.Maps.OwnSet
import Derived.Test.YtbclnjinpcfpjaaVC
import Derived.Test.YtbclnjinpcfpjaaZ4
import Derived.Test.YtbclnjinpcfpjaaM4
namespace Go.Proofs.Ytbclnjinpcfpjaa.H
open Go.RowKit Go.Proofs.YtbclnjinpcfpjaaW.PrintWords Go.Proofs.YtbclnjinpcfpjaaW.PrintLast Go.Proofs.YtbclnjinpcfpjaaW.PrintMore
attribute [local go_sem] max2_int min2_int max_two min_two max_three min_three max_four min_four
set_option linter.unusedVariables false
set_option linter.unusedSimpArgs false

section
variable {w0 W : World} {g r : Nat} {f0 : List Int} {f1 f2 : Int} {f3 : Bool}
theorem yA101 (h : IsS101 w0 W g r f0 f1 f2 f3) (o : Obj) : IsS101 w0 (W.alloc o) g r f0 f1 f2 f3 := h.alloc o
theorem yN101 (h : IsS101 w0 W g r f0 f1 f2 f3) (m : Nat) : IsS101 w0 (W.drewN m) g r f0 f1 f2 f3 := h.drewN m
theorem yD101 (h : IsS101 w0 W g r f0 f1 f2 f3) : IsS101 w0 W.drew g r f0 f1 f2 f3 := h.drew
theorem yF101 {p : Addr} (h : IsS101 w0 W g r f0 f1 f2 f3) (hne : g ≠ p.block ∧ r ≠ p.block) (u : Value) : IsS101 w0 (W.setCell p u) g r f0 f1 f2 f3 := h.far hne u
end

end Go.Proofs.Ytbclnjinpcfpjaa.H
