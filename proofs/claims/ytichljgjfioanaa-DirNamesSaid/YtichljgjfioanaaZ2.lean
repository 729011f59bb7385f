/- Contracts of Go functions, walked by hand: each call comes to the Lean function beside it and leaves what was there before. -/
import Derived.Test.YtichljgjfioanaaProg
import Derived.Below
import Derived.Deep.Draws
import Derived.Deep.AppendLies
import Derived.Maps.AppendAt
import Derived.OwnWalk
import Derived.Laws.BytesArg
import Derived.Laws.MakeOwn
import Derived.Laws.OwnMore
import Derived.Deep.OwnRows
import Derived.Tactics
import Derived.Lib.ConvBytes
import Derived.Laws.Slices
import Derived.WalkKit
import Derived.KernelRfl
import Derived.RowKit3
import Derived.Deep.LoopGhost
import Derived.Deep.QuietTactic
import Derived.BigQuiet
import Derived.WideLaws
import Derived.Deep.DeepCutAuto
import Derived.Deep.CutBlock
import Derived.Deep.RegionHeld3
import Derived.Laws.Rows
import Derived.Lib.AppendStr
import Derived.ArgAppend
import Derived.Laws.IdiomCopy
import Derived.OrdersHeld
import Derived.Laws.BitsLemmas
import Derived.RowKit
import Derived.WalkSpells
import Derived.WalkLawsBesides
import Derived.Laws.Bits64b
import Derived.Laws.BitsAllLaws
import Derived.Maps.OwnSet
import Derived.Test.YtichljgjfioanaaVDN
import Derived.Test.YtichljgjfioanaaH0
import Derived.Test.YtichljgjfioanaaZ
namespace Go.Proofs.Ytichljgjfioanaa.H
open Go.RowKit Go.Proofs.YtichljgjfioanaaW.PrintWords Go.Proofs.YtichljgjfioanaaW.PrintLast Go.Proofs.YtichljgjfioanaaW.PrintMore
attribute [local go_sem] max2_int min2_int max_two min_two max_three min_three max_four min_four
set_option linter.unusedVariables false
set_option linter.unusedSimpArgs false

/-! ### Shorter words still -/
theorem rb {α : Type} {d : Kd α} {e base : Nat} {ok : Nat → Prop} {v : Value} {xs : List α} {w w1 w2 : World} (h : Aside0 (d.R e w base ok v xs)) (hb : Below w1.heap.size w1 w2) [m : Mv w w1] : Aside0 (d.R e w2 base ok v xs) := ⟨Kd.R_below (Kd.R_below h.out m.out) hb⟩
theorem bb {g : Nat} {o : Obj} {w w1 w2 : World} (h : Aside0 (w.heap[g]? = some o)) (hb : Below w1.heap.size w1 w2) [m : Mv w w1] : Aside0 (w2.heap[g]? = some o) := ⟨blk_below (blk_below h.out m.out) hb⟩
theorem nl {b g : Nat} {o : Obj} {w1 : World} (hg : b = w1.heap.size) (h : w1.heap[g]? = some o) : Aside0 (g ≠ b) := ⟨by rw [hg]; exact Nat.ne_of_lt (blk_lt h)⟩
theorem nr {b g : Nat} {o : Obj} {w1 : World} (hg : b = w1.heap.size) (h : w1.heap[g]? = some o) : Aside0 (b ≠ g) := ⟨by rw [hg]; exact Nat.ne_of_gt (blk_lt h)⟩
theorem tri {b : Nat} {w w1 w2 : World} (hg : b = w1.heap.size) (hb : Below w1.heap.size w1 w2) (h : Below w.heap.size w w1) : Aside0 (Below w.heap.size w w2) ∧ Aside0 (w.heap.size ≤ b) := ⟨⟨below_step h hb⟩, ⟨by rw [hg]; exact below_size h⟩⟩
theorem cz (i : Nat) {g : Nat} {cells : Array Value} {t : TypeId} {v : Value} {w : World} (h : w.heap[g]? = some (.cells cells t (0, 0))) (e : cells[i]? = some v) : w.cell? ⟨g, i, none⟩ = some v := (blk_cell h i).trans e
/-- The cells of a block of two. -/
theorem ca {g : Nat} {a b : Value} {t : TypeId} {w : World} (h : w.heap[g]? = some (.cells #[a, b] t (0, 0))) : w.cell? ⟨g, 0, none⟩ = some a := (blk_cell h 0).trans rfl
theorem cb {g : Nat} {a b : Value} {t : TypeId} {w : World} (h : w.heap[g]? = some (.cells #[a, b] t (0, 0))) : w.cell? ⟨g, 1, none⟩ = some b := (blk_cell h 1).trans rfl

end Go.Proofs.Ytichljgjfioanaa.H
