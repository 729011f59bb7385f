/- Contracts of Go functions, walked by hand: each call comes to the Lean function beside it and leaves what was there before. -/
import Derived.Test.YtichljgjfioanaaProg
import Derived.Below
import Derived.Deep.Draws
import Derived.Deep.AppendLies
import Derived.Maps.AppendAt
import Derived.OwnWalk
import Derived.Laws.BytesArg
import Derived.Laws.MakeOwn
import Derived.Laws.OwnMore
import Derived.Deep.OwnRows
import Derived.Tactics
import Derived.Lib.ConvBytes
import Derived.Laws.Slices
import Derived.WalkKit
import Derived.KernelRfl
import Derived.RowKit3
import Derived.Deep.LoopGhost
import Derived.Deep.QuietTactic
import Derived.BigQuiet
import Derived.WideLaws
import Derived.Deep.DeepCutAuto
import Derived.Deep.CutBlock
import Derived.Deep.RegionHeld3
import Derived.Laws.Rows
import Derived.Lib.AppendStr
import Derived.ArgAppend
import Derived.Laws.IdiomCopy
import Derived.OrdersHeld
import Derived.Laws.BitsLemmas
import Derived.RowKit
import Derived.WalkSpells
import Derived.WalkLawsBesides
import Derived.Laws.Bits64b
import Derived.Laws.BitsAllLaws
import Derived.Maps.OwnSet
import Derived.Test.YtichljgjfioanaaVDN
import Derived.Test.YtichljgjfioanaaH0
namespace Go.Proofs.Ytichljgjfioanaa.H
open Go.RowKit Go.Proofs.YtichljgjfioanaaW.PrintWords Go.Proofs.YtichljgjfioanaaW.PrintLast Go.Proofs.YtichljgjfioanaaW.PrintMore
attribute [local go_sem] max2_int min2_int max_two min_two max_three min_three max_four min_four
set_option linter.unusedVariables false
set_option linter.unusedSimpArgs false

/-! ### Short words for long printed walks -/
/-- From w to w' nothing has been done but drawing and making. -/
class Mv (w w' : World) : Prop where
  out : Below w.heap.size w w'
instance (w : World) : Mv w w := ⟨Below.refl _ _⟩
instance (w w' : World) (o : Obj) [m : Mv w w'] : Mv w (w'.alloc o) := ⟨below_alloc m.out o⟩
instance (w w' : World) [m : Mv w w'] : Mv w w'.drew := ⟨m.out.drew⟩
instance (w w' : World) (n : Nat) [m : Mv w w'] : Mv w (w'.drewN n) := ⟨pw_below_drewN m.out n⟩
theorem ru {α : Type} {d : Kd α} {e base : Nat} {ok : Nat → Prop} {v : Value} {xs : List α} {w w' : World} (h : d.R e w base ok v xs) [m : Mv w w'] : d.R e w' base ok v xs := Kd.R_below h m.out
theorem bu {g : Nat} {o : Obj} {w w' : World} (h : w.heap[g]? = some o) [m : Mv w w'] : w'.heap[g]? = some o := blk_below h m.out
theorem hu {w0 w w' : World} (h : Below w0.heap.size w0 w) [m : Mv w w'] : Below w0.heap.size w0 w' := below_step h m.out
theorem am {p : Prop} (h : p) : Aside0 p := ⟨h⟩
/-- Of n operations the first k are done. -/
def tb (k n : Nat) : Array Bool := ((List.replicate k true) ++ (List.replicate (n - k) false)).toArray
abbrev nb (A : Option Addr) (n c k : Nat) : Prop := some k ≠ (Value.slice A n c).ownBlock
/-- From w to w' nothing has been done but drawing, making, and storing into block b. -/
class Mf (b : Nat) (w w' : World) : Prop where
  out : w.heap.size ≤ w'.heap.size ∧ ∀ k, k < w.heap.size → k ≠ b → w'.heap[k]? = w.heap[k]?
instance (b : Nat) (w : World) : Mf b w w := ⟨Nat.le_refl _, fun _ _ _ => rfl⟩
instance (b : Nat) (w w' : World) (o : Obj) [m : Mf b w w'] : Mf b w (w'.alloc o) := ⟨Nat.le_trans m.out.1 (by simp), fun k hk hn => (Below.heap_alloc _ _ _ (Nat.lt_of_lt_of_le hk m.out.1)).trans (m.out.2 k hk hn)⟩
instance (b : Nat) (w w' : World) [m : Mf b w w'] : Mf b w w'.drew := ⟨m.out.1, m.out.2⟩
instance (b : Nat) (w w' : World) (n : Nat) [m : Mf b w w'] : Mf b w (w'.drewN n) := ⟨m.out.1, m.out.2⟩
instance (b i : Nat) (w w' : World) (u : Value) [m : Mf b w w'] : Mf b w (w'.setCell ⟨b, i, none⟩ u) := ⟨Nat.le_trans m.out.1 (by simp [World.setCell]), fun k hk hn => (Below.heap_setCell _ _ _ _ hn).trans (m.out.2 k hk hn)⟩
theorem bf {g b : Nat} {o : Obj} {w w' : World} (hn : g ≠ b) (h : w.heap[g]? = some o) [m : Mf b w w'] : w'.heap[g]? = some o := (m.out.2 g (blk_lt h) hn).trans h
theorem rf {α : Type} {d : Kd α} {e base b t : Nat} {ok : Nat → Prop} {v : Value} {xs : List α} {cells : Array Value} {w w' : World} (h : d.R e w base ok v xs) (hb : w.heap[b]? = some (.cells cells t (0, 0))) (ht : ∀ q, q ∈ e :: d.E → q ≠ t) [m : Mf b w w'] : d.R e w' base ok v xs :=
  Kd.R_mono (Kd.R_step (Kd.R_types h hb ht) (fun k hk hlt => m.out.2 k hlt hk.2)) (fun _ hk => hk.1)

end Go.Proofs.Ytichljgjfioanaa.H
