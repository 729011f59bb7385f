/- Contracts of Go functions, walked by hand: each call comes to the Lean function beside it and leaves what was there before. -/
import Derived.Test.YtbclnjinpcfpjaaProg
import Derived.Below
import Derived.Deep.Draws
import Derived.Deep.AppendLies
import Derived.Maps.AppendAt
import Derived.OwnWalk
import Derived.Laws.BytesArg
import Derived.Laws.MakeOwn
import Derived.Laws.OwnMore
import Derived.Deep.OwnRows
import Derived.Tactics
import Derived.Lib.ConvBytes
import Derived.Laws.Slices
import Derived.WalkKit
import Derived.KernelRfl
import Derived.RowKit3
import Derived.Deep.LoopGhost
import Derived.Deep.QuietTactic
import Derived.BigQuiet
import Derived.WideLaws
import Derived.Deep.DeepCutAuto
import Derived.Deep.CutBlock
import Derived.Deep.RegionHeld3
import Derived.Laws.Rows
import Derived.Lib.AppendStr
import Derived.ArgAppend
import Derived.Laws.IdiomCopy
import Derived.OrdersHeld
import Derived.Laws.BitsLemmas
import Derived.RowKit
import Derived.WalkSpells
import Derived.WalkLawsBesides
import Derived.Laws.Bits64b
import Derived.Laws.BitsAllLaws
import Derived.Maps.OwnSet
import Derived.Test.YtbclnjinpcfpjaaWWords
import Derived.Test.YtbclnjinpcfpjaaWLast
import Derived.Test.YtbclnjinpcfpjaaWTab
import Derived.Test.YtbclnjinpcfpjaaWFour
import Derived.Test.YtbclnjinpcfpjaaWQPut
import Derived.Test.YtbclnjinpcfpjaaWApart
import Derived.Test.YtbclnjinpcfpjaaWArr
import Derived.Test.YtbclnjinpcfpjaaWZeros
import Derived.Test.YtbclnjinpcfpjaaWFoot
import Derived.Test.YtbclnjinpcfpjaaWKept
import Derived.Test.YtbclnjinpcfpjaaWShare
import Derived.Test.YtbclnjinpcfpjaaWN
import Derived.Test.YtbclnjinpcfpjaaWFootNe
import Derived.Test.YtbclnjinpcfpjaaWAt
import Derived.Test.YtbclnjinpcfpjaaWEqStruct
import Derived.Test.YtbclnjinpcfpjaaWRepsOne
import Derived.Test.YtbclnjinpcfpjaaWInv
import Derived.Test.YtbclnjinpcfpjaaWInvWords
import Derived.Test.YtbclnjinpcfpjaaWGuard
import Derived.Test.YtbclnjinpcfpjaaWNEv
import Derived.Test.YtbclnjinpcfpjaaWMore
import Derived.Test.YtbclnjinpcfpjaaH0
namespace Go.Proofs.Ytbclnjinpcfpjaa.H
open Go.RowKit Go.Proofs.YtbclnjinpcfpjaaW.PrintWords Go.Proofs.YtbclnjinpcfpjaaW.PrintLast Go.Proofs.YtbclnjinpcfpjaaW.PrintMore
attribute [local go_sem] max2_int min2_int max_two min_two max_three min_three max_four min_four
set_option linter.unusedVariables false
set_option linter.unusedSimpArgs false

/-! ### a call of a function value in a region that draws -/
theorem goesV_ {P : Program} {ops : Array Oper} {Q : Exit → Act → World → Prop} {oi : Oper} {N : Option Tmp} {a : Act} {w : World} {K : Act → World → Prop} {f : FuncId} {fn : Func} {xo : Array Operand} {ts : Array TypeId} (c : Operand) (hf : P.funcs[f]? = some fn) (hname : (fn.name == "runtime.NumGoroutine") = false) (hb : fn.body.isSome = true) (args : Array Value)
    (hw : Region.wanted oi (yielded ops a.tmps) = true) (hN : oi.dst = N) (hop : oi.op = .call { callee := .value c, args := xo, argTypes := ts }) (hc : a.eval c = .func (.func f) #[] #[]) (hargs : xo.map a.eval = args)
    (h : Calls P f args w fun e w' => ∃ v, e = .returned v ∧ K (a.put N v) w') : if Region.wanted oi (yielded ops a.tmps) = true then Oper.wp P oi a w K Q else K (a.put N undef) w := by
  refine call_ f args hw hN ?_ h
  have he := enters_ hf hname hb args w
  unfold execOp
  simp [hop, resolve, Deferred.ofValue, invoke, hc, hargs, he]
theorem goesLV_ {P : Program} {ops : Array Oper} {Q : Exit → Act → World → Prop} {rest : List Oper} {oi : Oper} {a : Act} {w : World} (c : Operand) (N : Option Tmp) (hd : oi.dst = N) (hg : oi.guard = none) {f : FuncId} {fn : Func} {xo : Array Operand} {ts : Array TypeId} (hf : P.funcs[f]? = some fn) (hname : (fn.name == "runtime.NumGoroutine") = false) (hb : fn.body.isSome = true) (args : Array Value)
    (hop : oi.op = .call { callee := .value c, args := xo, argTypes := ts }) (hc : a.eval c = .func (.func f) #[] #[]) (hargs : xo.map a.eval = args)
    (h : Calls P f args w fun e w' => ∃ v, e = .returned v ∧ wpList P ops Q rest (a.put N v) w') : wpList P ops Q (oi :: rest) a w := by
  refine wpList_plain hg fun K hK => ?_
  have he := enters_ hf hname hb args w
  have hrun : (execOp a.eval oi).run P w = .ok (.enter f args) w := by
    unfold execOp
    simp [hop, resolve, Deferred.ofValue, invoke, hc, hargs, he]
  unfold Oper.wp
  rw [hrun, Oper.upon_enter]
  refine h.mono fun e w'' hh => ?_
  obtain ⟨v, rfl, hk⟩ := hh
  subst hd
  exact hK _ _ hk

end Go.Proofs.Ytbclnjinpcfpjaa.H
