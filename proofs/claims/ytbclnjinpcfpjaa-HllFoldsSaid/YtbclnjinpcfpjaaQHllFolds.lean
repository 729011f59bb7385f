/- The pure statement of HllFolds: what the Go law comes to, as a Lean function on numbers and lists, is true for every input. -/
import Derived.Test.YtbclnjinpcfpjaaSA
namespace Go.Proofs.Ytbclnjinpcfpjaa.H
open Go.RowKit Go.Proofs.YtbclnjinpcfpjaaW.PrintWords Go.Proofs.YtbclnjinpcfpjaaW.PrintLast
def tallymanlaw14_HllFolds.PureH : Prop := ∀ (x0 : Int) (x1 : Int) (x2 : Int) (x3 : List Int) (x4 : List Int), (Lit.int .i64 x0).wf = true → (Lit.int .i64 x1).wf = true → (Lit.int .i64 x2).wf = true → (∀ z1 ∈ x3, (Lit.int .u64 z1).wf = true) → x3.length ≤ 9223372036854775807 → (∀ z2 ∈ x4, (Lit.int .u64 z2).wf = true) → x4.length ≤ 9223372036854775807 →  ∃ k, tallymanlaw14_HllFolds.f k x0 x1 x2 x3 x4 = some true
end Go.Proofs.Ytbclnjinpcfpjaa.H
namespace Go.Proofs.Ytbclnjinpcfpjaa.Pure
open Go.RowKit Go.Proofs.Ytbclnjinpcfpjaa.H Go.Proofs.YtbclnjinpcfpjaaW.PrintWords Go.Proofs.YtbclnjinpcfpjaaW.PrintLast
theorem HllFolds : tallymanlaw14_HllFolds.PureH := by
  intro x0 x1 x2 x3 x4 h0 h1 h2 h3 _ h4 _
  simp [Lit.wf, IntKind.min, IntKind.max, IntKind.signed, IntKind.bits] at h0 h1 h2
  refine folds_ex x0 x1 x2 (by omega) (by omega) (by omega) x3 x4 (fun z hz => ?_) (fun z hz => ?_)
  · have h := h3 z hz
    simp [Lit.wf, IntKind.min, IntKind.max, IntKind.signed, IntKind.bits] at h
    omega
  · have h := h4 z hz
    simp [Lit.wf, IntKind.min, IntKind.max, IntKind.signed, IntKind.bits] at h
    omega
end Go.Proofs.Ytbclnjinpcfpjaa.Pure
