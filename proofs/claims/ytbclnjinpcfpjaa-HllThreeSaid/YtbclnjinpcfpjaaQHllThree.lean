/- The pure statement of HllThree: what the Go law comes to, as a Lean function on numbers and lists, is true for every input. -/
import Derived.Test.YtbclnjinpcfpjaaS8
import Derived.Test.YtbclnjinpcfpjaaSK
namespace Go.Proofs.Ytbclnjinpcfpjaa.H
open Go.RowKit Go.Proofs.YtbclnjinpcfpjaaW.PrintWords Go.Proofs.YtbclnjinpcfpjaaW.PrintLast
def tallymanlaw14_HllThree.PureH : Prop := ∀ (x0 : S30) (x1 : S30) (x2 : S30), ((Lit.int .i64 x0.f0).wf = true ∧ (∀ z1 ∈ x0.f1, ((Lit.int .i64 z1.f0).wf = true ∧ (Lit.int .i64 z1.f1).wf = true))) → x0.f1.length ≤ 9223372036854775807 → ((Lit.int .i64 x1.f0).wf = true ∧ (∀ z2 ∈ x1.f1, ((Lit.int .i64 z2.f0).wf = true ∧ (Lit.int .i64 z2.f1).wf = true))) → x1.f1.length ≤ 9223372036854775807 → ((Lit.int .i64 x2.f0).wf = true ∧ (∀ z3 ∈ x2.f1, ((Lit.int .i64 z3.f0).wf = true ∧ (Lit.int .i64 z3.f1).wf = true))) → x2.f1.length ≤ 9223372036854775807 →  ∃ k, tallymanlaw14_HllThree.f k x0.f0 x0.f1 x1.f0 x1.f1 x2.f0 x2.f1 = some true
end Go.Proofs.Ytbclnjinpcfpjaa.H
namespace Go.Proofs.Ytbclnjinpcfpjaa.Pure
open Go.RowKit Go.Proofs.Ytbclnjinpcfpjaa.H Go.Proofs.YtbclnjinpcfpjaaW.PrintWords Go.Proofs.YtbclnjinpcfpjaaW.PrintLast
theorem HllThree : tallymanlaw14_HllThree.PureH := by
  intro x0 x1 x2 _ _ _ _ _ _
  exact three_ex _ _ _ _ _ _
end Go.Proofs.Ytbclnjinpcfpjaa.Pure
