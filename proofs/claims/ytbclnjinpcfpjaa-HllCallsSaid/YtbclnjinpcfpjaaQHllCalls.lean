/- The pure statement of HllCalls: what the Go law comes to, as a Lean function on numbers and lists, is true for every input. -/
import Derived.Test.YtbclnjinpcfpjaaSD
import Derived.Test.YtbclnjinpcfpjaaSK
namespace Go.Proofs.Ytbclnjinpcfpjaa.H
open Go.RowKit Go.Proofs.YtbclnjinpcfpjaaW.PrintWords Go.Proofs.YtbclnjinpcfpjaaW.PrintLast
def tallymanlaw14_HllCalls.PureH : Prop := ∀ (x0 : S30) (x1 : S30) (x2 : List Int) (x3 : Int) (x4 : Int), ((Lit.int .i64 x0.f0).wf = true ∧ (∀ z1 ∈ x0.f1, ((Lit.int .i64 z1.f0).wf = true ∧ (Lit.int .i64 z1.f1).wf = true))) → x0.f1.length ≤ 9223372036854775807 → ((Lit.int .i64 x1.f0).wf = true ∧ (∀ z2 ∈ x1.f1, ((Lit.int .i64 z2.f0).wf = true ∧ (Lit.int .i64 z2.f1).wf = true))) → x1.f1.length ≤ 9223372036854775807 → (∀ z3 ∈ x2, (Lit.int .u64 z3).wf = true) → x2.length ≤ 9223372036854775807 → (Lit.int .i64 x3).wf = true → (Lit.int .i64 x4).wf = true →  ∃ k, tallymanlaw14_HllCalls.f k x0.f0 x0.f1 x1.f0 x1.f1 x2 x3 x4 = some true
end Go.Proofs.Ytbclnjinpcfpjaa.H
namespace Go.Proofs.Ytbclnjinpcfpjaa.Pure
open Go.RowKit Go.Proofs.Ytbclnjinpcfpjaa.H Go.Proofs.YtbclnjinpcfpjaaW.PrintWords Go.Proofs.YtbclnjinpcfpjaaW.PrintLast
theorem HllCalls : tallymanlaw14_HllCalls.PureH := by
  intro x0 x1 x2 x3 x4 _ _ _ _ h2 _ _ h4
  simp [Lit.wf, IntKind.min, IntKind.max, IntKind.signed, IntKind.bits] at h4
  exact hcalls_ex _ _ _ _ _ _ _ (fun z hz => by
    have h := h2 z hz
    simp [Lit.wf, IntKind.min, IntKind.max, IntKind.signed, IntKind.bits] at h
    omega) (by omega)
end Go.Proofs.Ytbclnjinpcfpjaa.Pure
