/- The pure statement of HllSets: what the Go law comes to, as a Lean function on numbers and lists, is true for every input. -/
import Derived.Test.YtbclnjinpcfpjaaSE
namespace Go.Proofs.Ytbclnjinpcfpjaa.H
open Go.RowKit Go.Proofs.YtbclnjinpcfpjaaW.PrintWords Go.Proofs.YtbclnjinpcfpjaaW.PrintLast
def tallymanlaw14_HllSets.PureH : Prop := ∀ (x0 : Int) (x1 : List Int) (x2 : List Int), (Lit.int .i64 x0).wf = true → (∀ z1 ∈ x1, (Lit.int .u64 z1).wf = true) → x1.length ≤ 9223372036854775807 → (∀ z2 ∈ x2, (Lit.int .u64 z2).wf = true) → x2.length ≤ 9223372036854775807 →  ∃ k, tallymanlaw14_HllSets.f k x0 x1 x2 = some true
end Go.Proofs.Ytbclnjinpcfpjaa.H
namespace Go.Proofs.Ytbclnjinpcfpjaa.Pure
open Go.RowKit Go.Proofs.Ytbclnjinpcfpjaa.H Go.Proofs.YtbclnjinpcfpjaaW.PrintWords Go.Proofs.YtbclnjinpcfpjaaW.PrintLast
theorem HllSets : tallymanlaw14_HllSets.PureH := by
  intro x0 x1 x2 h0 h1 _ h2 _
  simp [Lit.wf, IntKind.min, IntKind.max, IntKind.signed, IntKind.bits] at h0
  refine sets_ex x0 (by omega) x1 x2 (fun z hz => ?_) (fun z hz => ?_)
  · have h := h1 z hz
    simp [Lit.wf, IntKind.min, IntKind.max, IntKind.signed, IntKind.bits] at h
    omega
  · have h := h2 z hz
    simp [Lit.wf, IntKind.min, IntKind.max, IntKind.signed, IntKind.bits] at h
    omega
end Go.Proofs.Ytbclnjinpcfpjaa.Pure
