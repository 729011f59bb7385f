/- The pure statement of DenseCalls: what the Go law comes to, as a Lean function on numbers and lists, is true for every input. -/
import Derived.Test.YtbclnjinpcfpjaaTA
import Derived.Test.YtbclnjinpcfpjaaSK
namespace Go.Proofs.Ytbclnjinpcfpjaa.H
open Go.RowKit Go.Proofs.YtbclnjinpcfpjaaW.PrintWords Go.Proofs.YtbclnjinpcfpjaaW.PrintLast
def tallymanlaw15_DenseCalls.PureH : Prop := ∀ (x0 : S30) (x1 : List Int) (x2 : List Int) (x3 : Int), ((Lit.int .i64 x0.f0).wf = true ∧ (∀ z1 ∈ x0.f1, ((Lit.int .i64 z1.f0).wf = true ∧ (Lit.int .i64 z1.f1).wf = true))) → x0.f1.length ≤ 9223372036854775807 → (∀ z2 ∈ x1, (Lit.int .u8 z2).wf = true) → x1.length ≤ 9223372036854775807 → (∀ z3 ∈ x2, (Lit.int .i64 z3).wf = true) → x2.length ≤ 9223372036854775807 → (Lit.int .u64 x3).wf = true →  ∃ k, tallymanlaw15_DenseCalls.f k x0.f0 x0.f1 x1 x2 x3 = some true
end Go.Proofs.Ytbclnjinpcfpjaa.H
namespace Go.Proofs.Ytbclnjinpcfpjaa.Pure
open Go.RowKit Go.Proofs.Ytbclnjinpcfpjaa.H Go.Proofs.YtbclnjinpcfpjaaW.PrintWords Go.Proofs.YtbclnjinpcfpjaaW.PrintLast
theorem all_byte {l : List Int} (h : ∀ x ∈ l, (Lit.int .u8 x).wf = true) : l.all isByte = true := by
  rw [List.all_eq_true]
  intro x hx
  have h1 := h x hx
  simp [Lit.wf, IntKind.min, IntKind.max, IntKind.signed, IntKind.bits] at h1
  unfold isByte
  simp
  omega
theorem u64_of {x : Int} (h : (Lit.int .u64 x).wf = true) : 0 ≤ x ∧ x ≤ 18446744073709551615 := by
  simp [Lit.wf, IntKind.min, IntKind.max, IntKind.signed, IntKind.bits] at h
  omega
theorem DenseCalls : tallymanlaw15_DenseCalls.PureH := by
  intro x0 x1 x2 x3 _ _ h1 _ _ _ h3
  exact calls_law _ _ _ _ _ (all_byte h1) (u64_of h3).1 (u64_of h3).2
end Go.Proofs.Ytbclnjinpcfpjaa.Pure
