/- The pure statement of SetopsCalls: what the Go law comes to, as a Lean function on numbers and lists, is true for every input. -/
import Derived.Test.YtpagondojdlknaaSI
import Derived.Test.YtpagondojdlknaaSK
namespace Go.Proofs.Ytpagondojdlknaa.H
open Go.RowKit Go.Proofs.YtpagondojdlknaaW.PrintWords Go.Proofs.YtpagondojdlknaaW.PrintLast
def tallymanlaw17_SetopsCalls.PureH : Prop := ∀ (x0 : S25) (x1 : S25) (x2 : S34) (x3 : Int), ((Lit.int .u64 x0.f0).wf = true ∧ (∀ z1 ∈ x0.f1, (Lit.int .u64 z1).wf = true)) → x0.f1.length ≤ 9223372036854775807 → ((Lit.int .u64 x1.f0).wf = true ∧ (∀ z2 ∈ x1.f1, (Lit.int .u64 z2).wf = true)) → x1.f1.length ≤ 9223372036854775807 → ((Lit.int .i64 x2.f0).wf = true ∧ (∀ z3 ∈ x2.f1, (Lit.int .u64 z3).wf = true) ∧ (Lit.int .u64 x2.f2).wf = true) → x2.f1.length ≤ 9223372036854775807 → (Lit.int .u64 x3).wf = true →  ∃ k, tallymanlaw17_SetopsCalls.f k x0.f0 x0.f1 x1.f0 x1.f1 x2.f0 x2.f1 x2.f2 x3 = some true
end Go.Proofs.Ytpagondojdlknaa.H
namespace Go.Proofs.Ytpagondojdlknaa.Pure
open Go.RowKit Go.Proofs.Ytpagondojdlknaa.H Go.Proofs.YtpagondojdlknaaW.PrintWords Go.Proofs.YtpagondojdlknaaW.PrintLast
theorem SetopsCalls : tallymanlaw17_SetopsCalls.PureH := by
  intro x0 x1 x2 x3 h0 _ h1 _ h2 _ h3
  obtain ⟨a, ha, ha2⟩ := u64_nat h0.1
  rw [ha]
  exact calls_ex ha2 _ _ _ _ _ _ _
end Go.Proofs.Ytpagondojdlknaa.Pure
