/- The pure statement of SetopsAgain: what the Go law comes to, as a Lean function on numbers and lists, is true for every input. -/
import Derived.Test.YtpagondojdlknaaSA
namespace Go.Proofs.Ytpagondojdlknaa.H
open Go.RowKit Go.Proofs.YtpagondojdlknaaW.PrintWords Go.Proofs.YtpagondojdlknaaW.PrintLast
def tallymanlaw17_SetopsAgain.PureH : Prop := ∀ (x0 : S25) (x1 : S25), ((Lit.int .u64 x0.f0).wf = true ∧ (∀ z1 ∈ x0.f1, (Lit.int .u64 z1).wf = true)) → x0.f1.length ≤ 9223372036854775807 → ((Lit.int .u64 x1.f0).wf = true ∧ (∀ z2 ∈ x1.f1, (Lit.int .u64 z2).wf = true)) → x1.f1.length ≤ 9223372036854775807 →  ∃ k, tallymanlaw17_SetopsAgain.f k x0.f0 x0.f1 x1.f0 x1.f1 = some true
end Go.Proofs.Ytpagondojdlknaa.H
namespace Go.Proofs.Ytpagondojdlknaa.Pure
open Go.RowKit Go.Proofs.Ytpagondojdlknaa.H Go.Proofs.YtpagondojdlknaaW.PrintWords Go.Proofs.YtpagondojdlknaaW.PrintLast
theorem SetopsAgain : tallymanlaw17_SetopsAgain.PureH := by
  intro x0 x1 h0 _ h1 _
  obtain ⟨a, ha, ha2⟩ := u64_nat h0.1
  obtain ⟨b, hb, hb2⟩ := u64_nat h1.1
  rw [ha, hb]
  exact (again_ev _ _ ha2 hb2).rounds
end Go.Proofs.Ytpagondojdlknaa.Pure
