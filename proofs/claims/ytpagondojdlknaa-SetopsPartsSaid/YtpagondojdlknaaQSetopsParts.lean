/- The pure statement of SetopsParts: what the Go law comes to, as a Lean function on numbers and lists, is true for every input. -/
import Derived.Test.YtpagondojdlknaaSB
namespace Go.Proofs.Ytpagondojdlknaa.H
open Go.RowKit Go.Proofs.YtpagondojdlknaaW.PrintWords Go.Proofs.YtpagondojdlknaaW.PrintLast
def tallymanlaw17_SetopsParts.PureH : Prop := ∀ (x0 : S25) (x1 : S25) (x2 : Int), ((Lit.int .u64 x0.f0).wf = true ∧ (∀ z1 ∈ x0.f1, (Lit.int .u64 z1).wf = true)) → x0.f1.length ≤ 9223372036854775807 → ((Lit.int .u64 x1.f0).wf = true ∧ (∀ z2 ∈ x1.f1, (Lit.int .u64 z2).wf = true)) → x1.f1.length ≤ 9223372036854775807 → (Lit.int .u64 x2).wf = true →  ∃ k, tallymanlaw17_SetopsParts.f k x0.f0 x0.f1 x1.f0 x1.f1 x2 = some true
end Go.Proofs.Ytpagondojdlknaa.H
namespace Go.Proofs.Ytpagondojdlknaa.Pure
open Go.RowKit Go.Proofs.Ytpagondojdlknaa.H Go.Proofs.YtpagondojdlknaaW.PrintWords Go.Proofs.YtpagondojdlknaaW.PrintLast
theorem SetopsParts : tallymanlaw17_SetopsParts.PureH := by
  intro x0 x1 x2 h0 _ h1 _ h2
  obtain ⟨a, ha, ha2⟩ := u64_nat h0.1
  obtain ⟨b, hb, hb2⟩ := u64_nat h1.1
  obtain ⟨c, hc, hc2⟩ := u64_nat h2
  rw [ha, hb, hc]
  exact parts_ex _ _ _ _ _
end Go.Proofs.Ytpagondojdlknaa.Pure
