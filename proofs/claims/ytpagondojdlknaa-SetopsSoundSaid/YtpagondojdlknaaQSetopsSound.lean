/- The pure statement of SetopsSound: what the Go law comes to, as a Lean function on numbers and lists, is true for every input. -/
import Derived.Test.YtpagondojdlknaaSF
namespace Go.Proofs.Ytpagondojdlknaa.H
open Go.RowKit Go.Proofs.YtpagondojdlknaaW.PrintWords Go.Proofs.YtpagondojdlknaaW.PrintLast
def tallymanlaw17_SetopsSound.PureH : Prop := ∀ (x0 : List Int) (x1 : List Int) (x2 : Int) (x3 : Int), (∀ z1 ∈ x0, (Lit.int .u64 z1).wf = true) → x0.length ≤ 9223372036854775807 → (∀ z2 ∈ x1, (Lit.int .u64 z2).wf = true) → x1.length ≤ 9223372036854775807 → (Lit.int .i64 x2).wf = true → (Lit.int .i64 x3).wf = true →  ∃ k, tallymanlaw17_SetopsSound.f k x0 x1 x2 x3 = some true
end Go.Proofs.Ytpagondojdlknaa.H
namespace Go.Proofs.Ytpagondojdlknaa.Pure
open Go.RowKit Go.Proofs.Ytpagondojdlknaa.H Go.Proofs.YtpagondojdlknaaW.PrintWords Go.Proofs.YtpagondojdlknaaW.PrintLast
theorem SetopsSound : tallymanlaw17_SetopsSound.PureH := by
  intro x0 x1 x2 x3 h0 _ h1 _ h2 h3
  have n0 : ∀ z ∈ x0, 0 ≤ z := fun z hz => by
    have h := h0 z hz
    simp [Lit.wf, IntKind.min, IntKind.max, IntKind.signed, IntKind.bits] at h
    omega
  have n1 : ∀ z ∈ x1, 0 ≤ z := fun z hz => by
    have h := h1 z hz
    simp [Lit.wf, IntKind.min, IntKind.max, IntKind.signed, IntKind.bits] at h
    omega
  simp [Lit.wf, IntKind.min, IntKind.max, IntKind.signed, IntKind.bits] at h2 h3
  exact sound_ev x0 x1 x2 x3 n0 n1 (by omega) (by omega)
end Go.Proofs.Ytpagondojdlknaa.Pure
