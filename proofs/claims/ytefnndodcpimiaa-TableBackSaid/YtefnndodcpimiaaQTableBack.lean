/- The pure statement of TableBack: what the Go law comes to, as a Lean function on numbers and lists, is true for every input. -/
import Derived.Test.YtefnndodcpimiaaH3
import Derived.Test.YtefnndodcpimiaaS4
import Derived.OpenShut
namespace Go.Proofs.Ytefnndodcpimiaa.H
open Go.RowKit Go.Proofs.YtefnndodcpimiaaW.PrintWords Go.Proofs.YtefnndodcpimiaaW.PrintLast
def tallymanlaw10_TableBack.PureH : Prop := ∀ (x0 : S24) (x1 : List Int), ((∀ z1 ∈ x0.f0, (Lit.int .i64 z1).wf = true)) → x0.f0.length ≤ 9223372036854775807 → (∀ z2 ∈ x1, (Lit.int .u8 z2).wf = true) → x1.length ≤ 9223372036854775807 →  ∃ k, tallymanlaw10_TableBack.f k x0.f0 x1 = some true
end Go.Proofs.Ytefnndodcpimiaa.H
namespace Go.Proofs.Ytefnndodcpimiaa.Pure
open Go.RowKit Go.Proofs.Ytefnndodcpimiaa.H Go.Proofs.YtefnndodcpimiaaW.PrintWords Go.Proofs.YtefnndodcpimiaaW.PrintLast
theorem all_i64c {l : List Int} (h : ∀ x ∈ l, (Lit.int .i64 x).wf = true) : l.all inI64 = true := by
  rw [List.all_eq_true]
  intro x hx
  have := Go.bounds_i64 (h x hx)
  unfold inI64
  simp
  omega
theorem all_byte {l : List Int} (h : ∀ x ∈ l, (Lit.int .u8 x).wf = true) : l.all isByte = true := by
  rw [List.all_eq_true]
  intro x hx
  have h1 := h x hx
  simp [Lit.wf, IntKind.min, IntKind.max, IntKind.signed, IntKind.bits] at h1
  unfold isByte
  simp
  omega
theorem TableBack : tallymanlaw10_TableBack.PureH := fun _ _ h1 _ h2 _ => (table_back_ok (all_i64c h1) (all_byte h2)).rounds
end Go.Proofs.Ytefnndodcpimiaa.Pure
