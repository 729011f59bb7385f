/- The pure statement of TableCalls: what the Go law comes to, as a Lean function on numbers and lists, is true for every input. -/
import Derived.Test.YtefnndodcpimiaaH8
import Derived.Test.YtefnndodcpimiaaS2
import Derived.OpenShut
namespace Go.Proofs.Ytefnndodcpimiaa.H
open Go.RowKit Go.Proofs.YtefnndodcpimiaaW.PrintWords Go.Proofs.YtefnndodcpimiaaW.PrintLast
def tallymanlaw10_TableCalls.PureH : Prop := ∀ (x0 : S24) (x1 : Int) (x2 : Int) (x3 : List Int), ((∀ z1 ∈ x0.f0, (Lit.int .i64 z1).wf = true)) → x0.f0.length ≤ 9223372036854775807 → (Lit.int .i64 x1).wf = true → (Lit.int .i64 x2).wf = true → (∀ z2 ∈ x3, (Lit.int .u8 z2).wf = true) → x3.length ≤ 9223372036854775807 →  ∃ k, tallymanlaw10_TableCalls.f k x0.f0 x1 x2 x3 = some true
end Go.Proofs.Ytefnndodcpimiaa.H
namespace Go.Proofs.Ytefnndodcpimiaa.Pure
open Go.RowKit Go.Proofs.Ytefnndodcpimiaa.H Go.Proofs.YtefnndodcpimiaaW.PrintWords Go.Proofs.YtefnndodcpimiaaW.PrintLast
theorem all_i64c {l : List Int} (h : ∀ x ∈ l, (Lit.int .i64 x).wf = true) : l.all inI64 = true := by
  rw [List.all_eq_true]
  intro x hx
  have := Go.bounds_i64 (h x hx)
  unfold inI64
  simp
  omega
theorem all_byte {l : List Int} (h : ∀ x ∈ l, (Lit.int .u8 x).wf = true) : l.all isByte = true := by
  rw [List.all_eq_true]
  intro x hx
  have h1 := h x hx
  simp [Lit.wf, IntKind.min, IntKind.max, IntKind.signed, IntKind.bits] at h1
  unfold isByte
  simp
  omega
theorem TableCalls : tallymanlaw10_TableCalls.PureH := fun _ x1 x2 _ h1 _ _ _ h4 _ => (table_calls_ok (all_i64c h1) x1 x2 (all_byte h4)).rounds
end Go.Proofs.Ytefnndodcpimiaa.Pure
