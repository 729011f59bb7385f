/- The pure statement of TableTells: what the Go law comes to, as a Lean function on numbers and lists, is true for every input. -/
import Derived.Test.YtefnndodcpimiaaS7
namespace Go.Proofs.Ytefnndodcpimiaa.H
open Go.RowKit Go.Proofs.YtefnndodcpimiaaW.PrintWords Go.Proofs.YtefnndodcpimiaaW.PrintLast
def tallymanlaw10_TableTells.PureH : Prop := ∀ (x0 : List S50), (∀ z1 ∈ x0, ((Lit.int .i64 z1.f0).wf = true ∧ (Lit.int .i64 z1.f1).wf = true ∧ (Lit.int .i64 z1.f2).wf = true)) → x0.length ≤ 9223372036854775807 →  ∃ k, tallymanlaw10_TableTells.f k x0 = some true
end Go.Proofs.Ytefnndodcpimiaa.H
namespace Go.Proofs.Ytefnndodcpimiaa.Pure
open Go.RowKit Go.Proofs.Ytefnndodcpimiaa.H Go.Proofs.YtefnndodcpimiaaW.PrintWords Go.Proofs.YtefnndodcpimiaaW.PrintLast
theorem TableTells : tallymanlaw10_TableTells.PureH := fun _ h _ => (table_tells_ok h).rounds
end Go.Proofs.Ytefnndodcpimiaa.Pure
