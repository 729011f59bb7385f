/- For every input the law TablePages returns true and leaves its arguments as they read before; there are no conditions. (The row; made by a program of this session's out of the pure theorem and the walk.) -/
import Derived.Test.YtefnndodcpimiaaRows
import Derived.Test.YtefnndodcpimiaaMR
import Derived.Test.YtefnndodcpimiaaH4
import Derived.Test.YtefnndodcpimiaaQTablePages
import Derived.WalkKit
import Derived.ProofKit
import Derived.OpenShut
import Derived.ShutString
import Derived.ChangeOld
import Derived.Below
import Derived.SizedLaws
namespace Go.Proofs.Ytefnndodcpimiaa.tablePages
open Go.ChangeShapes Go.WideShapes Go.ChangeAt Go.RowKit Go.Proofs.YtefnndodcpimiaaW.PrintWords
open Go.ChangeMaps (open_string shut_string)
set_option linter.unusedVariables false
theorem own : ownKnob Try.prog.godebug = none := by kernel_rfl
theorem laidOut : laidOutB Try.prog = true := by kernel_rfl
theorem rd24 {H0 : Type} (enc : TypeId × Value → H0) : H.Rdr enc Try.prog 24 H.k24 (fun b => ((∀ z2 ∈ b.f0, (Lit.int .i64 z2).wf = true))) := H.Rdr.iso (H.Rdr.struct1 Try.underlying24 rfl (H.Rdr.slice Try.underlying22 (by kernel_rfl) (H.Rdr.int Try.underlying3 (by kernel_rfl))) (by kernel_rfl)) (fun x : H.S24 => x.f0) (fun a => (⟨a⟩ : H.S24)) (fun _ => rfl)
set_option maxRecDepth 100000 in
theorem lifted (os : Os) (started : os.Started) (H0 : Type) (enc : TypeId × Value → H0) :
    ReturnsInHanded {} Try.checked os 3 .any (Rows.tablePagesSpec.pre6 enc Try.prog Try.f3 Rows.tablePagesRow.domain false) (Rows.tablePagesSpec.post enc Try.prog Try.f3 false true false false) := by
  refine returnsInHanded_of_change_sized (C := Try.checked) own started (by kernel_rfl) Try.func3
    (ChangeSpec.witness6 (enc := enc) (C := Try.checked) false ⟨#[], #[.agg #[.slice none 0 0], .int .i64 0], []⟩ 8 (by kernel_rfl) (by kernel_rfl) (by kernel_rfl) (by kernel_rfl)) ?_
  intro W base args ds gs before hval0 hW hcnd hsz0 _
  have hval : ∀ (j : Nat) t v, Try.f3.params[j]? = some t → args[j]? = some v → Value.okWide Try.prog W .any base t v := hval0
  have hW' := hW
  obtain ⟨p, q, hA0, hV, rfl, hfz, hnd⟩ := hW
  have hA : DataW.TrodAll enc Try.prog W 0 (fun _ => true) true Try.f3.params.toList args.toList ds p := hA0
  rw [Try.params3] at hA hval
  obtain ⟨v0, vs0, d0, ds0, p0, q0, hargs, rfl, rfl, h0, r0⟩ := trodAll_cons hA
  obtain ⟨v1, vs1, d1, ds1, p1, q1, rfl, rfl, rfl, h1, r1⟩ := trodAll_cons r0
  obtain ⟨rfl, rfl, rfl⟩ := trodAll_nil r1
  obtain rfl : args = #[v0, v1] := by cases args; simp_all
  obtain ⟨rfl, rfl⟩ := trodVars_none hV
  have k0 := h0
  have lt0 : ∀ x ∈ p0, x.block < W.heap.size := by obtain ⟨m, hm⟩ := k0; exact DataW.trod_lt m _ _ _ hm
  obtain ⟨fuel0, hf0⟩ := h0
  obtain ⟨x0, hx0, ok0⟩ := (show H.Rdr enc Try.prog 24 H.k24 _ from (rd24 enc)).2 _ _ _ _ _ _ _ hf0
  obtain ⟨cs0, rfl⟩ := H.okWide_agg1 Try.underlying24 (hval 0 24 v0 rfl rfl)
  replace hx0 : H.k24.K W x0 cs0.toList := hx0
  obtain ⟨A0_0, c0_0, e0, hl0_0, hC0_0⟩ := H.k24_open hx0
  obtain rfl : cs0 = #[.slice A0_0 x0.f0.length c0_0] := by cases cs0; simp_all
  have k1 := h1
  have lt1 : ∀ x ∈ p1, x.block < W.heap.size := by obtain ⟨m, hm⟩ := k1; exact DataW.trod_lt m _ _ _ hm
  obtain ⟨fuel1, hf1⟩ := h1
  obtain ⟨x1, hx1, ok1⟩ := (show H.Rdr enc Try.prog 3 (Kd.int .i64) _ from (H.Rdr.int Try.underlying3 (by kernel_rfl))).2 _ _ _ _ _ _ _ hf1
  obtain ⟨a1, rfl, _, _, _⟩ := open_int Try.underlying3 (hval 1 3 v1 rfl rfl) k1
  obtain rfl : a1 = x1 := by have e_ : [Value.int .i64 a1] = [Value.int .i64 x1] := hx1; injection e_ with e_ _; injection e_
  clear hA0 hval0 hsz0
  obtain ⟨k, hk⟩ := Pure.TablePages _ _ ok0 hC0_0.2.1 ok1
  refine (H.tallymanlaw10_TablePages.calls k _ _ x0.f0 a1 true W hC0_0 hl0_0 hk).mono fun e W' ⟨he, bel0⟩ => ?_
  have bel : Below W.heap.size W W' := bel0
  subst he
  exact ⟨_, rfl, _, _, _, [], _, [], hW', trodAll_mk1 (shut_bool Try.underlying4 _), (trodAll_cons_mk (Below.trod laidOut (by kernel_rfl) (of_decide_eq_true (by kernel_rfl)) k0 bel lt0) (trodAll_cons_mk (Below.trod laidOut (by kernel_rfl) (of_decide_eq_true (by kernel_rfl)) k1 bel lt1) trodAll_mk0)), rfl, bel.frame _, fun h => by cases h⟩
theorem over : Rows.tablePagesRow.holds Try.pinned (OpenSpec.ofChange Rows.tablePagesSpec) :=
  OpenClaim.holds_of_wide 3 Try.f3 rfl rfl rfl rfl rfl rfl rfl ⟨rfl, rfl, rfl, rfl, rfl⟩ rfl rfl rfl rfl rfl (by kernel_rfl) Try.func3 (by kernel_rfl)
    (of_decide_eq_true (by kernel_rfl)) (by unfold Func.isWrapper; first | (rw [if_pos (by decide +kernel)]; kernel_rfl) | (rw [if_neg (by decide +kernel)]; exact ⟨rfl, rfl⟩))
    (fun os started H0 enc _ => lifted os started H0 enc)
theorem proved : Rows.TablePagesSaid := over
#print axioms proved
end Go.Proofs.Ytefnndodcpimiaa.tablePages
namespace Go.Proofs.Ytefnndodcpimiaa
/-- The row, under a short name, for the claim. -/
theorem tablePages_holds : Rows.TablePagesSaid := tablePages.proved
end Go.Proofs.Ytefnndodcpimiaa
