/- For every input the law TableTells returns true and leaves its arguments as they read before; there are no conditions. (The row; made by a program of this session's out of the pure theorem and the walk.) -/
import Derived.Test.YtefnndodcpimiaaRows
import Derived.Test.YtefnndodcpimiaaMR
import Derived.Test.YtefnndodcpimiaaHX
import Derived.Test.YtefnndodcpimiaaQTableTells
import Derived.WalkKit
import Derived.ProofKit
import Derived.OpenShut
import Derived.ShutString
import Derived.ChangeOld
import Derived.Below
import Derived.SizedLaws
namespace Go.Proofs.Ytefnndodcpimiaa.tableTells
open Go.ChangeShapes Go.WideShapes Go.ChangeAt Go.RowKit Go.Proofs.YtefnndodcpimiaaW.PrintWords
open Go.ChangeMaps (open_string shut_string)
set_option linter.unusedVariables false
theorem own : ownKnob Try.prog.godebug = none := by kernel_rfl
theorem laidOut : laidOutB Try.prog = true := by kernel_rfl
theorem rd50 {H0 : Type} (enc : TypeId × Value → H0) : H.Rdr enc Try.prog 50 H.k50 (fun b => ((Lit.int .i64 b.f0).wf = true ∧ (Lit.int .i64 b.f1).wf = true ∧ (Lit.int .i64 b.f2).wf = true)) := H.Rdr.iso (H.Rdr.struct3 Try.underlying50 rfl rfl rfl (H.Rdr.int Try.underlying3 (by kernel_rfl)) (H.Rdr.int Try.underlying3 (by kernel_rfl)) (H.Rdr.int Try.underlying3 (by kernel_rfl)) (by kernel_rfl)) (fun x : H.S50 => (x.f0, x.f1, x.f2)) (fun a => (⟨a.1, a.2.1, a.2.2⟩ : H.S50)) (fun _ => rfl)
set_option maxRecDepth 100000 in
theorem lifted (os : Os) (started : os.Started) (H0 : Type) (enc : TypeId × Value → H0) :
    ReturnsInHanded {} Try.checked os 7 .any (Rows.tableTellsSpec.pre6 enc Try.prog Try.f7 Rows.tableTellsRow.domain false) (Rows.tableTellsSpec.post enc Try.prog Try.f7 false true false false) := by
  refine returnsInHanded_of_change_sized (C := Try.checked) own started (by kernel_rfl) Try.func7
    (ChangeSpec.witness6 (enc := enc) (C := Try.checked) false ⟨#[], #[.slice none 0 0], []⟩ 8 (by kernel_rfl) (by kernel_rfl) (by kernel_rfl) (by kernel_rfl)) ?_
  intro W base args ds gs before hval0 hW hcnd hsz0 _
  have hval : ∀ (j : Nat) t v, Try.f7.params[j]? = some t → args[j]? = some v → Value.okWide Try.prog W .any base t v := hval0
  have hW' := hW
  obtain ⟨p, q, hA0, hV, rfl, hfz, hnd⟩ := hW
  have hA : DataW.TrodAll enc Try.prog W 0 (fun _ => true) true Try.f7.params.toList args.toList ds p := hA0
  rw [Try.params7] at hA hval
  obtain ⟨v0, vs0, d0, ds0, p0, q0, hargs, rfl, rfl, h0, r0⟩ := trodAll_cons hA
  obtain ⟨rfl, rfl, rfl⟩ := trodAll_nil r0
  obtain rfl : args = #[v0] := by cases args; simp_all
  obtain ⟨rfl, rfl⟩ := trodVars_none hV
  have k0 := h0
  have lt0 : ∀ x ∈ p0, x.block < W.heap.size := by obtain ⟨m, hm⟩ := k0; exact DataW.trod_lt m _ _ _ hm
  obtain ⟨fuel0, hf0⟩ := h0
  obtain ⟨x0, hx0, ok0⟩ := (show H.Rdr enc Try.prog 47 (Kd.slice 50 H.k50) _ from (H.Rdr.slice Try.underlying47 (by kernel_rfl) (rd50 enc))).2 _ _ _ _ _ _ _ hf0
  obtain ⟨a0, len0, cap0, rfl⟩ := okWide_slice Try.underlying47 (hval 0 47 v0 rfl rfl)
  obtain ⟨A0, c0, e0, hl0, hC0⟩ := hx0
  replace e0 : [Value.slice a0 len0 cap0] = [Value.slice A0 x0.length c0] := e0
  injection e0 with e0 _
  injection e0 with ea0 en0 ec0
  subst ea0 en0 ec0
  clear hA0 hval0 hsz0
  obtain ⟨k, hk⟩ := Pure.TableTells _ ok0 hC0.2.1
  refine (H.tallymanlaw10_TableTells.calls k _ _ x0 true W hC0 hl0 hk).mono fun e W' ⟨he, bel0⟩ => ?_
  have bel : Below W.heap.size W W' := bel0
  subst he
  exact ⟨_, rfl, _, _, _, [], _, [], hW', trodAll_mk1 (shut_bool Try.underlying4 _), (trodAll_cons_mk (Below.trod laidOut (by kernel_rfl) (of_decide_eq_true (by kernel_rfl)) k0 bel lt0) trodAll_mk0), rfl, bel.frame _, fun h => by cases h⟩
theorem over : Rows.tableTellsRow.holds Try.pinned (OpenSpec.ofChange Rows.tableTellsSpec) :=
  OpenClaim.holds_of_wide 7 Try.f7 rfl rfl rfl rfl rfl rfl rfl ⟨rfl, rfl, rfl, rfl, rfl⟩ rfl rfl rfl rfl rfl (by kernel_rfl) Try.func7 (by kernel_rfl)
    (of_decide_eq_true (by kernel_rfl)) (by unfold Func.isWrapper; first | (rw [if_pos (by decide +kernel)]; kernel_rfl) | (rw [if_neg (by decide +kernel)]; exact ⟨rfl, rfl⟩))
    (fun os started H0 enc _ => lifted os started H0 enc)
theorem proved : Rows.TableTellsSaid := over
#print axioms proved
end Go.Proofs.Ytefnndodcpimiaa.tableTells
namespace Go.Proofs.Ytefnndodcpimiaa
/-- The row, under a short name, for the claim. -/
theorem tableTells_holds : Rows.TableTellsSaid := tableTells.proved
end Go.Proofs.Ytefnndodcpimiaa
