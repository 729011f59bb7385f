/- For every input the law TableBack returns true and leaves its arguments as they read before; there are no conditions. (The row; made by a program of this session's out of the pure theorem and the walk.) -/
import Derived.Test.YtefnndodcpimiaaRows
import Derived.Test.YtefnndodcpimiaaMR
import Derived.Test.YtefnndodcpimiaaH3
import Derived.Test.YtefnndodcpimiaaQTableBack
import Derived.WalkKit
import Derived.ProofKit
import Derived.OpenShut
import Derived.ShutString
import Derived.ChangeOld
import Derived.Below
import Derived.SizedLaws
namespace Go.Proofs.Ytefnndodcpimiaa.tableBack
open Go.ChangeShapes Go.WideShapes Go.ChangeAt Go.RowKit Go.Proofs.YtefnndodcpimiaaW.PrintWords
open Go.ChangeMaps (open_string shut_string)
set_option linter.unusedVariables false
theorem own : ownKnob Try.prog.godebug = none := by kernel_rfl
theorem laidOut : laidOutB Try.prog = true := by kernel_rfl
theorem rd24 {H0 : Type} (enc : TypeId × Value → H0) : H.Rdr enc Try.prog 24 H.k24 (fun b => ((∀ z3 ∈ b.f0, (Lit.int .i64 z3).wf = true))) := H.Rdr.iso (H.Rdr.struct1 Try.underlying24 rfl (H.Rdr.slice Try.underlying22 (by kernel_rfl) (H.Rdr.int Try.underlying3 (by kernel_rfl))) (by kernel_rfl)) (fun x : H.S24 => x.f0) (fun a => (⟨a⟩ : H.S24)) (fun _ => rfl)
set_option maxRecDepth 100000 in
theorem lifted (os : Os) (started : os.Started) (H0 : Type) (enc : TypeId × Value → H0) :
    ReturnsInHanded {} Try.checked os 4 .any (Rows.tableBackSpec.pre6 enc Try.prog Try.f4 Rows.tableBackRow.domain false) (Rows.tableBackSpec.post enc Try.prog Try.f4 false true false false) := by
  refine returnsInHanded_of_change_sized (C := Try.checked) own started (by kernel_rfl) Try.func4
    (ChangeSpec.witness6 (enc := enc) (C := Try.checked) false ⟨#[], #[.agg #[.slice none 0 0], .slice none 0 0], []⟩ 8 (by kernel_rfl) (by kernel_rfl) (by kernel_rfl) (by kernel_rfl)) ?_
  intro W base args ds gs before hval0 hW hcnd hsz0 _
  have hval : ∀ (j : Nat) t v, Try.f4.params[j]? = some t → args[j]? = some v → Value.okWide Try.prog W .any base t v := hval0
  have hW' := hW
  obtain ⟨p, q, hA0, hV, rfl, hfz, hnd⟩ := hW
  have hA : DataW.TrodAll enc Try.prog W 0 (fun _ => true) true Try.f4.params.toList args.toList ds p := hA0
  rw [Try.params4] at hA hval
  obtain ⟨v0, vs0, d0, ds0, p0, q0, hargs, rfl, rfl, h0, r0⟩ := trodAll_cons hA
  obtain ⟨v1, vs1, d1, ds1, p1, q1, rfl, rfl, rfl, h1, r1⟩ := trodAll_cons r0
  obtain ⟨rfl, rfl, rfl⟩ := trodAll_nil r1
  obtain rfl : args = #[v0, v1] := by cases args; simp_all
  obtain ⟨rfl, rfl⟩ := trodVars_none hV
  have k0 := h0
  have lt0 : ∀ x ∈ p0, x.block < W.heap.size := by obtain ⟨m, hm⟩ := k0; exact DataW.trod_lt m _ _ _ hm
  obtain ⟨fuel0, hf0⟩ := h0
  obtain ⟨x0, hx0, ok0⟩ := (show H.Rdr enc Try.prog 24 H.k24 _ from (rd24 enc)).2 _ _ _ _ _ _ _ hf0
  obtain ⟨cs0, rfl⟩ := H.okWide_agg1 Try.underlying24 (hval 0 24 v0 rfl rfl)
  replace hx0 : H.k24.K W x0 cs0.toList := hx0
  obtain ⟨A0_0, c0_0, e0, hl0_0, hC0_0⟩ := H.k24_open hx0
  obtain rfl : cs0 = #[.slice A0_0 x0.f0.length c0_0] := by cases cs0; simp_all
  have k1 := h1
  have lt1 : ∀ x ∈ p1, x.block < W.heap.size := by obtain ⟨m, hm⟩ := k1; exact DataW.trod_lt m _ _ _ hm
  obtain ⟨fuel1, hf1⟩ := h1
  obtain ⟨x1, hx1, ok1⟩ := (show H.Rdr enc Try.prog 40 (Kd.slice 5 (Kd.int .u8)) _ from (H.Rdr.slice Try.underlying40 (by kernel_rfl) (H.Rdr.int Try.underlying5 (by kernel_rfl)))).2 _ _ _ _ _ _ _ hf1
  obtain ⟨a1, len1, cap1, rfl⟩ := okWide_slice Try.underlying40 (hval 1 40 v1 rfl rfl)
  obtain ⟨A1, c1, e1, hl1, hC1⟩ := hx1
  replace e1 : [Value.slice a1 len1 cap1] = [Value.slice A1 x1.length c1] := e1
  injection e1 with e1 _
  injection e1 with ea1 en1 ec1
  subst ea1 en1 ec1
  clear hA0 hval0 hsz0
  obtain ⟨k, hk⟩ := Pure.TableBack _ _ ok0 hC0_0.2.1 ok1 hC1.2.1
  refine (H.tallymanlaw10_TableBack.calls k _ _ x0.f0 _ _ x1 true W hC0_0 hl0_0 hC1 hl1 hk).mono fun e W' ⟨he, bel0⟩ => ?_
  have bel : Below W.heap.size W W' := bel0
  subst he
  exact ⟨_, rfl, _, _, _, [], _, [], hW', trodAll_mk1 (shut_bool Try.underlying4 _), (trodAll_cons_mk (Below.trod laidOut (by kernel_rfl) (of_decide_eq_true (by kernel_rfl)) k0 bel lt0) (trodAll_cons_mk (Below.trod laidOut (by kernel_rfl) (of_decide_eq_true (by kernel_rfl)) k1 bel lt1) trodAll_mk0)), rfl, bel.frame _, fun h => by cases h⟩
theorem over : Rows.tableBackRow.holds Try.pinned (OpenSpec.ofChange Rows.tableBackSpec) :=
  OpenClaim.holds_of_wide 4 Try.f4 rfl rfl rfl rfl rfl rfl rfl ⟨rfl, rfl, rfl, rfl, rfl⟩ rfl rfl rfl rfl rfl (by kernel_rfl) Try.func4 (by kernel_rfl)
    (of_decide_eq_true (by kernel_rfl)) (by unfold Func.isWrapper; first | (rw [if_pos (by decide +kernel)]; kernel_rfl) | (rw [if_neg (by decide +kernel)]; exact ⟨rfl, rfl⟩))
    (fun os started H0 enc _ => lifted os started H0 enc)
theorem proved : Rows.TableBackSaid := over
#print axioms proved
end Go.Proofs.Ytefnndodcpimiaa.tableBack
namespace Go.Proofs.Ytefnndodcpimiaa
/-- The row, under a short name, for the claim. -/
theorem tableBack_holds : Rows.TableBackSaid := tableBack.proved
end Go.Proofs.Ytefnndodcpimiaa
