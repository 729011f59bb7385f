/- For every input the law DenseCalls returns true and leaves its arguments as they read before; there are no conditions. (The row; made by a program of this session's out of the pure theorem and the walk.) -/
import Derived.Test.YtbclnjinpcfpjaaRows
import Derived.Test.YtbclnjinpcfpjaaMR
import Derived.Test.YtbclnjinpcfpjaaHG
import Derived.Test.YtbclnjinpcfpjaaSK
import Derived.Test.YtbclnjinpcfpjaaQDenseCalls
import Derived.WalkKit
import Derived.ProofKit
import Derived.OpenShut
import Derived.ShutString
import Derived.ChangeOld
import Derived.Below
import Derived.SizedLaws
namespace Go.Proofs.Ytbclnjinpcfpjaa.denseCalls
open Go.ChangeShapes Go.WideShapes Go.ChangeAt Go.RowKit Go.Proofs.YtbclnjinpcfpjaaW.PrintWords
open Go.ChangeMaps (open_string shut_string)
set_option linter.unusedVariables false
theorem own : ownKnob Try.prog.godebug = none := by kernel_rfl
theorem laidOut : laidOutB Try.prog = true := by kernel_rfl
theorem rd32 {H0 : Type} (enc : TypeId × Value → H0) : H.Rdr enc Try.prog 32 H.k32 (fun b => ((Lit.int .i64 b.f0).wf = true ∧ (Lit.int .i64 b.f1).wf = true)) := H.Rdr.iso (H.Rdr.struct2 Try.underlying32 rfl rfl (H.Rdr.int Try.underlying3 (by kernel_rfl)) (H.Rdr.int Try.underlying3 (by kernel_rfl)) (by kernel_rfl)) (fun x : H.S32 => (x.f0, x.f1)) (fun a => (⟨a.1, a.2⟩ : H.S32)) (fun _ => rfl)
theorem rd30 {H0 : Type} (enc : TypeId × Value → H0) : H.Rdr enc Try.prog 30 H.k30 (fun b => ((Lit.int .i64 b.f0).wf = true ∧ (∀ z4 ∈ b.f1, ((Lit.int .i64 z4.f0).wf = true ∧ (Lit.int .i64 z4.f1).wf = true)))) := H.Rdr.iso (H.Rdr.struct2 Try.underlying30 rfl rfl (H.Rdr.int Try.underlying3 (by kernel_rfl)) (H.Rdr.slice Try.underlying28 (by kernel_rfl) (rd32 enc)) (by kernel_rfl)) (fun x : H.S30 => (x.f0, x.f1)) (fun a => (⟨a.1, a.2⟩ : H.S30)) (fun _ => rfl)
set_option maxRecDepth 100000 in
theorem lifted (os : Os) (started : os.Started) (H0 : Type) (enc : TypeId × Value → H0) :
    ReturnsInHanded {} Try.checked os 14 .any (Rows.denseCallsSpec.pre6 enc Try.prog Try.f14 Rows.denseCallsRow.domain false) (Rows.denseCallsSpec.post enc Try.prog Try.f14 false true false false) := by
  refine returnsInHanded_of_change_sized (C := Try.checked) own started (by kernel_rfl) Try.func14
    (ChangeSpec.witness6 (enc := enc) (C := Try.checked) false ⟨#[], #[.agg #[.int .i64 0, .slice none 0 0], .slice none 0 0, .slice none 0 0, .int .u64 0], []⟩ 8 (by kernel_rfl) (by kernel_rfl) (by kernel_rfl) (by kernel_rfl)) ?_
  intro W base args ds gs before hval0 hW hcnd hsz0 _
  have hval : ∀ (j : Nat) t v, Try.f14.params[j]? = some t → args[j]? = some v → Value.okWide Try.prog W .any base t v := hval0
  have hW' := hW
  obtain ⟨p, q, hA0, hV, rfl, hfz, hnd⟩ := hW
  have hA : DataW.TrodAll enc Try.prog W 0 (fun _ => true) true Try.f14.params.toList args.toList ds p := hA0
  rw [Try.params14] at hA hval
  obtain ⟨v0, vs0, d0, ds0, p0, q0, hargs, rfl, rfl, h0, r0⟩ := trodAll_cons hA
  obtain ⟨v1, vs1, d1, ds1, p1, q1, rfl, rfl, rfl, h1, r1⟩ := trodAll_cons r0
  obtain ⟨v2, vs2, d2, ds2, p2, q2, rfl, rfl, rfl, h2, r2⟩ := trodAll_cons r1
  obtain ⟨v3, vs3, d3, ds3, p3, q3, rfl, rfl, rfl, h3, r3⟩ := trodAll_cons r2
  obtain ⟨rfl, rfl, rfl⟩ := trodAll_nil r3
  obtain rfl : args = #[v0, v1, v2, v3] := by cases args; simp_all
  obtain ⟨rfl, rfl⟩ := trodVars_none hV
  have k0 := h0
  have lt0 : ∀ x ∈ p0, x.block < W.heap.size := by obtain ⟨m, hm⟩ := k0; exact DataW.trod_lt m _ _ _ hm
  obtain ⟨fuel0, hf0⟩ := h0
  obtain ⟨x0, hx0, ok0⟩ := (show H.Rdr enc Try.prog 30 H.k30 _ from (rd30 enc)).2 _ _ _ _ _ _ _ hf0
  obtain ⟨cs0, rfl⟩ := H.okWide_agg1 Try.underlying30 (hval 0 30 v0 rfl rfl)
  replace hx0 : H.k30.K W x0 cs0.toList := hx0
  obtain ⟨A0_1, c0_1, e0, hl0_1, hC0_1⟩ := H.k30_open hx0
  obtain rfl : cs0 = #[.int .i64 x0.f0, .slice A0_1 x0.f1.length c0_1] := by cases cs0; simp_all
  have k1 := h1
  have lt1 : ∀ x ∈ p1, x.block < W.heap.size := by obtain ⟨m, hm⟩ := k1; exact DataW.trod_lt m _ _ _ hm
  obtain ⟨fuel1, hf1⟩ := h1
  obtain ⟨x1, hx1, ok1⟩ := (show H.Rdr enc Try.prog 33 (Kd.slice 5 (Kd.int .u8)) _ from (H.Rdr.slice Try.underlying33 (by kernel_rfl) (H.Rdr.int Try.underlying5 (by kernel_rfl)))).2 _ _ _ _ _ _ _ hf1
  obtain ⟨a1, len1, cap1, rfl⟩ := okWide_slice Try.underlying33 (hval 1 33 v1 rfl rfl)
  obtain ⟨A1, c1, e1, hl1, hC1⟩ := hx1
  replace e1 : [Value.slice a1 len1 cap1] = [Value.slice A1 x1.length c1] := e1
  injection e1 with e1 _
  injection e1 with ea1 en1 ec1
  subst ea1 en1 ec1
  have k2 := h2
  have lt2 : ∀ x ∈ p2, x.block < W.heap.size := by obtain ⟨m, hm⟩ := k2; exact DataW.trod_lt m _ _ _ hm
  obtain ⟨fuel2, hf2⟩ := h2
  obtain ⟨x2, hx2, ok2⟩ := (show H.Rdr enc Try.prog 58 (Kd.slice 3 (Kd.int .i64)) _ from (H.Rdr.slice Try.underlying58 (by kernel_rfl) (H.Rdr.int Try.underlying3 (by kernel_rfl)))).2 _ _ _ _ _ _ _ hf2
  obtain ⟨a2, len2, cap2, rfl⟩ := okWide_slice Try.underlying58 (hval 2 58 v2 rfl rfl)
  obtain ⟨A2, c2, e2, hl2, hC2⟩ := hx2
  replace e2 : [Value.slice a2 len2 cap2] = [Value.slice A2 x2.length c2] := e2
  injection e2 with e2 _
  injection e2 with ea2 en2 ec2
  subst ea2 en2 ec2
  have k3 := h3
  have lt3 : ∀ x ∈ p3, x.block < W.heap.size := by obtain ⟨m, hm⟩ := k3; exact DataW.trod_lt m _ _ _ hm
  obtain ⟨fuel3, hf3⟩ := h3
  obtain ⟨x3, hx3, ok3⟩ := (show H.Rdr enc Try.prog 22 (Kd.int .u64) _ from (H.Rdr.int Try.underlying22 (by kernel_rfl))).2 _ _ _ _ _ _ _ hf3
  obtain ⟨a3, rfl, _, _, _⟩ := open_int Try.underlying22 (hval 3 22 v3 rfl rfl) k3
  obtain rfl : a3 = x3 := by have e_ : [Value.int .u64 a3] = [Value.int .u64 x3] := hx3; injection e_ with e_ _; injection e_
  clear hA0 hval0 hsz0
  obtain ⟨k, hk⟩ := Pure.DenseCalls _ _ _ _ ok0 hC0_1.2.1 ok1 hC1.2.1 ok2 hC2.2.1 ok3
  refine (H.tallymanlaw15_DenseCalls.calls k x0.f0 _ _ x0.f1 _ _ x1 _ _ x2 a3 true W hC0_1 hl0_1 hC1 hl1 hC2 hl2 hk).mono fun e W' ⟨he, bel0⟩ => ?_
  have bel : Below W.heap.size W W' := bel0
  subst he
  exact ⟨_, rfl, _, _, _, [], _, [], hW', trodAll_mk1 (shut_bool Try.underlying4 _), (trodAll_cons_mk (Below.trod laidOut (by kernel_rfl) (of_decide_eq_true (by kernel_rfl)) k0 bel lt0) (trodAll_cons_mk (Below.trod laidOut (by kernel_rfl) (of_decide_eq_true (by kernel_rfl)) k1 bel lt1) (trodAll_cons_mk (Below.trod laidOut (by kernel_rfl) (of_decide_eq_true (by kernel_rfl)) k2 bel lt2) (trodAll_cons_mk (Below.trod laidOut (by kernel_rfl) (of_decide_eq_true (by kernel_rfl)) k3 bel lt3) trodAll_mk0)))), rfl, bel.frame _, fun h => by cases h⟩
theorem over : Rows.denseCallsRow.holds Try.pinned (OpenSpec.ofChange Rows.denseCallsSpec) :=
  OpenClaim.holds_of_wide 14 Try.f14 rfl rfl rfl rfl rfl rfl rfl ⟨rfl, rfl, rfl, rfl, rfl⟩ rfl rfl rfl rfl rfl (by kernel_rfl) Try.func14 (by kernel_rfl)
    (of_decide_eq_true (by kernel_rfl)) (by unfold Func.isWrapper; first | (rw [if_pos (by decide +kernel)]; kernel_rfl) | (rw [if_neg (by decide +kernel)]; exact ⟨rfl, rfl⟩))
    (fun os started H0 enc _ => lifted os started H0 enc)
theorem proved : Rows.DenseCallsSaid := over
#print axioms proved
end Go.Proofs.Ytbclnjinpcfpjaa.denseCalls
namespace Go.Proofs.Ytbclnjinpcfpjaa
/-- The row, under a short name, for the claim. -/
theorem denseCalls_holds : Rows.DenseCallsSaid := denseCalls.proved
end Go.Proofs.Ytbclnjinpcfpjaa
