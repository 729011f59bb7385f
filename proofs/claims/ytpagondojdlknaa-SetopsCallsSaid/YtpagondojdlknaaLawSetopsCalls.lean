/- For every input the law SetopsCalls returns true and leaves its arguments as they read before; there are no conditions. (The row; made by a program of this session's out of the pure theorem and the walk.) -/
import Derived.Test.YtpagondojdlknaaRows
import Derived.Test.YtpagondojdlknaaMR
import Derived.Test.YtpagondojdlknaaHS
import Derived.Test.YtpagondojdlknaaQSetopsCalls
import Derived.WalkKit
import Derived.ProofKit
import Derived.OpenShut
import Derived.ShutString
import Derived.ChangeOld
import Derived.Below
import Derived.SizedLaws
namespace Go.Proofs.Ytpagondojdlknaa.setopsCalls
open Go.ChangeShapes Go.WideShapes Go.ChangeAt Go.RowKit Go.Proofs.YtpagondojdlknaaW.PrintWords
open Go.ChangeMaps (open_string shut_string)
set_option linter.unusedVariables false
theorem own : ownKnob Try.prog.godebug = none := by kernel_rfl
theorem laidOut : laidOutB Try.prog = true := by kernel_rfl
theorem rd25 {H0 : Type} (enc : TypeId × Value → H0) : H.Rdr enc Try.prog 25 H.k25 (fun b => ((Lit.int .u64 b.f0).wf = true ∧ (∀ z4 ∈ b.f1, (Lit.int .u64 z4).wf = true))) := H.Rdr.iso (H.Rdr.struct2 Try.underlying25 rfl rfl (H.Rdr.int Try.underlying22 (by kernel_rfl)) (H.Rdr.slice Try.underlying23 (by kernel_rfl) (H.Rdr.int Try.underlying22 (by kernel_rfl))) (by kernel_rfl)) (fun x : H.S25 => (x.f0, x.f1)) (fun a => (⟨a.1, a.2⟩ : H.S25)) (fun _ => rfl)
theorem rd34 {H0 : Type} (enc : TypeId × Value → H0) : H.Rdr enc Try.prog 34 H.k34 (fun b => ((Lit.int .i64 b.f0).wf = true ∧ (∀ z5 ∈ b.f1, (Lit.int .u64 z5).wf = true) ∧ (Lit.int .u64 b.f2).wf = true)) := H.Rdr.iso (H.Rdr.struct3 Try.underlying34 rfl rfl rfl (H.Rdr.int Try.underlying3 (by kernel_rfl)) (H.Rdr.slice Try.underlying23 (by kernel_rfl) (H.Rdr.int Try.underlying22 (by kernel_rfl))) (H.Rdr.int Try.underlying22 (by kernel_rfl)) (by kernel_rfl)) (fun x : H.S34 => (x.f0, x.f1, x.f2)) (fun a => (⟨a.1, a.2.1, a.2.2⟩ : H.S34)) (fun _ => rfl)
set_option maxRecDepth 100000 in
theorem lifted (os : Os) (started : os.Started) (H0 : Type) (enc : TypeId × Value → H0) :
    ReturnsInHanded {} Try.checked os 7 .any (Rows.setopsCallsSpec.pre6 enc Try.prog Try.f7 Rows.setopsCallsRow.domain false) (Rows.setopsCallsSpec.post enc Try.prog Try.f7 false true false false) := by
  refine returnsInHanded_of_change_sized (C := Try.checked) own started (by kernel_rfl) Try.func7
    (ChangeSpec.witness6 (enc := enc) (C := Try.checked) false ⟨#[], #[.agg #[.int .u64 0, .slice none 0 0], .agg #[.int .u64 0, .slice none 0 0], .agg #[.int .i64 0, .slice none 0 0, .int .u64 0], .int .u64 0], []⟩ 8 (by kernel_rfl) (by kernel_rfl) (by kernel_rfl) (by kernel_rfl)) ?_
  intro W base args ds gs before hval0 hW hcnd hsz0 _
  have hval : ∀ (j : Nat) t v, Try.f7.params[j]? = some t → args[j]? = some v → Value.okWide Try.prog W .any base t v := hval0
  have hW' := hW
  obtain ⟨p, q, hA0, hV, rfl, hfz, hnd⟩ := hW
  have hA : DataW.TrodAll enc Try.prog W 0 (fun _ => true) true Try.f7.params.toList args.toList ds p := hA0
  rw [Try.params7] at hA hval
  obtain ⟨v0, vs0, d0, ds0, p0, q0, hargs, rfl, rfl, h0, r0⟩ := trodAll_cons hA
  obtain ⟨v1, vs1, d1, ds1, p1, q1, rfl, rfl, rfl, h1, r1⟩ := trodAll_cons r0
  obtain ⟨v2, vs2, d2, ds2, p2, q2, rfl, rfl, rfl, h2, r2⟩ := trodAll_cons r1
  obtain ⟨v3, vs3, d3, ds3, p3, q3, rfl, rfl, rfl, h3, r3⟩ := trodAll_cons r2
  obtain ⟨rfl, rfl, rfl⟩ := trodAll_nil r3
  obtain rfl : args = #[v0, v1, v2, v3] := by cases args; simp_all
  obtain ⟨rfl, rfl⟩ := trodVars_none hV
  have k0 := h0
  have lt0 : ∀ x ∈ p0, x.block < W.heap.size := by obtain ⟨m, hm⟩ := k0; exact DataW.trod_lt m _ _ _ hm
  obtain ⟨fuel0, hf0⟩ := h0
  obtain ⟨x0, hx0, ok0⟩ := (show H.Rdr enc Try.prog 25 H.k25 _ from (rd25 enc)).2 _ _ _ _ _ _ _ hf0
  obtain ⟨cs0, rfl⟩ := H.okWide_agg1 Try.underlying25 (hval 0 25 v0 rfl rfl)
  replace hx0 : H.k25.K W x0 cs0.toList := hx0
  obtain ⟨A0_1, c0_1, e0, hl0_1, hC0_1⟩ := H.k25_open hx0
  obtain rfl : cs0 = #[.int .u64 x0.f0, .slice A0_1 x0.f1.length c0_1] := by cases cs0; simp_all
  have k1 := h1
  have lt1 : ∀ x ∈ p1, x.block < W.heap.size := by obtain ⟨m, hm⟩ := k1; exact DataW.trod_lt m _ _ _ hm
  obtain ⟨fuel1, hf1⟩ := h1
  obtain ⟨x1, hx1, ok1⟩ := (show H.Rdr enc Try.prog 25 H.k25 _ from (rd25 enc)).2 _ _ _ _ _ _ _ hf1
  obtain ⟨cs1, rfl⟩ := H.okWide_agg1 Try.underlying25 (hval 1 25 v1 rfl rfl)
  replace hx1 : H.k25.K W x1 cs1.toList := hx1
  obtain ⟨A1_1, c1_1, e1, hl1_1, hC1_1⟩ := H.k25_open hx1
  obtain rfl : cs1 = #[.int .u64 x1.f0, .slice A1_1 x1.f1.length c1_1] := by cases cs1; simp_all
  have k2 := h2
  have lt2 : ∀ x ∈ p2, x.block < W.heap.size := by obtain ⟨m, hm⟩ := k2; exact DataW.trod_lt m _ _ _ hm
  obtain ⟨fuel2, hf2⟩ := h2
  obtain ⟨x2, hx2, ok2⟩ := (show H.Rdr enc Try.prog 34 H.k34 _ from (rd34 enc)).2 _ _ _ _ _ _ _ hf2
  obtain ⟨cs2, rfl⟩ := H.okWide_agg1 Try.underlying34 (hval 2 34 v2 rfl rfl)
  replace hx2 : H.k34.K W x2 cs2.toList := hx2
  obtain ⟨A2_1, c2_1, e2, hl2_1, hC2_1⟩ := H.k34_open hx2
  obtain rfl : cs2 = #[.int .i64 x2.f0, .slice A2_1 x2.f1.length c2_1, .int .u64 x2.f2] := by cases cs2; simp_all
  have k3 := h3
  have lt3 : ∀ x ∈ p3, x.block < W.heap.size := by obtain ⟨m, hm⟩ := k3; exact DataW.trod_lt m _ _ _ hm
  obtain ⟨fuel3, hf3⟩ := h3
  obtain ⟨x3, hx3, ok3⟩ := (show H.Rdr enc Try.prog 22 (Kd.int .u64) _ from (H.Rdr.int Try.underlying22 (by kernel_rfl))).2 _ _ _ _ _ _ _ hf3
  obtain ⟨a3, rfl, _, _, _⟩ := open_int Try.underlying22 (hval 3 22 v3 rfl rfl) k3
  obtain rfl : a3 = x3 := by have e_ : [Value.int .u64 a3] = [Value.int .u64 x3] := hx3; injection e_ with e_ _; injection e_
  clear hA0 hval0 hsz0
  obtain ⟨k, hk⟩ := Pure.SetopsCalls _ _ _ _ ok0 hC0_1.2.1 ok1 hC1_1.2.1 ok2 hC2_1.2.1 ok3
  refine (H.tallymanlaw17_SetopsCalls.calls k x0.f0 _ _ x0.f1 x1.f0 _ _ x1.f1 x2.f0 _ _ x2.f1 x2.f2 a3 true W hC0_1 hl0_1 hC1_1 hl1_1 hC2_1 hl2_1 hk).mono fun e W' ⟨he, bel0⟩ => ?_
  have bel : Below W.heap.size W W' := bel0
  subst he
  exact ⟨_, rfl, _, _, _, [], _, [], hW', trodAll_mk1 (shut_bool Try.underlying4 _), (trodAll_cons_mk (Below.trod laidOut (by kernel_rfl) (of_decide_eq_true (by kernel_rfl)) k0 bel lt0) (trodAll_cons_mk (Below.trod laidOut (by kernel_rfl) (of_decide_eq_true (by kernel_rfl)) k1 bel lt1) (trodAll_cons_mk (Below.trod laidOut (by kernel_rfl) (of_decide_eq_true (by kernel_rfl)) k2 bel lt2) (trodAll_cons_mk (Below.trod laidOut (by kernel_rfl) (of_decide_eq_true (by kernel_rfl)) k3 bel lt3) trodAll_mk0)))), rfl, bel.frame _, fun h => by cases h⟩
theorem over : Rows.setopsCallsRow.holds Try.pinned (OpenSpec.ofChange Rows.setopsCallsSpec) :=
  OpenClaim.holds_of_wide 7 Try.f7 rfl rfl rfl rfl rfl rfl rfl ⟨rfl, rfl, rfl, rfl, rfl⟩ rfl rfl rfl rfl rfl (by kernel_rfl) Try.func7 (by kernel_rfl)
    (of_decide_eq_true (by kernel_rfl)) (by unfold Func.isWrapper; first | (rw [if_pos (by decide +kernel)]; kernel_rfl) | (rw [if_neg (by decide +kernel)]; exact ⟨rfl, rfl⟩))
    (fun os started H0 enc _ => lifted os started H0 enc)
theorem proved : Rows.SetopsCallsSaid := over
#print axioms proved
end Go.Proofs.Ytpagondojdlknaa.setopsCalls
namespace Go.Proofs.Ytpagondojdlknaa
/-- The row, under a short name, for the claim. -/
theorem setopsCalls_holds : Rows.SetopsCallsSaid := setopsCalls.proved
end Go.Proofs.Ytpagondojdlknaa
