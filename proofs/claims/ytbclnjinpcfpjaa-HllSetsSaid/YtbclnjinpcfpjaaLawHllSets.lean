/- For every input the law HllSets returns true and leaves its arguments as they read before; there are no conditions. (The row; made by a program of this session's out of the pure theorem and the walk.) -/
import Derived.Test.YtbclnjinpcfpjaaRows
import Derived.Test.YtbclnjinpcfpjaaMR
import Derived.Test.YtbclnjinpcfpjaaHT
import Derived.Test.YtbclnjinpcfpjaaQHllSets
import Derived.WalkKit
import Derived.ProofKit
import Derived.OpenShut
import Derived.ShutString
import Derived.ChangeOld
import Derived.Below
import Derived.SizedLaws
namespace Go.Proofs.Ytbclnjinpcfpjaa.hllSets
open Go.ChangeShapes Go.WideShapes Go.ChangeAt Go.RowKit Go.Proofs.YtbclnjinpcfpjaaW.PrintWords
open Go.ChangeMaps (open_string shut_string)
set_option linter.unusedVariables false
theorem own : ownKnob Try.prog.godebug = none := by kernel_rfl
theorem laidOut : laidOutB Try.prog = true := by kernel_rfl
set_option maxRecDepth 100000 in
theorem lifted (os : Os) (started : os.Started) (H0 : Type) (enc : TypeId × Value → H0) :
    ReturnsInHanded {} Try.checked os 7 .any (Rows.hllSetsSpec.pre6 enc Try.prog Try.f7 Rows.hllSetsRow.domain false) (Rows.hllSetsSpec.post enc Try.prog Try.f7 false true false false) := by
  refine returnsInHanded_of_change_sized (C := Try.checked) own started (by kernel_rfl) Try.func7
    (ChangeSpec.witness6 (enc := enc) (C := Try.checked) false ⟨#[], #[.int .i64 0, .slice none 0 0, .slice none 0 0], []⟩ 8 (by kernel_rfl) (by kernel_rfl) (by kernel_rfl) (by kernel_rfl)) ?_
  intro W base args ds gs before hval0 hW hcnd hsz0 _
  have hval : ∀ (j : Nat) t v, Try.f7.params[j]? = some t → args[j]? = some v → Value.okWide Try.prog W .any base t v := hval0
  have hW' := hW
  obtain ⟨p, q, hA0, hV, rfl, hfz, hnd⟩ := hW
  have hA : DataW.TrodAll enc Try.prog W 0 (fun _ => true) true Try.f7.params.toList args.toList ds p := hA0
  rw [Try.params7] at hA hval
  obtain ⟨v0, vs0, d0, ds0, p0, q0, hargs, rfl, rfl, h0, r0⟩ := trodAll_cons hA
  obtain ⟨v1, vs1, d1, ds1, p1, q1, rfl, rfl, rfl, h1, r1⟩ := trodAll_cons r0
  obtain ⟨v2, vs2, d2, ds2, p2, q2, rfl, rfl, rfl, h2, r2⟩ := trodAll_cons r1
  obtain ⟨rfl, rfl, rfl⟩ := trodAll_nil r2
  obtain rfl : args = #[v0, v1, v2] := by cases args; simp_all
  obtain ⟨rfl, rfl⟩ := trodVars_none hV
  have k0 := h0
  have lt0 : ∀ x ∈ p0, x.block < W.heap.size := by obtain ⟨m, hm⟩ := k0; exact DataW.trod_lt m _ _ _ hm
  obtain ⟨fuel0, hf0⟩ := h0
  obtain ⟨x0, hx0, ok0⟩ := (show H.Rdr enc Try.prog 3 (Kd.int .i64) _ from (H.Rdr.int Try.underlying3 (by kernel_rfl))).2 _ _ _ _ _ _ _ hf0
  obtain ⟨a0, rfl, _, _, _⟩ := open_int Try.underlying3 (hval 0 3 v0 rfl rfl) k0
  obtain rfl : a0 = x0 := by have e_ : [Value.int .i64 a0] = [Value.int .i64 x0] := hx0; injection e_ with e_ _; injection e_
  have k1 := h1
  have lt1 : ∀ x ∈ p1, x.block < W.heap.size := by obtain ⟨m, hm⟩ := k1; exact DataW.trod_lt m _ _ _ hm
  obtain ⟨fuel1, hf1⟩ := h1
  obtain ⟨x1, hx1, ok1⟩ := (show H.Rdr enc Try.prog 41 (Kd.slice 22 (Kd.int .u64)) _ from (H.Rdr.slice Try.underlying41 (by kernel_rfl) (H.Rdr.int Try.underlying22 (by kernel_rfl)))).2 _ _ _ _ _ _ _ hf1
  obtain ⟨a1, len1, cap1, rfl⟩ := okWide_slice Try.underlying41 (hval 1 41 v1 rfl rfl)
  obtain ⟨A1, c1, e1, hl1, hC1⟩ := hx1
  replace e1 : [Value.slice a1 len1 cap1] = [Value.slice A1 x1.length c1] := e1
  injection e1 with e1 _
  injection e1 with ea1 en1 ec1
  subst ea1 en1 ec1
  have k2 := h2
  have lt2 : ∀ x ∈ p2, x.block < W.heap.size := by obtain ⟨m, hm⟩ := k2; exact DataW.trod_lt m _ _ _ hm
  obtain ⟨fuel2, hf2⟩ := h2
  obtain ⟨x2, hx2, ok2⟩ := (show H.Rdr enc Try.prog 41 (Kd.slice 22 (Kd.int .u64)) _ from (H.Rdr.slice Try.underlying41 (by kernel_rfl) (H.Rdr.int Try.underlying22 (by kernel_rfl)))).2 _ _ _ _ _ _ _ hf2
  obtain ⟨a2, len2, cap2, rfl⟩ := okWide_slice Try.underlying41 (hval 2 41 v2 rfl rfl)
  obtain ⟨A2, c2, e2, hl2, hC2⟩ := hx2
  replace e2 : [Value.slice a2 len2 cap2] = [Value.slice A2 x2.length c2] := e2
  injection e2 with e2 _
  injection e2 with ea2 en2 ec2
  subst ea2 en2 ec2
  clear hA0 hval0 hsz0
  obtain ⟨k, hk⟩ := Pure.HllSets _ _ _ ok0 ok1 hC1.2.1 ok2 hC2.2.1
  refine (H.tallymanlaw14_HllSets.calls k a0 _ _ x1 _ _ x2 true W hC1 hl1 hC2 hl2 hk).mono fun e W' ⟨he, bel0⟩ => ?_
  have bel : Below W.heap.size W W' := bel0
  subst he
  exact ⟨_, rfl, _, _, _, [], _, [], hW', trodAll_mk1 (shut_bool Try.underlying4 _), (trodAll_cons_mk (Below.trod laidOut (by kernel_rfl) (of_decide_eq_true (by kernel_rfl)) k0 bel lt0) (trodAll_cons_mk (Below.trod laidOut (by kernel_rfl) (of_decide_eq_true (by kernel_rfl)) k1 bel lt1) (trodAll_cons_mk (Below.trod laidOut (by kernel_rfl) (of_decide_eq_true (by kernel_rfl)) k2 bel lt2) trodAll_mk0))), rfl, bel.frame _, fun h => by cases h⟩
theorem over : Rows.hllSetsRow.holds Try.pinned (OpenSpec.ofChange Rows.hllSetsSpec) :=
  OpenClaim.holds_of_wide 7 Try.f7 rfl rfl rfl rfl rfl rfl rfl ⟨rfl, rfl, rfl, rfl, rfl⟩ rfl rfl rfl rfl rfl (by kernel_rfl) Try.func7 (by kernel_rfl)
    (of_decide_eq_true (by kernel_rfl)) (by unfold Func.isWrapper; first | (rw [if_pos (by decide +kernel)]; kernel_rfl) | (rw [if_neg (by decide +kernel)]; exact ⟨rfl, rfl⟩))
    (fun os started H0 enc _ => lifted os started H0 enc)
theorem proved : Rows.HllSetsSaid := over
#print axioms proved
end Go.Proofs.Ytbclnjinpcfpjaa.hllSets
namespace Go.Proofs.Ytbclnjinpcfpjaa
/-- The row, under a short name, for the claim. -/
theorem hllSets_holds : Rows.HllSetsSaid := hllSets.proved
end Go.Proofs.Ytbclnjinpcfpjaa
