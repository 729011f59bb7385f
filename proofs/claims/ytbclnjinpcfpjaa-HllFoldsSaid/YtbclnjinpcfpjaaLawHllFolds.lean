/- For every input the law HllFolds returns true and leaves its arguments as they read before; there are no conditions. (The row; made by a program of this session's out of the pure theorem and the walk.) -/
import Derived.Test.YtbclnjinpcfpjaaRows
import Derived.Test.YtbclnjinpcfpjaaMR
import Derived.Test.YtbclnjinpcfpjaaH12
import Derived.Test.YtbclnjinpcfpjaaQHllFolds
import Derived.WalkKit
import Derived.ProofKit
import Derived.OpenShut
import Derived.ShutString
import Derived.ChangeOld
import Derived.Below
import Derived.SizedLaws
namespace Go.Proofs.Ytbclnjinpcfpjaa.hllFolds
open Go.ChangeShapes Go.WideShapes Go.ChangeAt Go.RowKit Go.Proofs.YtbclnjinpcfpjaaW.PrintWords
open Go.ChangeMaps (open_string shut_string)
set_option linter.unusedVariables false
theorem own : ownKnob Try.prog.godebug = none := by kernel_rfl
theorem laidOut : laidOutB Try.prog = true := by kernel_rfl
set_option maxRecDepth 100000 in
theorem lifted (os : Os) (started : os.Started) (H0 : Type) (enc : TypeId × Value → H0) :
    ReturnsInHanded {} Try.checked os 10 .any (Rows.hllFoldsSpec.pre6 enc Try.prog Try.f10 Rows.hllFoldsRow.domain false) (Rows.hllFoldsSpec.post enc Try.prog Try.f10 false true false false) := by
  refine returnsInHanded_of_change_sized (C := Try.checked) own started (by kernel_rfl) Try.func10
    (ChangeSpec.witness6 (enc := enc) (C := Try.checked) false ⟨#[], #[.int .i64 0, .int .i64 0, .int .i64 0, .slice none 0 0, .slice none 0 0], []⟩ 8 (by kernel_rfl) (by kernel_rfl) (by kernel_rfl) (by kernel_rfl)) ?_
  intro W base args ds gs before hval0 hW hcnd hsz0 _
  have hval : ∀ (j : Nat) t v, Try.f10.params[j]? = some t → args[j]? = some v → Value.okWide Try.prog W .any base t v := hval0
  have hW' := hW
  obtain ⟨p, q, hA0, hV, rfl, hfz, hnd⟩ := hW
  have hA : DataW.TrodAll enc Try.prog W 0 (fun _ => true) true Try.f10.params.toList args.toList ds p := hA0
  rw [Try.params10] at hA hval
  obtain ⟨v0, vs0, d0, ds0, p0, q0, hargs, rfl, rfl, h0, r0⟩ := trodAll_cons hA
  obtain ⟨v1, vs1, d1, ds1, p1, q1, rfl, rfl, rfl, h1, r1⟩ := trodAll_cons r0
  obtain ⟨v2, vs2, d2, ds2, p2, q2, rfl, rfl, rfl, h2, r2⟩ := trodAll_cons r1
  obtain ⟨v3, vs3, d3, ds3, p3, q3, rfl, rfl, rfl, h3, r3⟩ := trodAll_cons r2
  obtain ⟨v4, vs4, d4, ds4, p4, q4, rfl, rfl, rfl, h4, r4⟩ := trodAll_cons r3
  obtain ⟨rfl, rfl, rfl⟩ := trodAll_nil r4
  obtain rfl : args = #[v0, v1, v2, v3, v4] := by cases args; simp_all
  obtain ⟨rfl, rfl⟩ := trodVars_none hV
  have k0 := h0
  have lt0 : ∀ x ∈ p0, x.block < W.heap.size := by obtain ⟨m, hm⟩ := k0; exact DataW.trod_lt m _ _ _ hm
  obtain ⟨fuel0, hf0⟩ := h0
  obtain ⟨x0, hx0, ok0⟩ := (show H.Rdr enc Try.prog 3 (Kd.int .i64) _ from (H.Rdr.int Try.underlying3 (by kernel_rfl))).2 _ _ _ _ _ _ _ hf0
  obtain ⟨a0, rfl, _, _, _⟩ := open_int Try.underlying3 (hval 0 3 v0 rfl rfl) k0
  obtain rfl : a0 = x0 := by have e_ : [Value.int .i64 a0] = [Value.int .i64 x0] := hx0; injection e_ with e_ _; injection e_
  have k1 := h1
  have lt1 : ∀ x ∈ p1, x.block < W.heap.size := by obtain ⟨m, hm⟩ := k1; exact DataW.trod_lt m _ _ _ hm
  obtain ⟨fuel1, hf1⟩ := h1
  obtain ⟨x1, hx1, ok1⟩ := (show H.Rdr enc Try.prog 3 (Kd.int .i64) _ from (H.Rdr.int Try.underlying3 (by kernel_rfl))).2 _ _ _ _ _ _ _ hf1
  obtain ⟨a1, rfl, _, _, _⟩ := open_int Try.underlying3 (hval 1 3 v1 rfl rfl) k1
  obtain rfl : a1 = x1 := by have e_ : [Value.int .i64 a1] = [Value.int .i64 x1] := hx1; injection e_ with e_ _; injection e_
  have k2 := h2
  have lt2 : ∀ x ∈ p2, x.block < W.heap.size := by obtain ⟨m, hm⟩ := k2; exact DataW.trod_lt m _ _ _ hm
  obtain ⟨fuel2, hf2⟩ := h2
  obtain ⟨x2, hx2, ok2⟩ := (show H.Rdr enc Try.prog 3 (Kd.int .i64) _ from (H.Rdr.int Try.underlying3 (by kernel_rfl))).2 _ _ _ _ _ _ _ hf2
  obtain ⟨a2, rfl, _, _, _⟩ := open_int Try.underlying3 (hval 2 3 v2 rfl rfl) k2
  obtain rfl : a2 = x2 := by have e_ : [Value.int .i64 a2] = [Value.int .i64 x2] := hx2; injection e_ with e_ _; injection e_
  have k3 := h3
  have lt3 : ∀ x ∈ p3, x.block < W.heap.size := by obtain ⟨m, hm⟩ := k3; exact DataW.trod_lt m _ _ _ hm
  obtain ⟨fuel3, hf3⟩ := h3
  obtain ⟨x3, hx3, ok3⟩ := (show H.Rdr enc Try.prog 41 (Kd.slice 22 (Kd.int .u64)) _ from (H.Rdr.slice Try.underlying41 (by kernel_rfl) (H.Rdr.int Try.underlying22 (by kernel_rfl)))).2 _ _ _ _ _ _ _ hf3
  obtain ⟨a3, len3, cap3, rfl⟩ := okWide_slice Try.underlying41 (hval 3 41 v3 rfl rfl)
  obtain ⟨A3, c3, e3, hl3, hC3⟩ := hx3
  replace e3 : [Value.slice a3 len3 cap3] = [Value.slice A3 x3.length c3] := e3
  injection e3 with e3 _
  injection e3 with ea3 en3 ec3
  subst ea3 en3 ec3
  have k4 := h4
  have lt4 : ∀ x ∈ p4, x.block < W.heap.size := by obtain ⟨m, hm⟩ := k4; exact DataW.trod_lt m _ _ _ hm
  obtain ⟨fuel4, hf4⟩ := h4
  obtain ⟨x4, hx4, ok4⟩ := (show H.Rdr enc Try.prog 41 (Kd.slice 22 (Kd.int .u64)) _ from (H.Rdr.slice Try.underlying41 (by kernel_rfl) (H.Rdr.int Try.underlying22 (by kernel_rfl)))).2 _ _ _ _ _ _ _ hf4
  obtain ⟨a4, len4, cap4, rfl⟩ := okWide_slice Try.underlying41 (hval 4 41 v4 rfl rfl)
  obtain ⟨A4, c4, e4, hl4, hC4⟩ := hx4
  replace e4 : [Value.slice a4 len4 cap4] = [Value.slice A4 x4.length c4] := e4
  injection e4 with e4 _
  injection e4 with ea4 en4 ec4
  subst ea4 en4 ec4
  clear hA0 hval0 hsz0
  obtain ⟨k, hk⟩ := Pure.HllFolds _ _ _ _ _ ok0 ok1 ok2 ok3 hC3.2.1 ok4 hC4.2.1
  refine (H.tallymanlaw14_HllFolds.calls k a0 a1 a2 _ _ x3 _ _ x4 true W hC3 hl3 hC4 hl4 hk).mono fun e W' ⟨he, bel0⟩ => ?_
  have bel : Below W.heap.size W W' := bel0
  subst he
  exact ⟨_, rfl, _, _, _, [], _, [], hW', trodAll_mk1 (shut_bool Try.underlying4 _), (trodAll_cons_mk (Below.trod laidOut (by kernel_rfl) (of_decide_eq_true (by kernel_rfl)) k0 bel lt0) (trodAll_cons_mk (Below.trod laidOut (by kernel_rfl) (of_decide_eq_true (by kernel_rfl)) k1 bel lt1) (trodAll_cons_mk (Below.trod laidOut (by kernel_rfl) (of_decide_eq_true (by kernel_rfl)) k2 bel lt2) (trodAll_cons_mk (Below.trod laidOut (by kernel_rfl) (of_decide_eq_true (by kernel_rfl)) k3 bel lt3) (trodAll_cons_mk (Below.trod laidOut (by kernel_rfl) (of_decide_eq_true (by kernel_rfl)) k4 bel lt4) trodAll_mk0))))), rfl, bel.frame _, fun h => by cases h⟩
theorem over : Rows.hllFoldsRow.holds Try.pinned (OpenSpec.ofChange Rows.hllFoldsSpec) :=
  OpenClaim.holds_of_wide 10 Try.f10 rfl rfl rfl rfl rfl rfl rfl ⟨rfl, rfl, rfl, rfl, rfl⟩ rfl rfl rfl rfl rfl (by kernel_rfl) Try.func10 (by kernel_rfl)
    (of_decide_eq_true (by kernel_rfl)) (by unfold Func.isWrapper; first | (rw [if_pos (by decide +kernel)]; kernel_rfl) | (rw [if_neg (by decide +kernel)]; exact ⟨rfl, rfl⟩))
    (fun os started H0 enc _ => lifted os started H0 enc)
theorem proved : Rows.HllFoldsSaid := over
#print axioms proved
end Go.Proofs.Ytbclnjinpcfpjaa.hllFolds
namespace Go.Proofs.Ytbclnjinpcfpjaa
/-- The row, under a short name, for the claim. -/
theorem hllFolds_holds : Rows.HllFoldsSaid := hllFolds.proved
end Go.Proofs.Ytbclnjinpcfpjaa
