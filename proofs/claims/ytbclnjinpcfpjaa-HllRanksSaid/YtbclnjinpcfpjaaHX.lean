-- Made by this session's own call of the printer (functions that are proved by hand are taken from a text beside it).
import Derived.Test.YtbclnjinpcfpjaaH0
import Derived.Test.YtbclnjinpcfpjaaMM
import Derived.Test.YtbclnjinpcfpjaaH2
import Derived.Test.YtbclnjinpcfpjaaH4
import Derived.Test.YtbclnjinpcfpjaaH5
import Derived.Test.YtbclnjinpcfpjaaH6
namespace Go.Proofs.Ytbclnjinpcfpjaa.H
open Go.RowKit Go.Proofs.YtbclnjinpcfpjaaW.PrintWords Go.Proofs.YtbclnjinpcfpjaaW.PrintLast Go.Proofs.YtbclnjinpcfpjaaW.PrintMore
attribute [local go_sem] max2_int min2_int max_two min_two max_three min_three max_four min_four   -- for this text's walks alone
set_option linter.unusedVariables false
set_option linter.unusedSimpArgs false

/-! ### tallymanlaw14_HllRanks: function 6 -/
mutual
def tallymanlaw14_HllRanks.l0 : Nat → Int → List Int → List (S32) → Int → Int → List (S32) → Option (Bool)
  | 0, _, _, _, _, _, _ => none
  | k + 1, x0, x1, x7, x8, x204000, x204001 => if x8 < (x1.length : Int) then (if 0 ≤ x8 then ((hll_Split.f x0 (rd x1 x8)).bind fun bt210 => (if bt210.2.2 = 0 then (if bt210.1 < 0 then (none) else (if 0 ≤ (IntKind.u64.wrap (x0)) then (if bt210.1 ≥ (shl .i64 1 (IntKind.u64.wrap (x0))) then (none) else (if bt210.2.1 < 1 then (none) else (if bt210.2.1 > (wrap64 (65 - x0)) then (none) else (tallymanlaw14_HllRanks.l0 k x0 x1 (mput x7 bt210.1 (mx (mget x7 bt210.1) bt210.2.1)) (wrap64 (x8 + 1)) x204000 x204001)))) else (none))) else (none))) else (none)) else (tallymanlaw14_HllRanks.l1 k x0 x1 x7 0 x204000 x204001)
def tallymanlaw14_HllRanks.l1 : Nat → Int → List Int → List (S32) → Int → Int → List (S32) → Option (Bool)
  | 0, _, _, _, _, _, _ => none
  | k + 1, x0, x1, x7, x12, x204000, x204001 => if x12 < (x204001.length : Int) then (if 0 ≤ x12 then (if (mget x7 ((rd_T32 x204001 x12).f0)) = ((rd_T32 x204001 x12).f1) ∧ (Lit.int .i64 ((rd_T32 x204001 x12).f0)).wf = true then ((hll_Get.f k x204000 x204001 ((rd_T32 x204001 x12).f0)).bind fun t216 => (if t216 = ((rd_T32 x204001 x12).f1) then (tallymanlaw14_HllRanks.l1 k x0 x1 x7 (wrap64 (x12 + 1)) x204000 x204001) else (none))) else (none)) else (none)) else (tallymanlaw14_HllRanks.l2 k x0 x1 x7 0 x204000 x204001)
def tallymanlaw14_HllRanks.l2 : Nat → Int → List Int → List (S32) → Int → Int → List (S32) → Option (Bool)
  | 0, _, _, _, _, _, _ => none
  | k + 1, x0, x1, x7, x13, x204000, x204001 => if x13 < (x1.length : Int) then (tallymanlaw14_HllRanks.j3 k x0 x1 x7 x13 (decide (x13 < 20)) x204000 x204001) else (tallymanlaw14_HllRanks.j3 k x0 x1 x7 x13 false x204000 x204001)
def tallymanlaw14_HllRanks.j3 : Nat → Int → List Int → List (S32) → Int → Bool → Int → List (S32) → Option (Bool)
  | 0, _, _, _, _, _, _, _ => none
  | k + 1, x0, x1, x7, x13, x132, x204000, x204001 => if x132 = true then (if 0 ≤ x13 then (if x13 < (x1.length : Int) then ((hll_Add.f k x204000 x204001 (rd x1 x13)).bind fun bt222 => (if bt222.2.2 = 0 then ((hll_Same.f k bt222.1 bt222.2.1 x204000 x204001).bind fun t228 => (if t228 = true then (tallymanlaw14_HllRanks.l2 k x0 x1 x7 (wrap64 (x13 + 1)) x204000 x204001) else (none))) else (none))) else (none)) else (none)) else (if (mlen x7) = (x204001.length : Int) then ((hll_Zeros.f k x204000 x204001).bind fun t218 => (if 0 ≤ (IntKind.u64.wrap (x0)) then (if t218 = (wrap64 ((shl .i64 1 (IntKind.u64.wrap (x0))) - (mlen x7))) then ((hll_Get.f k x204000 x204001 (-1)).bind fun t219 => (if t219 = 0 then ((hll_Get.f k x204000 x204001 (shl .i64 1 (IntKind.u64.wrap (x0)))).bind fun t220 => (some (t220 == 0))) else (none))) else (none)) else (none))) else (none))
end
def tallymanlaw14_HllRanks.f (k : Nat) (a0 : Int) (l1 : List Int) : Option (Bool) := (tallymanlaw14_lives.f k).bind fun t196 => (if t196 = true then (if (l1.length : Int) > 300 then (some true) else ((tallymankit_Pick.f a0 13).bind fun t197 => ((hll_New.f (wrap64 (4 + t197))).bind fun bt198 => (if bt198.2.2 = 0 then ((hll_AddAll.f k bt198.1 bt198.2.1 l1).bind fun bt204 => (if bt204.2.2 = 0 then (tallymanlaw14_HllRanks.l0 k (wrap64 (4 + t197)) l1 [] 0 bt204.1 bt204.2.1) else (none))) else (none))))) else (none))
theorem tallymanlaw14_HllRanks.mono_l : ∀ k, (∀ y0 y1 y2 y3 y4 y5, LeO (tallymanlaw14_HllRanks.l0 k y0 y1 y2 y3 y4 y5) (tallymanlaw14_HllRanks.l0 (k + 1) y0 y1 y2 y3 y4 y5)) ∧ (∀ y0 y1 y2 y3 y4 y5, LeO (tallymanlaw14_HllRanks.l1 k y0 y1 y2 y3 y4 y5) (tallymanlaw14_HllRanks.l1 (k + 1) y0 y1 y2 y3 y4 y5)) ∧ (∀ y0 y1 y2 y3 y4 y5, LeO (tallymanlaw14_HllRanks.l2 k y0 y1 y2 y3 y4 y5) (tallymanlaw14_HllRanks.l2 (k + 1) y0 y1 y2 y3 y4 y5)) ∧ (∀ y0 y1 y2 y3 y4 y5 y6, LeO (tallymanlaw14_HllRanks.j3 k y0 y1 y2 y3 y4 y5 y6) (tallymanlaw14_HllRanks.j3 (k + 1) y0 y1 y2 y3 y4 y5 y6))
  | 0 => ⟨fun _ _ _ _ _ _ r h => by simp [tallymanlaw14_HllRanks.l0] at h, fun _ _ _ _ _ _ r h => by simp [tallymanlaw14_HllRanks.l1] at h, fun _ _ _ _ _ _ r h => by simp [tallymanlaw14_HllRanks.l2] at h, fun _ _ _ _ _ _ _ r h => by simp [tallymanlaw14_HllRanks.j3] at h⟩
  | k + 1 => by
    obtain ⟨ih0, ih1, ih2, ih3⟩ := tallymanlaw14_HllRanks.mono_l k
    refine ⟨?_, ?_, ?_, ?_⟩
    · intro y0 y1 y2 y3 y4 y5
      unfold tallymanlaw14_HllRanks.l0
      repeat' first
      | (with_reducible exact ih0 _ _ _ _ _ _)
      | (with_reducible exact ih1 _ _ _ _ _ _)
      | (with_reducible exact ih2 _ _ _ _ _ _)
      | (with_reducible exact ih3 _ _ _ _ _ _ _)
      | (with_reducible exact hll_Add.mono _ _ _ _)
      | (with_reducible exact hll_AddAll.mono _ _ _ _)
      | (with_reducible exact hll_Get.mono _ _ _ _)
      | (with_reducible exact hll_Same.mono _ _ _ _ _)
      | (with_reducible exact hll_Zeros.mono _ _ _)
      | (with_reducible exact tallymanlaw14_lives.mono _)
      | (with_reducible exact LeO.refl _)
      | (with_reducible exact LeO.none _)
      | (with_reducible refine LeO.ite ?_ ?_)
      | (with_reducible refine LeO.bind ?_ (fun _ => ?_))
      | exact ih0 _ _ _ _ _ _
      | exact ih1 _ _ _ _ _ _
      | exact ih2 _ _ _ _ _ _
      | exact ih3 _ _ _ _ _ _ _
      | exact hll_Add.mono _ _ _ _
      | exact hll_AddAll.mono _ _ _ _
      | exact hll_Get.mono _ _ _ _
      | exact hll_Same.mono _ _ _ _ _
      | exact hll_Zeros.mono _ _ _
      | exact tallymanlaw14_lives.mono _
      | exact LeO.none _
      | refine LeO.ite ?_ ?_
      | refine LeO.bind ?_ (fun _ => ?_)
    · intro y0 y1 y2 y3 y4 y5
      unfold tallymanlaw14_HllRanks.l1
      repeat' first
      | (with_reducible exact ih0 _ _ _ _ _ _)
      | (with_reducible exact ih1 _ _ _ _ _ _)
      | (with_reducible exact ih2 _ _ _ _ _ _)
      | (with_reducible exact ih3 _ _ _ _ _ _ _)
      | (with_reducible exact hll_Add.mono _ _ _ _)
      | (with_reducible exact hll_AddAll.mono _ _ _ _)
      | (with_reducible exact hll_Get.mono _ _ _ _)
      | (with_reducible exact hll_Same.mono _ _ _ _ _)
      | (with_reducible exact hll_Zeros.mono _ _ _)
      | (with_reducible exact tallymanlaw14_lives.mono _)
      | (with_reducible exact LeO.refl _)
      | (with_reducible exact LeO.none _)
      | (with_reducible refine LeO.ite ?_ ?_)
      | (with_reducible refine LeO.bind ?_ (fun _ => ?_))
      | exact ih0 _ _ _ _ _ _
      | exact ih1 _ _ _ _ _ _
      | exact ih2 _ _ _ _ _ _
      | exact ih3 _ _ _ _ _ _ _
      | exact hll_Add.mono _ _ _ _
      | exact hll_AddAll.mono _ _ _ _
      | exact hll_Get.mono _ _ _ _
      | exact hll_Same.mono _ _ _ _ _
      | exact hll_Zeros.mono _ _ _
      | exact tallymanlaw14_lives.mono _
      | exact LeO.none _
      | refine LeO.ite ?_ ?_
      | refine LeO.bind ?_ (fun _ => ?_)
    · intro y0 y1 y2 y3 y4 y5
      unfold tallymanlaw14_HllRanks.l2
      repeat' first
      | (with_reducible exact ih0 _ _ _ _ _ _)
      | (with_reducible exact ih1 _ _ _ _ _ _)
      | (with_reducible exact ih2 _ _ _ _ _ _)
      | (with_reducible exact ih3 _ _ _ _ _ _ _)
      | (with_reducible exact hll_Add.mono _ _ _ _)
      | (with_reducible exact hll_AddAll.mono _ _ _ _)
      | (with_reducible exact hll_Get.mono _ _ _ _)
      | (with_reducible exact hll_Same.mono _ _ _ _ _)
      | (with_reducible exact hll_Zeros.mono _ _ _)
      | (with_reducible exact tallymanlaw14_lives.mono _)
      | (with_reducible exact LeO.refl _)
      | (with_reducible exact LeO.none _)
      | (with_reducible refine LeO.ite ?_ ?_)
      | (with_reducible refine LeO.bind ?_ (fun _ => ?_))
      | exact ih0 _ _ _ _ _ _
      | exact ih1 _ _ _ _ _ _
      | exact ih2 _ _ _ _ _ _
      | exact ih3 _ _ _ _ _ _ _
      | exact hll_Add.mono _ _ _ _
      | exact hll_AddAll.mono _ _ _ _
      | exact hll_Get.mono _ _ _ _
      | exact hll_Same.mono _ _ _ _ _
      | exact hll_Zeros.mono _ _ _
      | exact tallymanlaw14_lives.mono _
      | exact LeO.none _
      | refine LeO.ite ?_ ?_
      | refine LeO.bind ?_ (fun _ => ?_)
    · intro y0 y1 y2 y3 y4 y5 y6
      unfold tallymanlaw14_HllRanks.j3
      repeat' first
      | (with_reducible exact ih0 _ _ _ _ _ _)
      | (with_reducible exact ih1 _ _ _ _ _ _)
      | (with_reducible exact ih2 _ _ _ _ _ _)
      | (with_reducible exact ih3 _ _ _ _ _ _ _)
      | (with_reducible exact hll_Add.mono _ _ _ _)
      | (with_reducible exact hll_AddAll.mono _ _ _ _)
      | (with_reducible exact hll_Get.mono _ _ _ _)
      | (with_reducible exact hll_Same.mono _ _ _ _ _)
      | (with_reducible exact hll_Zeros.mono _ _ _)
      | (with_reducible exact tallymanlaw14_lives.mono _)
      | (with_reducible exact LeO.refl _)
      | (with_reducible exact LeO.none _)
      | (with_reducible refine LeO.ite ?_ ?_)
      | (with_reducible refine LeO.bind ?_ (fun _ => ?_))
      | exact ih0 _ _ _ _ _ _
      | exact ih1 _ _ _ _ _ _
      | exact ih2 _ _ _ _ _ _
      | exact ih3 _ _ _ _ _ _ _
      | exact hll_Add.mono _ _ _ _
      | exact hll_AddAll.mono _ _ _ _
      | exact hll_Get.mono _ _ _ _
      | exact hll_Same.mono _ _ _ _ _
      | exact hll_Zeros.mono _ _ _
      | exact tallymanlaw14_lives.mono _
      | exact LeO.none _
      | refine LeO.ite ?_ ?_
      | refine LeO.bind ?_ (fun _ => ?_)
theorem tallymanlaw14_HllRanks.mono : ∀ a0 a1 k, LeO (tallymanlaw14_HllRanks.f k a0 a1) (tallymanlaw14_HllRanks.f (k + 1) a0 a1) := by
  intro a0 a1 k
  obtain ⟨ih0, ih1, ih2, ih3⟩ := tallymanlaw14_HllRanks.mono_l k
  unfold tallymanlaw14_HllRanks.f
  repeat' first
      | (with_reducible exact ih0 _ _ _ _ _ _)
      | (with_reducible exact ih1 _ _ _ _ _ _)
      | (with_reducible exact ih2 _ _ _ _ _ _)
      | (with_reducible exact ih3 _ _ _ _ _ _ _)
      | (with_reducible exact hll_Add.mono _ _ _ _)
      | (with_reducible exact hll_AddAll.mono _ _ _ _)
      | (with_reducible exact hll_Get.mono _ _ _ _)
      | (with_reducible exact hll_Same.mono _ _ _ _ _)
      | (with_reducible exact hll_Zeros.mono _ _ _)
      | (with_reducible exact tallymanlaw14_lives.mono _)
      | (with_reducible exact LeO.refl _)
      | (with_reducible exact LeO.none _)
      | (with_reducible refine LeO.ite ?_ ?_)
      | (with_reducible refine LeO.bind ?_ (fun _ => ?_))
      | exact ih0 _ _ _ _ _ _
      | exact ih1 _ _ _ _ _ _
      | exact ih2 _ _ _ _ _ _
      | exact ih3 _ _ _ _ _ _ _
      | exact hll_Add.mono _ _ _ _
      | exact hll_AddAll.mono _ _ _ _
      | exact hll_Get.mono _ _ _ _
      | exact hll_Same.mono _ _ _ _ _
      | exact hll_Zeros.mono _ _ _
      | exact tallymanlaw14_lives.mono _
      | exact LeO.none _
      | refine LeO.ite ?_ ?_
      | refine LeO.bind ?_ (fun _ => ?_)
def tallymanlaw14_HllRanks.T23 : Bool × List (List Nat × List Nat) := (true, [([], []), ([], []), ([1], [1]), ([], []), ([2, 3], [2, 3]), ([4], [4]), ([5], [5]), ([0, 6], [0, 6]), ([], []), ([8], [8]), ([], []), ([9, 10], [9, 10]), ([11], [11]), ([12], [12]), ([7, 13], [7, 13]), ([14], [14]), ([15], [15]), ([15], [15]), ([17, 15], [15, 17]), ([15], [15]), ([18, 19, 15], [15, 18, 19]), ([20, 15], [15, 20]), ([21, 15], [15, 21]), ([16, 22, 15, 15], [15, 16, 22]), ([15], [15]), ([24, 15], [15, 24]), ([15], [15]), ([25, 26, 15], [15, 25, 26]), ([27, 15], [15, 27]), ([28, 15], [15, 28]), ([23, 29, 15], [15, 23, 29]), ([15, 30], [15, 30])])
def tallymanlaw14_HllRanks.B23 : List Nat := [0, 0, 2, 0, 14, 30, 62, 127, 0, 256, 0, 1792, 3840, 7936, 16383, 32767, 65535, 65535, 196607, 65535, 983039, 2031615, 4128767, 8388607, 65535, 16842751, 65535, 117506047, 251723775, 520159231, 1073741823, 2147483647]
theorem tallymanlaw14_HllRanks.tab23 : rtab .any (opsOf Try.f6 23) = tallymanlaw14_HllRanks.T23 := by kernel_rfl
theorem tallymanlaw14_HllRanks.bits23 : waitsOk tallymanlaw14_HllRanks.T23.2 tallymanlaw14_HllRanks.B23 = true := by kernel_rfl
def tallymanlaw14_HllRanks.T28 : Bool × List (List Nat × List Nat) := (true, [([], []), ([], []), ([], []), ([1, 2], [1, 2]), ([3], [3]), ([0, 4], [0, 4]), ([5], [5]), ([6], [6]), ([6], [6]), ([], []), ([9, 7, 5, 0, 1, 2, 3, 4, 5, 6, 7, 9], [7, 9]), ([8, 10, 0, 1, 2, 3, 4, 5, 6, 7, 8, 9, 10], [8])])
def tallymanlaw14_HllRanks.B28 : List Nat := [0, 0, 0, 6, 14, 31, 63, 127, 127, 0, 767, 2047]
theorem tallymanlaw14_HllRanks.tab28 : rtab .any (opsOf Try.f6 28) = tallymanlaw14_HllRanks.T28 := by kernel_rfl
theorem tallymanlaw14_HllRanks.bits28 : waitsOk tallymanlaw14_HllRanks.T28.2 tallymanlaw14_HllRanks.B28 = true := by kernel_rfl
set_option maxHeartbeats 8000000 in
set_option maxRecDepth 100000 in
theorem tallymanlaw14_HllRanks.calls (k : Nat) (a0 : Int) (A1 : Option Addr) (c1 : Nat) (l1 : List Int) (r : Bool) (w : World) (hr1 : Kd.C (Kd.int .u64) w A1 l1.length l1) (hc1 : l1.length ≤ c1) (h : tallymanlaw14_HllRanks.f k a0 l1 = some r) :
    Calls Try.prog 6 #[.int .i64 a0, .slice A1 l1.length c1] w fun e w' => e = .returned (.bool r) ∧ Below w.heap.size w w' := by
  have hu30 := Try.underlying30
  have HR1 := Aside0.mk hr1
  have HC1 := Aside0.mk hc1
  clear hr1 hc1
  have HB := Aside0.mk (Below.refl w.heap.size w)
  have H : ((tallymanlaw14_lives.f k).bind fun t196 => (if t196 = true then (if (l1.length : Int) > 300 then (some true) else ((tallymankit_Pick.f a0 13).bind fun t197 => ((hll_New.f (wrap64 (4 + t197))).bind fun bt198 => (if bt198.2.2 = 0 then ((hll_AddAll.f k bt198.1 bt198.2.1 l1).bind fun bt204 => (if bt204.2.2 = 0 then (tallymanlaw14_HllRanks.l0 k (wrap64 (4 + t197)) l1 [] 0 bt204.1 bt204.2.1) else (none))) else (none))))) else (none))) = some r := h
  clear h
  replace H := Option.bind_eq_some_iff.mp H
  obtain ⟨t196, A30, H⟩ := H
  replace H : (if t196 = true then (if (l1.length : Int) > 300 then (some true) else ((tallymankit_Pick.f a0 13).bind fun t197 => ((hll_New.f (wrap64 (4 + t197))).bind fun bt198 => (if bt198.2.2 = 0 then ((hll_AddAll.f k bt198.1 bt198.2.1 l1).bind fun bt204 => (if bt204.2.2 = 0 then (tallymanlaw14_HllRanks.l0 k (wrap64 (4 + t197)) l1 [] 0 bt204.1 bt204.2.1) else (none))) else (none))))) else (none)) = some r := H
  have A3 := Aside0.mk A30
  clear A30
  by_cases c4 : t196 = true
  · subst c4
    have H1 : (if (l1.length : Int) > 300 then (some true) else ((tallymankit_Pick.f a0 13).bind fun t197 => ((hll_New.f (wrap64 (4 + t197))).bind fun bt198 => (if bt198.2.2 = 0 then ((hll_AddAll.f k bt198.1 bt198.2.1 l1).bind fun bt204 => (if bt204.2.2 = 0 then (tallymanlaw14_HllRanks.l0 k (wrap64 (4 + t197)) l1 [] 0 bt204.1 bt204.2.1) else (none))) else (none))))) = some r := by rw [if_pos rfl] at H; exact H
    clear H
    have H := H1
    clear H1
    by_cases c5 : (l1.length : Int) > 300
    · rw [if_pos c5] at H
      have c5b0 : decide (300 < (l1.length : Int)) = true := decide_eq_true c5
      have c5b1 : decide (300 < l1.length) = true := decide_eq_true (by omega)
      clear c5
      obtain rfl := Option.some.inj H
      go_enter Try.func6, Try.ntmps6
      go_wp2_with (first | ((with_reducible refine gate_callee (f := 23) rfl ?_); refine goesL_ (some 16) rfl rfl Try.func23 (by kernel_rfl) rfl #[] rfl (by (try simp only [List.map_toArray, List.map_cons, List.map_nil]); first | done | rfl | (simp only [List.length_drop, List.length_take]; rfl)) ?_; (with_reducible refine (tallymanlaw14_lives.calls k  true _ A3.out).mono ?_); rintro e w6 ⟨rfl, hb⟩; refine ⟨_, rfl, ?_⟩; have n0_ := Aside0.mk (below_step (by repeat (first | (with_reducible first | exact HB.out | apply below_alloc | apply pw_below_drewN | apply below_drew1) | exact HB.out)) hb); clear HB; have HB := n0_; clear n0_; (try clear hb); (try clear hb2); (try clear hk); (try clear hi)))
      go_ret
      exact ⟨by first | rfl | (simp [errW_none, errW_some] <;> rfl) | (simp [*, errW_none, errW_some] <;> rfl), by repeat (first | (with_reducible first | exact HB.out | apply below_alloc | apply pw_below_drewN | apply below_drew1) | exact HB.out)⟩
    · rw [if_neg c5] at H
      have C5 : Aside0 ((l1.length : Int) ≤ 300) := ⟨Int.not_lt.mp c5⟩
      have c5b0 : decide (300 < (l1.length : Int)) = false := decide_eq_false c5
      have c5b1 : decide (300 < l1.length) = false := decide_eq_false (by omega)
      clear c5
      replace H := Option.bind_eq_some_iff.mp H
      obtain ⟨t197, A70, H⟩ := H
      replace H : ((hll_New.f (wrap64 (4 + t197))).bind fun bt198 => (if bt198.2.2 = 0 then ((hll_AddAll.f k bt198.1 bt198.2.1 l1).bind fun bt204 => (if bt204.2.2 = 0 then (tallymanlaw14_HllRanks.l0 k (wrap64 (4 + t197)) l1 [] 0 bt204.1 bt204.2.1) else (none))) else (none))) = some r := H
      have A7 := Aside0.mk A70
      clear A70
      replace H := Option.bind_eq_some_iff.mp H
      obtain ⟨⟨t198, t199, t202⟩, A80, H⟩ := H
      replace H : (if t202 = 0 then ((hll_AddAll.f k t198 t199 l1).bind fun bt204 => (if bt204.2.2 = 0 then (tallymanlaw14_HllRanks.l0 k (wrap64 (4 + t197)) l1 [] 0 bt204.1 bt204.2.1) else (none))) else (none)) = some r := H
      have A8 := Aside0.mk A80
      clear A80
      by_cases c9 : t202 = 0
      · rw [if_pos c9] at H
        have c9b0 : (t202 == 0) = true := beq_iff_eq.mpr c9
        have c9b1 : (t202 != 0) = false := bne_eq_false_iff_eq.mpr c9
        clear c9
        replace H := Option.bind_eq_some_iff.mp H
        obtain ⟨⟨t204, t205, t208⟩, A100, H⟩ := H
        replace H : (if t208 = 0 then (tallymanlaw14_HllRanks.l0 k (wrap64 (4 + t197)) l1 [] 0 t204 t205) else (none)) = some r := H
        have A10 := Aside0.mk A100
        clear A100
        by_cases c11 : t208 = 0
        · rw [if_pos c11] at H
          have c11b0 : (t208 == 0) = true := beq_iff_eq.mpr c11
          have c11b1 : (t208 != 0) = false := bne_eq_false_iff_eq.mpr c11
          clear c11
          have H' := Aside0.mk H
          clear H
          go_enter Try.func6, Try.ntmps6
          go_wp2_with (first | ((with_reducible refine gate_callee (f := 23) rfl ?_); refine goesL_ (some 16) rfl rfl Try.func23 (by kernel_rfl) rfl #[] rfl (by (try simp only [List.map_toArray, List.map_cons, List.map_nil]); first | done | rfl | (simp only [List.length_drop, List.length_take]; rfl)) ?_; (with_reducible refine (tallymanlaw14_lives.calls k  true _ A3.out).mono ?_); rintro e w12 ⟨rfl, hb⟩; refine ⟨_, rfl, ?_⟩; have n0_ := Aside0.mk (below_step (by repeat (first | (with_reducible first | exact HB.out | apply below_alloc | apply pw_below_drewN | apply below_drew1) | exact HB.out)) hb); clear HB; have HB := n0_; clear n0_; (try clear hb); (try clear hb2); (try clear hk); (try clear hi)) | ((with_reducible refine gate_callee (f := 17) rfl ?_); refine goesL_ (some 22) rfl rfl Try.func17 (by kernel_rfl) rfl #[.int .i64 a0, .int .i64 13] rfl (by (try simp only [List.map_toArray, List.map_cons, List.map_nil]); first | done | rfl | (simp only [List.length_drop, List.length_take]; rfl)) ?_; (with_reducible refine (tallymankit_Pick.calls a0 13 t197 _ A7.out).mono ?_); rintro e w' ⟨rfl, ⟨nd, rfl⟩⟩; refine ⟨_, rfl, ?_⟩; (try (rw [drewN_self w12]; generalize hq_ : World.drewN w12 _ = w12; have n0_ : Aside0 (Below w.heap.size w w12) := ⟨by rw [← hq_]; exact (by repeat (first | (with_reducible first | exact HB.out | apply below_alloc | apply pw_below_drewN | apply below_drew1) | exact HB.out))⟩; clear HB hq_; have HB := n0_; clear n0_))) | ((with_reducible refine gate_callee (f := 24) rfl ?_); refine goesL_ (some 26) rfl rfl Try.func24 (by kernel_rfl) rfl #[.int .i64 (wrap64 (4 + t197))] rfl (by (try simp only [List.map_toArray, List.map_cons, List.map_nil]); first | done | rfl | (simp only [List.length_drop, List.length_take]; rfl)) ?_; (with_reducible refine (hll_New.calls (wrap64 (4 + t197)) t198 t199 t202 _ A8.out).mono ?_); rintro e w13 ⟨v200, rfl, ho0, hb⟩; refine ⟨_, rfl, ?_⟩; have n0_ := Aside0.mk (Kd.R_lower ho0 (below_size (by repeat (first | (with_reducible first | exact HB.out | apply below_alloc | apply pw_below_drewN | apply below_drew1) | exact HB.out)))); have n1_ := Aside0.mk (below_step (by repeat (first | (with_reducible first | exact HB.out | apply below_alloc | apply pw_below_drewN | apply below_drew1) | exact HB.out)) hb); clear HB; have HO201 := n0_; have HB := n1_; clear n0_ n1_; (try clear hb); (try clear hb2); (try clear hk); (try clear hi); (try clear ho0)) | ((with_reducible refine gate_dst (N := 5) rfl ?_); refine box_event ?hg (N := 5) ?hd (cs := #[.int .i64 0, .slice none 0 0]) (t := 30) ?hr ?_; (case hd => rfl); (case hg => rfl); (case hr => first | (go_simp; done) | (go_simp; rfl)); intro gb203 hg w14 hbox hb; have n0_ := Aside0.mk (Kd.R_below (by (with_reducible repeat (first | apply Kd.R_alloc | apply Kd.R_drewN | apply Kd.R_drew)); exact HO201.out) hb); have n1_ := Aside0.mk (below_step (by repeat (first | (with_reducible first | exact HB.out | apply below_alloc | apply pw_below_drewN | apply below_drew1) | exact HB.out)) hb); have n2_ := Aside0.mk (hbox); have n3_ := Aside0.mk ((by rw [hg]; exact (below_size (by repeat (first | (with_reducible first | exact HB.out | apply below_alloc | apply pw_below_drewN | apply below_drew1) | exact HB.out))) : w.heap.size ≤ gb203)); have n4_ := Aside0.mk ((by rw [hg]; exact (below_size (by repeat (first | (with_reducible first | exact HB.out | apply below_alloc | apply pw_below_drewN | apply below_drew1) | exact HB.out))) : w.heap.size ≤ gb203)); clear HO201; clear HB; have HO201 := n0_; have HB := n1_; have BK203 := n2_; have GW203 := n3_; have GE203 := n4_; clear n0_ n1_ n2_ n3_ n4_; clear hb hbox hg; have hcz15_0 : w14.cell? ⟨gb203, 0, none⟩ = some (.int .i64 0) := (blk_cell BK203.out 0).trans rfl; have hcz15_1 : w14.cell? ⟨gb203, 1, none⟩ = some (.slice none 0 0) := (blk_cell BK203.out 1).trans rfl; have hfz15_0 := blk_frozen BK203.out 0; have hfz15_1 := blk_frozen BK203.out 1; obtain ⟨Ao16, co16, eo16⟩ := Kd.R_slice HO201.out; subst eo16) | ((with_reducible refine gate_callee (f := 25) rfl ?_); refine goesL_ (some 34) rfl rfl Try.func25 (by kernel_rfl) rfl #[.agg #[.int .i64 t198, .slice Ao16 t199.length co16], .slice A1 l1.length c1] rfl (by (try simp only [List.map_toArray, List.map_cons, List.map_nil]); first | done | rfl | (simp only [List.length_drop, List.length_take]; rfl)) ?_; (with_reducible refine (hll_AddAll.calls k t198 _ _ t199 _ _ l1 t204 t205 t208 _ ?side1 ?side2 ?side3 ?side4 A10.out).mono ?_); (case side1 => refine (Kd.R_reads' (e := 32) (base := w.heap.size) (ok := fun k_ => True) (n := t199.length) (c := co16) ?_).2.2; exact (by (with_reducible repeat (first | apply Kd.R_alloc | apply Kd.R_drewN | apply Kd.R_drew)); exact (Kd.R_mono (Kd.R_far (p := ⟨gb203, 1, none⟩) (Kd.R_far (p := ⟨gb203, 0, none⟩) (Kd.R_types HO201.out BK203.out (by decide)) (fun _ hk => hk.2) (.int .i64 t198)) (fun _ hk => hk.2) (.slice Ao16 t199.length co16)) (fun _ h_ => h_.1)))); (case side2 => exact (Kd.R_reads' HO201.out).2.1); (case side3 => exact Kd.C_below HR1.out (by repeat (first | (with_reducible first | exact HB.out | apply below_alloc | apply pw_below_drewN | apply below_drew1 | refine below_set ?_ GE203.out) | exact HB.out))); (case side4 => exact HC1.out); rintro e w17 ⟨v206, rfl, ho0, hb⟩; refine ⟨_, rfl, ?_⟩; have n0_ := Aside0.mk (Kd.R_elder' (by (with_reducible repeat (first | apply Kd.R_alloc | apply Kd.R_drewN | apply Kd.R_drew)); exact (Kd.R_mono (Kd.R_far (p := ⟨gb203, 1, none⟩) (Kd.R_far (p := ⟨gb203, 0, none⟩) (Kd.R_types HO201.out BK203.out (by decide)) (fun _ hk => hk.2) (.int .i64 t198)) (fun _ hk => hk.2) (.slice Ao16 t199.length co16)) (fun _ h_ => h_.1))) (Kd.R_base ho0) hb); have n1_ := Aside0.mk (Kd.R_lower (Kd.R_new' ho0 (Kd.R_lt (by (with_reducible repeat (first | apply Kd.R_alloc | apply Kd.R_drewN | apply Kd.R_drew)); exact (Kd.R_mono (Kd.R_far (p := ⟨gb203, 1, none⟩) (Kd.R_far (p := ⟨gb203, 0, none⟩) (Kd.R_types HO201.out BK203.out (by decide)) (fun _ hk => hk.2) (.int .i64 t198)) (fun _ hk => hk.2) (.slice Ao16 t199.length co16)) (fun _ h_ => h_.1))))) (below_size (by repeat (first | (with_reducible first | exact HB.out | apply below_alloc | apply pw_below_drewN | apply below_drew1 | refine below_set ?_ GE203.out) | exact HB.out)))); have n2_ := Aside0.mk (blk_below (g := gb203) (o := .cells #[.int .i64 t198, .slice Ao16 t199.length co16] 30 (0, 0)) (by (with_reducible repeat (first | refine blk_drewN ?_ _ | refine blk_drew ?_ | refine blk_alloc ?_ _)); refine blk_put (cs := #[.int .i64 t198, .slice none 0 0]) ?_ 1 _ rfl; (with_reducible repeat (first | refine blk_drewN ?_ _ | refine blk_drew ?_ | refine blk_alloc ?_ _)); refine blk_put (cs := #[.int .i64 0, .slice none 0 0]) ?_ 0 _ rfl; (with_reducible repeat (first | refine blk_drewN ?_ _ | refine blk_drew ?_ | refine blk_alloc ?_ _)); exact BK203.out) hb); have n3_ := Aside0.mk (below_step (by repeat (first | (with_reducible first | exact HB.out | apply below_alloc | apply pw_below_drewN | apply below_drew1 | refine below_set ?_ GE203.out) | exact HB.out)) hb); clear HO201; clear BK203; clear HB; have HO201 := n0_; have HO207 := n1_; have BK203 := n2_; have HB := n3_; clear n0_ n1_ n2_ n3_; (try clear hb); (try clear hb2); (try clear hk); (try clear hi); (try clear ho0); have hcz18_0 : w17.cell? ⟨gb203, 0, none⟩ = some (.int .i64 t198) := (blk_cell BK203.out 0).trans rfl; have hcz18_1 : w17.cell? ⟨gb203, 1, none⟩ = some (.slice Ao16 t199.length co16) := (blk_cell BK203.out 1).trans rfl; have hfz18_0 := blk_frozen BK203.out 0; have hfz18_1 := blk_frozen BK203.out 1; obtain ⟨Ao19, co19, eo19⟩ := Kd.R_slice HO207.out; subst eo19) | ((with_reducible refine gate_dst (N := 39) rfl ?_); refine makeM_event (N := 39) rfl rfl rfl ?_; intro mb hmb w18 hom hb; have n0_ := Aside0.mk (Kd.R_below (by (with_reducible repeat (first | apply Kd.R_alloc | apply Kd.R_drewN | apply Kd.R_drew)); exact Kd.R_mono (Kd.R_far (p := ⟨gb203, 1, none⟩) (Kd.R_far (p := ⟨gb203, 0, none⟩) (Kd.R_types HO207.out BK203.out (by decide)) (fun _ hk => hk.2) (.int .i64 t204)) (fun _ hk => hk.2) (.slice Ao19 t205.length co19)) (fun _ hk => trivial)) hb); have n1_ := Aside0.mk (blk_below (g := gb203) (o := .cells #[.int .i64 t204, .slice Ao19 t205.length co19] 30 (0, 0)) (by (with_reducible repeat (first | refine blk_drewN ?_ _ | refine blk_drew ?_ | refine blk_alloc ?_ _)); refine blk_put (cs := #[.int .i64 t204, .slice Ao16 t199.length co16]) ?_ 1 _ rfl; (with_reducible repeat (first | refine blk_drewN ?_ _ | refine blk_drew ?_ | refine blk_alloc ?_ _)); refine blk_put (cs := #[.int .i64 t198, .slice Ao16 t199.length co16]) ?_ 0 _ rfl; (with_reducible repeat (first | refine blk_drewN ?_ _ | refine blk_drew ?_ | refine blk_alloc ?_ _)); exact BK203.out) hb); have n2_ := Aside0.mk (below_step (by repeat (first | (with_reducible first | exact HB.out | apply below_alloc | apply pw_below_drewN | apply below_drew1 | refine below_set ?_ GE203.out) | exact HB.out)) hb); have GMB : Aside0 (w.heap.size ≤ mb) := ⟨by rw [hmb]; exact (below_size (by repeat (first | (with_reducible first | exact HB.out | apply below_alloc | apply pw_below_drewN | apply below_drew1 | refine below_set ?_ GE203.out) | exact HB.out)))⟩; have NGM : Aside0 (gb203 ≠ mb) := ⟨blk_ne_new (o := .cells #[.int .i64 t204, .slice Ao19 t205.length co19] 30 (0, 0)) hmb (by (with_reducible repeat (first | refine blk_drewN ?_ _ | refine blk_drew ?_ | refine blk_alloc ?_ _)); refine blk_put (cs := #[.int .i64 t204, .slice Ao16 t199.length co16]) ?_ 1 _ rfl; (with_reducible repeat (first | refine blk_drewN ?_ _ | refine blk_drew ?_ | refine blk_alloc ?_ _)); refine blk_put (cs := #[.int .i64 t198, .slice Ao16 t199.length co16]) ?_ 0 _ rfl; (with_reducible repeat (first | refine blk_drewN ?_ _ | refine blk_drew ?_ | refine blk_alloc ?_ _)); exact BK203.out)⟩; clear HO207; clear BK203; clear HB; have HO207 := n0_; have BK203 := n1_; have HB := n2_; have HOM := Aside0.mk hom; clear n0_ n1_ n2_; clear hb hom hmb))
          go_loopg [8] k (fun kq v8 w' => ∃ (x7_1 : List (S32)) (x8_1 : Int), v8 = .int .i64 x8_1 ∧ Aside0 (OwnsM w' mb x7_1.length x7_1 ∧ (x7_1.length : Int) = x8_1) ∧ Aside0 (tallymanlaw14_HllRanks.l0 kq (wrap64 (4 + t197)) l1 x7_1 x8_1 t204 t205 = some r) ∧ Aside0 (kq ≤ k) ∧ Aside0 (Kd.R k32 32 w' w.heap.size (fun _ => True) (.slice Ao19 t205.length co19) t205) ∧ Aside0 (w'.heap[gb203]? = some (.cells #[.int .i64 t204, (.slice Ao19 t205.length co19)] 30 (0, 0))) ∧ Aside0 (Below w.heap.size w w'))
          case atStart => exact ⟨[], (0), (by first | rfl | (simp; done) | (simp [*]; done)), ⟨HOM.out, rfl⟩, H', ⟨Nat.le_refl _⟩, ⟨HO207.out⟩, ⟨BK203.out⟩, ⟨HB.out⟩⟩
          case round =>
            clear H'
            try clear c1
            try clear c2
            try clear p2
            try clear c4
            try clear c5
            try clear c5b0
            try clear c5b1
            try clear c6
            try clear p6
            try clear c9
            try clear c9b0
            try clear c9b1
            try clear c11
            try clear c11b0
            try clear c11b1
            try clear c17
            try clear hcz15_0
            try clear hcz15_1
            try clear hcz18_0
            try clear hcz18_1
            try clear hfz15_0
            try clear hfz15_1
            try clear hfz18_0
            try clear hfz18_1
            obtain ⟨x7_1, x8_1, rfl, HOM, HA, HK1, HO_204001, BK203, HB⟩ := hrel
            cases gk with
            | zero => exact absurd HA.out (by simp [tallymanlaw14_HllRanks.l0])
            | succ k1 =>
              have H := HA.out
              clear HA
              simp only [tallymanlaw14_HllRanks.l0] at H
              by_cases c20 : x8_1 < (l1.length : Int)
              · rw [if_pos c20] at H
                have c20b0 : decide (x8_1 < (l1.length : Int)) = true := decide_eq_true c20
                clear c20
                by_cases c21 : 0 ≤ x8_1
                · rw [if_pos c21] at H
                  have c21b0 : decide (0 ≤ x8_1) = true := decide_eq_true c21
                  clear c21
                  replace H := Option.bind_eq_some_iff.mp H
                  obtain ⟨⟨t210, t211, t212⟩, A220, H⟩ := H
                  replace H : (if t212 = 0 then (if t210 < 0 then (none) else (if 0 ≤ (IntKind.u64.wrap ((wrap64 (4 + t197)))) then (if t210 ≥ (shl .i64 1 (IntKind.u64.wrap ((wrap64 (4 + t197))))) then (none) else (if t211 < 1 then (none) else (if t211 > (wrap64 (65 - (wrap64 (4 + t197)))) then (none) else (tallymanlaw14_HllRanks.l0 k1 (wrap64 (4 + t197)) l1 (mput x7_1 t210 (mx (mget x7_1 t210) t211)) (wrap64 (x8_1 + 1)) t204 t205)))) else (none))) else (none)) = some r := H
                  have A22 := Aside0.mk A220
                  clear A220
                  by_cases c23 : t212 = 0
                  · rw [if_pos c23] at H
                    have c23b0 : (t212 == 0) = true := beq_iff_eq.mpr c23
                    have c23b1 : (t212 != 0) = false := bne_eq_false_iff_eq.mpr c23
                    clear c23
                    by_cases c24 : t210 < 0
                    · rw [if_pos c24] at H
                      exact absurd H (by simp)
                    · rw [if_neg c24] at H
                      have c24b0 : decide (t210 < 0) = false := decide_eq_false c24
                      clear c24
                      obtain ⟨ji25, hji25⟩ : ∃ j_ : Int, (IntKind.u64.wrap ((wrap64 (4 + t197)))) = j_ := ⟨_, rfl⟩
                      replace H : (if 0 ≤ (ji25) then (if t210 ≥ (shl .i64 1 (ji25)) then (none) else (if t211 < 1 then (none) else (if t211 > (wrap64 (65 - (wrap64 (4 + t197)))) then (none) else (tallymanlaw14_HllRanks.l0 k1 (wrap64 (4 + t197)) l1 (mput x7_1 t210 (mx (mget x7_1 t210) t211)) (wrap64 (x8_1 + 1)) t204 t205)))) else (none)) = some r := by first | (rw [hji25] at H; exact H) | (simp only [hji25] at H ⊢; exact H)
                      (try rw [hji25] at A22)
                      by_cases c26 : 0 ≤ (ji25)
                      · rw [if_pos c26] at H
                        have c26b0 := eq_true c26
                        have c26b1 : decide (0 ≤ (ji25)) = true := decide_eq_true c26
                        clear c26
                        obtain ⟨ji27, hji27⟩ : ∃ j_ : Int, (shl .i64 1 (ji25)) = j_ := ⟨_, rfl⟩
                        replace H : (if t210 ≥ (ji27) then (none) else (if t211 < 1 then (none) else (if t211 > (wrap64 (65 - (wrap64 (4 + t197)))) then (none) else (tallymanlaw14_HllRanks.l0 k1 (wrap64 (4 + t197)) l1 (mput x7_1 t210 (mx (mget x7_1 t210) t211)) (wrap64 (x8_1 + 1)) t204 t205)))) = some r := by first | (rw [hji27] at H; exact H) | (simp only [hji27] at H ⊢; exact H)
                        (try rw [hji27] at A22)
                        have hji27_ : (IntKind.i64.wrap (1 * 2 ^ min (ji25).toNat 64)) = ji27 := hji27
                        have hji27z : (ji25) ≤ 64 → (IntKind.i64.wrap (1 * 2 ^ (ji25).toNat)) = ji27 := shl_small hji27
                        have hji27u : (IntKind.i64.wrap (2 ^ min (ji25).toNat 64)) = ji27 := by have h_ := hji27_; rw [Int.one_mul] at h_; exact h_
                        have hji27v : (ji25) ≤ 64 → (IntKind.i64.wrap (2 ^ (ji25).toNat)) = ji27 := fun hle_ => by have h_ := hji27z hle_; rw [Int.one_mul] at h_; exact h_
                        have hji27y : (wrap64 (1 * 2 ^ min (ji25).toNat 64)) = ji27 := (i64_w _).symm.trans hji27_
                        have hji27x : (ji25) ≤ 64 → (wrap64 (1 * 2 ^ (ji25).toNat)) = ji27 := fun h_ => (i64_w _).symm.trans (hji27z h_)
                        by_cases c28 : t210 ≥ (ji27)
                        · rw [if_pos c28] at H
                          exact absurd H (by simp)
                        · rw [if_neg c28] at H
                          have c28b0 : decide ((ji27) ≤ t210) = false := decide_eq_false c28
                          clear c28
                          by_cases c29 : t211 < 1
                          · rw [if_pos c29] at H
                            exact absurd H (by simp)
                          · rw [if_neg c29] at H
                            have c29b0 : decide (t211 < 1) = false := decide_eq_false c29
                            clear c29
                            by_cases c30 : t211 > (wrap64 (65 - (wrap64 (4 + t197))))
                            · rw [if_pos c30] at H
                              exact absurd H (by simp)
                            · rw [if_neg c30] at H
                              have c30b0 : decide ((wrap64 (65 - (wrap64 (4 + t197)))) < t211) = false := decide_eq_false c30
                              clear c30
                              obtain ⟨ji31, hji31⟩ : ∃ j_ : Int, (mx (mget x7_1 t210) t211) = j_ := ⟨_, rfl⟩
                              replace H : (tallymanlaw14_HllRanks.l0 k1 (wrap64 (4 + t197)) l1 (mput x7_1 t210 (ji31)) (wrap64 (x8_1 + 1)) t204 t205) = some r := by first | (rw [hji31] at H; exact H) | (simp only [hji31] at H ⊢; exact H)
                              (try rw [hji31] at A22)
                              have hji31_ : (if (mget x7_1 t210) < t211 then t211 else (mget x7_1 t210)) = ji31 := hji31
                              have H' := Aside0.mk H
                              clear H
                              have p209 : 0 ≤ (x8_1 : Int) := of_decide_eq_true (by first | (with_reducible assumption) | assumption)
                              have q209 : x8_1 < (l1.length : Int) := of_decide_eq_true (by first | (with_reducible assumption) | assumption)
                              obtain ⟨ad209, e209, hx209_0⟩ := Kd.at_int HR1.out x8_1 p209 q209
                              cases e209
                              replace hx209_0 := (HB.out.cell (World.block_lt_of_cell? w _ hx209_0)).trans hx209_0
                              replace p209 := eq_true p209
                              replace q209 := eq_true q209
                              have WK : Aside0 ((Lit.int .i64 t210).wf = true) := ⟨wf_below_shl hji27 c24b0 c28b0⟩
                              have WV : Aside0 ((Lit.int .i64 ji31).wf = true) := ⟨wf_mx hji31 (lookM HOM.out.1 WK.out).2 (wf_below_wrap c29b0 c30b0)⟩
                              go_wp2_with (first | ((with_reducible refine gate_callee (f := 26) rfl ?_); refine goesL_ (some 52) rfl rfl Try.func26 (by kernel_rfl) rfl #[.int .i64 (wrap64 (4 + t197)), .int .u64 (rd l1 x8_1)] rfl (by (try simp only [List.map_toArray, List.map_cons, List.map_nil]); first | done | rfl | (simp only [List.length_drop, List.length_take]; rfl)) ?_; (with_reducible refine (hll_Split.calls (wrap64 (4 + t197)) (rd l1 x8_1) t210 t211 t212 _ A22.out).mono ?_); rintro e w32 ⟨rfl, hb⟩; refine ⟨_, rfl, ?_⟩; have n0_ := Aside0.mk (Kd.R_below (by (with_reducible repeat (first | apply Kd.R_alloc | apply Kd.R_drewN | apply Kd.R_drew)); exact HO_204001.out) hb); have n1_ := Aside0.mk (blk_below (g := gb203) (o := .cells #[.int .i64 t204, .slice Ao19 t205.length co19] 30 (0, 0)) (by (with_reducible repeat (first | refine blk_drewN ?_ _ | refine blk_drew ?_ | refine blk_alloc ?_ _)); exact BK203.out) hb); have n2_ := Aside0.mk (below_step (by repeat (first | (with_reducible first | exact HB.out | apply below_alloc | apply pw_below_drewN | apply below_drew1 | refine below_set ?_ GE203.out) | exact HB.out)) hb); have n3_ : Aside0 (OwnsM w32 mb x7_1.length x7_1 ∧ (x7_1.length : Int) = x8_1) := ⟨OwnsM.below HOM.out.1 hb, HOM.out.2⟩; clear HOM; have HOM := n3_; clear n3_; have hlk := (lookM HOM.out.1 WK.out).1; clear HO_204001; clear BK203; clear HB; have HO_204001 := n0_; have BK203 := n1_; have HB := n2_; clear n0_ n1_ n2_; (try clear hb); (try clear hb2); (try clear hk); (try clear hi)) | (at_mapUpdate; refine putM_event rfl rfl (mb := mb) (n := x7_1.length) (M := x7_1) (kx := t210) (kv := ji31) ?hm HOM.out.1 (room_len HOM.out.2 c20b0 C5.out) ?hx ?hv WK.out WV.out ?_; (case hm => rfl); (case hx => rfl); (case hv => first | rfl | (go_simp; done) | (go_simp; rfl)); intro w33 hom hgr; have n0_ := Aside0.mk (R_mapO (by (with_reducible repeat (first | apply Kd.R_alloc | apply Kd.R_drewN | apply Kd.R_drew)); exact HO_204001.out) HOM.out.1 hgr); have n1_ := Aside0.mk (blk_grown (g := gb203) (o := .cells #[.int .i64 t204, .slice Ao19 t205.length co19] 30 (0, 0)) BK203.out hgr NGM.out); have n2_ : Aside0 (Below w.heap.size w w33) := ⟨HB.out.grown hgr (below_size HB.out) (fun k hk => by injection hk with hk; rw [← hk]; exact GMB.out)⟩; have n3_ : Aside0 (OwnsM w33 mb (mput x7_1 t210 ji31).length (mput x7_1 t210 ji31)) := ⟨by rw [show (mput x7_1 t210 ji31).length = x7_1.length + 1 by simp [mput]]; exact hom⟩; have HLM := Aside0.mk HOM.out.2; clear HO_204001; clear BK203; clear HB; clear HOM; have HO_204001 := n0_; have BK203 := n1_; have HB := n2_; have HOM := n3_; clear n0_ n1_ n2_ n3_; clear hom hgr hlk))
                              go_roundg k1
                              case measure => have := HK1.out; omega
                              case rel => exact ⟨(mput x7_1 t210 (ji31)), (wrap64 (x8_1 + 1)), (by first | rfl | (simp; done) | (simp [*]; done)), ⟨HOM.out, mput_len HLM.out c20b0 C5.out⟩, H', ⟨by have := HK1.out; omega⟩, ⟨by (with_reducible repeat (first | apply Kd.R_alloc | apply Kd.R_drewN | apply Kd.R_drew)); exact HO_204001.out⟩, ⟨by (with_reducible repeat (first | refine blk_drewN ?_ _ | refine blk_drew ?_ | refine blk_alloc ?_ _)); exact BK203.out⟩, ⟨by repeat (first | (with_reducible first | exact HB.out | apply below_alloc | apply pw_below_drewN | apply below_drew1 | refine below_set ?_ GE203.out) | exact HB.out)⟩⟩
                      · rw [if_neg c26] at H
                        exact absurd H (by simp)
                  · rw [if_neg c23] at H
                    exact absurd H (by simp)
                · rw [if_neg c21] at H
                  exact absurd H (by simp)
              · rw [if_neg c20] at H
                have c20b0 : decide (x8_1 < (l1.length : Int)) = false := decide_eq_false c20
                clear c20
                have H' := Aside0.mk H
                clear H
                go_wp2
                go_loopg [12] k1 (fun kq v12 w' => ∃ (x12_2 : Int), v12 = .int .i64 x12_2 ∧ Aside0 (OwnsM w' mb x7_1.length x7_1) ∧ Aside0 (tallymanlaw14_HllRanks.l1 kq (wrap64 (4 + t197)) l1 x7_1 x12_2 t204 t205 = some r) ∧ Aside0 (kq ≤ k1) ∧ Aside0 (Kd.R k32 32 w' w.heap.size (fun _ => True) (.slice Ao19 t205.length co19) t205) ∧ Aside0 (w'.heap[gb203]? = some (.cells #[.int .i64 t204, (.slice Ao19 t205.length co19)] 30 (0, 0))) ∧ Aside0 (Below w.heap.size w w'))
                case atStart => exact ⟨(0), (by first | rfl | (simp; done) | (simp [*]; done)), ⟨HOM.out.1⟩, H', ⟨Nat.le_refl _⟩, ⟨by (with_reducible repeat (first | apply Kd.R_alloc | apply Kd.R_drewN | apply Kd.R_drew)); exact HO_204001.out⟩, ⟨by (with_reducible repeat (first | refine blk_drewN ?_ _ | refine blk_drew ?_ | refine blk_alloc ?_ _)); exact BK203.out⟩, ⟨by repeat (first | (with_reducible first | exact HB.out | apply below_alloc | apply pw_below_drewN | apply below_drew1 | refine below_set ?_ GE203.out) | exact HB.out)⟩⟩
                case round =>
                  clear H'
                  try clear c1
                  try clear c2
                  try clear p2
                  try clear q2
                  try clear hx2
                  try clear c3
                  try clear c4
                  try clear c5
                  try clear c5b0
                  try clear c5b1
                  try clear c6
                  try clear p6
                  try clear c9
                  try clear c9b0
                  try clear c9b1
                  try clear c11
                  try clear c11b0
                  try clear c11b1
                  try clear c17
                  try clear c20
                  try clear c20b0
                  try clear p20
                  try clear q20
                  try clear hx20
                  try clear c21
                  try clear c21b0
                  try clear c23
                  try clear c23b0
                  try clear c23b1
                  try clear c24
                  try clear c24b0
                  try clear c25
                  try clear c26
                  try clear c26b0
                  try clear c26b1
                  try clear c28
                  try clear c28b0
                  try clear c29
                  try clear c29b0
                  try clear c30
                  try clear c30b0
                  try clear hcz15_0
                  try clear hcz15_1
                  try clear hcz18_0
                  try clear hcz18_1
                  try clear hfz15_0
                  try clear hfz15_1
                  try clear hfz18_0
                  try clear hfz18_1
                  try clear hx209_0
                  try clear p2
                  try clear p209
                  try clear p6
                  try clear q209
                  obtain ⟨x12_2, rfl, HOM, HA, HK2, HO_204001, BK203, HB⟩ := hrel
                  cases gk with
                  | zero => exact absurd HA.out (by simp [tallymanlaw14_HllRanks.l1])
                  | succ k2 =>
                    have H := HA.out
                    clear HA
                    simp only [tallymanlaw14_HllRanks.l1] at H
                    by_cases c33 : x12_2 < (t205.length : Int)
                    · rw [if_pos c33] at H
                      have c33b0 : decide (x12_2 < (t205.length : Int)) = true := decide_eq_true c33
                      clear c33
                      by_cases c34 : 0 ≤ x12_2
                      · rw [if_pos c34] at H
                        have c34b0 : decide (0 ≤ x12_2) = true := decide_eq_true c34
                        clear c34
                        by_cases c35 : (mget x7_1 ((rd_T32 t205 x12_2).f0)) = ((rd_T32 t205 x12_2).f1) ∧ (Lit.int .i64 ((rd_T32 t205 x12_2).f0)).wf = true
                        · rw [if_pos c35] at H
                          have WK2 := Aside0.mk c35.2
                          replace c35 := c35.1
                          have c35b0 : ((mget x7_1 ((rd_T32 t205 x12_2).f0)) == ((rd_T32 t205 x12_2).f1)) = true := beq_iff_eq.mpr c35
                          have c35b1 : ((mget x7_1 ((rd_T32 t205 x12_2).f0)) != ((rd_T32 t205 x12_2).f1)) = false := bne_eq_false_iff_eq.mpr c35
                          clear c35
                          replace H := Option.bind_eq_some_iff.mp H
                          obtain ⟨t216, A360, H⟩ := H
                          replace H : (if t216 = ((rd_T32 t205 x12_2).f1) then (tallymanlaw14_HllRanks.l1 k2 (wrap64 (4 + t197)) l1 x7_1 (wrap64 (x12_2 + 1)) t204 t205) else (none)) = some r := H
                          have A36 := Aside0.mk A360
                          clear A360
                          by_cases c37 : t216 = ((rd_T32 t205 x12_2).f1)
                          · rw [if_pos c37] at H
                            have c37b0 : (t216 == ((rd_T32 t205 x12_2).f1)) = true := beq_iff_eq.mpr c37
                            have c37b1 : (t216 != ((rd_T32 t205 x12_2).f1)) = false := bne_eq_false_iff_eq.mpr c37
                            clear c37
                            have H' := Aside0.mk H
                            clear H
                            have hcz38_0 : wr.cell? ⟨gb203, 0, none⟩ = some (.int .i64 t204) := (blk_cell BK203.out 0).trans rfl
                            have hcz38_1 : wr.cell? ⟨gb203, 1, none⟩ = some (.slice Ao19 t205.length co19) := (blk_cell BK203.out 1).trans rfl
                            have hfz38_0 := blk_frozen BK203.out 0
                            have hfz38_1 := blk_frozen BK203.out 1
                            try go_wp2
                            have n0_ := Aside0.mk (Kd.R_drew HO_204001.out)
                            have HOM : Aside0 (OwnsM wr.drew mb x7_1.length x7_1) := HOM
                            have n1_ := Aside0.mk (blk_drew BK203.out)
                            have n2_ := Aside0.mk (below_drew1 HB.out)
                            clear HO_204001
                            clear BK203
                            clear HB
                            have HO_204001 := n0_
                            have BK203 := n1_
                            have HB := n2_
                            clear n0_ n1_ n2_
                            have p213 : 0 ≤ (x12_2 : Int) := of_decide_eq_true (by first | (with_reducible assumption) | assumption)
                            have q213 : x12_2 < (t205.length : Int) := of_decide_eq_true (by first | (with_reducible assumption) | assumption)
                            obtain ⟨ad213, e213, hx213_0, hx213_1⟩ := at_T32 (Kd.R_reads' HO_204001.out).2.2 x12_2 p213 q213
                            cases e213
                            replace p213 := eq_true p213
                            replace q213 := eq_true q213
                            have p214 : 0 ≤ (x12_2 : Int) := of_decide_eq_true (by first | (with_reducible assumption) | assumption)
                            have q214 : x12_2 < (t205.length : Int) := of_decide_eq_true (by first | (with_reducible assumption) | assumption)
                            obtain ⟨ad214, e214, hx214_0, hx214_1⟩ := at_T32 (Kd.R_reads' HO_204001.out).2.2 x12_2 p214 q214
                            obtain rfl : ad213 = ad214 := (by injection e214)
                            replace p214 := eq_true p214
                            replace q214 := eq_true q214
                            have p215 : 0 ≤ (x12_2 : Int) := of_decide_eq_true (by first | (with_reducible assumption) | assumption)
                            have q215 : x12_2 < (t205.length : Int) := of_decide_eq_true (by first | (with_reducible assumption) | assumption)
                            obtain ⟨ad215, e215, hx215_0, hx215_1⟩ := at_T32 (Kd.R_reads' HO_204001.out).2.2 x12_2 p215 q215
                            obtain rfl : ad213 = ad215 := (by injection e215)
                            replace p215 := eq_true p215
                            replace q215 := eq_true q215
                            have p217 : 0 ≤ (x12_2 : Int) := of_decide_eq_true (by first | (with_reducible assumption) | assumption)
                            have q217 : x12_2 < (t205.length : Int) := of_decide_eq_true (by first | (with_reducible assumption) | assumption)
                            obtain ⟨ad217, e217, hx217_0, hx217_1⟩ := at_T32 (Kd.R_reads' HO_204001.out).2.2 x12_2 p217 q217
                            obtain rfl : ad213 = ad217 := (by injection e217)
                            replace p217 := eq_true p217
                            replace q217 := eq_true q217
                            refine start_ (n := 32) (S := fun w' => w'.cell? ⟨gb203, 0, none⟩ = some (.int .i64 t204) ∧ w'.cell? ⟨gb203, 1, none⟩ = some (.slice (some ad213) t205.length co19) ∧ w'.cell? (ad213.add ((x12_2).toNat * 2)) = some (.int .i64 ((rd_T32 t205 x12_2).f0)) ∧ w'.cell? ⟨(ad213.add ((x12_2).toNat * 2)).block, (ad213.add ((x12_2).toNat * 2)).off + 1, none⟩ = some (.int .i64 ((rd_T32 t205 x12_2).f1)) ∧ w'.cell? (ad213.add ((x12_2).toNat * 2)) = some (.int .i64 ((rd_T32 t205 x12_2).f0)) ∧ w'.cell? ⟨(ad213.add ((x12_2).toNat * 2)).block, (ad213.add ((x12_2).toNat * 2)).off + 1, none⟩ = some (.int .i64 ((rd_T32 t205 x12_2).f1)) ∧ w'.cell? (ad213.add ((x12_2).toNat * 2)) = some (.int .i64 ((rd_T32 t205 x12_2).f0)) ∧ w'.cell? ⟨(ad213.add ((x12_2).toNat * 2)).block, (ad213.add ((x12_2).toNat * 2)).off + 1, none⟩ = some (.int .i64 ((rd_T32 t205 x12_2).f1)) ∧ w'.cell? (ad213.add ((x12_2).toNat * 2)) = some (.int .i64 ((rd_T32 t205 x12_2).f0)) ∧ w'.cell? ⟨(ad213.add ((x12_2).toNat * 2)).block, (ad213.add ((x12_2).toNat * 2)).off + 1, none⟩ = some (.int .i64 ((rd_T32 t205 x12_2).f1)) ∧ OwnsM w' mb x7_1.length x7_1) (ds := []) #[false, false, false, false, false, false, false, false, false, false, false, false, false, false, false, false, false, false, false, false, false, false, false, false, false, false, false, false, false, false, false, false] (by kernel_rfl) rfl rfl ⟨(blk_cell BK203.out 0).trans rfl, (blk_cell BK203.out 1).trans rfl, hx213_0, hx213_1, hx214_0, hx214_1, hx215_0, hx215_1, hx217_0, hx217_1, HOM.out⟩ (fun hHeld => ?_); refine with_tabW tallymanlaw14_HllRanks.tab23 tallymanlaw14_HllRanks.bits23 (fun HT_ HW_ => ?_)
                            generalize wr.drew = w39 at HOM HO_204001 BK203 HB hx213_0 hx213_1 hx214_0 hx214_1 hx215_0 hx215_1 hx217_0 hx217_1 hHeld ⊢
                            refine pure_ (i := 0) (N := some 93) (v := ?_) (a' := ?_) #[true, false, false, false, false, false, false, false, false, false, false, false, false, false, false, false, false, false, false, false, false, false, false, false, false, false, false, false, false, false, false, false] rfl rfl (any_of HT_.out (by kernel_rfl)) (fun _ _ _ h => h) (Or.inl ⟨by rfl, ?_⟩) ?_ ?_
                            rotate_left
                            · intro w'
                              go_simp
                              with_reducible rfl
                            rotate_left
                            · simp only [Act.put, List.setIfInBounds_toArray, List.set_cons_zero, List.set_cons_succ, i64_w, i32_w]
                              rfl
                            refine pure_ (i := 1) (N := some 94) (v := ?_) (a' := ?_) #[true, true, false, false, false, false, false, false, false, false, false, false, false, false, false, false, false, false, false, false, false, false, false, false, false, false, false, false, false, false, false, false] rfl rfl (any_of HT_.out (by kernel_rfl)) (fun _ _ _ h => h) (Or.inl ⟨by rfl, ?_⟩) ?_ ?_
                            rotate_left
                            · intro w'
                              go_simp
                              with_reducible rfl
                            rotate_left
                            · simp only [Act.put, List.setIfInBounds_toArray, List.set_cons_zero, List.set_cons_succ, i64_w, i32_w]
                              rfl
                            refine pure_ (i := 3) (N := some 96) (v := ?_) (a' := ?_) #[true, true, false, true, false, false, false, false, false, false, false, false, false, false, false, false, false, false, false, false, false, false, false, false, false, false, false, false, false, false, false, false] rfl rfl (any_of HT_.out (by kernel_rfl)) (fun _ _ _ h => h) (Or.inl ⟨by rfl, ?_⟩) ?_ ?_
                            rotate_left
                            · intro w'
                              go_simp
                              with_reducible rfl
                            rotate_left
                            · simp only [Act.put, List.setIfInBounds_toArray, List.set_cons_zero, List.set_cons_succ, i64_w, i32_w]
                              rfl
                            refine pure_ (i := 8) (N := some 101) (v := ?_) (a' := ?_) #[true, true, false, true, false, false, false, false, true, false, false, false, false, false, false, false, false, false, false, false, false, false, false, false, false, false, false, false, false, false, false, false] rfl rfl (any_of HT_.out (by kernel_rfl)) (fun _ _ _ h => h) (Or.inl ⟨by rfl, ?_⟩) ?_ ?_
                            rotate_left
                            · intro w'
                              go_simp
                              with_reducible rfl
                            rotate_left
                            · simp only [Act.put, List.setIfInBounds_toArray, List.set_cons_zero, List.set_cons_succ, i64_w, i32_w]
                              rfl
                            refine pure_ (i := 10) (N := some 103) (v := ?_) (a' := ?_) #[true, true, false, true, false, false, false, false, true, false, true, false, false, false, false, false, false, false, false, false, false, false, false, false, false, false, false, false, false, false, false, false] rfl rfl (any_of HT_.out (by kernel_rfl)) (fun _ _ _ h => h) (Or.inl ⟨by rfl, ?_⟩) ?_ ?_
                            rotate_left
                            · intro w'
                              go_simp
                              with_reducible rfl
                            rotate_left
                            · simp only [Act.put, List.setIfInBounds_toArray, List.set_cons_zero, List.set_cons_succ, i64_w, i32_w]
                              rfl
                            refine take_ (i := 2) (N := some 95) (v := ?_) (a' := ?_) #[true, true, true, true, false, false, false, false, true, false, true, false, false, false, false, false, false, false, false, false, false, false, false, false, false, false, false, false, false, false, false, false] rfl rfl (take_ofW HT_.out HW_.out (by kernel_rfl)) (fun _ _ _ h => h) (Or.inl ⟨by rfl, ?_⟩) hHeld ?_ ?_
                            rotate_left
                            · rintro w' ⟨s0, s1, s2, s3, s4, s5, s6, s7, s8, s9, s10⟩
                              go_simp
                              with_reducible rfl
                            rotate_left
                            · simp only [Act.put, List.setIfInBounds_toArray, List.set_cons_zero, List.set_cons_succ, i64_w, i32_w]
                              rfl
                            refine pure_ (i := 4) (N := some 97) (v := ?_) (a' := ?_) #[true, true, true, true, true, false, false, false, true, false, true, false, false, false, false, false, false, false, false, false, false, false, false, false, false, false, false, false, false, false, false, false] rfl rfl (any_of HT_.out (by kernel_rfl)) (fun _ _ _ h => h) (Or.inl ⟨by rfl, ?_⟩) ?_ ?_
                            rotate_left
                            · intro w'
                              go_simp
                              with_reducible rfl
                            rotate_left
                            · simp only [Act.put, List.setIfInBounds_toArray, List.set_cons_zero, List.set_cons_succ, i64_w, i32_w]
                              rfl
                            refine pure_ (i := 5) (N := some 98) (v := ?_) (a' := ?_) #[true, true, true, true, true, true, false, false, true, false, true, false, false, false, false, false, false, false, false, false, false, false, false, false, false, false, false, false, false, false, false, false] rfl rfl (any_of HT_.out (by kernel_rfl)) (fun _ _ _ h => h) (Or.inl ⟨by rfl, ?_⟩) ?_ ?_
                            rotate_left
                            · intro w'
                              go_simp
                              with_reducible rfl
                            rotate_left
                            · simp only [Act.put, List.setIfInBounds_toArray, List.set_cons_zero, List.set_cons_succ, i64_w, i32_w]
                              rfl
                            refine take_ (i := 6) (N := some 99) (v := ?_) (a' := ?_) #[true, true, true, true, true, true, true, false, true, false, true, false, false, false, false, false, false, false, false, false, false, false, false, false, false, false, false, false, false, false, false, false] rfl rfl (take_ofW HT_.out HW_.out (by kernel_rfl)) (fun _ _ _ h => h) (Or.inl ⟨by rfl, ?_⟩) hHeld ?_ ?_
                            rotate_left
                            · rintro w' ⟨s0, s1, s2, s3, s4, s5, s6, s7, s8, s9, s10⟩
                              go_simp
                              with_reducible rfl
                            rotate_left
                            · simp only [Act.put, List.setIfInBounds_toArray, List.set_cons_zero, List.set_cons_succ, i64_w, i32_w]
                              rfl
                            refine take_ (i := 7) (N := some 100) (v := ?_) (a' := ?_) #[true, true, true, true, true, true, true, true, true, false, true, false, false, false, false, false, false, false, false, false, false, false, false, false, false, false, false, false, false, false, false, false] rfl rfl (take_ofW HT_.out HW_.out (by kernel_rfl)) (fun _ _ _ h => h) (Or.inl ⟨by rfl, ?_⟩) hHeld ?_ ?_
                            rotate_left
                            · rintro w' ⟨s0, s1, s2, s3, s4, s5, s6, s7, s8, s9, s10⟩
                              have hlk := (lookM s10 WK2.out).1
                              go_simp
                              with_reducible rfl
                            rotate_left
                            · simp only [Act.put, List.setIfInBounds_toArray, List.set_cons_zero, List.set_cons_succ, i64_w, i32_w]
                              rfl
                            refine take_ (i := 9) (N := some 102) (v := ?_) (a' := ?_) #[true, true, true, true, true, true, true, true, true, true, true, false, false, false, false, false, false, false, false, false, false, false, false, false, false, false, false, false, false, false, false, false] rfl rfl (take_ofW HT_.out HW_.out (by kernel_rfl)) (fun _ _ _ h => h) (Or.inl ⟨by rfl, ?_⟩) hHeld ?_ ?_
                            rotate_left
                            · rintro w' ⟨s0, s1, s2, s3, s4, s5, s6, s7, s8, s9, s10⟩
                              go_simp
                              with_reducible rfl
                            rotate_left
                            · simp only [Act.put, List.setIfInBounds_toArray, List.set_cons_zero, List.set_cons_succ, i64_w, i32_w]
                              rfl
                            refine pure_ (i := 11) (N := some 104) (v := ?_) (a' := ?_) #[true, true, true, true, true, true, true, true, true, true, true, true, false, false, false, false, false, false, false, false, false, false, false, false, false, false, false, false, false, false, false, false] rfl rfl (any_of HT_.out (by kernel_rfl)) (fun _ _ _ h => h) (Or.inl ⟨by rfl, ?_⟩) ?_ ?_
                            rotate_left
                            · intro w'
                              go_simp
                              with_reducible rfl
                            rotate_left
                            · simp only [Act.put, List.setIfInBounds_toArray, List.set_cons_zero, List.set_cons_succ, i64_w, i32_w]
                              rfl
                            refine pure_ (i := 12) (N := some 105) (v := ?_) (a' := ?_) #[true, true, true, true, true, true, true, true, true, true, true, true, true, false, false, false, false, false, false, false, false, false, false, false, false, false, false, false, false, false, false, false] rfl rfl (any_of HT_.out (by kernel_rfl)) (fun _ _ _ h => h) (Or.inl ⟨by rfl, ?_⟩) ?_ ?_
                            rotate_left
                            · intro w'
                              go_simp
                              with_reducible rfl
                            rotate_left
                            · simp only [Act.put, List.setIfInBounds_toArray, List.set_cons_zero, List.set_cons_succ, i64_w, i32_w]
                              rfl
                            refine take_ (i := 13) (N := some 106) (v := ?_) (a' := ?_) #[true, true, true, true, true, true, true, true, true, true, true, true, true, true, false, false, false, false, false, false, false, false, false, false, false, false, false, false, false, false, false, false] rfl rfl (take_ofW HT_.out HW_.out (by kernel_rfl)) (fun _ _ _ h => h) (Or.inl ⟨by rfl, ?_⟩) hHeld ?_ ?_
                            rotate_left
                            · rintro w' ⟨s0, s1, s2, s3, s4, s5, s6, s7, s8, s9, s10⟩
                              go_simp
                              with_reducible rfl
                            rotate_left
                            · simp only [Act.put, List.setIfInBounds_toArray, List.set_cons_zero, List.set_cons_succ, i64_w, i32_w]
                              rfl
                            refine pure_ (i := 14) (N := some 107) (v := ?_) (a' := ?_) #[true, true, true, true, true, true, true, true, true, true, true, true, true, true, true, false, false, false, false, false, false, false, false, false, false, false, false, false, false, false, false, false] rfl rfl (any_of HT_.out (by kernel_rfl)) (fun _ _ _ h => h) (Or.inl ⟨by rfl, ?_⟩) ?_ ?_
                            rotate_left
                            · intro w'
                              go_simp
                              with_reducible rfl
                            rotate_left
                            · simp only [Act.put, List.setIfInBounds_toArray, List.set_cons_zero, List.set_cons_succ, i64_w, i32_w]
                              rfl
                            refine pure_ (i := 15) (N := some 108) (v := ?_) (a' := ?_) #[true, true, true, true, true, true, true, true, true, true, true, true, true, true, true, true, false, false, false, false, false, false, false, false, false, false, false, false, false, false, false, false] rfl rfl (any_of HT_.out (by kernel_rfl)) (fun _ _ _ h => h) (Or.inl ⟨by rfl, ?_⟩) ?_ ?_
                            rotate_left
                            · intro w'
                              go_simp
                              with_reducible rfl
                            rotate_left
                            · simp only [Act.put, List.setIfInBounds_toArray, List.set_cons_zero, List.set_cons_succ, i64_w, i32_w]
                              rfl
                            refine pure_ (i := 17) (N := some 110) (v := ?_) (a' := ?_) #[true, true, true, true, true, true, true, true, true, true, true, true, true, true, true, true, false, true, false, false, false, false, false, false, false, false, false, false, false, false, false, false] rfl rfl (any_of HT_.out (by kernel_rfl)) (fun _ _ _ h => h) (Or.inl ⟨by rfl, ?_⟩) ?_ ?_
                            rotate_left
                            · intro w'
                              go_simp
                              with_reducible rfl
                            rotate_left
                            · simp only [Act.put, List.setIfInBounds_toArray, List.set_cons_zero, List.set_cons_succ, i64_w, i32_w]
                              rfl
                            refine pure_ (i := 19) (N := some 112) (v := ?_) (a' := ?_) #[true, true, true, true, true, true, true, true, true, true, true, true, true, true, true, true, false, true, false, true, false, false, false, false, false, false, false, false, false, false, false, false] rfl rfl (any_of HT_.out (by kernel_rfl)) (fun _ _ _ h => h) (Or.inl ⟨by rfl, ?_⟩) ?_ ?_
                            rotate_left
                            · intro w'
                              go_simp
                              with_reducible rfl
                            rotate_left
                            · simp only [Act.put, List.setIfInBounds_toArray, List.set_cons_zero, List.set_cons_succ, i64_w, i32_w]
                              rfl
                            refine pure_ (i := 24) (N := some 117) (v := ?_) (a' := ?_) #[true, true, true, true, true, true, true, true, true, true, true, true, true, true, true, true, false, true, false, true, false, false, false, false, true, false, false, false, false, false, false, false] rfl rfl (any_of HT_.out (by kernel_rfl)) (fun _ _ _ h => h) (Or.inl ⟨by rfl, ?_⟩) ?_ ?_
                            rotate_left
                            · intro w'
                              go_simp
                              with_reducible rfl
                            rotate_left
                            · simp only [Act.put, List.setIfInBounds_toArray, List.set_cons_zero, List.set_cons_succ, i64_w, i32_w]
                              rfl
                            refine pure_ (i := 26) (N := some 119) (v := ?_) (a' := ?_) #[true, true, true, true, true, true, true, true, true, true, true, true, true, true, true, true, false, true, false, true, false, false, false, false, true, false, true, false, false, false, false, false] rfl rfl (any_of HT_.out (by kernel_rfl)) (fun _ _ _ h => h) (Or.inl ⟨by rfl, ?_⟩) ?_ ?_
                            rotate_left
                            · intro w'
                              go_simp
                              with_reducible rfl
                            rotate_left
                            · simp only [Act.put, List.setIfInBounds_toArray, List.set_cons_zero, List.set_cons_succ, i64_w, i32_w]
                              rfl
                            refine take_ (i := 16) (N := some 109) (v := ?_) (a' := ?_) #[true, true, true, true, true, true, true, true, true, true, true, true, true, true, true, true, true, true, false, true, false, false, false, false, true, false, true, false, false, false, false, false] rfl rfl (take_ofW HT_.out HW_.out (by kernel_rfl)) (fun _ _ _ h => h) (Or.inl ⟨by rfl, ?_⟩) hHeld ?_ ?_
                            rotate_left
                            · rintro w' ⟨s0, s1, s2, s3, s4, s5, s6, s7, s8, s9, s10⟩
                              go_simp
                              with_reducible rfl
                            rotate_left
                            · simp only [Act.put, List.setIfInBounds_toArray, List.set_cons_zero, List.set_cons_succ, i64_w, i32_w]
                              rfl
                            refine take_ (i := 18) (N := some 111) (v := ?_) (a' := ?_) #[true, true, true, true, true, true, true, true, true, true, true, true, true, true, true, true, true, true, true, true, false, false, false, false, true, false, true, false, false, false, false, false] rfl rfl (take_ofW HT_.out HW_.out (by kernel_rfl)) (fun _ _ _ h => h) (Or.inl ⟨by rfl, ?_⟩) hHeld ?_ ?_
                            rotate_left
                            · rintro w' ⟨s0, s1, s2, s3, s4, s5, s6, s7, s8, s9, s10⟩
                              go_simp
                              with_reducible rfl
                            rotate_left
                            · simp only [Act.put, List.setIfInBounds_toArray, List.set_cons_zero, List.set_cons_succ, i64_w, i32_w]
                              rfl
                            refine pure_ (i := 20) (N := some 113) (v := ?_) (a' := ?_) #[true, true, true, true, true, true, true, true, true, true, true, true, true, true, true, true, true, true, true, true, true, false, false, false, true, false, true, false, false, false, false, false] rfl rfl (any_of HT_.out (by kernel_rfl)) (fun _ _ _ h => h) (Or.inl ⟨by rfl, ?_⟩) ?_ ?_
                            rotate_left
                            · intro w'
                              go_simp
                              with_reducible rfl
                            rotate_left
                            · simp only [Act.put, List.setIfInBounds_toArray, List.set_cons_zero, List.set_cons_succ, i64_w, i32_w]
                              rfl
                            refine pure_ (i := 21) (N := some 114) (v := ?_) (a' := ?_) #[true, true, true, true, true, true, true, true, true, true, true, true, true, true, true, true, true, true, true, true, true, true, false, false, true, false, true, false, false, false, false, false] rfl rfl (any_of HT_.out (by kernel_rfl)) (fun _ _ _ h => h) (Or.inl ⟨by rfl, ?_⟩) ?_ ?_
                            rotate_left
                            · intro w'
                              go_simp
                              with_reducible rfl
                            rotate_left
                            · simp only [Act.put, List.setIfInBounds_toArray, List.set_cons_zero, List.set_cons_succ, i64_w, i32_w]
                              rfl
                            refine take_ (i := 22) (N := some 115) (v := ?_) (a' := ?_) #[true, true, true, true, true, true, true, true, true, true, true, true, true, true, true, true, true, true, true, true, true, true, true, false, true, false, true, false, false, false, false, false] rfl rfl (take_ofW HT_.out HW_.out (by kernel_rfl)) (fun _ _ _ h => h) (Or.inl ⟨by rfl, ?_⟩) hHeld ?_ ?_
                            rotate_left
                            · rintro w' ⟨s0, s1, s2, s3, s4, s5, s6, s7, s8, s9, s10⟩
                              go_simp
                              with_reducible rfl
                            rotate_left
                            · simp only [Act.put, List.setIfInBounds_toArray, List.set_cons_zero, List.set_cons_succ, i64_w, i32_w]
                              rfl
                            refine take_ (i := 25) (N := some 118) (v := ?_) (a' := ?_) #[true, true, true, true, true, true, true, true, true, true, true, true, true, true, true, true, true, true, true, true, true, true, true, false, true, true, true, false, false, false, false, false] rfl rfl (take_ofW HT_.out HW_.out (by kernel_rfl)) (fun _ _ _ h => h) (Or.inl ⟨by rfl, ?_⟩) hHeld ?_ ?_
                            rotate_left
                            · rintro w' ⟨s0, s1, s2, s3, s4, s5, s6, s7, s8, s9, s10⟩
                              go_simp
                              with_reducible rfl
                            rotate_left
                            · simp only [Act.put, List.setIfInBounds_toArray, List.set_cons_zero, List.set_cons_succ, i64_w, i32_w]
                              rfl
                            refine pure_ (i := 27) (N := some 120) (v := ?_) (a' := ?_) #[true, true, true, true, true, true, true, true, true, true, true, true, true, true, true, true, true, true, true, true, true, true, true, false, true, true, true, true, false, false, false, false] rfl rfl (any_of HT_.out (by kernel_rfl)) (fun _ _ _ h => h) (Or.inl ⟨by rfl, ?_⟩) ?_ ?_
                            rotate_left
                            · intro w'
                              go_simp
                              with_reducible rfl
                            rotate_left
                            · simp only [Act.put, List.setIfInBounds_toArray, List.set_cons_zero, List.set_cons_succ, i64_w, i32_w]
                              rfl
                            refine pure_ (i := 28) (N := some 121) (v := ?_) (a' := ?_) #[true, true, true, true, true, true, true, true, true, true, true, true, true, true, true, true, true, true, true, true, true, true, true, false, true, true, true, true, true, false, false, false] rfl rfl (any_of HT_.out (by kernel_rfl)) (fun _ _ _ h => h) (Or.inl ⟨by rfl, ?_⟩) ?_ ?_
                            rotate_left
                            · intro w'
                              go_simp
                              with_reducible rfl
                            rotate_left
                            · simp only [Act.put, List.setIfInBounds_toArray, List.set_cons_zero, List.set_cons_succ, i64_w, i32_w]
                              rfl
                            refine take_ (i := 29) (N := some 122) (v := ?_) (a' := ?_) #[true, true, true, true, true, true, true, true, true, true, true, true, true, true, true, true, true, true, true, true, true, true, true, false, true, true, true, true, true, true, false, false] rfl rfl (take_ofW HT_.out HW_.out (by kernel_rfl)) (fun _ _ _ h => h) (Or.inl ⟨by rfl, ?_⟩) hHeld ?_ ?_
                            rotate_left
                            · rintro w' ⟨s0, s1, s2, s3, s4, s5, s6, s7, s8, s9, s10⟩
                              go_simp
                              with_reducible rfl
                            rotate_left
                            · simp only [Act.put, List.setIfInBounds_toArray, List.set_cons_zero, List.set_cons_succ, i64_w, i32_w]
                              rfl
                            refine one_ (i := 23) (N := some 116) #[true, true, true, true, true, true, true, true, true, true, true, true, true, true, true, true, true, true, true, true, true, true, true, true, true, true, true, true, true, true, false, false] rfl rfl (one_of HT_.out (by kernel_rfl)) (by decide) (fun K hK => ?_)
                            refine goes_ Try.func27 (by kernel_rfl) rfl #[.agg #[.int .i64 t204, .slice (some ad213) t205.length co19], .int .i64 ((rd_T32 t205 x12_2).f0)] (by rfl) rfl rfl (by (try simp only [List.map_toArray, List.map_cons, List.map_nil]); first | done | rfl | (simp only [List.length_drop, List.length_take]; rfl)) ?_
                            with_reducible refine (hll_Get.calls k2 t204 _ _ t205 ((rd_T32 t205 x12_2).f0) t216 _ ?side1 ?side2 A36.out).mono ?_
                            (case side1 => repeat (first | exact (Kd.R_reads' HO_204001.out).2.2 | (with_reducible refine Kd.C_alloc ?_ _) | (with_reducible refine Kd.C_drewN ?_ _) | (with_reducible refine Kd.C_drew ?_)))
                            (case side2 => exact (Kd.R_reads' HO_204001.out).2.1)
                            rintro e w40 ⟨rfl, hb⟩
                            have HS2_ := (hb.cell (World.block_lt_of_cell? _ _ (hHeld.2.2.1))).trans (hHeld.2.2.1)
                            have HS3_ := (hb.cell (World.block_lt_of_cell? _ _ (hHeld.2.2.2.1))).trans (hHeld.2.2.2.1)
                            have HS4_ := (hb.cell (World.block_lt_of_cell? _ _ (hHeld.2.2.2.2.1))).trans (hHeld.2.2.2.2.1)
                            have HS5_ := (hb.cell (World.block_lt_of_cell? _ _ (hHeld.2.2.2.2.2.1))).trans (hHeld.2.2.2.2.2.1)
                            have HS6_ := (hb.cell (World.block_lt_of_cell? _ _ (hHeld.2.2.2.2.2.2.1))).trans (hHeld.2.2.2.2.2.2.1)
                            have HS7_ := (hb.cell (World.block_lt_of_cell? _ _ (hHeld.2.2.2.2.2.2.2.1))).trans (hHeld.2.2.2.2.2.2.2.1)
                            have HS8_ := (hb.cell (World.block_lt_of_cell? _ _ (hHeld.2.2.2.2.2.2.2.2.1))).trans (hHeld.2.2.2.2.2.2.2.2.1)
                            have HS9_ := (hb.cell (World.block_lt_of_cell? _ _ (hHeld.2.2.2.2.2.2.2.2.2.1))).trans (hHeld.2.2.2.2.2.2.2.2.2.1)
                            have HS10_ := OwnsM.below (hHeld.2.2.2.2.2.2.2.2.2.2) hb
                            clear HOM
                            have HOM := Aside0.mk HS10_
                            refine ⟨_, rfl, ?_⟩
                            have n0_ := Aside0.mk (Kd.R_below (by (with_reducible repeat (first | apply Kd.R_alloc | apply Kd.R_drewN | apply Kd.R_drew)); exact HO_204001.out) hb)
                            have n1_ := Aside0.mk (blk_below (g := gb203) (o := .cells #[.int .i64 t204, .slice (some ad213) t205.length co19] 30 (0, 0)) (by (with_reducible repeat (first | refine blk_drewN ?_ _ | refine blk_drew ?_ | refine blk_alloc ?_ _)); exact BK203.out) hb)
                            have n2_ := Aside0.mk (below_step (by repeat (first | (with_reducible first | exact HB.out | apply below_alloc | apply pw_below_drewN | apply below_drew1 | refine below_set ?_ GE203.out) | exact HB.out)) hb)
                            clear HO_204001
                            clear BK203
                            clear HB
                            have HO_204001 := n0_
                            have BK203 := n1_
                            have HB := n2_
                            clear n0_ n1_ n2_
                            (try clear hb)
                            (try clear hb2)
                            (try clear hk)
                            (try clear hi)
                            refine hK.out _ _ ⟨(blk_cell BK203.out 0).trans rfl, (blk_cell BK203.out 1).trans rfl, HS2_, HS3_, HS4_, HS5_, HS6_, HS7_, HS8_, HS9_, HS10_⟩ (fun hHeld => ?_)
                            clear hK K
                            refine norm_ (a' := ?_) ?_ ?_
                            rotate_left
                            · show Act.put _ (some 116) _ = _
                              simp only [Act.put, List.setIfInBounds_toArray, List.set_cons_zero, List.set_cons_succ, i64_w, i32_w]
                              rfl
                            refine pure_ (i := 30) (N := some 123) (v := ?_) (a' := ?_) #[true, true, true, true, true, true, true, true, true, true, true, true, true, true, true, true, true, true, true, true, true, true, true, true, true, true, true, true, true, true, true, false] rfl rfl (any_of HT_.out (by kernel_rfl)) (fun _ _ _ h => h) (Or.inl ⟨by rfl, ?_⟩) ?_ ?_
                            rotate_left
                            · intro w'
                              go_simp
                              with_reducible rfl
                            rotate_left
                            · simp only [Act.put, List.setIfInBounds_toArray, List.set_cons_zero, List.set_cons_succ, i64_w, i32_w]
                              rfl
                            refine pure_ (i := 31) (N := some 124) (v := ?_) (a' := ?_) #[true, true, true, true, true, true, true, true, true, true, true, true, true, true, true, true, true, true, true, true, true, true, true, true, true, true, true, true, true, true, true, true] rfl rfl (any_of HT_.out (by kernel_rfl)) (fun _ _ _ h => h) (Or.inl ⟨by rfl, ?_⟩) ?_ ?_
                            rotate_left
                            · intro w'
                              go_simp
                              with_reducible rfl
                            rotate_left
                            · simp only [Act.put, List.setIfInBounds_toArray, List.set_cons_zero, List.set_cons_succ, i64_w, i32_w]
                              rfl
                            refine done_ (done_of HT_.out (by kernel_rfl)) ?_
                            try go_wp2
                            go_roundg k2
                            case measure => have := HK1.out; have := HK2.out; omega
                            case rel => exact ⟨(wrap64 (x12_2 + 1)), (by first | rfl | (simp; done) | (simp [*]; done)), HOM, H', ⟨by have := HK1.out; have := HK2.out; omega⟩, ⟨by (with_reducible repeat (first | apply Kd.R_alloc | apply Kd.R_drewN | apply Kd.R_drew)); exact HO_204001.out⟩, ⟨by (with_reducible repeat (first | refine blk_drewN ?_ _ | refine blk_drew ?_ | refine blk_alloc ?_ _)); exact BK203.out⟩, ⟨by repeat (first | (with_reducible first | exact HB.out | apply below_alloc | apply pw_below_drewN | apply below_drew1 | refine below_set ?_ GE203.out) | exact HB.out)⟩⟩
                          · rw [if_neg c37] at H
                            exact absurd H (by simp)
                        · rw [if_neg c35] at H
                          exact absurd H (by simp)
                      · rw [if_neg c34] at H
                        exact absurd H (by simp)
                    · rw [if_neg c33] at H
                      have c33b0 : decide (x12_2 < (t205.length : Int)) = false := decide_eq_false c33
                      clear c33
                      have H' := Aside0.mk H
                      clear H
                      have hcz41_0 : wr.cell? ⟨gb203, 0, none⟩ = some (.int .i64 t204) := (blk_cell BK203.out 0).trans rfl
                      have hcz41_1 : wr.cell? ⟨gb203, 1, none⟩ = some (.slice Ao19 t205.length co19) := (blk_cell BK203.out 1).trans rfl
                      have hfz41_0 := blk_frozen BK203.out 0
                      have hfz41_1 := blk_frozen BK203.out 1
                      go_wp2
                      go_loopg [13] k2 (fun kq v13 w' => ∃ (x13_3 : Int), v13 = .int .i64 x13_3 ∧ Aside0 (OwnsM w' mb x7_1.length x7_1) ∧ Aside0 (tallymanlaw14_HllRanks.l2 kq (wrap64 (4 + t197)) l1 x7_1 x13_3 t204 t205 = some r) ∧ Aside0 (kq ≤ k2) ∧ Aside0 (Kd.R k32 32 w' w.heap.size (fun _ => True) (.slice Ao19 t205.length co19) t205) ∧ Aside0 (w'.heap[gb203]? = some (.cells #[.int .i64 t204, (.slice Ao19 t205.length co19)] 30 (0, 0))) ∧ Aside0 (Below w.heap.size w w'))
                      case atStart => exact ⟨(0), (by first | rfl | (simp; done) | (simp [*]; done)), HOM, H', ⟨Nat.le_refl _⟩, ⟨by (with_reducible repeat (first | apply Kd.R_alloc | apply Kd.R_drewN | apply Kd.R_drew)); exact HO_204001.out⟩, ⟨by (with_reducible repeat (first | refine blk_drewN ?_ _ | refine blk_drew ?_ | refine blk_alloc ?_ _)); exact BK203.out⟩, ⟨by repeat (first | (with_reducible first | exact HB.out | apply below_alloc | apply pw_below_drewN | apply below_drew1 | refine below_set ?_ GE203.out) | exact HB.out)⟩⟩
                      case round =>
                        clear H'
                        try clear c1
                        try clear c2
                        try clear p2
                        try clear q2
                        try clear hx2
                        try clear c3
                        try clear c4
                        try clear c5
                        try clear c5b0
                        try clear c5b1
                        try clear c6
                        try clear p6
                        try clear c9
                        try clear c9b0
                        try clear c9b1
                        try clear c11
                        try clear c11b0
                        try clear c11b1
                        try clear c17
                        try clear c20
                        try clear c20b0
                        try clear p20
                        try clear q20
                        try clear hx20
                        try clear c21
                        try clear c21b0
                        try clear p21
                        try clear q21
                        try clear hx21
                        try clear c23
                        try clear c23b0
                        try clear c23b1
                        try clear c24
                        try clear c24b0
                        try clear c25
                        try clear c26
                        try clear c26b0
                        try clear c26b1
                        try clear c27
                        try clear c28
                        try clear c28b0
                        try clear c29
                        try clear c29b0
                        try clear c30
                        try clear c30b0
                        try clear c33
                        try clear c33b0
                        try clear c34
                        try clear c34b0
                        try clear c35
                        try clear c35b0
                        try clear c35b1
                        try clear c37
                        try clear c37b0
                        try clear c37b1
                        try clear hcz15_0
                        try clear hcz15_1
                        try clear hcz18_0
                        try clear hcz18_1
                        try clear hcz38_0
                        try clear hcz38_1
                        try clear hcz41_0
                        try clear hcz41_1
                        try clear hfz15_0
                        try clear hfz15_1
                        try clear hfz18_0
                        try clear hfz18_1
                        try clear hfz38_0
                        try clear hfz38_1
                        try clear hfz41_0
                        try clear hfz41_1
                        try clear hx209_0
                        try clear hx213_0
                        try clear hx213_1
                        try clear hx214_0
                        try clear hx214_1
                        try clear hx215_0
                        try clear hx215_1
                        try clear hx217_0
                        try clear hx217_1
                        try clear p2
                        try clear p20
                        try clear p209
                        try clear p213
                        try clear p214
                        try clear p215
                        try clear p217
                        try clear p6
                        try clear q2
                        try clear q20
                        try clear q209
                        try clear q213
                        try clear q214
                        try clear q215
                        try clear q217
                        obtain ⟨x13_3, rfl, HOM, HA, HK3, HO_204001, BK203, HB⟩ := hrel
                        cases gk with
                        | zero => exact absurd HA.out (by simp [tallymanlaw14_HllRanks.l2])
                        | succ k3 =>
                          have H := HA.out
                          clear HA
                          simp only [tallymanlaw14_HllRanks.l2] at H
                          have HC42 := Aside0.mk H
                          clear H
                          go_upto_region 26 with (fail)
                          go_cut [132] (fun v132 wc => ∃ (kq : Nat) (x132_41 : Bool), v132 = .bool x132_41 ∧ Aside0 (OwnsM wc mb x7_1.length x7_1) ∧ Aside0 (tallymanlaw14_HllRanks.j3 kq (wrap64 (4 + t197)) l1 x7_1 x13_3 x132_41 t204 t205 = some r) ∧ Aside0 (kq ≤ k3) ∧ Aside0 (Kd.R k32 32 wc w.heap.size (fun _ => True) (.slice Ao19 t205.length co19) t205) ∧ Aside0 (wc.heap[gb203]? = some (.cells #[.int .i64 t204, (.slice Ao19 t205.length co19)] 30 (0, 0))) ∧ Aside0 (Below w.heap.size w wc))
                          case first =>
                            have H := HC42.out
                            clear HC42
                            by_cases c43 : x13_3 < (l1.length : Int)
                            · rw [if_pos c43] at H
                              have c43b0 : decide (x13_3 < (l1.length : Int)) = true := decide_eq_true c43
                              clear c43
                              (first | rw [c43b0] | (simp only [i64_w, i32_w]; rw [c43b0]) | skip)
                              have H' := Aside0.mk H
                              clear H
                              go_wp2
                              go_meet
                              case rel => exact ⟨_, (decide (x13_3 < 20)), (by first | rfl | (simp; done) | (simp [*]; done)), HOM, H', ⟨by have := HK1.out; have := HK2.out; have := HK3.out; first | omega | exact Nat.le_refl _⟩, ⟨by (with_reducible repeat (first | apply Kd.R_alloc | apply Kd.R_drewN | apply Kd.R_drew)); exact HO_204001.out⟩, ⟨by (with_reducible repeat (first | refine blk_drewN ?_ _ | refine blk_drew ?_ | refine blk_alloc ?_ _)); exact BK203.out⟩, ⟨by repeat (first | (with_reducible first | exact HB.out | apply below_alloc | apply pw_below_drewN | apply below_drew1 | refine below_set ?_ GE203.out) | exact HB.out)⟩⟩
                            · rw [if_neg c43] at H
                              have c43b0 : decide (x13_3 < (l1.length : Int)) = false := decide_eq_false c43
                              clear c43
                              (first | rw [c43b0] | (simp only [i64_w, i32_w]; rw [c43b0]) | skip)
                              have H' := Aside0.mk H
                              clear H
                              go_wp2
                              go_meet
                              case rel => exact ⟨_, (false), (by first | rfl | (simp; done) | (simp [*]; done)), HOM, H', ⟨by have := HK1.out; have := HK2.out; have := HK3.out; first | omega | exact Nat.le_refl _⟩, ⟨by (with_reducible repeat (first | apply Kd.R_alloc | apply Kd.R_drewN | apply Kd.R_drew)); exact HO_204001.out⟩, ⟨by (with_reducible repeat (first | refine blk_drewN ?_ _ | refine blk_drew ?_ | refine blk_alloc ?_ _)); exact BK203.out⟩, ⟨by repeat (first | (with_reducible first | exact HB.out | apply below_alloc | apply pw_below_drewN | apply below_drew1 | refine below_set ?_ GE203.out) | exact HB.out)⟩⟩
                          case rest =>
                            clear HC42
                            try clear c1
                            try clear c2
                            try clear p2
                            try clear q2
                            try clear hx2
                            try clear c3
                            try clear c4
                            try clear c5
                            try clear c5b0
                            try clear c5b1
                            try clear c6
                            try clear p6
                            try clear c9
                            try clear c9b0
                            try clear c9b1
                            try clear c11
                            try clear c11b0
                            try clear c11b1
                            try clear c17
                            try clear c20
                            try clear c20b0
                            try clear p20
                            try clear q20
                            try clear hx20
                            try clear c21
                            try clear c21b0
                            try clear p21
                            try clear q21
                            try clear hx21
                            try clear c23
                            try clear c23b0
                            try clear c23b1
                            try clear c24
                            try clear c24b0
                            try clear c25
                            try clear c26
                            try clear c26b0
                            try clear c26b1
                            try clear c27
                            try clear c28
                            try clear c28b0
                            try clear c29
                            try clear c29b0
                            try clear c30
                            try clear c30b0
                            try clear c33
                            try clear c33b0
                            try clear c34
                            try clear c34b0
                            try clear c35
                            try clear c35b0
                            try clear c35b1
                            try clear c37
                            try clear c37b0
                            try clear c37b1
                            try clear c43
                            try clear c43b0
                            try clear hcz15_0
                            try clear hcz15_1
                            try clear hcz18_0
                            try clear hcz18_1
                            try clear hcz38_0
                            try clear hcz38_1
                            try clear hcz41_0
                            try clear hcz41_1
                            try clear hfz15_0
                            try clear hfz15_1
                            try clear hfz18_0
                            try clear hfz18_1
                            try clear hfz38_0
                            try clear hfz38_1
                            try clear hfz41_0
                            try clear hfz41_1
                            try clear hx209_0
                            try clear hx213_0
                            try clear hx213_1
                            try clear hx214_0
                            try clear hx214_1
                            try clear hx215_0
                            try clear hx215_1
                            try clear hx217_0
                            try clear hx217_1
                            try clear p2
                            try clear p20
                            try clear p209
                            try clear p21
                            try clear p213
                            try clear p214
                            try clear p215
                            try clear p217
                            try clear p6
                            try clear q2
                            try clear q20
                            try clear q209
                            try clear q21
                            try clear q213
                            try clear q214
                            try clear q215
                            try clear q217
                            obtain ⟨kq, x132_41, rfl, HOM, HA, HJ41, HO_204001, BK203, HB⟩ := hcut
                            cases kq with
                            | zero => exact absurd HA.out (by simp [tallymanlaw14_HllRanks.j3])
                            | succ kj41 =>
                              have H := HA.out
                              clear HA
                              simp only [tallymanlaw14_HllRanks.j3] at H
                              by_cases c44 : x132_41 = true
                              · subst c44
                                have H1 : (if 0 ≤ x13_3 then (if x13_3 < (l1.length : Int) then ((hll_Add.f kj41 t204 t205 (rd l1 x13_3)).bind fun bt222 => (if bt222.2.2 = 0 then ((hll_Same.f kj41 bt222.1 bt222.2.1 t204 t205).bind fun t228 => (if t228 = true then (tallymanlaw14_HllRanks.l2 kj41 (wrap64 (4 + t197)) l1 x7_1 (wrap64 (x13_3 + 1)) t204 t205) else (none))) else (none))) else (none)) else (none)) = some r := by rw [if_pos rfl] at H; exact H
                                clear H
                                have H := H1
                                clear H1
                                by_cases c45 : 0 ≤ x13_3
                                · rw [if_pos c45] at H
                                  have c45b0 : decide (0 ≤ x13_3) = true := decide_eq_true c45
                                  clear c45
                                  by_cases c46 : x13_3 < (l1.length : Int)
                                  · rw [if_pos c46] at H
                                    have c46b0 : decide (x13_3 < (l1.length : Int)) = true := decide_eq_true c46
                                    clear c46
                                    replace H := Option.bind_eq_some_iff.mp H
                                    obtain ⟨⟨t222, t223, t226⟩, A470, H⟩ := H
                                    replace H : (if t226 = 0 then ((hll_Same.f kj41 t222 t223 t204 t205).bind fun t228 => (if t228 = true then (tallymanlaw14_HllRanks.l2 kj41 (wrap64 (4 + t197)) l1 x7_1 (wrap64 (x13_3 + 1)) t204 t205) else (none))) else (none)) = some r := H
                                    have A47 := Aside0.mk A470
                                    clear A470
                                    by_cases c48 : t226 = 0
                                    · rw [if_pos c48] at H
                                      have c48b0 : (t226 == 0) = true := beq_iff_eq.mpr c48
                                      have c48b1 : (t226 != 0) = false := bne_eq_false_iff_eq.mpr c48
                                      clear c48
                                      replace H := Option.bind_eq_some_iff.mp H
                                      obtain ⟨t228, A490, H⟩ := H
                                      replace H : (if t228 = true then (tallymanlaw14_HllRanks.l2 kj41 (wrap64 (4 + t197)) l1 x7_1 (wrap64 (x13_3 + 1)) t204 t205) else (none)) = some r := H
                                      have A49 := Aside0.mk A490
                                      clear A490
                                      by_cases c50 : t228 = true
                                      · subst c50
                                        have H1 : (tallymanlaw14_HllRanks.l2 kj41 (wrap64 (4 + t197)) l1 x7_1 (wrap64 (x13_3 + 1)) t204 t205) = some r := by rw [if_pos rfl] at H; exact H
                                        clear H
                                        have H := H1
                                        clear H1
                                        have H' := Aside0.mk H
                                        clear H
                                        try go_wp2
                                        have n0_ := Aside0.mk (Kd.R_drew HO_204001.out)
                                        have HOM : Aside0 (OwnsM wc.drew mb x7_1.length x7_1) := HOM
                                        have n1_ := Aside0.mk (blk_drew BK203.out)
                                        have n2_ := Aside0.mk (below_drew1 HB.out)
                                        clear HO_204001
                                        clear BK203
                                        clear HB
                                        have HO_204001 := n0_
                                        have BK203 := n1_
                                        have HB := n2_
                                        clear n0_ n1_ n2_
                                        have p221 : 0 ≤ (x13_3 : Int) := of_decide_eq_true (by first | (with_reducible assumption) | assumption)
                                        have q221 : x13_3 < (l1.length : Int) := of_decide_eq_true (by first | (with_reducible assumption) | assumption)
                                        obtain ⟨ad221, e221, hx221_0⟩ := Kd.at_int HR1.out x13_3 p221 q221
                                        have hw221_0 := hx221_0
                                        cases e221
                                        replace hx221_0 := (HB.out.cell (World.block_lt_of_cell? w _ hx221_0)).trans hx221_0
                                        replace p221 := eq_true p221
                                        replace q221 := eq_true q221
                                        refine start_ (n := 12) (S := fun w' => w'.cell? ⟨gb203, 0, none⟩ = some (.int .i64 t204) ∧ w'.cell? ⟨gb203, 1, none⟩ = some (.slice Ao19 t205.length co19) ∧ w'.cell? (ad221.add (x13_3).toNat) = some (.int .u64 (rd l1 x13_3))) (ds := []) #[false, false, false, false, false, false, false, false, false, false, false, false] (by kernel_rfl) rfl rfl ⟨(blk_cell BK203.out 0).trans rfl, (blk_cell BK203.out 1).trans rfl, ((HB.out.cell (World.block_lt_of_cell? w _ hw221_0)).trans hw221_0)⟩ (fun hHeld => ?_); refine with_tabW tallymanlaw14_HllRanks.tab28 tallymanlaw14_HllRanks.bits28 (fun HT_ HW_ => ?_)
                                        generalize wc.drew = w51 at HOM HO_204001 BK203 HB hx221_0 hHeld ⊢
                                        refine pure_ (i := 1) (N := some 137) (v := ?_) (a' := ?_) #[false, true, false, false, false, false, false, false, false, false, false, false] rfl rfl (any_of HT_.out (by kernel_rfl)) (fun _ _ _ h => h) (Or.inl ⟨by rfl, ?_⟩) ?_ ?_
                                        rotate_left
                                        · intro w'
                                          go_simp
                                          with_reducible rfl
                                        rotate_left
                                        · simp only [Act.put, List.setIfInBounds_toArray, List.set_cons_zero, List.set_cons_succ, i64_w, i32_w]
                                          rfl
                                        refine pure_ (i := 2) (N := some 138) (v := ?_) (a' := ?_) #[false, true, true, false, false, false, false, false, false, false, false, false] rfl rfl (any_of HT_.out (by kernel_rfl)) (fun _ _ _ h => h) (Or.inl ⟨by rfl, ?_⟩) ?_ ?_
                                        rotate_left
                                        · intro w'
                                          go_simp
                                          with_reducible rfl
                                        rotate_left
                                        · simp only [Act.put, List.setIfInBounds_toArray, List.set_cons_zero, List.set_cons_succ, i64_w, i32_w]
                                          rfl
                                        refine pure_ (i := 3) (N := some 139) (v := ?_) (a' := ?_) #[false, true, true, true, false, false, false, false, false, false, false, false] rfl rfl (any_of HT_.out (by kernel_rfl)) (fun _ _ _ h => h) (Or.inl ⟨by rfl, ?_⟩) ?_ ?_
                                        rotate_left
                                        · intro w'
                                          go_simp
                                          with_reducible rfl
                                        rotate_left
                                        · simp only [Act.put, List.setIfInBounds_toArray, List.set_cons_zero, List.set_cons_succ, i64_w, i32_w]
                                          rfl
                                        refine take_ (i := 0) (N := some 136) (v := ?_) (a' := ?_) #[true, true, true, true, false, false, false, false, false, false, false, false] rfl rfl (take_ofW HT_.out HW_.out (by kernel_rfl)) (fun _ _ _ h => h) (Or.inl ⟨by rfl, ?_⟩) hHeld ?_ ?_
                                        rotate_left
                                        · rintro w' ⟨s0, s1, s2⟩
                                          go_simp
                                          with_reducible rfl
                                        rotate_left
                                        · simp only [Act.put, List.setIfInBounds_toArray, List.set_cons_zero, List.set_cons_succ, i64_w, i32_w]
                                          rfl
                                        refine take_ (i := 4) (N := some 140) (v := ?_) (a' := ?_) #[true, true, true, true, true, false, false, false, false, false, false, false] rfl rfl (take_ofW HT_.out HW_.out (by kernel_rfl)) (fun _ _ _ h => h) (Or.inl ⟨by rfl, ?_⟩) hHeld ?_ ?_
                                        rotate_left
                                        · rintro w' ⟨s0, s1, s2⟩
                                          go_simp
                                          with_reducible rfl
                                        rotate_left
                                        · simp only [Act.put, List.setIfInBounds_toArray, List.set_cons_zero, List.set_cons_succ, i64_w, i32_w]
                                          rfl
                                        refine join_ (σ := Value × Nat) 2 #[true, true, true, true, true, true, true, true, true, true, false, false] (fun s_ => [(141, .tuple #[.agg #[.int .i64 t222, s_.1], .int .i64 t226]), (14, .pointer (some ⟨s_.2, 0, none⟩)), (135, .tuple #[.agg #[.int .i64 t222, s_.1], .int .i64 t226]), (142, .agg #[.int .i64 t222, s_.1]), (143, .int .i64 t226)]) (fun s_ w' => (w'.cell? ⟨gb203, 0, none⟩ = some (.int .i64 t204) ∧ w'.cell? ⟨gb203, 1, none⟩ = some (.slice Ao19 t205.length co19) ∧ w'.cell? (ad221.add (x13_3).toNat) = some (.int .u64 (rd l1 x13_3))) ∧ (Kd.R k32 32 w' w.heap.size (fun k_ => some k_ ≠ (.slice Ao19 t205.length co19 : Value).ownBlock) s_.1 t223) ∧ (Kd.R k32 32 w' w.heap.size (fun k_ => some k_ ≠ (s_.1 : Value).ownBlock) (.slice Ao19 t205.length co19) t205) ∧ (w'.heap[gb203]? = some (.cells #[.int .i64 t204, .slice Ao19 t205.length co19] 30 (0, 0))) ∧ (w'.heap[s_.2]? = some (.cells #[.int .i64 0, .slice none 0 0] 30 (0, 0))) ∧ (w.heap.size ≤ s_.2) ∧ (w.heap.size ≤ s_.2) ∧ (gb203 ≠ s_.2) ∧ (s_.2 ≠ gb203) ∧ (mb ≠ s_.2) ∧ (OwnsM w' mb x7_1.length x7_1) ∧ (Below w.heap.size w w')) ?_ ?_
                                        rotate_left
                                        · intro hCont
                                          refine two_ (i := 5) (j := 9) (Ni := some 141) (Nj := some 14) #[true, true, true, true, true, true, false, false, false, false, false, false] #[true, true, true, true, true, false, false, false, false, true, false, false] rfl rfl rfl rfl (two_of HT_.out (by kernel_rfl)) (by decide) (by decide) (fun K hK => ?_) (fun K hK => ?_)
                                          · skip
                                            refine goes_ Try.func28 (by kernel_rfl) rfl #[.agg #[.int .i64 t204, .slice Ao19 t205.length co19], .int .u64 (rd l1 x13_3)] (by rfl) rfl rfl (by (try simp only [List.map_toArray, List.map_cons, List.map_nil]); first | done | rfl | (simp only [List.length_drop, List.length_take]; rfl)) ?_
                                            with_reducible refine (hll_Add.calls kj41 t204 _ _ t205 (rd l1 x13_3) t222 t223 t226 _ ?side1 ?side2 A47.out).mono ?_
                                            (case side1 => repeat (first | exact (Kd.R_reads' HO_204001.out).2.2 | (with_reducible refine Kd.C_alloc ?_ _) | (with_reducible refine Kd.C_drewN ?_ _) | (with_reducible refine Kd.C_drew ?_)))
                                            (case side2 => exact (Kd.R_reads' HO_204001.out).2.1)
                                            rintro e w52 ⟨v224, rfl, ho0, hb⟩
                                            have HOMn := Aside0.mk (OwnsM.below (by exact HOM.out) hb)
                                            clear HOM
                                            have HOM := HOMn
                                            clear HOMn
                                            refine ⟨_, rfl, ?_⟩
                                            have n0_ := Aside0.mk (Kd.R_elder' (by (with_reducible repeat (first | apply Kd.R_alloc | apply Kd.R_drewN | apply Kd.R_drew)); exact HO_204001.out) (Kd.R_base ho0) hb)
                                            have n1_ := Aside0.mk (Kd.R_lower (Kd.R_new' ho0 (Kd.R_lt (by (with_reducible repeat (first | apply Kd.R_alloc | apply Kd.R_drewN | apply Kd.R_drew)); exact HO_204001.out))) (below_size (by repeat (first | (with_reducible first | exact HB.out | apply below_alloc | apply pw_below_drewN | apply below_drew1 | refine below_set ?_ GE203.out) | exact HB.out))))
                                            have n2_ := Aside0.mk (blk_below (g := gb203) (o := .cells #[.int .i64 t204, .slice Ao19 t205.length co19] 30 (0, 0)) (by (with_reducible repeat (first | refine blk_drewN ?_ _ | refine blk_drew ?_ | refine blk_alloc ?_ _)); exact BK203.out) hb)
                                            have n3_ := Aside0.mk (below_step (by repeat (first | (with_reducible first | exact HB.out | apply below_alloc | apply pw_below_drewN | apply below_drew1 | refine below_set ?_ GE203.out) | exact HB.out)) hb)
                                            clear HO_204001
                                            clear BK203
                                            clear HB
                                            have HO_204001 := n0_
                                            have HO225 := n1_
                                            have BK203 := n2_
                                            have HB := n3_
                                            clear n0_ n1_ n2_ n3_
                                            (try clear hb)
                                            (try clear hb2)
                                            (try clear hk)
                                            (try clear hi)
                                            (try clear ho0)
                                            refine hK.out _ _ ⟨(blk_cell BK203.out 0).trans rfl, (blk_cell BK203.out 1).trans rfl, ((HB.out.cell (World.block_lt_of_cell? w _ hw221_0)).trans hw221_0)⟩ (fun hHeld => ?_)
                                            clear hK K
                                            refine norm_ (a' := ?_) ?_ ?_
                                            rotate_left
                                            · show Act.put _ (some 141) _ = _
                                              simp only [Act.put, List.setIfInBounds_toArray, List.set_cons_zero, List.set_cons_succ, i64_w, i32_w]
                                              rfl
                                            refine pure_ (i := 6) (N := some 135) (v := ?_) (a' := ?_) #[true, true, true, true, true, true, true, false, false, false, false, false] rfl rfl (any_of HT_.out (by kernel_rfl)) (fun _ _ _ h => h) (Or.inl ⟨by rfl, ?_⟩) ?_ ?_
                                            rotate_left
                                            · intro w'
                                              go_simp
                                              with_reducible rfl
                                            rotate_left
                                            · simp only [Act.put, List.setIfInBounds_toArray, List.set_cons_zero, List.set_cons_succ, i64_w, i32_w]
                                              rfl
                                            refine pure_ (i := 7) (N := some 142) (v := ?_) (a' := ?_) #[true, true, true, true, true, true, true, true, false, false, false, false] rfl rfl (any_of HT_.out (by kernel_rfl)) (fun _ _ _ h => h) (Or.inl ⟨by rfl, ?_⟩) ?_ ?_
                                            rotate_left
                                            · intro w'
                                              go_simp
                                              with_reducible rfl
                                            rotate_left
                                            · simp only [Act.put, List.setIfInBounds_toArray, List.set_cons_zero, List.set_cons_succ, i64_w, i32_w]
                                              rfl
                                            refine pure_ (i := 8) (N := some 143) (v := ?_) (a' := ?_) #[true, true, true, true, true, true, true, true, true, false, false, false] rfl rfl (any_of HT_.out (by kernel_rfl)) (fun _ _ _ h => h) (Or.inl ⟨by rfl, ?_⟩) ?_ ?_
                                            rotate_left
                                            · intro w'
                                              go_simp
                                              with_reducible rfl
                                            rotate_left
                                            · simp only [Act.put, List.setIfInBounds_toArray, List.set_cons_zero, List.set_cons_succ, i64_w, i32_w]
                                              rfl
                                            refine one_ (i := 9) (N := some 14) #[true, true, true, true, true, true, true, true, true, true, false, false] rfl rfl (one_of HT_.out (by kernel_rfl)) (by decide) (fun K hK => ?_)
                                            refine box_step ?hg (N := 14) ?hd (cs := #[.int .i64 0, .slice none 0 0]) (t := 30) ?hr ?_; (case hd => rfl); (case hg => rfl); (case hr => first | (go_simp; done) | (go_simp; rfl))
                                            intro gb227 hg w53 hbox hb
                                            have NMB := Aside0.mk ((by rw [hg]; exact Nat.ne_of_lt (World.ownsMap.lt HOM.out)) : mb ≠ gb227)
                                            have HOMn := Aside0.mk (OwnsM.below (by exact HOM.out) hb)
                                            clear HOM
                                            have HOM := HOMn
                                            clear HOMn
                                            have n0_ := Aside0.mk (Kd.R_below (by (with_reducible repeat (first | apply Kd.R_alloc | apply Kd.R_drewN | apply Kd.R_drew)); exact HO_204001.out) hb)
                                            have n1_ := Aside0.mk (Kd.R_below (by (with_reducible repeat (first | apply Kd.R_alloc | apply Kd.R_drewN | apply Kd.R_drew)); exact HO225.out) hb)
                                            have n2_ := Aside0.mk (blk_below (g := gb203) (o := .cells #[.int .i64 t204, .slice Ao19 t205.length co19] 30 (0, 0)) (by (with_reducible repeat (first | refine blk_drewN ?_ _ | refine blk_drew ?_ | refine blk_alloc ?_ _)); exact BK203.out) hb)
                                            have n3_ := Aside0.mk (below_step (by repeat (first | (with_reducible first | exact HB.out | apply below_alloc | apply pw_below_drewN | apply below_drew1 | refine below_set ?_ GE203.out) | exact HB.out)) hb)
                                            have n4_ := Aside0.mk (hbox)
                                            have n5_ := Aside0.mk ((by rw [hg]; exact (below_size (by repeat (first | (with_reducible first | exact HB.out | apply below_alloc | apply pw_below_drewN | apply below_drew1 | refine below_set ?_ GE203.out) | exact HB.out))) : w.heap.size ≤ gb227))
                                            have n6_ := Aside0.mk ((by rw [hg]; exact (below_size (by repeat (first | (with_reducible first | exact HB.out | apply below_alloc | apply pw_below_drewN | apply below_drew1 | refine below_set ?_ GE203.out) | exact HB.out))) : w.heap.size ≤ gb227))
                                            have n7_ := Aside0.mk ((by rw [hg]; exact Nat.ne_of_lt (blk_lt (g := gb203) (o := .cells #[.int .i64 t204, .slice Ao19 t205.length co19] 30 (0, 0)) (by (with_reducible repeat (first | refine blk_drewN ?_ _ | refine blk_drew ?_ | refine blk_alloc ?_ _)); exact BK203.out)) : gb203 ≠ gb227))
                                            have n8_ := Aside0.mk ((by rw [hg]; exact Nat.ne_of_gt (blk_lt (g := gb203) (o := .cells #[.int .i64 t204, .slice Ao19 t205.length co19] 30 (0, 0)) (by (with_reducible repeat (first | refine blk_drewN ?_ _ | refine blk_drew ?_ | refine blk_alloc ?_ _)); exact BK203.out)) : gb227 ≠ gb203))
                                            clear HO_204001
                                            clear HO225
                                            clear BK203
                                            clear HB
                                            have HO_204001 := n0_
                                            have HO225 := n1_
                                            have BK203 := n2_
                                            have HB := n3_
                                            have BK227 := n4_
                                            have GW227 := n5_
                                            have GE227 := n6_
                                            have NB203_227 := n7_
                                            have NB227_203 := n8_
                                            clear n0_ n1_ n2_ n3_ n4_ n5_ n6_ n7_ n8_
                                            clear hb hbox hg
                                            refine hK.out _ _ ⟨(blk_cell BK203.out 0).trans rfl, (blk_cell BK203.out 1).trans rfl, ((HB.out.cell (World.block_lt_of_cell? w _ hw221_0)).trans hw221_0)⟩ (fun hHeld => ?_)
                                            clear hK K
                                            refine norm_ (a' := ?_) ?_ ?_
                                            rotate_left
                                            · show Act.put _ (some 14) _ = _
                                              simp only [Act.put, List.setIfInBounds_toArray, List.set_cons_zero, List.set_cons_succ, i64_w, i32_w]
                                              rfl
                                            exact norm_ (by simp only [putAll, Act.put, List.setIfInBounds_toArray, List.set_cons_zero, List.set_cons_succ]) (hCont (v224, gb227) _ ⟨hHeld, (by (with_reducible repeat (first | apply Kd.R_alloc | apply Kd.R_drewN | apply Kd.R_drew)); exact Kd.R_mono HO225.out (fun _ hk => hk.2)), (by (with_reducible repeat (first | apply Kd.R_alloc | apply Kd.R_drewN | apply Kd.R_drew)); exact Kd.R_mono HO_204001.out (fun _ hk => hk.2)), (by (with_reducible repeat (first | refine blk_drewN ?_ _ | refine blk_drew ?_ | refine blk_alloc ?_ _)); exact BK203.out), (by (with_reducible repeat (first | refine blk_drewN ?_ _ | refine blk_drew ?_ | refine blk_alloc ?_ _)); exact BK227.out), GW227.out, GE227.out, NB203_227.out, NB227_203.out, NMB.out, (by exact HOM.out), (by repeat (first | (with_reducible first | exact HB.out | apply below_alloc | apply pw_below_drewN | apply below_drew1 | refine below_set ?_ GE203.out | refine below_set ?_ GE227.out) | exact HB.out))⟩)
                                          · skip
                                            refine box_step ?hg (N := 14) ?hd (cs := #[.int .i64 0, .slice none 0 0]) (t := 30) ?hr ?_; (case hd => rfl); (case hg => rfl); (case hr => first | (go_simp; done) | (go_simp; rfl))
                                            intro gb227 hg w52 hbox hb
                                            have NMB := Aside0.mk ((by rw [hg]; exact Nat.ne_of_lt (World.ownsMap.lt HOM.out)) : mb ≠ gb227)
                                            have HOMn := Aside0.mk (OwnsM.below (by exact HOM.out) hb)
                                            clear HOM
                                            have HOM := HOMn
                                            clear HOMn
                                            have n0_ := Aside0.mk (Kd.R_below (by (with_reducible repeat (first | apply Kd.R_alloc | apply Kd.R_drewN | apply Kd.R_drew)); exact HO_204001.out) hb)
                                            have n1_ := Aside0.mk (blk_below (g := gb203) (o := .cells #[.int .i64 t204, .slice Ao19 t205.length co19] 30 (0, 0)) (by (with_reducible repeat (first | refine blk_drewN ?_ _ | refine blk_drew ?_ | refine blk_alloc ?_ _)); exact BK203.out) hb)
                                            have n2_ := Aside0.mk (below_step (by repeat (first | (with_reducible first | exact HB.out | apply below_alloc | apply pw_below_drewN | apply below_drew1 | refine below_set ?_ GE203.out) | exact HB.out)) hb)
                                            have n3_ := Aside0.mk (hbox)
                                            have n4_ := Aside0.mk ((by rw [hg]; exact (below_size (by repeat (first | (with_reducible first | exact HB.out | apply below_alloc | apply pw_below_drewN | apply below_drew1 | refine below_set ?_ GE203.out) | exact HB.out))) : w.heap.size ≤ gb227))
                                            have n5_ := Aside0.mk ((by rw [hg]; exact (below_size (by repeat (first | (with_reducible first | exact HB.out | apply below_alloc | apply pw_below_drewN | apply below_drew1 | refine below_set ?_ GE203.out) | exact HB.out))) : w.heap.size ≤ gb227))
                                            have n6_ := Aside0.mk ((by rw [hg]; exact Nat.ne_of_lt (blk_lt (g := gb203) (o := .cells #[.int .i64 t204, .slice Ao19 t205.length co19] 30 (0, 0)) (by (with_reducible repeat (first | refine blk_drewN ?_ _ | refine blk_drew ?_ | refine blk_alloc ?_ _)); exact BK203.out)) : gb203 ≠ gb227))
                                            have n7_ := Aside0.mk ((by rw [hg]; exact Nat.ne_of_gt (blk_lt (g := gb203) (o := .cells #[.int .i64 t204, .slice Ao19 t205.length co19] 30 (0, 0)) (by (with_reducible repeat (first | refine blk_drewN ?_ _ | refine blk_drew ?_ | refine blk_alloc ?_ _)); exact BK203.out)) : gb227 ≠ gb203))
                                            clear HO_204001
                                            clear BK203
                                            clear HB
                                            have HO_204001 := n0_
                                            have BK203 := n1_
                                            have HB := n2_
                                            have BK227 := n3_
                                            have GW227 := n4_
                                            have GE227 := n5_
                                            have NB203_227 := n6_
                                            have NB227_203 := n7_
                                            clear n0_ n1_ n2_ n3_ n4_ n5_ n6_ n7_
                                            clear hb hbox hg
                                            refine hK.out _ _ ⟨(blk_cell BK203.out 0).trans rfl, (blk_cell BK203.out 1).trans rfl, ((HB.out.cell (World.block_lt_of_cell? w _ hw221_0)).trans hw221_0)⟩ (fun hHeld => ?_)
                                            clear hK K
                                            refine norm_ (a' := ?_) ?_ ?_
                                            rotate_left
                                            · show Act.put _ (some 14) _ = _
                                              simp only [Act.put, List.setIfInBounds_toArray, List.set_cons_zero, List.set_cons_succ, i64_w, i32_w]
                                              rfl
                                            refine one_ (i := 5) (N := some 141) #[true, true, true, true, true, true, false, false, false, true, false, false] rfl rfl (one_of HT_.out (by kernel_rfl)) (by decide) (fun K hK => ?_)
                                            refine goes_ Try.func28 (by kernel_rfl) rfl #[.agg #[.int .i64 t204, .slice Ao19 t205.length co19], .int .u64 (rd l1 x13_3)] (by rfl) rfl rfl (by (try simp only [List.map_toArray, List.map_cons, List.map_nil]); first | done | rfl | (simp only [List.length_drop, List.length_take]; rfl)) ?_
                                            with_reducible refine (hll_Add.calls kj41 t204 _ _ t205 (rd l1 x13_3) t222 t223 t226 _ ?side1 ?side2 A47.out).mono ?_
                                            (case side1 => repeat (first | exact (Kd.R_reads' HO_204001.out).2.2 | (with_reducible refine Kd.C_alloc ?_ _) | (with_reducible refine Kd.C_drewN ?_ _) | (with_reducible refine Kd.C_drew ?_)))
                                            (case side2 => exact (Kd.R_reads' HO_204001.out).2.1)
                                            rintro e w53 ⟨v224, rfl, ho0, hb⟩
                                            have HOMn := Aside0.mk (OwnsM.below (by exact HOM.out) hb)
                                            clear HOM
                                            have HOM := HOMn
                                            clear HOMn
                                            refine ⟨_, rfl, ?_⟩
                                            have n0_ := Aside0.mk (Kd.R_elder' (by (with_reducible repeat (first | apply Kd.R_alloc | apply Kd.R_drewN | apply Kd.R_drew)); exact HO_204001.out) (Kd.R_base ho0) hb)
                                            have n1_ := Aside0.mk (Kd.R_lower (Kd.R_new' ho0 (Kd.R_lt (by (with_reducible repeat (first | apply Kd.R_alloc | apply Kd.R_drewN | apply Kd.R_drew)); exact HO_204001.out))) (below_size (by repeat (first | (with_reducible first | exact HB.out | apply below_alloc | apply pw_below_drewN | apply below_drew1 | refine below_set ?_ GE203.out | refine below_set ?_ GE227.out) | exact HB.out))))
                                            have n2_ := Aside0.mk (blk_below (g := gb203) (o := .cells #[.int .i64 t204, .slice Ao19 t205.length co19] 30 (0, 0)) (by (with_reducible repeat (first | refine blk_drewN ?_ _ | refine blk_drew ?_ | refine blk_alloc ?_ _)); exact BK203.out) hb)
                                            have n3_ := Aside0.mk (blk_below (g := gb227) (o := .cells #[.int .i64 0, .slice none 0 0] 30 (0, 0)) (by (with_reducible repeat (first | refine blk_drewN ?_ _ | refine blk_drew ?_ | refine blk_alloc ?_ _)); exact BK227.out) hb)
                                            have n4_ := Aside0.mk (below_step (by repeat (first | (with_reducible first | exact HB.out | apply below_alloc | apply pw_below_drewN | apply below_drew1 | refine below_set ?_ GE203.out | refine below_set ?_ GE227.out) | exact HB.out)) hb)
                                            clear HO_204001
                                            clear BK203
                                            clear BK227
                                            clear HB
                                            have HO_204001 := n0_
                                            have HO225 := n1_
                                            have BK203 := n2_
                                            have BK227 := n3_
                                            have HB := n4_
                                            clear n0_ n1_ n2_ n3_ n4_
                                            (try clear hb)
                                            (try clear hb2)
                                            (try clear hk)
                                            (try clear hi)
                                            (try clear ho0)
                                            refine hK.out _ _ ⟨(blk_cell BK203.out 0).trans rfl, (blk_cell BK203.out 1).trans rfl, ((HB.out.cell (World.block_lt_of_cell? w _ hw221_0)).trans hw221_0)⟩ (fun hHeld => ?_)
                                            clear hK K
                                            refine norm_ (a' := ?_) ?_ ?_
                                            rotate_left
                                            · show Act.put _ (some 141) _ = _
                                              simp only [Act.put, List.setIfInBounds_toArray, List.set_cons_zero, List.set_cons_succ, i64_w, i32_w]
                                              rfl
                                            refine pure_ (i := 6) (N := some 135) (v := ?_) (a' := ?_) #[true, true, true, true, true, true, true, false, false, true, false, false] rfl rfl (any_of HT_.out (by kernel_rfl)) (fun _ _ _ h => h) (Or.inl ⟨by rfl, ?_⟩) ?_ ?_
                                            rotate_left
                                            · intro w'
                                              go_simp
                                              with_reducible rfl
                                            rotate_left
                                            · simp only [Act.put, List.setIfInBounds_toArray, List.set_cons_zero, List.set_cons_succ, i64_w, i32_w]
                                              rfl
                                            refine pure_ (i := 7) (N := some 142) (v := ?_) (a' := ?_) #[true, true, true, true, true, true, true, true, false, true, false, false] rfl rfl (any_of HT_.out (by kernel_rfl)) (fun _ _ _ h => h) (Or.inl ⟨by rfl, ?_⟩) ?_ ?_
                                            rotate_left
                                            · intro w'
                                              go_simp
                                              with_reducible rfl
                                            rotate_left
                                            · simp only [Act.put, List.setIfInBounds_toArray, List.set_cons_zero, List.set_cons_succ, i64_w, i32_w]
                                              rfl
                                            refine pure_ (i := 8) (N := some 143) (v := ?_) (a' := ?_) #[true, true, true, true, true, true, true, true, true, true, false, false] rfl rfl (any_of HT_.out (by kernel_rfl)) (fun _ _ _ h => h) (Or.inl ⟨by rfl, ?_⟩) ?_ ?_
                                            rotate_left
                                            · intro w'
                                              go_simp
                                              with_reducible rfl
                                            rotate_left
                                            · simp only [Act.put, List.setIfInBounds_toArray, List.set_cons_zero, List.set_cons_succ, i64_w, i32_w]
                                              rfl
                                            exact norm_ (by simp only [putAll, Act.put, List.setIfInBounds_toArray, List.set_cons_zero, List.set_cons_succ]) (hCont (v224, gb227) _ ⟨hHeld, (by (with_reducible repeat (first | apply Kd.R_alloc | apply Kd.R_drewN | apply Kd.R_drew)); exact Kd.R_mono HO225.out (fun _ hk => hk.2)), (by (with_reducible repeat (first | apply Kd.R_alloc | apply Kd.R_drewN | apply Kd.R_drew)); exact Kd.R_mono HO_204001.out (fun _ hk => hk.2)), (by (with_reducible repeat (first | refine blk_drewN ?_ _ | refine blk_drew ?_ | refine blk_alloc ?_ _)); exact BK203.out), (by (with_reducible repeat (first | refine blk_drewN ?_ _ | refine blk_drew ?_ | refine blk_alloc ?_ _)); exact BK227.out), GW227.out, GE227.out, NB203_227.out, NB227_203.out, NMB.out, (by exact HOM.out), (by repeat (first | (with_reducible first | exact HB.out | apply below_alloc | apply pw_below_drewN | apply below_drew1 | refine below_set ?_ GE203.out | refine below_set ?_ GE227.out) | exact HB.out))⟩)
                                        rintro ⟨v224, gb227⟩ w54 ⟨hS_, h0_, h1_, h2_, h3_, h4_, h5_, h6_, h7_, hM_, hO_, h8_⟩
                                        have NMB : Aside0 (mb ≠ gb227) := ⟨hM_⟩
                                        have HOM : Aside0 (OwnsM w54 mb x7_1.length x7_1) := ⟨hO_⟩
                                        clear hM_ hO_
                                        have n0_ : Aside0 (Kd.R k32 32 w54 w.heap.size (fun k_ => some k_ ≠ (.slice Ao19 t205.length co19 : Value).ownBlock) v224 t223) := ⟨h0_⟩
                                        have n1_ : Aside0 (Kd.R k32 32 w54 w.heap.size (fun k_ => some k_ ≠ (v224 : Value).ownBlock) (.slice Ao19 t205.length co19) t205) := ⟨h1_⟩
                                        have n2_ : Aside0 (w54.heap[gb203]? = some (.cells #[.int .i64 t204, .slice Ao19 t205.length co19] 30 (0, 0))) := ⟨h2_⟩
                                        have n3_ : Aside0 (w54.heap[gb227]? = some (.cells #[.int .i64 0, .slice none 0 0] 30 (0, 0))) := ⟨h3_⟩
                                        have n4_ : Aside0 (w.heap.size ≤ gb227) := ⟨h4_⟩
                                        have n5_ : Aside0 (w.heap.size ≤ gb227) := ⟨h5_⟩
                                        have n6_ : Aside0 (gb203 ≠ gb227) := ⟨h6_⟩
                                        have n7_ : Aside0 (gb227 ≠ gb203) := ⟨h7_⟩
                                        have n8_ : Aside0 (Below w.heap.size w w54) := ⟨h8_⟩
                                        clear HO_204001
                                        clear BK203
                                        clear HB
                                        clear h0_ h1_ h2_ h3_ h4_ h5_ h6_ h7_ h8_
                                        have HO225 := n0_
                                        have HO_204001 := n1_
                                        have BK203 := n2_
                                        have BK227 := n3_
                                        have GW227 := n4_
                                        have GE227 := n5_
                                        have NB203_227 := n6_
                                        have NB227_203 := n7_
                                        have HB := n8_
                                        clear n0_ n1_ n2_ n3_ n4_ n5_ n6_ n7_ n8_
                                        have hHeld : w54.cell? ⟨gb203, 0, none⟩ = some (.int .i64 t204) ∧ w54.cell? ⟨gb203, 1, none⟩ = some (.slice Ao19 t205.length co19) ∧ w54.cell? (ad221.add (x13_3).toNat) = some (.int .u64 (rd l1 x13_3)) := hS_
                                        obtain ⟨Ao56, co56, eo56⟩ := Kd.R_slice HO225.out
                                        (first | subst eo56 | (injection eo56 with f1_ f2_ f3_; have f4_ := f1_.symm; have f5_ := f3_.symm; clear f1_ f2_ f3_; subst f4_; subst f5_))
                                        refine norm_ (a' := ?_) ?_ ?_
                                        rotate_left
                                        · simp only [putAll, Act.put, List.setIfInBounds_toArray, List.set_cons_zero, List.set_cons_succ]
                                          rfl
                                        refine one_ (i := 10) (N := none) #[true, true, true, true, true, true, true, true, true, true, true, false] rfl rfl (one_of HT_.out (by kernel_rfl)) (by decide) (fun K hK => ?_)
                                        have hs55 : w54.cell? ⟨gb227, 0, none⟩ = some (.int .i64 0) := (blk_cell BK227.out 0).trans rfl
                                        have hfs55 := blk_frozen BK227.out 0
                                        have hns55_0 := NB203_227.out
                                        have hms55_0 := NB227_203.out
                                        have hs57 : w54.cell? ⟨gb227, 1, none⟩ = some (.slice none 0 0) := (blk_cell BK227.out 1).trans rfl
                                        have hfs57 := blk_frozen BK227.out 1
                                        have hns57_0 := NB203_227.out
                                        have hms57_0 := NB227_203.out
                                        refine skip_ (w1 := ?_) (by rfl) rfl ?_ ?_
                                        rotate_left
                                        · go_simp
                                          rfl
                                        refine hK.out _ _ ⟨((cell_far (p := ⟨gb227, _, none⟩) NB203_227.out _).trans (((cell_far (p := ⟨gb227, _, none⟩) NB203_227.out _).trans (hHeld.1)))), ((cell_far (p := ⟨gb227, _, none⟩) NB203_227.out _).trans (((cell_far (p := ⟨gb227, _, none⟩) NB203_227.out _).trans (hHeld.2.1)))), ((cell_far (p := ⟨gb227, _, none⟩) (by first | exact Nat.ne_of_lt (Nat.lt_of_lt_of_le (by have := World.block_lt_of_cell? _ _ hw221_0; first | rwa [add_block] at this | exact this) GW227.out) | (rw [add_block]; exact Nat.ne_of_lt (Nat.lt_of_lt_of_le (by have := World.block_lt_of_cell? _ _ hw221_0; first | rwa [add_block] at this | exact this) GW227.out)) | (show (Addr.add _ _).block ≠ _; rw [add_block]; exact Nat.ne_of_lt (Nat.lt_of_lt_of_le (by have := World.block_lt_of_cell? _ _ hw221_0; first | rwa [add_block] at this | exact this) GW227.out)) | (dsimp only; exact Nat.ne_of_lt (Nat.lt_of_lt_of_le (by have := World.block_lt_of_cell? _ _ hw221_0; first | rwa [add_block] at this | exact this) GW227.out))) _).trans (((cell_far (p := ⟨gb227, _, none⟩) (by first | exact Nat.ne_of_lt (Nat.lt_of_lt_of_le (by have := World.block_lt_of_cell? _ _ hw221_0; first | rwa [add_block] at this | exact this) GW227.out) | (rw [add_block]; exact Nat.ne_of_lt (Nat.lt_of_lt_of_le (by have := World.block_lt_of_cell? _ _ hw221_0; first | rwa [add_block] at this | exact this) GW227.out)) | (show (Addr.add _ _).block ≠ _; rw [add_block]; exact Nat.ne_of_lt (Nat.lt_of_lt_of_le (by have := World.block_lt_of_cell? _ _ hw221_0; first | rwa [add_block] at this | exact this) GW227.out)) | (dsimp only; exact Nat.ne_of_lt (Nat.lt_of_lt_of_le (by have := World.block_lt_of_cell? _ _ hw221_0; first | rwa [add_block] at this | exact this) GW227.out))) _).trans (hHeld.2.2))))⟩ (fun hHeld => ?_)
                                        clear hK K
                                        refine pure_ (i := 11) (N := some 15) (v := ?_) (a' := ?_) #[true, true, true, true, true, true, true, true, true, true, true, true] rfl rfl (any_of HT_.out (by kernel_rfl)) (fun _ _ _ h => h) (Or.inl ⟨by rfl, ?_⟩) ?_ ?_
                                        rotate_left
                                        · intro w'
                                          go_simp
                                          with_reducible rfl
                                        rotate_left
                                        · simp only [Act.put, List.setIfInBounds_toArray, List.set_cons_zero, List.set_cons_succ, i64_w, i32_w]
                                          rfl
                                        refine done_ (done_of HT_.out (by kernel_rfl)) ?_
                                        have hnb58 := NB227_203.out
                                        have hnc58 := NB203_227.out
                                        have hcz59_0 : w54.cell? ⟨gb227, 0, none⟩ = some (.int .i64 0) := (blk_cell BK227.out 0).trans rfl
                                        have hcz59_1 : w54.cell? ⟨gb227, 1, none⟩ = some (.slice none 0 0) := (blk_cell BK227.out 1).trans rfl
                                        have hfz59_0 := blk_frozen BK227.out 0
                                        have hfz59_1 := blk_frozen BK227.out 1
                                        have hcz60_0 : w54.cell? ⟨gb203, 0, none⟩ = some (.int .i64 t204) := (blk_cell BK203.out 0).trans rfl
                                        have hcz60_1 : w54.cell? ⟨gb203, 1, none⟩ = some (.slice Ao19 t205.length co19) := (blk_cell BK203.out 1).trans rfl
                                        have hfz60_0 := blk_frozen BK203.out 0
                                        have hfz60_1 := blk_frozen BK203.out 1
                                        try go_wp2_with (first | (go_at_call 29; (with_reducible refine (hll_Same.calls kj41 t222 _ _ t223 t204 _ _ t205 true _ ?side1 ?side2 ?side3 ?side4 A49.out).mono ?_); (case side1 => refine (Kd.R_reads' (e := 32) (base := w.heap.size) (ok := fun k_ => some k_ ≠ (.slice Ao19 t205.length co19 : Value).ownBlock) (n := t223.length) (c := co56) ?_).2.2; exact (by (with_reducible repeat (first | apply Kd.R_alloc | apply Kd.R_drewN | apply Kd.R_drew)); exact (Kd.R_mono (Kd.R_far (p := ⟨gb227, 1, none⟩) (Kd.R_far (p := ⟨gb227, 0, none⟩) (Kd.R_types HO225.out BK227.out (by decide)) (fun _ hk => hk.2) (.int .i64 t222)) (fun _ hk => hk.2) (.slice Ao56 t223.length co56)) (fun _ h_ => h_.1)))); (case side2 => exact (Kd.R_reads' HO225.out).2.1); (case side3 => refine (Kd.R_reads' (e := 32) (base := w.heap.size) (ok := fun k_ => some k_ ≠ (.slice Ao56 t223.length co56 : Value).ownBlock) (n := t205.length) (c := co19) ?_).2.2; exact (by (with_reducible repeat (first | apply Kd.R_alloc | apply Kd.R_drewN | apply Kd.R_drew)); exact (Kd.R_mono (Kd.R_far (p := ⟨gb227, 1, none⟩) (Kd.R_far (p := ⟨gb227, 0, none⟩) (Kd.R_types HO_204001.out BK227.out (by decide)) (fun _ hk => hk.2) (.int .i64 t222)) (fun _ hk => hk.2) (.slice Ao56 t223.length co56)) (fun _ h_ => h_.1)))); (case side4 => exact (Kd.R_reads' HO_204001.out).2.1); rintro e w61 ⟨rfl, hb⟩; have HOMn := Aside0.mk (OwnsM.below (by exact World.ownsMap.setCell (a := ⟨gb227, 1, none⟩) (World.ownsMap.setCell (a := ⟨gb227, 0, none⟩) HOM.out NMB.out _) NMB.out _) hb); clear HOM; have HOM := HOMn; clear HOMn; have n0_ := Aside0.mk (Kd.R_below (by (with_reducible repeat (first | apply Kd.R_alloc | apply Kd.R_drewN | apply Kd.R_drew)); exact (Kd.R_mono (Kd.R_far (p := ⟨gb227, 1, none⟩) (Kd.R_far (p := ⟨gb227, 0, none⟩) (Kd.R_types HO_204001.out BK227.out (by decide)) (fun _ hk => hk.2) (.int .i64 t222)) (fun _ hk => hk.2) (.slice Ao56 t223.length co56)) (fun _ h_ => h_.1))) hb); have n1_ := Aside0.mk (Kd.R_below (by (with_reducible repeat (first | apply Kd.R_alloc | apply Kd.R_drewN | apply Kd.R_drew)); exact (Kd.R_mono (Kd.R_far (p := ⟨gb227, 1, none⟩) (Kd.R_far (p := ⟨gb227, 0, none⟩) (Kd.R_types HO225.out BK227.out (by decide)) (fun _ hk => hk.2) (.int .i64 t222)) (fun _ hk => hk.2) (.slice Ao56 t223.length co56)) (fun _ h_ => h_.1))) hb); have n2_ := Aside0.mk (blk_below (g := gb203) (o := .cells #[.int .i64 t204, .slice Ao19 t205.length co19] 30 (0, 0)) (by (with_reducible repeat (first | refine blk_drewN ?_ _ | refine blk_drew ?_ | refine blk_alloc ?_ _)); refine blk_far ?_ NB203_227.out _; (with_reducible repeat (first | refine blk_drewN ?_ _ | refine blk_drew ?_ | refine blk_alloc ?_ _)); refine blk_far ?_ NB203_227.out _; (with_reducible repeat (first | refine blk_drewN ?_ _ | refine blk_drew ?_ | refine blk_alloc ?_ _)); exact BK203.out) hb); have n3_ := Aside0.mk (blk_below (g := gb227) (o := .cells #[.int .i64 t222, .slice Ao56 t223.length co56] 30 (0, 0)) (by (with_reducible repeat (first | refine blk_drewN ?_ _ | refine blk_drew ?_ | refine blk_alloc ?_ _)); refine blk_put (cs := #[.int .i64 t222, .slice none 0 0]) ?_ 1 _ rfl; (with_reducible repeat (first | refine blk_drewN ?_ _ | refine blk_drew ?_ | refine blk_alloc ?_ _)); refine blk_put (cs := #[.int .i64 0, .slice none 0 0]) ?_ 0 _ rfl; (with_reducible repeat (first | refine blk_drewN ?_ _ | refine blk_drew ?_ | refine blk_alloc ?_ _)); exact BK227.out) hb); have n4_ := Aside0.mk (below_step (by repeat (first | (with_reducible first | exact HB.out | apply below_alloc | apply pw_below_drewN | apply below_drew1 | refine below_set ?_ GE203.out | refine below_set ?_ GE227.out) | exact HB.out)) hb); clear HO_204001; clear HO225; clear BK203; clear BK227; clear HB; have HO_204001 := n0_; have HO225 := n1_; have BK203 := n2_; have BK227 := n3_; have HB := n4_; clear n0_ n1_ n2_ n3_ n4_; (try clear hb); (try clear hb2); (try clear hk); (try clear hi)))
                                        go_roundg kj41
                                        case measure => have := HK1.out; have := HK2.out; have := HK3.out; have := HJ41.out; omega
                                        case rel => exact ⟨(wrap64 (x13_3 + 1)), (by first | rfl | (simp; done) | (simp [*]; done)), HOM, H', ⟨by have := HK1.out; have := HK2.out; have := HK3.out; have := HJ41.out; omega⟩, ⟨by (with_reducible repeat (first | apply Kd.R_alloc | apply Kd.R_drewN | apply Kd.R_drew)); exact Kd.R_mono HO_204001.out (fun _ hk => trivial)⟩, ⟨by (with_reducible repeat (first | refine blk_drewN ?_ _ | refine blk_drew ?_ | refine blk_alloc ?_ _)); exact BK203.out⟩, ⟨by repeat (first | (with_reducible first | exact HB.out | apply below_alloc | apply pw_below_drewN | apply below_drew1 | refine below_set ?_ GE203.out | refine below_set ?_ GE227.out) | exact HB.out)⟩⟩
                                      · replace c50 := Bool.eq_false_iff.mpr c50
                                        subst c50
                                        have H1 : (none) = some r := by rw [if_neg (show ¬ (false = true) by decide)] at H; exact H
                                        clear H
                                        have H := H1
                                        clear H1
                                        exact absurd H (by simp)
                                    · rw [if_neg c48] at H
                                      exact absurd H (by simp)
                                  · rw [if_neg c46] at H
                                    exact absurd H (by simp)
                                · rw [if_neg c45] at H
                                  exact absurd H (by simp)
                              · replace c44 := Bool.eq_false_iff.mpr c44
                                subst c44
                                have H1 : (if (mlen x7_1) = (t205.length : Int) then ((hll_Zeros.f kj41 t204 t205).bind fun t218 => (if 0 ≤ (IntKind.u64.wrap ((wrap64 (4 + t197)))) then (if t218 = (wrap64 ((shl .i64 1 (IntKind.u64.wrap ((wrap64 (4 + t197))))) - (mlen x7_1))) then ((hll_Get.f kj41 t204 t205 (-1)).bind fun t219 => (if t219 = 0 then ((hll_Get.f kj41 t204 t205 (shl .i64 1 (IntKind.u64.wrap ((wrap64 (4 + t197)))))).bind fun t220 => (some (t220 == 0))) else (none))) else (none)) else (none))) else (none)) = some r := by rw [if_neg (show ¬ (false = true) by decide)] at H; exact H
                                clear H
                                have H := H1
                                clear H1
                                by_cases c62 : (mlen x7_1) = (t205.length : Int)
                                · rw [if_pos c62] at H
                                  have c62b0 : ((mlen x7_1) == (t205.length : Int)) = true := beq_iff_eq.mpr c62
                                  have c62b1 : ((mlen x7_1) != (t205.length : Int)) = false := bne_eq_false_iff_eq.mpr c62
                                  clear c62
                                  replace H := Option.bind_eq_some_iff.mp H
                                  obtain ⟨t218, A630, H⟩ := H
                                  replace H : (if 0 ≤ (IntKind.u64.wrap ((wrap64 (4 + t197)))) then (if t218 = (wrap64 ((shl .i64 1 (IntKind.u64.wrap ((wrap64 (4 + t197))))) - (mlen x7_1))) then ((hll_Get.f kj41 t204 t205 (-1)).bind fun t219 => (if t219 = 0 then ((hll_Get.f kj41 t204 t205 (shl .i64 1 (IntKind.u64.wrap ((wrap64 (4 + t197)))))).bind fun t220 => (some (t220 == 0))) else (none))) else (none)) else (none)) = some r := H
                                  have A63 := Aside0.mk A630
                                  clear A630
                                  obtain ⟨ji64, hji64⟩ : ∃ j_ : Int, (IntKind.u64.wrap ((wrap64 (4 + t197)))) = j_ := ⟨_, rfl⟩
                                  replace H : (if 0 ≤ (ji64) then (if t218 = (wrap64 ((shl .i64 1 (ji64)) - (mlen x7_1))) then ((hll_Get.f kj41 t204 t205 (-1)).bind fun t219 => (if t219 = 0 then ((hll_Get.f kj41 t204 t205 (shl .i64 1 (ji64))).bind fun t220 => (some (t220 == 0))) else (none))) else (none)) else (none)) = some r := by first | (rw [hji64] at H; exact H) | (simp only [hji64] at H ⊢; exact H)
                                  (try rw [hji64] at A63)
                                  by_cases c65 : 0 ≤ (ji64)
                                  · rw [if_pos c65] at H
                                    have c65b0 := eq_true c65
                                    have c65b1 : decide (0 ≤ (ji64)) = true := decide_eq_true c65
                                    clear c65
                                    obtain ⟨ji66, hji66⟩ : ∃ j_ : Int, (shl .i64 1 (ji64)) = j_ := ⟨_, rfl⟩
                                    replace H : (if t218 = (wrap64 ((ji66) - (mlen x7_1))) then ((hll_Get.f kj41 t204 t205 (-1)).bind fun t219 => (if t219 = 0 then ((hll_Get.f kj41 t204 t205 (ji66)).bind fun t220 => (some (t220 == 0))) else (none))) else (none)) = some r := by first | (rw [hji66] at H; exact H) | (simp only [hji66] at H ⊢; exact H)
                                    (try rw [hji66] at A63)
                                    have hji66_ : (IntKind.i64.wrap (1 * 2 ^ min (ji64).toNat 64)) = ji66 := hji66
                                    have hji66z : (ji64) ≤ 64 → (IntKind.i64.wrap (1 * 2 ^ (ji64).toNat)) = ji66 := shl_small hji66
                                    have hji66u : (IntKind.i64.wrap (2 ^ min (ji64).toNat 64)) = ji66 := by have h_ := hji66_; rw [Int.one_mul] at h_; exact h_
                                    have hji66v : (ji64) ≤ 64 → (IntKind.i64.wrap (2 ^ (ji64).toNat)) = ji66 := fun hle_ => by have h_ := hji66z hle_; rw [Int.one_mul] at h_; exact h_
                                    have hji66y : (wrap64 (1 * 2 ^ min (ji64).toNat 64)) = ji66 := (i64_w _).symm.trans hji66_
                                    have hji66x : (ji64) ≤ 64 → (wrap64 (1 * 2 ^ (ji64).toNat)) = ji66 := fun h_ => (i64_w _).symm.trans (hji66z h_)
                                    by_cases c67 : t218 = (wrap64 ((ji66) - (mlen x7_1)))
                                    · rw [if_pos c67] at H
                                      have c67b0 : (t218 == (wrap64 ((ji66) - (mlen x7_1)))) = true := beq_iff_eq.mpr c67
                                      have c67b1 : (t218 != (wrap64 ((ji66) - (mlen x7_1)))) = false := bne_eq_false_iff_eq.mpr c67
                                      clear c67
                                      replace H := Option.bind_eq_some_iff.mp H
                                      obtain ⟨t219, A680, H⟩ := H
                                      replace H : (if t219 = 0 then ((hll_Get.f kj41 t204 t205 (ji66)).bind fun t220 => (some (t220 == 0))) else (none)) = some r := H
                                      have A68 := Aside0.mk A680
                                      clear A680
                                      by_cases c69 : t219 = 0
                                      · rw [if_pos c69] at H
                                        have c69b0 : (t219 == 0) = true := beq_iff_eq.mpr c69
                                        have c69b1 : (t219 != 0) = false := bne_eq_false_iff_eq.mpr c69
                                        clear c69
                                        have c70b0 := eq_true (of_decide_eq_true (by first | (with_reducible assumption) | assumption) : 0 ≤ (ji64))
                                        replace H := Option.bind_eq_some_iff.mp H
                                        obtain ⟨t220, A720, H⟩ := H
                                        replace H : (some (t220 == 0)) = some r := H
                                        have A72 := Aside0.mk A720
                                        clear A720
                                        obtain rfl := Option.some.inj H
                                        have hcz73_0 : wc.cell? ⟨gb203, 0, none⟩ = some (.int .i64 t204) := (blk_cell BK203.out 0).trans rfl
                                        have hcz73_1 : wc.cell? ⟨gb203, 1, none⟩ = some (.slice Ao19 t205.length co19) := (blk_cell BK203.out 1).trans rfl
                                        have hfz73_0 := blk_frozen BK203.out 0
                                        have hfz73_1 := blk_frozen BK203.out 1
                                        have hlen0 := fun ty => lenM HOM.out ty
                                        go_wp2_with (first | (go_at_call 30; (with_reducible refine (hll_Zeros.calls kj41 t204 _ _ t205 t218 _ ?side1 ?side2 A63.out).mono ?_); (case side1 => repeat (first | exact (Kd.R_reads' HO_204001.out).2.2 | (with_reducible refine Kd.C_alloc ?_ _) | (with_reducible refine Kd.C_drewN ?_ _) | (with_reducible refine Kd.C_drew ?_))); (case side2 => exact (Kd.R_reads' HO_204001.out).2.1); rintro e w74 ⟨rfl, hb⟩; have HOMn := Aside0.mk (OwnsM.below (by exact HOM.out) hb); clear HOM; have HOM := HOMn; clear HOMn; have hlen := fun ty => lenM HOM.out ty; have n0_ := Aside0.mk (Kd.R_below (by (with_reducible repeat (first | apply Kd.R_alloc | apply Kd.R_drewN | apply Kd.R_drew)); exact HO_204001.out) hb); have n1_ := Aside0.mk (blk_below (g := gb203) (o := .cells #[.int .i64 t204, .slice Ao19 t205.length co19] 30 (0, 0)) (by (with_reducible repeat (first | refine blk_drewN ?_ _ | refine blk_drew ?_ | refine blk_alloc ?_ _)); exact BK203.out) hb); have n2_ := Aside0.mk (below_step (by repeat (first | (with_reducible first | exact HB.out | apply below_alloc | apply pw_below_drewN | apply below_drew1 | refine below_set ?_ GE203.out) | exact HB.out)) hb); clear HO_204001; clear BK203; clear HB; have HO_204001 := n0_; have BK203 := n1_; have HB := n2_; clear n0_ n1_ n2_; (try clear hb); (try clear hb2); (try clear hk); (try clear hi); have hcz75_0 : w74.cell? ⟨gb203, 0, none⟩ = some (.int .i64 t204) := (blk_cell BK203.out 0).trans rfl; have hcz75_1 : w74.cell? ⟨gb203, 1, none⟩ = some (.slice Ao19 t205.length co19) := (blk_cell BK203.out 1).trans rfl; have hfz75_0 := blk_frozen BK203.out 0; have hfz75_1 := blk_frozen BK203.out 1) | (go_at_call 27; (with_reducible refine (hll_Get.calls kj41 t204 _ _ t205 (-1) t219 _ ?side1 ?side2 A68.out).mono ?_); (case side1 => repeat (first | exact (Kd.R_reads' HO_204001.out).2.2 | (with_reducible refine Kd.C_alloc ?_ _) | (with_reducible refine Kd.C_drewN ?_ _) | (with_reducible refine Kd.C_drew ?_))); (case side2 => exact (Kd.R_reads' HO_204001.out).2.1); rintro e w76 ⟨rfl, hb⟩; have HOMn := Aside0.mk (OwnsM.below (by exact HOM.out) hb); clear HOM; have HOM := HOMn; clear HOMn; have hlen := fun ty => lenM HOM.out ty; have n0_ := Aside0.mk (Kd.R_below (by (with_reducible repeat (first | apply Kd.R_alloc | apply Kd.R_drewN | apply Kd.R_drew)); exact HO_204001.out) hb); have n1_ := Aside0.mk (blk_below (g := gb203) (o := .cells #[.int .i64 t204, .slice Ao19 t205.length co19] 30 (0, 0)) (by (with_reducible repeat (first | refine blk_drewN ?_ _ | refine blk_drew ?_ | refine blk_alloc ?_ _)); exact BK203.out) hb); have n2_ := Aside0.mk (below_step (by repeat (first | (with_reducible first | exact HB.out | apply below_alloc | apply pw_below_drewN | apply below_drew1 | refine below_set ?_ GE203.out) | exact HB.out)) hb); clear HO_204001; clear BK203; clear HB; have HO_204001 := n0_; have BK203 := n1_; have HB := n2_; clear n0_ n1_ n2_; (try clear hb); (try clear hb2); (try clear hk); (try clear hi); have hcz77_0 : w76.cell? ⟨gb203, 0, none⟩ = some (.int .i64 t204) := (blk_cell BK203.out 0).trans rfl; have hcz77_1 : w76.cell? ⟨gb203, 1, none⟩ = some (.slice Ao19 t205.length co19) := (blk_cell BK203.out 1).trans rfl; have hfz77_0 := blk_frozen BK203.out 0; have hfz77_1 := blk_frozen BK203.out 1) | (go_at_call 27; (with_reducible refine (hll_Get.calls kj41 t204 _ _ t205 ji66 t220 _ ?side1 ?side2 A72.out).mono ?_); (case side1 => repeat (first | exact (Kd.R_reads' HO_204001.out).2.2 | (with_reducible refine Kd.C_alloc ?_ _) | (with_reducible refine Kd.C_drewN ?_ _) | (with_reducible refine Kd.C_drew ?_))); (case side2 => exact (Kd.R_reads' HO_204001.out).2.1); rintro e w78 ⟨rfl, hb⟩; have HOMn := Aside0.mk (OwnsM.below (by exact HOM.out) hb); clear HOM; have HOM := HOMn; clear HOMn; have hlen := fun ty => lenM HOM.out ty; have n0_ := Aside0.mk (Kd.R_below (by (with_reducible repeat (first | apply Kd.R_alloc | apply Kd.R_drewN | apply Kd.R_drew)); exact HO_204001.out) hb); have n1_ := Aside0.mk (blk_below (g := gb203) (o := .cells #[.int .i64 t204, .slice Ao19 t205.length co19] 30 (0, 0)) (by (with_reducible repeat (first | refine blk_drewN ?_ _ | refine blk_drew ?_ | refine blk_alloc ?_ _)); exact BK203.out) hb); have n2_ := Aside0.mk (below_step (by repeat (first | (with_reducible first | exact HB.out | apply below_alloc | apply pw_below_drewN | apply below_drew1 | refine below_set ?_ GE203.out) | exact HB.out)) hb); clear HO_204001; clear BK203; clear HB; have HO_204001 := n0_; have BK203 := n1_; have HB := n2_; clear n0_ n1_ n2_; (try clear hb); (try clear hb2); (try clear hk); (try clear hi)))
                                        go_ret
                                        exact ⟨by first | rfl | (simp [errW_none, errW_some] <;> rfl) | (simp only [← hji64, ← hji66]; first | rfl | (simp [errW_none, errW_some] <;> rfl)) | (simp [*, errW_none, errW_some] <;> rfl), by repeat (first | (with_reducible first | exact HB.out | apply below_alloc | apply pw_below_drewN | apply below_drew1 | refine below_set ?_ GE203.out) | exact HB.out)⟩
                                      · rw [if_neg c69] at H
                                        exact absurd H (by simp)
                                    · rw [if_neg c67] at H
                                      exact absurd H (by simp)
                                  · rw [if_neg c65] at H
                                    exact absurd H (by simp)
                                · rw [if_neg c62] at H
                                  exact absurd H (by simp)
        · rw [if_neg c11] at H
          exact absurd H (by simp)
      · rw [if_neg c9] at H
        exact absurd H (by simp)
  · replace c4 := Bool.eq_false_iff.mpr c4
    subst c4
    have H1 : (none) = some r := by rw [if_neg (show ¬ (false = true) by decide)] at H; exact H
    clear H
    have H := H1
    clear H1
    exact absurd H (by simp)

/-- THE ONE PURE STATEMENT of tallymanlaw14_HllRanks: yours. -/
def tallymanlaw14_HllRanks.Pure : Prop := ∀ (a0 : Int) (l1 : List Int), (Lit.int .i64 a0).wf = true → l1.length ≤ maxLen → l1.length * 8 ≤ 140737488351232 → (∀ x ∈ l1, (Lit.int .u64 x).wf = true) → ∃ k, tallymanlaw14_HllRanks.f k a0 l1 = some true
theorem tallymanlaw14_HllRanks.walk (P : tallymanlaw14_HllRanks.Pure) (a0 : Int) (a1 : Option Addr) (len1 cap1 : Nat) (z1 : List Int) (w : World) (w0 : (Lit.int .i64 a0).wf = true) (w1 : (a1 = none ∧ len1 = 0 ∧ cap1 = 0 ∧ z1 = []) ∨ ∃ x, a1 = some x ∧ len1 ≤ cap1 ∧ cap1 ≤ maxLen ∧ z1.length = cap1 ∧ (∀ i, i < z1.length → w.cell? (x.add i) = some (.int .u64 (z1.getD i 0))) ∧ ∀ n ∈ z1, (Lit.int .u64 n).wf = true) (y1 : len1 * 8 ≤ 140737488351232) :
    Calls Try.prog 6 #[.int .i64 a0, .slice a1 len1 cap1] w fun e w' => e = .returned (.bool true) ∧ Below w.heap.size w w' := by
  obtain ⟨l1, rfl, hr1, hm1, hw1, hc1⟩ := ReadsInt.ofRowC w1
  obtain ⟨k, h⟩ := P a0 l1 w0 hm1 y1 hw1
  refine (tallymanlaw14_HllRanks.calls k a0 _ _ l1 true w (Kd.C_of_reads (d := (0 : Int)) (h1 := fun _ => rfl) hr1) hc1 h).mono ?_
  rintro e w' ⟨rfl, hd⟩
  exact ⟨rfl, hd⟩

end Go.Proofs.Ytbclnjinpcfpjaa.H
