-- Made by this session's own call of the printer (functions that are proved by hand are taken from a text beside it).
import Derived.Test.YtbclnjinpcfpjaaH0
import Derived.Test.YtbclnjinpcfpjaaH2
import Derived.Test.YtbclnjinpcfpjaaH4
import Derived.Test.YtbclnjinpcfpjaaH5
import Derived.Test.YtbclnjinpcfpjaaH6
import Derived.Test.YtbclnjinpcfpjaaH8
import Derived.Test.YtbclnjinpcfpjaaH11
import Derived.Test.YtbclnjinpcfpjaaH13
import Derived.Test.YtbclnjinpcfpjaaH14
import Derived.Test.YtbclnjinpcfpjaaH15
import Derived.Test.YtbclnjinpcfpjaaH16
import Derived.Test.YtbclnjinpcfpjaaH17
import Derived.Test.YtbclnjinpcfpjaaH18
import Derived.Test.YtbclnjinpcfpjaaH19
namespace Go.Proofs.Ytbclnjinpcfpjaa.H
open Go.RowKit Go.Proofs.YtbclnjinpcfpjaaW.PrintWords Go.Proofs.YtbclnjinpcfpjaaW.PrintLast Go.Proofs.YtbclnjinpcfpjaaW.PrintMore
attribute [local go_sem] max2_int min2_int max_two min_two max_three min_three max_four min_four   -- for this text's walks alone
set_option linter.unusedVariables false
set_option linter.unusedSimpArgs false

/-! ### tallymanlaw14_HllCalls: function 12 -/
mutual
def tallymanlaw14_HllCalls.j0 : Nat → List Int → Int → Int → Bool → Int → List (S32) → Int → List (S32) → Option (Bool)
 | 0, _, _, _, _, _, _, _, _ => none
 | k + 1, x2, x3, x4, x42, x647000, x647001, x648000, x648001 => if x42 = true then (some true) else ((hll_AddAll.f k x647000 x647001 x2).bind fun bt649 => ((tallymanref14_AddAll.f k x647000 x647001 x2).bind fun bt655 => ((tallymankit_Hll.f k bt649.1 bt649.2.1 bt655.1 bt655.2.1).bind fun t661 => (if t661 = true then (if bt649.2.2 = bt655.2.2 then ((hll_Check.f k x647000 x647001).bind fun t662 => ((tallymanref14_Check.f k x647000 x647001).bind fun t663 => (if t662 = t663 then ((hll_Get.f k x647000 x647001 x4).bind fun t664 => ((tallymanref14_Get.f k x647000 x647001 x4).bind fun t665 => (if t664 = t665 then ((hll_Zeros.f k x647000 x647001).bind fun t666 => ((tallymanref14_Zeros.f k x647000 x647001).bind fun t667 => (if t666 = t667 then ((hll_Same.f k x647000 x647001 x648000 x648001).bind fun t668 => ((tallymankit_Hll.f k x647000 x647001 x648000 x648001).bind fun t669 => (tallymanlaw14_HllCalls.j1 k x2 x3 (t668 != t669) x647000 x647001 x648000 x648001))) else (tallymanlaw14_HllCalls.j1 k x2 x3 true x647000 x647001 x648000 x648001)))) else (tallymanlaw14_HllCalls.j1 k x2 x3 true x647000 x647001 x648000 x648001)))) else (tallymanlaw14_HllCalls.j1 k x2 x3 true x647000 x647001 x648000 x648001)))) else (tallymanlaw14_HllCalls.j1 k x2 x3 true x647000 x647001 x648000 x648001)) else (tallymanlaw14_HllCalls.j1 k x2 x3 true x647000 x647001 x648000 x648001)))))
def tallymanlaw14_HllCalls.j1 : Nat → List Int → Int → Bool → Int → List (S32) → Int → List (S32) → Option (Bool)
 | 0, _, _, _, _, _, _, _ => none
 | k + 1, x2, x3, x95, x647000, x647001, x648000, x648001 => if x95 = true then (none) else ((hll_Merge.f k x647000 x647001 x648000 x648001).bind fun bt670 => ((tallymanref14_Merge.f k x647000 x647001 x648000 x648001).bind fun bt675 => ((hll_Fold.f k x647000 x647001 x3).bind fun bt680 => ((tallymanref14_Fold.f k x647000 x647001 x3).bind fun bt686 => ((tallymankit_Hll.f k bt670.1 bt670.2.1 bt675.1 bt675.2.1).bind fun t692 => (if t692 = true then (if bt670.2.2 = bt675.2.2 then ((tallymankit_Hll.f k bt680.1 bt680.2.1 bt686.1 bt686.2.1).bind fun t693 => (if t693 = true then (tallymanlaw14_HllCalls.j2 k x2 x3 (bt680.2.2 != bt686.2.2) x647000 x647001) else (tallymanlaw14_HllCalls.j2 k x2 x3 true x647000 x647001))) else (tallymanlaw14_HllCalls.j2 k x2 x3 true x647000 x647001)) else (tallymanlaw14_HllCalls.j2 k x2 x3 true x647000 x647001)))))))
def tallymanlaw14_HllCalls.j2 : Nat → List Int → Int → Bool → Int → List (S32) → Option (Bool)
 | 0, _, _, _, _, _ => none
 | k + 1, x2, x3, x139, x647000, x647001 => if x139 = true then (none) else ((hll_New.f x3).bind fun bt694 => ((tallymanref14_New.f x3).bind fun bt699 => ((tallymankit_Hll.f k bt694.1 bt694.2.1 bt699.1 bt699.2.1).bind fun t704 => (if t704 = true then (tallymanlaw14_HllCalls.j3 k x2 x3 (bt694.2.2 != bt699.2.2) x647000 x647001) else (tallymanlaw14_HllCalls.j3 k x2 x3 true x647000 x647001)))))
def tallymanlaw14_HllCalls.j3 : Nat → List Int → Int → Bool → Int → List (S32) → Option (Bool)
 | 0, _, _, _, _, _ => none
 | k + 1, x2, x3, x158, x647000, x647001 => if x158 = true then (none) else (tallymanlaw14_HllCalls.l0 k x2 x3 0 x647000 x647001)
def tallymanlaw14_HllCalls.l0 : Nat → List Int → Int → Int → Int → List (S32) → Option (Bool)
 | 0, _, _, _, _, _ => none
 | k + 1, x2, x3, x19, x647000, x647001 => if x19 < (x2.length : Int) then (tallymanlaw14_HllCalls.j5 k x2 x3 x19 (decide (x19 < 40)) x647000 x647001) else (tallymanlaw14_HllCalls.j5 k x2 x3 x19 false x647000 x647001)
def tallymanlaw14_HllCalls.j5 : Nat → List Int → Int → Int → Bool → Int → List (S32) → Option (Bool)
 | 0, _, _, _, _, _, _ => none
 | k + 1, x2, x3, x19, x166, x647000, x647001 => if x166 = true then (if 0 ≤ x19 then (if x19 < (x2.length : Int) then ((hll_Split.f x3 (rd x2 x19)).bind fun bt706 => ((tallymanref14_Split.f k x3 (rd x2 x19)).bind fun bt710 => ((hll_Add.f k x647000 x647001 (rd x2 x19)).bind fun bt714 => ((tallymanref14_Add.f k x647000 x647001 (rd x2 x19)).bind fun bt720 => (if bt706.1 = bt710.1 then (if bt706.2.1 = bt710.2.1 then (if bt706.2.2 = bt710.2.2 then ((tallymankit_Hll.f k bt714.1 bt714.2.1 bt720.1 bt720.2.1).bind fun t725 => (if t725 = true then (if bt714.2.2 = bt720.2.2 then (tallymanlaw14_HllCalls.l0 k x2 x3 (wrap64 (x19 + 1)) x647000 x647001) else (none)) else (none))) else (none)) else (none)) else (none)))))) else (none)) else (none)) else (some true)
end
def tallymanlaw14_HllCalls.f (k : Nat) (a0_0 : Int) (l0_1 : List (S32)) (a1_0 : Int) (l1_1 : List (S32)) (l2 : List Int) (a3 : Int) (a4 : Int) : Option (Bool) := (tallymanlaw14_lives.f k).bind fun t648 => (if t648 = true then (if (l0_1.length : Int) > 300 then (tallymanlaw14_HllCalls.j0 k l2 a3 a4 true a0_0 l0_1 a1_0 l1_1) else (if (l1_1.length : Int) > 300 then (tallymanlaw14_HllCalls.j0 k l2 a3 a4 true a0_0 l0_1 a1_0 l1_1) else (tallymanlaw14_HllCalls.j0 k l2 a3 a4 (decide ((l2.length : Int) > 300)) a0_0 l0_1 a1_0 l1_1))) else (none))
theorem tallymanlaw14_HllCalls.mono_l : ∀ k, (∀ y0 y1 y2 y3 y4 y5 y6 y7, LeO (tallymanlaw14_HllCalls.j0 k y0 y1 y2 y3 y4 y5 y6 y7) (tallymanlaw14_HllCalls.j0 (k + 1) y0 y1 y2 y3 y4 y5 y6 y7)) ∧ (∀ y0 y1 y2 y3 y4 y5 y6, LeO (tallymanlaw14_HllCalls.j1 k y0 y1 y2 y3 y4 y5 y6) (tallymanlaw14_HllCalls.j1 (k + 1) y0 y1 y2 y3 y4 y5 y6)) ∧ (∀ y0 y1 y2 y3 y4, LeO (tallymanlaw14_HllCalls.j2 k y0 y1 y2 y3 y4) (tallymanlaw14_HllCalls.j2 (k + 1) y0 y1 y2 y3 y4)) ∧ (∀ y0 y1 y2 y3 y4, LeO (tallymanlaw14_HllCalls.j3 k y0 y1 y2 y3 y4) (tallymanlaw14_HllCalls.j3 (k + 1) y0 y1 y2 y3 y4)) ∧ (∀ y0 y1 y2 y3 y4, LeO (tallymanlaw14_HllCalls.l0 k y0 y1 y2 y3 y4) (tallymanlaw14_HllCalls.l0 (k + 1) y0 y1 y2 y3 y4)) ∧ (∀ y0 y1 y2 y3 y4 y5, LeO (tallymanlaw14_HllCalls.j5 k y0 y1 y2 y3 y4 y5) (tallymanlaw14_HllCalls.j5 (k + 1) y0 y1 y2 y3 y4 y5))
 | 0 => ⟨fun _ _ _ _ _ _ _ _ r h => by simp [tallymanlaw14_HllCalls.j0] at h, fun _ _ _ _ _ _ _ r h => by simp [tallymanlaw14_HllCalls.j1] at h, fun _ _ _ _ _ r h => by simp [tallymanlaw14_HllCalls.j2] at h, fun _ _ _ _ _ r h => by simp [tallymanlaw14_HllCalls.j3] at h, fun _ _ _ _ _ r h => by simp [tallymanlaw14_HllCalls.l0] at h, fun _ _ _ _ _ _ r h => by simp [tallymanlaw14_HllCalls.j5] at h⟩
 | k + 1 => by
  obtain ⟨ih0, ih1, ih2, ih3, ih4, ih5⟩ := tallymanlaw14_HllCalls.mono_l k
  refine ⟨?_, ?_, ?_, ?_, ?_, ?_⟩
  ·
   intro y0 y1 y2 y3 y4 y5 y6 y7
   unfold tallymanlaw14_HllCalls.j0
   repeat' first
   | (with_reducible exact ih0 _ _ _ _ _ _ _ _)
   | (with_reducible exact ih1 _ _ _ _ _ _ _)
   | (with_reducible exact ih2 _ _ _ _ _)
   | (with_reducible exact ih3 _ _ _ _ _)
   | (with_reducible exact ih4 _ _ _ _ _)
   | (with_reducible exact ih5 _ _ _ _ _ _)
   | (with_reducible exact hll_Add.mono _ _ _ _)
   | (with_reducible exact hll_AddAll.mono _ _ _ _)
   | (with_reducible exact hll_Check.mono _ _ _)
   | (with_reducible exact hll_Fold.mono _ _ _ _)
   | (with_reducible exact hll_Get.mono _ _ _ _)
   | (with_reducible exact hll_Merge.mono _ _ _ _ _)
   | (with_reducible exact hll_Same.mono _ _ _ _ _)
   | (with_reducible exact hll_Zeros.mono _ _ _)
   | (with_reducible exact tallymankit_Hll.mono _ _ _ _ _)
   | (with_reducible exact tallymanlaw14_lives.mono _)
   | (with_reducible exact tallymanref14_Add.mono _ _ _ _)
   | (with_reducible exact tallymanref14_AddAll.mono _ _ _ _)
   | (with_reducible exact tallymanref14_Check.mono _ _ _)
   | (with_reducible exact tallymanref14_Fold.mono _ _ _ _)
   | (with_reducible exact tallymanref14_Get.mono _ _ _ _)
   | (with_reducible exact tallymanref14_Merge.mono _ _ _ _ _)
   | (with_reducible exact tallymanref14_Split.mono _ _ _)
   | (with_reducible exact tallymanref14_Zeros.mono _ _ _)
   | (with_reducible exact LeO.refl _)
   | (with_reducible exact LeO.none _)
   | (with_reducible refine LeO.ite ?_ ?_)
   | (with_reducible refine LeO.bind ?_ (fun _ => ?_))
  ·
   intro y0 y1 y2 y3 y4 y5 y6
   unfold tallymanlaw14_HllCalls.j1
   repeat' first
   | (with_reducible exact ih0 _ _ _ _ _ _ _ _)
   | (with_reducible exact ih1 _ _ _ _ _ _ _)
   | (with_reducible exact ih2 _ _ _ _ _)
   | (with_reducible exact ih3 _ _ _ _ _)
   | (with_reducible exact ih4 _ _ _ _ _)
   | (with_reducible exact ih5 _ _ _ _ _ _)
   | (with_reducible exact hll_Add.mono _ _ _ _)
   | (with_reducible exact hll_AddAll.mono _ _ _ _)
   | (with_reducible exact hll_Check.mono _ _ _)
   | (with_reducible exact hll_Fold.mono _ _ _ _)
   | (with_reducible exact hll_Get.mono _ _ _ _)
   | (with_reducible exact hll_Merge.mono _ _ _ _ _)
   | (with_reducible exact hll_Same.mono _ _ _ _ _)
   | (with_reducible exact hll_Zeros.mono _ _ _)
   | (with_reducible exact tallymankit_Hll.mono _ _ _ _ _)
   | (with_reducible exact tallymanlaw14_lives.mono _)
   | (with_reducible exact tallymanref14_Add.mono _ _ _ _)
   | (with_reducible exact tallymanref14_AddAll.mono _ _ _ _)
   | (with_reducible exact tallymanref14_Check.mono _ _ _)
   | (with_reducible exact tallymanref14_Fold.mono _ _ _ _)
   | (with_reducible exact tallymanref14_Get.mono _ _ _ _)
   | (with_reducible exact tallymanref14_Merge.mono _ _ _ _ _)
   | (with_reducible exact tallymanref14_Split.mono _ _ _)
   | (with_reducible exact tallymanref14_Zeros.mono _ _ _)
   | (with_reducible exact LeO.refl _)
   | (with_reducible exact LeO.none _)
   | (with_reducible refine LeO.ite ?_ ?_)
   | (with_reducible refine LeO.bind ?_ (fun _ => ?_))
  ·
   intro y0 y1 y2 y3 y4
   unfold tallymanlaw14_HllCalls.j2
   repeat' first
   | (with_reducible exact ih0 _ _ _ _ _ _ _ _)
   | (with_reducible exact ih1 _ _ _ _ _ _ _)
   | (with_reducible exact ih2 _ _ _ _ _)
   | (with_reducible exact ih3 _ _ _ _ _)
   | (with_reducible exact ih4 _ _ _ _ _)
   | (with_reducible exact ih5 _ _ _ _ _ _)
   | (with_reducible exact hll_Add.mono _ _ _ _)
   | (with_reducible exact hll_AddAll.mono _ _ _ _)
   | (with_reducible exact hll_Check.mono _ _ _)
   | (with_reducible exact hll_Fold.mono _ _ _ _)
   | (with_reducible exact hll_Get.mono _ _ _ _)
   | (with_reducible exact hll_Merge.mono _ _ _ _ _)
   | (with_reducible exact hll_Same.mono _ _ _ _ _)
   | (with_reducible exact hll_Zeros.mono _ _ _)
   | (with_reducible exact tallymankit_Hll.mono _ _ _ _ _)
   | (with_reducible exact tallymanlaw14_lives.mono _)
   | (with_reducible exact tallymanref14_Add.mono _ _ _ _)
   | (with_reducible exact tallymanref14_AddAll.mono _ _ _ _)
   | (with_reducible exact tallymanref14_Check.mono _ _ _)
   | (with_reducible exact tallymanref14_Fold.mono _ _ _ _)
   | (with_reducible exact tallymanref14_Get.mono _ _ _ _)
   | (with_reducible exact tallymanref14_Merge.mono _ _ _ _ _)
   | (with_reducible exact tallymanref14_Split.mono _ _ _)
   | (with_reducible exact tallymanref14_Zeros.mono _ _ _)
   | (with_reducible exact LeO.refl _)
   | (with_reducible exact LeO.none _)
   | (with_reducible refine LeO.ite ?_ ?_)
   | (with_reducible refine LeO.bind ?_ (fun _ => ?_))
  ·
   intro y0 y1 y2 y3 y4
   unfold tallymanlaw14_HllCalls.j3
   repeat' first
   | (with_reducible exact ih0 _ _ _ _ _ _ _ _)
   | (with_reducible exact ih1 _ _ _ _ _ _ _)
   | (with_reducible exact ih2 _ _ _ _ _)
   | (with_reducible exact ih3 _ _ _ _ _)
   | (with_reducible exact ih4 _ _ _ _ _)
   | (with_reducible exact ih5 _ _ _ _ _ _)
   | (with_reducible exact hll_Add.mono _ _ _ _)
   | (with_reducible exact hll_AddAll.mono _ _ _ _)
   | (with_reducible exact hll_Check.mono _ _ _)
   | (with_reducible exact hll_Fold.mono _ _ _ _)
   | (with_reducible exact hll_Get.mono _ _ _ _)
   | (with_reducible exact hll_Merge.mono _ _ _ _ _)
   | (with_reducible exact hll_Same.mono _ _ _ _ _)
   | (with_reducible exact hll_Zeros.mono _ _ _)
   | (with_reducible exact tallymankit_Hll.mono _ _ _ _ _)
   | (with_reducible exact tallymanlaw14_lives.mono _)
   | (with_reducible exact tallymanref14_Add.mono _ _ _ _)
   | (with_reducible exact tallymanref14_AddAll.mono _ _ _ _)
   | (with_reducible exact tallymanref14_Check.mono _ _ _)
   | (with_reducible exact tallymanref14_Fold.mono _ _ _ _)
   | (with_reducible exact tallymanref14_Get.mono _ _ _ _)
   | (with_reducible exact tallymanref14_Merge.mono _ _ _ _ _)
   | (with_reducible exact tallymanref14_Split.mono _ _ _)
   | (with_reducible exact tallymanref14_Zeros.mono _ _ _)
   | (with_reducible exact LeO.refl _)
   | (with_reducible exact LeO.none _)
   | (with_reducible refine LeO.ite ?_ ?_)
   | (with_reducible refine LeO.bind ?_ (fun _ => ?_))
  ·
   intro y0 y1 y2 y3 y4
   unfold tallymanlaw14_HllCalls.l0
   repeat' first
   | (with_reducible exact ih0 _ _ _ _ _ _ _ _)
   | (with_reducible exact ih1 _ _ _ _ _ _ _)
   | (with_reducible exact ih2 _ _ _ _ _)
   | (with_reducible exact ih3 _ _ _ _ _)
   | (with_reducible exact ih4 _ _ _ _ _)
   | (with_reducible exact ih5 _ _ _ _ _ _)
   | (with_reducible exact hll_Add.mono _ _ _ _)
   | (with_reducible exact hll_AddAll.mono _ _ _ _)
   | (with_reducible exact hll_Check.mono _ _ _)
   | (with_reducible exact hll_Fold.mono _ _ _ _)
   | (with_reducible exact hll_Get.mono _ _ _ _)
   | (with_reducible exact hll_Merge.mono _ _ _ _ _)
   | (with_reducible exact hll_Same.mono _ _ _ _ _)
   | (with_reducible exact hll_Zeros.mono _ _ _)
   | (with_reducible exact tallymankit_Hll.mono _ _ _ _ _)
   | (with_reducible exact tallymanlaw14_lives.mono _)
   | (with_reducible exact tallymanref14_Add.mono _ _ _ _)
   | (with_reducible exact tallymanref14_AddAll.mono _ _ _ _)
   | (with_reducible exact tallymanref14_Check.mono _ _ _)
   | (with_reducible exact tallymanref14_Fold.mono _ _ _ _)
   | (with_reducible exact tallymanref14_Get.mono _ _ _ _)
   | (with_reducible exact tallymanref14_Merge.mono _ _ _ _ _)
   | (with_reducible exact tallymanref14_Split.mono _ _ _)
   | (with_reducible exact tallymanref14_Zeros.mono _ _ _)
   | (with_reducible exact LeO.refl _)
   | (with_reducible exact LeO.none _)
   | (with_reducible refine LeO.ite ?_ ?_)
   | (with_reducible refine LeO.bind ?_ (fun _ => ?_))
  ·
   intro y0 y1 y2 y3 y4 y5
   unfold tallymanlaw14_HllCalls.j5
   repeat' first
   | (with_reducible exact ih0 _ _ _ _ _ _ _ _)
   | (with_reducible exact ih1 _ _ _ _ _ _ _)
   | (with_reducible exact ih2 _ _ _ _ _)
   | (with_reducible exact ih3 _ _ _ _ _)
   | (with_reducible exact ih4 _ _ _ _ _)
   | (with_reducible exact ih5 _ _ _ _ _ _)
   | (with_reducible exact hll_Add.mono _ _ _ _)
   | (with_reducible exact hll_AddAll.mono _ _ _ _)
   | (with_reducible exact hll_Check.mono _ _ _)
   | (with_reducible exact hll_Fold.mono _ _ _ _)
   | (with_reducible exact hll_Get.mono _ _ _ _)
   | (with_reducible exact hll_Merge.mono _ _ _ _ _)
   | (with_reducible exact hll_Same.mono _ _ _ _ _)
   | (with_reducible exact hll_Zeros.mono _ _ _)
   | (with_reducible exact tallymankit_Hll.mono _ _ _ _ _)
   | (with_reducible exact tallymanlaw14_lives.mono _)
   | (with_reducible exact tallymanref14_Add.mono _ _ _ _)
   | (with_reducible exact tallymanref14_AddAll.mono _ _ _ _)
   | (with_reducible exact tallymanref14_Check.mono _ _ _)
   | (with_reducible exact tallymanref14_Fold.mono _ _ _ _)
   | (with_reducible exact tallymanref14_Get.mono _ _ _ _)
   | (with_reducible exact tallymanref14_Merge.mono _ _ _ _ _)
   | (with_reducible exact tallymanref14_Split.mono _ _ _)
   | (with_reducible exact tallymanref14_Zeros.mono _ _ _)
   | (with_reducible exact LeO.refl _)
   | (with_reducible exact LeO.none _)
   | (with_reducible refine LeO.ite ?_ ?_)
   | (with_reducible refine LeO.bind ?_ (fun _ => ?_))
theorem tallymanlaw14_HllCalls.mono : ∀ a0 a1 a2 a3 a4 a5 a6 k, LeO (tallymanlaw14_HllCalls.f k a0 a1 a2 a3 a4 a5 a6) (tallymanlaw14_HllCalls.f (k + 1) a0 a1 a2 a3 a4 a5 a6) := by
 intro a0 a1 a2 a3 a4 a5 a6 k
 obtain ⟨ih0, ih1, ih2, ih3, ih4, ih5⟩ := tallymanlaw14_HllCalls.mono_l k
 unfold tallymanlaw14_HllCalls.f
 repeat' first
   | (with_reducible exact ih0 _ _ _ _ _ _ _ _)
   | (with_reducible exact ih1 _ _ _ _ _ _ _)
   | (with_reducible exact ih2 _ _ _ _ _)
   | (with_reducible exact ih3 _ _ _ _ _)
   | (with_reducible exact ih4 _ _ _ _ _)
   | (with_reducible exact ih5 _ _ _ _ _ _)
   | (with_reducible exact hll_Add.mono _ _ _ _)
   | (with_reducible exact hll_AddAll.mono _ _ _ _)
   | (with_reducible exact hll_Check.mono _ _ _)
   | (with_reducible exact hll_Fold.mono _ _ _ _)
   | (with_reducible exact hll_Get.mono _ _ _ _)
   | (with_reducible exact hll_Merge.mono _ _ _ _ _)
   | (with_reducible exact hll_Same.mono _ _ _ _ _)
   | (with_reducible exact hll_Zeros.mono _ _ _)
   | (with_reducible exact tallymankit_Hll.mono _ _ _ _ _)
   | (with_reducible exact tallymanlaw14_lives.mono _)
   | (with_reducible exact tallymanref14_Add.mono _ _ _ _)
   | (with_reducible exact tallymanref14_AddAll.mono _ _ _ _)
   | (with_reducible exact tallymanref14_Check.mono _ _ _)
   | (with_reducible exact tallymanref14_Fold.mono _ _ _ _)
   | (with_reducible exact tallymanref14_Get.mono _ _ _ _)
   | (with_reducible exact tallymanref14_Merge.mono _ _ _ _ _)
   | (with_reducible exact tallymanref14_Split.mono _ _ _)
   | (with_reducible exact tallymanref14_Zeros.mono _ _ _)
   | (with_reducible exact LeO.refl _)
   | (with_reducible exact LeO.none _)
   | (with_reducible refine LeO.ite ?_ ?_)
   | (with_reducible refine LeO.bind ?_ (fun _ => ?_))
def tallymanlaw14_HllCalls.T7 : Bool × List (List Nat × List Nat) := (true, [([], []), ([], []), ([0, 1], [0, 1]), ([2], [2]), ([3, 2], [3]), ([4], [4]), ([4], [4]), ([5, 6, 4], [4, 5, 6]), ([4, 7], [4, 7]), ([8, 4], [8]), ([9], [9]), ([10, 9, 9], [9, 10]), ([9], [9]), ([12, 11, 9], [9, 12]), ([11, 13, 9], [9, 11, 13]), ([9, 14], [9, 14]), ([15, 13], [15]), ([16], [16]), ([16], [16]), ([17, 18, 16, 16], [16, 17, 18]), ([16], [16]), ([16], [16]), ([20, 21, 19, 16], [16, 20, 21]), ([19, 22, 16], [16, 19, 22]), ([16, 23], [16, 23]), ([24, 22], [24]), ([25], [25]), ([26, 25, 25], [25, 26]), ([25], [25]), ([28, 27, 25], [25, 28]), ([27, 29, 25], [25, 27, 29]), ([25, 30], [25, 30]), ([31, 29], [31]), ([32], [32]), ([32], [32]), ([33, 34, 32, 32], [32, 33, 34]), ([32], [32]), ([32], [32]), ([36, 37, 35, 32], [32, 36, 37]), ([35, 38, 32], [32, 35, 38]), ([32, 39], [32, 39])])
def tallymanlaw14_HllCalls.B7 : List Nat := [0, 0, 3, 7, 15, 31, 31, 127, 255, 511, 1023, 2047, 1023, 8191, 16383, 32767, 65535, 131071, 131071, 524287, 131071, 131071, 4194303, 8388607, 16777215, 33554431, 67108863, 134217727, 67108863, 536870911, 1073741823, 2147483647, 4294967295, 8589934591, 8589934591, 34359738367, 8589934591, 8589934591, 274877906943, 549755813887, 1099511627775]
theorem tallymanlaw14_HllCalls.tab7 : rtab .any (opsOf Try.f12 7) = tallymanlaw14_HllCalls.T7 := by kernel_rfl
theorem tallymanlaw14_HllCalls.bits7 : waitsOk tallymanlaw14_HllCalls.T7.2 tallymanlaw14_HllCalls.B7 = true := by kernel_rfl
def tallymanlaw14_HllCalls.T24 : Bool × List (List Nat × List Nat) := (true, [([], []), ([], []), ([], []), ([1, 2], [1, 2]), ([3], [3]), ([0, 4], [0, 4]), ([5], [5]), ([6], [6]), ([6], [6]), ([7, 5, 0, 1, 2, 3, 4, 5, 6, 7], [7]), ([8, 9, 0, 1, 2, 3, 4, 5, 6, 7, 8, 9], [8])])
def tallymanlaw14_HllCalls.B24 : List Nat := [0, 0, 0, 6, 14, 31, 63, 127, 127, 255, 1023]
theorem tallymanlaw14_HllCalls.tab24 : rtab .any (opsOf Try.f12 24) = tallymanlaw14_HllCalls.T24 := by kernel_rfl
theorem tallymanlaw14_HllCalls.bits24 : waitsOk tallymanlaw14_HllCalls.T24.2 tallymanlaw14_HllCalls.B24 = true := by kernel_rfl
def tallymanlaw14_HllCalls.T25 : Bool × List (List Nat × List Nat) := (true, [([], []), ([], []), ([], []), ([1, 2], [1, 2]), ([3], [3]), ([0, 4], [0, 4]), ([5], [5]), ([6], [6]), ([6], [6]), ([7, 5, 0, 1, 2, 3, 4, 5, 6, 7], [7]), ([8, 9, 0, 1, 2, 3, 4, 5, 6, 7, 8, 9], [8])])
def tallymanlaw14_HllCalls.B25 : List Nat := [0, 0, 0, 6, 14, 31, 63, 127, 127, 255, 1023]
theorem tallymanlaw14_HllCalls.tab25 : rtab .any (opsOf Try.f12 25) = tallymanlaw14_HllCalls.T25 := by kernel_rfl
theorem tallymanlaw14_HllCalls.bits25 : waitsOk tallymanlaw14_HllCalls.T25.2 tallymanlaw14_HllCalls.B25 = true := by kernel_rfl

end Go.Proofs.Ytbclnjinpcfpjaa.H
