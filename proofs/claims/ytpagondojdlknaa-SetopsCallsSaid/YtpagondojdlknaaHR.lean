-- Made by this session's own call of the printer (functions that are proved by hand are taken from a text beside it).
import Derived.Test.YtpagondojdlknaaZ3
import Derived.Test.YtpagondojdlknaaH0
import Derived.Test.YtpagondojdlknaaH1
import Derived.Test.YtpagondojdlknaaH4
import Derived.Test.YtpagondojdlknaaH5
import Derived.Test.YtpagondojdlknaaH6
import Derived.Test.YtpagondojdlknaaH9
import Derived.Test.YtpagondojdlknaaH10
import Derived.Test.YtpagondojdlknaaH11
import Derived.Test.YtpagondojdlknaaH13
import Derived.Test.YtpagondojdlknaaH15
import Derived.Test.YtpagondojdlknaaH16
namespace Go.Proofs.Ytpagondojdlknaa.H
open Go.RowKit Go.Proofs.YtpagondojdlknaaW.PrintWords Go.Proofs.YtpagondojdlknaaW.PrintLast Go.Proofs.YtpagondojdlknaaW.PrintMore
attribute [local go_sem] max2_int min2_int max_two min_two max_three min_three max_four min_four   -- for this text's walks alone
set_option linter.unusedVariables false
set_option linter.unusedSimpArgs false

/-! ### tallymanlaw17_SetopsCalls: function 7 -/
mutual
def tallymanlaw17_SetopsCalls.j0 : Nat → Int → Bool → Int → List Int → Int → List Int → Int → List Int → Int → Option (Bool)
 | 0, _, _, _, _, _, _, _, _, _ => none
 | k + 1, x3, x34, x487000, x487001, x488000, x488001, x489000, x489001, x489002 => if x34 = true then (some true) else ((setops_Of.f k x489000 x489001 x489002).bind fun bt490 => ((tallymanref17_Of.f k x489000 x489001 x489002).bind fun bt496 => ((tallymankit_View.f k bt490.1 bt490.2.1 bt496.1 bt496.2.1).bind fun t502 => (if t502 = true then (if bt490.2.2 = bt496.2.2 then ((setops_Check.f k x487000 x487001).bind fun t503 => ((tallymanref17_Check.f k x487000 x487001).bind fun t504 => (if t503 = t504 then ((setops_Estimate.f k x487000 x487001).bind fun t505 => ((tallymanref17_Estimate.f k x487000 x487001).bind fun t506 => (if t505 = t506 then ((setops_Same.f k x487000 x487001 x488000 x488001).bind fun t507 => ((tallymanref17_Same.f k x487000 x487001 x488000 x488001).bind fun t508 => (tallymanlaw17_SetopsCalls.j1 k x3 (t507 != t508) x487000 x487001 x488000 x488001))) else (tallymanlaw17_SetopsCalls.j1 k x3 true x487000 x487001 x488000 x488001)))) else (tallymanlaw17_SetopsCalls.j1 k x3 true x487000 x487001 x488000 x488001)))) else (tallymanlaw17_SetopsCalls.j1 k x3 true x487000 x487001 x488000 x488001)) else (tallymanlaw17_SetopsCalls.j1 k x3 true x487000 x487001 x488000 x488001)))))
def tallymanlaw17_SetopsCalls.j1 : Nat → Int → Bool → Int → List Int → Int → List Int → Option (Bool)
 | 0, _, _, _, _, _, _ => none
 | k + 1, x3, x76, x487000, x487001, x488000, x488001 => if x76 = true then (none) else ((setops_Cut.f x487000 x487001 x3).bind fun bt509 => ((tallymanref17_Cut.f k x487000 x487001 x3).bind fun bt514 => ((tallymankit_View.f k bt509.1 bt509.2.1 bt514.1 bt514.2.1).bind fun t519 => (if t519 = true then (tallymanlaw17_SetopsCalls.j2 k (bt509.2.2 != bt514.2.2) x487000 x487001 x488000 x488001) else (tallymanlaw17_SetopsCalls.j2 k true x487000 x487001 x488000 x488001)))))
def tallymanlaw17_SetopsCalls.j2 : Nat → Bool → Int → List Int → Int → List Int → Option (Bool)
 | 0, _, _, _, _, _ => none
 | k + 1, x97, x487000, x487001, x488000, x488001 => if x97 = true then (none) else ((setops_Either.f x487000 x487001 x488000 x488001).bind fun bt520 => ((tallymanref17_Either.f k x487000 x487001 x488000 x488001).bind fun bt525 => ((tallymankit_View.f k bt520.1 bt520.2.1 bt525.1 bt525.2.1).bind fun t530 => (if t530 = true then (tallymanlaw17_SetopsCalls.j3 k (bt520.2.2 != bt525.2.2) x487000 x487001 x488000 x488001) else (tallymanlaw17_SetopsCalls.j3 k true x487000 x487001 x488000 x488001)))))
def tallymanlaw17_SetopsCalls.j3 : Nat → Bool → Int → List Int → Int → List Int → Option (Bool)
 | 0, _, _, _, _, _ => none
 | k + 1, x118, x487000, x487001, x488000, x488001 => if x118 = true then (none) else ((setops_Both.f x487000 x487001 x488000 x488001).bind fun bt531 => ((tallymanref17_Both.f k x487000 x487001 x488000 x488001).bind fun bt536 => ((tallymankit_View.f k bt531.1 bt531.2.1 bt536.1 bt536.2.1).bind fun t541 => (if t541 = true then (tallymanlaw17_SetopsCalls.j4 k (bt531.2.2 != bt536.2.2) x487000 x487001 x488000 x488001) else (tallymanlaw17_SetopsCalls.j4 k true x487000 x487001 x488000 x488001)))))
def tallymanlaw17_SetopsCalls.j4 : Nat → Bool → Int → List Int → Int → List Int → Option (Bool)
 | 0, _, _, _, _, _ => none
 | k + 1, x139, x487000, x487001, x488000, x488001 => if x139 = true then (none) else ((setops_Less.f x487000 x487001 x488000 x488001).bind fun bt542 => ((tallymanref17_Less.f k x487000 x487001 x488000 x488001).bind fun bt547 => ((tallymankit_View.f k bt542.1 bt542.2.1 bt547.1 bt547.2.1).bind fun t552 => (if t552 = true then (tallymanlaw17_SetopsCalls.j5 k (bt542.2.2 != bt547.2.2) x487000 x487001 x488000 x488001) else (tallymanlaw17_SetopsCalls.j5 k true x487000 x487001 x488000 x488001)))))
def tallymanlaw17_SetopsCalls.j5 : Nat → Bool → Int → List Int → Int → List Int → Option (Bool)
 | 0, _, _, _, _, _ => none
 | k + 1, x160, x487000, x487001, x488000, x488001 => if x160 = true then (none) else ((setops_One.f x487000 x487001 x488000 x488001).bind fun bt553 => ((tallymanref17_One.f k x487000 x487001 x488000 x488001).bind fun bt558 => ((setops_Like.f x487000 x487001 x488000 x488001).bind fun bt563 => ((tallymanref17_Like.f k x487000 x487001 x488000 x488001).bind fun bt565 => ((tallymankit_View.f k bt553.1 bt553.2.1 bt558.1 bt558.2.1).bind fun t567 => (if t567 = true then (if bt553.2.2 = bt558.2.2 then (if bt563.1 = bt565.1 then (some (bt563.2 == bt565.2)) else (none)) else (none)) else (none)))))))
end
def tallymanlaw17_SetopsCalls.f (k : Nat) (a0_0 : Int) (l0_1 : List Int) (a1_0 : Int) (l1_1 : List Int) (a2_0 : Int) (l2_1 : List Int) (a2_2 : Int) (a3 : Int) : Option (Bool) := (tallymanlaw17_lives.f k).bind fun t489 => (if t489 = true then (if (l0_1.length : Int) > 300 then (tallymanlaw17_SetopsCalls.j0 k a3 true a0_0 l0_1 a1_0 l1_1 a2_0 l2_1 a2_2) else (if (l1_1.length : Int) > 300 then (tallymanlaw17_SetopsCalls.j0 k a3 true a0_0 l0_1 a1_0 l1_1 a2_0 l2_1 a2_2) else (tallymanlaw17_SetopsCalls.j0 k a3 (decide ((l2_1.length : Int) > 300)) a0_0 l0_1 a1_0 l1_1 a2_0 l2_1 a2_2))) else (none))
theorem tallymanlaw17_SetopsCalls.mono_l : ∀ k, (∀ y0 y1 y2 y3 y4 y5 y6 y7 y8, LeO (tallymanlaw17_SetopsCalls.j0 k y0 y1 y2 y3 y4 y5 y6 y7 y8) (tallymanlaw17_SetopsCalls.j0 (k + 1) y0 y1 y2 y3 y4 y5 y6 y7 y8)) ∧ (∀ y0 y1 y2 y3 y4 y5, LeO (tallymanlaw17_SetopsCalls.j1 k y0 y1 y2 y3 y4 y5) (tallymanlaw17_SetopsCalls.j1 (k + 1) y0 y1 y2 y3 y4 y5)) ∧ (∀ y0 y1 y2 y3 y4, LeO (tallymanlaw17_SetopsCalls.j2 k y0 y1 y2 y3 y4) (tallymanlaw17_SetopsCalls.j2 (k + 1) y0 y1 y2 y3 y4)) ∧ (∀ y0 y1 y2 y3 y4, LeO (tallymanlaw17_SetopsCalls.j3 k y0 y1 y2 y3 y4) (tallymanlaw17_SetopsCalls.j3 (k + 1) y0 y1 y2 y3 y4)) ∧ (∀ y0 y1 y2 y3 y4, LeO (tallymanlaw17_SetopsCalls.j4 k y0 y1 y2 y3 y4) (tallymanlaw17_SetopsCalls.j4 (k + 1) y0 y1 y2 y3 y4)) ∧ (∀ y0 y1 y2 y3 y4, LeO (tallymanlaw17_SetopsCalls.j5 k y0 y1 y2 y3 y4) (tallymanlaw17_SetopsCalls.j5 (k + 1) y0 y1 y2 y3 y4))
 | 0 => ⟨fun _ _ _ _ _ _ _ _ _ r h => by simp [tallymanlaw17_SetopsCalls.j0] at h, fun _ _ _ _ _ _ r h => by simp [tallymanlaw17_SetopsCalls.j1] at h, fun _ _ _ _ _ r h => by simp [tallymanlaw17_SetopsCalls.j2] at h, fun _ _ _ _ _ r h => by simp [tallymanlaw17_SetopsCalls.j3] at h, fun _ _ _ _ _ r h => by simp [tallymanlaw17_SetopsCalls.j4] at h, fun _ _ _ _ _ r h => by simp [tallymanlaw17_SetopsCalls.j5] at h⟩
 | k + 1 => by
  obtain ⟨ih0, ih1, ih2, ih3, ih4, ih5⟩ := tallymanlaw17_SetopsCalls.mono_l k
  refine ⟨?_, ?_, ?_, ?_, ?_, ?_⟩
  ·
   intro y0 y1 y2 y3 y4 y5 y6 y7 y8
   unfold tallymanlaw17_SetopsCalls.j0
   repeat' first
   | (with_reducible exact ih0 _ _ _ _ _ _ _ _ _)
   | (with_reducible exact ih1 _ _ _ _ _ _)
   | (with_reducible exact ih2 _ _ _ _ _)
   | (with_reducible exact ih3 _ _ _ _ _)
   | (with_reducible exact ih4 _ _ _ _ _)
   | (with_reducible exact ih5 _ _ _ _ _)
   | (with_reducible exact setops_Check.mono _ _ _)
   | (with_reducible exact setops_Estimate.mono _ _ _)
   | (with_reducible exact setops_Of.mono _ _ _ _)
   | (with_reducible exact setops_Same.mono _ _ _ _ _)
   | (with_reducible exact tallymankit_View.mono _ _ _ _ _)
   | (with_reducible exact tallymanlaw17_lives.mono _)
   | (with_reducible exact tallymanref17_Both.mono _ _ _ _ _)
   | (with_reducible exact tallymanref17_Check.mono _ _ _)
   | (with_reducible exact tallymanref17_Cut.mono _ _ _ _)
   | (with_reducible exact tallymanref17_Either.mono _ _ _ _ _)
   | (with_reducible exact tallymanref17_Estimate.mono _ _ _)
   | (with_reducible exact tallymanref17_Less.mono _ _ _ _ _)
   | (with_reducible exact tallymanref17_Like.mono _ _ _ _ _)
   | (with_reducible exact tallymanref17_Of.mono _ _ _ _)
   | (with_reducible exact tallymanref17_One.mono _ _ _ _ _)
   | (with_reducible exact tallymanref17_Same.mono _ _ _ _ _)
   | (with_reducible exact LeO.refl _)
   | (with_reducible exact LeO.none _)
   | (with_reducible refine LeO.ite ?_ ?_)
   | (with_reducible refine LeO.bind ?_ (fun _ => ?_))
  ·
   intro y0 y1 y2 y3 y4 y5
   unfold tallymanlaw17_SetopsCalls.j1
   repeat' first
   | (with_reducible exact ih0 _ _ _ _ _ _ _ _ _)
   | (with_reducible exact ih1 _ _ _ _ _ _)
   | (with_reducible exact ih2 _ _ _ _ _)
   | (with_reducible exact ih3 _ _ _ _ _)
   | (with_reducible exact ih4 _ _ _ _ _)
   | (with_reducible exact ih5 _ _ _ _ _)
   | (with_reducible exact setops_Check.mono _ _ _)
   | (with_reducible exact setops_Estimate.mono _ _ _)
   | (with_reducible exact setops_Of.mono _ _ _ _)
   | (with_reducible exact setops_Same.mono _ _ _ _ _)
   | (with_reducible exact tallymankit_View.mono _ _ _ _ _)
   | (with_reducible exact tallymanlaw17_lives.mono _)
   | (with_reducible exact tallymanref17_Both.mono _ _ _ _ _)
   | (with_reducible exact tallymanref17_Check.mono _ _ _)
   | (with_reducible exact tallymanref17_Cut.mono _ _ _ _)
   | (with_reducible exact tallymanref17_Either.mono _ _ _ _ _)
   | (with_reducible exact tallymanref17_Estimate.mono _ _ _)
   | (with_reducible exact tallymanref17_Less.mono _ _ _ _ _)
   | (with_reducible exact tallymanref17_Like.mono _ _ _ _ _)
   | (with_reducible exact tallymanref17_Of.mono _ _ _ _)
   | (with_reducible exact tallymanref17_One.mono _ _ _ _ _)
   | (with_reducible exact tallymanref17_Same.mono _ _ _ _ _)
   | (with_reducible exact LeO.refl _)
   | (with_reducible exact LeO.none _)
   | (with_reducible refine LeO.ite ?_ ?_)
   | (with_reducible refine LeO.bind ?_ (fun _ => ?_))
  ·
   intro y0 y1 y2 y3 y4
   unfold tallymanlaw17_SetopsCalls.j2
   repeat' first
   | (with_reducible exact ih0 _ _ _ _ _ _ _ _ _)
   | (with_reducible exact ih1 _ _ _ _ _ _)
   | (with_reducible exact ih2 _ _ _ _ _)
   | (with_reducible exact ih3 _ _ _ _ _)
   | (with_reducible exact ih4 _ _ _ _ _)
   | (with_reducible exact ih5 _ _ _ _ _)
   | (with_reducible exact setops_Check.mono _ _ _)
   | (with_reducible exact setops_Estimate.mono _ _ _)
   | (with_reducible exact setops_Of.mono _ _ _ _)
   | (with_reducible exact setops_Same.mono _ _ _ _ _)
   | (with_reducible exact tallymankit_View.mono _ _ _ _ _)
   | (with_reducible exact tallymanlaw17_lives.mono _)
   | (with_reducible exact tallymanref17_Both.mono _ _ _ _ _)
   | (with_reducible exact tallymanref17_Check.mono _ _ _)
   | (with_reducible exact tallymanref17_Cut.mono _ _ _ _)
   | (with_reducible exact tallymanref17_Either.mono _ _ _ _ _)
   | (with_reducible exact tallymanref17_Estimate.mono _ _ _)
   | (with_reducible exact tallymanref17_Less.mono _ _ _ _ _)
   | (with_reducible exact tallymanref17_Like.mono _ _ _ _ _)
   | (with_reducible exact tallymanref17_Of.mono _ _ _ _)
   | (with_reducible exact tallymanref17_One.mono _ _ _ _ _)
   | (with_reducible exact tallymanref17_Same.mono _ _ _ _ _)
   | (with_reducible exact LeO.refl _)
   | (with_reducible exact LeO.none _)
   | (with_reducible refine LeO.ite ?_ ?_)
   | (with_reducible refine LeO.bind ?_ (fun _ => ?_))
  ·
   intro y0 y1 y2 y3 y4
   unfold tallymanlaw17_SetopsCalls.j3
   repeat' first
   | (with_reducible exact ih0 _ _ _ _ _ _ _ _ _)
   | (with_reducible exact ih1 _ _ _ _ _ _)
   | (with_reducible exact ih2 _ _ _ _ _)
   | (with_reducible exact ih3 _ _ _ _ _)
   | (with_reducible exact ih4 _ _ _ _ _)
   | (with_reducible exact ih5 _ _ _ _ _)
   | (with_reducible exact setops_Check.mono _ _ _)
   | (with_reducible exact setops_Estimate.mono _ _ _)
   | (with_reducible exact setops_Of.mono _ _ _ _)
   | (with_reducible exact setops_Same.mono _ _ _ _ _)
   | (with_reducible exact tallymankit_View.mono _ _ _ _ _)
   | (with_reducible exact tallymanlaw17_lives.mono _)
   | (with_reducible exact tallymanref17_Both.mono _ _ _ _ _)
   | (with_reducible exact tallymanref17_Check.mono _ _ _)
   | (with_reducible exact tallymanref17_Cut.mono _ _ _ _)
   | (with_reducible exact tallymanref17_Either.mono _ _ _ _ _)
   | (with_reducible exact tallymanref17_Estimate.mono _ _ _)
   | (with_reducible exact tallymanref17_Less.mono _ _ _ _ _)
   | (with_reducible exact tallymanref17_Like.mono _ _ _ _ _)
   | (with_reducible exact tallymanref17_Of.mono _ _ _ _)
   | (with_reducible exact tallymanref17_One.mono _ _ _ _ _)
   | (with_reducible exact tallymanref17_Same.mono _ _ _ _ _)
   | (with_reducible exact LeO.refl _)
   | (with_reducible exact LeO.none _)
   | (with_reducible refine LeO.ite ?_ ?_)
   | (with_reducible refine LeO.bind ?_ (fun _ => ?_))
  ·
   intro y0 y1 y2 y3 y4
   unfold tallymanlaw17_SetopsCalls.j4
   repeat' first
   | (with_reducible exact ih0 _ _ _ _ _ _ _ _ _)
   | (with_reducible exact ih1 _ _ _ _ _ _)
   | (with_reducible exact ih2 _ _ _ _ _)
   | (with_reducible exact ih3 _ _ _ _ _)
   | (with_reducible exact ih4 _ _ _ _ _)
   | (with_reducible exact ih5 _ _ _ _ _)
   | (with_reducible exact setops_Check.mono _ _ _)
   | (with_reducible exact setops_Estimate.mono _ _ _)
   | (with_reducible exact setops_Of.mono _ _ _ _)
   | (with_reducible exact setops_Same.mono _ _ _ _ _)
   | (with_reducible exact tallymankit_View.mono _ _ _ _ _)
   | (with_reducible exact tallymanlaw17_lives.mono _)
   | (with_reducible exact tallymanref17_Both.mono _ _ _ _ _)
   | (with_reducible exact tallymanref17_Check.mono _ _ _)
   | (with_reducible exact tallymanref17_Cut.mono _ _ _ _)
   | (with_reducible exact tallymanref17_Either.mono _ _ _ _ _)
   | (with_reducible exact tallymanref17_Estimate.mono _ _ _)
   | (with_reducible exact tallymanref17_Less.mono _ _ _ _ _)
   | (with_reducible exact tallymanref17_Like.mono _ _ _ _ _)
   | (with_reducible exact tallymanref17_Of.mono _ _ _ _)
   | (with_reducible exact tallymanref17_One.mono _ _ _ _ _)
   | (with_reducible exact tallymanref17_Same.mono _ _ _ _ _)
   | (with_reducible exact LeO.refl _)
   | (with_reducible exact LeO.none _)
   | (with_reducible refine LeO.ite ?_ ?_)
   | (with_reducible refine LeO.bind ?_ (fun _ => ?_))
  ·
   intro y0 y1 y2 y3 y4
   unfold tallymanlaw17_SetopsCalls.j5
   repeat' first
   | (with_reducible exact ih0 _ _ _ _ _ _ _ _ _)
   | (with_reducible exact ih1 _ _ _ _ _ _)
   | (with_reducible exact ih2 _ _ _ _ _)
   | (with_reducible exact ih3 _ _ _ _ _)
   | (with_reducible exact ih4 _ _ _ _ _)
   | (with_reducible exact ih5 _ _ _ _ _)
   | (with_reducible exact setops_Check.mono _ _ _)
   | (with_reducible exact setops_Estimate.mono _ _ _)
   | (with_reducible exact setops_Of.mono _ _ _ _)
   | (with_reducible exact setops_Same.mono _ _ _ _ _)
   | (with_reducible exact tallymankit_View.mono _ _ _ _ _)
   | (with_reducible exact tallymanlaw17_lives.mono _)
   | (with_reducible exact tallymanref17_Both.mono _ _ _ _ _)
   | (with_reducible exact tallymanref17_Check.mono _ _ _)
   | (with_reducible exact tallymanref17_Cut.mono _ _ _ _)
   | (with_reducible exact tallymanref17_Either.mono _ _ _ _ _)
   | (with_reducible exact tallymanref17_Estimate.mono _ _ _)
   | (with_reducible exact tallymanref17_Less.mono _ _ _ _ _)
   | (with_reducible exact tallymanref17_Like.mono _ _ _ _ _)
   | (with_reducible exact tallymanref17_Of.mono _ _ _ _)
   | (with_reducible exact tallymanref17_One.mono _ _ _ _ _)
   | (with_reducible exact tallymanref17_Same.mono _ _ _ _ _)
   | (with_reducible exact LeO.refl _)
   | (with_reducible exact LeO.none _)
   | (with_reducible refine LeO.ite ?_ ?_)
   | (with_reducible refine LeO.bind ?_ (fun _ => ?_))
theorem tallymanlaw17_SetopsCalls.mono : ∀ a0 a1 a2 a3 a4 a5 a6 a7 k, LeO (tallymanlaw17_SetopsCalls.f k a0 a1 a2 a3 a4 a5 a6 a7) (tallymanlaw17_SetopsCalls.f (k + 1) a0 a1 a2 a3 a4 a5 a6 a7) := by
 intro a0 a1 a2 a3 a4 a5 a6 a7 k
 obtain ⟨ih0, ih1, ih2, ih3, ih4, ih5⟩ := tallymanlaw17_SetopsCalls.mono_l k
 unfold tallymanlaw17_SetopsCalls.f
 repeat' first
   | (with_reducible exact ih0 _ _ _ _ _ _ _ _ _)
   | (with_reducible exact ih1 _ _ _ _ _ _)
   | (with_reducible exact ih2 _ _ _ _ _)
   | (with_reducible exact ih3 _ _ _ _ _)
   | (with_reducible exact ih4 _ _ _ _ _)
   | (with_reducible exact ih5 _ _ _ _ _)
   | (with_reducible exact setops_Check.mono _ _ _)
   | (with_reducible exact setops_Estimate.mono _ _ _)
   | (with_reducible exact setops_Of.mono _ _ _ _)
   | (with_reducible exact setops_Same.mono _ _ _ _ _)
   | (with_reducible exact tallymankit_View.mono _ _ _ _ _)
   | (with_reducible exact tallymanlaw17_lives.mono _)
   | (with_reducible exact tallymanref17_Both.mono _ _ _ _ _)
   | (with_reducible exact tallymanref17_Check.mono _ _ _)
   | (with_reducible exact tallymanref17_Cut.mono _ _ _ _)
   | (with_reducible exact tallymanref17_Either.mono _ _ _ _ _)
   | (with_reducible exact tallymanref17_Estimate.mono _ _ _)
   | (with_reducible exact tallymanref17_Less.mono _ _ _ _ _)
   | (with_reducible exact tallymanref17_Like.mono _ _ _ _ _)
   | (with_reducible exact tallymanref17_Of.mono _ _ _ _)
   | (with_reducible exact tallymanref17_One.mono _ _ _ _ _)
   | (with_reducible exact tallymanref17_Same.mono _ _ _ _ _)
   | (with_reducible exact LeO.refl _)
   | (with_reducible exact LeO.none _)
   | (with_reducible refine LeO.ite ?_ ?_)
   | (with_reducible refine LeO.bind ?_ (fun _ => ?_))
def tallymanlaw17_SetopsCalls.T7 : Bool × List (List Nat × List Nat) := (true, [([], []), ([], []), ([0, 1], [0, 1]), ([2], [2]), ([3, 2], [3]), ([4], [4]), ([4], [4]), ([5, 6, 4], [4, 5, 6]), ([4, 7], [4, 7]), ([8, 4], [8]), ([9], [9]), ([10, 9, 9], [9, 10]), ([9], [9]), ([12, 11, 9], [9, 12]), ([11, 13, 9], [9, 11, 13]), ([9, 14], [9, 14]), ([15, 13], [15]), ([16], [16]), ([17, 16, 16], [16, 17]), ([16], [16]), ([19, 18, 16], [16, 19]), ([18, 20, 16], [16, 18, 20]), ([16, 21], [16, 21]), ([22, 20], [22]), ([23], [23]), ([23], [23]), ([24, 25, 23, 23], [23, 24, 25]), ([23], [23]), ([23], [23]), ([27, 28, 26, 23], [23, 27, 28]), ([26, 29, 23], [23, 26, 29]), ([23, 30], [23, 30])])
def tallymanlaw17_SetopsCalls.B7 : List Nat := [0, 0, 3, 7, 15, 31, 31, 127, 255, 511, 1023, 2047, 1023, 8191, 16383, 32767, 65535, 131071, 262143, 131071, 1048575, 2097151, 4194303, 8388607, 16777215, 16777215, 67108863, 16777215, 16777215, 536870911, 1073741823, 2147483647]
theorem tallymanlaw17_SetopsCalls.tab7 : rtab .any (opsOf Try.f7 7) = tallymanlaw17_SetopsCalls.T7 := by kernel_rfl
theorem tallymanlaw17_SetopsCalls.bits7 : waitsOk tallymanlaw17_SetopsCalls.T7.2 tallymanlaw17_SetopsCalls.B7 = true := by kernel_rfl

end Go.Proofs.Ytpagondojdlknaa.H
