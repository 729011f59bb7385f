-- Made by this session's own call of the printer (functions that are proved by hand are taken from a text beside it).
import Derived.Test.YtpagondojdlknaaH0
import Derived.Test.YtpagondojdlknaaH5
import Derived.Test.YtpagondojdlknaaH9
import Derived.Test.YtpagondojdlknaaH19
namespace Go.Proofs.Ytpagondojdlknaa.H
open Go.RowKit Go.Proofs.YtpagondojdlknaaW.PrintWords Go.Proofs.YtpagondojdlknaaW.PrintLast Go.Proofs.YtpagondojdlknaaW.PrintMore
attribute [local go_sem] max2_int min2_int max_two min_two max_three min_three max_four min_four   -- for this text's walks alone
set_option linter.unusedVariables false
set_option linter.unusedSimpArgs false

/-! ### tallymanlaw17_SetopsSound: function 4 -/
mutual
def tallymanlaw17_SetopsSound.j0 : Nat → List Int → List Int → Int → Int → Bool → Option (Bool)
 | 0, _, _, _, _, _ => none
 | k + 1, x0, x1, x2, x3, x37 => if x37 = true then (some true) else ((tallymankit_Pick.f x2 60).bind fun t606 => ((tallymanref16_Of.f k (wrap64 (16 + t606)) x0).bind fun bt607 => ((tallymankit_Pick.f x3 60).bind fun t614 => ((tallymanref16_Of.f k (wrap64 (16 + t614)) x1).bind fun bt615 => (if bt607.2.2.2 = 0 then (tallymanlaw17_SetopsSound.j1 k x0 x1 (bt615.2.2.2 != 0) bt607.1 bt607.2.1 bt607.2.2.1 bt615.1 bt615.2.1 bt615.2.2.1) else (tallymanlaw17_SetopsSound.j1 k x0 x1 true bt607.1 bt607.2.1 bt607.2.2.1 bt615.1 bt615.2.1 bt615.2.2.1))))))
def tallymanlaw17_SetopsSound.j1 : Nat → List Int → List Int → Bool → Int → List Int → Int → Int → List Int → Int → Option (Bool)
 | 0, _, _, _, _, _, _, _, _, _ => none
 | k + 1, x0, x1, x59, x614000, x614001, x614002, x622000, x622001, x622002 => if x59 = true then (none) else ((setops_Of.f k x614000 x614001 x614002).bind fun bt622 => ((setops_Of.f k x622000 x622001 x622002).bind fun bt628 => (if bt622.2.2 = 0 then (tallymanlaw17_SetopsSound.j2 k x0 x1 (bt628.2.2 != 0) x614000 x614001 x614002 x622000 x622001 x622002 bt622.1 bt622.2.1 bt628.1 bt628.2.1) else (tallymanlaw17_SetopsSound.j2 k x0 x1 true x614000 x614001 x614002 x622000 x622001 x622002 bt622.1 bt622.2.1 bt628.1 bt628.2.1))))
def tallymanlaw17_SetopsSound.j2 : Nat → List Int → List Int → Bool → Int → List Int → Int → Int → List Int → Int → Int → List Int → Int → List Int → Option (Bool)
 | 0, _, _, _, _, _, _, _, _, _, _, _, _, _ => none
 | k + 1, x0, x1, x75, x614000, x614001, x614002, x622000, x622001, x622002, x628000, x628001, x634000, x634001 => if x75 = true then (none) else ((setops_Either.f x628000 x628001 x634000 x634001).bind fun bt634 => ((setops_Both.f x628000 x628001 x634000 x634001).bind fun bt640 => ((setops_Less.f x628000 x628001 x634000 x634001).bind fun bt646 => ((setops_One.f x628000 x628001 x634000 x634001).bind fun bt652 => (if bt634.2.2 = 0 then (if bt640.2.2 = 0 then (if bt646.2.2 = 0 then (tallymanlaw17_SetopsSound.j3 k x0 x1 (bt652.2.2 != 0) x614000 x614001 x614002 x622000 x622001 x622002 bt634.1 bt634.2.1 bt640.1 bt640.2.1 bt646.1 bt646.2.1 bt652.1 bt652.2.1) else (tallymanlaw17_SetopsSound.j3 k x0 x1 true x614000 x614001 x614002 x622000 x622001 x622002 bt634.1 bt634.2.1 bt640.1 bt640.2.1 bt646.1 bt646.2.1 bt652.1 bt652.2.1)) else (tallymanlaw17_SetopsSound.j3 k x0 x1 true x614000 x614001 x614002 x622000 x622001 x622002 bt634.1 bt634.2.1 bt640.1 bt640.2.1 bt646.1 bt646.2.1 bt652.1 bt652.2.1)) else (tallymanlaw17_SetopsSound.j3 k x0 x1 true x614000 x614001 x614002 x622000 x622001 x622002 bt634.1 bt634.2.1 bt640.1 bt640.2.1 bt646.1 bt646.2.1 bt652.1 bt652.2.1))))))
def tallymanlaw17_SetopsSound.j3 : Nat → List Int → List Int → Bool → Int → List Int → Int → Int → List Int → Int → Int → List Int → Int → List Int → Int → List Int → Int → List Int → Option (Bool)
 | 0, _, _, _, _, _, _, _, _, _, _, _, _, _, _, _, _, _ => none
 | k + 1, x0, x1, x113, x614000, x614001, x614002, x622000, x622001, x622002, x640000, x640001, x646000, x646001, x652000, x652001, x658000, x658001 => if x113 = true then (none) else (if x646000 = x640000 then (if x652000 = x640000 then (if x658000 = x640000 then (if x640000 = 0 then (tallymanlaw17_SetopsSound.j4 k x0 x1 x640000 false x640000 x640001 x646000 x646001 x652000 x652001 x658000 x658001) else (if x640000 = x614002 then (tallymanlaw17_SetopsSound.j4 k x0 x1 x640000 false x640000 x640001 x646000 x646001 x652000 x652001 x658000 x658001) else (tallymanlaw17_SetopsSound.j4 k x0 x1 x640000 (x640000 != x622002) x640000 x640001 x646000 x646001 x652000 x652001 x658000 x658001))) else (tallymanlaw17_SetopsSound.j4 k x0 x1 x640000 true x640000 x640001 x646000 x646001 x652000 x652001 x658000 x658001)) else (tallymanlaw17_SetopsSound.j4 k x0 x1 x640000 true x640000 x640001 x646000 x646001 x652000 x652001 x658000 x658001)) else (tallymanlaw17_SetopsSound.j4 k x0 x1 x640000 true x640000 x640001 x646000 x646001 x652000 x652001 x658000 x658001))
def tallymanlaw17_SetopsSound.j4 : Nat → List Int → List Int → Int → Bool → Int → List Int → Int → List Int → Int → List Int → Int → List Int → Option (Bool)
 | 0, _, _, _, _, _, _, _, _, _, _, _, _ => none
 | k + 1, x0, x1, x21, x147, x640000, x640001, x646000, x646001, x652000, x652001, x658000, x658001 => if x147 = true then (none) else ((some (([] : List Int) : List Int)).bind fun y658 => (if y658.length + x0.length < 17592186044416 then ((some (y658 ++ x0 : List Int)).bind fun y661 => (if y661.length + x1.length < 17592186044416 then (tallymanlaw17_SetopsSound.l0 k x0 x1 x21 0 (y661 ++ x1) 0 x640000 x640001 x646000 x646001 x652000 x652001 x658000 x658001) else (none))) else (none)))
def tallymanlaw17_SetopsSound.l0 : Nat → List Int → List Int → Int → Int → List Int → Int → Int → List Int → Int → List Int → Int → List Int → Int → List Int → Option (Bool)
 | 0, _, _, _, _, _, _, _, _, _, _, _, _, _, _ => none
 | k + 1, x0, x1, x21, x22, x23, x24, x640000, x640001, x646000, x646001, x652000, x652001, x658000, x658001 => if x24 < (x23.length : Int) then (if 0 ≤ x24 then (if x21 = 0 then (tallymanlaw17_SetopsSound.j6 k x0 x1 x21 x22 x23 x24 (rd x23 x24) false x640000 x640001 x646000 x646001 x652000 x652001 x658000 x658001) else (tallymanlaw17_SetopsSound.j6 k x0 x1 x21 x22 x23 x24 (rd x23 x24) (decide ((rd x23 x24) ≥ x21)) x640000 x640001 x646000 x646001 x652000 x652001 x658000 x658001)) else (none)) else (if x22 = (x640001.length : Int) then (if (wrap64 ((x646001.length : Int) + (x658001.length : Int))) = x22 then (some (decide ((x652001.length : Int) ≤ (x658001.length : Int)))) else (none)) else (none))
def tallymanlaw17_SetopsSound.j6 : Nat → List Int → List Int → Int → Int → List Int → Int → Int → Bool → Int → List Int → Int → List Int → Int → List Int → Int → List Int → Option (Bool)
 | 0, _, _, _, _, _, _, _, _, _, _, _, _, _, _, _, _ => none
 | k + 1, x0, x1, x21, x22, x23, x24, x25, x169, x640000, x640001, x646000, x646001, x652000, x652001, x658000, x658001 => if x169 = true then (tallymanlaw17_SetopsSound.l0 k x0 x1 x21 x22 x23 (wrap64 (x24 + 1)) x640000 x640001 x646000 x646001 x652000 x652001 x658000 x658001) else ((tallymanlaw17_in.f k x0 x25).bind fun t668 => ((tallymanlaw17_in.f k x1 x25).bind fun t669 => ((tallymanlaw17_in.f k x640001 x25).bind fun t670 => (if t670 = true then ((tallymanlaw17_in.f k x646001 x25).bind fun t671 => (if t668 = true then (if (t671 != t669) = true then (tallymanlaw17_SetopsSound.j7 k x0 x1 x21 x22 x23 x24 x25 true x640000 x640001 x646000 x646001 x652000 x652001 x658000 x658001) else ((tallymanlaw17_in.f k x652001 x25).bind fun t672 => (if (t672 != (!t669)) = true then (tallymanlaw17_SetopsSound.j7 k x0 x1 x21 x22 x23 x24 x25 true x640000 x640001 x646000 x646001 x652000 x652001 x658000 x658001) else ((tallymanlaw17_in.f k x658001 x25).bind fun t673 => (tallymanlaw17_SetopsSound.j7 k x0 x1 x21 x22 x23 x24 x25 (t673 != (t668 != t669)) x640000 x640001 x646000 x646001 x652000 x652001 x658000 x658001))))) else (if (t671 != false) = true then (tallymanlaw17_SetopsSound.j7 k x0 x1 x21 x22 x23 x24 x25 true x640000 x640001 x646000 x646001 x652000 x652001 x658000 x658001) else ((tallymanlaw17_in.f k x652001 x25).bind fun t674 => (if (t674 != false) = true then (tallymanlaw17_SetopsSound.j7 k x0 x1 x21 x22 x23 x24 x25 true x640000 x640001 x646000 x646001 x652000 x652001 x658000 x658001) else ((tallymanlaw17_in.f k x658001 x25).bind fun t675 => (tallymanlaw17_SetopsSound.j7 k x0 x1 x21 x22 x23 x24 x25 (t675 != (t668 != t669)) x640000 x640001 x646000 x646001 x652000 x652001 x658000 x658001))))))) else (tallymanlaw17_SetopsSound.j7 k x0 x1 x21 x22 x23 x24 x25 true x640000 x640001 x646000 x646001 x652000 x652001 x658000 x658001)))))
def tallymanlaw17_SetopsSound.j7 : Nat → List Int → List Int → Int → Int → List Int → Int → Int → Bool → Int → List Int → Int → List Int → Int → List Int → Int → List Int → Option (Bool)
 | 0, _, _, _, _, _, _, _, _, _, _, _, _, _, _, _, _ => none
 | k + 1, x0, x1, x21, x22, x23, x24, x25, x213, x640000, x640001, x646000, x646001, x652000, x652001, x658000, x658001 => if x213 = true then (none) else (if 0 ≤ x24 then (if x24 ≤ (x23.length : Int) then ((tallymanlaw17_in.f k (x23.take (x24 : Int).toNat) x25).bind fun t680 => (if t680 = true then (tallymanlaw17_SetopsSound.l0 k x0 x1 x21 x22 x23 (wrap64 (x24 + 1)) x640000 x640001 x646000 x646001 x652000 x652001 x658000 x658001) else (tallymanlaw17_SetopsSound.l0 k x0 x1 x21 (wrap64 (x22 + 1)) x23 (wrap64 (x24 + 1)) x640000 x640001 x646000 x646001 x652000 x652001 x658000 x658001))) else (none)) else (none))
end
def tallymanlaw17_SetopsSound.f (k : Nat) (l0 : List Int) (l1 : List Int) (a2 : Int) (a3 : Int) : Option (Bool) := (tallymanlaw17_lives.f k).bind fun t605 => (if t605 = true then (if (l0.length : Int) > 100 then (tallymanlaw17_SetopsSound.j0 k l0 l1 a2 a3 true) else (tallymanlaw17_SetopsSound.j0 k l0 l1 a2 a3 (decide ((l1.length : Int) > 100)))) else (none))
theorem tallymanlaw17_SetopsSound.mono_l : ∀ k, (∀ y0 y1 y2 y3 y4, LeO (tallymanlaw17_SetopsSound.j0 k y0 y1 y2 y3 y4) (tallymanlaw17_SetopsSound.j0 (k + 1) y0 y1 y2 y3 y4)) ∧ (∀ y0 y1 y2 y3 y4 y5 y6 y7 y8, LeO (tallymanlaw17_SetopsSound.j1 k y0 y1 y2 y3 y4 y5 y6 y7 y8) (tallymanlaw17_SetopsSound.j1 (k + 1) y0 y1 y2 y3 y4 y5 y6 y7 y8)) ∧ (∀ y0 y1 y2 y3 y4 y5 y6 y7 y8 y9 y10 y11 y12, LeO (tallymanlaw17_SetopsSound.j2 k y0 y1 y2 y3 y4 y5 y6 y7 y8 y9 y10 y11 y12) (tallymanlaw17_SetopsSound.j2 (k + 1) y0 y1 y2 y3 y4 y5 y6 y7 y8 y9 y10 y11 y12)) ∧ (∀ y0 y1 y2 y3 y4 y5 y6 y7 y8 y9 y10 y11 y12 y13 y14 y15 y16, LeO (tallymanlaw17_SetopsSound.j3 k y0 y1 y2 y3 y4 y5 y6 y7 y8 y9 y10 y11 y12 y13 y14 y15 y16) (tallymanlaw17_SetopsSound.j3 (k + 1) y0 y1 y2 y3 y4 y5 y6 y7 y8 y9 y10 y11 y12 y13 y14 y15 y16)) ∧ (∀ y0 y1 y2 y3 y4 y5 y6 y7 y8 y9 y10 y11, LeO (tallymanlaw17_SetopsSound.j4 k y0 y1 y2 y3 y4 y5 y6 y7 y8 y9 y10 y11) (tallymanlaw17_SetopsSound.j4 (k + 1) y0 y1 y2 y3 y4 y5 y6 y7 y8 y9 y10 y11)) ∧ (∀ y0 y1 y2 y3 y4 y5 y6 y7 y8 y9 y10 y11 y12 y13, LeO (tallymanlaw17_SetopsSound.l0 k y0 y1 y2 y3 y4 y5 y6 y7 y8 y9 y10 y11 y12 y13) (tallymanlaw17_SetopsSound.l0 (k + 1) y0 y1 y2 y3 y4 y5 y6 y7 y8 y9 y10 y11 y12 y13)) ∧ (∀ y0 y1 y2 y3 y4 y5 y6 y7 y8 y9 y10 y11 y12 y13 y14 y15, LeO (tallymanlaw17_SetopsSound.j6 k y0 y1 y2 y3 y4 y5 y6 y7 y8 y9 y10 y11 y12 y13 y14 y15) (tallymanlaw17_SetopsSound.j6 (k + 1) y0 y1 y2 y3 y4 y5 y6 y7 y8 y9 y10 y11 y12 y13 y14 y15)) ∧ (∀ y0 y1 y2 y3 y4 y5 y6 y7 y8 y9 y10 y11 y12 y13 y14 y15, LeO (tallymanlaw17_SetopsSound.j7 k y0 y1 y2 y3 y4 y5 y6 y7 y8 y9 y10 y11 y12 y13 y14 y15) (tallymanlaw17_SetopsSound.j7 (k + 1) y0 y1 y2 y3 y4 y5 y6 y7 y8 y9 y10 y11 y12 y13 y14 y15))
 | 0 => ⟨fun _ _ _ _ _ r h => by simp [tallymanlaw17_SetopsSound.j0] at h, fun _ _ _ _ _ _ _ _ _ r h => by simp [tallymanlaw17_SetopsSound.j1] at h, fun _ _ _ _ _ _ _ _ _ _ _ _ _ r h => by simp [tallymanlaw17_SetopsSound.j2] at h, fun _ _ _ _ _ _ _ _ _ _ _ _ _ _ _ _ _ r h => by simp [tallymanlaw17_SetopsSound.j3] at h, fun _ _ _ _ _ _ _ _ _ _ _ _ r h => by simp [tallymanlaw17_SetopsSound.j4] at h, fun _ _ _ _ _ _ _ _ _ _ _ _ _ _ r h => by simp [tallymanlaw17_SetopsSound.l0] at h, fun _ _ _ _ _ _ _ _ _ _ _ _ _ _ _ _ r h => by simp [tallymanlaw17_SetopsSound.j6] at h, fun _ _ _ _ _ _ _ _ _ _ _ _ _ _ _ _ r h => by simp [tallymanlaw17_SetopsSound.j7] at h⟩
 | k + 1 => by
  obtain ⟨ih0, ih1, ih2, ih3, ih4, ih5, ih6, ih7⟩ := tallymanlaw17_SetopsSound.mono_l k
  refine ⟨?_, ?_, ?_, ?_, ?_, ?_, ?_, ?_⟩
  ·
   intro y0 y1 y2 y3 y4
   unfold tallymanlaw17_SetopsSound.j0
   repeat' first
   | (with_reducible exact ih0 _ _ _ _ _)
   | (with_reducible exact ih1 _ _ _ _ _ _ _ _ _)
   | (with_reducible exact ih2 _ _ _ _ _ _ _ _ _ _ _ _ _)
   | (with_reducible exact ih3 _ _ _ _ _ _ _ _ _ _ _ _ _ _ _ _ _)
   | (with_reducible exact ih4 _ _ _ _ _ _ _ _ _ _ _ _)
   | (with_reducible exact ih5 _ _ _ _ _ _ _ _ _ _ _ _ _ _)
   | (with_reducible exact ih6 _ _ _ _ _ _ _ _ _ _ _ _ _ _ _ _)
   | (with_reducible exact ih7 _ _ _ _ _ _ _ _ _ _ _ _ _ _ _ _)
   | (with_reducible exact setops_Of.mono _ _ _ _)
   | (with_reducible exact tallymanlaw17_in.mono _ _ _)
   | (with_reducible exact tallymanlaw17_lives.mono _)
   | (with_reducible exact tallymanref16_Of.mono _ _ _)
   | (with_reducible exact LeO.refl _)
   | (with_reducible exact LeO.none _)
   | (with_reducible refine LeO.ite ?_ ?_)
   | (with_reducible refine LeO.bind ?_ (fun _ => ?_))
   | exact ih0 _ _ _ _ _
   | exact ih1 _ _ _ _ _ _ _ _ _
   | exact ih2 _ _ _ _ _ _ _ _ _ _ _ _ _
   | exact ih3 _ _ _ _ _ _ _ _ _ _ _ _ _ _ _ _ _
   | exact ih4 _ _ _ _ _ _ _ _ _ _ _ _
   | exact ih5 _ _ _ _ _ _ _ _ _ _ _ _ _ _
   | exact ih6 _ _ _ _ _ _ _ _ _ _ _ _ _ _ _ _
   | exact ih7 _ _ _ _ _ _ _ _ _ _ _ _ _ _ _ _
   | exact setops_Of.mono _ _ _ _
   | exact tallymanlaw17_in.mono _ _ _
   | exact tallymanlaw17_lives.mono _
   | exact tallymanref16_Of.mono _ _ _
   | exact LeO.none _
   | refine LeO.ite ?_ ?_
   | refine LeO.bind ?_ (fun _ => ?_)
  ·
   intro y0 y1 y2 y3 y4 y5 y6 y7 y8
   unfold tallymanlaw17_SetopsSound.j1
   repeat' first
   | (with_reducible exact ih0 _ _ _ _ _)
   | (with_reducible exact ih1 _ _ _ _ _ _ _ _ _)
   | (with_reducible exact ih2 _ _ _ _ _ _ _ _ _ _ _ _ _)
   | (with_reducible exact ih3 _ _ _ _ _ _ _ _ _ _ _ _ _ _ _ _ _)
   | (with_reducible exact ih4 _ _ _ _ _ _ _ _ _ _ _ _)
   | (with_reducible exact ih5 _ _ _ _ _ _ _ _ _ _ _ _ _ _)
   | (with_reducible exact ih6 _ _ _ _ _ _ _ _ _ _ _ _ _ _ _ _)
   | (with_reducible exact ih7 _ _ _ _ _ _ _ _ _ _ _ _ _ _ _ _)
   | (with_reducible exact setops_Of.mono _ _ _ _)
   | (with_reducible exact tallymanlaw17_in.mono _ _ _)
   | (with_reducible exact tallymanlaw17_lives.mono _)
   | (with_reducible exact tallymanref16_Of.mono _ _ _)
   | (with_reducible exact LeO.refl _)
   | (with_reducible exact LeO.none _)
   | (with_reducible refine LeO.ite ?_ ?_)
   | (with_reducible refine LeO.bind ?_ (fun _ => ?_))
   | exact ih0 _ _ _ _ _
   | exact ih1 _ _ _ _ _ _ _ _ _
   | exact ih2 _ _ _ _ _ _ _ _ _ _ _ _ _
   | exact ih3 _ _ _ _ _ _ _ _ _ _ _ _ _ _ _ _ _
   | exact ih4 _ _ _ _ _ _ _ _ _ _ _ _
   | exact ih5 _ _ _ _ _ _ _ _ _ _ _ _ _ _
   | exact ih6 _ _ _ _ _ _ _ _ _ _ _ _ _ _ _ _
   | exact ih7 _ _ _ _ _ _ _ _ _ _ _ _ _ _ _ _
   | exact setops_Of.mono _ _ _ _
   | exact tallymanlaw17_in.mono _ _ _
   | exact tallymanlaw17_lives.mono _
   | exact tallymanref16_Of.mono _ _ _
   | exact LeO.none _
   | refine LeO.ite ?_ ?_
   | refine LeO.bind ?_ (fun _ => ?_)
  ·
   intro y0 y1 y2 y3 y4 y5 y6 y7 y8 y9 y10 y11 y12
   unfold tallymanlaw17_SetopsSound.j2
   repeat' first
   | (with_reducible exact ih0 _ _ _ _ _)
   | (with_reducible exact ih1 _ _ _ _ _ _ _ _ _)
   | (with_reducible exact ih2 _ _ _ _ _ _ _ _ _ _ _ _ _)
   | (with_reducible exact ih3 _ _ _ _ _ _ _ _ _ _ _ _ _ _ _ _ _)
   | (with_reducible exact ih4 _ _ _ _ _ _ _ _ _ _ _ _)
   | (with_reducible exact ih5 _ _ _ _ _ _ _ _ _ _ _ _ _ _)
   | (with_reducible exact ih6 _ _ _ _ _ _ _ _ _ _ _ _ _ _ _ _)
   | (with_reducible exact ih7 _ _ _ _ _ _ _ _ _ _ _ _ _ _ _ _)
   | (with_reducible exact setops_Of.mono _ _ _ _)
   | (with_reducible exact tallymanlaw17_in.mono _ _ _)
   | (with_reducible exact tallymanlaw17_lives.mono _)
   | (with_reducible exact tallymanref16_Of.mono _ _ _)
   | (with_reducible exact LeO.refl _)
   | (with_reducible exact LeO.none _)
   | (with_reducible refine LeO.ite ?_ ?_)
   | (with_reducible refine LeO.bind ?_ (fun _ => ?_))
   | exact ih0 _ _ _ _ _
   | exact ih1 _ _ _ _ _ _ _ _ _
   | exact ih2 _ _ _ _ _ _ _ _ _ _ _ _ _
   | exact ih3 _ _ _ _ _ _ _ _ _ _ _ _ _ _ _ _ _
   | exact ih4 _ _ _ _ _ _ _ _ _ _ _ _
   | exact ih5 _ _ _ _ _ _ _ _ _ _ _ _ _ _
   | exact ih6 _ _ _ _ _ _ _ _ _ _ _ _ _ _ _ _
   | exact ih7 _ _ _ _ _ _ _ _ _ _ _ _ _ _ _ _
   | exact setops_Of.mono _ _ _ _
   | exact tallymanlaw17_in.mono _ _ _
   | exact tallymanlaw17_lives.mono _
   | exact tallymanref16_Of.mono _ _ _
   | exact LeO.none _
   | refine LeO.ite ?_ ?_
   | refine LeO.bind ?_ (fun _ => ?_)
  ·
   intro y0 y1 y2 y3 y4 y5 y6 y7 y8 y9 y10 y11 y12 y13 y14 y15 y16
   unfold tallymanlaw17_SetopsSound.j3
   repeat' first
   | (with_reducible exact ih0 _ _ _ _ _)
   | (with_reducible exact ih1 _ _ _ _ _ _ _ _ _)
   | (with_reducible exact ih2 _ _ _ _ _ _ _ _ _ _ _ _ _)
   | (with_reducible exact ih3 _ _ _ _ _ _ _ _ _ _ _ _ _ _ _ _ _)
   | (with_reducible exact ih4 _ _ _ _ _ _ _ _ _ _ _ _)
   | (with_reducible exact ih5 _ _ _ _ _ _ _ _ _ _ _ _ _ _)
   | (with_reducible exact ih6 _ _ _ _ _ _ _ _ _ _ _ _ _ _ _ _)
   | (with_reducible exact ih7 _ _ _ _ _ _ _ _ _ _ _ _ _ _ _ _)
   | (with_reducible exact setops_Of.mono _ _ _ _)
   | (with_reducible exact tallymanlaw17_in.mono _ _ _)
   | (with_reducible exact tallymanlaw17_lives.mono _)
   | (with_reducible exact tallymanref16_Of.mono _ _ _)
   | (with_reducible exact LeO.refl _)
   | (with_reducible exact LeO.none _)
   | (with_reducible refine LeO.ite ?_ ?_)
   | (with_reducible refine LeO.bind ?_ (fun _ => ?_))
   | exact ih0 _ _ _ _ _
   | exact ih1 _ _ _ _ _ _ _ _ _
   | exact ih2 _ _ _ _ _ _ _ _ _ _ _ _ _
   | exact ih3 _ _ _ _ _ _ _ _ _ _ _ _ _ _ _ _ _
   | exact ih4 _ _ _ _ _ _ _ _ _ _ _ _
   | exact ih5 _ _ _ _ _ _ _ _ _ _ _ _ _ _
   | exact ih6 _ _ _ _ _ _ _ _ _ _ _ _ _ _ _ _
   | exact ih7 _ _ _ _ _ _ _ _ _ _ _ _ _ _ _ _
   | exact setops_Of.mono _ _ _ _
   | exact tallymanlaw17_in.mono _ _ _
   | exact tallymanlaw17_lives.mono _
   | exact tallymanref16_Of.mono _ _ _
   | exact LeO.none _
   | refine LeO.ite ?_ ?_
   | refine LeO.bind ?_ (fun _ => ?_)
  ·
   intro y0 y1 y2 y3 y4 y5 y6 y7 y8 y9 y10 y11
   unfold tallymanlaw17_SetopsSound.j4
   repeat' first
   | (with_reducible exact ih0 _ _ _ _ _)
   | (with_reducible exact ih1 _ _ _ _ _ _ _ _ _)
   | (with_reducible exact ih2 _ _ _ _ _ _ _ _ _ _ _ _ _)
   | (with_reducible exact ih3 _ _ _ _ _ _ _ _ _ _ _ _ _ _ _ _ _)
   | (with_reducible exact ih4 _ _ _ _ _ _ _ _ _ _ _ _)
   | (with_reducible exact ih5 _ _ _ _ _ _ _ _ _ _ _ _ _ _)
   | (with_reducible exact ih6 _ _ _ _ _ _ _ _ _ _ _ _ _ _ _ _)
   | (with_reducible exact ih7 _ _ _ _ _ _ _ _ _ _ _ _ _ _ _ _)
   | (with_reducible exact setops_Of.mono _ _ _ _)
   | (with_reducible exact tallymanlaw17_in.mono _ _ _)
   | (with_reducible exact tallymanlaw17_lives.mono _)
   | (with_reducible exact tallymanref16_Of.mono _ _ _)
   | (with_reducible exact LeO.refl _)
   | (with_reducible exact LeO.none _)
   | (with_reducible refine LeO.ite ?_ ?_)
   | (with_reducible refine LeO.bind ?_ (fun _ => ?_))
   | exact ih0 _ _ _ _ _
   | exact ih1 _ _ _ _ _ _ _ _ _
   | exact ih2 _ _ _ _ _ _ _ _ _ _ _ _ _
   | exact ih3 _ _ _ _ _ _ _ _ _ _ _ _ _ _ _ _ _
   | exact ih4 _ _ _ _ _ _ _ _ _ _ _ _
   | exact ih5 _ _ _ _ _ _ _ _ _ _ _ _ _ _
   | exact ih6 _ _ _ _ _ _ _ _ _ _ _ _ _ _ _ _
   | exact ih7 _ _ _ _ _ _ _ _ _ _ _ _ _ _ _ _
   | exact setops_Of.mono _ _ _ _
   | exact tallymanlaw17_in.mono _ _ _
   | exact tallymanlaw17_lives.mono _
   | exact tallymanref16_Of.mono _ _ _
   | exact LeO.none _
   | refine LeO.ite ?_ ?_
   | refine LeO.bind ?_ (fun _ => ?_)
  ·
   intro y0 y1 y2 y3 y4 y5 y6 y7 y8 y9 y10 y11 y12 y13
   unfold tallymanlaw17_SetopsSound.l0
   repeat' first
   | (with_reducible exact ih0 _ _ _ _ _)
   | (with_reducible exact ih1 _ _ _ _ _ _ _ _ _)
   | (with_reducible exact ih2 _ _ _ _ _ _ _ _ _ _ _ _ _)
   | (with_reducible exact ih3 _ _ _ _ _ _ _ _ _ _ _ _ _ _ _ _ _)
   | (with_reducible exact ih4 _ _ _ _ _ _ _ _ _ _ _ _)
   | (with_reducible exact ih5 _ _ _ _ _ _ _ _ _ _ _ _ _ _)
   | (with_reducible exact ih6 _ _ _ _ _ _ _ _ _ _ _ _ _ _ _ _)
   | (with_reducible exact ih7 _ _ _ _ _ _ _ _ _ _ _ _ _ _ _ _)
   | (with_reducible exact setops_Of.mono _ _ _ _)
   | (with_reducible exact tallymanlaw17_in.mono _ _ _)
   | (with_reducible exact tallymanlaw17_lives.mono _)
   | (with_reducible exact tallymanref16_Of.mono _ _ _)
   | (with_reducible exact LeO.refl _)
   | (with_reducible exact LeO.none _)
   | (with_reducible refine LeO.ite ?_ ?_)
   | (with_reducible refine LeO.bind ?_ (fun _ => ?_))
   | exact ih0 _ _ _ _ _
   | exact ih1 _ _ _ _ _ _ _ _ _
   | exact ih2 _ _ _ _ _ _ _ _ _ _ _ _ _
   | exact ih3 _ _ _ _ _ _ _ _ _ _ _ _ _ _ _ _ _
   | exact ih4 _ _ _ _ _ _ _ _ _ _ _ _
   | exact ih5 _ _ _ _ _ _ _ _ _ _ _ _ _ _
   | exact ih6 _ _ _ _ _ _ _ _ _ _ _ _ _ _ _ _
   | exact ih7 _ _ _ _ _ _ _ _ _ _ _ _ _ _ _ _
   | exact setops_Of.mono _ _ _ _
   | exact tallymanlaw17_in.mono _ _ _
   | exact tallymanlaw17_lives.mono _
   | exact tallymanref16_Of.mono _ _ _
   | exact LeO.none _
   | refine LeO.ite ?_ ?_
   | refine LeO.bind ?_ (fun _ => ?_)
  ·
   intro y0 y1 y2 y3 y4 y5 y6 y7 y8 y9 y10 y11 y12 y13 y14 y15
   unfold tallymanlaw17_SetopsSound.j6
   repeat' first
   | (with_reducible exact ih0 _ _ _ _ _)
   | (with_reducible exact ih1 _ _ _ _ _ _ _ _ _)
   | (with_reducible exact ih2 _ _ _ _ _ _ _ _ _ _ _ _ _)
   | (with_reducible exact ih3 _ _ _ _ _ _ _ _ _ _ _ _ _ _ _ _ _)
   | (with_reducible exact ih4 _ _ _ _ _ _ _ _ _ _ _ _)
   | (with_reducible exact ih5 _ _ _ _ _ _ _ _ _ _ _ _ _ _)
   | (with_reducible exact ih6 _ _ _ _ _ _ _ _ _ _ _ _ _ _ _ _)
   | (with_reducible exact ih7 _ _ _ _ _ _ _ _ _ _ _ _ _ _ _ _)
   | (with_reducible exact setops_Of.mono _ _ _ _)
   | (with_reducible exact tallymanlaw17_in.mono _ _ _)
   | (with_reducible exact tallymanlaw17_lives.mono _)
   | (with_reducible exact tallymanref16_Of.mono _ _ _)
   | (with_reducible exact LeO.refl _)
   | (with_reducible exact LeO.none _)
   | (with_reducible refine LeO.ite ?_ ?_)
   | (with_reducible refine LeO.bind ?_ (fun _ => ?_))
   | exact ih0 _ _ _ _ _
   | exact ih1 _ _ _ _ _ _ _ _ _
   | exact ih2 _ _ _ _ _ _ _ _ _ _ _ _ _
   | exact ih3 _ _ _ _ _ _ _ _ _ _ _ _ _ _ _ _ _
   | exact ih4 _ _ _ _ _ _ _ _ _ _ _ _
   | exact ih5 _ _ _ _ _ _ _ _ _ _ _ _ _ _
   | exact ih6 _ _ _ _ _ _ _ _ _ _ _ _ _ _ _ _
   | exact ih7 _ _ _ _ _ _ _ _ _ _ _ _ _ _ _ _
   | exact setops_Of.mono _ _ _ _
   | exact tallymanlaw17_in.mono _ _ _
   | exact tallymanlaw17_lives.mono _
   | exact tallymanref16_Of.mono _ _ _
   | exact LeO.none _
   | refine LeO.ite ?_ ?_
   | refine LeO.bind ?_ (fun _ => ?_)
  ·
   intro y0 y1 y2 y3 y4 y5 y6 y7 y8 y9 y10 y11 y12 y13 y14 y15
   unfold tallymanlaw17_SetopsSound.j7
   repeat' first
   | (with_reducible exact ih0 _ _ _ _ _)
   | (with_reducible exact ih1 _ _ _ _ _ _ _ _ _)
   | (with_reducible exact ih2 _ _ _ _ _ _ _ _ _ _ _ _ _)
   | (with_reducible exact ih3 _ _ _ _ _ _ _ _ _ _ _ _ _ _ _ _ _)
   | (with_reducible exact ih4 _ _ _ _ _ _ _ _ _ _ _ _)
   | (with_reducible exact ih5 _ _ _ _ _ _ _ _ _ _ _ _ _ _)
   | (with_reducible exact ih6 _ _ _ _ _ _ _ _ _ _ _ _ _ _ _ _)
   | (with_reducible exact ih7 _ _ _ _ _ _ _ _ _ _ _ _ _ _ _ _)
   | (with_reducible exact setops_Of.mono _ _ _ _)
   | (with_reducible exact tallymanlaw17_in.mono _ _ _)
   | (with_reducible exact tallymanlaw17_lives.mono _)
   | (with_reducible exact tallymanref16_Of.mono _ _ _)
   | (with_reducible exact LeO.refl _)
   | (with_reducible exact LeO.none _)
   | (with_reducible refine LeO.ite ?_ ?_)
   | (with_reducible refine LeO.bind ?_ (fun _ => ?_))
   | exact ih0 _ _ _ _ _
   | exact ih1 _ _ _ _ _ _ _ _ _
   | exact ih2 _ _ _ _ _ _ _ _ _ _ _ _ _
   | exact ih3 _ _ _ _ _ _ _ _ _ _ _ _ _ _ _ _ _
   | exact ih4 _ _ _ _ _ _ _ _ _ _ _ _
   | exact ih5 _ _ _ _ _ _ _ _ _ _ _ _ _ _
   | exact ih6 _ _ _ _ _ _ _ _ _ _ _ _ _ _ _ _
   | exact ih7 _ _ _ _ _ _ _ _ _ _ _ _ _ _ _ _
   | exact setops_Of.mono _ _ _ _
   | exact tallymanlaw17_in.mono _ _ _
   | exact tallymanlaw17_lives.mono _
   | exact tallymanref16_Of.mono _ _ _
   | exact LeO.none _
   | refine LeO.ite ?_ ?_
   | refine LeO.bind ?_ (fun _ => ?_)
theorem tallymanlaw17_SetopsSound.mono : ∀ a0 a1 a2 a3 k, LeO (tallymanlaw17_SetopsSound.f k a0 a1 a2 a3) (tallymanlaw17_SetopsSound.f (k + 1) a0 a1 a2 a3) := by
 intro a0 a1 a2 a3 k
 obtain ⟨ih0, ih1, ih2, ih3, ih4, ih5, ih6, ih7⟩ := tallymanlaw17_SetopsSound.mono_l k
 unfold tallymanlaw17_SetopsSound.f
 repeat' first
   | (with_reducible exact ih0 _ _ _ _ _)
   | (with_reducible exact ih1 _ _ _ _ _ _ _ _ _)
   | (with_reducible exact ih2 _ _ _ _ _ _ _ _ _ _ _ _ _)
   | (with_reducible exact ih3 _ _ _ _ _ _ _ _ _ _ _ _ _ _ _ _ _)
   | (with_reducible exact ih4 _ _ _ _ _ _ _ _ _ _ _ _)
   | (with_reducible exact ih5 _ _ _ _ _ _ _ _ _ _ _ _ _ _)
   | (with_reducible exact ih6 _ _ _ _ _ _ _ _ _ _ _ _ _ _ _ _)
   | (with_reducible exact ih7 _ _ _ _ _ _ _ _ _ _ _ _ _ _ _ _)
   | (with_reducible exact setops_Of.mono _ _ _ _)
   | (with_reducible exact tallymanlaw17_in.mono _ _ _)
   | (with_reducible exact tallymanlaw17_lives.mono _)
   | (with_reducible exact tallymanref16_Of.mono _ _ _)
   | (with_reducible exact LeO.refl _)
   | (with_reducible exact LeO.none _)
   | (with_reducible refine LeO.ite ?_ ?_)
   | (with_reducible refine LeO.bind ?_ (fun _ => ?_))
   | exact ih0 _ _ _ _ _
   | exact ih1 _ _ _ _ _ _ _ _ _
   | exact ih2 _ _ _ _ _ _ _ _ _ _ _ _ _
   | exact ih3 _ _ _ _ _ _ _ _ _ _ _ _ _ _ _ _ _
   | exact ih4 _ _ _ _ _ _ _ _ _ _ _ _
   | exact ih5 _ _ _ _ _ _ _ _ _ _ _ _ _ _
   | exact ih6 _ _ _ _ _ _ _ _ _ _ _ _ _ _ _ _
   | exact ih7 _ _ _ _ _ _ _ _ _ _ _ _ _ _ _ _
   | exact setops_Of.mono _ _ _ _
   | exact tallymanlaw17_in.mono _ _ _
   | exact tallymanlaw17_lives.mono _
   | exact tallymanref16_Of.mono _ _ _
   | exact LeO.none _
   | refine LeO.ite ?_ ?_
   | refine LeO.bind ?_ (fun _ => ?_)

end Go.Proofs.Ytpagondojdlknaa.H
