-- Made by this session's own call of the printer (functions that are proved by hand are taken from a text beside it).
import Derived.Test.YtpagondojdlknaaH0
import Derived.Test.YtpagondojdlknaaH1
import Derived.Test.YtpagondojdlknaaH5
import Derived.Test.YtpagondojdlknaaH6
namespace Go.Proofs.Ytpagondojdlknaa.H
open Go.RowKit Go.Proofs.YtpagondojdlknaaW.PrintWords Go.Proofs.YtpagondojdlknaaW.PrintLast Go.Proofs.YtpagondojdlknaaW.PrintMore
attribute [local go_sem] max2_int min2_int max_two min_two max_three min_three max_four min_four   -- for this text's walks alone
set_option linter.unusedVariables false
set_option linter.unusedSimpArgs false

/-! ### tallymanlaw17_SetopsParts: function 5 -/
mutual
def tallymanlaw17_SetopsParts.j0 : Nat → Int → Bool → Int → List Int → Int → List Int → Option (Bool)
 | 0, _, _, _, _, _, _ => none
 | k + 1, x2, x63, x204000, x204001, x205000, x205001 => if x63 = true then (some true) else ((setops_Either.f x204000 x204001 x205000 x205001).bind fun bt208 => ((setops_Either.f x205000 x205001 x204000 x204001).bind fun bt214 => ((setops_Both.f x204000 x204001 x205000 x205001).bind fun bt220 => ((setops_Both.f x205000 x205001 x204000 x204001).bind fun bt226 => ((setops_One.f x204000 x204001 x205000 x205001).bind fun bt232 => ((setops_One.f x205000 x205001 x204000 x204001).bind fun bt238 => ((setops_Less.f x204000 x204001 x205000 x205001).bind fun bt244 => ((setops_Less.f x205000 x205001 x204000 x204001).bind fun bt250 => ((setops_Like.f x204000 x204001 x205000 x205001).bind fun bt256 => ((setops_Like.f x205000 x205001 x204000 x204001).bind fun bt258 => ((setops_Either.f x204000 x204001 x204000 x204001).bind fun bt260 => ((setops_Both.f x204000 x204001 x204000 x204001).bind fun bt266 => ((setops_Less.f x204000 x204001 x204000 x204001).bind fun bt272 => ((setops_Like.f x204000 x204001 x204000 x204001).bind fun bt278 => ((setops_Same.f k bt208.1 bt208.2.1 bt214.1 bt214.2.1).bind fun t280 => (if t280 = true then ((setops_Same.f k bt220.1 bt220.2.1 bt226.1 bt226.2.1).bind fun t281 => (if t281 = true then ((setops_Same.f k bt232.1 bt232.2.1 bt238.1 bt238.2.1).bind fun t282 => (if t282 = true then (if bt256.1 = bt258.1 then (if (bt208.2.1.length : Int) = (wrap64 ((wrap64 ((bt220.2.1.length : Int) + (bt244.2.1.length : Int))) + (bt250.2.1.length : Int))) then (if (bt232.2.1.length : Int) = (wrap64 ((bt244.2.1.length : Int) + (bt250.2.1.length : Int))) then ((setops_Same.f k bt260.1 bt260.2.1 x204000 x204001).bind fun t283 => (if t283 = true then ((setops_Same.f k bt266.1 bt266.2.1 x204000 x204001).bind fun t284 => (if t284 = true then (if (bt272.2.1.length : Int) = 0 then (if bt272.1 = x204000 then (if bt278.1 = 65536 then (if bt256.1 < 0 then (tallymanlaw17_SetopsParts.j1 k x2 true x204000 x204001 x205000 x205001 bt220.1 bt220.2.1) else (tallymanlaw17_SetopsParts.j1 k x2 (decide (bt256.1 > 65536)) x204000 x204001 x205000 x205001 bt220.1 bt220.2.1)) else (tallymanlaw17_SetopsParts.j1 k x2 true x204000 x204001 x205000 x205001 bt220.1 bt220.2.1)) else (tallymanlaw17_SetopsParts.j1 k x2 true x204000 x204001 x205000 x205001 bt220.1 bt220.2.1)) else (tallymanlaw17_SetopsParts.j1 k x2 true x204000 x204001 x205000 x205001 bt220.1 bt220.2.1)) else (tallymanlaw17_SetopsParts.j1 k x2 true x204000 x204001 x205000 x205001 bt220.1 bt220.2.1))) else (tallymanlaw17_SetopsParts.j1 k x2 true x204000 x204001 x205000 x205001 bt220.1 bt220.2.1))) else (tallymanlaw17_SetopsParts.j1 k x2 true x204000 x204001 x205000 x205001 bt220.1 bt220.2.1)) else (tallymanlaw17_SetopsParts.j1 k x2 true x204000 x204001 x205000 x205001 bt220.1 bt220.2.1)) else (tallymanlaw17_SetopsParts.j1 k x2 true x204000 x204001 x205000 x205001 bt220.1 bt220.2.1)) else (tallymanlaw17_SetopsParts.j1 k x2 true x204000 x204001 x205000 x205001 bt220.1 bt220.2.1))) else (tallymanlaw17_SetopsParts.j1 k x2 true x204000 x204001 x205000 x205001 bt220.1 bt220.2.1))) else (tallymanlaw17_SetopsParts.j1 k x2 true x204000 x204001 x205000 x205001 bt220.1 bt220.2.1)))))))))))))))))
def tallymanlaw17_SetopsParts.j1 : Nat → Int → Bool → Int → List Int → Int → List Int → Int → List Int → Option (Bool)
 | 0, _, _, _, _, _, _, _, _ => none
 | k + 1, x2, x235, x204000, x204001, x205000, x205001, x226000, x226001 => if x235 = true then (none) else ((setops_Cut.f x204000 x204001 x2).bind fun bt285 => (if bt285.2.2 = 0 then ((setops_Both.f bt285.1 bt285.2.1 x205000 x205001).bind fun bt291 => (if x226000 = 0 then (tallymanlaw17_SetopsParts.j2 k x2 true x226000 x226001 bt291.1 bt291.2.1) else (tallymanlaw17_SetopsParts.j2 k x2 (decide (x2 < x226000)) x226000 x226001 bt291.1 bt291.2.1))) else (if bt285.2.2 = 2 then (if x2 = 0 then (some true) else (if x204000 = 0 then (none) else (some (decide (x2 > x204000))))) else (none))))
def tallymanlaw17_SetopsParts.j2 : Nat → Int → Bool → Int → List Int → Int → List Int → Option (Bool)
 | 0, _, _, _, _, _, _ => none
 | k + 1, x2, x275, x226000, x226001, x297000, x297001 => if x275 = true then ((setops_Cut.f x226000 x226001 x2).bind fun bt297 => (if bt297.2.2 = 0 then ((setops_Same.f k x297000 x297001 bt297.1 bt297.2.1).bind fun t303 => (some t303)) else (none))) else ((setops_Same.f k x297000 x297001 x226000 x226001).bind fun t304 => (some t304))
end
def tallymanlaw17_SetopsParts.f (k : Nat) (a0_0 : Int) (l0_1 : List Int) (a1_0 : Int) (l1_1 : List Int) (a2 : Int) : Option (Bool) := (tallymanlaw17_lives.f k).bind fun t205 => (if t205 = true then (if (l0_1.length : Int) > 300 then (tallymanlaw17_SetopsParts.j0 k a2 true a0_0 l0_1 a1_0 l1_1) else (if (l1_1.length : Int) > 300 then (tallymanlaw17_SetopsParts.j0 k a2 true a0_0 l0_1 a1_0 l1_1) else ((setops_Check.f k a0_0 l0_1).bind fun t206 => (if t206 = 0 then ((setops_Check.f k a1_0 l1_1).bind fun t207 => (tallymanlaw17_SetopsParts.j0 k a2 (t207 != 0) a0_0 l0_1 a1_0 l1_1)) else (tallymanlaw17_SetopsParts.j0 k a2 true a0_0 l0_1 a1_0 l1_1))))) else (none))
theorem tallymanlaw17_SetopsParts.mono_l : ∀ k, (∀ y0 y1 y2 y3 y4 y5, LeO (tallymanlaw17_SetopsParts.j0 k y0 y1 y2 y3 y4 y5) (tallymanlaw17_SetopsParts.j0 (k + 1) y0 y1 y2 y3 y4 y5)) ∧ (∀ y0 y1 y2 y3 y4 y5 y6 y7, LeO (tallymanlaw17_SetopsParts.j1 k y0 y1 y2 y3 y4 y5 y6 y7) (tallymanlaw17_SetopsParts.j1 (k + 1) y0 y1 y2 y3 y4 y5 y6 y7)) ∧ (∀ y0 y1 y2 y3 y4 y5, LeO (tallymanlaw17_SetopsParts.j2 k y0 y1 y2 y3 y4 y5) (tallymanlaw17_SetopsParts.j2 (k + 1) y0 y1 y2 y3 y4 y5))
 | 0 => ⟨fun _ _ _ _ _ _ r h => by simp [tallymanlaw17_SetopsParts.j0] at h, fun _ _ _ _ _ _ _ _ r h => by simp [tallymanlaw17_SetopsParts.j1] at h, fun _ _ _ _ _ _ r h => by simp [tallymanlaw17_SetopsParts.j2] at h⟩
 | k + 1 => by
  obtain ⟨ih0, ih1, ih2⟩ := tallymanlaw17_SetopsParts.mono_l k
  refine ⟨?_, ?_, ?_⟩
  ·
   intro y0 y1 y2 y3 y4 y5
   unfold tallymanlaw17_SetopsParts.j0
   repeat' first
   | (with_reducible exact ih0 _ _ _ _ _ _)
   | (with_reducible exact ih1 _ _ _ _ _ _ _ _)
   | (with_reducible exact ih2 _ _ _ _ _ _)
   | (with_reducible exact setops_Check.mono _ _ _)
   | (with_reducible exact setops_Same.mono _ _ _ _ _)
   | (with_reducible exact tallymanlaw17_lives.mono _)
   | (with_reducible exact LeO.refl _)
   | (with_reducible exact LeO.none _)
   | (with_reducible refine LeO.ite ?_ ?_)
   | (with_reducible refine LeO.bind ?_ (fun _ => ?_))
   | exact ih0 _ _ _ _ _ _
   | exact ih1 _ _ _ _ _ _ _ _
   | exact ih2 _ _ _ _ _ _
   | exact setops_Check.mono _ _ _
   | exact setops_Same.mono _ _ _ _ _
   | exact tallymanlaw17_lives.mono _
   | exact LeO.none _
   | refine LeO.ite ?_ ?_
   | refine LeO.bind ?_ (fun _ => ?_)
  ·
   intro y0 y1 y2 y3 y4 y5 y6 y7
   unfold tallymanlaw17_SetopsParts.j1
   repeat' first
   | (with_reducible exact ih0 _ _ _ _ _ _)
   | (with_reducible exact ih1 _ _ _ _ _ _ _ _)
   | (with_reducible exact ih2 _ _ _ _ _ _)
   | (with_reducible exact setops_Check.mono _ _ _)
   | (with_reducible exact setops_Same.mono _ _ _ _ _)
   | (with_reducible exact tallymanlaw17_lives.mono _)
   | (with_reducible exact LeO.refl _)
   | (with_reducible exact LeO.none _)
   | (with_reducible refine LeO.ite ?_ ?_)
   | (with_reducible refine LeO.bind ?_ (fun _ => ?_))
   | exact ih0 _ _ _ _ _ _
   | exact ih1 _ _ _ _ _ _ _ _
   | exact ih2 _ _ _ _ _ _
   | exact setops_Check.mono _ _ _
   | exact setops_Same.mono _ _ _ _ _
   | exact tallymanlaw17_lives.mono _
   | exact LeO.none _
   | refine LeO.ite ?_ ?_
   | refine LeO.bind ?_ (fun _ => ?_)
  ·
   intro y0 y1 y2 y3 y4 y5
   unfold tallymanlaw17_SetopsParts.j2
   repeat' first
   | (with_reducible exact ih0 _ _ _ _ _ _)
   | (with_reducible exact ih1 _ _ _ _ _ _ _ _)
   | (with_reducible exact ih2 _ _ _ _ _ _)
   | (with_reducible exact setops_Check.mono _ _ _)
   | (with_reducible exact setops_Same.mono _ _ _ _ _)
   | (with_reducible exact tallymanlaw17_lives.mono _)
   | (with_reducible exact LeO.refl _)
   | (with_reducible exact LeO.none _)
   | (with_reducible refine LeO.ite ?_ ?_)
   | (with_reducible refine LeO.bind ?_ (fun _ => ?_))
   | exact ih0 _ _ _ _ _ _
   | exact ih1 _ _ _ _ _ _ _ _
   | exact ih2 _ _ _ _ _ _
   | exact setops_Check.mono _ _ _
   | exact setops_Same.mono _ _ _ _ _
   | exact tallymanlaw17_lives.mono _
   | exact LeO.none _
   | refine LeO.ite ?_ ?_
   | refine LeO.bind ?_ (fun _ => ?_)
theorem tallymanlaw17_SetopsParts.mono : ∀ a0 a1 a2 a3 a4 k, LeO (tallymanlaw17_SetopsParts.f k a0 a1 a2 a3 a4) (tallymanlaw17_SetopsParts.f (k + 1) a0 a1 a2 a3 a4) := by
 intro a0 a1 a2 a3 a4 k
 obtain ⟨ih0, ih1, ih2⟩ := tallymanlaw17_SetopsParts.mono_l k
 unfold tallymanlaw17_SetopsParts.f
 repeat' first
   | (with_reducible exact ih0 _ _ _ _ _ _)
   | (with_reducible exact ih1 _ _ _ _ _ _ _ _)
   | (with_reducible exact ih2 _ _ _ _ _ _)
   | (with_reducible exact setops_Check.mono _ _ _)
   | (with_reducible exact setops_Same.mono _ _ _ _ _)
   | (with_reducible exact tallymanlaw17_lives.mono _)
   | (with_reducible exact LeO.refl _)
   | (with_reducible exact LeO.none _)
   | (with_reducible refine LeO.ite ?_ ?_)
   | (with_reducible refine LeO.bind ?_ (fun _ => ?_))
   | exact ih0 _ _ _ _ _ _
   | exact ih1 _ _ _ _ _ _ _ _
   | exact ih2 _ _ _ _ _ _
   | exact setops_Check.mono _ _ _
   | exact setops_Same.mono _ _ _ _ _
   | exact tallymanlaw17_lives.mono _
   | exact LeO.none _
   | refine LeO.ite ?_ ?_
   | refine LeO.bind ?_ (fun _ => ?_)

end Go.Proofs.Ytpagondojdlknaa.H
