-- Made by this session's own call of the printer (functions that are proved by hand are taken from a text beside it).
import Derived.Test.YtbclnjinpcfpjaaVX
import Derived.Test.YtbclnjinpcfpjaaZ2
import Derived.Test.YtbclnjinpcfpjaaZ3
import Derived.Test.YtbclnjinpcfpjaaH0
import Derived.Test.YtbclnjinpcfpjaaH2
import Derived.Test.YtbclnjinpcfpjaaH4
import Derived.Test.YtbclnjinpcfpjaaH5
import Derived.Test.YtbclnjinpcfpjaaH6
import Derived.Test.YtbclnjinpcfpjaaH8
namespace Go.Proofs.Ytbclnjinpcfpjaa.H
open Go.RowKit Go.Proofs.YtbclnjinpcfpjaaW.PrintWords Go.Proofs.YtbclnjinpcfpjaaW.PrintLast Go.Proofs.YtbclnjinpcfpjaaW.PrintMore
attribute [local go_sem] max2_int min2_int max_two min_two max_three min_three max_four min_four   -- for this text's walks alone
set_option linter.unusedVariables false
set_option linter.unusedSimpArgs false

/-! ### tallymanlaw14_HllSets: function 7 -/
mutual
def tallymanlaw14_HllSets.j0 : Nat → Int → List Int → List Int → Bool → Option (Bool)
 | 0, _, _, _, _ => none
 | k + 1, x0, x1, x2, x33 => if x33 = true then (some true) else ((tallymankit_Pick.f x0 13).bind fun t275 => ((hll_New.f (wrap64 (4 + t275))).bind fun bt276 => (if bt276.2.2 = 0 then ((hll_AddAll.f k bt276.1 bt276.2.1 x1).bind fun bt282 => ((hll_AddAll.f k bt276.1 bt276.2.1 x2).bind fun bt288 => (tallymanlaw14_HllSets.l0 k (wrap64 (4 + t275)) x1 x2 bt282.2.2 bt288.2.2 0 bt276.1 bt276.2.1 bt282.1 bt282.2.1 bt288.1 bt288.2.1 bt276.1 bt276.2.1))) else (none))))
def tallymanlaw14_HllSets.j2 : Nat → Int → List Int → List Int → Int → Int → Int → List (S32) → Int → List (S32) → Int → List (S32) → Int → List (S32) → Option (Bool)
 | 0, _, _, _, _, _, _, _, _, _, _, _, _, _ => none
 | k + 1, x0, x1, x2, x8, x11, x282000, x282001, x288000, x288001, x294000, x294001, x295000, x295001 => (tallymanlaw14_turned.f k x1).bind fun t301 => ((hll_AddAll.f k x282000 x282001 t301).bind fun bt304 => ((hll_AddAll.f k x288000 x288001 x2).bind fun bt310 => ((hll_Merge.f k x288000 x288001 x294000 x294001).bind fun bt316 => ((hll_Merge.f k x294000 x294001 x288000 x288001).bind fun bt322 => ((hll_Merge.f k x288000 x288001 x288000 x288001).bind fun bt328 => (if x8 = 0 then (if x11 = 0 then (if bt304.2.2 = 0 then (if bt310.2.2 = 0 then (if bt316.2.2 = 0 then (if bt322.2.2 = 0 then (tallymanlaw14_HllSets.j3 k x0 x1 (bt328.2.2 != 0) x288000 x288001 x295000 x295001 bt304.1 bt304.2.1 bt310.1 bt310.2.1 bt316.1 bt316.2.1 bt322.1 bt322.2.1 bt328.1 bt328.2.1) else (tallymanlaw14_HllSets.j3 k x0 x1 true x288000 x288001 x295000 x295001 bt304.1 bt304.2.1 bt310.1 bt310.2.1 bt316.1 bt316.2.1 bt322.1 bt322.2.1 bt328.1 bt328.2.1)) else (tallymanlaw14_HllSets.j3 k x0 x1 true x288000 x288001 x295000 x295001 bt304.1 bt304.2.1 bt310.1 bt310.2.1 bt316.1 bt316.2.1 bt322.1 bt322.2.1 bt328.1 bt328.2.1)) else (tallymanlaw14_HllSets.j3 k x0 x1 true x288000 x288001 x295000 x295001 bt304.1 bt304.2.1 bt310.1 bt310.2.1 bt316.1 bt316.2.1 bt322.1 bt322.2.1 bt328.1 bt328.2.1)) else (tallymanlaw14_HllSets.j3 k x0 x1 true x288000 x288001 x295000 x295001 bt304.1 bt304.2.1 bt310.1 bt310.2.1 bt316.1 bt316.2.1 bt322.1 bt322.2.1 bt328.1 bt328.2.1)) else (tallymanlaw14_HllSets.j3 k x0 x1 true x288000 x288001 x295000 x295001 bt304.1 bt304.2.1 bt310.1 bt310.2.1 bt316.1 bt316.2.1 bt322.1 bt322.2.1 bt328.1 bt328.2.1)) else (tallymanlaw14_HllSets.j3 k x0 x1 true x288000 x288001 x295000 x295001 bt304.1 bt304.2.1 bt310.1 bt310.2.1 bt316.1 bt316.2.1 bt322.1 bt322.2.1 bt328.1 bt328.2.1)))))))
def tallymanlaw14_HllSets.j3 : Nat → Int → List Int → Bool → Int → List (S32) → Int → List (S32) → Int → List (S32) → Int → List (S32) → Int → List (S32) → Int → List (S32) → Int → List (S32) → Option (Bool)
 | 0, _, _, _, _, _, _, _, _, _, _, _, _, _, _, _, _, _ => none
 | k + 1, x0, x1, x132, x288000, x288001, x295000, x295001, x310000, x310001, x316000, x316001, x322000, x322001, x328000, x328001, x334000, x334001 => if x132 = true then (none) else ((hll_Same.f k x310000 x310001 x288000 x288001).bind fun t334 => (if t334 = true then ((hll_Same.f k x322000 x322001 x316000 x316001).bind fun t335 => (if t335 = true then ((hll_Same.f k x328000 x328001 x316000 x316001).bind fun t336 => (if t336 = true then ((hll_Same.f k x334000 x334001 x288000 x288001).bind fun t337 => (if t337 = true then (if (x1.length : Int) > 60 then ((hll_Zeros.f k x288000 x288001).bind fun t338 => (if 0 ≤ (IntKind.u64.wrap (x0)) then (if t338 = (wrap64 ((shl .i64 1 (IntKind.u64.wrap (x0))) - (x288001.length : Int))) then ((hll_Check.f k x322000 x322001).bind fun t339 => (some (t339 == 0))) else (none)) else (none))) else ((hll_Same.f k x295000 x295001 x288000 x288001).bind fun t340 => (if t340 = true then ((hll_Zeros.f k x288000 x288001).bind fun t341 => (if 0 ≤ (IntKind.u64.wrap (x0)) then (if t341 = (wrap64 ((shl .i64 1 (IntKind.u64.wrap (x0))) - (x288001.length : Int))) then ((hll_Check.f k x322000 x322001).bind fun t342 => (some (t342 == 0))) else (none)) else (none))) else (none)))) else (none))) else (none))) else (none))) else (none)))
def tallymanlaw14_HllSets.l0 : Nat → Int → List Int → List Int → Int → Int → Int → Int → List (S32) → Int → List (S32) → Int → List (S32) → Int → List (S32) → Option (Bool)
 | 0, _, _, _, _, _, _, _, _, _, _, _, _, _, _ => none
 | k + 1, x0, x1, x2, x8, x11, x13, x282000, x282001, x288000, x288001, x294000, x294001, x295000, x295001 => if x13 < (x1.length : Int) then (if x13 < 60 then (if 0 ≤ x13 then ((hll_Add.f k x295000 x295001 (rd x1 x13)).bind fun bt296 => (tallymanlaw14_HllSets.l0 k x0 x1 x2 x8 x11 (wrap64 (x13 + 1)) x282000 x282001 x288000 x288001 x294000 x294001 bt296.1 bt296.2.1)) else (none)) else (tallymanlaw14_HllSets.j2 k x0 x1 x2 x8 x11 x282000 x282001 x288000 x288001 x294000 x294001 x295000 x295001)) else (tallymanlaw14_HllSets.j2 k x0 x1 x2 x8 x11 x282000 x282001 x288000 x288001 x294000 x294001 x295000 x295001)
end
def tallymanlaw14_HllSets.f (k : Nat) (a0 : Int) (l1 : List Int) (l2 : List Int) : Option (Bool) := (tallymanlaw14_lives.f k).bind fun t274 => (if t274 = true then (if (l1.length : Int) > 300 then (tallymanlaw14_HllSets.j0 k a0 l1 l2 true) else (tallymanlaw14_HllSets.j0 k a0 l1 l2 (decide ((l2.length : Int) > 300)))) else (none))
theorem tallymanlaw14_HllSets.mono_l : ∀ k, (∀ y0 y1 y2 y3, LeO (tallymanlaw14_HllSets.j0 k y0 y1 y2 y3) (tallymanlaw14_HllSets.j0 (k + 1) y0 y1 y2 y3)) ∧ (∀ y0 y1 y2 y3 y4 y5 y6 y7 y8 y9 y10 y11 y12, LeO (tallymanlaw14_HllSets.j2 k y0 y1 y2 y3 y4 y5 y6 y7 y8 y9 y10 y11 y12) (tallymanlaw14_HllSets.j2 (k + 1) y0 y1 y2 y3 y4 y5 y6 y7 y8 y9 y10 y11 y12)) ∧ (∀ y0 y1 y2 y3 y4 y5 y6 y7 y8 y9 y10 y11 y12 y13 y14 y15 y16, LeO (tallymanlaw14_HllSets.j3 k y0 y1 y2 y3 y4 y5 y6 y7 y8 y9 y10 y11 y12 y13 y14 y15 y16) (tallymanlaw14_HllSets.j3 (k + 1) y0 y1 y2 y3 y4 y5 y6 y7 y8 y9 y10 y11 y12 y13 y14 y15 y16)) ∧ (∀ y0 y1 y2 y3 y4 y5 y6 y7 y8 y9 y10 y11 y12 y13, LeO (tallymanlaw14_HllSets.l0 k y0 y1 y2 y3 y4 y5 y6 y7 y8 y9 y10 y11 y12 y13) (tallymanlaw14_HllSets.l0 (k + 1) y0 y1 y2 y3 y4 y5 y6 y7 y8 y9 y10 y11 y12 y13))
 | 0 => ⟨fun _ _ _ _ r h => by simp [tallymanlaw14_HllSets.j0] at h, fun _ _ _ _ _ _ _ _ _ _ _ _ _ r h => by simp [tallymanlaw14_HllSets.j2] at h, fun _ _ _ _ _ _ _ _ _ _ _ _ _ _ _ _ _ r h => by simp [tallymanlaw14_HllSets.j3] at h, fun _ _ _ _ _ _ _ _ _ _ _ _ _ _ r h => by simp [tallymanlaw14_HllSets.l0] at h⟩
 | k + 1 => by
  obtain ⟨ih0, ih1, ih2, ih3⟩ := tallymanlaw14_HllSets.mono_l k
  refine ⟨?_, ?_, ?_, ?_⟩
  ·
   intro y0 y1 y2 y3
   unfold tallymanlaw14_HllSets.j0
   repeat' first
   | (with_reducible exact ih0 _ _ _ _)
   | (with_reducible exact ih1 _ _ _ _ _ _ _ _ _ _ _ _ _)
   | (with_reducible exact ih2 _ _ _ _ _ _ _ _ _ _ _ _ _ _ _ _ _)
   | (with_reducible exact ih3 _ _ _ _ _ _ _ _ _ _ _ _ _ _)
   | (with_reducible exact hll_Add.mono _ _ _ _)
   | (with_reducible exact hll_AddAll.mono _ _ _ _)
   | (with_reducible exact hll_Check.mono _ _ _)
   | (with_reducible exact hll_Merge.mono _ _ _ _ _)
   | (with_reducible exact hll_Same.mono _ _ _ _ _)
   | (with_reducible exact hll_Zeros.mono _ _ _)
   | (with_reducible exact tallymanlaw14_lives.mono _)
   | (with_reducible exact tallymanlaw14_turned.mono _ _)
   | (with_reducible exact LeO.refl _)
   | (with_reducible exact LeO.none _)
   | (with_reducible refine LeO.ite ?_ ?_)
   | (with_reducible refine LeO.bind ?_ (fun _ => ?_))
  ·
   intro y0 y1 y2 y3 y4 y5 y6 y7 y8 y9 y10 y11 y12
   unfold tallymanlaw14_HllSets.j2
   repeat' first
   | (with_reducible exact ih0 _ _ _ _)
   | (with_reducible exact ih1 _ _ _ _ _ _ _ _ _ _ _ _ _)
   | (with_reducible exact ih2 _ _ _ _ _ _ _ _ _ _ _ _ _ _ _ _ _)
   | (with_reducible exact ih3 _ _ _ _ _ _ _ _ _ _ _ _ _ _)
   | (with_reducible exact hll_Add.mono _ _ _ _)
   | (with_reducible exact hll_AddAll.mono _ _ _ _)
   | (with_reducible exact hll_Check.mono _ _ _)
   | (with_reducible exact hll_Merge.mono _ _ _ _ _)
   | (with_reducible exact hll_Same.mono _ _ _ _ _)
   | (with_reducible exact hll_Zeros.mono _ _ _)
   | (with_reducible exact tallymanlaw14_lives.mono _)
   | (with_reducible exact tallymanlaw14_turned.mono _ _)
   | (with_reducible exact LeO.refl _)
   | (with_reducible exact LeO.none _)
   | (with_reducible refine LeO.ite ?_ ?_)
   | (with_reducible refine LeO.bind ?_ (fun _ => ?_))
  ·
   intro y0 y1 y2 y3 y4 y5 y6 y7 y8 y9 y10 y11 y12 y13 y14 y15 y16
   unfold tallymanlaw14_HllSets.j3
   repeat' first
   | (with_reducible exact ih0 _ _ _ _)
   | (with_reducible exact ih1 _ _ _ _ _ _ _ _ _ _ _ _ _)
   | (with_reducible exact ih2 _ _ _ _ _ _ _ _ _ _ _ _ _ _ _ _ _)
   | (with_reducible exact ih3 _ _ _ _ _ _ _ _ _ _ _ _ _ _)
   | (with_reducible exact hll_Add.mono _ _ _ _)
   | (with_reducible exact hll_AddAll.mono _ _ _ _)
   | (with_reducible exact hll_Check.mono _ _ _)
   | (with_reducible exact hll_Merge.mono _ _ _ _ _)
   | (with_reducible exact hll_Same.mono _ _ _ _ _)
   | (with_reducible exact hll_Zeros.mono _ _ _)
   | (with_reducible exact tallymanlaw14_lives.mono _)
   | (with_reducible exact tallymanlaw14_turned.mono _ _)
   | (with_reducible exact LeO.refl _)
   | (with_reducible exact LeO.none _)
   | (with_reducible refine LeO.ite ?_ ?_)
   | (with_reducible refine LeO.bind ?_ (fun _ => ?_))
  ·
   intro y0 y1 y2 y3 y4 y5 y6 y7 y8 y9 y10 y11 y12 y13
   unfold tallymanlaw14_HllSets.l0
   repeat' first
   | (with_reducible exact ih0 _ _ _ _)
   | (with_reducible exact ih1 _ _ _ _ _ _ _ _ _ _ _ _ _)
   | (with_reducible exact ih2 _ _ _ _ _ _ _ _ _ _ _ _ _ _ _ _ _)
   | (with_reducible exact ih3 _ _ _ _ _ _ _ _ _ _ _ _ _ _)
   | (with_reducible exact hll_Add.mono _ _ _ _)
   | (with_reducible exact hll_AddAll.mono _ _ _ _)
   | (with_reducible exact hll_Check.mono _ _ _)
   | (with_reducible exact hll_Merge.mono _ _ _ _ _)
   | (with_reducible exact hll_Same.mono _ _ _ _ _)
   | (with_reducible exact hll_Zeros.mono _ _ _)
   | (with_reducible exact tallymanlaw14_lives.mono _)
   | (with_reducible exact tallymanlaw14_turned.mono _ _)
   | (with_reducible exact LeO.refl _)
   | (with_reducible exact LeO.none _)
   | (with_reducible refine LeO.ite ?_ ?_)
   | (with_reducible refine LeO.bind ?_ (fun _ => ?_))
theorem tallymanlaw14_HllSets.mono : ∀ a0 a1 a2 k, LeO (tallymanlaw14_HllSets.f k a0 a1 a2) (tallymanlaw14_HllSets.f (k + 1) a0 a1 a2) := by
 intro a0 a1 a2 k
 obtain ⟨ih0, ih1, ih2, ih3⟩ := tallymanlaw14_HllSets.mono_l k
 unfold tallymanlaw14_HllSets.f
 repeat' first
   | (with_reducible exact ih0 _ _ _ _)
   | (with_reducible exact ih1 _ _ _ _ _ _ _ _ _ _ _ _ _)
   | (with_reducible exact ih2 _ _ _ _ _ _ _ _ _ _ _ _ _ _ _ _ _)
   | (with_reducible exact ih3 _ _ _ _ _ _ _ _ _ _ _ _ _ _)
   | (with_reducible exact hll_Add.mono _ _ _ _)
   | (with_reducible exact hll_AddAll.mono _ _ _ _)
   | (with_reducible exact hll_Check.mono _ _ _)
   | (with_reducible exact hll_Merge.mono _ _ _ _ _)
   | (with_reducible exact hll_Same.mono _ _ _ _ _)
   | (with_reducible exact hll_Zeros.mono _ _ _)
   | (with_reducible exact tallymanlaw14_lives.mono _)
   | (with_reducible exact tallymanlaw14_turned.mono _ _)
   | (with_reducible exact LeO.refl _)
   | (with_reducible exact LeO.none _)
   | (with_reducible refine LeO.ite ?_ ?_)
   | (with_reducible refine LeO.bind ?_ (fun _ => ?_))
def tallymanlaw14_HllSets.T15 : Bool × List (List Nat × List Nat) := (true, [([], []), ([], []), ([], []), ([1, 2], [1, 2]), ([3], [3]), ([0, 4], [0, 4]), ([5], [5]), ([6], [6]), ([6], [6]), ([7, 5, 0, 1, 2, 3, 4, 5, 6, 7], [7])])
def tallymanlaw14_HllSets.B15 : List Nat := [0, 0, 0, 6, 14, 31, 63, 127, 127, 255]
theorem tallymanlaw14_HllSets.tab15 : rtab .any (opsOf Try.f7 15) = tallymanlaw14_HllSets.T15 := by kernel_rfl
theorem tallymanlaw14_HllSets.bits15 : waitsOk tallymanlaw14_HllSets.T15.2 tallymanlaw14_HllSets.B15 = true := by kernel_rfl
def tallymanlaw14_HllSets.T16 : Bool × List (List Nat × List Nat) := (true, [([], []), ([], []), ([1], [1]), ([0, 2, 2], [0, 2]), ([3], [3]), ([4], [4]), ([4], [4]), ([], []), ([7, 5, 3, 0, 1, 2, 3, 4, 5, 7], [5, 7]), ([6, 8, 0, 1, 2, 3, 4, 5, 6, 7, 8], [6])])
def tallymanlaw14_HllSets.B16 : List Nat := [0, 0, 2, 7, 15, 31, 31, 0, 191, 511]
theorem tallymanlaw14_HllSets.tab16 : rtab .any (opsOf Try.f7 16) = tallymanlaw14_HllSets.T16 := by kernel_rfl
theorem tallymanlaw14_HllSets.bits16 : waitsOk tallymanlaw14_HllSets.T16.2 tallymanlaw14_HllSets.B16 = true := by kernel_rfl
def tallymanlaw14_HllSets.T23 : Bool × List (List Nat × List Nat) := (true, [([], []), ([], []), ([0, 1], [0, 1]), ([2, 2], [2]), ([3], [3]), ([3], [3]), ([4, 5, 3, 3], [3, 4, 5]), ([3, 6], [3, 6]), ([7, 6], [7]), ([8], [8]), ([8], [8]), ([9, 10, 8, 8], [8, 9, 10]), ([8, 11], [8, 11]), ([12, 11], [12]), ([13], [13]), ([13], [13]), ([14, 15, 13, 13], [13, 14, 15]), ([13, 16], [13, 16]), ([17, 16], [17]), ([18], [18]), ([19, 18], [18, 19]), ([20, 18], [18, 20]), ([21, 18, 18], [18, 21]), ([22], [22]), ([22], [22]), ([23, 24, 22, 22], [22, 23, 24]), ([22, 25, 18], [18, 22, 25]), ([18, 26], [18, 26]), ([27, 25], [27]), ([28], [28]), ([29, 28, 28], [28, 29]), ([28], [28]), ([31, 28], [28, 31]), ([32, 28], [28, 32]), ([28], [28]), ([34, 28], [28, 34]), ([35, 28], [28, 35]), ([33, 36, 28], [28, 33, 36]), ([30, 37, 28], [28, 30, 37]), ([28, 38], [28, 38]), ([39, 30], [39]), ([40], [40]), ([41, 40, 40], [40, 41]), ([42, 40], [40, 42]), ([40, 43], [40, 43]), ([44, 42, 0, 1, 2, 3, 4, 5, 6, 7, 8, 9, 10, 11, 12, 13, 14, 15, 16, 17, 18, 19, 20, 21, 22, 23, 24, 25, 26, 27, 28, 29, 30, 31, 32, 33, 34, 35, 36, 37, 38, 39, 40, 41, 42, 43, 44], [44])])
def tallymanlaw14_HllSets.B23 : List Nat := [0, 0, 3, 7, 15, 15, 63, 127, 255, 511, 511, 2047, 4095, 8191, 16383, 16383, 65535, 131071, 262143, 524287, 1048575, 2097151, 4194303, 8388607, 8388607, 33554431, 67108863, 134217727, 268435455, 536870911, 1073741823, 536870911, 2684354559, 6979321855, 536870911, 17716740095, 52076478463, 135828340735, 274877906943, 549755813887, 1099511627775, 2199023255551, 4398046511103, 8796093022207, 17592186044415, 35184372088831]
theorem tallymanlaw14_HllSets.tab23 : rtab .any (opsOf Try.f7 23) = tallymanlaw14_HllSets.T23 := by kernel_rfl
theorem tallymanlaw14_HllSets.bits23 : waitsOk tallymanlaw14_HllSets.T23.2 tallymanlaw14_HllSets.B23 = true := by kernel_rfl
theorem no_3 {k : Nat} {x0 : Int} {x1 : List Int} {x3 : Int} {x4 : List (S32)} {x5 : Int} {x6 : List (S32)} {x7 : Int} {x8 : List (S32)} {x9 : Int} {x10 : List (S32)} {x11 : Int} {x12 : List (S32)} {x13 : Int} {x14 : List (S32)} {x15 : Int} {x16 : List (S32)} {r : Bool} (H : tallymanlaw14_HllSets.j3 k x0 x1 true x3 x4 x5 x6 x7 x8 x9 x10 x11 x12 x13 x14 x15 x16 = some r) : False := by
 cases k with
 | zero => simp [tallymanlaw14_HllSets.j3] at H
 | succ k => simp [tallymanlaw14_HllSets.j3] at H
set_option maxHeartbeats 40000000 in
set_option maxRecDepth 100000 in
theorem tallymanlaw14_HllSets.calls (k : Nat) (a0 : Int) (A1 : Option Addr) (c1 : Nat) (l1 : List Int) (A2 : Option Addr) (c2 : Nat) (l2 : List Int) (r : Bool) (w : World) (hr1 : Kd.C (Kd.int .u64) w A1 l1.length l1) (hc1 : l1.length ≤ c1) (hr2 : Kd.C (Kd.int .u64) w A2 l2.length l2) (hc2 : l2.length ≤ c2) (h : tallymanlaw14_HllSets.f k a0 l1 l2 = some r) :
  Calls Try.prog 7 #[.int .i64 a0, .slice A1 l1.length c1, .slice A2 l2.length c2] w fun e w' => e = .returned (.bool r) ∧ Below w.heap.size w w' := by
 have hu30 := Try.underlying30
 have HR1 := Aside0.mk hr1
 have HC1 := Aside0.mk hc1
 clear hr1 hc1
 have HR2 := Aside0.mk hr2
 have HC2 := Aside0.mk hc2
 clear hr2 hc2
 have HB := am (Below.refl w.heap.size w)
 have H : ((tallymanlaw14_lives.f k).bind fun t274 => (if t274 = true then (if (l1.length : Int) > 300 then (tallymanlaw14_HllSets.j0 k a0 l1 l2 true) else (tallymanlaw14_HllSets.j0 k a0 l1 l2 (decide ((l2.length : Int) > 300)))) else (none))) = some r := h
 clear h
 replace H := Option.bind_eq_some_iff.mp H
 obtain ⟨t274, A40, H⟩ := H
 replace H : (if t274 = true then (if (l1.length : Int) > 300 then (tallymanlaw14_HllSets.j0 k a0 l1 l2 true) else (tallymanlaw14_HllSets.j0 k a0 l1 l2 (decide ((l2.length : Int) > 300)))) else (none)) = some r := H
 have A4 := Aside0.mk A40
 clear A40
 by_cases c5 : t274 = true
 ·
  subst c5
  have H1 : (if (l1.length : Int) > 300 then (tallymanlaw14_HllSets.j0 k a0 l1 l2 true) else (tallymanlaw14_HllSets.j0 k a0 l1 l2 (decide ((l2.length : Int) > 300)))) = some r := by rw [if_pos rfl] at H; exact H
  clear H
  have H := H1
  clear H1
  have HC6 := Aside0.mk H
  clear H
  go_enter Try.func7, Try.ntmps7
  go_upto_region 3 with (first | ((with_reducible refine gate_callee (f := 23) rfl ?_); refine goesL_ (some 24) rfl rfl Try.func23 (by kernel_rfl) rfl #[] rfl (by (try simp only [List.map_toArray, List.map_cons, List.map_nil]); first | done | rfl | (simp only [List.length_drop, List.length_take]; rfl)) ?_; (with_reducible refine (tallymanlaw14_lives.calls k  true _ A4.out).mono ?_); rintro e w7 ⟨rfl, hb⟩; refine ⟨_, rfl, ?_⟩; replace HB := am (below_step (hu HB.out) hb); (try clear hb)))
  (try simp only [Act.put, List.setIfInBounds_toArray, List.set_cons_zero, List.set_cons_succ])
  go_cut [33] (fun v33 wc => ∃ (kq : Nat) (x33_5 : Bool), v33 = .bool x33_5 ∧ Aside0 (tallymanlaw14_HllSets.j0 kq a0 l1 l2 x33_5 = some r) ∧ Aside0 (kq ≤ k) ∧ Aside0 (Below w.heap.size w wc))
  case first =>
   have H := HC6.out
   clear HC6
   by_cases c8 : (l1.length : Int) > 300
   ·
    rw [if_pos c8] at H
    have c8b0 : decide (300 < (l1.length : Int)) = true := decide_eq_true c8
    have c8b1 : decide (300 < l1.length) = true := decide_eq_true (by omega)
    clear c8
    (first | rw [c8b0] | (simp only [i64_w, i32_w]; rw [c8b0]) | skip)
    have H' := Aside0.mk H
    clear H
    go_wp2
    go_meet
    case rel => exact ⟨_, (true), (by first | rfl | (simp; done) | (simp [*]; done)), H', ⟨by first | omega | exact Nat.le_refl _⟩, ⟨by repeat (first | (with_reducible first | exact HB.out | apply below_alloc | apply pw_below_drewN | apply below_drew1) | exact HB.out)⟩⟩
   ·
    rw [if_neg c8] at H
    have c8b0 : decide (300 < (l1.length : Int)) = false := decide_eq_false c8
    have c8b1 : decide (300 < l1.length) = false := decide_eq_false (by omega)
    clear c8
    (first | rw [c8b0] | (simp only [i64_w, i32_w]; rw [c8b0]) | skip)
    have H' := Aside0.mk H
    clear H
    go_wp2
    go_meet
    case rel => exact ⟨_, (decide ((l2.length : Int) > 300)), (by first | rfl | (simp; done) | (simp [*]; done)), H', ⟨by first | omega | exact Nat.le_refl _⟩, ⟨by repeat (first | (with_reducible first | exact HB.out | apply below_alloc | apply pw_below_drewN | apply below_drew1) | exact HB.out)⟩⟩
  case rest =>
   clear HC6
   try clear c1; try clear c2; try clear p2; try clear c5; try clear c7; try clear c8; try clear c8b0; try clear c8b1
   obtain ⟨kq, x33_5, rfl, HA, HJ5, HB⟩ := hcut
   cases kq with
   | zero => exact absurd HA.out (by simp [tallymanlaw14_HllSets.j0])
   | succ kj5 =>
    have H := HA.out
    clear HA
    simp only [tallymanlaw14_HllSets.j0] at H
    by_cases c9 : x33_5 = true
    ·
     subst c9
     have H1 : (some true) = some r := by rw [if_pos rfl] at H; exact H
     clear H
     have H := H1
     clear H1
     obtain rfl := Option.some.inj H
     go_wp2
     go_ret
     exact ⟨by first | rfl | (simp [errW_none, errW_some] <;> rfl) | (simp [*, errW_none, errW_some] <;> rfl), by repeat (first | (with_reducible first | exact HB.out | apply below_alloc | apply pw_below_drewN | apply below_drew1) | exact HB.out)⟩
    ·
     replace c9 := Bool.eq_false_iff.mpr c9
     subst c9
     have H1 : ((tallymankit_Pick.f a0 13).bind fun t275 => ((hll_New.f (wrap64 (4 + t275))).bind fun bt276 => (if bt276.2.2 = 0 then ((hll_AddAll.f kj5 bt276.1 bt276.2.1 l1).bind fun bt282 => ((hll_AddAll.f kj5 bt276.1 bt276.2.1 l2).bind fun bt288 => (tallymanlaw14_HllSets.l0 kj5 (wrap64 (4 + t275)) l1 l2 bt282.2.2 bt288.2.2 0 bt276.1 bt276.2.1 bt282.1 bt282.2.1 bt288.1 bt288.2.1 bt276.1 bt276.2.1))) else (none)))) = some r := by rw [if_neg (show ¬ (false = true) by decide)] at H; exact H
     clear H
     have H := H1
     clear H1
     replace H := Option.bind_eq_some_iff.mp H
     obtain ⟨t275, A100, H⟩ := H
     replace H : ((hll_New.f (wrap64 (4 + t275))).bind fun bt276 => (if bt276.2.2 = 0 then ((hll_AddAll.f kj5 bt276.1 bt276.2.1 l1).bind fun bt282 => ((hll_AddAll.f kj5 bt276.1 bt276.2.1 l2).bind fun bt288 => (tallymanlaw14_HllSets.l0 kj5 (wrap64 (4 + t275)) l1 l2 bt282.2.2 bt288.2.2 0 bt276.1 bt276.2.1 bt282.1 bt282.2.1 bt288.1 bt288.2.1 bt276.1 bt276.2.1))) else (none))) = some r := H
     have A10 := Aside0.mk A100
     clear A100
     replace H := Option.bind_eq_some_iff.mp H
     obtain ⟨⟨t276, t277, t280⟩, A110, H⟩ := H
     replace H : (if t280 = 0 then ((hll_AddAll.f kj5 t276 t277 l1).bind fun bt282 => ((hll_AddAll.f kj5 t276 t277 l2).bind fun bt288 => (tallymanlaw14_HllSets.l0 kj5 (wrap64 (4 + t275)) l1 l2 bt282.2.2 bt288.2.2 0 t276 t277 bt282.1 bt282.2.1 bt288.1 bt288.2.1 t276 t277))) else (none)) = some r := H
     have A11 := Aside0.mk A110
     clear A110
     by_cases c12 : t280 = 0
     ·
      rw [if_pos c12] at H
      have c12b0 : (t280 == 0) = true := beq_iff_eq.mpr c12
      have c12b1 : (t280 != 0) = false := bne_eq_false_iff_eq.mpr c12
      clear c12
      replace H := Option.bind_eq_some_iff.mp H
      obtain ⟨⟨t282, t283, t286⟩, A130, H⟩ := H
      replace H : ((hll_AddAll.f kj5 t276 t277 l2).bind fun bt288 => (tallymanlaw14_HllSets.l0 kj5 (wrap64 (4 + t275)) l1 l2 t286 bt288.2.2 0 t276 t277 t282 t283 bt288.1 bt288.2.1 t276 t277)) = some r := H
      have A13 := Aside0.mk A130
      clear A130
      replace H := Option.bind_eq_some_iff.mp H
      obtain ⟨⟨t288, t289, t292⟩, A140, H⟩ := H
      replace H : (tallymanlaw14_HllSets.l0 kj5 (wrap64 (4 + t275)) l1 l2 t286 t292 0 t276 t277 t282 t283 t288 t289 t276 t277) = some r := H
      have A14 := Aside0.mk A140
      clear A140
      have HC15 := Aside0.mk H
      clear H
      go_upto_block 0 with (first | ((with_reducible refine gate_callee (f := 17) rfl ?_); refine goesL_ (some 35) rfl rfl Try.func17 (by kernel_rfl) rfl #[.int .i64 a0, .int .i64 13] rfl (by (try simp only [List.map_toArray, List.map_cons, List.map_nil]); first | done | rfl | (simp only [List.length_drop, List.length_take]; rfl)) ?_; (with_reducible refine (tallymankit_Pick.calls a0 13 t275 _ A10.out).mono ?_); rintro e w' ⟨rfl, ⟨nd, rfl⟩⟩; refine ⟨_, rfl, ?_⟩; (try (rw [drewN_self wc]; generalize hq_ : World.drewN wc _ = wc; have n0_ : Aside0 (Below w.heap.size w wc) := ⟨by rw [← hq_]; exact (hu HB.out)⟩; clear HB hq_; have HB := n0_; clear n0_))) | ((with_reducible refine gate_callee (f := 24) rfl ?_); refine goesL_ (some 39) rfl rfl Try.func24 (by kernel_rfl) rfl #[.int .i64 (wrap64 (4 + t275))] rfl (by (try simp only [List.map_toArray, List.map_cons, List.map_nil]); first | done | rfl | (simp only [List.length_drop, List.length_take]; rfl)) ?_; (with_reducible refine (hll_New.calls (wrap64 (4 + t275)) t276 t277 t280 _ A11.out).mono ?_); rintro e w16 ⟨v278, rfl, ho0, hb⟩; refine ⟨_, rfl, ?_⟩; have HO279 := am (Kd.R_lower ho0 (below_size (hu HB.out))); replace HB := am (below_step (hu HB.out) hb); (try clear hb); (try clear ho0)) | ((with_reducible refine gate_dst (N := 7) rfl ?_); (try (refine gate_guard (by rfl) ?_; dsimp only)); refine box_event ?hg (N := 7) ?hd (cs := #[.int .i64 0, .slice none 0 0]) (t := 30) ?hr ?_; (case hd => rfl); (case hg => rfl); (case hr => first | (go_simp; done) | (go_simp; rfl)); intro gb281 hg w17 hbox hb; obtain ⟨HBn, GW281⟩ := tri hg hb (hu HB.out); have GE281 := GW281; have BK281 := am (hbox); replace HO279 := rb HO279 hb; clear HB; have HB := HBn; clear HBn; clear hb hbox hg; have hcz18_0 := ca BK281.out; have hcz18_1 := cb BK281.out; have hfz18_0 := blk_frozen BK281.out 0; have hfz18_1 := blk_frozen BK281.out 1; obtain ⟨Ao19, co19, eo19⟩ := Kd.R_slice HO279.out; subst eo19) | ((with_reducible refine gate_callee (f := 25) rfl ?_); refine goesL_ (some 47) rfl rfl Try.func25 (by kernel_rfl) rfl #[.agg #[.int .i64 t276, .slice Ao19 t277.length co19], .slice A1 l1.length c1] rfl (by (try simp only [List.map_toArray, List.map_cons, List.map_nil]); first | done | rfl | (simp only [List.length_drop, List.length_take]; rfl)) ?_; (with_reducible refine (hll_AddAll.calls kj5 t276 _ _ t277 _ _ l1 t282 t283 t286 _ ?side1 ?side2 ?side3 ?side4 A13.out).mono ?_); (case side1 => refine (Kd.R_reads' (e := 32) (base := w.heap.size) (ok := fun k_ => True) (n := t277.length) (c := co19) ?_).2.2; exact (rf HO279.out BK281.out (by decide))); (case side2 => exact (Kd.R_reads' HO279.out).2.1); (case side3 => exact Kd.C_below HR1.out (by repeat (first | (with_reducible first | exact HB.out | apply below_alloc | apply pw_below_drewN | apply below_drew1 | refine below_set ?_ (Aside0.out (by assumption))) | exact HB.out))); (case side4 => exact HC1.out); rintro e w20 ⟨v284, rfl, ho0, hb⟩; refine ⟨_, rfl, ?_⟩; have HO285 := am (Kd.R_lower (Kd.R_new' ho0 (Kd.R_lt (rf HO279.out BK281.out (by decide)))) (below_size (by repeat (first | (with_reducible first | exact HB.out | apply below_alloc | apply pw_below_drewN | apply below_drew1 | refine below_set ?_ (Aside0.out (by assumption))) | exact HB.out)))); replace HO279 := am (Kd.R_elder' (rf HO279.out BK281.out (by decide)) (Kd.R_base ho0) hb); replace BK281 := am (blk_below (g := gb281) (o := .cells #[.int .i64 t276, .slice Ao19 t277.length co19] 30 (0, 0)) (by (with_reducible repeat (first | refine blk_drewN ?_ _ | refine blk_drew ?_ | refine blk_alloc ?_ _)); refine blk_put (cs := #[.int .i64 t276, .slice none 0 0]) ?_ 1 _ rfl; (with_reducible repeat (first | refine blk_drewN ?_ _ | refine blk_drew ?_ | refine blk_alloc ?_ _)); refine blk_put (cs := #[.int .i64 0, .slice none 0 0]) ?_ 0 _ rfl; (with_reducible repeat (first | refine blk_drewN ?_ _ | refine blk_drew ?_ | refine blk_alloc ?_ _)); exact BK281.out) hb); replace HB := am (below_step (by repeat (first | (with_reducible first | exact HB.out | apply below_alloc | apply pw_below_drewN | apply below_drew1 | refine below_set ?_ (Aside0.out (by assumption))) | exact HB.out)) hb); (try clear hb); (try clear ho0)) | ((with_reducible refine gate_dst (N := 9) rfl ?_); (try (refine gate_guard (by rfl) ?_; dsimp only)); refine box_event ?hg (N := 9) ?hd (cs := #[.int .i64 0, .slice none 0 0]) (t := 30) ?hr ?_; (case hd => rfl); (case hg => rfl); (case hr => first | (go_simp; done) | (go_simp; rfl)); intro gb287 hg w21 hbox hb; obtain ⟨HBn, GW287⟩ := tri hg hb (by repeat (first | (with_reducible first | exact HB.out | apply below_alloc | apply pw_below_drewN | apply below_drew1 | refine below_set ?_ (Aside0.out (by assumption))) | exact HB.out)); have GE287 := GW287; have BK287 := am (hbox); have NB281_287 := nl hg (bu BK281.out); have NB287_281 := nr hg (bu BK281.out); replace HO279 := rb HO279 hb; replace HO285 := rb HO285 hb; replace BK281 := bb BK281 hb; clear HB; have HB := HBn; clear HBn; clear hb hbox hg; have hnb22 := NB287_281.out; have hnc22 := NB281_287.out; have hcz23_0 := ca BK287.out; have hcz23_1 := cb BK287.out; have hfz23_0 := blk_frozen BK287.out 0; have hfz23_1 := blk_frozen BK287.out 1; obtain ⟨Ao24, co24, eo24⟩ := Kd.R_slice HO285.out; subst eo24; have hcz25_0 := ca BK281.out; have hcz25_1 := cb BK281.out; have hfz25_0 := blk_frozen BK281.out 0; have hfz25_1 := blk_frozen BK281.out 1) | ((with_reducible refine gate_callee (f := 25) rfl ?_); refine goesL_ (some 53) rfl rfl Try.func25 (by kernel_rfl) rfl #[.agg #[.int .i64 t276, .slice Ao19 t277.length co19], .slice A2 l2.length c2] rfl (by (try simp only [List.map_toArray, List.map_cons, List.map_nil]); first | done | rfl | (simp only [List.length_drop, List.length_take]; rfl)) ?_; (with_reducible refine (hll_AddAll.calls kj5 t276 _ _ t277 _ _ l2 t288 t289 t292 _ ?side1 ?side2 ?side3 ?side4 A14.out).mono ?_); (case side1 => refine (Kd.R_reads' (e := 32) (base := w.heap.size) (ok := fun k_ => (True ∧ nb Ao24 t283.length co24 k_)) (n := t277.length) (c := co19) ?_).2.2; exact (rf HO279.out BK287.out (by decide))); (case side2 => exact (Kd.R_reads' HO279.out).2.1); (case side3 => exact Kd.C_below HR2.out (by repeat (first | (with_reducible first | exact HB.out | apply below_alloc | apply pw_below_drewN | apply below_drew1 | refine below_set ?_ (Aside0.out (by assumption))) | exact HB.out))); (case side4 => exact HC2.out); rintro e w26 ⟨v290, rfl, ho0, hb⟩; refine ⟨_, rfl, ?_⟩; have HO291 := am (Kd.R_lower (Kd.R_new' (Kd.R_new' ho0 (Kd.R_lt (rf HO279.out BK287.out (by decide)))) (Kd.R_lt (rf HO285.out BK287.out (by decide)))) (below_size (by repeat (first | (with_reducible first | exact HB.out | apply below_alloc | apply pw_below_drewN | apply below_drew1 | refine below_set ?_ (Aside0.out (by assumption))) | exact HB.out)))); replace HO279 := am (Kd.R_elder' (rf HO279.out BK287.out (by decide)) (Kd.R_base ho0) hb); replace HO285 := am (Kd.R_elder' (rf HO285.out BK287.out (by decide)) (Kd.R_base ho0) hb); replace BK281 := am (blk_below (bf NB281_287.out BK281.out) hb); replace BK287 := am (blk_below (g := gb287) (o := .cells #[.int .i64 t282, .slice Ao24 t283.length co24] 30 (0, 0)) (by (with_reducible repeat (first | refine blk_drewN ?_ _ | refine blk_drew ?_ | refine blk_alloc ?_ _)); refine blk_put (cs := #[.int .i64 t282, .slice none 0 0]) ?_ 1 _ rfl; (with_reducible repeat (first | refine blk_drewN ?_ _ | refine blk_drew ?_ | refine blk_alloc ?_ _)); refine blk_put (cs := #[.int .i64 0, .slice none 0 0]) ?_ 0 _ rfl; (with_reducible repeat (first | refine blk_drewN ?_ _ | refine blk_drew ?_ | refine blk_alloc ?_ _)); exact BK287.out) hb); replace HB := am (below_step (by repeat (first | (with_reducible first | exact HB.out | apply below_alloc | apply pw_below_drewN | apply below_drew1 | refine below_set ?_ (Aside0.out (by assumption))) | exact HB.out)) hb); (try clear hb); (try clear ho0)) | ((with_reducible refine gate_dst (N := 10) rfl ?_); (try (refine gate_guard (by rfl) ?_; dsimp only)); refine box_event ?hg (N := 10) ?hd (cs := #[.int .i64 0, .slice none 0 0]) (t := 30) ?hr ?_; (case hd => rfl); (case hg => rfl); (case hr => first | (go_simp; done) | (go_simp; rfl)); intro gb293 hg w27 hbox hb; obtain ⟨HBn, GW293⟩ := tri hg hb (by repeat (first | (with_reducible first | exact HB.out | apply below_alloc | apply pw_below_drewN | apply below_drew1 | refine below_set ?_ (Aside0.out (by assumption))) | exact HB.out)); have GE293 := GW293; have BK293 := am (hbox); have NB281_293 := nl hg (bu BK281.out); have NB293_281 := nr hg (bu BK281.out); have NB287_293 := nl hg (bu BK287.out); have NB293_287 := nr hg (bu BK287.out); replace HO279 := rb HO279 hb; replace HO285 := rb HO285 hb; replace HO291 := rb HO291 hb; replace BK281 := bb BK281 hb; replace BK287 := bb BK287 hb; clear HB; have HB := HBn; clear HBn; clear hb hbox hg; have hnb28 := NB293_281.out; have hnc28 := NB281_293.out; have hnb29 := NB293_287.out; have hnc29 := NB287_293.out; have hcz30_0 := ca BK293.out; have hcz30_1 := cb BK293.out; have hfz30_0 := blk_frozen BK293.out 0; have hfz30_1 := blk_frozen BK293.out 1; obtain ⟨Ao31, co31, eo31⟩ := Kd.R_slice HO291.out; subst eo31; have hcz32_0 := ca BK281.out; have hcz32_1 := cb BK281.out; have hfz32_0 := blk_frozen BK281.out 0; have hfz32_1 := blk_frozen BK281.out 1) | ((with_reducible refine gate_dst (N := 12) rfl ?_); (try (refine gate_guard (by rfl) ?_; dsimp only)); refine box_event ?hg (N := 12) ?hd (cs := #[.int .i64 0, .slice none 0 0]) (t := 30) ?hr ?_; (case hd => rfl); (case hg => rfl); (case hr => first | (go_simp; done) | (go_simp; rfl)); intro gb294 hg w33 hbox hb; obtain ⟨HBn, GW294⟩ := tri hg hb (by repeat (first | (with_reducible first | exact HB.out | apply below_alloc | apply pw_below_drewN | apply below_drew1 | refine below_set ?_ (Aside0.out (by assumption))) | exact HB.out)); have GE294 := GW294; have BK294 := am (hbox); have NB281_294 := nl hg (bf NB281_293.out BK281.out); have NB294_281 := nr hg (bf NB281_293.out BK281.out); have NB287_294 := nl hg (bf NB287_293.out BK287.out); have NB294_287 := nr hg (bf NB287_293.out BK287.out); have NB293_294 := am ((by rw [hg]; exact Nat.ne_of_lt (blk_lt (g := gb293) (o := .cells #[.int .i64 t288, .slice Ao31 t289.length co31] 30 (0, 0)) (by (with_reducible repeat (first | refine blk_drewN ?_ _ | refine blk_drew ?_ | refine blk_alloc ?_ _)); refine blk_put (cs := #[.int .i64 t288, .slice none 0 0]) ?_ 1 _ rfl; (with_reducible repeat (first | refine blk_drewN ?_ _ | refine blk_drew ?_ | refine blk_alloc ?_ _)); refine blk_put (cs := #[.int .i64 0, .slice none 0 0]) ?_ 0 _ rfl; (with_reducible repeat (first | refine blk_drewN ?_ _ | refine blk_drew ?_ | refine blk_alloc ?_ _)); exact BK293.out)) : gb293 ≠ gb294)); have NB294_293 := am ((by rw [hg]; exact Nat.ne_of_gt (blk_lt (g := gb293) (o := .cells #[.int .i64 t288, .slice Ao31 t289.length co31] 30 (0, 0)) (by (with_reducible repeat (first | refine blk_drewN ?_ _ | refine blk_drew ?_ | refine blk_alloc ?_ _)); refine blk_put (cs := #[.int .i64 t288, .slice none 0 0]) ?_ 1 _ rfl; (with_reducible repeat (first | refine blk_drewN ?_ _ | refine blk_drew ?_ | refine blk_alloc ?_ _)); refine blk_put (cs := #[.int .i64 0, .slice none 0 0]) ?_ 0 _ rfl; (with_reducible repeat (first | refine blk_drewN ?_ _ | refine blk_drew ?_ | refine blk_alloc ?_ _)); exact BK293.out)) : gb294 ≠ gb293)); replace HO279 := am (Kd.R_below (rf HO279.out BK293.out (by decide)) hb); replace HO285 := am (Kd.R_below (rf HO285.out BK293.out (by decide)) hb); replace HO291 := am (Kd.R_below (rf HO291.out BK293.out (by decide)) hb); replace BK281 := am (blk_below (bf NB281_293.out BK281.out) hb); replace BK287 := am (blk_below (bf NB287_293.out BK287.out) hb); replace BK293 := am (blk_below (g := gb293) (o := .cells #[.int .i64 t288, .slice Ao31 t289.length co31] 30 (0, 0)) (by (with_reducible repeat (first | refine blk_drewN ?_ _ | refine blk_drew ?_ | refine blk_alloc ?_ _)); refine blk_put (cs := #[.int .i64 t288, .slice none 0 0]) ?_ 1 _ rfl; (with_reducible repeat (first | refine blk_drewN ?_ _ | refine blk_drew ?_ | refine blk_alloc ?_ _)); refine blk_put (cs := #[.int .i64 0, .slice none 0 0]) ?_ 0 _ rfl; (with_reducible repeat (first | refine blk_drewN ?_ _ | refine blk_drew ?_ | refine blk_alloc ?_ _)); exact BK293.out) hb); clear HB; have HB := HBn; clear HBn; clear hb hbox hg; have hnb34 := NB294_281.out; have hnc34 := NB281_294.out; have hnb35 := NB294_287.out; have hnc35 := NB287_294.out; have hnb36 := NB294_293.out; have hnc36 := NB293_294.out; have hcz37_0 := ca BK294.out; have hcz37_1 := cb BK294.out; have hfz37_0 := blk_frozen BK294.out 0; have hfz37_1 := blk_frozen BK294.out 1))
      (try simp only [Act.put, List.setIfInBounds_toArray, List.set_cons_zero, List.set_cons_succ])
      go_cut [] (fun wc => ∃ (kq : Nat) (x295000_14 : Int) (x295001_14 : List (S32)) (u295001 : Value), Aside0 (tallymanlaw14_HllSets.j2 kq (wrap64 (4 + t275)) l1 l2 t286 t292 t276 t277 t282 t283 t288 t289 x295000_14 x295001_14 = some r) ∧ Aside0 (kq ≤ kj5) ∧ Aside0 (Kd.R k32 32 wc w.heap.size (fun k_ => some k_ ≠ ((.slice Ao24 t283.length co24) : Value).ownBlock ∧ some k_ ≠ ((.slice Ao31 t289.length co31) : Value).ownBlock) (.slice Ao19 t277.length co19) t277) ∧ Aside0 (Kd.R k32 32 wc w.heap.size (fun k_ => some k_ ≠ ((.slice Ao19 t277.length co19) : Value).ownBlock ∧ some k_ ≠ ((.slice Ao31 t289.length co31) : Value).ownBlock ∧ some k_ ≠ (u295001 : Value).ownBlock) (.slice Ao24 t283.length co24) t283) ∧ Aside0 (Kd.R k32 32 wc w.heap.size (fun k_ => some k_ ≠ ((.slice Ao19 t277.length co19) : Value).ownBlock ∧ some k_ ≠ ((.slice Ao24 t283.length co24) : Value).ownBlock ∧ some k_ ≠ (u295001 : Value).ownBlock) (.slice Ao31 t289.length co31) t289) ∧ Aside0 (Kd.R k32 32 wc w.heap.size (fun k_ => some k_ ≠ ((.slice Ao24 t283.length co24) : Value).ownBlock ∧ some k_ ≠ ((.slice Ao31 t289.length co31) : Value).ownBlock) u295001 x295001_14) ∧ Aside0 (wc.heap[gb281]? = some (.cells #[.int .i64 t276, (.slice Ao19 t277.length co19)] 30 (0, 0))) ∧ Aside0 (wc.heap[gb287]? = some (.cells #[.int .i64 t282, (.slice Ao24 t283.length co24)] 30 (0, 0))) ∧ Aside0 (wc.heap[gb293]? = some (.cells #[.int .i64 t288, (.slice Ao31 t289.length co31)] 30 (0, 0))) ∧ Aside0 (wc.heap[gb294]? = some (.cells #[.int .i64 x295000_14, u295001] 30 (0, 0))) ∧ Aside0 (Below w.heap.size w wc))
      case first =>
       have H := HC15.out
       clear HC15
       have H' := Aside0.mk H
       clear H
       go_wp2
       go_loopg [13] kj5 (fun kq v13 w' => ∃ (x13_2 : Int) (x295000_2 : Int) (x295001_2 : List (S32)) (u295001 : Value), v13 = .int .i64 x13_2 ∧ Aside0 (tallymanlaw14_HllSets.l0 kq (wrap64 (4 + t275)) l1 l2 t286 t292 x13_2 t276 t277 t282 t283 t288 t289 x295000_2 x295001_2 = some r) ∧ Aside0 (kq ≤ kj5) ∧ Aside0 (Kd.R k32 32 w' w.heap.size (fun k_ => some k_ ≠ ((.slice Ao24 t283.length co24) : Value).ownBlock ∧ some k_ ≠ ((.slice Ao31 t289.length co31) : Value).ownBlock) (.slice Ao19 t277.length co19) t277) ∧ Aside0 (Kd.R k32 32 w' w.heap.size (fun k_ => some k_ ≠ ((.slice Ao19 t277.length co19) : Value).ownBlock ∧ some k_ ≠ ((.slice Ao31 t289.length co31) : Value).ownBlock ∧ some k_ ≠ (u295001 : Value).ownBlock) (.slice Ao24 t283.length co24) t283) ∧ Aside0 (Kd.R k32 32 w' w.heap.size (fun k_ => some k_ ≠ ((.slice Ao19 t277.length co19) : Value).ownBlock ∧ some k_ ≠ ((.slice Ao24 t283.length co24) : Value).ownBlock ∧ some k_ ≠ (u295001 : Value).ownBlock) (.slice Ao31 t289.length co31) t289) ∧ Aside0 (Kd.R k32 32 w' w.heap.size (fun k_ => some k_ ≠ ((.slice Ao24 t283.length co24) : Value).ownBlock ∧ some k_ ≠ ((.slice Ao31 t289.length co31) : Value).ownBlock) u295001 x295001_2) ∧ Aside0 (w'.heap[gb281]? = some (.cells #[.int .i64 t276, (.slice Ao19 t277.length co19)] 30 (0, 0))) ∧ Aside0 (w'.heap[gb287]? = some (.cells #[.int .i64 t282, (.slice Ao24 t283.length co24)] 30 (0, 0))) ∧ Aside0 (w'.heap[gb293]? = some (.cells #[.int .i64 t288, (.slice Ao31 t289.length co31)] 30 (0, 0))) ∧ Aside0 (w'.heap[gb294]? = some (.cells #[.int .i64 x295000_2, u295001] 30 (0, 0))) ∧ Aside0 (Below w.heap.size w w'))
       case atStart => exact ⟨(0), (t276), (t277), (.slice Ao19 t277.length co19), (by first | rfl | (simp; done) | (simp [*]; done)), H', ⟨Nat.le_refl _⟩, ⟨Kd.R_mono (rf HO279.out BK294.out (by decide)) (fun _ hk => ⟨hk.1.2, hk.2⟩)⟩, ⟨Kd.R_mono (rf HO285.out BK294.out (by decide)) (fun _ hk => ⟨hk.1.2, ⟨hk.2, hk.1.2⟩⟩)⟩, ⟨Kd.R_mono (rf HO291.out BK294.out (by decide)) (fun _ hk => ⟨hk.1.2, ⟨hk.2, hk.1.2⟩⟩)⟩, ⟨Kd.R_mono (rf HO279.out BK294.out (by decide)) (fun _ hk => ⟨hk.1.2, hk.2⟩)⟩, ⟨bf NB281_294.out BK281.out⟩, ⟨bf NB287_294.out BK287.out⟩, ⟨bf NB293_294.out BK293.out⟩, ⟨by (with_reducible repeat (first | refine blk_drewN ?_ _ | refine blk_drew ?_ | refine blk_alloc ?_ _)); refine blk_put (cs := #[.int .i64 t276, .slice none 0 0]) ?_ 1 _ rfl; (with_reducible repeat (first | refine blk_drewN ?_ _ | refine blk_drew ?_ | refine blk_alloc ?_ _)); refine blk_put (cs := #[.int .i64 0, .slice none 0 0]) ?_ 0 _ rfl; (with_reducible repeat (first | refine blk_drewN ?_ _ | refine blk_drew ?_ | refine blk_alloc ?_ _)); exact BK294.out⟩, ⟨by repeat (first | (with_reducible first | exact HB.out | apply below_alloc | apply pw_below_drewN | apply below_drew1 | refine below_set ?_ (Aside0.out (by assumption))) | exact HB.out)⟩⟩
       case round =>
        clear H'
        try clear c1; try clear c2; try clear p2; try clear c3; try clear c5; try clear p6; try clear c7; try clear c8; try clear c8b0; try clear c8b1; try clear c9; try clear c12; try clear c12b0; try clear c12b1; try clear c17; try clear c22; try clear c23; try clear c24; try clear c25; try clear c28; try clear c29; try clear c34; try clear c35; try clear c36; try clear hcz18_0; try clear hcz18_1; try clear hcz23_0; try clear hcz23_1; try clear hcz25_0; try clear hcz25_1; try clear hcz30_0; try clear hcz30_1; try clear hcz32_0; try clear hcz32_1; try clear hcz37_0; try clear hcz37_1; try clear hfz18_0; try clear hfz18_1; try clear hfz23_0; try clear hfz23_1; try clear hfz25_0; try clear hfz25_1; try clear hfz30_0; try clear hfz30_1; try clear hfz32_0; try clear hfz32_1; try clear hfz37_0; try clear hfz37_1; try clear p2
        obtain ⟨x13_2, x295000_2, x295001_2, u295001, rfl, HA, HK2, HO_282001, HO_288001, HO_294001, HO_295001, BK281, BK287, BK293, BK294, HB⟩ := hrel
        cases gk with
        | zero => exact absurd HA.out (by simp [tallymanlaw14_HllSets.l0])
        | succ k2 =>
         have H := HA.out
         clear HA
         simp only [tallymanlaw14_HllSets.l0] at H
         by_cases c38 : x13_2 < (l1.length : Int)
         ·
          rw [if_pos c38] at H
          have c38b0 : decide (x13_2 < (l1.length : Int)) = true := decide_eq_true c38
          clear c38
          (first | rw [c38b0] | (simp only [i64_w, i32_w]; rw [c38b0]) | skip)
          by_cases c39 : x13_2 < 60
          ·
           rw [if_pos c39] at H
           have c39b0 : decide (x13_2 < 60) = true := decide_eq_true c39
           clear c39
           by_cases c40 : 0 ≤ x13_2
           ·
            rw [if_pos c40] at H
            have c40b0 : decide (0 ≤ x13_2) = true := decide_eq_true c40
            clear c40
            replace H := Option.bind_eq_some_iff.mp H
            obtain ⟨⟨t296, t297, t300⟩, A410, H⟩ := H
            replace H : (tallymanlaw14_HllSets.l0 k2 (wrap64 (4 + t275)) l1 l2 t286 t292 (wrap64 (x13_2 + 1)) t276 t277 t282 t283 t288 t289 t296 t297) = some r := H
            have A41 := Aside0.mk A410
            clear A410
            have H' := Aside0.mk H
            clear H
            try go_wp2
            replace HO_282001 := am (Kd.R_drew HO_282001.out); replace HO_288001 := am (Kd.R_drew HO_288001.out); replace HO_294001 := am (Kd.R_drew HO_294001.out); replace HO_295001 := am (Kd.R_drew HO_295001.out); replace BK281 := am (blk_drew BK281.out); replace BK287 := am (blk_drew BK287.out); replace BK293 := am (blk_drew BK293.out); replace BK294 := am (blk_drew BK294.out); replace HB := am (below_drew1 HB.out)
            have p295 : 0 ≤ (x13_2 : Int) := of_decide_eq_true (by first | (with_reducible assumption) | assumption)
            have q295 : x13_2 < (l1.length : Int) := of_decide_eq_true (by first | (with_reducible assumption) | assumption)
            obtain ⟨ad295, e295, hx295_0⟩ := Kd.at_int HR1.out x13_2 p295 q295
            have hw295_0 := hx295_0
            cases e295
            replace hx295_0 := (HB.out.cell (World.block_lt_of_cell? w _ hx295_0)).trans hx295_0
            replace p295 := eq_true p295
            replace q295 := eq_true q295
            obtain ⟨Ao43, co43, eo43⟩ := Kd.R_slice HO_295001.out
            (first | subst eo43 | (injection eo43 with f1_ f2_ f3_; have f4_ := f1_.symm; have f5_ := f3_.symm; clear f1_ f2_ f3_; subst f4_; subst f5_))
            refine start_ (n := 10) (S := fun w' => w'.cell? ⟨gb294, 0, none⟩ = some (.int .i64 x295000_2) ∧ w'.cell? ⟨gb294, 1, none⟩ = some (.slice Ao43 x295001_2.length co43) ∧ w'.cell? (ad295.add (x13_2).toNat) = some (.int .u64 (rd l1 x13_2))) (ds := [9]) (tb 0 10) (by kernel_rfl) rfl rfl ⟨(blk_cell BK294.out 0).trans rfl, (blk_cell BK294.out 1).trans rfl, ((HB.out.cell (World.block_lt_of_cell? w _ hw295_0)).trans hw295_0)⟩ (fun hHeld => ?_); refine with_tabW tallymanlaw14_HllSets.tab15 tallymanlaw14_HllSets.bits15 (fun HT_ HW_ => ?_)
            generalize wr.drew = w42 at HO_282001 HO_288001 HO_294001 HO_295001 BK281 BK287 BK293 BK294 HB hx295_0 hHeld ⊢
            refine pu 1 (some 69) (v := ?_) (a' := ?_) #[false, true, false, false, false, false, false, false, false, false] rfl rfl (any_of HT_.out (by kernel_rfl)) (fun _ _ _ h => h) ⟨by rfl, ?_⟩ ?_ ?_; rotate_left; · (intro w'; go_simp; with_reducible rfl)
            rotate_left; · (simp only [Act.put, sa_, sb_, sc_, i64_w, i32_w]; rfl)
            refine pu 2 (some 70) (v := ?_) (a' := ?_) #[false, true, true, false, false, false, false, false, false, false] rfl rfl (any_of HT_.out (by kernel_rfl)) (fun _ _ _ h => h) ⟨by rfl, ?_⟩ ?_ ?_; rotate_left; · (intro w'; go_simp; with_reducible rfl)
            rotate_left; · (simp only [Act.put, sa_, sb_, sc_, i64_w, i32_w]; rfl)
            refine pu 3 (some 71) (v := ?_) (a' := ?_) #[false, true, true, true, false, false, false, false, false, false] rfl rfl (any_of HT_.out (by kernel_rfl)) (fun _ _ _ h => h) ⟨by rfl, ?_⟩ ?_ ?_; rotate_left; · (intro w'; go_simp; with_reducible rfl)
            rotate_left; · (simp only [Act.put, sa_, sb_, sc_, i64_w, i32_w]; rfl)
            refine tk 0 (some 68) (v := ?_) (a' := ?_) (tb 4 10) rfl rfl (take_ofW HT_.out HW_.out (by kernel_rfl)) (fun _ _ _ h => h) ⟨by rfl, ?_⟩ hHeld ?_ ?_; rotate_left; · (rintro w' ⟨s0, s1, s2⟩; go_simp; with_reducible rfl)
            rotate_left; · (simp only [Act.put, sa_, sb_, sc_, i64_w, i32_w]; rfl)
            refine tk 4 (some 72) (v := ?_) (a' := ?_) (tb 5 10) rfl rfl (take_ofW HT_.out HW_.out (by kernel_rfl)) (fun _ _ _ h => h) ⟨by rfl, ?_⟩ hHeld ?_ ?_; rotate_left; · (rintro w' ⟨s0, s1, s2⟩; go_simp; with_reducible rfl)
            rotate_left; · (simp only [Act.put, sa_, sb_, sc_, i64_w, i32_w]; rfl)
            refine one_ (i := 5) (N := some 73) (tb 6 10) rfl rfl (one_of HT_.out (by kernel_rfl)) (by decide) (fun K hK => ?_)
            refine goes_ Try.func28 (by kernel_rfl) rfl #[.agg #[.int .i64 x295000_2, .slice Ao43 x295001_2.length co43], .int .u64 (rd l1 x13_2)] (by rfl) rfl rfl (by (try simp only [List.map_toArray, List.map_cons, List.map_nil]); first | done | rfl | (simp only [List.length_drop, List.length_take]; rfl)) ?_
            with_reducible refine (hll_Add.calls k2 x295000_2 _ _ x295001_2 (rd l1 x13_2) t296 t297 t300 _ ?side1 ?side2 A41.out).mono ?_
            (case side1 => repeat (first | exact (Kd.R_reads' HO_295001.out).2.2 | (with_reducible refine Kd.C_alloc ?_ _) | (with_reducible refine Kd.C_drewN ?_ _) | (with_reducible refine Kd.C_drew ?_)))
            (case side2 => exact (Kd.R_reads' HO_295001.out).2.1)
            rintro e w44 ⟨v298, rfl, ho0, hb⟩
            refine ⟨_, rfl, ?_⟩
            have HO299 := am (Kd.R_lower (Kd.R_new' (Kd.R_new' (Kd.R_new' (Kd.R_new' ho0 (Kd.R_lt (ru (HO_282001.out)))) (Kd.R_lt (ru (HO_288001.out)))) (Kd.R_lt (ru (HO_294001.out)))) (Kd.R_lt (ru (HO_295001.out)))) (below_size (by repeat (first | (with_reducible first | exact HB.out | apply below_alloc | apply pw_below_drewN | apply below_drew1 | refine below_set ?_ (Aside0.out (by assumption))) | exact HB.out)))); replace HO_282001 := am (Kd.R_elder' (ru (HO_282001.out)) (Kd.R_base ho0) hb); replace HO_288001 := am (Kd.R_elder' (ru (HO_288001.out)) (Kd.R_base ho0) hb); replace HO_294001 := am (Kd.R_elder' (ru (HO_294001.out)) (Kd.R_base ho0) hb); replace HO_295001 := am (Kd.R_elder' (ru (HO_295001.out)) (Kd.R_base ho0) hb); replace BK281 := bb BK281 hb; replace BK287 := bb BK287 hb; replace BK293 := bb BK293 hb; replace BK294 := bb BK294 hb; replace HB := am (below_step (by repeat (first | (with_reducible first | exact HB.out | apply below_alloc | apply pw_below_drewN | apply below_drew1 | refine below_set ?_ (Aside0.out (by assumption))) | exact HB.out)) hb)
            (try clear hb)
            (try clear hb2)
            (try clear hk)
            (try clear hi)
            (try clear ho0)
            obtain ⟨Ao46, co46, eo46⟩ := Kd.R_slice HO299.out
            (first | subst eo46 | (injection eo46 with f1_ f2_ f3_; have f4_ := f1_.symm; have f5_ := f3_.symm; clear f1_ f2_ f3_; subst f4_; subst f5_))
            refine hK.out _ _ ⟨(blk_cell BK294.out 0).trans rfl, (blk_cell BK294.out 1).trans rfl, ((HB.out.cell (World.block_lt_of_cell? w _ hw295_0)).trans hw295_0)⟩ (fun hHeld => ?_)
            clear hK K
            refine norm_ (a' := ?_) ?_ ?_
            rotate_left
            ·
             show Act.put _ (some 73) _ = _
             simp only [Act.put, List.setIfInBounds_toArray, List.set_cons_zero, List.set_cons_succ, i64_w, i32_w]
             rfl
            refine pu 6 (some 67) (v := ?_) (a' := ?_) (tb 7 10) rfl rfl (any_of HT_.out (by kernel_rfl)) (fun _ _ _ h => h) ⟨by rfl, ?_⟩ ?_ ?_; rotate_left; · (intro w'; go_simp; with_reducible rfl)
            rotate_left; · (simp only [Act.put, sa_, sb_, sc_, i64_w, i32_w]; rfl)
            refine pu 7 (some 74) (v := ?_) (a' := ?_) (tb 8 10) rfl rfl (any_of HT_.out (by kernel_rfl)) (fun _ _ _ h => h) ⟨by rfl, ?_⟩ ?_ ?_; rotate_left; · (intro w'; go_simp; with_reducible rfl)
            rotate_left; · (simp only [Act.put, sa_, sb_, sc_, i64_w, i32_w]; rfl)
            refine pu 8 (some 75) (v := ?_) (a' := ?_) (tb 9 10) rfl rfl (any_of HT_.out (by kernel_rfl)) (fun _ _ _ h => h) ⟨by rfl, ?_⟩ ?_ ?_; rotate_left; · (intro w'; go_simp; with_reducible rfl)
            rotate_left; · (simp only [Act.put, sa_, sb_, sc_, i64_w, i32_w]; rfl)
            refine last_ (i := 9) (N := none) (tb 10 10) rfl rfl (one_of HT_.out (by kernel_rfl)) (by decide) (fun K hK => ?_)
            have hs45 : w44.cell? ⟨gb294, 0, none⟩ = some (.int .i64 x295000_2) := (blk_cell BK294.out 0).trans rfl
            have hfs45 := blk_frozen BK294.out 0; have hns45_0 := NB281_294.out; have hns45_1 := NB287_294.out; have hns45_2 := NB293_294.out; have hms45_0 := NB294_281.out; have hms45_1 := NB294_287.out; have hms45_2 := NB294_293.out
            have hs47 : w44.cell? ⟨gb294, 1, none⟩ = some (.slice Ao43 x295001_2.length co43) := (blk_cell BK294.out 1).trans rfl
            have hfs47 := blk_frozen BK294.out 1; have hns47_0 := NB281_294.out; have hns47_1 := NB287_294.out; have hns47_2 := NB293_294.out; have hms47_0 := NB294_281.out; have hms47_1 := NB294_287.out; have hms47_2 := NB294_293.out
            refine skip_ (w1 := ?_) (by rfl) rfl ?_ ?_
            rotate_left
            ·
             go_simp
             rfl
            refine hK.out _ _ ?_
            clear hK K
            refine done_ (done_of HT_.out (by kernel_rfl)) ?_
            try go_wp2
            go_roundg k2
            case measure => have := HJ5.out; have := HK2.out; omega
            case rel => exact ⟨(wrap64 (x13_2 + 1)), (t296), (t297), (.slice Ao46 t297.length co46), (by first | rfl | (simp; done) | (simp [*]; done)), H', ⟨by have := HJ5.out; have := HK2.out; omega⟩, ⟨Kd.R_mono (rf HO_282001.out BK294.out (by decide)) (fun _ hk => ⟨hk.1.1, hk.1.2⟩)⟩, ⟨Kd.R_mono (rf HO_288001.out BK294.out (by decide)) (fun _ hk => ⟨hk.1.1, ⟨hk.1.2.1, hk.2⟩⟩)⟩, ⟨Kd.R_mono (rf HO_294001.out BK294.out (by decide)) (fun _ hk => ⟨hk.1.1, ⟨hk.1.2.1, hk.2⟩⟩)⟩, ⟨Kd.R_mono (rf HO299.out BK294.out (by decide)) (fun _ hk => ⟨hk.1.1.2, hk.1.2⟩)⟩, ⟨bf NB281_294.out BK281.out⟩, ⟨bf NB287_294.out BK287.out⟩, ⟨bf NB293_294.out BK293.out⟩, ⟨by (with_reducible repeat (first | refine blk_drewN ?_ _ | refine blk_drew ?_ | refine blk_alloc ?_ _)); refine blk_put (cs := #[.int .i64 t296, .slice Ao43 x295001_2.length co43]) ?_ 1 _ rfl; (with_reducible repeat (first | refine blk_drewN ?_ _ | refine blk_drew ?_ | refine blk_alloc ?_ _)); refine blk_put (cs := #[.int .i64 x295000_2, .slice Ao43 x295001_2.length co43]) ?_ 0 _ rfl; (with_reducible repeat (first | refine blk_drewN ?_ _ | refine blk_drew ?_ | refine blk_alloc ?_ _)); exact BK294.out⟩, ⟨by repeat (first | (with_reducible first | exact HB.out | apply below_alloc | apply pw_below_drewN | apply below_drew1 | refine below_set ?_ (Aside0.out (by assumption))) | exact HB.out)⟩⟩
           ·
            rw [if_neg c40] at H
            exact absurd H (by simp)
          ·
           rw [if_neg c39] at H
           have c39b0 : decide (x13_2 < 60) = false := decide_eq_false c39
           clear c39
           have H' := Aside0.mk H
           clear H
           go_wp2
           go_meet
           case rel => exact ⟨_, (x295000_2), (x295001_2), (u295001), H', ⟨by have := HJ5.out; have := HK2.out; first | omega | exact Nat.le_refl _⟩, ⟨ru HO_282001.out⟩, ⟨ru HO_288001.out⟩, ⟨ru HO_294001.out⟩, ⟨ru HO_295001.out⟩, ⟨bu BK281.out⟩, ⟨bu BK287.out⟩, ⟨bu BK293.out⟩, ⟨bu BK294.out⟩, ⟨by repeat (first | (with_reducible first | exact HB.out | apply below_alloc | apply pw_below_drewN | apply below_drew1 | refine below_set ?_ (Aside0.out (by assumption))) | exact HB.out)⟩⟩
         ·
          rw [if_neg c38] at H
          have c38b0 : decide (x13_2 < (l1.length : Int)) = false := decide_eq_false c38
          clear c38
          (first | rw [c38b0] | (simp only [i64_w, i32_w]; rw [c38b0]) | skip)
          have H' := Aside0.mk H
          clear H
          go_wp2
          go_meet
          case rel => exact ⟨_, (x295000_2), (x295001_2), (u295001), H', ⟨by have := HJ5.out; have := HK2.out; first | omega | exact Nat.le_refl _⟩, ⟨ru HO_282001.out⟩, ⟨ru HO_288001.out⟩, ⟨ru HO_294001.out⟩, ⟨ru HO_295001.out⟩, ⟨bu BK281.out⟩, ⟨bu BK287.out⟩, ⟨bu BK293.out⟩, ⟨bu BK294.out⟩, ⟨by repeat (first | (with_reducible first | exact HB.out | apply below_alloc | apply pw_below_drewN | apply below_drew1 | refine below_set ?_ (Aside0.out (by assumption))) | exact HB.out)⟩⟩
      case rest =>
       clear HC15
       try clear c1; try clear c2; try clear p2; try clear q2; try clear hx2; try clear c3; try clear c4; try clear c5; try clear p6; try clear c7; try clear c8; try clear c8b0; try clear c8b1; try clear c9; try clear c12; try clear c12b0; try clear c12b1; try clear c17; try clear c22; try clear c23; try clear c24; try clear c25; try clear c28; try clear c29; try clear p29; try clear q29; try clear hx29; try clear c34; try clear c35; try clear c36; try clear c38; try clear c38b0; try clear c39; try clear c39b0; try clear c40; try clear c40b0; try clear hcz18_0; try clear hcz18_1; try clear hcz23_0; try clear hcz23_1; try clear hcz25_0; try clear hcz25_1; try clear hcz30_0; try clear hcz30_1; try clear hcz32_0; try clear hcz32_1; try clear hcz37_0; try clear hcz37_1; try clear hfz18_0; try clear hfz18_1; try clear hfz23_0; try clear hfz23_1; try clear hfz25_0; try clear hfz25_1; try clear hfz30_0; try clear hfz30_1; try clear hfz32_0; try clear hfz32_1; try clear hfz37_0; try clear hfz37_1; try clear hx295_0; try clear p2; try clear p295; try clear p6; try clear q295
       obtain ⟨kq, x295000_14, x295001_14, u295001, HA, HJ14, HO_282001, HO_288001, HO_294001, HO_295001, BK281, BK287, BK293, BK294, HB⟩ := hcut
       cases kq with
       | zero => exact absurd HA.out (by simp [tallymanlaw14_HllSets.j2])
       | succ kj14 =>
        have H := HA.out
        clear HA
        simp only [tallymanlaw14_HllSets.j2] at H
        replace H := Option.bind_eq_some_iff.mp H
        obtain ⟨t301, A480, H⟩ := H
        replace H : ((hll_AddAll.f kj14 t276 t277 t301).bind fun bt304 => ((hll_AddAll.f kj14 t282 t283 l2).bind fun bt310 => ((hll_Merge.f kj14 t282 t283 t288 t289).bind fun bt316 => ((hll_Merge.f kj14 t288 t289 t282 t283).bind fun bt322 => ((hll_Merge.f kj14 t282 t283 t282 t283).bind fun bt328 => (if t286 = 0 then (if t292 = 0 then (if bt304.2.2 = 0 then (if bt310.2.2 = 0 then (if bt316.2.2 = 0 then (if bt322.2.2 = 0 then (tallymanlaw14_HllSets.j3 kj14 (wrap64 (4 + t275)) l1 (bt328.2.2 != 0) t282 t283 x295000_14 x295001_14 bt304.1 bt304.2.1 bt310.1 bt310.2.1 bt316.1 bt316.2.1 bt322.1 bt322.2.1 bt328.1 bt328.2.1) else (tallymanlaw14_HllSets.j3 kj14 (wrap64 (4 + t275)) l1 true t282 t283 x295000_14 x295001_14 bt304.1 bt304.2.1 bt310.1 bt310.2.1 bt316.1 bt316.2.1 bt322.1 bt322.2.1 bt328.1 bt328.2.1)) else (tallymanlaw14_HllSets.j3 kj14 (wrap64 (4 + t275)) l1 true t282 t283 x295000_14 x295001_14 bt304.1 bt304.2.1 bt310.1 bt310.2.1 bt316.1 bt316.2.1 bt322.1 bt322.2.1 bt328.1 bt328.2.1)) else (tallymanlaw14_HllSets.j3 kj14 (wrap64 (4 + t275)) l1 true t282 t283 x295000_14 x295001_14 bt304.1 bt304.2.1 bt310.1 bt310.2.1 bt316.1 bt316.2.1 bt322.1 bt322.2.1 bt328.1 bt328.2.1)) else (tallymanlaw14_HllSets.j3 kj14 (wrap64 (4 + t275)) l1 true t282 t283 x295000_14 x295001_14 bt304.1 bt304.2.1 bt310.1 bt310.2.1 bt316.1 bt316.2.1 bt322.1 bt322.2.1 bt328.1 bt328.2.1)) else (tallymanlaw14_HllSets.j3 kj14 (wrap64 (4 + t275)) l1 true t282 t283 x295000_14 x295001_14 bt304.1 bt304.2.1 bt310.1 bt310.2.1 bt316.1 bt316.2.1 bt322.1 bt322.2.1 bt328.1 bt328.2.1)) else (tallymanlaw14_HllSets.j3 kj14 (wrap64 (4 + t275)) l1 true t282 t283 x295000_14 x295001_14 bt304.1 bt304.2.1 bt310.1 bt310.2.1 bt316.1 bt316.2.1 bt322.1 bt322.2.1 bt328.1 bt328.2.1))))))) = some r := H
        have A48 := Aside0.mk A480
        clear A480
        replace H := Option.bind_eq_some_iff.mp H
        obtain ⟨⟨t304, t305, t308⟩, A490, H⟩ := H
        replace H : ((hll_AddAll.f kj14 t282 t283 l2).bind fun bt310 => ((hll_Merge.f kj14 t282 t283 t288 t289).bind fun bt316 => ((hll_Merge.f kj14 t288 t289 t282 t283).bind fun bt322 => ((hll_Merge.f kj14 t282 t283 t282 t283).bind fun bt328 => (if t286 = 0 then (if t292 = 0 then (if t308 = 0 then (if bt310.2.2 = 0 then (if bt316.2.2 = 0 then (if bt322.2.2 = 0 then (tallymanlaw14_HllSets.j3 kj14 (wrap64 (4 + t275)) l1 (bt328.2.2 != 0) t282 t283 x295000_14 x295001_14 t304 t305 bt310.1 bt310.2.1 bt316.1 bt316.2.1 bt322.1 bt322.2.1 bt328.1 bt328.2.1) else (tallymanlaw14_HllSets.j3 kj14 (wrap64 (4 + t275)) l1 true t282 t283 x295000_14 x295001_14 t304 t305 bt310.1 bt310.2.1 bt316.1 bt316.2.1 bt322.1 bt322.2.1 bt328.1 bt328.2.1)) else (tallymanlaw14_HllSets.j3 kj14 (wrap64 (4 + t275)) l1 true t282 t283 x295000_14 x295001_14 t304 t305 bt310.1 bt310.2.1 bt316.1 bt316.2.1 bt322.1 bt322.2.1 bt328.1 bt328.2.1)) else (tallymanlaw14_HllSets.j3 kj14 (wrap64 (4 + t275)) l1 true t282 t283 x295000_14 x295001_14 t304 t305 bt310.1 bt310.2.1 bt316.1 bt316.2.1 bt322.1 bt322.2.1 bt328.1 bt328.2.1)) else (tallymanlaw14_HllSets.j3 kj14 (wrap64 (4 + t275)) l1 true t282 t283 x295000_14 x295001_14 t304 t305 bt310.1 bt310.2.1 bt316.1 bt316.2.1 bt322.1 bt322.2.1 bt328.1 bt328.2.1)) else (tallymanlaw14_HllSets.j3 kj14 (wrap64 (4 + t275)) l1 true t282 t283 x295000_14 x295001_14 t304 t305 bt310.1 bt310.2.1 bt316.1 bt316.2.1 bt322.1 bt322.2.1 bt328.1 bt328.2.1)) else (tallymanlaw14_HllSets.j3 kj14 (wrap64 (4 + t275)) l1 true t282 t283 x295000_14 x295001_14 t304 t305 bt310.1 bt310.2.1 bt316.1 bt316.2.1 bt322.1 bt322.2.1 bt328.1 bt328.2.1)))))) = some r := H
        have A49 := Aside0.mk A490
        clear A490
        replace H := Option.bind_eq_some_iff.mp H
        obtain ⟨⟨t310, t311, t314⟩, A500, H⟩ := H
        replace H : ((hll_Merge.f kj14 t282 t283 t288 t289).bind fun bt316 => ((hll_Merge.f kj14 t288 t289 t282 t283).bind fun bt322 => ((hll_Merge.f kj14 t282 t283 t282 t283).bind fun bt328 => (if t286 = 0 then (if t292 = 0 then (if t308 = 0 then (if t314 = 0 then (if bt316.2.2 = 0 then (if bt322.2.2 = 0 then (tallymanlaw14_HllSets.j3 kj14 (wrap64 (4 + t275)) l1 (bt328.2.2 != 0) t282 t283 x295000_14 x295001_14 t304 t305 t310 t311 bt316.1 bt316.2.1 bt322.1 bt322.2.1 bt328.1 bt328.2.1) else (tallymanlaw14_HllSets.j3 kj14 (wrap64 (4 + t275)) l1 true t282 t283 x295000_14 x295001_14 t304 t305 t310 t311 bt316.1 bt316.2.1 bt322.1 bt322.2.1 bt328.1 bt328.2.1)) else (tallymanlaw14_HllSets.j3 kj14 (wrap64 (4 + t275)) l1 true t282 t283 x295000_14 x295001_14 t304 t305 t310 t311 bt316.1 bt316.2.1 bt322.1 bt322.2.1 bt328.1 bt328.2.1)) else (tallymanlaw14_HllSets.j3 kj14 (wrap64 (4 + t275)) l1 true t282 t283 x295000_14 x295001_14 t304 t305 t310 t311 bt316.1 bt316.2.1 bt322.1 bt322.2.1 bt328.1 bt328.2.1)) else (tallymanlaw14_HllSets.j3 kj14 (wrap64 (4 + t275)) l1 true t282 t283 x295000_14 x295001_14 t304 t305 t310 t311 bt316.1 bt316.2.1 bt322.1 bt322.2.1 bt328.1 bt328.2.1)) else (tallymanlaw14_HllSets.j3 kj14 (wrap64 (4 + t275)) l1 true t282 t283 x295000_14 x295001_14 t304 t305 t310 t311 bt316.1 bt316.2.1 bt322.1 bt322.2.1 bt328.1 bt328.2.1)) else (tallymanlaw14_HllSets.j3 kj14 (wrap64 (4 + t275)) l1 true t282 t283 x295000_14 x295001_14 t304 t305 t310 t311 bt316.1 bt316.2.1 bt322.1 bt322.2.1 bt328.1 bt328.2.1))))) = some r := H
        have A50 := Aside0.mk A500
        clear A500
        replace H := Option.bind_eq_some_iff.mp H
        obtain ⟨⟨t316, t317, t320⟩, A510, H⟩ := H
        replace H : ((hll_Merge.f kj14 t288 t289 t282 t283).bind fun bt322 => ((hll_Merge.f kj14 t282 t283 t282 t283).bind fun bt328 => (if t286 = 0 then (if t292 = 0 then (if t308 = 0 then (if t314 = 0 then (if t320 = 0 then (if bt322.2.2 = 0 then (tallymanlaw14_HllSets.j3 kj14 (wrap64 (4 + t275)) l1 (bt328.2.2 != 0) t282 t283 x295000_14 x295001_14 t304 t305 t310 t311 t316 t317 bt322.1 bt322.2.1 bt328.1 bt328.2.1) else (tallymanlaw14_HllSets.j3 kj14 (wrap64 (4 + t275)) l1 true t282 t283 x295000_14 x295001_14 t304 t305 t310 t311 t316 t317 bt322.1 bt322.2.1 bt328.1 bt328.2.1)) else (tallymanlaw14_HllSets.j3 kj14 (wrap64 (4 + t275)) l1 true t282 t283 x295000_14 x295001_14 t304 t305 t310 t311 t316 t317 bt322.1 bt322.2.1 bt328.1 bt328.2.1)) else (tallymanlaw14_HllSets.j3 kj14 (wrap64 (4 + t275)) l1 true t282 t283 x295000_14 x295001_14 t304 t305 t310 t311 t316 t317 bt322.1 bt322.2.1 bt328.1 bt328.2.1)) else (tallymanlaw14_HllSets.j3 kj14 (wrap64 (4 + t275)) l1 true t282 t283 x295000_14 x295001_14 t304 t305 t310 t311 t316 t317 bt322.1 bt322.2.1 bt328.1 bt328.2.1)) else (tallymanlaw14_HllSets.j3 kj14 (wrap64 (4 + t275)) l1 true t282 t283 x295000_14 x295001_14 t304 t305 t310 t311 t316 t317 bt322.1 bt322.2.1 bt328.1 bt328.2.1)) else (tallymanlaw14_HllSets.j3 kj14 (wrap64 (4 + t275)) l1 true t282 t283 x295000_14 x295001_14 t304 t305 t310 t311 t316 t317 bt322.1 bt322.2.1 bt328.1 bt328.2.1)))) = some r := H
        have A51 := Aside0.mk A510
        clear A510
        replace H := Option.bind_eq_some_iff.mp H
        obtain ⟨⟨t322, t323, t326⟩, A520, H⟩ := H
        replace H : ((hll_Merge.f kj14 t282 t283 t282 t283).bind fun bt328 => (if t286 = 0 then (if t292 = 0 then (if t308 = 0 then (if t314 = 0 then (if t320 = 0 then (if t326 = 0 then (tallymanlaw14_HllSets.j3 kj14 (wrap64 (4 + t275)) l1 (bt328.2.2 != 0) t282 t283 x295000_14 x295001_14 t304 t305 t310 t311 t316 t317 t322 t323 bt328.1 bt328.2.1) else (tallymanlaw14_HllSets.j3 kj14 (wrap64 (4 + t275)) l1 true t282 t283 x295000_14 x295001_14 t304 t305 t310 t311 t316 t317 t322 t323 bt328.1 bt328.2.1)) else (tallymanlaw14_HllSets.j3 kj14 (wrap64 (4 + t275)) l1 true t282 t283 x295000_14 x295001_14 t304 t305 t310 t311 t316 t317 t322 t323 bt328.1 bt328.2.1)) else (tallymanlaw14_HllSets.j3 kj14 (wrap64 (4 + t275)) l1 true t282 t283 x295000_14 x295001_14 t304 t305 t310 t311 t316 t317 t322 t323 bt328.1 bt328.2.1)) else (tallymanlaw14_HllSets.j3 kj14 (wrap64 (4 + t275)) l1 true t282 t283 x295000_14 x295001_14 t304 t305 t310 t311 t316 t317 t322 t323 bt328.1 bt328.2.1)) else (tallymanlaw14_HllSets.j3 kj14 (wrap64 (4 + t275)) l1 true t282 t283 x295000_14 x295001_14 t304 t305 t310 t311 t316 t317 t322 t323 bt328.1 bt328.2.1)) else (tallymanlaw14_HllSets.j3 kj14 (wrap64 (4 + t275)) l1 true t282 t283 x295000_14 x295001_14 t304 t305 t310 t311 t316 t317 t322 t323 bt328.1 bt328.2.1))) = some r := H
        have A52 := Aside0.mk A520
        clear A520
        replace H := Option.bind_eq_some_iff.mp H
        obtain ⟨⟨t328, t329, t332⟩, A530, H⟩ := H
        replace H : (if t286 = 0 then (if t292 = 0 then (if t308 = 0 then (if t314 = 0 then (if t320 = 0 then (if t326 = 0 then (tallymanlaw14_HllSets.j3 kj14 (wrap64 (4 + t275)) l1 (t332 != 0) t282 t283 x295000_14 x295001_14 t304 t305 t310 t311 t316 t317 t322 t323 t328 t329) else (tallymanlaw14_HllSets.j3 kj14 (wrap64 (4 + t275)) l1 true t282 t283 x295000_14 x295001_14 t304 t305 t310 t311 t316 t317 t322 t323 t328 t329)) else (tallymanlaw14_HllSets.j3 kj14 (wrap64 (4 + t275)) l1 true t282 t283 x295000_14 x295001_14 t304 t305 t310 t311 t316 t317 t322 t323 t328 t329)) else (tallymanlaw14_HllSets.j3 kj14 (wrap64 (4 + t275)) l1 true t282 t283 x295000_14 x295001_14 t304 t305 t310 t311 t316 t317 t322 t323 t328 t329)) else (tallymanlaw14_HllSets.j3 kj14 (wrap64 (4 + t275)) l1 true t282 t283 x295000_14 x295001_14 t304 t305 t310 t311 t316 t317 t322 t323 t328 t329)) else (tallymanlaw14_HllSets.j3 kj14 (wrap64 (4 + t275)) l1 true t282 t283 x295000_14 x295001_14 t304 t305 t310 t311 t316 t317 t322 t323 t328 t329)) else (tallymanlaw14_HllSets.j3 kj14 (wrap64 (4 + t275)) l1 true t282 t283 x295000_14 x295001_14 t304 t305 t310 t311 t316 t317 t322 t323 t328 t329)) = some r := H
        have A53 := Aside0.mk A530
        clear A530
        have HC54 := Aside0.mk H
        clear H
        try go_wp2
        replace HO_282001 := am (Kd.R_drew HO_282001.out); replace HO_288001 := am (Kd.R_drew HO_288001.out); replace HO_294001 := am (Kd.R_drew HO_294001.out); replace HO_295001 := am (Kd.R_drew HO_295001.out); replace BK281 := am (blk_drew BK281.out); replace BK287 := am (blk_drew BK287.out); replace BK293 := am (blk_drew BK293.out); replace BK294 := am (blk_drew BK294.out); replace HB := am (below_drew1 HB.out)
        refine start_ (n := 10) (S := fun w' => w'.cell? ⟨gb281, 0, none⟩ = some (.int .i64 t276) ∧ w'.cell? ⟨gb281, 1, none⟩ = some (.slice Ao19 t277.length co19)) (ds := []) (tb 0 10) (by kernel_rfl) rfl rfl ⟨(blk_cell BK281.out 0).trans rfl, (blk_cell BK281.out 1).trans rfl⟩ (fun hHeld => ?_); refine with_tabW tallymanlaw14_HllSets.tab16 tallymanlaw14_HllSets.bits16 (fun HT_ HW_ => ?_)
        generalize wc.drew = w55 at HO_282001 HO_288001 HO_294001 HO_295001 BK281 BK287 BK293 BK294 HB hHeld ⊢
        refine pu 1 (some 78) (v := ?_) (a' := ?_) #[false, true, false, false, false, false, false, false, false, false] rfl rfl (any_of HT_.out (by kernel_rfl)) (fun _ _ _ h => h) ⟨by rfl, ?_⟩ ?_ ?_; rotate_left; · (intro w'; go_simp; with_reducible rfl)
        rotate_left; · (simp only [Act.put, sa_, sb_, sc_, i64_w, i32_w]; rfl)
        refine tk 0 (some 77) (v := ?_) (a' := ?_) (tb 2 10) rfl rfl (take_ofW HT_.out HW_.out (by kernel_rfl)) (fun _ _ _ h => h) ⟨by rfl, ?_⟩ hHeld ?_ ?_; rotate_left; · (rintro w' ⟨s0, s1⟩; go_simp; with_reducible rfl)
        rotate_left; · (simp only [Act.put, sa_, sb_, sc_, i64_w, i32_w]; rfl)
        refine join_ (σ := Value × Value × Nat) 2 (tb 8 10) (fun s_ => [(79, s_.1), (80, .tuple #[.agg #[.int .i64 t304, s_.2.1], .int .i64 t308]), (14, .pointer (some ⟨s_.2.2, 0, none⟩)), (76, .tuple #[.agg #[.int .i64 t304, s_.2.1], .int .i64 t308]), (81, .agg #[.int .i64 t304, s_.2.1]), (82, .int .i64 t308)]) (fun s_ w' => (w'.cell? ⟨gb281, 0, none⟩ = some (.int .i64 t276) ∧ w'.cell? ⟨gb281, 1, none⟩ = some (.slice Ao19 t277.length co19)) ∧ (Kd.R (Kd.int .u64) 22 w' w.heap.size (fun _ => True) s_.1 t301) ∧ (Kd.R k32 32 w' w.heap.size (fun k_ => nb Ao19 t277.length co19 k_ ∧ nb Ao24 t283.length co24 k_ ∧ nb Ao31 t289.length co31 k_ ∧ some k_ ≠ (u295001 : Value).ownBlock) s_.2.1 t305) ∧ (Kd.R k32 32 w' w.heap.size (fun k_ => some k_ ≠ (s_.2.1 : Value).ownBlock ∧ nb Ao24 t283.length co24 k_ ∧ nb Ao31 t289.length co31 k_) (.slice Ao19 t277.length co19) t277) ∧ (Kd.R k32 32 w' w.heap.size (fun k_ => some k_ ≠ (s_.2.1 : Value).ownBlock ∧ nb Ao19 t277.length co19 k_ ∧ nb Ao31 t289.length co31 k_ ∧ some k_ ≠ (u295001 : Value).ownBlock) (.slice Ao24 t283.length co24) t283) ∧ (Kd.R k32 32 w' w.heap.size (fun k_ => some k_ ≠ (s_.2.1 : Value).ownBlock ∧ nb Ao19 t277.length co19 k_ ∧ nb Ao24 t283.length co24 k_ ∧ some k_ ≠ (u295001 : Value).ownBlock) (.slice Ao31 t289.length co31) t289) ∧ (Kd.R k32 32 w' w.heap.size (fun k_ => some k_ ≠ (s_.2.1 : Value).ownBlock ∧ nb Ao24 t283.length co24 k_ ∧ nb Ao31 t289.length co31 k_) u295001 x295001_14) ∧ (w'.heap[gb281]? = some (.cells #[.int .i64 t276, .slice Ao19 t277.length co19] 30 (0, 0))) ∧ (w'.heap[gb287]? = some (.cells #[.int .i64 t282, .slice Ao24 t283.length co24] 30 (0, 0))) ∧ (w'.heap[gb293]? = some (.cells #[.int .i64 t288, .slice Ao31 t289.length co31] 30 (0, 0))) ∧ (w'.heap[gb294]? = some (.cells #[.int .i64 x295000_14, u295001] 30 (0, 0))) ∧ (w'.heap[s_.2.2]? = some (.cells #[.int .i64 0, .slice none 0 0] 30 (0, 0))) ∧ (w.heap.size ≤ s_.2.2) ∧ (w.heap.size ≤ s_.2.2) ∧ (gb281 ≠ s_.2.2) ∧ (s_.2.2 ≠ gb281) ∧ (gb287 ≠ s_.2.2) ∧ (s_.2.2 ≠ gb287) ∧ (gb293 ≠ s_.2.2) ∧ (s_.2.2 ≠ gb293) ∧ (gb294 ≠ s_.2.2) ∧ (s_.2.2 ≠ gb294) ∧ (Below w.heap.size w w')) ?_ ?_
        rotate_left
        ·
         intro hCont
         refine two_ (i := 2) (j := 7) (Ni := some 79) (Nj := some 14) (tb 3 10) #[true, true, false, false, false, false, false, true, false, false] rfl rfl rfl rfl (two_of HT_.out (by kernel_rfl)) (by decide) (by decide) (fun K hK => ?_) (fun K hK => ?_)
         ·
          skip
          refine goes_ Try.func31 (by kernel_rfl) rfl #[.slice A1 l1.length c1] (by rfl) rfl rfl (by (try simp only [List.map_toArray, List.map_cons, List.map_nil]); first | done | rfl | (simp only [List.length_drop, List.length_take]; rfl)) ?_
          with_reducible refine (tallymanlaw14_turned.calls kj14 _ _ l1 t301 _ ?side1 ?side2 A48.out).mono ?_
          (case side1 => exact cu (Kd.C_below HR1.out HB.out))
          (case side2 => exact HC1.out)
          rintro e w56 ⟨v302, rfl, ho0, hb⟩
          refine ⟨_, rfl, ?_⟩
          have HO303 := am (Kd.R_lower ho0 (below_size (by repeat (first | (with_reducible first | exact HB.out | apply below_alloc | apply pw_below_drewN | apply below_drew1 | refine below_set ?_ (Aside0.out (by assumption))) | exact HB.out)))); replace HO_282001 := rb HO_282001 hb; replace HO_288001 := rb HO_288001 hb; replace HO_294001 := rb HO_294001 hb; replace HO_295001 := rb HO_295001 hb; replace BK281 := bb BK281 hb; replace BK287 := bb BK287 hb; replace BK293 := bb BK293 hb; replace BK294 := bb BK294 hb; replace HB := am (below_step (by repeat (first | (with_reducible first | exact HB.out | apply below_alloc | apply pw_below_drewN | apply below_drew1 | refine below_set ?_ (Aside0.out (by assumption))) | exact HB.out)) hb)
          (try clear hb)
          (try clear hb2)
          (try clear hk)
          (try clear hi)
          (try clear ho0)
          obtain ⟨Ao57, co57, eo57⟩ := Kd.R_slice HO303.out
          (first | subst eo57 | (injection eo57 with f1_ f2_ f3_; have f4_ := f1_.symm; have f5_ := f3_.symm; clear f1_ f2_ f3_; subst f4_; subst f5_))
          refine hK.out _ _ ⟨(blk_cell BK281.out 0).trans rfl, (blk_cell BK281.out 1).trans rfl⟩ (fun hHeld => ?_)
          clear hK K
          refine norm_ (a' := ?_) ?_ ?_
          rotate_left
          ·
           show Act.put _ (some 79) _ = _
           simp only [Act.put, List.setIfInBounds_toArray, List.set_cons_zero, List.set_cons_succ, i64_w, i32_w]
           rfl
          refine two_ (i := 3) (j := 7) (Ni := some 80) (Nj := some 14) (tb 4 10) #[true, true, true, false, false, false, false, true, false, false] rfl rfl rfl rfl (two_of HT_.out (by kernel_rfl)) (by decide) (by decide) (fun K hK => ?_) (fun K hK => ?_)
          ·
           skip
           refine goes_ Try.func25 (by kernel_rfl) rfl #[.agg #[.int .i64 t276, .slice Ao19 t277.length co19], .slice Ao57 t301.length co57] (by rfl) rfl rfl (by (try simp only [List.map_toArray, List.map_cons, List.map_nil]); first | done | rfl | (simp only [List.length_drop, List.length_take]; rfl)) ?_
           with_reducible refine (hll_AddAll.calls kj14 t276 _ _ t277 _ _ t301 t304 t305 t308 _ ?side1 ?side2 ?side3 ?side4 A49.out).mono ?_
           (case side1 => repeat (first | exact (Kd.R_reads' HO_282001.out).2.2 | (with_reducible refine Kd.C_alloc ?_ _) | (with_reducible refine Kd.C_drewN ?_ _) | (with_reducible refine Kd.C_drew ?_)))
           (case side2 => exact (Kd.R_reads' HO_282001.out).2.1)
           (case side3 => repeat (first | exact (Kd.R_reads' HO303.out).2.2 | (with_reducible refine Kd.C_alloc ?_ _) | (with_reducible refine Kd.C_drewN ?_ _) | (with_reducible refine Kd.C_drew ?_)))
           (case side4 => exact (Kd.R_reads' HO303.out).2.1)
           rintro e w58 ⟨v306, rfl, ho0, hb⟩
           refine ⟨_, rfl, ?_⟩
           have HO307 := am (Kd.R_lower (Kd.R_new' (Kd.R_new' (Kd.R_new' (Kd.R_new' ho0 (Kd.R_lt (ru (HO_282001.out)))) (Kd.R_lt (ru (HO_288001.out)))) (Kd.R_lt (ru (HO_294001.out)))) (Kd.R_lt (ru (HO_295001.out)))) (below_size (by repeat (first | (with_reducible first | exact HB.out | apply below_alloc | apply pw_below_drewN | apply below_drew1 | refine below_set ?_ (Aside0.out (by assumption))) | exact HB.out)))); replace HO_282001 := am (Kd.R_elder' (ru (HO_282001.out)) (Kd.R_base ho0) hb); replace HO_288001 := am (Kd.R_elder' (ru (HO_288001.out)) (Kd.R_base ho0) hb); replace HO_294001 := am (Kd.R_elder' (ru (HO_294001.out)) (Kd.R_base ho0) hb); replace HO_295001 := am (Kd.R_elder' (ru (HO_295001.out)) (Kd.R_base ho0) hb); replace HO303 := rb HO303 hb; replace BK281 := bb BK281 hb; replace BK287 := bb BK287 hb; replace BK293 := bb BK293 hb; replace BK294 := bb BK294 hb; replace HB := am (below_step (by repeat (first | (with_reducible first | exact HB.out | apply below_alloc | apply pw_below_drewN | apply below_drew1 | refine below_set ?_ (Aside0.out (by assumption))) | exact HB.out)) hb)
           (try clear hb)
           (try clear hb2)
           (try clear hk)
           (try clear hi)
           (try clear ho0)
           refine hK.out _ _ ⟨(blk_cell BK281.out 0).trans rfl, (blk_cell BK281.out 1).trans rfl⟩ (fun hHeld => ?_)
           clear hK K
           refine norm_ (a' := ?_) ?_ ?_
           rotate_left
           ·
            show Act.put _ (some 80) _ = _
            simp only [Act.put, List.setIfInBounds_toArray, List.set_cons_zero, List.set_cons_succ, i64_w, i32_w]
            rfl
           refine pu 4 (some 76) (v := ?_) (a' := ?_) (tb 5 10) rfl rfl (any_of HT_.out (by kernel_rfl)) (fun _ _ _ h => h) ⟨by rfl, ?_⟩ ?_ ?_; rotate_left; · (intro w'; go_simp; with_reducible rfl)
           rotate_left; · (simp only [Act.put, sa_, sb_, sc_, i64_w, i32_w]; rfl)
           refine pu 5 (some 81) (v := ?_) (a' := ?_) (tb 6 10) rfl rfl (any_of HT_.out (by kernel_rfl)) (fun _ _ _ h => h) ⟨by rfl, ?_⟩ ?_ ?_; rotate_left; · (intro w'; go_simp; with_reducible rfl)
           rotate_left; · (simp only [Act.put, sa_, sb_, sc_, i64_w, i32_w]; rfl)
           refine pu 6 (some 82) (v := ?_) (a' := ?_) (tb 7 10) rfl rfl (any_of HT_.out (by kernel_rfl)) (fun _ _ _ h => h) ⟨by rfl, ?_⟩ ?_ ?_; rotate_left; · (intro w'; go_simp; with_reducible rfl)
           rotate_left; · (simp only [Act.put, sa_, sb_, sc_, i64_w, i32_w]; rfl)
           refine one_ (i := 7) (N := some 14) (tb 8 10) rfl rfl (one_of HT_.out (by kernel_rfl)) (by decide) (fun K hK => ?_)
           refine box_step ?hg (N := 14) ?hd (cs := #[.int .i64 0, .slice none 0 0]) (t := 30) ?hr ?_; (case hd => rfl); (case hg => rfl); (case hr => first | (go_simp; done) | (go_simp; rfl))
           intro gb309 hg w59 hbox hb
           obtain ⟨HBn, GW309⟩ := tri hg hb (by repeat (first | (with_reducible first | exact HB.out | apply below_alloc | apply pw_below_drewN | apply below_drew1 | refine below_set ?_ (Aside0.out (by assumption))) | exact HB.out)); have GE309 := GW309; have BK309 := am (hbox); have NB281_309 := nl hg (bu BK281.out); have NB309_281 := nr hg (bu BK281.out); have NB287_309 := nl hg (bu BK287.out); have NB309_287 := nr hg (bu BK287.out); have NB293_309 := nl hg (bu BK293.out); have NB309_293 := nr hg (bu BK293.out); have NB294_309 := nl hg (bu BK294.out); have NB309_294 := nr hg (bu BK294.out); replace HO_282001 := rb HO_282001 hb; replace HO_288001 := rb HO_288001 hb; replace HO_294001 := rb HO_294001 hb; replace HO_295001 := rb HO_295001 hb; replace HO303 := rb HO303 hb; replace HO307 := rb HO307 hb; replace BK281 := bb BK281 hb; replace BK287 := bb BK287 hb; replace BK293 := bb BK293 hb; replace BK294 := bb BK294 hb; clear HB; have HB := HBn; clear HBn
           clear hb hbox hg
           refine hK.out _ _ ⟨(blk_cell BK281.out 0).trans rfl, (blk_cell BK281.out 1).trans rfl⟩ (fun hHeld => ?_)
           clear hK K
           refine norm_ (a' := ?_) ?_ ?_
           rotate_left
           ·
            show Act.put _ (some 14) _ = _
            simp only [Act.put, List.setIfInBounds_toArray, List.set_cons_zero, List.set_cons_succ, i64_w, i32_w]
            rfl
           exact norm_ (by simp only [putAll, Act.put, List.setIfInBounds_toArray, List.set_cons_zero, List.set_cons_succ]) (hCont (.slice Ao57 t301.length co57, v306, gb309) _ ⟨hHeld, (ru (HO303.out)), (ru (Kd.R_mono HO307.out (fun _ hk => ⟨hk.1.1.1.2, ⟨hk.1.1.2, ⟨hk.1.2, hk.2⟩⟩⟩))), (ru (Kd.R_mono HO_282001.out (fun _ hk => ⟨hk.2, ⟨hk.1.1, hk.1.2⟩⟩))), (ru (Kd.R_mono HO_288001.out (fun _ hk => ⟨hk.2, ⟨hk.1.1, ⟨hk.1.2.1, hk.1.2.2⟩⟩⟩))), (ru (Kd.R_mono HO_294001.out (fun _ hk => ⟨hk.2, ⟨hk.1.1, ⟨hk.1.2.1, hk.1.2.2⟩⟩⟩))), (ru (Kd.R_mono HO_295001.out (fun _ hk => ⟨hk.2, ⟨hk.1.1, hk.1.2⟩⟩))), (bu BK281.out), (bu BK287.out), (bu BK293.out), (bu BK294.out), (bu BK309.out), GW309.out, GE309.out, NB281_309.out, NB309_281.out, NB287_309.out, NB309_287.out, NB293_309.out, NB309_293.out, NB294_309.out, NB309_294.out, (by repeat (first | (with_reducible first | exact HB.out | apply below_alloc | apply pw_below_drewN | apply below_drew1 | refine below_set ?_ (Aside0.out (by assumption))) | exact HB.out))⟩)
          ·
           skip
           refine box_step ?hg (N := 14) ?hd (cs := #[.int .i64 0, .slice none 0 0]) (t := 30) ?hr ?_; (case hd => rfl); (case hg => rfl); (case hr => first | (go_simp; done) | (go_simp; rfl))
           intro gb309 hg w57 hbox hb
           obtain ⟨HBn, GW309⟩ := tri hg hb (by repeat (first | (with_reducible first | exact HB.out | apply below_alloc | apply pw_below_drewN | apply below_drew1 | refine below_set ?_ (Aside0.out (by assumption))) | exact HB.out)); have GE309 := GW309; have BK309 := am (hbox); have NB281_309 := nl hg (bu BK281.out); have NB309_281 := nr hg (bu BK281.out); have NB287_309 := nl hg (bu BK287.out); have NB309_287 := nr hg (bu BK287.out); have NB293_309 := nl hg (bu BK293.out); have NB309_293 := nr hg (bu BK293.out); have NB294_309 := nl hg (bu BK294.out); have NB309_294 := nr hg (bu BK294.out); replace HO_282001 := rb HO_282001 hb; replace HO_288001 := rb HO_288001 hb; replace HO_294001 := rb HO_294001 hb; replace HO_295001 := rb HO_295001 hb; replace HO303 := rb HO303 hb; replace BK281 := bb BK281 hb; replace BK287 := bb BK287 hb; replace BK293 := bb BK293 hb; replace BK294 := bb BK294 hb; clear HB; have HB := HBn; clear HBn
           clear hb hbox hg
           obtain ⟨Ao58, co58, eo58⟩ := Kd.R_slice HO303.out
           (first | subst eo58 | (injection eo58 with f1_ f2_ f3_; have f4_ := f1_.symm; have f5_ := f3_.symm; clear f1_ f2_ f3_; subst f4_; subst f5_))
           refine hK.out _ _ ⟨(blk_cell BK281.out 0).trans rfl, (blk_cell BK281.out 1).trans rfl⟩ (fun hHeld => ?_)
           clear hK K
           refine norm_ (a' := ?_) ?_ ?_
           rotate_left
           ·
            show Act.put _ (some 14) _ = _
            simp only [Act.put, List.setIfInBounds_toArray, List.set_cons_zero, List.set_cons_succ, i64_w, i32_w]
            rfl
           refine one_ (i := 3) (N := some 80) #[true, true, true, true, false, false, false, true, false, false] rfl rfl (one_of HT_.out (by kernel_rfl)) (by decide) (fun K hK => ?_)
           refine goes_ Try.func25 (by kernel_rfl) rfl #[.agg #[.int .i64 t276, .slice Ao19 t277.length co19], .slice Ao58 t301.length co58] (by rfl) rfl rfl (by (try simp only [List.map_toArray, List.map_cons, List.map_nil]); first | done | rfl | (simp only [List.length_drop, List.length_take]; rfl)) ?_
           with_reducible refine (hll_AddAll.calls kj14 t276 _ _ t277 _ _ t301 t304 t305 t308 _ ?side1 ?side2 ?side3 ?side4 A49.out).mono ?_
           (case side1 => repeat (first | exact (Kd.R_reads' HO_282001.out).2.2 | (with_reducible refine Kd.C_alloc ?_ _) | (with_reducible refine Kd.C_drewN ?_ _) | (with_reducible refine Kd.C_drew ?_)))
           (case side2 => exact (Kd.R_reads' HO_282001.out).2.1)
           (case side3 => repeat (first | exact (Kd.R_reads' HO303.out).2.2 | (with_reducible refine Kd.C_alloc ?_ _) | (with_reducible refine Kd.C_drewN ?_ _) | (with_reducible refine Kd.C_drew ?_)))
           (case side4 => exact (Kd.R_reads' HO303.out).2.1)
           rintro e w59 ⟨v306, rfl, ho0, hb⟩
           refine ⟨_, rfl, ?_⟩
           have HO307 := am (Kd.R_lower (Kd.R_new' (Kd.R_new' (Kd.R_new' (Kd.R_new' ho0 (Kd.R_lt (ru (HO_282001.out)))) (Kd.R_lt (ru (HO_288001.out)))) (Kd.R_lt (ru (HO_294001.out)))) (Kd.R_lt (ru (HO_295001.out)))) (below_size (by repeat (first | (with_reducible first | exact HB.out | apply below_alloc | apply pw_below_drewN | apply below_drew1 | refine below_set ?_ (Aside0.out (by assumption))) | exact HB.out)))); replace HO_282001 := am (Kd.R_elder' (ru (HO_282001.out)) (Kd.R_base ho0) hb); replace HO_288001 := am (Kd.R_elder' (ru (HO_288001.out)) (Kd.R_base ho0) hb); replace HO_294001 := am (Kd.R_elder' (ru (HO_294001.out)) (Kd.R_base ho0) hb); replace HO_295001 := am (Kd.R_elder' (ru (HO_295001.out)) (Kd.R_base ho0) hb); replace HO303 := rb HO303 hb; replace BK281 := bb BK281 hb; replace BK287 := bb BK287 hb; replace BK293 := bb BK293 hb; replace BK294 := bb BK294 hb; replace BK309 := bb BK309 hb; replace HB := am (below_step (by repeat (first | (with_reducible first | exact HB.out | apply below_alloc | apply pw_below_drewN | apply below_drew1 | refine below_set ?_ (Aside0.out (by assumption))) | exact HB.out)) hb)
           (try clear hb)
           (try clear hb2)
           (try clear hk)
           (try clear hi)
           (try clear ho0)
           refine hK.out _ _ ⟨(blk_cell BK281.out 0).trans rfl, (blk_cell BK281.out 1).trans rfl⟩ (fun hHeld => ?_)
           clear hK K
           refine norm_ (a' := ?_) ?_ ?_
           rotate_left
           ·
            show Act.put _ (some 80) _ = _
            simp only [Act.put, List.setIfInBounds_toArray, List.set_cons_zero, List.set_cons_succ, i64_w, i32_w]
            rfl
           refine pu 4 (some 76) (v := ?_) (a' := ?_) #[true, true, true, true, true, false, false, true, false, false] rfl rfl (any_of HT_.out (by kernel_rfl)) (fun _ _ _ h => h) ⟨by rfl, ?_⟩ ?_ ?_; rotate_left; · (intro w'; go_simp; with_reducible rfl)
           rotate_left; · (simp only [Act.put, sa_, sb_, sc_, i64_w, i32_w]; rfl)
           refine pu 5 (some 81) (v := ?_) (a' := ?_) #[true, true, true, true, true, true, false, true, false, false] rfl rfl (any_of HT_.out (by kernel_rfl)) (fun _ _ _ h => h) ⟨by rfl, ?_⟩ ?_ ?_; rotate_left; · (intro w'; go_simp; with_reducible rfl)
           rotate_left; · (simp only [Act.put, sa_, sb_, sc_, i64_w, i32_w]; rfl)
           refine pu 6 (some 82) (v := ?_) (a' := ?_) (tb 8 10) rfl rfl (any_of HT_.out (by kernel_rfl)) (fun _ _ _ h => h) ⟨by rfl, ?_⟩ ?_ ?_; rotate_left; · (intro w'; go_simp; with_reducible rfl)
           rotate_left; · (simp only [Act.put, sa_, sb_, sc_, i64_w, i32_w]; rfl)
           exact norm_ (by simp only [putAll, Act.put, List.setIfInBounds_toArray, List.set_cons_zero, List.set_cons_succ]) (hCont (.slice Ao58 t301.length co58, v306, gb309) _ ⟨hHeld, (ru (HO303.out)), (ru (Kd.R_mono HO307.out (fun _ hk => ⟨hk.1.1.1.2, ⟨hk.1.1.2, ⟨hk.1.2, hk.2⟩⟩⟩))), (ru (Kd.R_mono HO_282001.out (fun _ hk => ⟨hk.2, ⟨hk.1.1, hk.1.2⟩⟩))), (ru (Kd.R_mono HO_288001.out (fun _ hk => ⟨hk.2, ⟨hk.1.1, ⟨hk.1.2.1, hk.1.2.2⟩⟩⟩))), (ru (Kd.R_mono HO_294001.out (fun _ hk => ⟨hk.2, ⟨hk.1.1, ⟨hk.1.2.1, hk.1.2.2⟩⟩⟩))), (ru (Kd.R_mono HO_295001.out (fun _ hk => ⟨hk.2, ⟨hk.1.1, hk.1.2⟩⟩))), (bu BK281.out), (bu BK287.out), (bu BK293.out), (bu BK294.out), (bu BK309.out), GW309.out, GE309.out, NB281_309.out, NB309_281.out, NB287_309.out, NB309_287.out, NB293_309.out, NB309_293.out, NB294_309.out, NB309_294.out, (by repeat (first | (with_reducible first | exact HB.out | apply below_alloc | apply pw_below_drewN | apply below_drew1 | refine below_set ?_ (Aside0.out (by assumption))) | exact HB.out))⟩)
         ·
          skip
          refine box_step ?hg (N := 14) ?hd (cs := #[.int .i64 0, .slice none 0 0]) (t := 30) ?hr ?_; (case hd => rfl); (case hg => rfl); (case hr => first | (go_simp; done) | (go_simp; rfl))
          intro gb309 hg w56 hbox hb
          obtain ⟨HBn, GW309⟩ := tri hg hb (by repeat (first | (with_reducible first | exact HB.out | apply below_alloc | apply pw_below_drewN | apply below_drew1 | refine below_set ?_ (Aside0.out (by assumption))) | exact HB.out)); have GE309 := GW309; have BK309 := am (hbox); have NB281_309 := nl hg (bu BK281.out); have NB309_281 := nr hg (bu BK281.out); have NB287_309 := nl hg (bu BK287.out); have NB309_287 := nr hg (bu BK287.out); have NB293_309 := nl hg (bu BK293.out); have NB309_293 := nr hg (bu BK293.out); have NB294_309 := nl hg (bu BK294.out); have NB309_294 := nr hg (bu BK294.out); replace HO_282001 := rb HO_282001 hb; replace HO_288001 := rb HO_288001 hb; replace HO_294001 := rb HO_294001 hb; replace HO_295001 := rb HO_295001 hb; replace BK281 := bb BK281 hb; replace BK287 := bb BK287 hb; replace BK293 := bb BK293 hb; replace BK294 := bb BK294 hb; clear HB; have HB := HBn; clear HBn
          clear hb hbox hg
          refine hK.out _ _ ⟨(blk_cell BK281.out 0).trans rfl, (blk_cell BK281.out 1).trans rfl⟩ (fun hHeld => ?_)
          clear hK K
          refine norm_ (a' := ?_) ?_ ?_
          rotate_left
          ·
           show Act.put _ (some 14) _ = _
           simp only [Act.put, List.setIfInBounds_toArray, List.set_cons_zero, List.set_cons_succ, i64_w, i32_w]
           rfl
          refine one_ (i := 2) (N := some 79) #[true, true, true, false, false, false, false, true, false, false] rfl rfl (one_of HT_.out (by kernel_rfl)) (by decide) (fun K hK => ?_)
          refine goes_ Try.func31 (by kernel_rfl) rfl #[.slice A1 l1.length c1] (by rfl) rfl rfl (by (try simp only [List.map_toArray, List.map_cons, List.map_nil]); first | done | rfl | (simp only [List.length_drop, List.length_take]; rfl)) ?_
          with_reducible refine (tallymanlaw14_turned.calls kj14 _ _ l1 t301 _ ?side1 ?side2 A48.out).mono ?_
          (case side1 => exact cu (Kd.C_below HR1.out HB.out))
          (case side2 => exact HC1.out)
          rintro e w57 ⟨v302, rfl, ho0, hb⟩
          refine ⟨_, rfl, ?_⟩
          have HO303 := am (Kd.R_lower ho0 (below_size (by repeat (first | (with_reducible first | exact HB.out | apply below_alloc | apply pw_below_drewN | apply below_drew1 | refine below_set ?_ (Aside0.out (by assumption))) | exact HB.out)))); replace HO_282001 := rb HO_282001 hb; replace HO_288001 := rb HO_288001 hb; replace HO_294001 := rb HO_294001 hb; replace HO_295001 := rb HO_295001 hb; replace BK281 := bb BK281 hb; replace BK287 := bb BK287 hb; replace BK293 := bb BK293 hb; replace BK294 := bb BK294 hb; replace BK309 := bb BK309 hb; replace HB := am (below_step (by repeat (first | (with_reducible first | exact HB.out | apply below_alloc | apply pw_below_drewN | apply below_drew1 | refine below_set ?_ (Aside0.out (by assumption))) | exact HB.out)) hb)
          (try clear hb)
          (try clear hb2)
          (try clear hk)
          (try clear hi)
          (try clear ho0)
          obtain ⟨Ao58, co58, eo58⟩ := Kd.R_slice HO303.out
          (first | subst eo58 | (injection eo58 with f1_ f2_ f3_; have f4_ := f1_.symm; have f5_ := f3_.symm; clear f1_ f2_ f3_; subst f4_; subst f5_))
          refine hK.out _ _ ⟨(blk_cell BK281.out 0).trans rfl, (blk_cell BK281.out 1).trans rfl⟩ (fun hHeld => ?_)
          clear hK K
          refine norm_ (a' := ?_) ?_ ?_
          rotate_left
          ·
           show Act.put _ (some 79) _ = _
           simp only [Act.put, List.setIfInBounds_toArray, List.set_cons_zero, List.set_cons_succ, i64_w, i32_w]
           rfl
          refine one_ (i := 3) (N := some 80) #[true, true, true, true, false, false, false, true, false, false] rfl rfl (one_of HT_.out (by kernel_rfl)) (by decide) (fun K hK => ?_)
          refine goes_ Try.func25 (by kernel_rfl) rfl #[.agg #[.int .i64 t276, .slice Ao19 t277.length co19], .slice Ao58 t301.length co58] (by rfl) rfl rfl (by (try simp only [List.map_toArray, List.map_cons, List.map_nil]); first | done | rfl | (simp only [List.length_drop, List.length_take]; rfl)) ?_
          with_reducible refine (hll_AddAll.calls kj14 t276 _ _ t277 _ _ t301 t304 t305 t308 _ ?side1 ?side2 ?side3 ?side4 A49.out).mono ?_
          (case side1 => repeat (first | exact (Kd.R_reads' HO_282001.out).2.2 | (with_reducible refine Kd.C_alloc ?_ _) | (with_reducible refine Kd.C_drewN ?_ _) | (with_reducible refine Kd.C_drew ?_)))
          (case side2 => exact (Kd.R_reads' HO_282001.out).2.1)
          (case side3 => repeat (first | exact (Kd.R_reads' HO303.out).2.2 | (with_reducible refine Kd.C_alloc ?_ _) | (with_reducible refine Kd.C_drewN ?_ _) | (with_reducible refine Kd.C_drew ?_)))
          (case side4 => exact (Kd.R_reads' HO303.out).2.1)
          rintro e w59 ⟨v306, rfl, ho0, hb⟩
          refine ⟨_, rfl, ?_⟩
          have HO307 := am (Kd.R_lower (Kd.R_new' (Kd.R_new' (Kd.R_new' (Kd.R_new' ho0 (Kd.R_lt (ru (HO_282001.out)))) (Kd.R_lt (ru (HO_288001.out)))) (Kd.R_lt (ru (HO_294001.out)))) (Kd.R_lt (ru (HO_295001.out)))) (below_size (by repeat (first | (with_reducible first | exact HB.out | apply below_alloc | apply pw_below_drewN | apply below_drew1 | refine below_set ?_ (Aside0.out (by assumption))) | exact HB.out)))); replace HO_282001 := am (Kd.R_elder' (ru (HO_282001.out)) (Kd.R_base ho0) hb); replace HO_288001 := am (Kd.R_elder' (ru (HO_288001.out)) (Kd.R_base ho0) hb); replace HO_294001 := am (Kd.R_elder' (ru (HO_294001.out)) (Kd.R_base ho0) hb); replace HO_295001 := am (Kd.R_elder' (ru (HO_295001.out)) (Kd.R_base ho0) hb); replace HO303 := rb HO303 hb; replace BK281 := bb BK281 hb; replace BK287 := bb BK287 hb; replace BK293 := bb BK293 hb; replace BK294 := bb BK294 hb; replace BK309 := bb BK309 hb; replace HB := am (below_step (by repeat (first | (with_reducible first | exact HB.out | apply below_alloc | apply pw_below_drewN | apply below_drew1 | refine below_set ?_ (Aside0.out (by assumption))) | exact HB.out)) hb)
          (try clear hb)
          (try clear hb2)
          (try clear hk)
          (try clear hi)
          (try clear ho0)
          refine hK.out _ _ ⟨(blk_cell BK281.out 0).trans rfl, (blk_cell BK281.out 1).trans rfl⟩ (fun hHeld => ?_)
          clear hK K
          refine norm_ (a' := ?_) ?_ ?_
          rotate_left
          ·
           show Act.put _ (some 80) _ = _
           simp only [Act.put, List.setIfInBounds_toArray, List.set_cons_zero, List.set_cons_succ, i64_w, i32_w]
           rfl
          refine pu 4 (some 76) (v := ?_) (a' := ?_) #[true, true, true, true, true, false, false, true, false, false] rfl rfl (any_of HT_.out (by kernel_rfl)) (fun _ _ _ h => h) ⟨by rfl, ?_⟩ ?_ ?_; rotate_left; · (intro w'; go_simp; with_reducible rfl)
          rotate_left; · (simp only [Act.put, sa_, sb_, sc_, i64_w, i32_w]; rfl)
          refine pu 5 (some 81) (v := ?_) (a' := ?_) #[true, true, true, true, true, true, false, true, false, false] rfl rfl (any_of HT_.out (by kernel_rfl)) (fun _ _ _ h => h) ⟨by rfl, ?_⟩ ?_ ?_; rotate_left; · (intro w'; go_simp; with_reducible rfl)
          rotate_left; · (simp only [Act.put, sa_, sb_, sc_, i64_w, i32_w]; rfl)
          refine pu 6 (some 82) (v := ?_) (a' := ?_) (tb 8 10) rfl rfl (any_of HT_.out (by kernel_rfl)) (fun _ _ _ h => h) ⟨by rfl, ?_⟩ ?_ ?_; rotate_left; · (intro w'; go_simp; with_reducible rfl)
          rotate_left; · (simp only [Act.put, sa_, sb_, sc_, i64_w, i32_w]; rfl)
          exact norm_ (by simp only [putAll, Act.put, List.setIfInBounds_toArray, List.set_cons_zero, List.set_cons_succ]) (hCont (.slice Ao58 t301.length co58, v306, gb309) _ ⟨hHeld, (ru (HO303.out)), (ru (Kd.R_mono HO307.out (fun _ hk => ⟨hk.1.1.1.2, ⟨hk.1.1.2, ⟨hk.1.2, hk.2⟩⟩⟩))), (ru (Kd.R_mono HO_282001.out (fun _ hk => ⟨hk.2, ⟨hk.1.1, hk.1.2⟩⟩))), (ru (Kd.R_mono HO_288001.out (fun _ hk => ⟨hk.2, ⟨hk.1.1, ⟨hk.1.2.1, hk.1.2.2⟩⟩⟩))), (ru (Kd.R_mono HO_294001.out (fun _ hk => ⟨hk.2, ⟨hk.1.1, ⟨hk.1.2.1, hk.1.2.2⟩⟩⟩))), (ru (Kd.R_mono HO_295001.out (fun _ hk => ⟨hk.2, ⟨hk.1.1, hk.1.2⟩⟩))), (bu BK281.out), (bu BK287.out), (bu BK293.out), (bu BK294.out), (bu BK309.out), GW309.out, GE309.out, NB281_309.out, NB309_281.out, NB287_309.out, NB309_287.out, NB293_309.out, NB309_293.out, NB294_309.out, NB309_294.out, (by repeat (first | (with_reducible first | exact HB.out | apply below_alloc | apply pw_below_drewN | apply below_drew1 | refine below_set ?_ (Aside0.out (by assumption))) | exact HB.out))⟩)
        rintro ⟨v302, v306, gb309⟩ w60 ⟨hS_, h0_, h1_, h2_, h3_, h4_, h5_, h6_, h7_, h8_, h9_, h10_, h11_, h12_, h13_, h14_, h15_, h16_, h17_, h18_, h19_, h20_, h21_⟩
        have n0_ : Aside0 (Kd.R (Kd.int .u64) 22 w60 w.heap.size (fun _ => True) v302 t301) := ⟨h0_⟩
        have n1_ : Aside0 (Kd.R k32 32 w60 w.heap.size (fun k_ => nb Ao19 t277.length co19 k_ ∧ nb Ao24 t283.length co24 k_ ∧ nb Ao31 t289.length co31 k_ ∧ some k_ ≠ (u295001 : Value).ownBlock) v306 t305) := ⟨h1_⟩
        have n2_ : Aside0 (Kd.R k32 32 w60 w.heap.size (fun k_ => some k_ ≠ (v306 : Value).ownBlock ∧ nb Ao24 t283.length co24 k_ ∧ nb Ao31 t289.length co31 k_) (.slice Ao19 t277.length co19) t277) := ⟨h2_⟩
        have n3_ : Aside0 (Kd.R k32 32 w60 w.heap.size (fun k_ => some k_ ≠ (v306 : Value).ownBlock ∧ nb Ao19 t277.length co19 k_ ∧ nb Ao31 t289.length co31 k_ ∧ some k_ ≠ (u295001 : Value).ownBlock) (.slice Ao24 t283.length co24) t283) := ⟨h3_⟩
        have n4_ : Aside0 (Kd.R k32 32 w60 w.heap.size (fun k_ => some k_ ≠ (v306 : Value).ownBlock ∧ nb Ao19 t277.length co19 k_ ∧ nb Ao24 t283.length co24 k_ ∧ some k_ ≠ (u295001 : Value).ownBlock) (.slice Ao31 t289.length co31) t289) := ⟨h4_⟩
        have n5_ : Aside0 (Kd.R k32 32 w60 w.heap.size (fun k_ => some k_ ≠ (v306 : Value).ownBlock ∧ nb Ao24 t283.length co24 k_ ∧ nb Ao31 t289.length co31 k_) u295001 x295001_14) := ⟨h5_⟩
        have n6_ : Aside0 (w60.heap[gb281]? = some (.cells #[.int .i64 t276, .slice Ao19 t277.length co19] 30 (0, 0))) := ⟨h6_⟩
        have n7_ : Aside0 (w60.heap[gb287]? = some (.cells #[.int .i64 t282, .slice Ao24 t283.length co24] 30 (0, 0))) := ⟨h7_⟩
        have n8_ : Aside0 (w60.heap[gb293]? = some (.cells #[.int .i64 t288, .slice Ao31 t289.length co31] 30 (0, 0))) := ⟨h8_⟩
        have n9_ : Aside0 (w60.heap[gb294]? = some (.cells #[.int .i64 x295000_14, u295001] 30 (0, 0))) := ⟨h9_⟩
        have n10_ : Aside0 (w60.heap[gb309]? = some (.cells #[.int .i64 0, .slice none 0 0] 30 (0, 0))) := ⟨h10_⟩
        have n11_ : Aside0 (w.heap.size ≤ gb309) := ⟨h11_⟩
        have n12_ : Aside0 (w.heap.size ≤ gb309) := ⟨h12_⟩
        have n13_ : Aside0 (gb281 ≠ gb309) := ⟨h13_⟩
        have n14_ : Aside0 (gb309 ≠ gb281) := ⟨h14_⟩
        have n15_ : Aside0 (gb287 ≠ gb309) := ⟨h15_⟩
        have n16_ : Aside0 (gb309 ≠ gb287) := ⟨h16_⟩
        have n17_ : Aside0 (gb293 ≠ gb309) := ⟨h17_⟩
        have n18_ : Aside0 (gb309 ≠ gb293) := ⟨h18_⟩
        have n19_ : Aside0 (gb294 ≠ gb309) := ⟨h19_⟩
        have n20_ : Aside0 (gb309 ≠ gb294) := ⟨h20_⟩
        have n21_ : Aside0 (Below w.heap.size w w60) := ⟨h21_⟩
        clear HO_282001
        clear HO_288001
        clear HO_294001
        clear HO_295001
        clear BK281
        clear BK287
        clear BK293
        clear BK294
        clear HB
        clear h0_ h1_ h2_ h3_ h4_ h5_ h6_ h7_ h8_ h9_ h10_ h11_ h12_ h13_ h14_ h15_ h16_ h17_ h18_ h19_ h20_ h21_
        have HO303 := n0_; have HO307 := n1_; have HO_282001 := n2_; have HO_288001 := n3_; have HO_294001 := n4_; have HO_295001 := n5_; have BK281 := n6_; have BK287 := n7_; have BK293 := n8_; have BK294 := n9_; have BK309 := n10_; have GW309 := n11_; have GE309 := n12_; have NB281_309 := n13_; have NB309_281 := n14_; have NB287_309 := n15_; have NB309_287 := n16_; have NB293_309 := n17_; have NB309_293 := n18_; have NB294_309 := n19_; have NB309_294 := n20_; have HB := n21_
        clear n0_ n1_ n2_ n3_ n4_ n5_ n6_ n7_ n8_ n9_ n10_ n11_ n12_ n13_ n14_ n15_ n16_ n17_ n18_ n19_ n20_ n21_
        have hHeld : w60.cell? ⟨gb281, 0, none⟩ = some (.int .i64 t276) ∧ w60.cell? ⟨gb281, 1, none⟩ = some (.slice Ao19 t277.length co19) := hS_
        obtain ⟨Ao62, co62, eo62⟩ := Kd.R_slice HO307.out
        (first | subst eo62 | (injection eo62 with f1_ f2_ f3_; have f4_ := f1_.symm; have f5_ := f3_.symm; clear f1_ f2_ f3_; subst f4_; subst f5_))
        refine norm_ (a' := ?_) ?_ ?_
        rotate_left
        ·
         simp only [putAll, Act.put, List.setIfInBounds_toArray, List.set_cons_zero, List.set_cons_succ]
         rfl
        refine one_ (i := 8) (N := none) (tb 9 10) rfl rfl (one_of HT_.out (by kernel_rfl)) (by decide) (fun K hK => ?_)
        have hs61 : w60.cell? ⟨gb309, 0, none⟩ = some (.int .i64 0) := (blk_cell BK309.out 0).trans rfl
        have hfs61 := blk_frozen BK309.out 0; have hns61_0 := NB281_309.out; have hns61_1 := NB287_309.out; have hns61_2 := NB293_309.out; have hns61_3 := NB294_309.out; have hms61_0 := NB309_281.out; have hms61_1 := NB309_287.out; have hms61_2 := NB309_293.out; have hms61_3 := NB309_294.out
        have hs63 : w60.cell? ⟨gb309, 1, none⟩ = some (.slice none 0 0) := (blk_cell BK309.out 1).trans rfl
        have hfs63 := blk_frozen BK309.out 1; have hns63_0 := NB281_309.out; have hns63_1 := NB287_309.out; have hns63_2 := NB293_309.out; have hns63_3 := NB294_309.out; have hms63_0 := NB309_281.out; have hms63_1 := NB309_287.out; have hms63_2 := NB309_293.out; have hms63_3 := NB309_294.out
        refine skip_ (w1 := ?_) (by rfl) rfl ?_ ?_
        rotate_left
        ·
         go_simp
         rfl
        refine hK.out _ _ ⟨((cell_far (p := ⟨gb309, _, none⟩) NB281_309.out _).trans (((cell_far (p := ⟨gb309, _, none⟩) NB281_309.out _).trans (hHeld.1)))), ((cell_far (p := ⟨gb309, _, none⟩) NB281_309.out _).trans (((cell_far (p := ⟨gb309, _, none⟩) NB281_309.out _).trans (hHeld.2))))⟩ (fun hHeld => ?_)
        clear hK K
        refine pu 9 (some 15) (v := ?_) (a' := ?_) (tb 10 10) rfl rfl (any_of HT_.out (by kernel_rfl)) (fun _ _ _ h => h) ⟨by rfl, ?_⟩ ?_ ?_; rotate_left; · (intro w'; go_simp; with_reducible rfl)
        rotate_left; · (simp only [Act.put, sa_, sb_, sc_, i64_w, i32_w]; rfl)
        refine done_ (done_of HT_.out (by kernel_rfl)) ?_
        have hnb64 := NB287_281.out; have hnc64 := NB281_287.out; have hnb65 := NB287_293.out; have hnc65 := NB293_287.out; have hnb66 := NB287_294.out; have hnc66 := NB294_287.out; have hnb67 := NB287_309.out; have hnc67 := NB309_287.out; have hcz68_0 := ca BK287.out; have hcz68_1 := cb BK287.out; have hfz68_0 := blk_frozen BK287.out 0; have hfz68_1 := blk_frozen BK287.out 1
        go_upto_region 21 with (first | ((with_reducible refine gate_callee (f := 25) rfl ?_); refine goesL_ (some 86) rfl rfl Try.func25 (by kernel_rfl) rfl #[.agg #[.int .i64 t282, .slice Ao24 t283.length co24], .slice A2 l2.length c2] rfl (by (try simp only [List.map_toArray, List.map_cons, List.map_nil]); first | done | rfl | (simp only [List.length_drop, List.length_take]; rfl)) ?_; (with_reducible refine (hll_AddAll.calls kj14 t282 _ _ t283 _ _ l2 t310 t311 t314 _ ?side1 ?side2 ?side3 ?side4 A50.out).mono ?_); (case side1 => refine (Kd.R_reads' (e := 32) (base := w.heap.size) (ok := fun k_ => (nb Ao62 t305.length co62 k_ ∧ (nb Ao19 t277.length co19 k_ ∧ (nb Ao31 t289.length co31 k_ ∧ some k_ ≠ (u295001 : Value).ownBlock)))) (n := t283.length) (c := co24) ?_).2.2; exact (rf HO_288001.out BK309.out (by decide))); (case side2 => exact (Kd.R_reads' HO_288001.out).2.1); (case side3 => exact Kd.C_below HR2.out (by repeat (first | (with_reducible first | exact HB.out | apply below_alloc | apply pw_below_drewN | apply below_drew1 | refine below_set ?_ (Aside0.out (by assumption))) | exact HB.out))); (case side4 => exact HC2.out); rintro e w69 ⟨v312, rfl, ho0, hb⟩; refine ⟨_, rfl, ?_⟩; have HO313 := am (Kd.R_lower (Kd.R_new' (Kd.R_new' (Kd.R_new' (Kd.R_new' (Kd.R_new' ho0 (Kd.R_lt (rf HO_282001.out BK309.out (by decide)))) (Kd.R_lt (rf HO_288001.out BK309.out (by decide)))) (Kd.R_lt (rf HO_294001.out BK309.out (by decide)))) (Kd.R_lt (rf HO_295001.out BK309.out (by decide)))) (Kd.R_lt (rf HO307.out BK309.out (by decide)))) (below_size (by repeat (first | (with_reducible first | exact HB.out | apply below_alloc | apply pw_below_drewN | apply below_drew1 | refine below_set ?_ (Aside0.out (by assumption))) | exact HB.out)))); replace HO_282001 := am (Kd.R_elder' (rf HO_282001.out BK309.out (by decide)) (Kd.R_base ho0) hb); replace HO_288001 := am (Kd.R_elder' (rf HO_288001.out BK309.out (by decide)) (Kd.R_base ho0) hb); replace HO_294001 := am (Kd.R_elder' (rf HO_294001.out BK309.out (by decide)) (Kd.R_base ho0) hb); replace HO_295001 := am (Kd.R_elder' (rf HO_295001.out BK309.out (by decide)) (Kd.R_base ho0) hb); replace HO303 := am (Kd.R_below (rf HO303.out BK309.out (by decide)) hb); replace HO307 := am (Kd.R_elder' (rf HO307.out BK309.out (by decide)) (Kd.R_base ho0) hb); replace BK281 := am (blk_below (bf NB281_309.out BK281.out) hb); replace BK287 := am (blk_below (bf NB287_309.out BK287.out) hb); replace BK293 := am (blk_below (bf NB293_309.out BK293.out) hb); replace BK294 := am (blk_below (bf NB294_309.out BK294.out) hb); replace BK309 := am (blk_below (g := gb309) (o := .cells #[.int .i64 t304, .slice Ao62 t305.length co62] 30 (0, 0)) (by (with_reducible repeat (first | refine blk_drewN ?_ _ | refine blk_drew ?_ | refine blk_alloc ?_ _)); refine blk_put (cs := #[.int .i64 t304, .slice none 0 0]) ?_ 1 _ rfl; (with_reducible repeat (first | refine blk_drewN ?_ _ | refine blk_drew ?_ | refine blk_alloc ?_ _)); refine blk_put (cs := #[.int .i64 0, .slice none 0 0]) ?_ 0 _ rfl; (with_reducible repeat (first | refine blk_drewN ?_ _ | refine blk_drew ?_ | refine blk_alloc ?_ _)); exact BK309.out) hb); replace HB := am (below_step (by repeat (first | (with_reducible first | exact HB.out | apply below_alloc | apply pw_below_drewN | apply below_drew1 | refine below_set ?_ (Aside0.out (by assumption))) | exact HB.out)) hb); (try clear hb); (try clear ho0)) | ((with_reducible refine gate_dst (N := 16) rfl ?_); (try (refine gate_guard (by rfl) ?_; dsimp only)); refine box_event ?hg (N := 16) ?hd (cs := #[.int .i64 0, .slice none 0 0]) (t := 30) ?hr ?_; (case hd => rfl); (case hg => rfl); (case hr => first | (go_simp; done) | (go_simp; rfl)); intro gb315 hg w70 hbox hb; obtain ⟨HBn, GW315⟩ := tri hg hb (by repeat (first | (with_reducible first | exact HB.out | apply below_alloc | apply pw_below_drewN | apply below_drew1 | refine below_set ?_ (Aside0.out (by assumption))) | exact HB.out)); have GE315 := GW315; have BK315 := am (hbox); have NB281_315 := nl hg (bu BK281.out); have NB315_281 := nr hg (bu BK281.out); have NB287_315 := nl hg (bu BK287.out); have NB315_287 := nr hg (bu BK287.out); have NB293_315 := nl hg (bu BK293.out); have NB315_293 := nr hg (bu BK293.out); have NB294_315 := nl hg (bu BK294.out); have NB315_294 := nr hg (bu BK294.out); have NB309_315 := nl hg (bu BK309.out); have NB315_309 := nr hg (bu BK309.out); replace HO_282001 := rb HO_282001 hb; replace HO_288001 := rb HO_288001 hb; replace HO_294001 := rb HO_294001 hb; replace HO_295001 := rb HO_295001 hb; replace HO303 := rb HO303 hb; replace HO307 := rb HO307 hb; replace HO313 := rb HO313 hb; replace BK281 := bb BK281 hb; replace BK287 := bb BK287 hb; replace BK293 := bb BK293 hb; replace BK294 := bb BK294 hb; replace BK309 := bb BK309 hb; clear HB; have HB := HBn; clear HBn; clear hb hbox hg; have hnb71 := NB315_281.out; have hnc71 := NB281_315.out; have hnb72 := NB315_287.out; have hnc72 := NB287_315.out; have hnb73 := NB315_293.out; have hnc73 := NB293_315.out; have hnb74 := NB315_294.out; have hnc74 := NB294_315.out; have hnb75 := NB315_309.out; have hnc75 := NB309_315.out; have hcz76_0 := ca BK315.out; have hcz76_1 := cb BK315.out; have hfz76_0 := blk_frozen BK315.out 0; have hfz76_1 := blk_frozen BK315.out 1; obtain ⟨Ao77, co77, eo77⟩ := Kd.R_slice HO313.out; subst eo77; have hcz78_0 := ca BK287.out; have hcz78_1 := cb BK287.out; have hfz78_0 := blk_frozen BK287.out 0; have hfz78_1 := blk_frozen BK287.out 1; have hnb79 := NB293_281.out; have hnc79 := NB281_293.out; have hnb80 := NB293_294.out; have hnc80 := NB294_293.out; have hnb81 := NB293_309.out; have hnc81 := NB309_293.out; have hcz82_0 := ca BK293.out; have hcz82_1 := cb BK293.out; have hfz82_0 := blk_frozen BK293.out 0; have hfz82_1 := blk_frozen BK293.out 1) | ((with_reducible refine gate_callee (f := 32) rfl ?_); refine goesL_ (some 92) rfl rfl Try.func32 (by kernel_rfl) rfl #[.agg #[.int .i64 t282, .slice Ao24 t283.length co24], .agg #[.int .i64 t288, .slice Ao31 t289.length co31]] rfl (by (try simp only [List.map_toArray, List.map_cons, List.map_nil]); first | done | rfl | (simp only [List.length_drop, List.length_take]; rfl)) ?_; (with_reducible refine (hll_Merge.calls kj14 t282 _ _ t283 t288 _ _ t289 t316 t317 t320 _ ?side1 ?side2 ?side3 ?side4 A51.out).mono ?_); (case side1 => refine (Kd.R_reads' (e := 32) (base := w.heap.size) (ok := fun k_ => ((nb Ao62 t305.length co62 k_ ∧ (nb Ao19 t277.length co19 k_ ∧ (nb Ao31 t289.length co31 k_ ∧ some k_ ≠ (u295001 : Value).ownBlock))) ∧ nb Ao77 t311.length co77 k_)) (n := t283.length) (c := co24) ?_).2.2; exact (rf HO_288001.out BK315.out (by decide))); (case side2 => exact (Kd.R_reads' HO_288001.out).2.1); (case side3 => refine (Kd.R_reads' (e := 32) (base := w.heap.size) (ok := fun k_ => ((nb Ao62 t305.length co62 k_ ∧ (nb Ao19 t277.length co19 k_ ∧ (nb Ao24 t283.length co24 k_ ∧ some k_ ≠ (u295001 : Value).ownBlock))) ∧ nb Ao77 t311.length co77 k_)) (n := t289.length) (c := co31) ?_).2.2; exact (rf HO_294001.out BK315.out (by decide))); (case side4 => exact (Kd.R_reads' HO_294001.out).2.1); rintro e w83 ⟨v318, rfl, ho0, hb⟩; refine ⟨_, rfl, ?_⟩; have HO319 := am (Kd.R_lower (Kd.R_new' (Kd.R_new' (Kd.R_new' (Kd.R_new' (Kd.R_new' (Kd.R_new' ho0 (Kd.R_lt (rf HO_282001.out BK315.out (by decide)))) (Kd.R_lt (rf HO_288001.out BK315.out (by decide)))) (Kd.R_lt (rf HO_294001.out BK315.out (by decide)))) (Kd.R_lt (rf HO_295001.out BK315.out (by decide)))) (Kd.R_lt (rf HO307.out BK315.out (by decide)))) (Kd.R_lt (rf HO313.out BK315.out (by decide)))) (below_size (by repeat (first | (with_reducible first | exact HB.out | apply below_alloc | apply pw_below_drewN | apply below_drew1 | refine below_set ?_ (Aside0.out (by assumption))) | exact HB.out)))); replace HO_282001 := am (Kd.R_elder' (rf HO_282001.out BK315.out (by decide)) (Kd.R_base ho0) hb); replace HO_288001 := am (Kd.R_elder' (rf HO_288001.out BK315.out (by decide)) (Kd.R_base ho0) hb); replace HO_294001 := am (Kd.R_elder' (rf HO_294001.out BK315.out (by decide)) (Kd.R_base ho0) hb); replace HO_295001 := am (Kd.R_elder' (rf HO_295001.out BK315.out (by decide)) (Kd.R_base ho0) hb); replace HO303 := am (Kd.R_below (rf HO303.out BK315.out (by decide)) hb); replace HO307 := am (Kd.R_elder' (rf HO307.out BK315.out (by decide)) (Kd.R_base ho0) hb); replace HO313 := am (Kd.R_elder' (rf HO313.out BK315.out (by decide)) (Kd.R_base ho0) hb); replace BK281 := am (blk_below (bf NB281_315.out BK281.out) hb); replace BK287 := am (blk_below (bf NB287_315.out BK287.out) hb); replace BK293 := am (blk_below (bf NB293_315.out BK293.out) hb); replace BK294 := am (blk_below (bf NB294_315.out BK294.out) hb); replace BK309 := am (blk_below (bf NB309_315.out BK309.out) hb); replace BK315 := am (blk_below (g := gb315) (o := .cells #[.int .i64 t310, .slice Ao77 t311.length co77] 30 (0, 0)) (by (with_reducible repeat (first | refine blk_drewN ?_ _ | refine blk_drew ?_ | refine blk_alloc ?_ _)); refine blk_put (cs := #[.int .i64 t310, .slice none 0 0]) ?_ 1 _ rfl; (with_reducible repeat (first | refine blk_drewN ?_ _ | refine blk_drew ?_ | refine blk_alloc ?_ _)); refine blk_put (cs := #[.int .i64 0, .slice none 0 0]) ?_ 0 _ rfl; (with_reducible repeat (first | refine blk_drewN ?_ _ | refine blk_drew ?_ | refine blk_alloc ?_ _)); exact BK315.out) hb); replace HB := am (below_step (by repeat (first | (with_reducible first | exact HB.out | apply below_alloc | apply pw_below_drewN | apply below_drew1 | refine below_set ?_ (Aside0.out (by assumption))) | exact HB.out)) hb); (try clear hb); (try clear ho0)) | ((with_reducible refine gate_dst (N := 18) rfl ?_); (try (refine gate_guard (by rfl) ?_; dsimp only)); refine box_event ?hg (N := 18) ?hd (cs := #[.int .i64 0, .slice none 0 0]) (t := 30) ?hr ?_; (case hd => rfl); (case hg => rfl); (case hr => first | (go_simp; done) | (go_simp; rfl)); intro gb321 hg w84 hbox hb; obtain ⟨HBn, GW321⟩ := tri hg hb (by repeat (first | (with_reducible first | exact HB.out | apply below_alloc | apply pw_below_drewN | apply below_drew1 | refine below_set ?_ (Aside0.out (by assumption))) | exact HB.out)); have GE321 := GW321; have BK321 := am (hbox); have NB281_321 := nl hg (bu BK281.out); have NB321_281 := nr hg (bu BK281.out); have NB287_321 := nl hg (bu BK287.out); have NB321_287 := nr hg (bu BK287.out); have NB293_321 := nl hg (bu BK293.out); have NB321_293 := nr hg (bu BK293.out); have NB294_321 := nl hg (bu BK294.out); have NB321_294 := nr hg (bu BK294.out); have NB309_321 := nl hg (bu BK309.out); have NB321_309 := nr hg (bu BK309.out); have NB315_321 := nl hg (bu BK315.out); have NB321_315 := nr hg (bu BK315.out); replace HO_282001 := rb HO_282001 hb; replace HO_288001 := rb HO_288001 hb; replace HO_294001 := rb HO_294001 hb; replace HO_295001 := rb HO_295001 hb; replace HO303 := rb HO303 hb; replace HO307 := rb HO307 hb; replace HO313 := rb HO313 hb; replace HO319 := rb HO319 hb; replace BK281 := bb BK281 hb; replace BK287 := bb BK287 hb; replace BK293 := bb BK293 hb; replace BK294 := bb BK294 hb; replace BK309 := bb BK309 hb; replace BK315 := bb BK315 hb; clear HB; have HB := HBn; clear HBn; clear hb hbox hg; have hnb85 := NB321_281.out; have hnc85 := NB281_321.out; have hnb86 := NB321_287.out; have hnc86 := NB287_321.out; have hnb87 := NB321_293.out; have hnc87 := NB293_321.out; have hnb88 := NB321_294.out; have hnc88 := NB294_321.out; have hnb89 := NB321_309.out; have hnc89 := NB309_321.out; have hnb90 := NB321_315.out; have hnc90 := NB315_321.out; have hcz91_0 := ca BK321.out; have hcz91_1 := cb BK321.out; have hfz91_0 := blk_frozen BK321.out 0; have hfz91_1 := blk_frozen BK321.out 1; obtain ⟨Ao92, co92, eo92⟩ := Kd.R_slice HO319.out; subst eo92; have hcz93_0 := ca BK293.out; have hcz93_1 := cb BK293.out; have hfz93_0 := blk_frozen BK293.out 0; have hfz93_1 := blk_frozen BK293.out 1; have hcz94_0 := ca BK287.out; have hcz94_1 := cb BK287.out; have hfz94_0 := blk_frozen BK287.out 0; have hfz94_1 := blk_frozen BK287.out 1) | ((with_reducible refine gate_callee (f := 32) rfl ?_); refine goesL_ (some 98) rfl rfl Try.func32 (by kernel_rfl) rfl #[.agg #[.int .i64 t288, .slice Ao31 t289.length co31], .agg #[.int .i64 t282, .slice Ao24 t283.length co24]] rfl (by (try simp only [List.map_toArray, List.map_cons, List.map_nil]); first | done | rfl | (simp only [List.length_drop, List.length_take]; rfl)) ?_; (with_reducible refine (hll_Merge.calls kj14 t288 _ _ t289 t282 _ _ t283 t322 t323 t326 _ ?side1 ?side2 ?side3 ?side4 A52.out).mono ?_); (case side1 => refine (Kd.R_reads' (e := 32) (base := w.heap.size) (ok := fun k_ => (((nb Ao62 t305.length co62 k_ ∧ (nb Ao19 t277.length co19 k_ ∧ (nb Ao24 t283.length co24 k_ ∧ some k_ ≠ (u295001 : Value).ownBlock))) ∧ nb Ao77 t311.length co77 k_) ∧ nb Ao92 t317.length co92 k_)) (n := t289.length) (c := co31) ?_).2.2; exact (rf HO_294001.out BK321.out (by decide))); (case side2 => exact (Kd.R_reads' HO_294001.out).2.1); (case side3 => refine (Kd.R_reads' (e := 32) (base := w.heap.size) (ok := fun k_ => (((nb Ao62 t305.length co62 k_ ∧ (nb Ao19 t277.length co19 k_ ∧ (nb Ao31 t289.length co31 k_ ∧ some k_ ≠ (u295001 : Value).ownBlock))) ∧ nb Ao77 t311.length co77 k_) ∧ nb Ao92 t317.length co92 k_)) (n := t283.length) (c := co24) ?_).2.2; exact (rf HO_288001.out BK321.out (by decide))); (case side4 => exact (Kd.R_reads' HO_288001.out).2.1); rintro e w95 ⟨v324, rfl, ho0, hb⟩; refine ⟨_, rfl, ?_⟩; have HO325 := am (Kd.R_lower (Kd.R_new' (Kd.R_new' (Kd.R_new' (Kd.R_new' (Kd.R_new' (Kd.R_new' (Kd.R_new' ho0 (Kd.R_lt (rf HO_282001.out BK321.out (by decide)))) (Kd.R_lt (rf HO_288001.out BK321.out (by decide)))) (Kd.R_lt (rf HO_294001.out BK321.out (by decide)))) (Kd.R_lt (rf HO_295001.out BK321.out (by decide)))) (Kd.R_lt (rf HO307.out BK321.out (by decide)))) (Kd.R_lt (rf HO313.out BK321.out (by decide)))) (Kd.R_lt (rf HO319.out BK321.out (by decide)))) (below_size (by repeat (first | (with_reducible first | exact HB.out | apply below_alloc | apply pw_below_drewN | apply below_drew1 | refine below_set ?_ (Aside0.out (by assumption))) | exact HB.out)))); replace HO_282001 := am (Kd.R_elder' (rf HO_282001.out BK321.out (by decide)) (Kd.R_base ho0) hb); replace HO_288001 := am (Kd.R_elder' (rf HO_288001.out BK321.out (by decide)) (Kd.R_base ho0) hb); replace HO_294001 := am (Kd.R_elder' (rf HO_294001.out BK321.out (by decide)) (Kd.R_base ho0) hb); replace HO_295001 := am (Kd.R_elder' (rf HO_295001.out BK321.out (by decide)) (Kd.R_base ho0) hb); replace HO303 := am (Kd.R_below (rf HO303.out BK321.out (by decide)) hb); replace HO307 := am (Kd.R_elder' (rf HO307.out BK321.out (by decide)) (Kd.R_base ho0) hb); replace HO313 := am (Kd.R_elder' (rf HO313.out BK321.out (by decide)) (Kd.R_base ho0) hb); replace HO319 := am (Kd.R_elder' (rf HO319.out BK321.out (by decide)) (Kd.R_base ho0) hb); replace BK281 := am (blk_below (bf NB281_321.out BK281.out) hb); replace BK287 := am (blk_below (bf NB287_321.out BK287.out) hb); replace BK293 := am (blk_below (bf NB293_321.out BK293.out) hb); replace BK294 := am (blk_below (bf NB294_321.out BK294.out) hb); replace BK309 := am (blk_below (bf NB309_321.out BK309.out) hb); replace BK315 := am (blk_below (bf NB315_321.out BK315.out) hb); replace BK321 := am (blk_below (g := gb321) (o := .cells #[.int .i64 t316, .slice Ao92 t317.length co92] 30 (0, 0)) (by (with_reducible repeat (first | refine blk_drewN ?_ _ | refine blk_drew ?_ | refine blk_alloc ?_ _)); refine blk_put (cs := #[.int .i64 t316, .slice none 0 0]) ?_ 1 _ rfl; (with_reducible repeat (first | refine blk_drewN ?_ _ | refine blk_drew ?_ | refine blk_alloc ?_ _)); refine blk_put (cs := #[.int .i64 0, .slice none 0 0]) ?_ 0 _ rfl; (with_reducible repeat (first | refine blk_drewN ?_ _ | refine blk_drew ?_ | refine blk_alloc ?_ _)); exact BK321.out) hb); replace HB := am (below_step (by repeat (first | (with_reducible first | exact HB.out | apply below_alloc | apply pw_below_drewN | apply below_drew1 | refine below_set ?_ (Aside0.out (by assumption))) | exact HB.out)) hb); (try clear hb); (try clear ho0)) | ((with_reducible refine gate_dst (N := 20) rfl ?_); (try (refine gate_guard (by rfl) ?_; dsimp only)); refine box_event ?hg (N := 20) ?hd (cs := #[.int .i64 0, .slice none 0 0]) (t := 30) ?hr ?_; (case hd => rfl); (case hg => rfl); (case hr => first | (go_simp; done) | (go_simp; rfl)); intro gb327 hg w96 hbox hb; obtain ⟨HBn, GW327⟩ := tri hg hb (by repeat (first | (with_reducible first | exact HB.out | apply below_alloc | apply pw_below_drewN | apply below_drew1 | refine below_set ?_ (Aside0.out (by assumption))) | exact HB.out)); have GE327 := GW327; have BK327 := am (hbox); have NB281_327 := nl hg (bu BK281.out); have NB327_281 := nr hg (bu BK281.out); have NB287_327 := nl hg (bu BK287.out); have NB327_287 := nr hg (bu BK287.out); have NB293_327 := nl hg (bu BK293.out); have NB327_293 := nr hg (bu BK293.out); have NB294_327 := nl hg (bu BK294.out); have NB327_294 := nr hg (bu BK294.out); have NB309_327 := nl hg (bu BK309.out); have NB327_309 := nr hg (bu BK309.out); have NB315_327 := nl hg (bu BK315.out); have NB327_315 := nr hg (bu BK315.out); have NB321_327 := nl hg (bu BK321.out); have NB327_321 := nr hg (bu BK321.out); replace HO_282001 := rb HO_282001 hb; replace HO_288001 := rb HO_288001 hb; replace HO_294001 := rb HO_294001 hb; replace HO_295001 := rb HO_295001 hb; replace HO303 := rb HO303 hb; replace HO307 := rb HO307 hb; replace HO313 := rb HO313 hb; replace HO319 := rb HO319 hb; replace HO325 := rb HO325 hb; replace BK281 := bb BK281 hb; replace BK287 := bb BK287 hb; replace BK293 := bb BK293 hb; replace BK294 := bb BK294 hb; replace BK309 := bb BK309 hb; replace BK315 := bb BK315 hb; replace BK321 := bb BK321 hb; clear HB; have HB := HBn; clear HBn; clear hb hbox hg; have hnb97 := NB327_281.out; have hnc97 := NB281_327.out; have hnb98 := NB327_287.out; have hnc98 := NB287_327.out; have hnb99 := NB327_293.out; have hnc99 := NB293_327.out; have hnb100 := NB327_294.out; have hnc100 := NB294_327.out; have hnb101 := NB327_309.out; have hnc101 := NB309_327.out; have hnb102 := NB327_315.out; have hnc102 := NB315_327.out; have hnb103 := NB327_321.out; have hnc103 := NB321_327.out; have hcz104_0 := ca BK327.out; have hcz104_1 := cb BK327.out; have hfz104_0 := blk_frozen BK327.out 0; have hfz104_1 := blk_frozen BK327.out 1; obtain ⟨Ao105, co105, eo105⟩ := Kd.R_slice HO325.out; subst eo105; have hcz106_0 := ca BK287.out; have hcz106_1 := cb BK287.out; have hfz106_0 := blk_frozen BK287.out 0; have hfz106_1 := blk_frozen BK287.out 1) | ((with_reducible refine gate_callee (f := 32) rfl ?_); refine goesL_ (some 104) rfl rfl Try.func32 (by kernel_rfl) rfl #[.agg #[.int .i64 t282, .slice Ao24 t283.length co24], .agg #[.int .i64 t282, .slice Ao24 t283.length co24]] rfl (by (try simp only [List.map_toArray, List.map_cons, List.map_nil]); first | done | rfl | (simp only [List.length_drop, List.length_take]; rfl)) ?_; (with_reducible refine (hll_Merge.calls kj14 t282 _ _ t283 t282 _ _ t283 t328 t329 t332 _ ?side1 ?side2 ?side3 ?side4 A53.out).mono ?_); (case side1 => refine (Kd.R_reads' (e := 32) (base := w.heap.size) (ok := fun k_ => ((((nb Ao62 t305.length co62 k_ ∧ (nb Ao19 t277.length co19 k_ ∧ (nb Ao31 t289.length co31 k_ ∧ some k_ ≠ (u295001 : Value).ownBlock))) ∧ nb Ao77 t311.length co77 k_) ∧ nb Ao92 t317.length co92 k_) ∧ nb Ao105 t323.length co105 k_)) (n := t283.length) (c := co24) ?_).2.2; exact (rf HO_288001.out BK327.out (by decide))); (case side2 => exact (Kd.R_reads' HO_288001.out).2.1); (case side3 => refine (Kd.R_reads' (e := 32) (base := w.heap.size) (ok := fun k_ => ((((nb Ao62 t305.length co62 k_ ∧ (nb Ao19 t277.length co19 k_ ∧ (nb Ao31 t289.length co31 k_ ∧ some k_ ≠ (u295001 : Value).ownBlock))) ∧ nb Ao77 t311.length co77 k_) ∧ nb Ao92 t317.length co92 k_) ∧ nb Ao105 t323.length co105 k_)) (n := t283.length) (c := co24) ?_).2.2; exact (rf HO_288001.out BK327.out (by decide))); (case side4 => exact (Kd.R_reads' HO_288001.out).2.1); rintro e w107 ⟨v330, rfl, ho0, hb⟩; refine ⟨_, rfl, ?_⟩; have HO331 := am (Kd.R_lower (Kd.R_new' (Kd.R_new' (Kd.R_new' (Kd.R_new' (Kd.R_new' (Kd.R_new' (Kd.R_new' (Kd.R_new' ho0 (Kd.R_lt (rf HO_282001.out BK327.out (by decide)))) (Kd.R_lt (rf HO_288001.out BK327.out (by decide)))) (Kd.R_lt (rf HO_294001.out BK327.out (by decide)))) (Kd.R_lt (rf HO_295001.out BK327.out (by decide)))) (Kd.R_lt (rf HO307.out BK327.out (by decide)))) (Kd.R_lt (rf HO313.out BK327.out (by decide)))) (Kd.R_lt (rf HO319.out BK327.out (by decide)))) (Kd.R_lt (rf HO325.out BK327.out (by decide)))) (below_size (by repeat (first | (with_reducible first | exact HB.out | apply below_alloc | apply pw_below_drewN | apply below_drew1 | refine below_set ?_ (Aside0.out (by assumption))) | exact HB.out)))); replace HO_282001 := am (Kd.R_elder' (rf HO_282001.out BK327.out (by decide)) (Kd.R_base ho0) hb); replace HO_288001 := am (Kd.R_elder' (rf HO_288001.out BK327.out (by decide)) (Kd.R_base ho0) hb); replace HO_294001 := am (Kd.R_elder' (rf HO_294001.out BK327.out (by decide)) (Kd.R_base ho0) hb); replace HO_295001 := am (Kd.R_elder' (rf HO_295001.out BK327.out (by decide)) (Kd.R_base ho0) hb); replace HO303 := am (Kd.R_below (rf HO303.out BK327.out (by decide)) hb); replace HO307 := am (Kd.R_elder' (rf HO307.out BK327.out (by decide)) (Kd.R_base ho0) hb); replace HO313 := am (Kd.R_elder' (rf HO313.out BK327.out (by decide)) (Kd.R_base ho0) hb); replace HO319 := am (Kd.R_elder' (rf HO319.out BK327.out (by decide)) (Kd.R_base ho0) hb); replace HO325 := am (Kd.R_elder' (rf HO325.out BK327.out (by decide)) (Kd.R_base ho0) hb); replace BK281 := am (blk_below (bf NB281_327.out BK281.out) hb); replace BK287 := am (blk_below (bf NB287_327.out BK287.out) hb); replace BK293 := am (blk_below (bf NB293_327.out BK293.out) hb); replace BK294 := am (blk_below (bf NB294_327.out BK294.out) hb); replace BK309 := am (blk_below (bf NB309_327.out BK309.out) hb); replace BK315 := am (blk_below (bf NB315_327.out BK315.out) hb); replace BK321 := am (blk_below (bf NB321_327.out BK321.out) hb); replace BK327 := am (blk_below (g := gb327) (o := .cells #[.int .i64 t322, .slice Ao105 t323.length co105] 30 (0, 0)) (by (with_reducible repeat (first | refine blk_drewN ?_ _ | refine blk_drew ?_ | refine blk_alloc ?_ _)); refine blk_put (cs := #[.int .i64 t322, .slice none 0 0]) ?_ 1 _ rfl; (with_reducible repeat (first | refine blk_drewN ?_ _ | refine blk_drew ?_ | refine blk_alloc ?_ _)); refine blk_put (cs := #[.int .i64 0, .slice none 0 0]) ?_ 0 _ rfl; (with_reducible repeat (first | refine blk_drewN ?_ _ | refine blk_drew ?_ | refine blk_alloc ?_ _)); exact BK327.out) hb); replace HB := am (below_step (by repeat (first | (with_reducible first | exact HB.out | apply below_alloc | apply pw_below_drewN | apply below_drew1 | refine below_set ?_ (Aside0.out (by assumption))) | exact HB.out)) hb); (try clear hb); (try clear ho0)) | ((with_reducible refine gate_dst (N := 22) rfl ?_); (try (refine gate_guard (by rfl) ?_; dsimp only)); refine box_event ?hg (N := 22) ?hd (cs := #[.int .i64 0, .slice none 0 0]) (t := 30) ?hr ?_; (case hd => rfl); (case hg => rfl); (case hr => first | (go_simp; done) | (go_simp; rfl)); intro gb333 hg w108 hbox hb; obtain ⟨HBn, GW333⟩ := tri hg hb (by repeat (first | (with_reducible first | exact HB.out | apply below_alloc | apply pw_below_drewN | apply below_drew1 | refine below_set ?_ (Aside0.out (by assumption))) | exact HB.out)); have GE333 := GW333; have BK333 := am (hbox); have NB281_333 := nl hg (bu BK281.out); have NB333_281 := nr hg (bu BK281.out); have NB287_333 := nl hg (bu BK287.out); have NB333_287 := nr hg (bu BK287.out); have NB293_333 := nl hg (bu BK293.out); have NB333_293 := nr hg (bu BK293.out); have NB294_333 := nl hg (bu BK294.out); have NB333_294 := nr hg (bu BK294.out); have NB309_333 := nl hg (bu BK309.out); have NB333_309 := nr hg (bu BK309.out); have NB315_333 := nl hg (bu BK315.out); have NB333_315 := nr hg (bu BK315.out); have NB321_333 := nl hg (bu BK321.out); have NB333_321 := nr hg (bu BK321.out); have NB327_333 := nl hg (bu BK327.out); have NB333_327 := nr hg (bu BK327.out); replace HO_282001 := rb HO_282001 hb; replace HO_288001 := rb HO_288001 hb; replace HO_294001 := rb HO_294001 hb; replace HO_295001 := rb HO_295001 hb; replace HO303 := rb HO303 hb; replace HO307 := rb HO307 hb; replace HO313 := rb HO313 hb; replace HO319 := rb HO319 hb; replace HO325 := rb HO325 hb; replace HO331 := rb HO331 hb; replace BK281 := bb BK281 hb; replace BK287 := bb BK287 hb; replace BK293 := bb BK293 hb; replace BK294 := bb BK294 hb; replace BK309 := bb BK309 hb; replace BK315 := bb BK315 hb; replace BK321 := bb BK321 hb; replace BK327 := bb BK327 hb; clear HB; have HB := HBn; clear HBn; clear hb hbox hg; have hnb109 := NB333_281.out; have hnc109 := NB281_333.out; have hnb110 := NB333_287.out; have hnc110 := NB287_333.out; have hnb111 := NB333_293.out; have hnc111 := NB293_333.out; have hnb112 := NB333_294.out; have hnc112 := NB294_333.out; have hnb113 := NB333_309.out; have hnc113 := NB309_333.out; have hnb114 := NB333_315.out; have hnc114 := NB315_333.out; have hnb115 := NB333_321.out; have hnc115 := NB321_333.out; have hnb116 := NB333_327.out; have hnc116 := NB327_333.out; have hcz117_0 := ca BK333.out; have hcz117_1 := cb BK333.out; have hfz117_0 := blk_frozen BK333.out 0; have hfz117_1 := blk_frozen BK333.out 1; obtain ⟨Ao118, co118, eo118⟩ := Kd.R_slice HO331.out; subst eo118))
        (try simp only [Act.put, List.setIfInBounds_toArray, List.set_cons_zero, List.set_cons_succ])
        go_cut [132] (fun v132 wc => ∃ (kq : Nat) (x132_53 : Bool), v132 = .bool x132_53 ∧ Aside0 (tallymanlaw14_HllSets.j3 kq (wrap64 (4 + t275)) l1 x132_53 t282 t283 x295000_14 x295001_14 t304 t305 t310 t311 t316 t317 t322 t323 t328 t329 = some r) ∧ Aside0 (kq ≤ kj14) ∧ Aside0 (Kd.R k32 32 wc w.heap.size (fun k_ => some k_ ≠ ((.slice Ao24 t283.length co24) : Value).ownBlock ∧ some k_ ≠ ((.slice Ao31 t289.length co31) : Value).ownBlock ∧ some k_ ≠ ((.slice Ao62 t305.length co62) : Value).ownBlock ∧ some k_ ≠ ((.slice Ao77 t311.length co77) : Value).ownBlock ∧ some k_ ≠ ((.slice Ao92 t317.length co92) : Value).ownBlock ∧ some k_ ≠ ((.slice Ao105 t323.length co105) : Value).ownBlock ∧ some k_ ≠ ((.slice Ao118 t329.length co118) : Value).ownBlock) (.slice Ao19 t277.length co19) t277) ∧ Aside0 (Kd.R k32 32 wc w.heap.size (fun k_ => some k_ ≠ ((.slice Ao19 t277.length co19) : Value).ownBlock ∧ some k_ ≠ ((.slice Ao31 t289.length co31) : Value).ownBlock ∧ some k_ ≠ (u295001 : Value).ownBlock ∧ some k_ ≠ ((.slice Ao62 t305.length co62) : Value).ownBlock ∧ some k_ ≠ ((.slice Ao77 t311.length co77) : Value).ownBlock ∧ some k_ ≠ ((.slice Ao92 t317.length co92) : Value).ownBlock ∧ some k_ ≠ ((.slice Ao105 t323.length co105) : Value).ownBlock ∧ some k_ ≠ ((.slice Ao118 t329.length co118) : Value).ownBlock) (.slice Ao24 t283.length co24) t283) ∧ Aside0 (Kd.R k32 32 wc w.heap.size (fun k_ => some k_ ≠ ((.slice Ao19 t277.length co19) : Value).ownBlock ∧ some k_ ≠ ((.slice Ao24 t283.length co24) : Value).ownBlock ∧ some k_ ≠ (u295001 : Value).ownBlock ∧ some k_ ≠ ((.slice Ao62 t305.length co62) : Value).ownBlock ∧ some k_ ≠ ((.slice Ao77 t311.length co77) : Value).ownBlock ∧ some k_ ≠ ((.slice Ao92 t317.length co92) : Value).ownBlock ∧ some k_ ≠ ((.slice Ao105 t323.length co105) : Value).ownBlock ∧ some k_ ≠ ((.slice Ao118 t329.length co118) : Value).ownBlock) (.slice Ao31 t289.length co31) t289) ∧ Aside0 (Kd.R k32 32 wc w.heap.size (fun k_ => some k_ ≠ ((.slice Ao24 t283.length co24) : Value).ownBlock ∧ some k_ ≠ ((.slice Ao31 t289.length co31) : Value).ownBlock ∧ some k_ ≠ ((.slice Ao62 t305.length co62) : Value).ownBlock ∧ some k_ ≠ ((.slice Ao77 t311.length co77) : Value).ownBlock ∧ some k_ ≠ ((.slice Ao92 t317.length co92) : Value).ownBlock ∧ some k_ ≠ ((.slice Ao105 t323.length co105) : Value).ownBlock ∧ some k_ ≠ ((.slice Ao118 t329.length co118) : Value).ownBlock) u295001 x295001_14) ∧ Aside0 (Kd.R k32 32 wc w.heap.size (fun k_ => some k_ ≠ ((.slice Ao19 t277.length co19) : Value).ownBlock ∧ some k_ ≠ ((.slice Ao24 t283.length co24) : Value).ownBlock ∧ some k_ ≠ ((.slice Ao31 t289.length co31) : Value).ownBlock ∧ some k_ ≠ (u295001 : Value).ownBlock ∧ some k_ ≠ ((.slice Ao77 t311.length co77) : Value).ownBlock ∧ some k_ ≠ ((.slice Ao92 t317.length co92) : Value).ownBlock ∧ some k_ ≠ ((.slice Ao105 t323.length co105) : Value).ownBlock ∧ some k_ ≠ ((.slice Ao118 t329.length co118) : Value).ownBlock) (.slice Ao62 t305.length co62) t305) ∧ Aside0 (Kd.R k32 32 wc w.heap.size (fun k_ => some k_ ≠ ((.slice Ao19 t277.length co19) : Value).ownBlock ∧ some k_ ≠ ((.slice Ao24 t283.length co24) : Value).ownBlock ∧ some k_ ≠ ((.slice Ao31 t289.length co31) : Value).ownBlock ∧ some k_ ≠ (u295001 : Value).ownBlock ∧ some k_ ≠ ((.slice Ao62 t305.length co62) : Value).ownBlock ∧ some k_ ≠ ((.slice Ao92 t317.length co92) : Value).ownBlock ∧ some k_ ≠ ((.slice Ao105 t323.length co105) : Value).ownBlock ∧ some k_ ≠ ((.slice Ao118 t329.length co118) : Value).ownBlock) (.slice Ao77 t311.length co77) t311) ∧ Aside0 (Kd.R k32 32 wc w.heap.size (fun k_ => some k_ ≠ ((.slice Ao19 t277.length co19) : Value).ownBlock ∧ some k_ ≠ ((.slice Ao24 t283.length co24) : Value).ownBlock ∧ some k_ ≠ ((.slice Ao31 t289.length co31) : Value).ownBlock ∧ some k_ ≠ (u295001 : Value).ownBlock ∧ some k_ ≠ ((.slice Ao62 t305.length co62) : Value).ownBlock ∧ some k_ ≠ ((.slice Ao77 t311.length co77) : Value).ownBlock ∧ some k_ ≠ ((.slice Ao105 t323.length co105) : Value).ownBlock ∧ some k_ ≠ ((.slice Ao118 t329.length co118) : Value).ownBlock) (.slice Ao92 t317.length co92) t317) ∧ Aside0 (Kd.R k32 32 wc w.heap.size (fun k_ => some k_ ≠ ((.slice Ao19 t277.length co19) : Value).ownBlock ∧ some k_ ≠ ((.slice Ao24 t283.length co24) : Value).ownBlock ∧ some k_ ≠ ((.slice Ao31 t289.length co31) : Value).ownBlock ∧ some k_ ≠ (u295001 : Value).ownBlock ∧ some k_ ≠ ((.slice Ao62 t305.length co62) : Value).ownBlock ∧ some k_ ≠ ((.slice Ao77 t311.length co77) : Value).ownBlock ∧ some k_ ≠ ((.slice Ao92 t317.length co92) : Value).ownBlock ∧ some k_ ≠ ((.slice Ao118 t329.length co118) : Value).ownBlock) (.slice Ao105 t323.length co105) t323) ∧ Aside0 (Kd.R k32 32 wc w.heap.size (fun k_ => some k_ ≠ ((.slice Ao19 t277.length co19) : Value).ownBlock ∧ some k_ ≠ ((.slice Ao24 t283.length co24) : Value).ownBlock ∧ some k_ ≠ ((.slice Ao31 t289.length co31) : Value).ownBlock ∧ some k_ ≠ (u295001 : Value).ownBlock ∧ some k_ ≠ ((.slice Ao62 t305.length co62) : Value).ownBlock ∧ some k_ ≠ ((.slice Ao77 t311.length co77) : Value).ownBlock ∧ some k_ ≠ ((.slice Ao92 t317.length co92) : Value).ownBlock ∧ some k_ ≠ ((.slice Ao105 t323.length co105) : Value).ownBlock) (.slice Ao118 t329.length co118) t329) ∧ Aside0 (wc.heap[gb281]? = some (.cells #[.int .i64 t276, (.slice Ao19 t277.length co19)] 30 (0, 0))) ∧ Aside0 (wc.heap[gb287]? = some (.cells #[.int .i64 t282, (.slice Ao24 t283.length co24)] 30 (0, 0))) ∧ Aside0 (wc.heap[gb293]? = some (.cells #[.int .i64 t288, (.slice Ao31 t289.length co31)] 30 (0, 0))) ∧ Aside0 (wc.heap[gb294]? = some (.cells #[.int .i64 x295000_14, u295001] 30 (0, 0))) ∧ Aside0 (wc.heap[gb309]? = some (.cells #[.int .i64 t304, (.slice Ao62 t305.length co62)] 30 (0, 0))) ∧ Aside0 (wc.heap[gb315]? = some (.cells #[.int .i64 t310, (.slice Ao77 t311.length co77)] 30 (0, 0))) ∧ Aside0 (wc.heap[gb321]? = some (.cells #[.int .i64 t316, (.slice Ao92 t317.length co92)] 30 (0, 0))) ∧ Aside0 (wc.heap[gb327]? = some (.cells #[.int .i64 t322, (.slice Ao105 t323.length co105)] 30 (0, 0))) ∧ Aside0 (wc.heap[gb333]? = some (.cells #[.int .i64 t328, (.slice Ao118 t329.length co118)] 30 (0, 0))) ∧ Aside0 (Below w.heap.size w wc))
        case first =>
         have H := HC54.out
         clear HC54
         by_cases c119 : t286 = 0
         ·
          rw [if_pos c119] at H
          have c119b0 : (t286 == 0) = true := beq_iff_eq.mpr c119
          have c119b1 : (t286 != 0) = false := bne_eq_false_iff_eq.mpr c119
          clear c119
          (first | rw [c119b0] | (simp only [i64_w, i32_w]; rw [c119b0]) | skip)
          by_cases c120 : t292 = 0
          ·
           rw [if_pos c120] at H
           have c120b0 : (t292 == 0) = true := beq_iff_eq.mpr c120
           have c120b1 : (t292 != 0) = false := bne_eq_false_iff_eq.mpr c120
           clear c120
           by_cases c121 : t308 = 0
           ·
            rw [if_pos c121] at H
            have c121b0 : (t308 == 0) = true := beq_iff_eq.mpr c121
            have c121b1 : (t308 != 0) = false := bne_eq_false_iff_eq.mpr c121
            clear c121
            by_cases c122 : t314 = 0
            ·
             rw [if_pos c122] at H
             have c122b0 : (t314 == 0) = true := beq_iff_eq.mpr c122
             have c122b1 : (t314 != 0) = false := bne_eq_false_iff_eq.mpr c122
             clear c122
             by_cases c123 : t320 = 0
             ·
              rw [if_pos c123] at H
              have c123b0 : (t320 == 0) = true := beq_iff_eq.mpr c123
              have c123b1 : (t320 != 0) = false := bne_eq_false_iff_eq.mpr c123
              clear c123
              by_cases c124 : t326 = 0
              ·
               rw [if_pos c124] at H
               have c124b0 : (t326 == 0) = true := beq_iff_eq.mpr c124
               have c124b1 : (t326 != 0) = false := bne_eq_false_iff_eq.mpr c124
               clear c124
               have H' := Aside0.mk H
               clear H
               go_wp2
               go_meet
               case rel => exact ⟨_, ((t332 != 0)), (by first | rfl | (simp; done) | (simp [*]; done)), H', ⟨by have := HJ5.out; have := HJ14.out; first | omega | exact Nat.le_refl _⟩, ⟨Kd.R_mono (rf HO_282001.out BK333.out (by decide)) (fun _ hk => ⟨hk.1.1.1.1.2.1, ⟨hk.1.1.1.1.2.2, ⟨hk.1.1.1.1.1, ⟨hk.1.1.1.2, ⟨hk.1.1.2, ⟨hk.1.2, hk.2⟩⟩⟩⟩⟩⟩)⟩, ⟨Kd.R_mono (rf HO_288001.out BK333.out (by decide)) (fun _ hk => ⟨hk.1.1.1.1.2.1, ⟨hk.1.1.1.1.2.2.1, ⟨hk.1.1.1.1.2.2.2, ⟨hk.1.1.1.1.1, ⟨hk.1.1.1.2, ⟨hk.1.1.2, ⟨hk.1.2, hk.2⟩⟩⟩⟩⟩⟩⟩)⟩, ⟨Kd.R_mono (rf HO_294001.out BK333.out (by decide)) (fun _ hk => ⟨hk.1.1.1.1.2.1, ⟨hk.1.1.1.1.2.2.1, ⟨hk.1.1.1.1.2.2.2, ⟨hk.1.1.1.1.1, ⟨hk.1.1.1.2, ⟨hk.1.1.2, ⟨hk.1.2, hk.2⟩⟩⟩⟩⟩⟩⟩)⟩, ⟨Kd.R_mono (rf HO_295001.out BK333.out (by decide)) (fun _ hk => ⟨hk.1.1.1.1.2.1, ⟨hk.1.1.1.1.2.2, ⟨hk.1.1.1.1.1, ⟨hk.1.1.1.2, ⟨hk.1.1.2, ⟨hk.1.2, hk.2⟩⟩⟩⟩⟩⟩)⟩, ⟨Kd.R_mono (rf HO307.out BK333.out (by decide)) (fun _ hk => ⟨hk.1.1.1.1.1, ⟨hk.1.1.1.1.2.1, ⟨hk.1.1.1.1.2.2.1, ⟨hk.1.1.1.1.2.2.2, ⟨hk.1.1.1.2, ⟨hk.1.1.2, ⟨hk.1.2, hk.2⟩⟩⟩⟩⟩⟩⟩)⟩, ⟨Kd.R_mono (rf HO313.out BK333.out (by decide)) (fun _ hk => ⟨hk.1.1.1.1.1.1.1.2, ⟨hk.1.1.1.1.1.1.2, ⟨hk.1.1.1.1.1.2, ⟨hk.1.1.1.1.2, ⟨hk.1.1.1.2, ⟨hk.1.1.2, ⟨hk.1.2, hk.2⟩⟩⟩⟩⟩⟩⟩)⟩, ⟨Kd.R_mono (rf HO319.out BK333.out (by decide)) (fun _ hk => ⟨hk.1.1.1.1.1.1.1.2, ⟨hk.1.1.1.1.1.1.2, ⟨hk.1.1.1.1.1.2, ⟨hk.1.1.1.1.2, ⟨hk.1.1.1.2, ⟨hk.1.1.2, ⟨hk.1.2, hk.2⟩⟩⟩⟩⟩⟩⟩)⟩, ⟨Kd.R_mono (rf HO325.out BK333.out (by decide)) (fun _ hk => ⟨hk.1.1.1.1.1.1.1.2, ⟨hk.1.1.1.1.1.1.2, ⟨hk.1.1.1.1.1.2, ⟨hk.1.1.1.1.2, ⟨hk.1.1.1.2, ⟨hk.1.1.2, ⟨hk.1.2, hk.2⟩⟩⟩⟩⟩⟩⟩)⟩, ⟨Kd.R_mono (rf HO331.out BK333.out (by decide)) (fun _ hk => ⟨hk.1.1.1.1.1.1.1.2, ⟨hk.1.1.1.1.1.1.2, ⟨hk.1.1.1.1.1.2, ⟨hk.1.1.1.1.2, ⟨hk.1.1.1.2, ⟨hk.1.1.2, ⟨hk.1.2, hk.2⟩⟩⟩⟩⟩⟩⟩)⟩, ⟨bf NB281_333.out BK281.out⟩, ⟨bf NB287_333.out BK287.out⟩, ⟨bf NB293_333.out BK293.out⟩, ⟨bf NB294_333.out BK294.out⟩, ⟨bf NB309_333.out BK309.out⟩, ⟨bf NB315_333.out BK315.out⟩, ⟨bf NB321_333.out BK321.out⟩, ⟨bf NB327_333.out BK327.out⟩, ⟨by (with_reducible repeat (first | refine blk_drewN ?_ _ | refine blk_drew ?_ | refine blk_alloc ?_ _)); refine blk_put (cs := #[.int .i64 t328, .slice none 0 0]) ?_ 1 _ rfl; (with_reducible repeat (first | refine blk_drewN ?_ _ | refine blk_drew ?_ | refine blk_alloc ?_ _)); refine blk_put (cs := #[.int .i64 0, .slice none 0 0]) ?_ 0 _ rfl; (with_reducible repeat (first | refine blk_drewN ?_ _ | refine blk_drew ?_ | refine blk_alloc ?_ _)); exact BK333.out⟩, ⟨by repeat (first | (with_reducible first | exact HB.out | apply below_alloc | apply pw_below_drewN | apply below_drew1 | refine below_set ?_ (Aside0.out (by assumption))) | exact HB.out)⟩⟩
              ·
               rw [if_neg c124] at H
               have c124b0 : (t326 == 0) = false := beq_eq_false_iff_ne.mpr c124
               have c124b1 : (t326 != 0) = true := bne_iff_ne.mpr c124
               exact (no_3 H).elim
             ·
              rw [if_neg c123] at H
              have c123b0 : (t320 == 0) = false := beq_eq_false_iff_ne.mpr c123
              have c123b1 : (t320 != 0) = true := bne_iff_ne.mpr c123
              exact (no_3 H).elim
            ·
             rw [if_neg c122] at H
             have c122b0 : (t314 == 0) = false := beq_eq_false_iff_ne.mpr c122
             have c122b1 : (t314 != 0) = true := bne_iff_ne.mpr c122
             exact (no_3 H).elim
           ·
            rw [if_neg c121] at H
            have c121b0 : (t308 == 0) = false := beq_eq_false_iff_ne.mpr c121
            have c121b1 : (t308 != 0) = true := bne_iff_ne.mpr c121
            exact (no_3 H).elim
          ·
           rw [if_neg c120] at H
           have c120b0 : (t292 == 0) = false := beq_eq_false_iff_ne.mpr c120
           have c120b1 : (t292 != 0) = true := bne_iff_ne.mpr c120
           exact (no_3 H).elim
         ·
          rw [if_neg c119] at H
          have c119b0 : (t286 == 0) = false := beq_eq_false_iff_ne.mpr c119
          have c119b1 : (t286 != 0) = true := bne_iff_ne.mpr c119
          (first | rw [c119b0] | (simp only [i64_w, i32_w]; rw [c119b0]) | skip)
          exact (no_3 H).elim
        case rest =>
         clear HC54
         try clear c1; try clear c2; try clear p2; try clear c3; try clear c6; try clear p6; try clear c7; try clear c8; try clear c9; try clear c10; try clear c11; try clear c12; try clear c25; try clear c31; try clear c32; try clear c64; try clear p64; try clear c65; try clear c66; try clear c67; try clear c71; try clear c72; try clear c73; try clear c74; try clear c75; try clear c79; try clear c80; try clear c81; try clear c85; try clear c86; try clear c87; try clear c88; try clear c89; try clear c90; try clear c97; try clear c98; try clear c99; try clear c100; try clear c101; try clear c102; try clear c103; try clear c109; try clear c110; try clear c111; try clear c112; try clear c113; try clear c114; try clear c115; try clear c116; try clear c119; try clear c119b0; try clear c119b1; try clear c120; try clear c120b0; try clear c120b1; try clear c121; try clear c121b0; try clear c121b1; try clear c122; try clear c122b0; try clear c122b1; try clear c123; try clear c123b0; try clear c123b1; try clear c124; try clear c124b0; try clear c124b1; try clear hcz104_0; try clear hcz104_1; try clear hcz106_0; try clear hcz106_1; try clear hcz117_0; try clear hcz117_1; try clear hcz68_0; try clear hcz68_1; try clear hcz76_0; try clear hcz76_1; try clear hcz78_0; try clear hcz78_1; try clear hcz82_0; try clear hcz82_1; try clear hcz91_0; try clear hcz91_1; try clear hcz93_0; try clear hcz93_1; try clear hcz94_0; try clear hcz94_1; try clear hfz104_0; try clear hfz104_1; try clear hfz106_0; try clear hfz106_1; try clear hfz117_0; try clear hfz117_1; try clear hfz68_0; try clear hfz68_1; try clear hfz76_0; try clear hfz76_1; try clear hfz78_0; try clear hfz78_1; try clear hfz82_0; try clear hfz82_1; try clear hfz91_0; try clear hfz91_1; try clear hfz93_0; try clear hfz93_1; try clear hfz94_0; try clear hfz94_1
         obtain ⟨kq, x132_53, rfl, HA, HJ53, HO_282001, HO_288001, HO_294001, HO_295001, HO_310001, HO_316001, HO_322001, HO_328001, HO_334001, BK281, BK287, BK293, BK294, BK309, BK315, BK321, BK327, BK333, HB⟩ := hcut
         cases kq with
         | zero => exact absurd HA.out (by simp [tallymanlaw14_HllSets.j3])
         | succ kj53 =>
          have H := HA.out
          clear HA
          simp only [tallymanlaw14_HllSets.j3] at H
          by_cases c125 : x132_53 = true
          ·
           subst c125
           have H1 : (none) = some r := by rw [if_pos rfl] at H; exact H
           clear H
           have H := H1
           clear H1
           exact absurd H (by simp)
          ·
           replace c125 := Bool.eq_false_iff.mpr c125
           subst c125
           have H1 : ((hll_Same.f kj53 t304 t305 t282 t283).bind fun t334 => (if t334 = true then ((hll_Same.f kj53 t316 t317 t310 t311).bind fun t335 => (if t335 = true then ((hll_Same.f kj53 t322 t323 t310 t311).bind fun t336 => (if t336 = true then ((hll_Same.f kj53 t328 t329 t282 t283).bind fun t337 => (if t337 = true then (if (l1.length : Int) > 60 then ((hll_Zeros.f kj53 t282 t283).bind fun t338 => (if 0 ≤ (IntKind.u64.wrap ((wrap64 (4 + t275)))) then (if t338 = (wrap64 ((shl .i64 1 (IntKind.u64.wrap ((wrap64 (4 + t275))))) - (t283.length : Int))) then ((hll_Check.f kj53 t316 t317).bind fun t339 => (some (t339 == 0))) else (none)) else (none))) else ((hll_Same.f kj53 x295000_14 x295001_14 t282 t283).bind fun t340 => (if t340 = true then ((hll_Zeros.f kj53 t282 t283).bind fun t341 => (if 0 ≤ (IntKind.u64.wrap ((wrap64 (4 + t275)))) then (if t341 = (wrap64 ((shl .i64 1 (IntKind.u64.wrap ((wrap64 (4 + t275))))) - (t283.length : Int))) then ((hll_Check.f kj53 t316 t317).bind fun t342 => (some (t342 == 0))) else (none)) else (none))) else (none)))) else (none))) else (none))) else (none))) else (none))) = some r := by rw [if_neg (show ¬ (false = true) by decide)] at H; exact H
           clear H
           have H := H1
           clear H1
           replace H := Option.bind_eq_some_iff.mp H
           obtain ⟨t334, A1260, H⟩ := H
           replace H : (if t334 = true then ((hll_Same.f kj53 t316 t317 t310 t311).bind fun t335 => (if t335 = true then ((hll_Same.f kj53 t322 t323 t310 t311).bind fun t336 => (if t336 = true then ((hll_Same.f kj53 t328 t329 t282 t283).bind fun t337 => (if t337 = true then (if (l1.length : Int) > 60 then ((hll_Zeros.f kj53 t282 t283).bind fun t338 => (if 0 ≤ (IntKind.u64.wrap ((wrap64 (4 + t275)))) then (if t338 = (wrap64 ((shl .i64 1 (IntKind.u64.wrap ((wrap64 (4 + t275))))) - (t283.length : Int))) then ((hll_Check.f kj53 t316 t317).bind fun t339 => (some (t339 == 0))) else (none)) else (none))) else ((hll_Same.f kj53 x295000_14 x295001_14 t282 t283).bind fun t340 => (if t340 = true then ((hll_Zeros.f kj53 t282 t283).bind fun t341 => (if 0 ≤ (IntKind.u64.wrap ((wrap64 (4 + t275)))) then (if t341 = (wrap64 ((shl .i64 1 (IntKind.u64.wrap ((wrap64 (4 + t275))))) - (t283.length : Int))) then ((hll_Check.f kj53 t316 t317).bind fun t342 => (some (t342 == 0))) else (none)) else (none))) else (none)))) else (none))) else (none))) else (none))) else (none)) = some r := H
           have A126 := Aside0.mk A1260
           clear A1260
           by_cases c127 : t334 = true
           ·
            subst c127
            have H1 : ((hll_Same.f kj53 t316 t317 t310 t311).bind fun t335 => (if t335 = true then ((hll_Same.f kj53 t322 t323 t310 t311).bind fun t336 => (if t336 = true then ((hll_Same.f kj53 t328 t329 t282 t283).bind fun t337 => (if t337 = true then (if (l1.length : Int) > 60 then ((hll_Zeros.f kj53 t282 t283).bind fun t338 => (if 0 ≤ (IntKind.u64.wrap ((wrap64 (4 + t275)))) then (if t338 = (wrap64 ((shl .i64 1 (IntKind.u64.wrap ((wrap64 (4 + t275))))) - (t283.length : Int))) then ((hll_Check.f kj53 t316 t317).bind fun t339 => (some (t339 == 0))) else (none)) else (none))) else ((hll_Same.f kj53 x295000_14 x295001_14 t282 t283).bind fun t340 => (if t340 = true then ((hll_Zeros.f kj53 t282 t283).bind fun t341 => (if 0 ≤ (IntKind.u64.wrap ((wrap64 (4 + t275)))) then (if t341 = (wrap64 ((shl .i64 1 (IntKind.u64.wrap ((wrap64 (4 + t275))))) - (t283.length : Int))) then ((hll_Check.f kj53 t316 t317).bind fun t342 => (some (t342 == 0))) else (none)) else (none))) else (none)))) else (none))) else (none))) else (none))) = some r := by rw [if_pos rfl] at H; exact H
            clear H
            have H := H1
            clear H1
            replace H := Option.bind_eq_some_iff.mp H
            obtain ⟨t335, A1280, H⟩ := H
            replace H : (if t335 = true then ((hll_Same.f kj53 t322 t323 t310 t311).bind fun t336 => (if t336 = true then ((hll_Same.f kj53 t328 t329 t282 t283).bind fun t337 => (if t337 = true then (if (l1.length : Int) > 60 then ((hll_Zeros.f kj53 t282 t283).bind fun t338 => (if 0 ≤ (IntKind.u64.wrap ((wrap64 (4 + t275)))) then (if t338 = (wrap64 ((shl .i64 1 (IntKind.u64.wrap ((wrap64 (4 + t275))))) - (t283.length : Int))) then ((hll_Check.f kj53 t316 t317).bind fun t339 => (some (t339 == 0))) else (none)) else (none))) else ((hll_Same.f kj53 x295000_14 x295001_14 t282 t283).bind fun t340 => (if t340 = true then ((hll_Zeros.f kj53 t282 t283).bind fun t341 => (if 0 ≤ (IntKind.u64.wrap ((wrap64 (4 + t275)))) then (if t341 = (wrap64 ((shl .i64 1 (IntKind.u64.wrap ((wrap64 (4 + t275))))) - (t283.length : Int))) then ((hll_Check.f kj53 t316 t317).bind fun t342 => (some (t342 == 0))) else (none)) else (none))) else (none)))) else (none))) else (none))) else (none)) = some r := H
            have A128 := Aside0.mk A1280
            clear A1280
            by_cases c129 : t335 = true
            ·
             subst c129
             have H1 : ((hll_Same.f kj53 t322 t323 t310 t311).bind fun t336 => (if t336 = true then ((hll_Same.f kj53 t328 t329 t282 t283).bind fun t337 => (if t337 = true then (if (l1.length : Int) > 60 then ((hll_Zeros.f kj53 t282 t283).bind fun t338 => (if 0 ≤ (IntKind.u64.wrap ((wrap64 (4 + t275)))) then (if t338 = (wrap64 ((shl .i64 1 (IntKind.u64.wrap ((wrap64 (4 + t275))))) - (t283.length : Int))) then ((hll_Check.f kj53 t316 t317).bind fun t339 => (some (t339 == 0))) else (none)) else (none))) else ((hll_Same.f kj53 x295000_14 x295001_14 t282 t283).bind fun t340 => (if t340 = true then ((hll_Zeros.f kj53 t282 t283).bind fun t341 => (if 0 ≤ (IntKind.u64.wrap ((wrap64 (4 + t275)))) then (if t341 = (wrap64 ((shl .i64 1 (IntKind.u64.wrap ((wrap64 (4 + t275))))) - (t283.length : Int))) then ((hll_Check.f kj53 t316 t317).bind fun t342 => (some (t342 == 0))) else (none)) else (none))) else (none)))) else (none))) else (none))) = some r := by rw [if_pos rfl] at H; exact H
             clear H
             have H := H1
             clear H1
             replace H := Option.bind_eq_some_iff.mp H
             obtain ⟨t336, A1300, H⟩ := H
             replace H : (if t336 = true then ((hll_Same.f kj53 t328 t329 t282 t283).bind fun t337 => (if t337 = true then (if (l1.length : Int) > 60 then ((hll_Zeros.f kj53 t282 t283).bind fun t338 => (if 0 ≤ (IntKind.u64.wrap ((wrap64 (4 + t275)))) then (if t338 = (wrap64 ((shl .i64 1 (IntKind.u64.wrap ((wrap64 (4 + t275))))) - (t283.length : Int))) then ((hll_Check.f kj53 t316 t317).bind fun t339 => (some (t339 == 0))) else (none)) else (none))) else ((hll_Same.f kj53 x295000_14 x295001_14 t282 t283).bind fun t340 => (if t340 = true then ((hll_Zeros.f kj53 t282 t283).bind fun t341 => (if 0 ≤ (IntKind.u64.wrap ((wrap64 (4 + t275)))) then (if t341 = (wrap64 ((shl .i64 1 (IntKind.u64.wrap ((wrap64 (4 + t275))))) - (t283.length : Int))) then ((hll_Check.f kj53 t316 t317).bind fun t342 => (some (t342 == 0))) else (none)) else (none))) else (none)))) else (none))) else (none)) = some r := H
             have A130 := Aside0.mk A1300
             clear A1300
             by_cases c131 : t336 = true
             ·
              subst c131
              have H1 : ((hll_Same.f kj53 t328 t329 t282 t283).bind fun t337 => (if t337 = true then (if (l1.length : Int) > 60 then ((hll_Zeros.f kj53 t282 t283).bind fun t338 => (if 0 ≤ (IntKind.u64.wrap ((wrap64 (4 + t275)))) then (if t338 = (wrap64 ((shl .i64 1 (IntKind.u64.wrap ((wrap64 (4 + t275))))) - (t283.length : Int))) then ((hll_Check.f kj53 t316 t317).bind fun t339 => (some (t339 == 0))) else (none)) else (none))) else ((hll_Same.f kj53 x295000_14 x295001_14 t282 t283).bind fun t340 => (if t340 = true then ((hll_Zeros.f kj53 t282 t283).bind fun t341 => (if 0 ≤ (IntKind.u64.wrap ((wrap64 (4 + t275)))) then (if t341 = (wrap64 ((shl .i64 1 (IntKind.u64.wrap ((wrap64 (4 + t275))))) - (t283.length : Int))) then ((hll_Check.f kj53 t316 t317).bind fun t342 => (some (t342 == 0))) else (none)) else (none))) else (none)))) else (none))) = some r := by rw [if_pos rfl] at H; exact H
              clear H
              have H := H1
              clear H1
              replace H := Option.bind_eq_some_iff.mp H
              obtain ⟨t337, A1320, H⟩ := H
              replace H : (if t337 = true then (if (l1.length : Int) > 60 then ((hll_Zeros.f kj53 t282 t283).bind fun t338 => (if 0 ≤ (IntKind.u64.wrap ((wrap64 (4 + t275)))) then (if t338 = (wrap64 ((shl .i64 1 (IntKind.u64.wrap ((wrap64 (4 + t275))))) - (t283.length : Int))) then ((hll_Check.f kj53 t316 t317).bind fun t339 => (some (t339 == 0))) else (none)) else (none))) else ((hll_Same.f kj53 x295000_14 x295001_14 t282 t283).bind fun t340 => (if t340 = true then ((hll_Zeros.f kj53 t282 t283).bind fun t341 => (if 0 ≤ (IntKind.u64.wrap ((wrap64 (4 + t275)))) then (if t341 = (wrap64 ((shl .i64 1 (IntKind.u64.wrap ((wrap64 (4 + t275))))) - (t283.length : Int))) then ((hll_Check.f kj53 t316 t317).bind fun t342 => (some (t342 == 0))) else (none)) else (none))) else (none)))) else (none)) = some r := H
              have A132 := Aside0.mk A1320
              clear A1320
              by_cases c133 : t337 = true
              ·
               subst c133
               have H1 : (if (l1.length : Int) > 60 then ((hll_Zeros.f kj53 t282 t283).bind fun t338 => (if 0 ≤ (IntKind.u64.wrap ((wrap64 (4 + t275)))) then (if t338 = (wrap64 ((shl .i64 1 (IntKind.u64.wrap ((wrap64 (4 + t275))))) - (t283.length : Int))) then ((hll_Check.f kj53 t316 t317).bind fun t339 => (some (t339 == 0))) else (none)) else (none))) else ((hll_Same.f kj53 x295000_14 x295001_14 t282 t283).bind fun t340 => (if t340 = true then ((hll_Zeros.f kj53 t282 t283).bind fun t341 => (if 0 ≤ (IntKind.u64.wrap ((wrap64 (4 + t275)))) then (if t341 = (wrap64 ((shl .i64 1 (IntKind.u64.wrap ((wrap64 (4 + t275))))) - (t283.length : Int))) then ((hll_Check.f kj53 t316 t317).bind fun t342 => (some (t342 == 0))) else (none)) else (none))) else (none)))) = some r := by rw [if_pos rfl] at H; exact H
               clear H
               have H := H1
               clear H1
               by_cases c134 : (l1.length : Int) > 60
               ·
                rw [if_pos c134] at H
                have c134b0 : decide (60 < (l1.length : Int)) = true := decide_eq_true c134
                have c134b1 : decide (60 < l1.length) = true := decide_eq_true (by omega)
                clear c134
                replace H := Option.bind_eq_some_iff.mp H
                obtain ⟨t338, A1350, H⟩ := H
                replace H : (if 0 ≤ (IntKind.u64.wrap ((wrap64 (4 + t275)))) then (if t338 = (wrap64 ((shl .i64 1 (IntKind.u64.wrap ((wrap64 (4 + t275))))) - (t283.length : Int))) then ((hll_Check.f kj53 t316 t317).bind fun t339 => (some (t339 == 0))) else (none)) else (none)) = some r := H
                have A135 := Aside0.mk A1350
                clear A1350
                obtain ⟨ji136, hji136⟩ : ∃ j_ : Int, (IntKind.u64.wrap ((wrap64 (4 + t275)))) = j_ := ⟨_, rfl⟩
                replace H : (if 0 ≤ (ji136) then (if t338 = (wrap64 ((shl .i64 1 (ji136)) - (t283.length : Int))) then ((hll_Check.f kj53 t316 t317).bind fun t339 => (some (t339 == 0))) else (none)) else (none)) = some r := by first | (rw [hji136] at H; exact H) | (simp only [hji136] at H ⊢; exact H)
                (try rw [hji136] at A126)
                (try rw [hji136] at A128)
                (try rw [hji136] at A130)
                (try rw [hji136] at A132)
                (try rw [hji136] at A135)
                by_cases c137 : 0 ≤ (ji136)
                ·
                 rw [if_pos c137] at H
                 have c137b0 := eq_true c137
                 have c137b1 : decide (0 ≤ (ji136)) = true := decide_eq_true c137
                 clear c137
                 obtain ⟨ji138, hji138⟩ : ∃ j_ : Int, (shl .i64 1 (ji136)) = j_ := ⟨_, rfl⟩
                 replace H : (if t338 = (wrap64 ((ji138) - (t283.length : Int))) then ((hll_Check.f kj53 t316 t317).bind fun t339 => (some (t339 == 0))) else (none)) = some r := by first | (rw [hji138] at H; exact H) | (simp only [hji138] at H ⊢; exact H)
                 (try rw [hji138] at A126)
                 (try rw [hji138] at A128)
                 (try rw [hji138] at A130)
                 (try rw [hji138] at A132)
                 (try rw [hji138] at A135)
                 have hji138_ : (IntKind.i64.wrap (1 * 2 ^ min (ji136).toNat 64)) = ji138 := hji138
                 have hji138z : (ji136) ≤ 64 → (IntKind.i64.wrap (1 * 2 ^ (ji136).toNat)) = ji138 := shl_small hji138
                 have hji138u : (IntKind.i64.wrap (2 ^ min (ji136).toNat 64)) = ji138 := by have h_ := hji138_; rw [Int.one_mul] at h_; exact h_
                 have hji138v : (ji136) ≤ 64 → (IntKind.i64.wrap (2 ^ (ji136).toNat)) = ji138 := fun hle_ => by have h_ := hji138z hle_; rw [Int.one_mul] at h_; exact h_
                 have hji138y : (wrap64 (1 * 2 ^ min (ji136).toNat 64)) = ji138 := (i64_w _).symm.trans hji138_
                 have hji138x : (ji136) ≤ 64 → (wrap64 (1 * 2 ^ (ji136).toNat)) = ji138 := fun h_ => (i64_w _).symm.trans (hji138z h_)
                 by_cases c139 : t338 = (wrap64 ((ji138) - (t283.length : Int)))
                 ·
                  rw [if_pos c139] at H
                  have c139b0 : (t338 == (wrap64 ((ji138) - (t283.length : Int)))) = true := beq_iff_eq.mpr c139
                  have c139b1 : (t338 != (wrap64 ((ji138) - (t283.length : Int)))) = false := bne_eq_false_iff_eq.mpr c139
                  clear c139
                  replace H := Option.bind_eq_some_iff.mp H
                  obtain ⟨t339, A1400, H⟩ := H
                  replace H : (some (t339 == 0)) = some r := H
                  have A140 := Aside0.mk A1400
                  clear A1400
                  obtain rfl := Option.some.inj H
                  try go_wp2
                  replace HO_282001 := am (Kd.R_drew HO_282001.out); replace HO_288001 := am (Kd.R_drew HO_288001.out); replace HO_294001 := am (Kd.R_drew HO_294001.out); replace HO_295001 := am (Kd.R_drew HO_295001.out); replace HO_310001 := am (Kd.R_drew HO_310001.out); replace HO_316001 := am (Kd.R_drew HO_316001.out); replace HO_322001 := am (Kd.R_drew HO_322001.out); replace HO_328001 := am (Kd.R_drew HO_328001.out); replace HO_334001 := am (Kd.R_drew HO_334001.out); replace BK281 := am (blk_drew BK281.out); replace BK287 := am (blk_drew BK287.out); replace BK293 := am (blk_drew BK293.out); replace BK294 := am (blk_drew BK294.out); replace BK309 := am (blk_drew BK309.out); replace BK315 := am (blk_drew BK315.out); replace BK321 := am (blk_drew BK321.out); replace BK327 := am (blk_drew BK327.out); replace BK333 := am (blk_drew BK333.out); replace HB := am (below_drew1 HB.out)
                  refine start_ (n := 46) (S := fun w' => w'.cell? ⟨gb309, 0, none⟩ = some (.int .i64 t304) ∧ w'.cell? ⟨gb309, 1, none⟩ = some (.slice Ao62 t305.length co62) ∧ w'.cell? ⟨gb287, 0, none⟩ = some (.int .i64 t282) ∧ w'.cell? ⟨gb287, 1, none⟩ = some (.slice Ao24 t283.length co24) ∧ w'.cell? ⟨gb321, 0, none⟩ = some (.int .i64 t316) ∧ w'.cell? ⟨gb321, 1, none⟩ = some (.slice Ao92 t317.length co92) ∧ w'.cell? ⟨gb315, 0, none⟩ = some (.int .i64 t310) ∧ w'.cell? ⟨gb315, 1, none⟩ = some (.slice Ao77 t311.length co77) ∧ w'.cell? ⟨gb327, 0, none⟩ = some (.int .i64 t322) ∧ w'.cell? ⟨gb327, 1, none⟩ = some (.slice Ao105 t323.length co105) ∧ w'.cell? ⟨gb333, 0, none⟩ = some (.int .i64 t328) ∧ w'.cell? ⟨gb333, 1, none⟩ = some (.slice Ao118 t329.length co118)) (ds := []) (tb 0 46) (by kernel_rfl) rfl rfl ⟨(blk_cell BK309.out 0).trans rfl, (blk_cell BK309.out 1).trans rfl, (blk_cell BK287.out 0).trans rfl, (blk_cell BK287.out 1).trans rfl, (blk_cell BK321.out 0).trans rfl, (blk_cell BK321.out 1).trans rfl, (blk_cell BK315.out 0).trans rfl, (blk_cell BK315.out 1).trans rfl, (blk_cell BK327.out 0).trans rfl, (blk_cell BK327.out 1).trans rfl, (blk_cell BK333.out 0).trans rfl, (blk_cell BK333.out 1).trans rfl⟩ (fun hHeld => ?_); refine with_tabW tallymanlaw14_HllSets.tab23 tallymanlaw14_HllSets.bits23 (fun HT_ HW_ => ?_)
                  generalize wc.drew = w141 at HO_282001 HO_288001 HO_294001 HO_295001 HO_310001 HO_316001 HO_322001 HO_328001 HO_334001 BK281 BK287 BK293 BK294 BK309 BK315 BK321 BK327 BK333 HB hHeld ⊢
                  refine tk 0 (some 133) (v := ?_) (a' := ?_) (tb 1 46) rfl rfl (take_ofW HT_.out HW_.out (by kernel_rfl)) (fun _ _ _ h => h) ⟨by rfl, ?_⟩ hHeld ?_ ?_; rotate_left; · (rintro w' ⟨s0, s1, s2, s3, s4, s5, s6, s7, s8, s9, s10, s11⟩; go_simp; with_reducible rfl)
                  rotate_left; · (simp only [Act.put, sa_, sb_, sc_, i64_w, i32_w]; rfl)
                  refine tk 1 (some 134) (v := ?_) (a' := ?_) (tb 2 46) rfl rfl (take_ofW HT_.out HW_.out (by kernel_rfl)) (fun _ _ _ h => h) ⟨by rfl, ?_⟩ hHeld ?_ ?_; rotate_left; · (rintro w' ⟨s0, s1, s2, s3, s4, s5, s6, s7, s8, s9, s10, s11⟩; go_simp; with_reducible rfl)
                  rotate_left; · (simp only [Act.put, sa_, sb_, sc_, i64_w, i32_w]; rfl)
                  refine one_ (i := 2) (N := some 135) (tb 3 46) rfl rfl (one_of HT_.out (by kernel_rfl)) (by decide) (fun K hK => ?_)
                  refine goes_ Try.func29 (by kernel_rfl) rfl #[.agg #[.int .i64 t304, .slice Ao62 t305.length co62], .agg #[.int .i64 t282, .slice Ao24 t283.length co24]] (by rfl) rfl rfl (by (try simp only [List.map_toArray, List.map_cons, List.map_nil]); first | done | rfl | (simp only [List.length_drop, List.length_take]; rfl)) ?_
                  with_reducible refine (hll_Same.calls kj53 t304 _ _ t305 t282 _ _ t283 true _ ?side1 ?side2 ?side3 ?side4 A126.out).mono ?_
                  (case side1 => repeat (first | exact (Kd.R_reads' HO_310001.out).2.2 | (with_reducible refine Kd.C_alloc ?_ _) | (with_reducible refine Kd.C_drewN ?_ _) | (with_reducible refine Kd.C_drew ?_)))
                  (case side2 => exact (Kd.R_reads' HO_310001.out).2.1)
                  (case side3 => repeat (first | exact (Kd.R_reads' HO_288001.out).2.2 | (with_reducible refine Kd.C_alloc ?_ _) | (with_reducible refine Kd.C_drewN ?_ _) | (with_reducible refine Kd.C_drew ?_)))
                  (case side4 => exact (Kd.R_reads' HO_288001.out).2.1)
                  rintro e w142 ⟨rfl, hb⟩
                  refine ⟨_, rfl, ?_⟩
                  replace HO_282001 := rb HO_282001 hb; replace HO_288001 := rb HO_288001 hb; replace HO_294001 := rb HO_294001 hb; replace HO_295001 := rb HO_295001 hb; replace HO_310001 := rb HO_310001 hb; replace HO_316001 := rb HO_316001 hb; replace HO_322001 := rb HO_322001 hb; replace HO_328001 := rb HO_328001 hb; replace HO_334001 := rb HO_334001 hb; replace BK281 := bb BK281 hb; replace BK287 := bb BK287 hb; replace BK293 := bb BK293 hb; replace BK294 := bb BK294 hb; replace BK309 := bb BK309 hb; replace BK315 := bb BK315 hb; replace BK321 := bb BK321 hb; replace BK327 := bb BK327 hb; replace BK333 := bb BK333 hb; replace HB := am (below_step (by repeat (first | (with_reducible first | exact HB.out | apply below_alloc | apply pw_below_drewN | apply below_drew1 | refine below_set ?_ (Aside0.out (by assumption))) | exact HB.out)) hb)
                  (try clear hb)
                  (try clear hb2)
                  (try clear hk)
                  (try clear hi)
                  refine hK.out _ _ ⟨(blk_cell BK309.out 0).trans rfl, (blk_cell BK309.out 1).trans rfl, (blk_cell BK287.out 0).trans rfl, (blk_cell BK287.out 1).trans rfl, (blk_cell BK321.out 0).trans rfl, (blk_cell BK321.out 1).trans rfl, (blk_cell BK315.out 0).trans rfl, (blk_cell BK315.out 1).trans rfl, (blk_cell BK327.out 0).trans rfl, (blk_cell BK327.out 1).trans rfl, (blk_cell BK333.out 0).trans rfl, (blk_cell BK333.out 1).trans rfl⟩ (fun hHeld => ?_)
                  clear hK K
                  refine norm_ (a' := ?_) ?_ ?_
                  rotate_left
                  ·
                   show Act.put _ (some 135) _ = _
                   simp only [Act.put, List.setIfInBounds_toArray, List.set_cons_zero, List.set_cons_succ, i64_w, i32_w]
                   rfl
                  refine pu 3 (some 136) (v := ?_) (a' := ?_) (tb 4 46) rfl rfl (any_of HT_.out (by kernel_rfl)) (fun _ _ _ h => h) ⟨by rfl, ?_⟩ ?_ ?_; rotate_left; · (intro w'; go_simp; with_reducible rfl)
                  rotate_left; · (simp only [Act.put, sa_, sb_, sc_, i64_w, i32_w]; rfl)
                  refine tk 4 (some 137) (v := ?_) (a' := ?_) (tb 5 46) rfl rfl (take_ofW HT_.out HW_.out (by kernel_rfl)) (fun _ _ _ h => h) ⟨by rfl, ?_⟩ hHeld ?_ ?_; rotate_left; · (rintro w' ⟨s0, s1, s2, s3, s4, s5, s6, s7, s8, s9, s10, s11⟩; go_simp; with_reducible rfl)
                  rotate_left; · (simp only [Act.put, sa_, sb_, sc_, i64_w, i32_w]; rfl)
                  refine tk 5 (some 138) (v := ?_) (a' := ?_) (tb 6 46) rfl rfl (take_ofW HT_.out HW_.out (by kernel_rfl)) (fun _ _ _ h => h) ⟨by rfl, ?_⟩ hHeld ?_ ?_; rotate_left; · (rintro w' ⟨s0, s1, s2, s3, s4, s5, s6, s7, s8, s9, s10, s11⟩; go_simp; with_reducible rfl)
                  rotate_left; · (simp only [Act.put, sa_, sb_, sc_, i64_w, i32_w]; rfl)
                  refine one_ (i := 6) (N := some 139) (tb 7 46) rfl rfl (one_of HT_.out (by kernel_rfl)) (by decide) (fun K hK => ?_)
                  refine goes_ Try.func29 (by kernel_rfl) rfl #[.agg #[.int .i64 t316, .slice Ao92 t317.length co92], .agg #[.int .i64 t310, .slice Ao77 t311.length co77]] (by rfl) rfl rfl (by (try simp only [List.map_toArray, List.map_cons, List.map_nil]); first | done | rfl | (simp only [List.length_drop, List.length_take]; rfl)) ?_
                  with_reducible refine (hll_Same.calls kj53 t316 _ _ t317 t310 _ _ t311 true _ ?side1 ?side2 ?side3 ?side4 A128.out).mono ?_
                  (case side1 => repeat (first | exact (Kd.R_reads' HO_322001.out).2.2 | (with_reducible refine Kd.C_alloc ?_ _) | (with_reducible refine Kd.C_drewN ?_ _) | (with_reducible refine Kd.C_drew ?_)))
                  (case side2 => exact (Kd.R_reads' HO_322001.out).2.1)
                  (case side3 => repeat (first | exact (Kd.R_reads' HO_316001.out).2.2 | (with_reducible refine Kd.C_alloc ?_ _) | (with_reducible refine Kd.C_drewN ?_ _) | (with_reducible refine Kd.C_drew ?_)))
                  (case side4 => exact (Kd.R_reads' HO_316001.out).2.1)
                  rintro e w143 ⟨rfl, hb⟩
                  refine ⟨_, rfl, ?_⟩
                  replace HO_282001 := rb HO_282001 hb; replace HO_288001 := rb HO_288001 hb; replace HO_294001 := rb HO_294001 hb; replace HO_295001 := rb HO_295001 hb; replace HO_310001 := rb HO_310001 hb; replace HO_316001 := rb HO_316001 hb; replace HO_322001 := rb HO_322001 hb; replace HO_328001 := rb HO_328001 hb; replace HO_334001 := rb HO_334001 hb; replace BK281 := bb BK281 hb; replace BK287 := bb BK287 hb; replace BK293 := bb BK293 hb; replace BK294 := bb BK294 hb; replace BK309 := bb BK309 hb; replace BK315 := bb BK315 hb; replace BK321 := bb BK321 hb; replace BK327 := bb BK327 hb; replace BK333 := bb BK333 hb; replace HB := am (below_step (by repeat (first | (with_reducible first | exact HB.out | apply below_alloc | apply pw_below_drewN | apply below_drew1 | refine below_set ?_ (Aside0.out (by assumption))) | exact HB.out)) hb)
                  (try clear hb)
                  (try clear hb2)
                  (try clear hk)
                  (try clear hi)
                  refine hK.out _ _ ⟨(blk_cell BK309.out 0).trans rfl, (blk_cell BK309.out 1).trans rfl, (blk_cell BK287.out 0).trans rfl, (blk_cell BK287.out 1).trans rfl, (blk_cell BK321.out 0).trans rfl, (blk_cell BK321.out 1).trans rfl, (blk_cell BK315.out 0).trans rfl, (blk_cell BK315.out 1).trans rfl, (blk_cell BK327.out 0).trans rfl, (blk_cell BK327.out 1).trans rfl, (blk_cell BK333.out 0).trans rfl, (blk_cell BK333.out 1).trans rfl⟩ (fun hHeld => ?_)
                  clear hK K
                  refine norm_ (a' := ?_) ?_ ?_
                  rotate_left
                  ·
                   show Act.put _ (some 139) _ = _
                   simp only [Act.put, List.setIfInBounds_toArray, List.set_cons_zero, List.set_cons_succ, i64_w, i32_w]
                   rfl
                  refine pu 7 (some 140) (v := ?_) (a' := ?_) (tb 8 46) rfl rfl (any_of HT_.out (by kernel_rfl)) (fun _ _ _ h => h) ⟨by rfl, ?_⟩ ?_ ?_; rotate_left; · (intro w'; go_simp; with_reducible rfl)
                  rotate_left; · (simp only [Act.put, sa_, sb_, sc_, i64_w, i32_w]; rfl)
                  refine pu 8 (some 141) (v := ?_) (a' := ?_) (tb 9 46) rfl rfl (any_of HT_.out (by kernel_rfl)) (fun _ _ _ h => h) ⟨by rfl, ?_⟩ ?_ ?_; rotate_left; · (intro w'; go_simp; with_reducible rfl)
                  rotate_left; · (simp only [Act.put, sa_, sb_, sc_, i64_w, i32_w]; rfl)
                  refine tk 9 (some 142) (v := ?_) (a' := ?_) (tb 10 46) rfl rfl (take_ofW HT_.out HW_.out (by kernel_rfl)) (fun _ _ _ h => h) ⟨by rfl, ?_⟩ hHeld ?_ ?_; rotate_left; · (rintro w' ⟨s0, s1, s2, s3, s4, s5, s6, s7, s8, s9, s10, s11⟩; go_simp; with_reducible rfl)
                  rotate_left; · (simp only [Act.put, sa_, sb_, sc_, i64_w, i32_w]; rfl)
                  refine tk 10 (some 143) (v := ?_) (a' := ?_) (tb 11 46) rfl rfl (take_ofW HT_.out HW_.out (by kernel_rfl)) (fun _ _ _ h => h) ⟨by rfl, ?_⟩ hHeld ?_ ?_; rotate_left; · (rintro w' ⟨s0, s1, s2, s3, s4, s5, s6, s7, s8, s9, s10, s11⟩; go_simp; with_reducible rfl)
                  rotate_left; · (simp only [Act.put, sa_, sb_, sc_, i64_w, i32_w]; rfl)
                  refine one_ (i := 11) (N := some 144) (tb 12 46) rfl rfl (one_of HT_.out (by kernel_rfl)) (by decide) (fun K hK => ?_)
                  refine goes_ Try.func29 (by kernel_rfl) rfl #[.agg #[.int .i64 t322, .slice Ao105 t323.length co105], .agg #[.int .i64 t310, .slice Ao77 t311.length co77]] (by rfl) rfl rfl (by (try simp only [List.map_toArray, List.map_cons, List.map_nil]); first | done | rfl | (simp only [List.length_drop, List.length_take]; rfl)) ?_
                  with_reducible refine (hll_Same.calls kj53 t322 _ _ t323 t310 _ _ t311 true _ ?side1 ?side2 ?side3 ?side4 A130.out).mono ?_
                  (case side1 => repeat (first | exact (Kd.R_reads' HO_328001.out).2.2 | (with_reducible refine Kd.C_alloc ?_ _) | (with_reducible refine Kd.C_drewN ?_ _) | (with_reducible refine Kd.C_drew ?_)))
                  (case side2 => exact (Kd.R_reads' HO_328001.out).2.1)
                  (case side3 => repeat (first | exact (Kd.R_reads' HO_316001.out).2.2 | (with_reducible refine Kd.C_alloc ?_ _) | (with_reducible refine Kd.C_drewN ?_ _) | (with_reducible refine Kd.C_drew ?_)))
                  (case side4 => exact (Kd.R_reads' HO_316001.out).2.1)
                  rintro e w144 ⟨rfl, hb⟩
                  refine ⟨_, rfl, ?_⟩
                  replace HO_282001 := rb HO_282001 hb; replace HO_288001 := rb HO_288001 hb; replace HO_294001 := rb HO_294001 hb; replace HO_295001 := rb HO_295001 hb; replace HO_310001 := rb HO_310001 hb; replace HO_316001 := rb HO_316001 hb; replace HO_322001 := rb HO_322001 hb; replace HO_328001 := rb HO_328001 hb; replace HO_334001 := rb HO_334001 hb; replace BK281 := bb BK281 hb; replace BK287 := bb BK287 hb; replace BK293 := bb BK293 hb; replace BK294 := bb BK294 hb; replace BK309 := bb BK309 hb; replace BK315 := bb BK315 hb; replace BK321 := bb BK321 hb; replace BK327 := bb BK327 hb; replace BK333 := bb BK333 hb; replace HB := am (below_step (by repeat (first | (with_reducible first | exact HB.out | apply below_alloc | apply pw_below_drewN | apply below_drew1 | refine below_set ?_ (Aside0.out (by assumption))) | exact HB.out)) hb)
                  (try clear hb)
                  (try clear hb2)
                  (try clear hk)
                  (try clear hi)
                  refine hK.out _ _ ⟨(blk_cell BK309.out 0).trans rfl, (blk_cell BK309.out 1).trans rfl, (blk_cell BK287.out 0).trans rfl, (blk_cell BK287.out 1).trans rfl, (blk_cell BK321.out 0).trans rfl, (blk_cell BK321.out 1).trans rfl, (blk_cell BK315.out 0).trans rfl, (blk_cell BK315.out 1).trans rfl, (blk_cell BK327.out 0).trans rfl, (blk_cell BK327.out 1).trans rfl, (blk_cell BK333.out 0).trans rfl, (blk_cell BK333.out 1).trans rfl⟩ (fun hHeld => ?_)
                  clear hK K
                  refine norm_ (a' := ?_) ?_ ?_
                  rotate_left
                  ·
                   show Act.put _ (some 144) _ = _
                   simp only [Act.put, List.setIfInBounds_toArray, List.set_cons_zero, List.set_cons_succ, i64_w, i32_w]
                   rfl
                  refine pu 12 (some 145) (v := ?_) (a' := ?_) (tb 13 46) rfl rfl (any_of HT_.out (by kernel_rfl)) (fun _ _ _ h => h) ⟨by rfl, ?_⟩ ?_ ?_; rotate_left; · (intro w'; go_simp; with_reducible rfl)
                  rotate_left; · (simp only [Act.put, sa_, sb_, sc_, i64_w, i32_w]; rfl)
                  refine pu 13 (some 146) (v := ?_) (a' := ?_) (tb 14 46) rfl rfl (any_of HT_.out (by kernel_rfl)) (fun _ _ _ h => h) ⟨by rfl, ?_⟩ ?_ ?_; rotate_left; · (intro w'; go_simp; with_reducible rfl)
                  rotate_left; · (simp only [Act.put, sa_, sb_, sc_, i64_w, i32_w]; rfl)
                  refine tk 14 (some 147) (v := ?_) (a' := ?_) (tb 15 46) rfl rfl (take_ofW HT_.out HW_.out (by kernel_rfl)) (fun _ _ _ h => h) ⟨by rfl, ?_⟩ hHeld ?_ ?_; rotate_left; · (rintro w' ⟨s0, s1, s2, s3, s4, s5, s6, s7, s8, s9, s10, s11⟩; go_simp; with_reducible rfl)
                  rotate_left; · (simp only [Act.put, sa_, sb_, sc_, i64_w, i32_w]; rfl)
                  refine tk 15 (some 148) (v := ?_) (a' := ?_) (tb 16 46) rfl rfl (take_ofW HT_.out HW_.out (by kernel_rfl)) (fun _ _ _ h => h) ⟨by rfl, ?_⟩ hHeld ?_ ?_; rotate_left; · (rintro w' ⟨s0, s1, s2, s3, s4, s5, s6, s7, s8, s9, s10, s11⟩; go_simp; with_reducible rfl)
                  rotate_left; · (simp only [Act.put, sa_, sb_, sc_, i64_w, i32_w]; rfl)
                  refine one_ (i := 16) (N := some 149) (tb 17 46) rfl rfl (one_of HT_.out (by kernel_rfl)) (by decide) (fun K hK => ?_)
                  refine goes_ Try.func29 (by kernel_rfl) rfl #[.agg #[.int .i64 t328, .slice Ao118 t329.length co118], .agg #[.int .i64 t282, .slice Ao24 t283.length co24]] (by rfl) rfl rfl (by (try simp only [List.map_toArray, List.map_cons, List.map_nil]); first | done | rfl | (simp only [List.length_drop, List.length_take]; rfl)) ?_
                  with_reducible refine (hll_Same.calls kj53 t328 _ _ t329 t282 _ _ t283 true _ ?side1 ?side2 ?side3 ?side4 A132.out).mono ?_
                  (case side1 => repeat (first | exact (Kd.R_reads' HO_334001.out).2.2 | (with_reducible refine Kd.C_alloc ?_ _) | (with_reducible refine Kd.C_drewN ?_ _) | (with_reducible refine Kd.C_drew ?_)))
                  (case side2 => exact (Kd.R_reads' HO_334001.out).2.1)
                  (case side3 => repeat (first | exact (Kd.R_reads' HO_288001.out).2.2 | (with_reducible refine Kd.C_alloc ?_ _) | (with_reducible refine Kd.C_drewN ?_ _) | (with_reducible refine Kd.C_drew ?_)))
                  (case side4 => exact (Kd.R_reads' HO_288001.out).2.1)
                  rintro e w145 ⟨rfl, hb⟩
                  refine ⟨_, rfl, ?_⟩
                  replace HO_282001 := rb HO_282001 hb; replace HO_288001 := rb HO_288001 hb; replace HO_294001 := rb HO_294001 hb; replace HO_295001 := rb HO_295001 hb; replace HO_310001 := rb HO_310001 hb; replace HO_316001 := rb HO_316001 hb; replace HO_322001 := rb HO_322001 hb; replace HO_328001 := rb HO_328001 hb; replace HO_334001 := rb HO_334001 hb; replace BK281 := bb BK281 hb; replace BK287 := bb BK287 hb; replace BK293 := bb BK293 hb; replace BK294 := bb BK294 hb; replace BK309 := bb BK309 hb; replace BK315 := bb BK315 hb; replace BK321 := bb BK321 hb; replace BK327 := bb BK327 hb; replace BK333 := bb BK333 hb; replace HB := am (below_step (by repeat (first | (with_reducible first | exact HB.out | apply below_alloc | apply pw_below_drewN | apply below_drew1 | refine below_set ?_ (Aside0.out (by assumption))) | exact HB.out)) hb)
                  (try clear hb)
                  (try clear hb2)
                  (try clear hk)
                  (try clear hi)
                  refine hK.out _ _ ⟨(blk_cell BK309.out 0).trans rfl, (blk_cell BK309.out 1).trans rfl, (blk_cell BK287.out 0).trans rfl, (blk_cell BK287.out 1).trans rfl, (blk_cell BK321.out 0).trans rfl, (blk_cell BK321.out 1).trans rfl, (blk_cell BK315.out 0).trans rfl, (blk_cell BK315.out 1).trans rfl, (blk_cell BK327.out 0).trans rfl, (blk_cell BK327.out 1).trans rfl, (blk_cell BK333.out 0).trans rfl, (blk_cell BK333.out 1).trans rfl⟩ (fun hHeld => ?_)
                  clear hK K
                  refine norm_ (a' := ?_) ?_ ?_
                  rotate_left
                  ·
                   show Act.put _ (some 149) _ = _
                   simp only [Act.put, List.setIfInBounds_toArray, List.set_cons_zero, List.set_cons_succ, i64_w, i32_w]
                   rfl
                  refine pu 17 (some 150) (v := ?_) (a' := ?_) (tb 18 46) rfl rfl (any_of HT_.out (by kernel_rfl)) (fun _ _ _ h => h) ⟨by rfl, ?_⟩ ?_ ?_; rotate_left; · (intro w'; go_simp; with_reducible rfl)
                  rotate_left; · (simp only [Act.put, sa_, sb_, sc_, i64_w, i32_w]; rfl)
                  refine pu 18 (some 151) (v := ?_) (a' := ?_) (tb 19 46) rfl rfl (any_of HT_.out (by kernel_rfl)) (fun _ _ _ h => h) ⟨by rfl, ?_⟩ ?_ ?_; rotate_left; · (intro w'; go_simp; with_reducible rfl)
                  rotate_left; · (simp only [Act.put, sa_, sb_, sc_, i64_w, i32_w]; rfl)
                  refine pu 19 (some 152) (v := ?_) (a' := ?_) (tb 20 46) rfl rfl (any_of HT_.out (by kernel_rfl)) (fun _ _ _ h => h) ⟨by rfl, ?_⟩ ?_ ?_; rotate_left; · (intro w'; go_simp; with_reducible rfl)
                  rotate_left; · (simp only [Act.put, sa_, sb_, sc_, i64_w, i32_w]; rfl)
                  refine pu 20 (some 153) (v := ?_) (a' := ?_) (tb 21 46) rfl rfl (any_of HT_.out (by kernel_rfl)) (fun _ _ _ h => h) ⟨by rfl, ?_⟩ ?_ ?_; rotate_left; · (intro w'; go_simp; with_reducible rfl)
                  rotate_left; · (simp only [Act.put, sa_, sb_, sc_, i64_w, i32_w]; rfl)
                  refine pu 21 (some 154) (v := ?_) (a' := ?_) (tb 22 46) rfl rfl (any_of HT_.out (by kernel_rfl)) (fun _ _ _ h => h) ⟨by rfl, ?_⟩ ?_ ?_; rotate_left; · (intro w'; go_simp; with_reducible rfl)
                  rotate_left; · (simp only [Act.put, sa_, sb_, sc_, i64_w, i32_w]; rfl)
                  refine pu 22 (some 155) (v := ?_) (a' := ?_) (tb 23 46) rfl rfl (any_of HT_.out (by kernel_rfl)) (fun _ _ _ h => h) ⟨by rfl, ?_⟩ ?_ ?_; rotate_left; · (intro w'; go_simp; with_reducible rfl)
                  rotate_left; · (simp only [Act.put, sa_, sb_, sc_, i64_w, i32_w]; rfl)
                  refine pure_ (i := 23) (N := some 156) (v := undef) (a' := ?_) (tb 24 46) rfl rfl (any_of HT_.out (by kernel_rfl)) (fun _ _ _ h => h) (Or.inr ⟨by rfl, rfl⟩) ?_ ?_
                  rotate_left
                  ·
                   simp only [Act.put, List.setIfInBounds_toArray, List.set_cons_zero, List.set_cons_succ, i64_w, i32_w]
                   rfl
                  refine pure_ (i := 24) (N := some 157) (v := undef) (a' := ?_) (tb 25 46) rfl rfl (any_of HT_.out (by kernel_rfl)) (fun _ _ _ h => h) (Or.inr ⟨by rfl, rfl⟩) ?_ ?_
                  rotate_left
                  ·
                   simp only [Act.put, List.setIfInBounds_toArray, List.set_cons_zero, List.set_cons_succ, i64_w, i32_w]
                   rfl
                  refine pure_ (i := 25) (N := some 158) (v := undef) (a' := ?_) (tb 26 46) rfl rfl (any_of HT_.out (by kernel_rfl)) (fun _ _ _ h => h) (Or.inr ⟨by rfl, rfl⟩) ?_ ?_
                  rotate_left
                  ·
                   simp only [Act.put, List.setIfInBounds_toArray, List.set_cons_zero, List.set_cons_succ, i64_w, i32_w]
                   rfl
                  refine pu 26 (some 159) (v := ?_) (a' := ?_) (tb 27 46) rfl rfl (any_of HT_.out (by kernel_rfl)) (fun _ _ _ h => h) ⟨by rfl, ?_⟩ ?_ ?_; rotate_left; · (intro w'; go_simp; with_reducible rfl)
                  rotate_left; · (simp only [Act.put, sa_, sb_, sc_, i64_w, i32_w]; rfl)
                  refine pu 27 (some 160) (v := ?_) (a' := ?_) (tb 28 46) rfl rfl (any_of HT_.out (by kernel_rfl)) (fun _ _ _ h => h) ⟨by rfl, ?_⟩ ?_ ?_; rotate_left; · (intro w'; go_simp; with_reducible rfl)
                  rotate_left; · (simp only [Act.put, sa_, sb_, sc_, i64_w, i32_w]; rfl)
                  refine pu 28 (some 161) (v := ?_) (a' := ?_) (tb 29 46) rfl rfl (any_of HT_.out (by kernel_rfl)) (fun _ _ _ h => h) ⟨by rfl, ?_⟩ ?_ ?_; rotate_left; · (intro w'; go_simp; with_reducible rfl)
                  rotate_left; · (simp only [Act.put, sa_, sb_, sc_, i64_w, i32_w]; rfl)
                  refine pu 31 (some 164) (v := ?_) (a' := ?_) #[true, true, true, true, true, true, true, true, true, true, true, true, true, true, true, true, true, true, true, true, true, true, true, true, true, true, true, true, true, false, false, true, false, false, false, false, false, false, false, false, false, false, false, false, false, false] rfl rfl (any_of HT_.out (by kernel_rfl)) (fun _ _ _ h => h) ⟨by rfl, ?_⟩ ?_ ?_; rotate_left; · (intro w'; go_simp; with_reducible rfl)
                  rotate_left; · (simp only [Act.put, sa_, sb_, sc_, i64_w, i32_w]; rfl)
                  refine pu 32 (some 165) (v := ?_) (a' := ?_) #[true, true, true, true, true, true, true, true, true, true, true, true, true, true, true, true, true, true, true, true, true, true, true, true, true, true, true, true, true, false, false, true, true, false, false, false, false, false, false, false, false, false, false, false, false, false] rfl rfl (any_of HT_.out (by kernel_rfl)) (fun _ _ _ h => h) ⟨by rfl, ?_⟩ ?_ ?_; rotate_left; · (intro w'; go_simp; with_reducible rfl)
                  rotate_left; · (simp only [Act.put, sa_, sb_, sc_, i64_w, i32_w]; rfl)
                  refine pu 33 (some 166) (v := ?_) (a' := ?_) #[true, true, true, true, true, true, true, true, true, true, true, true, true, true, true, true, true, true, true, true, true, true, true, true, true, true, true, true, true, false, false, true, true, true, false, false, false, false, false, false, false, false, false, false, false, false] rfl rfl (any_of HT_.out (by kernel_rfl)) (fun _ _ _ h => h) ⟨by rfl, ?_⟩ ?_ ?_; rotate_left; · (intro w'; go_simp; with_reducible rfl)
                  rotate_left; · (simp only [Act.put, sa_, sb_, sc_, i64_w, i32_w]; rfl)
                  refine pu 34 (some 167) (v := ?_) (a' := ?_) #[true, true, true, true, true, true, true, true, true, true, true, true, true, true, true, true, true, true, true, true, true, true, true, true, true, true, true, true, true, false, false, true, true, true, true, false, false, false, false, false, false, false, false, false, false, false] rfl rfl (any_of HT_.out (by kernel_rfl)) (fun _ _ _ h => h) ⟨by rfl, ?_⟩ ?_ ?_; rotate_left; · (intro w'; go_simp; with_reducible rfl)
                  rotate_left; · (simp only [Act.put, sa_, sb_, sc_, i64_w, i32_w]; rfl)
                  refine tk 29 (some 162) (v := ?_) (a' := ?_) #[true, true, true, true, true, true, true, true, true, true, true, true, true, true, true, true, true, true, true, true, true, true, true, true, true, true, true, true, true, true, false, true, true, true, true, false, false, false, false, false, false, false, false, false, false, false] rfl rfl (take_ofW HT_.out HW_.out (by kernel_rfl)) (fun _ _ _ h => h) ⟨by rfl, ?_⟩ hHeld ?_ ?_; rotate_left; · (rintro w' ⟨s0, s1, s2, s3, s4, s5, s6, s7, s8, s9, s10, s11⟩; go_simp; with_reducible rfl)
                  rotate_left; · (simp only [Act.put, sa_, sb_, sc_, i64_w, i32_w]; rfl)
                  refine tk 35 (some 168) (v := ?_) (a' := ?_) #[true, true, true, true, true, true, true, true, true, true, true, true, true, true, true, true, true, true, true, true, true, true, true, true, true, true, true, true, true, true, false, true, true, true, true, true, false, false, false, false, false, false, false, false, false, false] rfl rfl (take_ofW HT_.out HW_.out (by kernel_rfl)) (fun _ _ _ h => h) ⟨by rfl, ?_⟩ hHeld ?_ ?_; rotate_left; · (rintro w' ⟨s0, s1, s2, s3, s4, s5, s6, s7, s8, s9, s10, s11⟩; go_simp; with_reducible rfl)
                  rotate_left; · (simp only [Act.put, sa_, sb_, sc_, i64_w, i32_w]; rfl)
                  refine pu 36 (some 169) (v := ?_) (a' := ?_) #[true, true, true, true, true, true, true, true, true, true, true, true, true, true, true, true, true, true, true, true, true, true, true, true, true, true, true, true, true, true, false, true, true, true, true, true, true, false, false, false, false, false, false, false, false, false] rfl rfl (any_of HT_.out (by kernel_rfl)) (fun _ _ _ h => h) ⟨by rfl, ?_⟩ ?_ ?_; rotate_left; · (intro w'; go_simp; with_reducible rfl)
                  rotate_left; · (simp only [Act.put, sa_, sb_, sc_, i64_w, i32_w]; rfl)
                  refine pu 37 (some 170) (v := ?_) (a' := ?_) #[true, true, true, true, true, true, true, true, true, true, true, true, true, true, true, true, true, true, true, true, true, true, true, true, true, true, true, true, true, true, false, true, true, true, true, true, true, true, false, false, false, false, false, false, false, false] rfl rfl (any_of HT_.out (by kernel_rfl)) (fun _ _ _ h => h) ⟨by rfl, ?_⟩ ?_ ?_; rotate_left; · (intro w'; go_simp; with_reducible rfl)
                  rotate_left; · (simp only [Act.put, sa_, sb_, sc_, i64_w, i32_w]; rfl)
                  refine one_ (i := 30) (N := some 163) (tb 38 46) rfl rfl (one_of HT_.out (by kernel_rfl)) (by decide) (fun K hK => ?_)
                  refine goes_ Try.func30 (by kernel_rfl) rfl #[.agg #[.int .i64 t282, .slice Ao24 t283.length co24]] (by rfl) rfl rfl (by (try simp only [List.map_toArray, List.map_cons, List.map_nil]); first | done | rfl | (simp only [List.length_drop, List.length_take]; rfl)) ?_
                  with_reducible refine (hll_Zeros.calls kj53 t282 _ _ t283 t338 _ ?side1 ?side2 A135.out).mono ?_
                  (case side1 => repeat (first | exact (Kd.R_reads' HO_288001.out).2.2 | (with_reducible refine Kd.C_alloc ?_ _) | (with_reducible refine Kd.C_drewN ?_ _) | (with_reducible refine Kd.C_drew ?_)))
                  (case side2 => exact (Kd.R_reads' HO_288001.out).2.1)
                  rintro e w146 ⟨rfl, hb⟩
                  refine ⟨_, rfl, ?_⟩
                  replace HO_282001 := rb HO_282001 hb; replace HO_288001 := rb HO_288001 hb; replace HO_294001 := rb HO_294001 hb; replace HO_295001 := rb HO_295001 hb; replace HO_310001 := rb HO_310001 hb; replace HO_316001 := rb HO_316001 hb; replace HO_322001 := rb HO_322001 hb; replace HO_328001 := rb HO_328001 hb; replace HO_334001 := rb HO_334001 hb; replace BK281 := bb BK281 hb; replace BK287 := bb BK287 hb; replace BK293 := bb BK293 hb; replace BK294 := bb BK294 hb; replace BK309 := bb BK309 hb; replace BK315 := bb BK315 hb; replace BK321 := bb BK321 hb; replace BK327 := bb BK327 hb; replace BK333 := bb BK333 hb; replace HB := am (below_step (by repeat (first | (with_reducible first | exact HB.out | apply below_alloc | apply pw_below_drewN | apply below_drew1 | refine below_set ?_ (Aside0.out (by assumption))) | exact HB.out)) hb)
                  (try clear hb)
                  (try clear hb2)
                  (try clear hk)
                  (try clear hi)
                  refine hK.out _ _ ⟨(blk_cell BK309.out 0).trans rfl, (blk_cell BK309.out 1).trans rfl, (blk_cell BK287.out 0).trans rfl, (blk_cell BK287.out 1).trans rfl, (blk_cell BK321.out 0).trans rfl, (blk_cell BK321.out 1).trans rfl, (blk_cell BK315.out 0).trans rfl, (blk_cell BK315.out 1).trans rfl, (blk_cell BK327.out 0).trans rfl, (blk_cell BK327.out 1).trans rfl, (blk_cell BK333.out 0).trans rfl, (blk_cell BK333.out 1).trans rfl⟩ (fun hHeld => ?_)
                  clear hK K
                  refine norm_ (a' := ?_) ?_ ?_
                  rotate_left
                  ·
                   show Act.put _ (some 163) _ = _
                   simp only [Act.put, List.setIfInBounds_toArray, List.set_cons_zero, List.set_cons_succ, i64_w, i32_w]
                   rfl
                  refine pu 38 (some 171) (v := ?_) (a' := ?_) (tb 39 46) rfl rfl (any_of HT_.out (by kernel_rfl)) (fun _ _ _ h => h) ⟨by rfl, ?_⟩ ?_ ?_; rotate_left; · (intro w'; go_simp; with_reducible rfl)
                  rotate_left; · (simp only [Act.put, sa_, sb_, sc_, i64_w, i32_w]; rfl)
                  refine pu 39 (some 172) (v := ?_) (a' := ?_) (tb 40 46) rfl rfl (any_of HT_.out (by kernel_rfl)) (fun _ _ _ h => h) ⟨by rfl, ?_⟩ ?_ ?_; rotate_left; · (intro w'; go_simp; with_reducible rfl)
                  rotate_left; · (simp only [Act.put, sa_, sb_, sc_, i64_w, i32_w]; rfl)
                  refine pu 40 (some 173) (v := ?_) (a' := ?_) (tb 41 46) rfl rfl (any_of HT_.out (by kernel_rfl)) (fun _ _ _ h => h) ⟨by rfl, ?_⟩ ?_ ?_; rotate_left; · (intro w'; go_simp; with_reducible rfl)
                  rotate_left; · (simp only [Act.put, sa_, sb_, sc_, i64_w, i32_w]; rfl)
                  refine tk 41 (some 174) (v := ?_) (a' := ?_) (tb 42 46) rfl rfl (take_ofW HT_.out HW_.out (by kernel_rfl)) (fun _ _ _ h => h) ⟨by rfl, ?_⟩ hHeld ?_ ?_; rotate_left; · (rintro w' ⟨s0, s1, s2, s3, s4, s5, s6, s7, s8, s9, s10, s11⟩; go_simp; with_reducible rfl)
                  rotate_left; · (simp only [Act.put, sa_, sb_, sc_, i64_w, i32_w]; rfl)
                  refine one_ (i := 42) (N := some 175) (tb 43 46) rfl rfl (one_of HT_.out (by kernel_rfl)) (by decide) (fun K hK => ?_)
                  refine goes_ Try.func33 (by kernel_rfl) rfl #[.agg #[.int .i64 t316, .slice Ao92 t317.length co92]] (by rfl) rfl rfl (by (try simp only [List.map_toArray, List.map_cons, List.map_nil]); first | done | rfl | (simp only [List.length_drop, List.length_take]; rfl)) ?_
                  with_reducible refine (hll_Check.calls kj53 t316 _ _ t317 t339 _ ?side1 ?side2 A140.out).mono ?_
                  (case side1 => repeat (first | exact (Kd.R_reads' HO_322001.out).2.2 | (with_reducible refine Kd.C_alloc ?_ _) | (with_reducible refine Kd.C_drewN ?_ _) | (with_reducible refine Kd.C_drew ?_)))
                  (case side2 => exact (Kd.R_reads' HO_322001.out).2.1)
                  rintro e w147 ⟨rfl, hb⟩
                  refine ⟨_, rfl, ?_⟩
                  replace HO_282001 := rb HO_282001 hb; replace HO_288001 := rb HO_288001 hb; replace HO_294001 := rb HO_294001 hb; replace HO_295001 := rb HO_295001 hb; replace HO_310001 := rb HO_310001 hb; replace HO_316001 := rb HO_316001 hb; replace HO_322001 := rb HO_322001 hb; replace HO_328001 := rb HO_328001 hb; replace HO_334001 := rb HO_334001 hb; replace BK281 := bb BK281 hb; replace BK287 := bb BK287 hb; replace BK293 := bb BK293 hb; replace BK294 := bb BK294 hb; replace BK309 := bb BK309 hb; replace BK315 := bb BK315 hb; replace BK321 := bb BK321 hb; replace BK327 := bb BK327 hb; replace BK333 := bb BK333 hb; replace HB := am (below_step (by repeat (first | (with_reducible first | exact HB.out | apply below_alloc | apply pw_below_drewN | apply below_drew1 | refine below_set ?_ (Aside0.out (by assumption))) | exact HB.out)) hb)
                  (try clear hb)
                  (try clear hb2)
                  (try clear hk)
                  (try clear hi)
                  refine hK.out _ _ ⟨(blk_cell BK309.out 0).trans rfl, (blk_cell BK309.out 1).trans rfl, (blk_cell BK287.out 0).trans rfl, (blk_cell BK287.out 1).trans rfl, (blk_cell BK321.out 0).trans rfl, (blk_cell BK321.out 1).trans rfl, (blk_cell BK315.out 0).trans rfl, (blk_cell BK315.out 1).trans rfl, (blk_cell BK327.out 0).trans rfl, (blk_cell BK327.out 1).trans rfl, (blk_cell BK333.out 0).trans rfl, (blk_cell BK333.out 1).trans rfl⟩ (fun hHeld => ?_)
                  clear hK K
                  refine norm_ (a' := ?_) ?_ ?_
                  rotate_left
                  ·
                   show Act.put _ (some 175) _ = _
                   simp only [Act.put, List.setIfInBounds_toArray, List.set_cons_zero, List.set_cons_succ, i64_w, i32_w]
                   rfl
                  refine pu 43 (some 176) (v := ?_) (a' := ?_) (tb 44 46) rfl rfl (any_of HT_.out (by kernel_rfl)) (fun _ _ _ h => h) ⟨by rfl, ?_⟩ ?_ ?_; rotate_left; · (intro w'; go_simp; with_reducible rfl)
                  rotate_left; · (simp only [Act.put, sa_, sb_, sc_, i64_w, i32_w]; rfl)
                  refine pu 44 (some 177) (v := ?_) (a' := ?_) (tb 45 46) rfl rfl (any_of HT_.out (by kernel_rfl)) (fun _ _ _ h => h) ⟨by rfl, ?_⟩ ?_ ?_; rotate_left; · (intro w'; go_simp; with_reducible rfl)
                  rotate_left; · (simp only [Act.put, sa_, sb_, sc_, i64_w, i32_w]; rfl)
                  refine pu 45 (some 6) (v := ?_) (a' := ?_) (tb 46 46) rfl rfl (any_of HT_.out (by kernel_rfl)) (fun _ _ _ h => h) ⟨by rfl, ?_⟩ ?_ ?_; rotate_left; · (intro w'; go_simp; with_reducible rfl)
                  rotate_left; · (simp only [Act.put, sa_, sb_, sc_, i64_w, i32_w]; rfl)
                  refine done_ (done_of HT_.out (by kernel_rfl)) ?_
                  try go_wp2
                  go_ret
                  exact ⟨by first | rfl | (simp [errW_none, errW_some] <;> rfl) | (simp only [← hji136, ← hji138]; first | rfl | (simp [errW_none, errW_some] <;> rfl)) | (simp [*, errW_none, errW_some] <;> rfl), by repeat (first | (with_reducible first | exact HB.out | apply below_alloc | apply pw_below_drewN | apply below_drew1 | refine below_set ?_ (Aside0.out (by assumption))) | exact HB.out)⟩
                 ·
                  rw [if_neg c139] at H
                  have c139b0 : (t338 == (wrap64 ((ji138) - (t283.length : Int)))) = false := beq_eq_false_iff_ne.mpr c139
                  have c139b1 : (t338 != (wrap64 ((ji138) - (t283.length : Int)))) = true := bne_iff_ne.mpr c139
                  exact absurd H (by simp)
                ·
                 rw [if_neg c137] at H
                 exact absurd H (by simp)
               ·
                rw [if_neg c134] at H
                have c134b0 : decide (60 < (l1.length : Int)) = false := decide_eq_false c134
                have c134b1 : decide (60 < l1.length) = false := decide_eq_false (by omega)
                clear c134
                replace H := Option.bind_eq_some_iff.mp H
                obtain ⟨t340, A1480, H⟩ := H
                replace H : (if t340 = true then ((hll_Zeros.f kj53 t282 t283).bind fun t341 => (if 0 ≤ (IntKind.u64.wrap ((wrap64 (4 + t275)))) then (if t341 = (wrap64 ((shl .i64 1 (IntKind.u64.wrap ((wrap64 (4 + t275))))) - (t283.length : Int))) then ((hll_Check.f kj53 t316 t317).bind fun t342 => (some (t342 == 0))) else (none)) else (none))) else (none)) = some r := H
                have A148 := Aside0.mk A1480
                clear A1480
                by_cases c149 : t340 = true
                ·
                 subst c149
                 have H1 : ((hll_Zeros.f kj53 t282 t283).bind fun t341 => (if 0 ≤ (IntKind.u64.wrap ((wrap64 (4 + t275)))) then (if t341 = (wrap64 ((shl .i64 1 (IntKind.u64.wrap ((wrap64 (4 + t275))))) - (t283.length : Int))) then ((hll_Check.f kj53 t316 t317).bind fun t342 => (some (t342 == 0))) else (none)) else (none))) = some r := by rw [if_pos rfl] at H; exact H
                 clear H
                 have H := H1
                 clear H1
                 replace H := Option.bind_eq_some_iff.mp H
                 obtain ⟨t341, A1500, H⟩ := H
                 replace H : (if 0 ≤ (IntKind.u64.wrap ((wrap64 (4 + t275)))) then (if t341 = (wrap64 ((shl .i64 1 (IntKind.u64.wrap ((wrap64 (4 + t275))))) - (t283.length : Int))) then ((hll_Check.f kj53 t316 t317).bind fun t342 => (some (t342 == 0))) else (none)) else (none)) = some r := H
                 have A150 := Aside0.mk A1500
                 clear A1500
                 obtain ⟨ji151, hji151⟩ : ∃ j_ : Int, (IntKind.u64.wrap ((wrap64 (4 + t275)))) = j_ := ⟨_, rfl⟩
                 replace H : (if 0 ≤ (ji151) then (if t341 = (wrap64 ((shl .i64 1 (ji151)) - (t283.length : Int))) then ((hll_Check.f kj53 t316 t317).bind fun t342 => (some (t342 == 0))) else (none)) else (none)) = some r := by first | (rw [hji151] at H; exact H) | (simp only [hji151] at H ⊢; exact H)
                 (try rw [hji151] at A126)
                 (try rw [hji151] at A128)
                 (try rw [hji151] at A130)
                 (try rw [hji151] at A132)
                 (try rw [hji151] at A148)
                 (try rw [hji151] at A150)
                 by_cases c152 : 0 ≤ (ji151)
                 ·
                  rw [if_pos c152] at H
                  have c152b0 := eq_true c152
                  have c152b1 : decide (0 ≤ (ji151)) = true := decide_eq_true c152
                  clear c152
                  obtain ⟨ji153, hji153⟩ : ∃ j_ : Int, (shl .i64 1 (ji151)) = j_ := ⟨_, rfl⟩
                  replace H : (if t341 = (wrap64 ((ji153) - (t283.length : Int))) then ((hll_Check.f kj53 t316 t317).bind fun t342 => (some (t342 == 0))) else (none)) = some r := by first | (rw [hji153] at H; exact H) | (simp only [hji153] at H ⊢; exact H)
                  (try rw [hji153] at A126)
                  (try rw [hji153] at A128)
                  (try rw [hji153] at A130)
                  (try rw [hji153] at A132)
                  (try rw [hji153] at A148)
                  (try rw [hji153] at A150)
                  have hji153_ : (IntKind.i64.wrap (1 * 2 ^ min (ji151).toNat 64)) = ji153 := hji153
                  have hji153z : (ji151) ≤ 64 → (IntKind.i64.wrap (1 * 2 ^ (ji151).toNat)) = ji153 := shl_small hji153
                  have hji153u : (IntKind.i64.wrap (2 ^ min (ji151).toNat 64)) = ji153 := by have h_ := hji153_; rw [Int.one_mul] at h_; exact h_
                  have hji153v : (ji151) ≤ 64 → (IntKind.i64.wrap (2 ^ (ji151).toNat)) = ji153 := fun hle_ => by have h_ := hji153z hle_; rw [Int.one_mul] at h_; exact h_
                  have hji153y : (wrap64 (1 * 2 ^ min (ji151).toNat 64)) = ji153 := (i64_w _).symm.trans hji153_
                  have hji153x : (ji151) ≤ 64 → (wrap64 (1 * 2 ^ (ji151).toNat)) = ji153 := fun h_ => (i64_w _).symm.trans (hji153z h_)
                  by_cases c154 : t341 = (wrap64 ((ji153) - (t283.length : Int)))
                  ·
                   rw [if_pos c154] at H
                   have c154b0 : (t341 == (wrap64 ((ji153) - (t283.length : Int)))) = true := beq_iff_eq.mpr c154
                   have c154b1 : (t341 != (wrap64 ((ji153) - (t283.length : Int)))) = false := bne_eq_false_iff_eq.mpr c154
                   clear c154
                   replace H := Option.bind_eq_some_iff.mp H
                   obtain ⟨t342, A1550, H⟩ := H
                   replace H : (some (t342 == 0)) = some r := H
                   have A155 := Aside0.mk A1550
                   clear A1550
                   obtain rfl := Option.some.inj H
                   try go_wp2
                   replace HO_282001 := am (Kd.R_drew HO_282001.out); replace HO_288001 := am (Kd.R_drew HO_288001.out); replace HO_294001 := am (Kd.R_drew HO_294001.out); replace HO_295001 := am (Kd.R_drew HO_295001.out); replace HO_310001 := am (Kd.R_drew HO_310001.out); replace HO_316001 := am (Kd.R_drew HO_316001.out); replace HO_322001 := am (Kd.R_drew HO_322001.out); replace HO_328001 := am (Kd.R_drew HO_328001.out); replace HO_334001 := am (Kd.R_drew HO_334001.out); replace BK281 := am (blk_drew BK281.out); replace BK287 := am (blk_drew BK287.out); replace BK293 := am (blk_drew BK293.out); replace BK294 := am (blk_drew BK294.out); replace BK309 := am (blk_drew BK309.out); replace BK315 := am (blk_drew BK315.out); replace BK321 := am (blk_drew BK321.out); replace BK327 := am (blk_drew BK327.out); replace BK333 := am (blk_drew BK333.out); replace HB := am (below_drew1 HB.out)
                   refine start_ (n := 46) (S := fun w' => w'.cell? ⟨gb309, 0, none⟩ = some (.int .i64 t304) ∧ w'.cell? ⟨gb309, 1, none⟩ = some (.slice Ao62 t305.length co62) ∧ w'.cell? ⟨gb287, 0, none⟩ = some (.int .i64 t282) ∧ w'.cell? ⟨gb287, 1, none⟩ = some (.slice Ao24 t283.length co24) ∧ w'.cell? ⟨gb321, 0, none⟩ = some (.int .i64 t316) ∧ w'.cell? ⟨gb321, 1, none⟩ = some (.slice Ao92 t317.length co92) ∧ w'.cell? ⟨gb315, 0, none⟩ = some (.int .i64 t310) ∧ w'.cell? ⟨gb315, 1, none⟩ = some (.slice Ao77 t311.length co77) ∧ w'.cell? ⟨gb327, 0, none⟩ = some (.int .i64 t322) ∧ w'.cell? ⟨gb327, 1, none⟩ = some (.slice Ao105 t323.length co105) ∧ w'.cell? ⟨gb333, 0, none⟩ = some (.int .i64 t328) ∧ w'.cell? ⟨gb333, 1, none⟩ = some (.slice Ao118 t329.length co118) ∧ w'.cell? ⟨gb294, 0, none⟩ = some (.int .i64 x295000_14) ∧ w'.cell? ⟨gb294, 1, none⟩ = some (u295001)) (ds := []) (tb 0 46) (by kernel_rfl) rfl rfl ⟨(blk_cell BK309.out 0).trans rfl, (blk_cell BK309.out 1).trans rfl, (blk_cell BK287.out 0).trans rfl, (blk_cell BK287.out 1).trans rfl, (blk_cell BK321.out 0).trans rfl, (blk_cell BK321.out 1).trans rfl, (blk_cell BK315.out 0).trans rfl, (blk_cell BK315.out 1).trans rfl, (blk_cell BK327.out 0).trans rfl, (blk_cell BK327.out 1).trans rfl, (blk_cell BK333.out 0).trans rfl, (blk_cell BK333.out 1).trans rfl, (blk_cell BK294.out 0).trans rfl, (blk_cell BK294.out 1).trans rfl⟩ (fun hHeld => ?_); refine with_tabW tallymanlaw14_HllSets.tab23 tallymanlaw14_HllSets.bits23 (fun HT_ HW_ => ?_)
                   generalize wc.drew = w156 at HO_282001 HO_288001 HO_294001 HO_295001 HO_310001 HO_316001 HO_322001 HO_328001 HO_334001 BK281 BK287 BK293 BK294 BK309 BK315 BK321 BK327 BK333 HB hHeld ⊢
                   refine tk 0 (some 133) (v := ?_) (a' := ?_) (tb 1 46) rfl rfl (take_ofW HT_.out HW_.out (by kernel_rfl)) (fun _ _ _ h => h) ⟨by rfl, ?_⟩ hHeld ?_ ?_; rotate_left; · (rintro w' ⟨s0, s1, s2, s3, s4, s5, s6, s7, s8, s9, s10, s11, s12, s13⟩; go_simp; with_reducible rfl)
                   rotate_left; · (simp only [Act.put, sa_, sb_, sc_, i64_w, i32_w]; rfl)
                   refine tk 1 (some 134) (v := ?_) (a' := ?_) (tb 2 46) rfl rfl (take_ofW HT_.out HW_.out (by kernel_rfl)) (fun _ _ _ h => h) ⟨by rfl, ?_⟩ hHeld ?_ ?_; rotate_left; · (rintro w' ⟨s0, s1, s2, s3, s4, s5, s6, s7, s8, s9, s10, s11, s12, s13⟩; go_simp; with_reducible rfl)
                   rotate_left; · (simp only [Act.put, sa_, sb_, sc_, i64_w, i32_w]; rfl)
                   refine one_ (i := 2) (N := some 135) (tb 3 46) rfl rfl (one_of HT_.out (by kernel_rfl)) (by decide) (fun K hK => ?_)
                   refine goes_ Try.func29 (by kernel_rfl) rfl #[.agg #[.int .i64 t304, .slice Ao62 t305.length co62], .agg #[.int .i64 t282, .slice Ao24 t283.length co24]] (by rfl) rfl rfl (by (try simp only [List.map_toArray, List.map_cons, List.map_nil]); first | done | rfl | (simp only [List.length_drop, List.length_take]; rfl)) ?_
                   with_reducible refine (hll_Same.calls kj53 t304 _ _ t305 t282 _ _ t283 true _ ?side1 ?side2 ?side3 ?side4 A126.out).mono ?_
                   (case side1 => repeat (first | exact (Kd.R_reads' HO_310001.out).2.2 | (with_reducible refine Kd.C_alloc ?_ _) | (with_reducible refine Kd.C_drewN ?_ _) | (with_reducible refine Kd.C_drew ?_)))
                   (case side2 => exact (Kd.R_reads' HO_310001.out).2.1)
                   (case side3 => repeat (first | exact (Kd.R_reads' HO_288001.out).2.2 | (with_reducible refine Kd.C_alloc ?_ _) | (with_reducible refine Kd.C_drewN ?_ _) | (with_reducible refine Kd.C_drew ?_)))
                   (case side4 => exact (Kd.R_reads' HO_288001.out).2.1)
                   rintro e w157 ⟨rfl, hb⟩
                   refine ⟨_, rfl, ?_⟩
                   replace HO_282001 := rb HO_282001 hb; replace HO_288001 := rb HO_288001 hb; replace HO_294001 := rb HO_294001 hb; replace HO_295001 := rb HO_295001 hb; replace HO_310001 := rb HO_310001 hb; replace HO_316001 := rb HO_316001 hb; replace HO_322001 := rb HO_322001 hb; replace HO_328001 := rb HO_328001 hb; replace HO_334001 := rb HO_334001 hb; replace BK281 := bb BK281 hb; replace BK287 := bb BK287 hb; replace BK293 := bb BK293 hb; replace BK294 := bb BK294 hb; replace BK309 := bb BK309 hb; replace BK315 := bb BK315 hb; replace BK321 := bb BK321 hb; replace BK327 := bb BK327 hb; replace BK333 := bb BK333 hb; replace HB := am (below_step (by repeat (first | (with_reducible first | exact HB.out | apply below_alloc | apply pw_below_drewN | apply below_drew1 | refine below_set ?_ (Aside0.out (by assumption))) | exact HB.out)) hb)
                   (try clear hb)
                   (try clear hb2)
                   (try clear hk)
                   (try clear hi)
                   refine hK.out _ _ ⟨(blk_cell BK309.out 0).trans rfl, (blk_cell BK309.out 1).trans rfl, (blk_cell BK287.out 0).trans rfl, (blk_cell BK287.out 1).trans rfl, (blk_cell BK321.out 0).trans rfl, (blk_cell BK321.out 1).trans rfl, (blk_cell BK315.out 0).trans rfl, (blk_cell BK315.out 1).trans rfl, (blk_cell BK327.out 0).trans rfl, (blk_cell BK327.out 1).trans rfl, (blk_cell BK333.out 0).trans rfl, (blk_cell BK333.out 1).trans rfl, (blk_cell BK294.out 0).trans rfl, (blk_cell BK294.out 1).trans rfl⟩ (fun hHeld => ?_)
                   clear hK K
                   refine norm_ (a' := ?_) ?_ ?_
                   rotate_left
                   ·
                    show Act.put _ (some 135) _ = _
                    simp only [Act.put, List.setIfInBounds_toArray, List.set_cons_zero, List.set_cons_succ, i64_w, i32_w]
                    rfl
                   refine pu 3 (some 136) (v := ?_) (a' := ?_) (tb 4 46) rfl rfl (any_of HT_.out (by kernel_rfl)) (fun _ _ _ h => h) ⟨by rfl, ?_⟩ ?_ ?_; rotate_left; · (intro w'; go_simp; with_reducible rfl)
                   rotate_left; · (simp only [Act.put, sa_, sb_, sc_, i64_w, i32_w]; rfl)
                   refine tk 4 (some 137) (v := ?_) (a' := ?_) (tb 5 46) rfl rfl (take_ofW HT_.out HW_.out (by kernel_rfl)) (fun _ _ _ h => h) ⟨by rfl, ?_⟩ hHeld ?_ ?_; rotate_left; · (rintro w' ⟨s0, s1, s2, s3, s4, s5, s6, s7, s8, s9, s10, s11, s12, s13⟩; go_simp; with_reducible rfl)
                   rotate_left; · (simp only [Act.put, sa_, sb_, sc_, i64_w, i32_w]; rfl)
                   refine tk 5 (some 138) (v := ?_) (a' := ?_) (tb 6 46) rfl rfl (take_ofW HT_.out HW_.out (by kernel_rfl)) (fun _ _ _ h => h) ⟨by rfl, ?_⟩ hHeld ?_ ?_; rotate_left; · (rintro w' ⟨s0, s1, s2, s3, s4, s5, s6, s7, s8, s9, s10, s11, s12, s13⟩; go_simp; with_reducible rfl)
                   rotate_left; · (simp only [Act.put, sa_, sb_, sc_, i64_w, i32_w]; rfl)
                   refine one_ (i := 6) (N := some 139) (tb 7 46) rfl rfl (one_of HT_.out (by kernel_rfl)) (by decide) (fun K hK => ?_)
                   refine goes_ Try.func29 (by kernel_rfl) rfl #[.agg #[.int .i64 t316, .slice Ao92 t317.length co92], .agg #[.int .i64 t310, .slice Ao77 t311.length co77]] (by rfl) rfl rfl (by (try simp only [List.map_toArray, List.map_cons, List.map_nil]); first | done | rfl | (simp only [List.length_drop, List.length_take]; rfl)) ?_
                   with_reducible refine (hll_Same.calls kj53 t316 _ _ t317 t310 _ _ t311 true _ ?side1 ?side2 ?side3 ?side4 A128.out).mono ?_
                   (case side1 => repeat (first | exact (Kd.R_reads' HO_322001.out).2.2 | (with_reducible refine Kd.C_alloc ?_ _) | (with_reducible refine Kd.C_drewN ?_ _) | (with_reducible refine Kd.C_drew ?_)))
                   (case side2 => exact (Kd.R_reads' HO_322001.out).2.1)
                   (case side3 => repeat (first | exact (Kd.R_reads' HO_316001.out).2.2 | (with_reducible refine Kd.C_alloc ?_ _) | (with_reducible refine Kd.C_drewN ?_ _) | (with_reducible refine Kd.C_drew ?_)))
                   (case side4 => exact (Kd.R_reads' HO_316001.out).2.1)
                   rintro e w158 ⟨rfl, hb⟩
                   refine ⟨_, rfl, ?_⟩
                   replace HO_282001 := rb HO_282001 hb; replace HO_288001 := rb HO_288001 hb; replace HO_294001 := rb HO_294001 hb; replace HO_295001 := rb HO_295001 hb; replace HO_310001 := rb HO_310001 hb; replace HO_316001 := rb HO_316001 hb; replace HO_322001 := rb HO_322001 hb; replace HO_328001 := rb HO_328001 hb; replace HO_334001 := rb HO_334001 hb; replace BK281 := bb BK281 hb; replace BK287 := bb BK287 hb; replace BK293 := bb BK293 hb; replace BK294 := bb BK294 hb; replace BK309 := bb BK309 hb; replace BK315 := bb BK315 hb; replace BK321 := bb BK321 hb; replace BK327 := bb BK327 hb; replace BK333 := bb BK333 hb; replace HB := am (below_step (by repeat (first | (with_reducible first | exact HB.out | apply below_alloc | apply pw_below_drewN | apply below_drew1 | refine below_set ?_ (Aside0.out (by assumption))) | exact HB.out)) hb)
                   (try clear hb)
                   (try clear hb2)
                   (try clear hk)
                   (try clear hi)
                   refine hK.out _ _ ⟨(blk_cell BK309.out 0).trans rfl, (blk_cell BK309.out 1).trans rfl, (blk_cell BK287.out 0).trans rfl, (blk_cell BK287.out 1).trans rfl, (blk_cell BK321.out 0).trans rfl, (blk_cell BK321.out 1).trans rfl, (blk_cell BK315.out 0).trans rfl, (blk_cell BK315.out 1).trans rfl, (blk_cell BK327.out 0).trans rfl, (blk_cell BK327.out 1).trans rfl, (blk_cell BK333.out 0).trans rfl, (blk_cell BK333.out 1).trans rfl, (blk_cell BK294.out 0).trans rfl, (blk_cell BK294.out 1).trans rfl⟩ (fun hHeld => ?_)
                   clear hK K
                   refine norm_ (a' := ?_) ?_ ?_
                   rotate_left
                   ·
                    show Act.put _ (some 139) _ = _
                    simp only [Act.put, List.setIfInBounds_toArray, List.set_cons_zero, List.set_cons_succ, i64_w, i32_w]
                    rfl
                   refine pu 7 (some 140) (v := ?_) (a' := ?_) (tb 8 46) rfl rfl (any_of HT_.out (by kernel_rfl)) (fun _ _ _ h => h) ⟨by rfl, ?_⟩ ?_ ?_; rotate_left; · (intro w'; go_simp; with_reducible rfl)
                   rotate_left; · (simp only [Act.put, sa_, sb_, sc_, i64_w, i32_w]; rfl)
                   refine pu 8 (some 141) (v := ?_) (a' := ?_) (tb 9 46) rfl rfl (any_of HT_.out (by kernel_rfl)) (fun _ _ _ h => h) ⟨by rfl, ?_⟩ ?_ ?_; rotate_left; · (intro w'; go_simp; with_reducible rfl)
                   rotate_left; · (simp only [Act.put, sa_, sb_, sc_, i64_w, i32_w]; rfl)
                   refine tk 9 (some 142) (v := ?_) (a' := ?_) (tb 10 46) rfl rfl (take_ofW HT_.out HW_.out (by kernel_rfl)) (fun _ _ _ h => h) ⟨by rfl, ?_⟩ hHeld ?_ ?_; rotate_left; · (rintro w' ⟨s0, s1, s2, s3, s4, s5, s6, s7, s8, s9, s10, s11, s12, s13⟩; go_simp; with_reducible rfl)
                   rotate_left; · (simp only [Act.put, sa_, sb_, sc_, i64_w, i32_w]; rfl)
                   refine tk 10 (some 143) (v := ?_) (a' := ?_) (tb 11 46) rfl rfl (take_ofW HT_.out HW_.out (by kernel_rfl)) (fun _ _ _ h => h) ⟨by rfl, ?_⟩ hHeld ?_ ?_; rotate_left; · (rintro w' ⟨s0, s1, s2, s3, s4, s5, s6, s7, s8, s9, s10, s11, s12, s13⟩; go_simp; with_reducible rfl)
                   rotate_left; · (simp only [Act.put, sa_, sb_, sc_, i64_w, i32_w]; rfl)
                   refine one_ (i := 11) (N := some 144) (tb 12 46) rfl rfl (one_of HT_.out (by kernel_rfl)) (by decide) (fun K hK => ?_)
                   refine goes_ Try.func29 (by kernel_rfl) rfl #[.agg #[.int .i64 t322, .slice Ao105 t323.length co105], .agg #[.int .i64 t310, .slice Ao77 t311.length co77]] (by rfl) rfl rfl (by (try simp only [List.map_toArray, List.map_cons, List.map_nil]); first | done | rfl | (simp only [List.length_drop, List.length_take]; rfl)) ?_
                   with_reducible refine (hll_Same.calls kj53 t322 _ _ t323 t310 _ _ t311 true _ ?side1 ?side2 ?side3 ?side4 A130.out).mono ?_
                   (case side1 => repeat (first | exact (Kd.R_reads' HO_328001.out).2.2 | (with_reducible refine Kd.C_alloc ?_ _) | (with_reducible refine Kd.C_drewN ?_ _) | (with_reducible refine Kd.C_drew ?_)))
                   (case side2 => exact (Kd.R_reads' HO_328001.out).2.1)
                   (case side3 => repeat (first | exact (Kd.R_reads' HO_316001.out).2.2 | (with_reducible refine Kd.C_alloc ?_ _) | (with_reducible refine Kd.C_drewN ?_ _) | (with_reducible refine Kd.C_drew ?_)))
                   (case side4 => exact (Kd.R_reads' HO_316001.out).2.1)
                   rintro e w159 ⟨rfl, hb⟩
                   refine ⟨_, rfl, ?_⟩
                   replace HO_282001 := rb HO_282001 hb; replace HO_288001 := rb HO_288001 hb; replace HO_294001 := rb HO_294001 hb; replace HO_295001 := rb HO_295001 hb; replace HO_310001 := rb HO_310001 hb; replace HO_316001 := rb HO_316001 hb; replace HO_322001 := rb HO_322001 hb; replace HO_328001 := rb HO_328001 hb; replace HO_334001 := rb HO_334001 hb; replace BK281 := bb BK281 hb; replace BK287 := bb BK287 hb; replace BK293 := bb BK293 hb; replace BK294 := bb BK294 hb; replace BK309 := bb BK309 hb; replace BK315 := bb BK315 hb; replace BK321 := bb BK321 hb; replace BK327 := bb BK327 hb; replace BK333 := bb BK333 hb; replace HB := am (below_step (by repeat (first | (with_reducible first | exact HB.out | apply below_alloc | apply pw_below_drewN | apply below_drew1 | refine below_set ?_ (Aside0.out (by assumption))) | exact HB.out)) hb)
                   (try clear hb)
                   (try clear hb2)
                   (try clear hk)
                   (try clear hi)
                   refine hK.out _ _ ⟨(blk_cell BK309.out 0).trans rfl, (blk_cell BK309.out 1).trans rfl, (blk_cell BK287.out 0).trans rfl, (blk_cell BK287.out 1).trans rfl, (blk_cell BK321.out 0).trans rfl, (blk_cell BK321.out 1).trans rfl, (blk_cell BK315.out 0).trans rfl, (blk_cell BK315.out 1).trans rfl, (blk_cell BK327.out 0).trans rfl, (blk_cell BK327.out 1).trans rfl, (blk_cell BK333.out 0).trans rfl, (blk_cell BK333.out 1).trans rfl, (blk_cell BK294.out 0).trans rfl, (blk_cell BK294.out 1).trans rfl⟩ (fun hHeld => ?_)
                   clear hK K
                   refine norm_ (a' := ?_) ?_ ?_
                   rotate_left
                   ·
                    show Act.put _ (some 144) _ = _
                    simp only [Act.put, List.setIfInBounds_toArray, List.set_cons_zero, List.set_cons_succ, i64_w, i32_w]
                    rfl
                   refine pu 12 (some 145) (v := ?_) (a' := ?_) (tb 13 46) rfl rfl (any_of HT_.out (by kernel_rfl)) (fun _ _ _ h => h) ⟨by rfl, ?_⟩ ?_ ?_; rotate_left; · (intro w'; go_simp; with_reducible rfl)
                   rotate_left; · (simp only [Act.put, sa_, sb_, sc_, i64_w, i32_w]; rfl)
                   refine pu 13 (some 146) (v := ?_) (a' := ?_) (tb 14 46) rfl rfl (any_of HT_.out (by kernel_rfl)) (fun _ _ _ h => h) ⟨by rfl, ?_⟩ ?_ ?_; rotate_left; · (intro w'; go_simp; with_reducible rfl)
                   rotate_left; · (simp only [Act.put, sa_, sb_, sc_, i64_w, i32_w]; rfl)
                   refine tk 14 (some 147) (v := ?_) (a' := ?_) (tb 15 46) rfl rfl (take_ofW HT_.out HW_.out (by kernel_rfl)) (fun _ _ _ h => h) ⟨by rfl, ?_⟩ hHeld ?_ ?_; rotate_left; · (rintro w' ⟨s0, s1, s2, s3, s4, s5, s6, s7, s8, s9, s10, s11, s12, s13⟩; go_simp; with_reducible rfl)
                   rotate_left; · (simp only [Act.put, sa_, sb_, sc_, i64_w, i32_w]; rfl)
                   refine tk 15 (some 148) (v := ?_) (a' := ?_) (tb 16 46) rfl rfl (take_ofW HT_.out HW_.out (by kernel_rfl)) (fun _ _ _ h => h) ⟨by rfl, ?_⟩ hHeld ?_ ?_; rotate_left; · (rintro w' ⟨s0, s1, s2, s3, s4, s5, s6, s7, s8, s9, s10, s11, s12, s13⟩; go_simp; with_reducible rfl)
                   rotate_left; · (simp only [Act.put, sa_, sb_, sc_, i64_w, i32_w]; rfl)
                   refine one_ (i := 16) (N := some 149) (tb 17 46) rfl rfl (one_of HT_.out (by kernel_rfl)) (by decide) (fun K hK => ?_)
                   refine goes_ Try.func29 (by kernel_rfl) rfl #[.agg #[.int .i64 t328, .slice Ao118 t329.length co118], .agg #[.int .i64 t282, .slice Ao24 t283.length co24]] (by rfl) rfl rfl (by (try simp only [List.map_toArray, List.map_cons, List.map_nil]); first | done | rfl | (simp only [List.length_drop, List.length_take]; rfl)) ?_
                   with_reducible refine (hll_Same.calls kj53 t328 _ _ t329 t282 _ _ t283 true _ ?side1 ?side2 ?side3 ?side4 A132.out).mono ?_
                   (case side1 => repeat (first | exact (Kd.R_reads' HO_334001.out).2.2 | (with_reducible refine Kd.C_alloc ?_ _) | (with_reducible refine Kd.C_drewN ?_ _) | (with_reducible refine Kd.C_drew ?_)))
                   (case side2 => exact (Kd.R_reads' HO_334001.out).2.1)
                   (case side3 => repeat (first | exact (Kd.R_reads' HO_288001.out).2.2 | (with_reducible refine Kd.C_alloc ?_ _) | (with_reducible refine Kd.C_drewN ?_ _) | (with_reducible refine Kd.C_drew ?_)))
                   (case side4 => exact (Kd.R_reads' HO_288001.out).2.1)
                   rintro e w160 ⟨rfl, hb⟩
                   refine ⟨_, rfl, ?_⟩
                   replace HO_282001 := rb HO_282001 hb; replace HO_288001 := rb HO_288001 hb; replace HO_294001 := rb HO_294001 hb; replace HO_295001 := rb HO_295001 hb; replace HO_310001 := rb HO_310001 hb; replace HO_316001 := rb HO_316001 hb; replace HO_322001 := rb HO_322001 hb; replace HO_328001 := rb HO_328001 hb; replace HO_334001 := rb HO_334001 hb; replace BK281 := bb BK281 hb; replace BK287 := bb BK287 hb; replace BK293 := bb BK293 hb; replace BK294 := bb BK294 hb; replace BK309 := bb BK309 hb; replace BK315 := bb BK315 hb; replace BK321 := bb BK321 hb; replace BK327 := bb BK327 hb; replace BK333 := bb BK333 hb; replace HB := am (below_step (by repeat (first | (with_reducible first | exact HB.out | apply below_alloc | apply pw_below_drewN | apply below_drew1 | refine below_set ?_ (Aside0.out (by assumption))) | exact HB.out)) hb)
                   (try clear hb)
                   (try clear hb2)
                   (try clear hk)
                   (try clear hi)
                   obtain ⟨Ao161, co161, eo161⟩ := Kd.R_slice HO_295001.out
                   (first | subst eo161 | (injection eo161 with f1_ f2_ f3_; have f4_ := f1_.symm; have f5_ := f3_.symm; clear f1_ f2_ f3_; subst f4_; subst f5_))
                   refine hK.out _ _ ⟨(blk_cell BK309.out 0).trans rfl, (blk_cell BK309.out 1).trans rfl, (blk_cell BK287.out 0).trans rfl, (blk_cell BK287.out 1).trans rfl, (blk_cell BK321.out 0).trans rfl, (blk_cell BK321.out 1).trans rfl, (blk_cell BK315.out 0).trans rfl, (blk_cell BK315.out 1).trans rfl, (blk_cell BK327.out 0).trans rfl, (blk_cell BK327.out 1).trans rfl, (blk_cell BK333.out 0).trans rfl, (blk_cell BK333.out 1).trans rfl, (blk_cell BK294.out 0).trans rfl, (blk_cell BK294.out 1).trans rfl⟩ (fun hHeld => ?_)
                   clear hK K
                   refine norm_ (a' := ?_) ?_ ?_
                   rotate_left
                   ·
                    show Act.put _ (some 149) _ = _
                    simp only [Act.put, List.setIfInBounds_toArray, List.set_cons_zero, List.set_cons_succ, i64_w, i32_w]
                    rfl
                   refine pu 17 (some 150) (v := ?_) (a' := ?_) (tb 18 46) rfl rfl (any_of HT_.out (by kernel_rfl)) (fun _ _ _ h => h) ⟨by rfl, ?_⟩ ?_ ?_; rotate_left; · (intro w'; go_simp; with_reducible rfl)
                   rotate_left; · (simp only [Act.put, sa_, sb_, sc_, i64_w, i32_w]; rfl)
                   refine pu 18 (some 151) (v := ?_) (a' := ?_) (tb 19 46) rfl rfl (any_of HT_.out (by kernel_rfl)) (fun _ _ _ h => h) ⟨by rfl, ?_⟩ ?_ ?_; rotate_left; · (intro w'; go_simp; with_reducible rfl)
                   rotate_left; · (simp only [Act.put, sa_, sb_, sc_, i64_w, i32_w]; rfl)
                   refine pu 19 (some 152) (v := ?_) (a' := ?_) (tb 20 46) rfl rfl (any_of HT_.out (by kernel_rfl)) (fun _ _ _ h => h) ⟨by rfl, ?_⟩ ?_ ?_; rotate_left; · (intro w'; go_simp; with_reducible rfl)
                   rotate_left; · (simp only [Act.put, sa_, sb_, sc_, i64_w, i32_w]; rfl)
                   refine pu 20 (some 153) (v := ?_) (a' := ?_) (tb 21 46) rfl rfl (any_of HT_.out (by kernel_rfl)) (fun _ _ _ h => h) ⟨by rfl, ?_⟩ ?_ ?_; rotate_left; · (intro w'; go_simp; with_reducible rfl)
                   rotate_left; · (simp only [Act.put, sa_, sb_, sc_, i64_w, i32_w]; rfl)
                   refine pu 21 (some 154) (v := ?_) (a' := ?_) (tb 22 46) rfl rfl (any_of HT_.out (by kernel_rfl)) (fun _ _ _ h => h) ⟨by rfl, ?_⟩ ?_ ?_; rotate_left; · (intro w'; go_simp; with_reducible rfl)
                   rotate_left; · (simp only [Act.put, sa_, sb_, sc_, i64_w, i32_w]; rfl)
                   refine pu 22 (some 155) (v := ?_) (a' := ?_) (tb 23 46) rfl rfl (any_of HT_.out (by kernel_rfl)) (fun _ _ _ h => h) ⟨by rfl, ?_⟩ ?_ ?_; rotate_left; · (intro w'; go_simp; with_reducible rfl)
                   rotate_left; · (simp only [Act.put, sa_, sb_, sc_, i64_w, i32_w]; rfl)
                   refine tk 23 (some 156) (v := ?_) (a' := ?_) (tb 24 46) rfl rfl (take_ofW HT_.out HW_.out (by kernel_rfl)) (fun _ _ _ h => h) ⟨by rfl, ?_⟩ hHeld ?_ ?_; rotate_left; · (rintro w' ⟨s0, s1, s2, s3, s4, s5, s6, s7, s8, s9, s10, s11, s12, s13⟩; go_simp; with_reducible rfl)
                   rotate_left; · (simp only [Act.put, sa_, sb_, sc_, i64_w, i32_w]; rfl)
                   refine tk 24 (some 157) (v := ?_) (a' := ?_) (tb 25 46) rfl rfl (take_ofW HT_.out HW_.out (by kernel_rfl)) (fun _ _ _ h => h) ⟨by rfl, ?_⟩ hHeld ?_ ?_; rotate_left; · (rintro w' ⟨s0, s1, s2, s3, s4, s5, s6, s7, s8, s9, s10, s11, s12, s13⟩; go_simp; with_reducible rfl)
                   rotate_left; · (simp only [Act.put, sa_, sb_, sc_, i64_w, i32_w]; rfl)
                   refine one_ (i := 25) (N := some 158) (tb 26 46) rfl rfl (one_of HT_.out (by kernel_rfl)) (by decide) (fun K hK => ?_)
                   refine goes_ Try.func29 (by kernel_rfl) rfl #[.agg #[.int .i64 x295000_14, .slice Ao161 x295001_14.length co161], .agg #[.int .i64 t282, .slice Ao24 t283.length co24]] (by rfl) rfl rfl (by (try simp only [List.map_toArray, List.map_cons, List.map_nil]); first | done | rfl | (simp only [List.length_drop, List.length_take]; rfl)) ?_
                   with_reducible refine (hll_Same.calls kj53 x295000_14 _ _ x295001_14 t282 _ _ t283 true _ ?side1 ?side2 ?side3 ?side4 A148.out).mono ?_
                   (case side1 => repeat (first | exact (Kd.R_reads' HO_295001.out).2.2 | (with_reducible refine Kd.C_alloc ?_ _) | (with_reducible refine Kd.C_drewN ?_ _) | (with_reducible refine Kd.C_drew ?_)))
                   (case side2 => exact (Kd.R_reads' HO_295001.out).2.1)
                   (case side3 => repeat (first | exact (Kd.R_reads' HO_288001.out).2.2 | (with_reducible refine Kd.C_alloc ?_ _) | (with_reducible refine Kd.C_drewN ?_ _) | (with_reducible refine Kd.C_drew ?_)))
                   (case side4 => exact (Kd.R_reads' HO_288001.out).2.1)
                   rintro e w162 ⟨rfl, hb⟩
                   refine ⟨_, rfl, ?_⟩
                   replace HO_282001 := rb HO_282001 hb; replace HO_288001 := rb HO_288001 hb; replace HO_294001 := rb HO_294001 hb; replace HO_295001 := rb HO_295001 hb; replace HO_310001 := rb HO_310001 hb; replace HO_316001 := rb HO_316001 hb; replace HO_322001 := rb HO_322001 hb; replace HO_328001 := rb HO_328001 hb; replace HO_334001 := rb HO_334001 hb; replace BK281 := bb BK281 hb; replace BK287 := bb BK287 hb; replace BK293 := bb BK293 hb; replace BK294 := bb BK294 hb; replace BK309 := bb BK309 hb; replace BK315 := bb BK315 hb; replace BK321 := bb BK321 hb; replace BK327 := bb BK327 hb; replace BK333 := bb BK333 hb; replace HB := am (below_step (by repeat (first | (with_reducible first | exact HB.out | apply below_alloc | apply pw_below_drewN | apply below_drew1 | refine below_set ?_ (Aside0.out (by assumption))) | exact HB.out)) hb)
                   (try clear hb)
                   (try clear hb2)
                   (try clear hk)
                   (try clear hi)
                   refine hK.out _ _ ⟨(blk_cell BK309.out 0).trans rfl, (blk_cell BK309.out 1).trans rfl, (blk_cell BK287.out 0).trans rfl, (blk_cell BK287.out 1).trans rfl, (blk_cell BK321.out 0).trans rfl, (blk_cell BK321.out 1).trans rfl, (blk_cell BK315.out 0).trans rfl, (blk_cell BK315.out 1).trans rfl, (blk_cell BK327.out 0).trans rfl, (blk_cell BK327.out 1).trans rfl, (blk_cell BK333.out 0).trans rfl, (blk_cell BK333.out 1).trans rfl, (blk_cell BK294.out 0).trans rfl, (blk_cell BK294.out 1).trans rfl⟩ (fun hHeld => ?_)
                   clear hK K
                   refine norm_ (a' := ?_) ?_ ?_
                   rotate_left
                   ·
                    show Act.put _ (some 158) _ = _
                    simp only [Act.put, List.setIfInBounds_toArray, List.set_cons_zero, List.set_cons_succ, i64_w, i32_w]
                    rfl
                   refine pu 26 (some 159) (v := ?_) (a' := ?_) (tb 27 46) rfl rfl (any_of HT_.out (by kernel_rfl)) (fun _ _ _ h => h) ⟨by rfl, ?_⟩ ?_ ?_; rotate_left; · (intro w'; go_simp; with_reducible rfl)
                   rotate_left; · (simp only [Act.put, sa_, sb_, sc_, i64_w, i32_w]; rfl)
                   refine pu 27 (some 160) (v := ?_) (a' := ?_) (tb 28 46) rfl rfl (any_of HT_.out (by kernel_rfl)) (fun _ _ _ h => h) ⟨by rfl, ?_⟩ ?_ ?_; rotate_left; · (intro w'; go_simp; with_reducible rfl)
                   rotate_left; · (simp only [Act.put, sa_, sb_, sc_, i64_w, i32_w]; rfl)
                   refine pu 28 (some 161) (v := ?_) (a' := ?_) (tb 29 46) rfl rfl (any_of HT_.out (by kernel_rfl)) (fun _ _ _ h => h) ⟨by rfl, ?_⟩ ?_ ?_; rotate_left; · (intro w'; go_simp; with_reducible rfl)
                   rotate_left; · (simp only [Act.put, sa_, sb_, sc_, i64_w, i32_w]; rfl)
                   refine pu 31 (some 164) (v := ?_) (a' := ?_) #[true, true, true, true, true, true, true, true, true, true, true, true, true, true, true, true, true, true, true, true, true, true, true, true, true, true, true, true, true, false, false, true, false, false, false, false, false, false, false, false, false, false, false, false, false, false] rfl rfl (any_of HT_.out (by kernel_rfl)) (fun _ _ _ h => h) ⟨by rfl, ?_⟩ ?_ ?_; rotate_left; · (intro w'; go_simp; with_reducible rfl)
                   rotate_left; · (simp only [Act.put, sa_, sb_, sc_, i64_w, i32_w]; rfl)
                   refine pu 32 (some 165) (v := ?_) (a' := ?_) #[true, true, true, true, true, true, true, true, true, true, true, true, true, true, true, true, true, true, true, true, true, true, true, true, true, true, true, true, true, false, false, true, true, false, false, false, false, false, false, false, false, false, false, false, false, false] rfl rfl (any_of HT_.out (by kernel_rfl)) (fun _ _ _ h => h) ⟨by rfl, ?_⟩ ?_ ?_; rotate_left; · (intro w'; go_simp; with_reducible rfl)
                   rotate_left; · (simp only [Act.put, sa_, sb_, sc_, i64_w, i32_w]; rfl)
                   refine pu 33 (some 166) (v := ?_) (a' := ?_) #[true, true, true, true, true, true, true, true, true, true, true, true, true, true, true, true, true, true, true, true, true, true, true, true, true, true, true, true, true, false, false, true, true, true, false, false, false, false, false, false, false, false, false, false, false, false] rfl rfl (any_of HT_.out (by kernel_rfl)) (fun _ _ _ h => h) ⟨by rfl, ?_⟩ ?_ ?_; rotate_left; · (intro w'; go_simp; with_reducible rfl)
                   rotate_left; · (simp only [Act.put, sa_, sb_, sc_, i64_w, i32_w]; rfl)
                   refine pu 34 (some 167) (v := ?_) (a' := ?_) #[true, true, true, true, true, true, true, true, true, true, true, true, true, true, true, true, true, true, true, true, true, true, true, true, true, true, true, true, true, false, false, true, true, true, true, false, false, false, false, false, false, false, false, false, false, false] rfl rfl (any_of HT_.out (by kernel_rfl)) (fun _ _ _ h => h) ⟨by rfl, ?_⟩ ?_ ?_; rotate_left; · (intro w'; go_simp; with_reducible rfl)
                   rotate_left; · (simp only [Act.put, sa_, sb_, sc_, i64_w, i32_w]; rfl)
                   refine tk 29 (some 162) (v := ?_) (a' := ?_) #[true, true, true, true, true, true, true, true, true, true, true, true, true, true, true, true, true, true, true, true, true, true, true, true, true, true, true, true, true, true, false, true, true, true, true, false, false, false, false, false, false, false, false, false, false, false] rfl rfl (take_ofW HT_.out HW_.out (by kernel_rfl)) (fun _ _ _ h => h) ⟨by rfl, ?_⟩ hHeld ?_ ?_; rotate_left; · (rintro w' ⟨s0, s1, s2, s3, s4, s5, s6, s7, s8, s9, s10, s11, s12, s13⟩; go_simp; with_reducible rfl)
                   rotate_left; · (simp only [Act.put, sa_, sb_, sc_, i64_w, i32_w]; rfl)
                   refine tk 35 (some 168) (v := ?_) (a' := ?_) #[true, true, true, true, true, true, true, true, true, true, true, true, true, true, true, true, true, true, true, true, true, true, true, true, true, true, true, true, true, true, false, true, true, true, true, true, false, false, false, false, false, false, false, false, false, false] rfl rfl (take_ofW HT_.out HW_.out (by kernel_rfl)) (fun _ _ _ h => h) ⟨by rfl, ?_⟩ hHeld ?_ ?_; rotate_left; · (rintro w' ⟨s0, s1, s2, s3, s4, s5, s6, s7, s8, s9, s10, s11, s12, s13⟩; go_simp; with_reducible rfl)
                   rotate_left; · (simp only [Act.put, sa_, sb_, sc_, i64_w, i32_w]; rfl)
                   refine pu 36 (some 169) (v := ?_) (a' := ?_) #[true, true, true, true, true, true, true, true, true, true, true, true, true, true, true, true, true, true, true, true, true, true, true, true, true, true, true, true, true, true, false, true, true, true, true, true, true, false, false, false, false, false, false, false, false, false] rfl rfl (any_of HT_.out (by kernel_rfl)) (fun _ _ _ h => h) ⟨by rfl, ?_⟩ ?_ ?_; rotate_left; · (intro w'; go_simp; with_reducible rfl)
                   rotate_left; · (simp only [Act.put, sa_, sb_, sc_, i64_w, i32_w]; rfl)
                   refine pu 37 (some 170) (v := ?_) (a' := ?_) #[true, true, true, true, true, true, true, true, true, true, true, true, true, true, true, true, true, true, true, true, true, true, true, true, true, true, true, true, true, true, false, true, true, true, true, true, true, true, false, false, false, false, false, false, false, false] rfl rfl (any_of HT_.out (by kernel_rfl)) (fun _ _ _ h => h) ⟨by rfl, ?_⟩ ?_ ?_; rotate_left; · (intro w'; go_simp; with_reducible rfl)
                   rotate_left; · (simp only [Act.put, sa_, sb_, sc_, i64_w, i32_w]; rfl)
                   refine one_ (i := 30) (N := some 163) (tb 38 46) rfl rfl (one_of HT_.out (by kernel_rfl)) (by decide) (fun K hK => ?_)
                   refine goes_ Try.func30 (by kernel_rfl) rfl #[.agg #[.int .i64 t282, .slice Ao24 t283.length co24]] (by rfl) rfl rfl (by (try simp only [List.map_toArray, List.map_cons, List.map_nil]); first | done | rfl | (simp only [List.length_drop, List.length_take]; rfl)) ?_
                   with_reducible refine (hll_Zeros.calls kj53 t282 _ _ t283 t341 _ ?side1 ?side2 A150.out).mono ?_
                   (case side1 => repeat (first | exact (Kd.R_reads' HO_288001.out).2.2 | (with_reducible refine Kd.C_alloc ?_ _) | (with_reducible refine Kd.C_drewN ?_ _) | (with_reducible refine Kd.C_drew ?_)))
                   (case side2 => exact (Kd.R_reads' HO_288001.out).2.1)
                   rintro e w163 ⟨rfl, hb⟩
                   refine ⟨_, rfl, ?_⟩
                   replace HO_282001 := rb HO_282001 hb; replace HO_288001 := rb HO_288001 hb; replace HO_294001 := rb HO_294001 hb; replace HO_295001 := rb HO_295001 hb; replace HO_310001 := rb HO_310001 hb; replace HO_316001 := rb HO_316001 hb; replace HO_322001 := rb HO_322001 hb; replace HO_328001 := rb HO_328001 hb; replace HO_334001 := rb HO_334001 hb; replace BK281 := bb BK281 hb; replace BK287 := bb BK287 hb; replace BK293 := bb BK293 hb; replace BK294 := bb BK294 hb; replace BK309 := bb BK309 hb; replace BK315 := bb BK315 hb; replace BK321 := bb BK321 hb; replace BK327 := bb BK327 hb; replace BK333 := bb BK333 hb; replace HB := am (below_step (by repeat (first | (with_reducible first | exact HB.out | apply below_alloc | apply pw_below_drewN | apply below_drew1 | refine below_set ?_ (Aside0.out (by assumption))) | exact HB.out)) hb)
                   (try clear hb)
                   (try clear hb2)
                   (try clear hk)
                   (try clear hi)
                   refine hK.out _ _ ⟨(blk_cell BK309.out 0).trans rfl, (blk_cell BK309.out 1).trans rfl, (blk_cell BK287.out 0).trans rfl, (blk_cell BK287.out 1).trans rfl, (blk_cell BK321.out 0).trans rfl, (blk_cell BK321.out 1).trans rfl, (blk_cell BK315.out 0).trans rfl, (blk_cell BK315.out 1).trans rfl, (blk_cell BK327.out 0).trans rfl, (blk_cell BK327.out 1).trans rfl, (blk_cell BK333.out 0).trans rfl, (blk_cell BK333.out 1).trans rfl, (blk_cell BK294.out 0).trans rfl, (blk_cell BK294.out 1).trans rfl⟩ (fun hHeld => ?_)
                   clear hK K
                   refine norm_ (a' := ?_) ?_ ?_
                   rotate_left
                   ·
                    show Act.put _ (some 163) _ = _
                    simp only [Act.put, List.setIfInBounds_toArray, List.set_cons_zero, List.set_cons_succ, i64_w, i32_w]
                    rfl
                   refine pu 38 (some 171) (v := ?_) (a' := ?_) (tb 39 46) rfl rfl (any_of HT_.out (by kernel_rfl)) (fun _ _ _ h => h) ⟨by rfl, ?_⟩ ?_ ?_; rotate_left; · (intro w'; go_simp; with_reducible rfl)
                   rotate_left; · (simp only [Act.put, sa_, sb_, sc_, i64_w, i32_w]; rfl)
                   refine pu 39 (some 172) (v := ?_) (a' := ?_) (tb 40 46) rfl rfl (any_of HT_.out (by kernel_rfl)) (fun _ _ _ h => h) ⟨by rfl, ?_⟩ ?_ ?_; rotate_left; · (intro w'; go_simp; with_reducible rfl)
                   rotate_left; · (simp only [Act.put, sa_, sb_, sc_, i64_w, i32_w]; rfl)
                   refine pu 40 (some 173) (v := ?_) (a' := ?_) (tb 41 46) rfl rfl (any_of HT_.out (by kernel_rfl)) (fun _ _ _ h => h) ⟨by rfl, ?_⟩ ?_ ?_; rotate_left; · (intro w'; go_simp; with_reducible rfl)
                   rotate_left; · (simp only [Act.put, sa_, sb_, sc_, i64_w, i32_w]; rfl)
                   refine tk 41 (some 174) (v := ?_) (a' := ?_) (tb 42 46) rfl rfl (take_ofW HT_.out HW_.out (by kernel_rfl)) (fun _ _ _ h => h) ⟨by rfl, ?_⟩ hHeld ?_ ?_; rotate_left; · (rintro w' ⟨s0, s1, s2, s3, s4, s5, s6, s7, s8, s9, s10, s11, s12, s13⟩; go_simp; with_reducible rfl)
                   rotate_left; · (simp only [Act.put, sa_, sb_, sc_, i64_w, i32_w]; rfl)
                   refine one_ (i := 42) (N := some 175) (tb 43 46) rfl rfl (one_of HT_.out (by kernel_rfl)) (by decide) (fun K hK => ?_)
                   refine goes_ Try.func33 (by kernel_rfl) rfl #[.agg #[.int .i64 t316, .slice Ao92 t317.length co92]] (by rfl) rfl rfl (by (try simp only [List.map_toArray, List.map_cons, List.map_nil]); first | done | rfl | (simp only [List.length_drop, List.length_take]; rfl)) ?_
                   with_reducible refine (hll_Check.calls kj53 t316 _ _ t317 t342 _ ?side1 ?side2 A155.out).mono ?_
                   (case side1 => repeat (first | exact (Kd.R_reads' HO_322001.out).2.2 | (with_reducible refine Kd.C_alloc ?_ _) | (with_reducible refine Kd.C_drewN ?_ _) | (with_reducible refine Kd.C_drew ?_)))
                   (case side2 => exact (Kd.R_reads' HO_322001.out).2.1)
                   rintro e w164 ⟨rfl, hb⟩
                   refine ⟨_, rfl, ?_⟩
                   replace HO_282001 := rb HO_282001 hb; replace HO_288001 := rb HO_288001 hb; replace HO_294001 := rb HO_294001 hb; replace HO_295001 := rb HO_295001 hb; replace HO_310001 := rb HO_310001 hb; replace HO_316001 := rb HO_316001 hb; replace HO_322001 := rb HO_322001 hb; replace HO_328001 := rb HO_328001 hb; replace HO_334001 := rb HO_334001 hb; replace BK281 := bb BK281 hb; replace BK287 := bb BK287 hb; replace BK293 := bb BK293 hb; replace BK294 := bb BK294 hb; replace BK309 := bb BK309 hb; replace BK315 := bb BK315 hb; replace BK321 := bb BK321 hb; replace BK327 := bb BK327 hb; replace BK333 := bb BK333 hb; replace HB := am (below_step (by repeat (first | (with_reducible first | exact HB.out | apply below_alloc | apply pw_below_drewN | apply below_drew1 | refine below_set ?_ (Aside0.out (by assumption))) | exact HB.out)) hb)
                   (try clear hb)
                   (try clear hb2)
                   (try clear hk)
                   (try clear hi)
                   refine hK.out _ _ ⟨(blk_cell BK309.out 0).trans rfl, (blk_cell BK309.out 1).trans rfl, (blk_cell BK287.out 0).trans rfl, (blk_cell BK287.out 1).trans rfl, (blk_cell BK321.out 0).trans rfl, (blk_cell BK321.out 1).trans rfl, (blk_cell BK315.out 0).trans rfl, (blk_cell BK315.out 1).trans rfl, (blk_cell BK327.out 0).trans rfl, (blk_cell BK327.out 1).trans rfl, (blk_cell BK333.out 0).trans rfl, (blk_cell BK333.out 1).trans rfl, (blk_cell BK294.out 0).trans rfl, (blk_cell BK294.out 1).trans rfl⟩ (fun hHeld => ?_)
                   clear hK K
                   refine norm_ (a' := ?_) ?_ ?_
                   rotate_left
                   ·
                    show Act.put _ (some 175) _ = _
                    simp only [Act.put, List.setIfInBounds_toArray, List.set_cons_zero, List.set_cons_succ, i64_w, i32_w]
                    rfl
                   refine pu 43 (some 176) (v := ?_) (a' := ?_) (tb 44 46) rfl rfl (any_of HT_.out (by kernel_rfl)) (fun _ _ _ h => h) ⟨by rfl, ?_⟩ ?_ ?_; rotate_left; · (intro w'; go_simp; with_reducible rfl)
                   rotate_left; · (simp only [Act.put, sa_, sb_, sc_, i64_w, i32_w]; rfl)
                   refine pu 44 (some 177) (v := ?_) (a' := ?_) (tb 45 46) rfl rfl (any_of HT_.out (by kernel_rfl)) (fun _ _ _ h => h) ⟨by rfl, ?_⟩ ?_ ?_; rotate_left; · (intro w'; go_simp; with_reducible rfl)
                   rotate_left; · (simp only [Act.put, sa_, sb_, sc_, i64_w, i32_w]; rfl)
                   refine pu 45 (some 6) (v := ?_) (a' := ?_) (tb 46 46) rfl rfl (any_of HT_.out (by kernel_rfl)) (fun _ _ _ h => h) ⟨by rfl, ?_⟩ ?_ ?_; rotate_left; · (intro w'; go_simp; with_reducible rfl)
                   rotate_left; · (simp only [Act.put, sa_, sb_, sc_, i64_w, i32_w]; rfl)
                   refine done_ (done_of HT_.out (by kernel_rfl)) ?_
                   try go_wp2
                   go_ret
                   exact ⟨by first | rfl | (simp [errW_none, errW_some] <;> rfl) | (simp only [← hji151, ← hji153]; first | rfl | (simp [errW_none, errW_some] <;> rfl)) | (simp [*, errW_none, errW_some] <;> rfl), by repeat (first | (with_reducible first | exact HB.out | apply below_alloc | apply pw_below_drewN | apply below_drew1 | refine below_set ?_ (Aside0.out (by assumption))) | exact HB.out)⟩
                  ·
                   rw [if_neg c154] at H
                   have c154b0 : (t341 == (wrap64 ((ji153) - (t283.length : Int)))) = false := beq_eq_false_iff_ne.mpr c154
                   have c154b1 : (t341 != (wrap64 ((ji153) - (t283.length : Int)))) = true := bne_iff_ne.mpr c154
                   exact absurd H (by simp)
                 ·
                  rw [if_neg c152] at H
                  exact absurd H (by simp)
                ·
                 replace c149 := Bool.eq_false_iff.mpr c149
                 subst c149
                 have H1 : (none) = some r := by rw [if_neg (show ¬ (false = true) by decide)] at H; exact H
                 clear H
                 have H := H1
                 clear H1
                 exact absurd H (by simp)
              ·
               replace c133 := Bool.eq_false_iff.mpr c133
               subst c133
               have H1 : (none) = some r := by rw [if_neg (show ¬ (false = true) by decide)] at H; exact H
               clear H
               have H := H1
               clear H1
               exact absurd H (by simp)
             ·
              replace c131 := Bool.eq_false_iff.mpr c131
              subst c131
              have H1 : (none) = some r := by rw [if_neg (show ¬ (false = true) by decide)] at H; exact H
              clear H
              have H := H1
              clear H1
              exact absurd H (by simp)
            ·
             replace c129 := Bool.eq_false_iff.mpr c129
             subst c129
             have H1 : (none) = some r := by rw [if_neg (show ¬ (false = true) by decide)] at H; exact H
             clear H
             have H := H1
             clear H1
             exact absurd H (by simp)
           ·
            replace c127 := Bool.eq_false_iff.mpr c127
            subst c127
            have H1 : (none) = some r := by rw [if_neg (show ¬ (false = true) by decide)] at H; exact H
            clear H
            have H := H1
            clear H1
            exact absurd H (by simp)
     ·
      rw [if_neg c12] at H
      exact absurd H (by simp)
 ·
  replace c5 := Bool.eq_false_iff.mpr c5
  subst c5
  have H1 : (none) = some r := by rw [if_neg (show ¬ (false = true) by decide)] at H; exact H
  clear H
  have H := H1
  clear H1
  exact absurd H (by simp)

/-- THE ONE PURE STATEMENT of tallymanlaw14_HllSets: yours. -/
def tallymanlaw14_HllSets.Pure : Prop := ∀ (a0 : Int) (l1 : List Int) (l2 : List Int), (Lit.int .i64 a0).wf = true → l1.length ≤ maxLen → l1.length * 8 ≤ 140737488351232 → (∀ x ∈ l1, (Lit.int .u64 x).wf = true) → l2.length ≤ maxLen → l2.length * 8 ≤ 140737488351232 → (∀ x ∈ l2, (Lit.int .u64 x).wf = true) → ∃ k, tallymanlaw14_HllSets.f k a0 l1 l2 = some true
theorem tallymanlaw14_HllSets.walk (P : tallymanlaw14_HllSets.Pure) (a0 : Int) (a1 : Option Addr) (len1 cap1 : Nat) (z1 : List Int) (a2 : Option Addr) (len2 cap2 : Nat) (z2 : List Int) (w : World) (w0 : (Lit.int .i64 a0).wf = true) (w1 : (a1 = none ∧ len1 = 0 ∧ cap1 = 0 ∧ z1 = []) ∨ ∃ x, a1 = some x ∧ len1 ≤ cap1 ∧ cap1 ≤ maxLen ∧ z1.length = cap1 ∧ (∀ i, i < z1.length → w.cell? (x.add i) = some (.int .u64 (z1.getD i 0))) ∧ ∀ n ∈ z1, (Lit.int .u64 n).wf = true) (y1 : len1 * 8 ≤ 140737488351232) (w2 : (a2 = none ∧ len2 = 0 ∧ cap2 = 0 ∧ z2 = []) ∨ ∃ x, a2 = some x ∧ len2 ≤ cap2 ∧ cap2 ≤ maxLen ∧ z2.length = cap2 ∧ (∀ i, i < z2.length → w.cell? (x.add i) = some (.int .u64 (z2.getD i 0))) ∧ ∀ n ∈ z2, (Lit.int .u64 n).wf = true) (y2 : len2 * 8 ≤ 140737488351232) :
  Calls Try.prog 7 #[.int .i64 a0, .slice a1 len1 cap1, .slice a2 len2 cap2] w fun e w' => e = .returned (.bool true) ∧ Below w.heap.size w w' := by
 obtain ⟨l1, rfl, hr1, hm1, hw1, hc1⟩ := ReadsInt.ofRowC w1
 obtain ⟨l2, rfl, hr2, hm2, hw2, hc2⟩ := ReadsInt.ofRowC w2
 obtain ⟨k, h⟩ := P a0 l1 l2 w0 hm1 y1 hw1 hm2 y2 hw2
 refine (tallymanlaw14_HllSets.calls k a0 _ _ l1 _ _ l2 true w (Kd.C_of_reads (d := (0 : Int)) (h1 := fun _ => rfl) hr1) hc1 (Kd.C_of_reads (d := (0 : Int)) (h1 := fun _ => rfl) hr2) hc2 h).mono ?_
 rintro e w' ⟨rfl, hd⟩
 exact ⟨rfl, hd⟩

end Go.Proofs.Ytbclnjinpcfpjaa.H
