-- Made by this session's own call of the printer (functions that are proved by hand are taken from a text beside it).
import Derived.Test.YtpagondojdlknaaZ
import Derived.Test.YtpagondojdlknaaH0
import Derived.Test.YtpagondojdlknaaH1
import Derived.Test.YtpagondojdlknaaH4
import Derived.Test.YtpagondojdlknaaH5
import Derived.Test.YtpagondojdlknaaH9
namespace Go.Proofs.Ytpagondojdlknaa.H
open Go.RowKit Go.Proofs.YtpagondojdlknaaW.PrintWords Go.Proofs.YtpagondojdlknaaW.PrintLast Go.Proofs.YtpagondojdlknaaW.PrintMore
attribute [local go_sem] max2_int min2_int max_two min_two max_three min_three max_four min_four   -- for this text's walks alone
set_option linter.unusedVariables false
set_option linter.unusedSimpArgs false

/-! ### tallymanlaw17_SetopsNames: function 6 -/
def tallymanlaw17_SetopsNames.f (k : Nat)  : Option (Bool) := (tallymanlaw17_view.f 6 (([1, 3, 5] : List Int))).bind fun bt276 => ((tallymanlaw17_view.f 0 (([3, 4, 9] : List Int))).bind fun bt283 => ((setops_One.f bt276.1 bt276.2 bt283.1 bt283.2).bind fun bt287 => ((tallymanlaw17_view.f 6 (([1] : List Int))).bind fun bt296 => ((setops_Cut.f bt296.1 bt296.2 7).bind fun bt300 => ((tallymanlaw17_view.f 6 (([1, 5] : List Int))).bind fun bt309 => ((setops_Cut.f bt309.1 bt309.2 3).bind fun bt313 => ((setops_Of.f k 0 ([] : List Int) 0).bind fun bt319 => ((tallymanlaw17_view.f 0 ([] : List Int)).bind fun bt325 => ((tallymanlaw17_view.f 0 ([] : List Int)).bind fun bt329 => ((setops_Like.f bt325.1 bt325.2 bt329.1 bt329.2).bind fun bt333 => ((tallymanlaw17_lives.f k).bind fun t335 => (if t335 = true then (if bt287.2.2 = 0 then ((tallymanlaw17_view.f 6 (([1, 4, 5] : List Int))).bind fun bt339 => ((tallymankit_View.f k bt287.1 bt287.2.1 bt339.1 bt339.2).bind fun t343 => (if t343 = true then (if bt300.2.2 = 2 then (if bt313.2.2 = 0 then ((tallymanlaw17_view.f 3 (([1] : List Int))).bind fun bt347 => ((tallymankit_View.f k bt313.1 bt313.2.1 bt347.1 bt347.2).bind fun t351 => (if t351 = true then (if bt319.2.2 = 2 then (if bt333.1 = 65536 then ((tallymanlaw17_view.f 5 (([5] : List Int))).bind fun bt355 => ((setops_Check.f k bt355.1 bt355.2).bind fun t359 => (if t359 = 2 then ((tallymanlaw17_view.f 0 (([2, 2] : List Int))).bind fun bt363 => ((setops_Check.f k bt363.1 bt363.2).bind fun t367 => (if t367 = 2 then ((tallymanlaw17_view.f 1 (([0] : List Int))).bind fun bt371 => ((setops_Estimate.f k bt371.1 bt371.2).bind fun t375 => (if t375 = 9223372036854775807 then (some true) else (none)))) else (none)))) else (none)))) else (none)) else (none)) else (none)))) else (none)) else (none)) else (none)))) else (none)) else (none)))))))))))))
theorem tallymanlaw17_SetopsNames.mono : ∀ k, LeO (tallymanlaw17_SetopsNames.f k ) (tallymanlaw17_SetopsNames.f (k + 1) ) := by
  intro  k
  unfold tallymanlaw17_SetopsNames.f
  repeat' first
      | (with_reducible exact setops_Check.mono _ _ _)
      | (with_reducible exact setops_Estimate.mono _ _ _)
      | (with_reducible exact setops_Of.mono _ _ _ _)
      | (with_reducible exact tallymankit_View.mono _ _ _ _ _)
      | (with_reducible exact tallymanlaw17_lives.mono _)
      | (with_reducible exact LeO.refl _)
      | (with_reducible exact LeO.none _)
      | (with_reducible refine LeO.ite ?_ ?_)
      | (with_reducible refine LeO.bind ?_ (fun _ => ?_))
      | exact setops_Check.mono _ _ _
      | exact setops_Estimate.mono _ _ _
      | exact setops_Of.mono _ _ _ _
      | exact tallymankit_View.mono _ _ _ _ _
      | exact tallymanlaw17_lives.mono _
      | exact LeO.none _
      | refine LeO.ite ?_ ?_
      | refine LeO.bind ?_ (fun _ => ?_)
def tallymanlaw17_SetopsNames.T6 : Bool × List (List Nat × List Nat) := (true, [([], []), ([0, 0], [0]), ([1], [1]), ([2, 1], [1, 2]), ([1, 3], [1, 3]), ([4, 1], [4]), ([5], [5]), ([5], [5]), ([7, 5, 5], [5, 7]), ([6, 8, 8, 5], [5, 6, 8]), ([5, 9], [5, 9]), ([10, 9], [10]), ([11], [11]), ([12, 11], [11, 12]), ([11, 13], [11, 13]), ([14, 11], [14]), ([15], [15]), ([16, 15], [15, 16]), ([15, 17], [15, 17]), ([18, 15], [18]), ([19], [19]), ([19], [19]), ([21, 19, 19], [19, 21]), ([20, 22, 22, 19], [19, 20, 22]), ([19, 23], [19, 23]), ([24, 23], [24]), ([25], [25]), ([26, 25], [25, 26]), ([25, 27], [25, 27]), ([28, 25], [28]), ([29], [29]), ([30, 29], [29, 30]), ([29, 31], [29, 31]), ([32, 29], [32]), ([33], [33]), ([34, 33, 33], [33, 34]), ([35, 35, 33], [33, 35]), ([36, 33], [33, 36]), ([33, 37], [33, 37]), ([38, 36], [38]), ([39], [39]), ([40, 39, 39], [39, 40]), ([41, 41, 39], [39, 41]), ([42, 39], [39, 42]), ([39, 43], [39, 43]), ([44, 42], [44]), ([45], [45]), ([46, 45, 45], [45, 46]), ([47, 47, 45], [45, 47]), ([48, 45], [45, 48]), ([45, 49], [45, 49]), ([50, 48], [50]), ([51], [51]), ([52, 51, 0, 1, 2, 3, 4, 5, 6, 7, 8, 9, 10, 11, 12, 13, 14, 15, 16, 17, 18, 19, 20, 21, 22, 23, 24, 25, 26, 27, 28, 29, 30, 31, 32, 33, 34, 35, 36, 37, 38, 39, 40, 41, 42, 43, 44, 45, 46, 47, 48, 49, 50, 51, 52], [52])])
def tallymanlaw17_SetopsNames.B6 : List Nat := [0, 1, 3, 7, 15, 31, 63, 63, 191, 511, 1023, 2047, 4095, 8191, 16383, 32767, 65535, 131071, 262143, 524287, 1048575, 1048575, 3145727, 8388607, 16777215, 33554431, 67108863, 134217727, 268435455, 536870911, 1073741823, 2147483647, 4294967295, 8589934591, 17179869183, 34359738367, 68719476735, 137438953471, 274877906943, 549755813887, 1099511627775, 2199023255551, 4398046511103, 8796093022207, 17592186044415, 35184372088831, 70368744177663, 140737488355327, 281474976710655, 562949953421311, 1125899906842623, 2251799813685247, 4503599627370495, 9007199254740991]
theorem tallymanlaw17_SetopsNames.tab6 : rtab .any (opsOf Try.f6 6) = tallymanlaw17_SetopsNames.T6 := by kernel_rfl
theorem tallymanlaw17_SetopsNames.bits6 : waitsOk tallymanlaw17_SetopsNames.T6.2 tallymanlaw17_SetopsNames.B6 = true := by kernel_rfl
set_option maxHeartbeats 8000000 in
set_option maxRecDepth 100000 in
theorem tallymanlaw17_SetopsNames.calls (k : Nat)  (r : Bool) (w : World) (h : tallymanlaw17_SetopsNames.f k  = some r) :
    Calls Try.prog 6 #[] w fun e w' => e = .returned (.bool r) ∧ Below w.heap.size w w' := by
  have hu25 := Try.underlying25
  have hu34 := Try.underlying34
  have HB := am (Below.refl w.heap.size w)
  have H : ((tallymanlaw17_view.f 6 (([1, 3, 5] : List Int))).bind fun bt276 => ((tallymanlaw17_view.f 0 (([3, 4, 9] : List Int))).bind fun bt283 => ((setops_One.f bt276.1 bt276.2 bt283.1 bt283.2).bind fun bt287 => ((tallymanlaw17_view.f 6 (([1] : List Int))).bind fun bt296 => ((setops_Cut.f bt296.1 bt296.2 7).bind fun bt300 => ((tallymanlaw17_view.f 6 (([1, 5] : List Int))).bind fun bt309 => ((setops_Cut.f bt309.1 bt309.2 3).bind fun bt313 => ((setops_Of.f k 0 ([] : List Int) 0).bind fun bt319 => ((tallymanlaw17_view.f 0 ([] : List Int)).bind fun bt325 => ((tallymanlaw17_view.f 0 ([] : List Int)).bind fun bt329 => ((setops_Like.f bt325.1 bt325.2 bt329.1 bt329.2).bind fun bt333 => ((tallymanlaw17_lives.f k).bind fun t335 => (if t335 = true then (if bt287.2.2 = 0 then ((tallymanlaw17_view.f 6 (([1, 4, 5] : List Int))).bind fun bt339 => ((tallymankit_View.f k bt287.1 bt287.2.1 bt339.1 bt339.2).bind fun t343 => (if t343 = true then (if bt300.2.2 = 2 then (if bt313.2.2 = 0 then ((tallymanlaw17_view.f 3 (([1] : List Int))).bind fun bt347 => ((tallymankit_View.f k bt313.1 bt313.2.1 bt347.1 bt347.2).bind fun t351 => (if t351 = true then (if bt319.2.2 = 2 then (if bt333.1 = 65536 then ((tallymanlaw17_view.f 5 (([5] : List Int))).bind fun bt355 => ((setops_Check.f k bt355.1 bt355.2).bind fun t359 => (if t359 = 2 then ((tallymanlaw17_view.f 0 (([2, 2] : List Int))).bind fun bt363 => ((setops_Check.f k bt363.1 bt363.2).bind fun t367 => (if t367 = 2 then ((tallymanlaw17_view.f 1 (([0] : List Int))).bind fun bt371 => ((setops_Estimate.f k bt371.1 bt371.2).bind fun t375 => (if t375 = 9223372036854775807 then (some true) else (none)))) else (none)))) else (none)))) else (none)) else (none)) else (none)))) else (none)) else (none)) else (none)))) else (none)) else (none)))))))))))))) = some r := h
  clear h
  obtain ⟨y273, hy273⟩ : ∃ y_ : List Int, y_ = (([1, 3, 5] : List Int)) := ⟨_, rfl⟩
  replace H : ((tallymanlaw17_view.f 6 y273).bind fun bt276 => ((tallymanlaw17_view.f 0 (([3, 4, 9] : List Int))).bind fun bt283 => ((setops_One.f bt276.1 bt276.2 bt283.1 bt283.2).bind fun bt287 => ((tallymanlaw17_view.f 6 (([1] : List Int))).bind fun bt296 => ((setops_Cut.f bt296.1 bt296.2 7).bind fun bt300 => ((tallymanlaw17_view.f 6 (([1, 5] : List Int))).bind fun bt309 => ((setops_Cut.f bt309.1 bt309.2 3).bind fun bt313 => ((setops_Of.f k 0 ([] : List Int) 0).bind fun bt319 => ((tallymanlaw17_view.f 0 ([] : List Int)).bind fun bt325 => ((tallymanlaw17_view.f 0 ([] : List Int)).bind fun bt329 => ((setops_Like.f bt325.1 bt325.2 bt329.1 bt329.2).bind fun bt333 => ((tallymanlaw17_lives.f k).bind fun t335 => (if t335 = true then (if bt287.2.2 = 0 then ((tallymanlaw17_view.f 6 (([1, 4, 5] : List Int))).bind fun bt339 => ((tallymankit_View.f k bt287.1 bt287.2.1 bt339.1 bt339.2).bind fun t343 => (if t343 = true then (if bt300.2.2 = 2 then (if bt313.2.2 = 0 then ((tallymanlaw17_view.f 3 (([1] : List Int))).bind fun bt347 => ((tallymankit_View.f k bt313.1 bt313.2.1 bt347.1 bt347.2).bind fun t351 => (if t351 = true then (if bt319.2.2 = 2 then (if bt333.1 = 65536 then ((tallymanlaw17_view.f 5 (([5] : List Int))).bind fun bt355 => ((setops_Check.f k bt355.1 bt355.2).bind fun t359 => (if t359 = 2 then ((tallymanlaw17_view.f 0 (([2, 2] : List Int))).bind fun bt363 => ((setops_Check.f k bt363.1 bt363.2).bind fun t367 => (if t367 = 2 then ((tallymanlaw17_view.f 1 (([0] : List Int))).bind fun bt371 => ((setops_Estimate.f k bt371.1 bt371.2).bind fun t375 => (if t375 = 9223372036854775807 then (some true) else (none)))) else (none)))) else (none)))) else (none)) else (none)) else (none)))) else (none)) else (none)) else (none)))) else (none)) else (none)))))))))))))) = some r := by first | (rw [hy273]; with_reducible exact H) | (have H2_ := (Option.bind_some _ _).symm.trans H; rw [hy273]; with_reducible exact H2_) | (have H2_ := (Option.bind_some _ _).symm.trans H; with_reducible exact H2_) | with_reducible exact H | (rw [hy273]; exact H) | exact H
  have Ny273 := Aside0.mk hy273
  clear hy273
  replace H := Option.bind_eq_some_iff.mp H
  obtain ⟨⟨t276, t277⟩, A10, H⟩ := H
  replace H : ((tallymanlaw17_view.f 0 (([3, 4, 9] : List Int))).bind fun bt283 => ((setops_One.f t276 t277 bt283.1 bt283.2).bind fun bt287 => ((tallymanlaw17_view.f 6 (([1] : List Int))).bind fun bt296 => ((setops_Cut.f bt296.1 bt296.2 7).bind fun bt300 => ((tallymanlaw17_view.f 6 (([1, 5] : List Int))).bind fun bt309 => ((setops_Cut.f bt309.1 bt309.2 3).bind fun bt313 => ((setops_Of.f k 0 ([] : List Int) 0).bind fun bt319 => ((tallymanlaw17_view.f 0 ([] : List Int)).bind fun bt325 => ((tallymanlaw17_view.f 0 ([] : List Int)).bind fun bt329 => ((setops_Like.f bt325.1 bt325.2 bt329.1 bt329.2).bind fun bt333 => ((tallymanlaw17_lives.f k).bind fun t335 => (if t335 = true then (if bt287.2.2 = 0 then ((tallymanlaw17_view.f 6 (([1, 4, 5] : List Int))).bind fun bt339 => ((tallymankit_View.f k bt287.1 bt287.2.1 bt339.1 bt339.2).bind fun t343 => (if t343 = true then (if bt300.2.2 = 2 then (if bt313.2.2 = 0 then ((tallymanlaw17_view.f 3 (([1] : List Int))).bind fun bt347 => ((tallymankit_View.f k bt313.1 bt313.2.1 bt347.1 bt347.2).bind fun t351 => (if t351 = true then (if bt319.2.2 = 2 then (if bt333.1 = 65536 then ((tallymanlaw17_view.f 5 (([5] : List Int))).bind fun bt355 => ((setops_Check.f k bt355.1 bt355.2).bind fun t359 => (if t359 = 2 then ((tallymanlaw17_view.f 0 (([2, 2] : List Int))).bind fun bt363 => ((setops_Check.f k bt363.1 bt363.2).bind fun t367 => (if t367 = 2 then ((tallymanlaw17_view.f 1 (([0] : List Int))).bind fun bt371 => ((setops_Estimate.f k bt371.1 bt371.2).bind fun t375 => (if t375 = 9223372036854775807 then (some true) else (none)))) else (none)))) else (none)))) else (none)) else (none)) else (none)))) else (none)) else (none)) else (none)))) else (none)) else (none))))))))))))) = some r := H
  have A1 := Aside0.mk A10
  clear A10
  obtain ⟨y280, hy280⟩ : ∃ y_ : List Int, y_ = (([3, 4, 9] : List Int)) := ⟨_, rfl⟩
  replace H : ((tallymanlaw17_view.f 0 y280).bind fun bt283 => ((setops_One.f t276 t277 bt283.1 bt283.2).bind fun bt287 => ((tallymanlaw17_view.f 6 (([1] : List Int))).bind fun bt296 => ((setops_Cut.f bt296.1 bt296.2 7).bind fun bt300 => ((tallymanlaw17_view.f 6 (([1, 5] : List Int))).bind fun bt309 => ((setops_Cut.f bt309.1 bt309.2 3).bind fun bt313 => ((setops_Of.f k 0 ([] : List Int) 0).bind fun bt319 => ((tallymanlaw17_view.f 0 ([] : List Int)).bind fun bt325 => ((tallymanlaw17_view.f 0 ([] : List Int)).bind fun bt329 => ((setops_Like.f bt325.1 bt325.2 bt329.1 bt329.2).bind fun bt333 => ((tallymanlaw17_lives.f k).bind fun t335 => (if t335 = true then (if bt287.2.2 = 0 then ((tallymanlaw17_view.f 6 (([1, 4, 5] : List Int))).bind fun bt339 => ((tallymankit_View.f k bt287.1 bt287.2.1 bt339.1 bt339.2).bind fun t343 => (if t343 = true then (if bt300.2.2 = 2 then (if bt313.2.2 = 0 then ((tallymanlaw17_view.f 3 (([1] : List Int))).bind fun bt347 => ((tallymankit_View.f k bt313.1 bt313.2.1 bt347.1 bt347.2).bind fun t351 => (if t351 = true then (if bt319.2.2 = 2 then (if bt333.1 = 65536 then ((tallymanlaw17_view.f 5 (([5] : List Int))).bind fun bt355 => ((setops_Check.f k bt355.1 bt355.2).bind fun t359 => (if t359 = 2 then ((tallymanlaw17_view.f 0 (([2, 2] : List Int))).bind fun bt363 => ((setops_Check.f k bt363.1 bt363.2).bind fun t367 => (if t367 = 2 then ((tallymanlaw17_view.f 1 (([0] : List Int))).bind fun bt371 => ((setops_Estimate.f k bt371.1 bt371.2).bind fun t375 => (if t375 = 9223372036854775807 then (some true) else (none)))) else (none)))) else (none)))) else (none)) else (none)) else (none)))) else (none)) else (none)) else (none)))) else (none)) else (none))))))))))))) = some r := by first | (rw [hy280]; with_reducible exact H) | (have H2_ := (Option.bind_some _ _).symm.trans H; rw [hy280]; with_reducible exact H2_) | (have H2_ := (Option.bind_some _ _).symm.trans H; with_reducible exact H2_) | with_reducible exact H | (rw [hy280]; exact H) | exact H
  have Ny280 := Aside0.mk hy280
  clear hy280
  replace H := Option.bind_eq_some_iff.mp H
  obtain ⟨⟨t283, t284⟩, A20, H⟩ := H
  replace H : ((setops_One.f t276 t277 t283 t284).bind fun bt287 => ((tallymanlaw17_view.f 6 (([1] : List Int))).bind fun bt296 => ((setops_Cut.f bt296.1 bt296.2 7).bind fun bt300 => ((tallymanlaw17_view.f 6 (([1, 5] : List Int))).bind fun bt309 => ((setops_Cut.f bt309.1 bt309.2 3).bind fun bt313 => ((setops_Of.f k 0 ([] : List Int) 0).bind fun bt319 => ((tallymanlaw17_view.f 0 ([] : List Int)).bind fun bt325 => ((tallymanlaw17_view.f 0 ([] : List Int)).bind fun bt329 => ((setops_Like.f bt325.1 bt325.2 bt329.1 bt329.2).bind fun bt333 => ((tallymanlaw17_lives.f k).bind fun t335 => (if t335 = true then (if bt287.2.2 = 0 then ((tallymanlaw17_view.f 6 (([1, 4, 5] : List Int))).bind fun bt339 => ((tallymankit_View.f k bt287.1 bt287.2.1 bt339.1 bt339.2).bind fun t343 => (if t343 = true then (if bt300.2.2 = 2 then (if bt313.2.2 = 0 then ((tallymanlaw17_view.f 3 (([1] : List Int))).bind fun bt347 => ((tallymankit_View.f k bt313.1 bt313.2.1 bt347.1 bt347.2).bind fun t351 => (if t351 = true then (if bt319.2.2 = 2 then (if bt333.1 = 65536 then ((tallymanlaw17_view.f 5 (([5] : List Int))).bind fun bt355 => ((setops_Check.f k bt355.1 bt355.2).bind fun t359 => (if t359 = 2 then ((tallymanlaw17_view.f 0 (([2, 2] : List Int))).bind fun bt363 => ((setops_Check.f k bt363.1 bt363.2).bind fun t367 => (if t367 = 2 then ((tallymanlaw17_view.f 1 (([0] : List Int))).bind fun bt371 => ((setops_Estimate.f k bt371.1 bt371.2).bind fun t375 => (if t375 = 9223372036854775807 then (some true) else (none)))) else (none)))) else (none)))) else (none)) else (none)) else (none)))) else (none)) else (none)) else (none)))) else (none)) else (none)))))))))))) = some r := H
  have A2 := Aside0.mk A20
  clear A20
  replace H := Option.bind_eq_some_iff.mp H
  obtain ⟨⟨t287, t288, t291⟩, A30, H⟩ := H
  replace H : ((tallymanlaw17_view.f 6 (([1] : List Int))).bind fun bt296 => ((setops_Cut.f bt296.1 bt296.2 7).bind fun bt300 => ((tallymanlaw17_view.f 6 (([1, 5] : List Int))).bind fun bt309 => ((setops_Cut.f bt309.1 bt309.2 3).bind fun bt313 => ((setops_Of.f k 0 ([] : List Int) 0).bind fun bt319 => ((tallymanlaw17_view.f 0 ([] : List Int)).bind fun bt325 => ((tallymanlaw17_view.f 0 ([] : List Int)).bind fun bt329 => ((setops_Like.f bt325.1 bt325.2 bt329.1 bt329.2).bind fun bt333 => ((tallymanlaw17_lives.f k).bind fun t335 => (if t335 = true then (if t291 = 0 then ((tallymanlaw17_view.f 6 (([1, 4, 5] : List Int))).bind fun bt339 => ((tallymankit_View.f k t287 t288 bt339.1 bt339.2).bind fun t343 => (if t343 = true then (if bt300.2.2 = 2 then (if bt313.2.2 = 0 then ((tallymanlaw17_view.f 3 (([1] : List Int))).bind fun bt347 => ((tallymankit_View.f k bt313.1 bt313.2.1 bt347.1 bt347.2).bind fun t351 => (if t351 = true then (if bt319.2.2 = 2 then (if bt333.1 = 65536 then ((tallymanlaw17_view.f 5 (([5] : List Int))).bind fun bt355 => ((setops_Check.f k bt355.1 bt355.2).bind fun t359 => (if t359 = 2 then ((tallymanlaw17_view.f 0 (([2, 2] : List Int))).bind fun bt363 => ((setops_Check.f k bt363.1 bt363.2).bind fun t367 => (if t367 = 2 then ((tallymanlaw17_view.f 1 (([0] : List Int))).bind fun bt371 => ((setops_Estimate.f k bt371.1 bt371.2).bind fun t375 => (if t375 = 9223372036854775807 then (some true) else (none)))) else (none)))) else (none)))) else (none)) else (none)) else (none)))) else (none)) else (none)) else (none)))) else (none)) else (none))))))))))) = some r := H
  have A3 := Aside0.mk A30
  clear A30
  obtain ⟨y293, hy293⟩ : ∃ y_ : List Int, y_ = (([1] : List Int)) := ⟨_, rfl⟩
  replace H : ((tallymanlaw17_view.f 6 y293).bind fun bt296 => ((setops_Cut.f bt296.1 bt296.2 7).bind fun bt300 => ((tallymanlaw17_view.f 6 (([1, 5] : List Int))).bind fun bt309 => ((setops_Cut.f bt309.1 bt309.2 3).bind fun bt313 => ((setops_Of.f k 0 ([] : List Int) 0).bind fun bt319 => ((tallymanlaw17_view.f 0 ([] : List Int)).bind fun bt325 => ((tallymanlaw17_view.f 0 ([] : List Int)).bind fun bt329 => ((setops_Like.f bt325.1 bt325.2 bt329.1 bt329.2).bind fun bt333 => ((tallymanlaw17_lives.f k).bind fun t335 => (if t335 = true then (if t291 = 0 then ((tallymanlaw17_view.f 6 (([1, 4, 5] : List Int))).bind fun bt339 => ((tallymankit_View.f k t287 t288 bt339.1 bt339.2).bind fun t343 => (if t343 = true then (if bt300.2.2 = 2 then (if bt313.2.2 = 0 then ((tallymanlaw17_view.f 3 (([1] : List Int))).bind fun bt347 => ((tallymankit_View.f k bt313.1 bt313.2.1 bt347.1 bt347.2).bind fun t351 => (if t351 = true then (if bt319.2.2 = 2 then (if bt333.1 = 65536 then ((tallymanlaw17_view.f 5 (([5] : List Int))).bind fun bt355 => ((setops_Check.f k bt355.1 bt355.2).bind fun t359 => (if t359 = 2 then ((tallymanlaw17_view.f 0 (([2, 2] : List Int))).bind fun bt363 => ((setops_Check.f k bt363.1 bt363.2).bind fun t367 => (if t367 = 2 then ((tallymanlaw17_view.f 1 (([0] : List Int))).bind fun bt371 => ((setops_Estimate.f k bt371.1 bt371.2).bind fun t375 => (if t375 = 9223372036854775807 then (some true) else (none)))) else (none)))) else (none)))) else (none)) else (none)) else (none)))) else (none)) else (none)) else (none)))) else (none)) else (none))))))))))) = some r := by first | (rw [hy293]; with_reducible exact H) | (have H2_ := (Option.bind_some _ _).symm.trans H; rw [hy293]; with_reducible exact H2_) | (have H2_ := (Option.bind_some _ _).symm.trans H; with_reducible exact H2_) | with_reducible exact H | (rw [hy293]; exact H) | exact H
  have Ny293 := Aside0.mk hy293
  clear hy293
  replace H := Option.bind_eq_some_iff.mp H
  obtain ⟨⟨t296, t297⟩, A40, H⟩ := H
  replace H : ((setops_Cut.f t296 t297 7).bind fun bt300 => ((tallymanlaw17_view.f 6 (([1, 5] : List Int))).bind fun bt309 => ((setops_Cut.f bt309.1 bt309.2 3).bind fun bt313 => ((setops_Of.f k 0 ([] : List Int) 0).bind fun bt319 => ((tallymanlaw17_view.f 0 ([] : List Int)).bind fun bt325 => ((tallymanlaw17_view.f 0 ([] : List Int)).bind fun bt329 => ((setops_Like.f bt325.1 bt325.2 bt329.1 bt329.2).bind fun bt333 => ((tallymanlaw17_lives.f k).bind fun t335 => (if t335 = true then (if t291 = 0 then ((tallymanlaw17_view.f 6 (([1, 4, 5] : List Int))).bind fun bt339 => ((tallymankit_View.f k t287 t288 bt339.1 bt339.2).bind fun t343 => (if t343 = true then (if bt300.2.2 = 2 then (if bt313.2.2 = 0 then ((tallymanlaw17_view.f 3 (([1] : List Int))).bind fun bt347 => ((tallymankit_View.f k bt313.1 bt313.2.1 bt347.1 bt347.2).bind fun t351 => (if t351 = true then (if bt319.2.2 = 2 then (if bt333.1 = 65536 then ((tallymanlaw17_view.f 5 (([5] : List Int))).bind fun bt355 => ((setops_Check.f k bt355.1 bt355.2).bind fun t359 => (if t359 = 2 then ((tallymanlaw17_view.f 0 (([2, 2] : List Int))).bind fun bt363 => ((setops_Check.f k bt363.1 bt363.2).bind fun t367 => (if t367 = 2 then ((tallymanlaw17_view.f 1 (([0] : List Int))).bind fun bt371 => ((setops_Estimate.f k bt371.1 bt371.2).bind fun t375 => (if t375 = 9223372036854775807 then (some true) else (none)))) else (none)))) else (none)))) else (none)) else (none)) else (none)))) else (none)) else (none)) else (none)))) else (none)) else (none)))))))))) = some r := H
  have A4 := Aside0.mk A40
  clear A40
  replace H := Option.bind_eq_some_iff.mp H
  obtain ⟨⟨t300, t301, t304⟩, A50, H⟩ := H
  replace H : ((tallymanlaw17_view.f 6 (([1, 5] : List Int))).bind fun bt309 => ((setops_Cut.f bt309.1 bt309.2 3).bind fun bt313 => ((setops_Of.f k 0 ([] : List Int) 0).bind fun bt319 => ((tallymanlaw17_view.f 0 ([] : List Int)).bind fun bt325 => ((tallymanlaw17_view.f 0 ([] : List Int)).bind fun bt329 => ((setops_Like.f bt325.1 bt325.2 bt329.1 bt329.2).bind fun bt333 => ((tallymanlaw17_lives.f k).bind fun t335 => (if t335 = true then (if t291 = 0 then ((tallymanlaw17_view.f 6 (([1, 4, 5] : List Int))).bind fun bt339 => ((tallymankit_View.f k t287 t288 bt339.1 bt339.2).bind fun t343 => (if t343 = true then (if t304 = 2 then (if bt313.2.2 = 0 then ((tallymanlaw17_view.f 3 (([1] : List Int))).bind fun bt347 => ((tallymankit_View.f k bt313.1 bt313.2.1 bt347.1 bt347.2).bind fun t351 => (if t351 = true then (if bt319.2.2 = 2 then (if bt333.1 = 65536 then ((tallymanlaw17_view.f 5 (([5] : List Int))).bind fun bt355 => ((setops_Check.f k bt355.1 bt355.2).bind fun t359 => (if t359 = 2 then ((tallymanlaw17_view.f 0 (([2, 2] : List Int))).bind fun bt363 => ((setops_Check.f k bt363.1 bt363.2).bind fun t367 => (if t367 = 2 then ((tallymanlaw17_view.f 1 (([0] : List Int))).bind fun bt371 => ((setops_Estimate.f k bt371.1 bt371.2).bind fun t375 => (if t375 = 9223372036854775807 then (some true) else (none)))) else (none)))) else (none)))) else (none)) else (none)) else (none)))) else (none)) else (none)) else (none)))) else (none)) else (none))))))))) = some r := H
  have A5 := Aside0.mk A50
  clear A50
  obtain ⟨y306, hy306⟩ : ∃ y_ : List Int, y_ = (([1, 5] : List Int)) := ⟨_, rfl⟩
  replace H : ((tallymanlaw17_view.f 6 y306).bind fun bt309 => ((setops_Cut.f bt309.1 bt309.2 3).bind fun bt313 => ((setops_Of.f k 0 ([] : List Int) 0).bind fun bt319 => ((tallymanlaw17_view.f 0 ([] : List Int)).bind fun bt325 => ((tallymanlaw17_view.f 0 ([] : List Int)).bind fun bt329 => ((setops_Like.f bt325.1 bt325.2 bt329.1 bt329.2).bind fun bt333 => ((tallymanlaw17_lives.f k).bind fun t335 => (if t335 = true then (if t291 = 0 then ((tallymanlaw17_view.f 6 (([1, 4, 5] : List Int))).bind fun bt339 => ((tallymankit_View.f k t287 t288 bt339.1 bt339.2).bind fun t343 => (if t343 = true then (if t304 = 2 then (if bt313.2.2 = 0 then ((tallymanlaw17_view.f 3 (([1] : List Int))).bind fun bt347 => ((tallymankit_View.f k bt313.1 bt313.2.1 bt347.1 bt347.2).bind fun t351 => (if t351 = true then (if bt319.2.2 = 2 then (if bt333.1 = 65536 then ((tallymanlaw17_view.f 5 (([5] : List Int))).bind fun bt355 => ((setops_Check.f k bt355.1 bt355.2).bind fun t359 => (if t359 = 2 then ((tallymanlaw17_view.f 0 (([2, 2] : List Int))).bind fun bt363 => ((setops_Check.f k bt363.1 bt363.2).bind fun t367 => (if t367 = 2 then ((tallymanlaw17_view.f 1 (([0] : List Int))).bind fun bt371 => ((setops_Estimate.f k bt371.1 bt371.2).bind fun t375 => (if t375 = 9223372036854775807 then (some true) else (none)))) else (none)))) else (none)))) else (none)) else (none)) else (none)))) else (none)) else (none)) else (none)))) else (none)) else (none))))))))) = some r := by first | (rw [hy306]; with_reducible exact H) | (have H2_ := (Option.bind_some _ _).symm.trans H; rw [hy306]; with_reducible exact H2_) | (have H2_ := (Option.bind_some _ _).symm.trans H; with_reducible exact H2_) | with_reducible exact H | (rw [hy306]; exact H) | exact H
  have Ny306 := Aside0.mk hy306
  clear hy306
  replace H := Option.bind_eq_some_iff.mp H
  obtain ⟨⟨t309, t310⟩, A60, H⟩ := H
  replace H : ((setops_Cut.f t309 t310 3).bind fun bt313 => ((setops_Of.f k 0 ([] : List Int) 0).bind fun bt319 => ((tallymanlaw17_view.f 0 ([] : List Int)).bind fun bt325 => ((tallymanlaw17_view.f 0 ([] : List Int)).bind fun bt329 => ((setops_Like.f bt325.1 bt325.2 bt329.1 bt329.2).bind fun bt333 => ((tallymanlaw17_lives.f k).bind fun t335 => (if t335 = true then (if t291 = 0 then ((tallymanlaw17_view.f 6 (([1, 4, 5] : List Int))).bind fun bt339 => ((tallymankit_View.f k t287 t288 bt339.1 bt339.2).bind fun t343 => (if t343 = true then (if t304 = 2 then (if bt313.2.2 = 0 then ((tallymanlaw17_view.f 3 (([1] : List Int))).bind fun bt347 => ((tallymankit_View.f k bt313.1 bt313.2.1 bt347.1 bt347.2).bind fun t351 => (if t351 = true then (if bt319.2.2 = 2 then (if bt333.1 = 65536 then ((tallymanlaw17_view.f 5 (([5] : List Int))).bind fun bt355 => ((setops_Check.f k bt355.1 bt355.2).bind fun t359 => (if t359 = 2 then ((tallymanlaw17_view.f 0 (([2, 2] : List Int))).bind fun bt363 => ((setops_Check.f k bt363.1 bt363.2).bind fun t367 => (if t367 = 2 then ((tallymanlaw17_view.f 1 (([0] : List Int))).bind fun bt371 => ((setops_Estimate.f k bt371.1 bt371.2).bind fun t375 => (if t375 = 9223372036854775807 then (some true) else (none)))) else (none)))) else (none)))) else (none)) else (none)) else (none)))) else (none)) else (none)) else (none)))) else (none)) else (none)))))))) = some r := H
  have A6 := Aside0.mk A60
  clear A60
  replace H := Option.bind_eq_some_iff.mp H
  obtain ⟨⟨t313, t314, t317⟩, A70, H⟩ := H
  replace H : ((setops_Of.f k 0 ([] : List Int) 0).bind fun bt319 => ((tallymanlaw17_view.f 0 ([] : List Int)).bind fun bt325 => ((tallymanlaw17_view.f 0 ([] : List Int)).bind fun bt329 => ((setops_Like.f bt325.1 bt325.2 bt329.1 bt329.2).bind fun bt333 => ((tallymanlaw17_lives.f k).bind fun t335 => (if t335 = true then (if t291 = 0 then ((tallymanlaw17_view.f 6 (([1, 4, 5] : List Int))).bind fun bt339 => ((tallymankit_View.f k t287 t288 bt339.1 bt339.2).bind fun t343 => (if t343 = true then (if t304 = 2 then (if t317 = 0 then ((tallymanlaw17_view.f 3 (([1] : List Int))).bind fun bt347 => ((tallymankit_View.f k t313 t314 bt347.1 bt347.2).bind fun t351 => (if t351 = true then (if bt319.2.2 = 2 then (if bt333.1 = 65536 then ((tallymanlaw17_view.f 5 (([5] : List Int))).bind fun bt355 => ((setops_Check.f k bt355.1 bt355.2).bind fun t359 => (if t359 = 2 then ((tallymanlaw17_view.f 0 (([2, 2] : List Int))).bind fun bt363 => ((setops_Check.f k bt363.1 bt363.2).bind fun t367 => (if t367 = 2 then ((tallymanlaw17_view.f 1 (([0] : List Int))).bind fun bt371 => ((setops_Estimate.f k bt371.1 bt371.2).bind fun t375 => (if t375 = 9223372036854775807 then (some true) else (none)))) else (none)))) else (none)))) else (none)) else (none)) else (none)))) else (none)) else (none)) else (none)))) else (none)) else (none))))))) = some r := H
  have A7 := Aside0.mk A70
  clear A70
  replace H := Option.bind_eq_some_iff.mp H
  obtain ⟨⟨t319, t320, t323⟩, A80, H⟩ := H
  replace H : ((tallymanlaw17_view.f 0 ([] : List Int)).bind fun bt325 => ((tallymanlaw17_view.f 0 ([] : List Int)).bind fun bt329 => ((setops_Like.f bt325.1 bt325.2 bt329.1 bt329.2).bind fun bt333 => ((tallymanlaw17_lives.f k).bind fun t335 => (if t335 = true then (if t291 = 0 then ((tallymanlaw17_view.f 6 (([1, 4, 5] : List Int))).bind fun bt339 => ((tallymankit_View.f k t287 t288 bt339.1 bt339.2).bind fun t343 => (if t343 = true then (if t304 = 2 then (if t317 = 0 then ((tallymanlaw17_view.f 3 (([1] : List Int))).bind fun bt347 => ((tallymankit_View.f k t313 t314 bt347.1 bt347.2).bind fun t351 => (if t351 = true then (if t323 = 2 then (if bt333.1 = 65536 then ((tallymanlaw17_view.f 5 (([5] : List Int))).bind fun bt355 => ((setops_Check.f k bt355.1 bt355.2).bind fun t359 => (if t359 = 2 then ((tallymanlaw17_view.f 0 (([2, 2] : List Int))).bind fun bt363 => ((setops_Check.f k bt363.1 bt363.2).bind fun t367 => (if t367 = 2 then ((tallymanlaw17_view.f 1 (([0] : List Int))).bind fun bt371 => ((setops_Estimate.f k bt371.1 bt371.2).bind fun t375 => (if t375 = 9223372036854775807 then (some true) else (none)))) else (none)))) else (none)))) else (none)) else (none)) else (none)))) else (none)) else (none)) else (none)))) else (none)) else (none)))))) = some r := H
  have A8 := Aside0.mk A80
  clear A80
  replace H := Option.bind_eq_some_iff.mp H
  obtain ⟨⟨t325, t326⟩, A90, H⟩ := H
  replace H : ((tallymanlaw17_view.f 0 ([] : List Int)).bind fun bt329 => ((setops_Like.f t325 t326 bt329.1 bt329.2).bind fun bt333 => ((tallymanlaw17_lives.f k).bind fun t335 => (if t335 = true then (if t291 = 0 then ((tallymanlaw17_view.f 6 (([1, 4, 5] : List Int))).bind fun bt339 => ((tallymankit_View.f k t287 t288 bt339.1 bt339.2).bind fun t343 => (if t343 = true then (if t304 = 2 then (if t317 = 0 then ((tallymanlaw17_view.f 3 (([1] : List Int))).bind fun bt347 => ((tallymankit_View.f k t313 t314 bt347.1 bt347.2).bind fun t351 => (if t351 = true then (if t323 = 2 then (if bt333.1 = 65536 then ((tallymanlaw17_view.f 5 (([5] : List Int))).bind fun bt355 => ((setops_Check.f k bt355.1 bt355.2).bind fun t359 => (if t359 = 2 then ((tallymanlaw17_view.f 0 (([2, 2] : List Int))).bind fun bt363 => ((setops_Check.f k bt363.1 bt363.2).bind fun t367 => (if t367 = 2 then ((tallymanlaw17_view.f 1 (([0] : List Int))).bind fun bt371 => ((setops_Estimate.f k bt371.1 bt371.2).bind fun t375 => (if t375 = 9223372036854775807 then (some true) else (none)))) else (none)))) else (none)))) else (none)) else (none)) else (none)))) else (none)) else (none)) else (none)))) else (none)) else (none))))) = some r := H
  have A9 := Aside0.mk A90
  clear A90
  replace H := Option.bind_eq_some_iff.mp H
  obtain ⟨⟨t329, t330⟩, A100, H⟩ := H
  replace H : ((setops_Like.f t325 t326 t329 t330).bind fun bt333 => ((tallymanlaw17_lives.f k).bind fun t335 => (if t335 = true then (if t291 = 0 then ((tallymanlaw17_view.f 6 (([1, 4, 5] : List Int))).bind fun bt339 => ((tallymankit_View.f k t287 t288 bt339.1 bt339.2).bind fun t343 => (if t343 = true then (if t304 = 2 then (if t317 = 0 then ((tallymanlaw17_view.f 3 (([1] : List Int))).bind fun bt347 => ((tallymankit_View.f k t313 t314 bt347.1 bt347.2).bind fun t351 => (if t351 = true then (if t323 = 2 then (if bt333.1 = 65536 then ((tallymanlaw17_view.f 5 (([5] : List Int))).bind fun bt355 => ((setops_Check.f k bt355.1 bt355.2).bind fun t359 => (if t359 = 2 then ((tallymanlaw17_view.f 0 (([2, 2] : List Int))).bind fun bt363 => ((setops_Check.f k bt363.1 bt363.2).bind fun t367 => (if t367 = 2 then ((tallymanlaw17_view.f 1 (([0] : List Int))).bind fun bt371 => ((setops_Estimate.f k bt371.1 bt371.2).bind fun t375 => (if t375 = 9223372036854775807 then (some true) else (none)))) else (none)))) else (none)))) else (none)) else (none)) else (none)))) else (none)) else (none)) else (none)))) else (none)) else (none)))) = some r := H
  have A10 := Aside0.mk A100
  clear A100
  replace H := Option.bind_eq_some_iff.mp H
  obtain ⟨⟨t333, t334⟩, A110, H⟩ := H
  replace H : ((tallymanlaw17_lives.f k).bind fun t335 => (if t335 = true then (if t291 = 0 then ((tallymanlaw17_view.f 6 (([1, 4, 5] : List Int))).bind fun bt339 => ((tallymankit_View.f k t287 t288 bt339.1 bt339.2).bind fun t343 => (if t343 = true then (if t304 = 2 then (if t317 = 0 then ((tallymanlaw17_view.f 3 (([1] : List Int))).bind fun bt347 => ((tallymankit_View.f k t313 t314 bt347.1 bt347.2).bind fun t351 => (if t351 = true then (if t323 = 2 then (if t333 = 65536 then ((tallymanlaw17_view.f 5 (([5] : List Int))).bind fun bt355 => ((setops_Check.f k bt355.1 bt355.2).bind fun t359 => (if t359 = 2 then ((tallymanlaw17_view.f 0 (([2, 2] : List Int))).bind fun bt363 => ((setops_Check.f k bt363.1 bt363.2).bind fun t367 => (if t367 = 2 then ((tallymanlaw17_view.f 1 (([0] : List Int))).bind fun bt371 => ((setops_Estimate.f k bt371.1 bt371.2).bind fun t375 => (if t375 = 9223372036854775807 then (some true) else (none)))) else (none)))) else (none)))) else (none)) else (none)) else (none)))) else (none)) else (none)) else (none)))) else (none)) else (none))) = some r := H
  have A11 := Aside0.mk A110
  clear A110
  replace H := Option.bind_eq_some_iff.mp H
  obtain ⟨t335, A120, H⟩ := H
  replace H : (if t335 = true then (if t291 = 0 then ((tallymanlaw17_view.f 6 (([1, 4, 5] : List Int))).bind fun bt339 => ((tallymankit_View.f k t287 t288 bt339.1 bt339.2).bind fun t343 => (if t343 = true then (if t304 = 2 then (if t317 = 0 then ((tallymanlaw17_view.f 3 (([1] : List Int))).bind fun bt347 => ((tallymankit_View.f k t313 t314 bt347.1 bt347.2).bind fun t351 => (if t351 = true then (if t323 = 2 then (if t333 = 65536 then ((tallymanlaw17_view.f 5 (([5] : List Int))).bind fun bt355 => ((setops_Check.f k bt355.1 bt355.2).bind fun t359 => (if t359 = 2 then ((tallymanlaw17_view.f 0 (([2, 2] : List Int))).bind fun bt363 => ((setops_Check.f k bt363.1 bt363.2).bind fun t367 => (if t367 = 2 then ((tallymanlaw17_view.f 1 (([0] : List Int))).bind fun bt371 => ((setops_Estimate.f k bt371.1 bt371.2).bind fun t375 => (if t375 = 9223372036854775807 then (some true) else (none)))) else (none)))) else (none)))) else (none)) else (none)) else (none)))) else (none)) else (none)) else (none)))) else (none)) else (none)) = some r := H
  have A12 := Aside0.mk A120
  clear A120
  by_cases c13 : t335 = true
  · subst c13
    have H1 : (if t291 = 0 then ((tallymanlaw17_view.f 6 (([1, 4, 5] : List Int))).bind fun bt339 => ((tallymankit_View.f k t287 t288 bt339.1 bt339.2).bind fun t343 => (if t343 = true then (if t304 = 2 then (if t317 = 0 then ((tallymanlaw17_view.f 3 (([1] : List Int))).bind fun bt347 => ((tallymankit_View.f k t313 t314 bt347.1 bt347.2).bind fun t351 => (if t351 = true then (if t323 = 2 then (if t333 = 65536 then ((tallymanlaw17_view.f 5 (([5] : List Int))).bind fun bt355 => ((setops_Check.f k bt355.1 bt355.2).bind fun t359 => (if t359 = 2 then ((tallymanlaw17_view.f 0 (([2, 2] : List Int))).bind fun bt363 => ((setops_Check.f k bt363.1 bt363.2).bind fun t367 => (if t367 = 2 then ((tallymanlaw17_view.f 1 (([0] : List Int))).bind fun bt371 => ((setops_Estimate.f k bt371.1 bt371.2).bind fun t375 => (if t375 = 9223372036854775807 then (some true) else (none)))) else (none)))) else (none)))) else (none)) else (none)) else (none)))) else (none)) else (none)) else (none)))) else (none)) = some r := by rw [if_pos rfl] at H; exact H
    clear H
    have H := H1
    clear H1
    by_cases c14 : t291 = 0
    · rw [if_pos c14] at H
      have c14b0 : (t291 == 0) = true := beq_iff_eq.mpr c14
      have c14b1 : (t291 != 0) = false := bne_eq_false_iff_eq.mpr c14
      clear c14
      obtain ⟨y336, hy336⟩ : ∃ y_ : List Int, y_ = (([1, 4, 5] : List Int)) := ⟨_, rfl⟩
      replace H : ((tallymanlaw17_view.f 6 y336).bind fun bt339 => ((tallymankit_View.f k t287 t288 bt339.1 bt339.2).bind fun t343 => (if t343 = true then (if t304 = 2 then (if t317 = 0 then ((tallymanlaw17_view.f 3 (([1] : List Int))).bind fun bt347 => ((tallymankit_View.f k t313 t314 bt347.1 bt347.2).bind fun t351 => (if t351 = true then (if t323 = 2 then (if t333 = 65536 then ((tallymanlaw17_view.f 5 (([5] : List Int))).bind fun bt355 => ((setops_Check.f k bt355.1 bt355.2).bind fun t359 => (if t359 = 2 then ((tallymanlaw17_view.f 0 (([2, 2] : List Int))).bind fun bt363 => ((setops_Check.f k bt363.1 bt363.2).bind fun t367 => (if t367 = 2 then ((tallymanlaw17_view.f 1 (([0] : List Int))).bind fun bt371 => ((setops_Estimate.f k bt371.1 bt371.2).bind fun t375 => (if t375 = 9223372036854775807 then (some true) else (none)))) else (none)))) else (none)))) else (none)) else (none)) else (none)))) else (none)) else (none)) else (none)))) = some r := by first | (rw [hy336]; with_reducible exact H) | (have H2_ := (Option.bind_some _ _).symm.trans H; rw [hy336]; with_reducible exact H2_) | (have H2_ := (Option.bind_some _ _).symm.trans H; with_reducible exact H2_) | with_reducible exact H | (rw [hy336]; exact H) | exact H
      have Ny336 := Aside0.mk hy336
      clear hy336
      replace H := Option.bind_eq_some_iff.mp H
      obtain ⟨⟨t339, t340⟩, A150, H⟩ := H
      replace H : ((tallymankit_View.f k t287 t288 t339 t340).bind fun t343 => (if t343 = true then (if t304 = 2 then (if t317 = 0 then ((tallymanlaw17_view.f 3 (([1] : List Int))).bind fun bt347 => ((tallymankit_View.f k t313 t314 bt347.1 bt347.2).bind fun t351 => (if t351 = true then (if t323 = 2 then (if t333 = 65536 then ((tallymanlaw17_view.f 5 (([5] : List Int))).bind fun bt355 => ((setops_Check.f k bt355.1 bt355.2).bind fun t359 => (if t359 = 2 then ((tallymanlaw17_view.f 0 (([2, 2] : List Int))).bind fun bt363 => ((setops_Check.f k bt363.1 bt363.2).bind fun t367 => (if t367 = 2 then ((tallymanlaw17_view.f 1 (([0] : List Int))).bind fun bt371 => ((setops_Estimate.f k bt371.1 bt371.2).bind fun t375 => (if t375 = 9223372036854775807 then (some true) else (none)))) else (none)))) else (none)))) else (none)) else (none)) else (none)))) else (none)) else (none)) else (none))) = some r := H
      have A15 := Aside0.mk A150
      clear A150
      replace H := Option.bind_eq_some_iff.mp H
      obtain ⟨t343, A160, H⟩ := H
      replace H : (if t343 = true then (if t304 = 2 then (if t317 = 0 then ((tallymanlaw17_view.f 3 (([1] : List Int))).bind fun bt347 => ((tallymankit_View.f k t313 t314 bt347.1 bt347.2).bind fun t351 => (if t351 = true then (if t323 = 2 then (if t333 = 65536 then ((tallymanlaw17_view.f 5 (([5] : List Int))).bind fun bt355 => ((setops_Check.f k bt355.1 bt355.2).bind fun t359 => (if t359 = 2 then ((tallymanlaw17_view.f 0 (([2, 2] : List Int))).bind fun bt363 => ((setops_Check.f k bt363.1 bt363.2).bind fun t367 => (if t367 = 2 then ((tallymanlaw17_view.f 1 (([0] : List Int))).bind fun bt371 => ((setops_Estimate.f k bt371.1 bt371.2).bind fun t375 => (if t375 = 9223372036854775807 then (some true) else (none)))) else (none)))) else (none)))) else (none)) else (none)) else (none)))) else (none)) else (none)) else (none)) = some r := H
      have A16 := Aside0.mk A160
      clear A160
      by_cases c17 : t343 = true
      · subst c17
        have H1 : (if t304 = 2 then (if t317 = 0 then ((tallymanlaw17_view.f 3 (([1] : List Int))).bind fun bt347 => ((tallymankit_View.f k t313 t314 bt347.1 bt347.2).bind fun t351 => (if t351 = true then (if t323 = 2 then (if t333 = 65536 then ((tallymanlaw17_view.f 5 (([5] : List Int))).bind fun bt355 => ((setops_Check.f k bt355.1 bt355.2).bind fun t359 => (if t359 = 2 then ((tallymanlaw17_view.f 0 (([2, 2] : List Int))).bind fun bt363 => ((setops_Check.f k bt363.1 bt363.2).bind fun t367 => (if t367 = 2 then ((tallymanlaw17_view.f 1 (([0] : List Int))).bind fun bt371 => ((setops_Estimate.f k bt371.1 bt371.2).bind fun t375 => (if t375 = 9223372036854775807 then (some true) else (none)))) else (none)))) else (none)))) else (none)) else (none)) else (none)))) else (none)) else (none)) = some r := by rw [if_pos rfl] at H; exact H
        clear H
        have H := H1
        clear H1
        by_cases c18 : t304 = 2
        · rw [if_pos c18] at H
          have c18b0 : (t304 == 2) = true := beq_iff_eq.mpr c18
          have c18b1 : (t304 != 2) = false := bne_eq_false_iff_eq.mpr c18
          clear c18
          by_cases c19 : t317 = 0
          · rw [if_pos c19] at H
            have c19b0 : (t317 == 0) = true := beq_iff_eq.mpr c19
            have c19b1 : (t317 != 0) = false := bne_eq_false_iff_eq.mpr c19
            clear c19
            obtain ⟨y344, hy344⟩ : ∃ y_ : List Int, y_ = (([1] : List Int)) := ⟨_, rfl⟩
            replace H : ((tallymanlaw17_view.f 3 y344).bind fun bt347 => ((tallymankit_View.f k t313 t314 bt347.1 bt347.2).bind fun t351 => (if t351 = true then (if t323 = 2 then (if t333 = 65536 then ((tallymanlaw17_view.f 5 (([5] : List Int))).bind fun bt355 => ((setops_Check.f k bt355.1 bt355.2).bind fun t359 => (if t359 = 2 then ((tallymanlaw17_view.f 0 (([2, 2] : List Int))).bind fun bt363 => ((setops_Check.f k bt363.1 bt363.2).bind fun t367 => (if t367 = 2 then ((tallymanlaw17_view.f 1 (([0] : List Int))).bind fun bt371 => ((setops_Estimate.f k bt371.1 bt371.2).bind fun t375 => (if t375 = 9223372036854775807 then (some true) else (none)))) else (none)))) else (none)))) else (none)) else (none)) else (none)))) = some r := by first | (rw [hy344]; with_reducible exact H) | (have H2_ := (Option.bind_some _ _).symm.trans H; rw [hy344]; with_reducible exact H2_) | (have H2_ := (Option.bind_some _ _).symm.trans H; with_reducible exact H2_) | with_reducible exact H | (rw [hy344]; exact H) | exact H
            have Ny344 := Aside0.mk hy344
            clear hy344
            replace H := Option.bind_eq_some_iff.mp H
            obtain ⟨⟨t347, t348⟩, A200, H⟩ := H
            replace H : ((tallymankit_View.f k t313 t314 t347 t348).bind fun t351 => (if t351 = true then (if t323 = 2 then (if t333 = 65536 then ((tallymanlaw17_view.f 5 (([5] : List Int))).bind fun bt355 => ((setops_Check.f k bt355.1 bt355.2).bind fun t359 => (if t359 = 2 then ((tallymanlaw17_view.f 0 (([2, 2] : List Int))).bind fun bt363 => ((setops_Check.f k bt363.1 bt363.2).bind fun t367 => (if t367 = 2 then ((tallymanlaw17_view.f 1 (([0] : List Int))).bind fun bt371 => ((setops_Estimate.f k bt371.1 bt371.2).bind fun t375 => (if t375 = 9223372036854775807 then (some true) else (none)))) else (none)))) else (none)))) else (none)) else (none)) else (none))) = some r := H
            have A20 := Aside0.mk A200
            clear A200
            replace H := Option.bind_eq_some_iff.mp H
            obtain ⟨t351, A210, H⟩ := H
            replace H : (if t351 = true then (if t323 = 2 then (if t333 = 65536 then ((tallymanlaw17_view.f 5 (([5] : List Int))).bind fun bt355 => ((setops_Check.f k bt355.1 bt355.2).bind fun t359 => (if t359 = 2 then ((tallymanlaw17_view.f 0 (([2, 2] : List Int))).bind fun bt363 => ((setops_Check.f k bt363.1 bt363.2).bind fun t367 => (if t367 = 2 then ((tallymanlaw17_view.f 1 (([0] : List Int))).bind fun bt371 => ((setops_Estimate.f k bt371.1 bt371.2).bind fun t375 => (if t375 = 9223372036854775807 then (some true) else (none)))) else (none)))) else (none)))) else (none)) else (none)) else (none)) = some r := H
            have A21 := Aside0.mk A210
            clear A210
            by_cases c22 : t351 = true
            · subst c22
              have H1 : (if t323 = 2 then (if t333 = 65536 then ((tallymanlaw17_view.f 5 (([5] : List Int))).bind fun bt355 => ((setops_Check.f k bt355.1 bt355.2).bind fun t359 => (if t359 = 2 then ((tallymanlaw17_view.f 0 (([2, 2] : List Int))).bind fun bt363 => ((setops_Check.f k bt363.1 bt363.2).bind fun t367 => (if t367 = 2 then ((tallymanlaw17_view.f 1 (([0] : List Int))).bind fun bt371 => ((setops_Estimate.f k bt371.1 bt371.2).bind fun t375 => (if t375 = 9223372036854775807 then (some true) else (none)))) else (none)))) else (none)))) else (none)) else (none)) = some r := by rw [if_pos rfl] at H; exact H
              clear H
              have H := H1
              clear H1
              by_cases c23 : t323 = 2
              · rw [if_pos c23] at H
                have c23b0 : (t323 == 2) = true := beq_iff_eq.mpr c23
                have c23b1 : (t323 != 2) = false := bne_eq_false_iff_eq.mpr c23
                clear c23
                by_cases c24 : t333 = 65536
                · rw [if_pos c24] at H
                  have c24b0 : (t333 == 65536) = true := beq_iff_eq.mpr c24
                  have c24b1 : (t333 != 65536) = false := bne_eq_false_iff_eq.mpr c24
                  clear c24
                  obtain ⟨y352, hy352⟩ : ∃ y_ : List Int, y_ = (([5] : List Int)) := ⟨_, rfl⟩
                  replace H : ((tallymanlaw17_view.f 5 y352).bind fun bt355 => ((setops_Check.f k bt355.1 bt355.2).bind fun t359 => (if t359 = 2 then ((tallymanlaw17_view.f 0 (([2, 2] : List Int))).bind fun bt363 => ((setops_Check.f k bt363.1 bt363.2).bind fun t367 => (if t367 = 2 then ((tallymanlaw17_view.f 1 (([0] : List Int))).bind fun bt371 => ((setops_Estimate.f k bt371.1 bt371.2).bind fun t375 => (if t375 = 9223372036854775807 then (some true) else (none)))) else (none)))) else (none)))) = some r := by first | (rw [hy352]; with_reducible exact H) | (have H2_ := (Option.bind_some _ _).symm.trans H; rw [hy352]; with_reducible exact H2_) | (have H2_ := (Option.bind_some _ _).symm.trans H; with_reducible exact H2_) | with_reducible exact H | (rw [hy352]; exact H) | exact H
                  have Ny352 := Aside0.mk hy352
                  clear hy352
                  replace H := Option.bind_eq_some_iff.mp H
                  obtain ⟨⟨t355, t356⟩, A250, H⟩ := H
                  replace H : ((setops_Check.f k t355 t356).bind fun t359 => (if t359 = 2 then ((tallymanlaw17_view.f 0 (([2, 2] : List Int))).bind fun bt363 => ((setops_Check.f k bt363.1 bt363.2).bind fun t367 => (if t367 = 2 then ((tallymanlaw17_view.f 1 (([0] : List Int))).bind fun bt371 => ((setops_Estimate.f k bt371.1 bt371.2).bind fun t375 => (if t375 = 9223372036854775807 then (some true) else (none)))) else (none)))) else (none))) = some r := H
                  have A25 := Aside0.mk A250
                  clear A250
                  replace H := Option.bind_eq_some_iff.mp H
                  obtain ⟨t359, A260, H⟩ := H
                  replace H : (if t359 = 2 then ((tallymanlaw17_view.f 0 (([2, 2] : List Int))).bind fun bt363 => ((setops_Check.f k bt363.1 bt363.2).bind fun t367 => (if t367 = 2 then ((tallymanlaw17_view.f 1 (([0] : List Int))).bind fun bt371 => ((setops_Estimate.f k bt371.1 bt371.2).bind fun t375 => (if t375 = 9223372036854775807 then (some true) else (none)))) else (none)))) else (none)) = some r := H
                  have A26 := Aside0.mk A260
                  clear A260
                  by_cases c27 : t359 = 2
                  · rw [if_pos c27] at H
                    have c27b0 : (t359 == 2) = true := beq_iff_eq.mpr c27
                    have c27b1 : (t359 != 2) = false := bne_eq_false_iff_eq.mpr c27
                    clear c27
                    obtain ⟨y360, hy360⟩ : ∃ y_ : List Int, y_ = (([2, 2] : List Int)) := ⟨_, rfl⟩
                    replace H : ((tallymanlaw17_view.f 0 y360).bind fun bt363 => ((setops_Check.f k bt363.1 bt363.2).bind fun t367 => (if t367 = 2 then ((tallymanlaw17_view.f 1 (([0] : List Int))).bind fun bt371 => ((setops_Estimate.f k bt371.1 bt371.2).bind fun t375 => (if t375 = 9223372036854775807 then (some true) else (none)))) else (none)))) = some r := by first | (rw [hy360]; with_reducible exact H) | (have H2_ := (Option.bind_some _ _).symm.trans H; rw [hy360]; with_reducible exact H2_) | (have H2_ := (Option.bind_some _ _).symm.trans H; with_reducible exact H2_) | with_reducible exact H | (rw [hy360]; exact H) | exact H
                    have Ny360 := Aside0.mk hy360
                    clear hy360
                    replace H := Option.bind_eq_some_iff.mp H
                    obtain ⟨⟨t363, t364⟩, A280, H⟩ := H
                    replace H : ((setops_Check.f k t363 t364).bind fun t367 => (if t367 = 2 then ((tallymanlaw17_view.f 1 (([0] : List Int))).bind fun bt371 => ((setops_Estimate.f k bt371.1 bt371.2).bind fun t375 => (if t375 = 9223372036854775807 then (some true) else (none)))) else (none))) = some r := H
                    have A28 := Aside0.mk A280
                    clear A280
                    replace H := Option.bind_eq_some_iff.mp H
                    obtain ⟨t367, A290, H⟩ := H
                    replace H : (if t367 = 2 then ((tallymanlaw17_view.f 1 (([0] : List Int))).bind fun bt371 => ((setops_Estimate.f k bt371.1 bt371.2).bind fun t375 => (if t375 = 9223372036854775807 then (some true) else (none)))) else (none)) = some r := H
                    have A29 := Aside0.mk A290
                    clear A290
                    by_cases c30 : t367 = 2
                    · rw [if_pos c30] at H
                      have c30b0 : (t367 == 2) = true := beq_iff_eq.mpr c30
                      have c30b1 : (t367 != 2) = false := bne_eq_false_iff_eq.mpr c30
                      clear c30
                      obtain ⟨y368, hy368⟩ : ∃ y_ : List Int, y_ = (([0] : List Int)) := ⟨_, rfl⟩
                      replace H : ((tallymanlaw17_view.f 1 y368).bind fun bt371 => ((setops_Estimate.f k bt371.1 bt371.2).bind fun t375 => (if t375 = 9223372036854775807 then (some true) else (none)))) = some r := by first | (rw [hy368]; with_reducible exact H) | (have H2_ := (Option.bind_some _ _).symm.trans H; rw [hy368]; with_reducible exact H2_) | (have H2_ := (Option.bind_some _ _).symm.trans H; with_reducible exact H2_) | with_reducible exact H | (rw [hy368]; exact H) | exact H
                      have Ny368 := Aside0.mk hy368
                      clear hy368
                      replace H := Option.bind_eq_some_iff.mp H
                      obtain ⟨⟨t371, t372⟩, A310, H⟩ := H
                      replace H : ((setops_Estimate.f k t371 t372).bind fun t375 => (if t375 = 9223372036854775807 then (some true) else (none))) = some r := H
                      have A31 := Aside0.mk A310
                      clear A310
                      replace H := Option.bind_eq_some_iff.mp H
                      obtain ⟨t375, A320, H⟩ := H
                      replace H : (if t375 = 9223372036854775807 then (some true) else (none)) = some r := H
                      have A32 := Aside0.mk A320
                      clear A320
                      by_cases c33 : t375 = 9223372036854775807
                      · rw [if_pos c33] at H
                        have c33b0 : (t375 == 9223372036854775807) = true := beq_iff_eq.mpr c33
                        have c33b1 : (t375 != 9223372036854775807) = false := bne_eq_false_iff_eq.mpr c33
                        clear c33
                        obtain rfl := Option.some.inj H
                        go_enter Try.func6, Try.ntmps6
                        try go_wp2_with (first | ((with_reducible refine gate_dst (N := 12) rfl ?_); (try (refine gate_guard (by rfl) ?_; dsimp only)); refine Kd.R_lit (Kd.int .u64) _ 22 ?hg (N := 12) ?hd (xs := ([1, 3, 5] : List Int)) (inner := [.int .u64 1, .int .u64 3, .int .u64 5]) (ok := fun _ => True) (okp := fun _ => True) ?hr ?hp (fun _ hk => hk) trivial (Below.refl _ _) (Nat.le_refl _) (by simp) ?_; (case hd => rfl); (case hg => rfl); (case hr => first | (go_simp; done) | (go_simp; rfl)); (case hp => exact (Reps.one (show Kd.M (Kd.int .u64) _ _ _ 1 [.int .u64 1] from rfl) (Reps.one (show Kd.M (Kd.int .u64) _ _ _ 3 [.int .u64 3] from rfl) (Reps.one (show Kd.M (Kd.int .u64) _ _ _ 5 [.int .u64 5] from rfl) (Reps.none _ _))))); intro v274 w34 ho35 hb hg_ hnew_; clear hg_ hnew_; (first | rw [← Ny273.out] at ho35 | (simp only [Int.reduceToNat] at ho35; rw [← Ny273.out] at ho35)); have n0_ := am (Kd.R_lower ho35 (below_size (hu HB.out))); have n1_ := am (below_step (hu HB.out) hb); clear HB; have HO275 := n0_; have HB := n1_; clear n0_ n1_; clear hb ho35; obtain ⟨Ao36, co36, eo36⟩ := Kd.R_slice HO275.out; subst eo36) | ((with_reducible refine gate_callee (f := 29) rfl ?_); refine goesL_ (some 13) rfl rfl Try.func29 (by kernel_rfl) rfl #[.int .u64 6, .slice Ao36 y273.length co36] rfl (by (try simp only [List.map_toArray, List.map_cons, List.map_nil]); first | done | rfl | (simp only [List.length_drop, List.length_take]; rfl)) ?_; (with_reducible refine (tallymanlaw17_view.calls 6 (fun k_ => some k_ = (.slice Ao36 y273.length co36 : Value).ownBlock) (.slice Ao36 y273.length co36) y273 t276 t277 w _ ?side1 ?side2 A1.out).mono ?_); (case side1 => repeat (first | (with_reducible first | exact HB.out | apply below_alloc | apply pw_below_drewN | apply below_drew1) | exact HB.out)); (case side2 => exact Kd.R_tight rfl HO275.out); rintro e w37 ⟨v278, rfl, ho0, hb, hkp⟩; refine ⟨_, rfl, ?_⟩; have n0_ := am (Kd.R_mono (ok' := fun k_ => True) ho0 (fun k_ hk_ => trivial)); have n1_ := am (hb); clear HB; clear HO275; have HO279 := n0_; have HB := n1_; clear n0_ n1_; (try clear hb); (try clear hkp); (try clear ho0)) | ((with_reducible refine gate_dst (N := 14) rfl ?_); (try (refine gate_guard (by rfl) ?_; dsimp only)); refine Kd.R_lit (Kd.int .u64) _ 22 ?hg (N := 14) ?hd (xs := ([3, 4, 9] : List Int)) (inner := [.int .u64 3, .int .u64 4, .int .u64 9]) (ok := fun _ => True) (okp := fun _ => True) ?hr ?hp (fun _ hk => hk) trivial (Below.refl _ _) (Nat.le_refl _) (by simp) ?_; (case hd => rfl); (case hg => rfl); (case hr => first | (go_simp; done) | (go_simp; rfl)); (case hp => exact (Reps.one (show Kd.M (Kd.int .u64) _ _ _ 3 [.int .u64 3] from rfl) (Reps.one (show Kd.M (Kd.int .u64) _ _ _ 4 [.int .u64 4] from rfl) (Reps.one (show Kd.M (Kd.int .u64) _ _ _ 9 [.int .u64 9] from rfl) (Reps.none _ _))))); intro v281 w38 ho39 hb hg_ hnew_; clear hg_ hnew_; (first | rw [← Ny280.out] at ho39 | (simp only [Int.reduceToNat] at ho39; rw [← Ny280.out] at ho39)); have n0_ := am (Kd.R_elder' (ru (HO279.out)) (Kd.R_base ho39) hb); have n1_ := am (Kd.R_lower (Kd.R_new' ho39 (Kd.R_lt (ru (HO279.out)))) (below_size (hu HB.out))); have n2_ := am (below_step (hu HB.out) hb); clear HO279; clear HB; have HO279 := n0_; have HO282 := n1_; have HB := n2_; clear n0_ n1_ n2_; clear hb ho39; obtain ⟨Ao40, co40, eo40⟩ := Kd.R_slice HO282.out; subst eo40) | ((with_reducible refine gate_callee (f := 29) rfl ?_); refine goesL_ (some 15) rfl rfl Try.func29 (by kernel_rfl) rfl #[.int .u64 0, .slice Ao40 y280.length co40] rfl (by (try simp only [List.map_toArray, List.map_cons, List.map_nil]); first | done | rfl | (simp only [List.length_drop, List.length_take]; rfl)) ?_; (with_reducible refine (tallymanlaw17_view.calls 0 (fun k_ => some k_ = (.slice Ao40 y280.length co40 : Value).ownBlock) (.slice Ao40 y280.length co40) y280 t283 t284 w _ ?side1 ?side2 A2.out).mono ?_); (case side1 => repeat (first | (with_reducible first | exact HB.out | apply below_alloc | apply pw_below_drewN | apply below_drew1) | exact HB.out)); (case side2 => exact Kd.R_tight rfl HO282.out); rintro e w41 ⟨v285, rfl, ho0, hb, hkp⟩; refine ⟨_, rfl, ?_⟩; have n0_ := am (Kd.R_mono (ok' := fun k_ => some k_ ≠ (v285 : Value).ownBlock) (Kd.R_keptB (HO279.out) hkp (fun k_ hk_ hs_ => (hk_.2) hs_)) (fun k_ hk_ => fun e_ => Or.elim (ho0.1 k_ e_.symm) (fun hs_ => hk_.2.1 hs_) (fun hn_ => Nat.not_le.2 hk_.2.2 hn_))); have n1_ := am (Kd.R_mono (ok' := fun k_ => some k_ ≠ (v278 : Value).ownBlock) ho0 (fun k_ hk_ => Or.elim hk_ (fun hs_ => fun e_ => (((HO279.out).1 k_ e_.symm).2) hs_) (fun hn_ => (Kd.fresh' (Kd.R_lt (ru (HO279.out))) k_ hn_)))); have n2_ := am (hb); clear HO279; clear HB; clear HO282; have HO279 := n0_; have HO286 := n1_; have HB := n2_; clear n0_ n1_ n2_; (try clear hb); (try clear hkp); (try clear ho0); obtain ⟨Ao42, co42, eo42⟩ := Kd.R_slice HO279.out; subst eo42; obtain ⟨Ao43, co43, eo43⟩ := Kd.R_slice HO286.out; subst eo43) | ((with_reducible refine gate_callee (f := 20) rfl ?_); refine goesL_ (some 16) rfl rfl Try.func20 (by kernel_rfl) rfl #[.agg #[.int .u64 t276, .slice Ao42 t277.length co42], .agg #[.int .u64 t283, .slice Ao43 t284.length co43]] rfl (by (try simp only [List.map_toArray, List.map_cons, List.map_nil]); first | done | rfl | (simp only [List.length_drop, List.length_take]; rfl)) ?_; (with_reducible refine (setops_One.calls t276 _ _ t277 t283 _ _ t284 t287 t288 t291 _ ?side1 ?side2 ?side3 ?side4 A3.out).mono ?_); (case side1 => repeat (first | exact (Kd.R_reads' HO279.out).2.2 | (with_reducible refine Kd.C_alloc ?_ _) | (with_reducible refine Kd.C_drewN ?_ _) | (with_reducible refine Kd.C_drew ?_))); (case side2 => exact (Kd.R_reads' HO279.out).2.1); (case side3 => repeat (first | exact (Kd.R_reads' HO286.out).2.2 | (with_reducible refine Kd.C_alloc ?_ _) | (with_reducible refine Kd.C_drewN ?_ _) | (with_reducible refine Kd.C_drew ?_))); (case side4 => exact (Kd.R_reads' HO286.out).2.1); rintro e w44 ⟨v289, rfl, ho0, hb⟩; refine ⟨_, rfl, ?_⟩; have n0_ := am (Kd.R_elder' (ru (HO279.out)) (Kd.R_base ho0) hb); have n1_ := am (Kd.R_elder' (ru (HO286.out)) (Kd.R_base ho0) hb); have n2_ := am (Kd.R_lower (Kd.R_new' (Kd.R_new' ho0 (Kd.R_lt (ru (HO279.out)))) (Kd.R_lt (ru (HO286.out)))) (below_size (hu HB.out))); have n3_ := am (below_step (hu HB.out) hb); clear HO279; clear HO286; clear HB; have HO279 := n0_; have HO286 := n1_; have HO290 := n2_; have HB := n3_; clear n0_ n1_ n2_ n3_; (try clear hb); (try clear hb2); (try clear hk); (try clear hi); (try clear ho0)) | ((with_reducible refine gate_dst (N := 1) rfl ?_); (try (refine gate_guard (by rfl) ?_; dsimp only)); refine box_event ?hg (N := 1) ?hd (cs := #[.int .u64 0, .slice none 0 0]) (t := 25) ?hr ?_; (case hd => rfl); (case hg => rfl); (case hr => first | (go_simp; done) | (go_simp; rfl)); intro gb292 hg w45 hbox hb; have n0_ := am (Kd.R_below (ru (HO279.out)) hb); have n1_ := am (Kd.R_below (ru (HO286.out)) hb); have n2_ := am (Kd.R_below (ru (HO290.out)) hb); have n3_ := am (below_step (hu HB.out) hb); have n4_ := am (hbox); have n5_ := am ((by rw [hg]; exact (below_size (hu HB.out)) : w.heap.size ≤ gb292)); have n6_ := am ((by rw [hg]; exact (below_size (hu HB.out)) : w.heap.size ≤ gb292)); clear HO279; clear HO286; clear HO290; clear HB; have HO279 := n0_; have HO286 := n1_; have HO290 := n2_; have HB := n3_; have BK292 := n4_; have GW292 := n5_; have GE292 := n6_; clear n0_ n1_ n2_ n3_ n4_ n5_ n6_; clear hb hbox hg; have hcz46_0 : w45.cell? ⟨gb292, 0, none⟩ = some (.int .u64 0) := (blk_cell BK292.out 0).trans rfl; have hcz46_1 : w45.cell? ⟨gb292, 1, none⟩ = some (.slice none 0 0) := (blk_cell BK292.out 1).trans rfl; have hfz46_0 := blk_frozen BK292.out 0; have hfz46_1 := blk_frozen BK292.out 1; obtain ⟨Ao47, co47, eo47⟩ := Kd.R_slice HO290.out; subst eo47) | ((with_reducible refine gate_dst (N := 20) rfl ?_); (try (refine gate_guard (by rfl) ?_; dsimp only)); refine Kd.R_lit (Kd.int .u64) _ 22 ?hg (N := 20) ?hd (xs := ([1] : List Int)) (inner := [.int .u64 1]) (ok := fun _ => True) (okp := fun _ => True) ?hr ?hp (fun _ hk => hk) trivial (Below.refl _ _) (Nat.le_refl _) (by simp) ?_; (case hd => rfl); (case hg => rfl); (case hr => first | (go_simp; done) | (go_simp; rfl)); (case hp => exact (Reps.one (show Kd.M (Kd.int .u64) _ _ _ 1 [.int .u64 1] from rfl) (Reps.none _ _))); intro v294 w48 ho49 hb hg_ hnew_; clear hg_ hnew_; (first | rw [← Ny293.out] at ho49 | (simp only [Int.reduceToNat] at ho49; rw [← Ny293.out] at ho49)); have n0_ := am (Kd.R_elder' (rf HO279.out BK292.out (by decide)) (Kd.R_base ho49) hb); have n1_ := am (Kd.R_elder' (rf HO286.out BK292.out (by decide)) (Kd.R_base ho49) hb); have n2_ := am (Kd.R_elder' (rf HO290.out BK292.out (by decide)) (Kd.R_base ho49) hb); have n3_ := am (Kd.R_lower (Kd.R_new' (Kd.R_new' (Kd.R_new' ho49 (Kd.R_lt (rf HO279.out BK292.out (by decide)))) (Kd.R_lt (rf HO286.out BK292.out (by decide)))) (Kd.R_lt (rf HO290.out BK292.out (by decide)))) (below_size (by repeat (first | (with_reducible first | exact HB.out | apply below_alloc | apply pw_below_drewN | apply below_drew1 | refine below_set ?_ GE292.out) | exact HB.out)))); have n4_ := am (blk_below (g := gb292) (o := .cells #[.int .u64 t287, .slice Ao47 t288.length co47] 25 (0, 0)) (by (with_reducible repeat (first | refine blk_drewN ?_ _ | refine blk_drew ?_ | refine blk_alloc ?_ _)); refine blk_put (cs := #[.int .u64 t287, .slice none 0 0]) ?_ 1 _ rfl; (with_reducible repeat (first | refine blk_drewN ?_ _ | refine blk_drew ?_ | refine blk_alloc ?_ _)); refine blk_put (cs := #[.int .u64 0, .slice none 0 0]) ?_ 0 _ rfl; (with_reducible repeat (first | refine blk_drewN ?_ _ | refine blk_drew ?_ | refine blk_alloc ?_ _)); exact BK292.out) hb); have n5_ := am (below_step (by repeat (first | (with_reducible first | exact HB.out | apply below_alloc | apply pw_below_drewN | apply below_drew1 | refine below_set ?_ GE292.out) | exact HB.out)) hb); clear HO279; clear HO286; clear HO290; clear BK292; clear HB; have HO279 := n0_; have HO286 := n1_; have HO290 := n2_; have HO295 := n3_; have BK292 := n4_; have HB := n5_; clear n0_ n1_ n2_ n3_ n4_ n5_; clear hb ho49; obtain ⟨Ao50, co50, eo50⟩ := Kd.R_slice HO295.out; subst eo50) | ((with_reducible refine gate_callee (f := 29) rfl ?_); refine goesL_ (some 21) rfl rfl Try.func29 (by kernel_rfl) rfl #[.int .u64 6, .slice Ao50 y293.length co50] rfl (by (try simp only [List.map_toArray, List.map_cons, List.map_nil]); first | done | rfl | (simp only [List.length_drop, List.length_take]; rfl)) ?_; (with_reducible refine (tallymanlaw17_view.calls 6 (fun k_ => some k_ = (.slice Ao50 y293.length co50 : Value).ownBlock) (.slice Ao50 y293.length co50) y293 t296 t297 w _ ?side1 ?side2 A4.out).mono ?_); (case side1 => repeat (first | (with_reducible first | exact HB.out | apply below_alloc | apply pw_below_drewN | apply below_drew1 | refine below_set ?_ GE292.out) | exact HB.out)); (case side2 => exact Kd.R_tight rfl HO295.out); rintro e w51 ⟨v298, rfl, ho0, hb, hkp⟩; refine ⟨_, rfl, ?_⟩; have n0_ := am (Kd.R_mono (ok' := fun k_ => nb Ao43 t284.length co43 k_ ∧ nb Ao47 t288.length co47 k_ ∧ some k_ ≠ (v298 : Value).ownBlock) (Kd.R_keptB (HO279.out) hkp (fun k_ hk_ hs_ => (hk_.2) hs_)) (fun k_ hk_ => ⟨hk_.1.1.1, hk_.1.1.2, fun e_ => Or.elim (ho0.1 k_ e_.symm) (fun hs_ => hk_.2.1 hs_) (fun hn_ => Nat.not_le.2 hk_.2.2 hn_)⟩)); have n1_ := am (Kd.R_mono (ok' := fun k_ => nb Ao42 t277.length co42 k_ ∧ nb Ao47 t288.length co47 k_ ∧ some k_ ≠ (v298 : Value).ownBlock) (Kd.R_keptB (HO286.out) hkp (fun k_ hk_ hs_ => (hk_.2) hs_)) (fun k_ hk_ => ⟨hk_.1.1.1, hk_.1.1.2, fun e_ => Or.elim (ho0.1 k_ e_.symm) (fun hs_ => hk_.2.1 hs_) (fun hn_ => Nat.not_le.2 hk_.2.2 hn_)⟩)); have n2_ := am (Kd.R_mono (ok' := fun k_ => nb Ao42 t277.length co42 k_ ∧ nb Ao43 t284.length co43 k_ ∧ some k_ ≠ (v298 : Value).ownBlock) (Kd.R_keptB (HO290.out) hkp (fun k_ hk_ hs_ => (hk_.2) hs_)) (fun k_ hk_ => ⟨hk_.1.1.1.2, hk_.1.1.2, fun e_ => Or.elim (ho0.1 k_ e_.symm) (fun hs_ => hk_.2.1 hs_) (fun hn_ => Nat.not_le.2 hk_.2.2 hn_)⟩)); have n3_ := am (blk_kept (bu BK292.out) hkp (fun hs_ => (fun e_ => (Kd.R_ne HO295.out BK292.out (by decide)) e_) hs_)); have n4_ := am (Kd.R_mono (ok' := fun k_ => nb Ao42 t277.length co42 k_ ∧ nb Ao43 t284.length co43 k_ ∧ nb Ao47 t288.length co47 k_) ho0 (fun k_ hk_ => ⟨Or.elim hk_ (fun hs_ => fun e_ => (((HO279.out).1 k_ e_.symm).2) hs_) (fun hn_ => (Kd.fresh' (Kd.R_lt (ru (HO279.out))) k_ hn_)), Or.elim hk_ (fun hs_ => fun e_ => (((HO286.out).1 k_ e_.symm).2) hs_) (fun hn_ => (Kd.fresh' (Kd.R_lt (ru (HO286.out))) k_ hn_)), Or.elim hk_ (fun hs_ => fun e_ => (((HO290.out).1 k_ e_.symm).2) hs_) (fun hn_ => (Kd.fresh' (Kd.R_lt (ru (HO290.out))) k_ hn_))⟩)); have n5_ := am (hb); clear HO279; clear HO286; clear HO290; clear BK292; clear HB; clear HO295; have HO279 := n0_; have HO286 := n1_; have HO290 := n2_; have BK292 := n3_; have HO299 := n4_; have HB := n5_; clear n0_ n1_ n2_ n3_ n4_ n5_; (try clear hb); (try clear hkp); (try clear ho0); obtain ⟨Ao52, co52, eo52⟩ := Kd.R_slice HO299.out; subst eo52) | ((with_reducible refine gate_callee (f := 28) rfl ?_); refine goesL_ (some 22) rfl rfl Try.func28 (by kernel_rfl) rfl #[.agg #[.int .u64 t296, .slice Ao52 t297.length co52], .int .u64 7] rfl (by (try simp only [List.map_toArray, List.map_cons, List.map_nil]); first | done | rfl | (simp only [List.length_drop, List.length_take]; rfl)) ?_; (with_reducible refine (setops_Cut.calls t296 _ _ t297 7 t300 t301 t304 _ ?side1 ?side2 A5.out).mono ?_); (case side1 => repeat (first | exact (Kd.R_reads' HO299.out).2.2 | (with_reducible refine Kd.C_alloc ?_ _) | (with_reducible refine Kd.C_drewN ?_ _) | (with_reducible refine Kd.C_drew ?_))); (case side2 => exact (Kd.R_reads' HO299.out).2.1); rintro e w53 ⟨v302, rfl, ho0, hb⟩; refine ⟨_, rfl, ?_⟩; have n0_ := am (Kd.R_elder' (ru (HO279.out)) (Kd.R_base ho0) hb); have n1_ := am (Kd.R_elder' (ru (HO286.out)) (Kd.R_base ho0) hb); have n2_ := am (Kd.R_elder' (ru (HO290.out)) (Kd.R_base ho0) hb); have n3_ := am (Kd.R_elder' (ru (HO299.out)) (Kd.R_base ho0) hb); have n4_ := am (Kd.R_lower (Kd.R_new' (Kd.R_new' (Kd.R_new' (Kd.R_new' ho0 (Kd.R_lt (ru (HO279.out)))) (Kd.R_lt (ru (HO286.out)))) (Kd.R_lt (ru (HO290.out)))) (Kd.R_lt (ru (HO299.out)))) (below_size (by repeat (first | (with_reducible first | exact HB.out | apply below_alloc | apply pw_below_drewN | apply below_drew1 | refine below_set ?_ GE292.out) | exact HB.out)))); have n5_ := am (blk_below (g := gb292) (o := .cells #[.int .u64 t287, .slice Ao47 t288.length co47] 25 (0, 0)) (bu BK292.out) hb); have n6_ := am (below_step (by repeat (first | (with_reducible first | exact HB.out | apply below_alloc | apply pw_below_drewN | apply below_drew1 | refine below_set ?_ GE292.out) | exact HB.out)) hb); clear HO279; clear HO286; clear HO290; clear HO299; clear BK292; clear HB; have HO279 := n0_; have HO286 := n1_; have HO290 := n2_; have HO299 := n3_; have HO303 := n4_; have BK292 := n5_; have HB := n6_; clear n0_ n1_ n2_ n3_ n4_ n5_ n6_; (try clear hb); (try clear hb2); (try clear hk); (try clear hi); (try clear ho0)) | ((with_reducible refine gate_dst (N := 3) rfl ?_); (try (refine gate_guard (by rfl) ?_; dsimp only)); refine box_event ?hg (N := 3) ?hd (cs := #[.int .u64 0, .slice none 0 0]) (t := 25) ?hr ?_; (case hd => rfl); (case hg => rfl); (case hr => first | (go_simp; done) | (go_simp; rfl)); intro gb305 hg w54 hbox hb; have n0_ := am (Kd.R_below (ru (HO279.out)) hb); have n1_ := am (Kd.R_below (ru (HO286.out)) hb); have n2_ := am (Kd.R_below (ru (HO290.out)) hb); have n3_ := am (Kd.R_below (ru (HO299.out)) hb); have n4_ := am (Kd.R_below (ru (HO303.out)) hb); have n5_ := am (blk_below (g := gb292) (o := .cells #[.int .u64 t287, .slice Ao47 t288.length co47] 25 (0, 0)) (bu BK292.out) hb); have n6_ := am (below_step (by repeat (first | (with_reducible first | exact HB.out | apply below_alloc | apply pw_below_drewN | apply below_drew1 | refine below_set ?_ GE292.out) | exact HB.out)) hb); have n7_ := am (hbox); have n8_ := am ((by rw [hg]; exact (below_size (by repeat (first | (with_reducible first | exact HB.out | apply below_alloc | apply pw_below_drewN | apply below_drew1 | refine below_set ?_ GE292.out) | exact HB.out))) : w.heap.size ≤ gb305)); have n9_ := am ((by rw [hg]; exact (below_size (by repeat (first | (with_reducible first | exact HB.out | apply below_alloc | apply pw_below_drewN | apply below_drew1 | refine below_set ?_ GE292.out) | exact HB.out))) : w.heap.size ≤ gb305)); have n10_ := am ((by rw [hg]; exact Nat.ne_of_lt (blk_lt (g := gb292) (o := .cells #[.int .u64 t287, .slice Ao47 t288.length co47] 25 (0, 0)) (bu BK292.out)) : gb292 ≠ gb305)); have n11_ := am ((by rw [hg]; exact Nat.ne_of_gt (blk_lt (g := gb292) (o := .cells #[.int .u64 t287, .slice Ao47 t288.length co47] 25 (0, 0)) (bu BK292.out)) : gb305 ≠ gb292)); clear HO279; clear HO286; clear HO290; clear HO299; clear HO303; clear BK292; clear HB; have HO279 := n0_; have HO286 := n1_; have HO290 := n2_; have HO299 := n3_; have HO303 := n4_; have BK292 := n5_; have HB := n6_; have BK305 := n7_; have GW305 := n8_; have GE305 := n9_; have NB292_305 := n10_; have NB305_292 := n11_; clear n0_ n1_ n2_ n3_ n4_ n5_ n6_ n7_ n8_ n9_ n10_ n11_; clear hb hbox hg; have hnb55 := NB305_292.out; have hnc55 := NB292_305.out; have hcz56_0 : w54.cell? ⟨gb305, 0, none⟩ = some (.int .u64 0) := (blk_cell BK305.out 0).trans rfl; have hcz56_1 : w54.cell? ⟨gb305, 1, none⟩ = some (.slice none 0 0) := (blk_cell BK305.out 1).trans rfl; have hfz56_0 := blk_frozen BK305.out 0; have hfz56_1 := blk_frozen BK305.out 1; obtain ⟨Ao57, co57, eo57⟩ := Kd.R_slice HO303.out; subst eo57) | ((with_reducible refine gate_dst (N := 26) rfl ?_); (try (refine gate_guard (by rfl) ?_; dsimp only)); refine Kd.R_lit (Kd.int .u64) _ 22 ?hg (N := 26) ?hd (xs := ([1, 5] : List Int)) (inner := [.int .u64 1, .int .u64 5]) (ok := fun _ => True) (okp := fun _ => True) ?hr ?hp (fun _ hk => hk) trivial (Below.refl _ _) (Nat.le_refl _) (by simp) ?_; (case hd => rfl); (case hg => rfl); (case hr => first | (go_simp; done) | (go_simp; rfl)); (case hp => exact (Reps.one (show Kd.M (Kd.int .u64) _ _ _ 1 [.int .u64 1] from rfl) (Reps.one (show Kd.M (Kd.int .u64) _ _ _ 5 [.int .u64 5] from rfl) (Reps.none _ _)))); intro v307 w58 ho59 hb hg_ hnew_; clear hg_ hnew_; (first | rw [← Ny306.out] at ho59 | (simp only [Int.reduceToNat] at ho59; rw [← Ny306.out] at ho59)); have n0_ := am (Kd.R_elder' (rf HO279.out BK305.out (by decide)) (Kd.R_base ho59) hb); have n1_ := am (Kd.R_elder' (rf HO286.out BK305.out (by decide)) (Kd.R_base ho59) hb); have n2_ := am (Kd.R_elder' (rf HO290.out BK305.out (by decide)) (Kd.R_base ho59) hb); have n3_ := am (Kd.R_elder' (rf HO299.out BK305.out (by decide)) (Kd.R_base ho59) hb); have n4_ := am (Kd.R_elder' (rf HO303.out BK305.out (by decide)) (Kd.R_base ho59) hb); have n5_ := am (Kd.R_lower (Kd.R_new' (Kd.R_new' (Kd.R_new' (Kd.R_new' (Kd.R_new' ho59 (Kd.R_lt (rf HO279.out BK305.out (by decide)))) (Kd.R_lt (rf HO286.out BK305.out (by decide)))) (Kd.R_lt (rf HO290.out BK305.out (by decide)))) (Kd.R_lt (rf HO299.out BK305.out (by decide)))) (Kd.R_lt (rf HO303.out BK305.out (by decide)))) (below_size (by repeat (first | (with_reducible first | exact HB.out | apply below_alloc | apply pw_below_drewN | apply below_drew1 | refine below_set ?_ GE292.out | refine below_set ?_ GE305.out) | exact HB.out)))); have n6_ := am (blk_below (g := gb292) (o := .cells #[.int .u64 t287, .slice Ao47 t288.length co47] 25 (0, 0)) (bf NB292_305.out BK292.out) hb); have n7_ := am (blk_below (g := gb305) (o := .cells #[.int .u64 t300, .slice Ao57 t301.length co57] 25 (0, 0)) (by (with_reducible repeat (first | refine blk_drewN ?_ _ | refine blk_drew ?_ | refine blk_alloc ?_ _)); refine blk_put (cs := #[.int .u64 t300, .slice none 0 0]) ?_ 1 _ rfl; (with_reducible repeat (first | refine blk_drewN ?_ _ | refine blk_drew ?_ | refine blk_alloc ?_ _)); refine blk_put (cs := #[.int .u64 0, .slice none 0 0]) ?_ 0 _ rfl; (with_reducible repeat (first | refine blk_drewN ?_ _ | refine blk_drew ?_ | refine blk_alloc ?_ _)); exact BK305.out) hb); have n8_ := am (below_step (by repeat (first | (with_reducible first | exact HB.out | apply below_alloc | apply pw_below_drewN | apply below_drew1 | refine below_set ?_ GE292.out | refine below_set ?_ GE305.out) | exact HB.out)) hb); clear HO279; clear HO286; clear HO290; clear HO299; clear HO303; clear BK292; clear BK305; clear HB; have HO279 := n0_; have HO286 := n1_; have HO290 := n2_; have HO299 := n3_; have HO303 := n4_; have HO308 := n5_; have BK292 := n6_; have BK305 := n7_; have HB := n8_; clear n0_ n1_ n2_ n3_ n4_ n5_ n6_ n7_ n8_; clear hb ho59; obtain ⟨Ao60, co60, eo60⟩ := Kd.R_slice HO308.out; subst eo60) | ((with_reducible refine gate_callee (f := 29) rfl ?_); refine goesL_ (some 27) rfl rfl Try.func29 (by kernel_rfl) rfl #[.int .u64 6, .slice Ao60 y306.length co60] rfl (by (try simp only [List.map_toArray, List.map_cons, List.map_nil]); first | done | rfl | (simp only [List.length_drop, List.length_take]; rfl)) ?_; (with_reducible refine (tallymanlaw17_view.calls 6 (fun k_ => some k_ = (.slice Ao60 y306.length co60 : Value).ownBlock) (.slice Ao60 y306.length co60) y306 t309 t310 w _ ?side1 ?side2 A6.out).mono ?_); (case side1 => repeat (first | (with_reducible first | exact HB.out | apply below_alloc | apply pw_below_drewN | apply below_drew1 | refine below_set ?_ GE292.out | refine below_set ?_ GE305.out) | exact HB.out)); (case side2 => exact Kd.R_tight rfl HO308.out); rintro e w61 ⟨v311, rfl, ho0, hb, hkp⟩; refine ⟨_, rfl, ?_⟩; have n0_ := am (Kd.R_mono (ok' := fun k_ => nb Ao43 t284.length co43 k_ ∧ nb Ao47 t288.length co47 k_ ∧ nb Ao52 t297.length co52 k_ ∧ nb Ao57 t301.length co57 k_ ∧ some k_ ≠ (v311 : Value).ownBlock) (Kd.R_keptB (HO279.out) hkp (fun k_ hk_ hs_ => (hk_.2) hs_)) (fun k_ hk_ => ⟨hk_.1.1.1.1, hk_.1.1.1.2.1, hk_.1.1.1.2.2, hk_.1.1.2, fun e_ => Or.elim (ho0.1 k_ e_.symm) (fun hs_ => hk_.2.1 hs_) (fun hn_ => Nat.not_le.2 hk_.2.2 hn_)⟩)); have n1_ := am (Kd.R_mono (ok' := fun k_ => nb Ao42 t277.length co42 k_ ∧ nb Ao47 t288.length co47 k_ ∧ nb Ao52 t297.length co52 k_ ∧ nb Ao57 t301.length co57 k_ ∧ some k_ ≠ (v311 : Value).ownBlock) (Kd.R_keptB (HO286.out) hkp (fun k_ hk_ hs_ => (hk_.2) hs_)) (fun k_ hk_ => ⟨hk_.1.1.1.1, hk_.1.1.1.2.1, hk_.1.1.1.2.2, hk_.1.1.2, fun e_ => Or.elim (ho0.1 k_ e_.symm) (fun hs_ => hk_.2.1 hs_) (fun hn_ => Nat.not_le.2 hk_.2.2 hn_)⟩)); have n2_ := am (Kd.R_mono (ok' := fun k_ => nb Ao42 t277.length co42 k_ ∧ nb Ao43 t284.length co43 k_ ∧ nb Ao52 t297.length co52 k_ ∧ nb Ao57 t301.length co57 k_ ∧ some k_ ≠ (v311 : Value).ownBlock) (Kd.R_keptB (HO290.out) hkp (fun k_ hk_ hs_ => (hk_.2) hs_)) (fun k_ hk_ => ⟨hk_.1.1.1.1, hk_.1.1.1.2.1, hk_.1.1.1.2.2, hk_.1.1.2, fun e_ => Or.elim (ho0.1 k_ e_.symm) (fun hs_ => hk_.2.1 hs_) (fun hn_ => Nat.not_le.2 hk_.2.2 hn_)⟩)); have n3_ := am (blk_kept (bu BK292.out) hkp (fun hs_ => (fun e_ => (Kd.R_ne HO308.out BK292.out (by decide)) e_) hs_)); have n4_ := am (Kd.R_mono (ok' := fun k_ => nb Ao42 t277.length co42 k_ ∧ nb Ao43 t284.length co43 k_ ∧ nb Ao47 t288.length co47 k_ ∧ nb Ao57 t301.length co57 k_ ∧ some k_ ≠ (v311 : Value).ownBlock) (Kd.R_keptB (HO299.out) hkp (fun k_ hk_ hs_ => (hk_.2) hs_)) (fun k_ hk_ => ⟨hk_.1.1.1.1, hk_.1.1.1.2.1, hk_.1.1.1.2.2, hk_.1.1.2, fun e_ => Or.elim (ho0.1 k_ e_.symm) (fun hs_ => hk_.2.1 hs_) (fun hn_ => Nat.not_le.2 hk_.2.2 hn_)⟩)); have n5_ := am (Kd.R_mono (ok' := fun k_ => nb Ao42 t277.length co42 k_ ∧ nb Ao43 t284.length co43 k_ ∧ nb Ao47 t288.length co47 k_ ∧ nb Ao52 t297.length co52 k_ ∧ some k_ ≠ (v311 : Value).ownBlock) (Kd.R_keptB (HO303.out) hkp (fun k_ hk_ hs_ => (hk_.2) hs_)) (fun k_ hk_ => ⟨hk_.1.1.1.1.1.2, hk_.1.1.1.1.2, hk_.1.1.1.2, hk_.1.1.2, fun e_ => Or.elim (ho0.1 k_ e_.symm) (fun hs_ => hk_.2.1 hs_) (fun hn_ => Nat.not_le.2 hk_.2.2 hn_)⟩)); have n6_ := am (blk_kept (bu BK305.out) hkp (fun hs_ => (fun e_ => (Kd.R_ne HO308.out BK305.out (by decide)) e_) hs_)); have n7_ := am (Kd.R_mono (ok' := fun k_ => nb Ao42 t277.length co42 k_ ∧ nb Ao43 t284.length co43 k_ ∧ nb Ao47 t288.length co47 k_ ∧ nb Ao52 t297.length co52 k_ ∧ nb Ao57 t301.length co57 k_) ho0 (fun k_ hk_ => ⟨Or.elim hk_ (fun hs_ => fun e_ => (((HO279.out).1 k_ e_.symm).2) hs_) (fun hn_ => (Kd.fresh' (Kd.R_lt (ru (HO279.out))) k_ hn_)), Or.elim hk_ (fun hs_ => fun e_ => (((HO286.out).1 k_ e_.symm).2) hs_) (fun hn_ => (Kd.fresh' (Kd.R_lt (ru (HO286.out))) k_ hn_)), Or.elim hk_ (fun hs_ => fun e_ => (((HO290.out).1 k_ e_.symm).2) hs_) (fun hn_ => (Kd.fresh' (Kd.R_lt (ru (HO290.out))) k_ hn_)), Or.elim hk_ (fun hs_ => fun e_ => (((HO299.out).1 k_ e_.symm).2) hs_) (fun hn_ => (Kd.fresh' (Kd.R_lt (ru (HO299.out))) k_ hn_)), Or.elim hk_ (fun hs_ => fun e_ => (((HO303.out).1 k_ e_.symm).2) hs_) (fun hn_ => (Kd.fresh' (Kd.R_lt (ru (HO303.out))) k_ hn_))⟩)); have n8_ := am (hb); clear HO279; clear HO286; clear HO290; clear BK292; clear HO299; clear HO303; clear BK305; clear HB; clear HO308; have HO279 := n0_; have HO286 := n1_; have HO290 := n2_; have BK292 := n3_; have HO299 := n4_; have HO303 := n5_; have BK305 := n6_; have HO312 := n7_; have HB := n8_; clear n0_ n1_ n2_ n3_ n4_ n5_ n6_ n7_ n8_; (try clear hb); (try clear hkp); (try clear ho0); obtain ⟨Ao62, co62, eo62⟩ := Kd.R_slice HO312.out; subst eo62) | ((with_reducible refine gate_callee (f := 28) rfl ?_); refine goesL_ (some 28) rfl rfl Try.func28 (by kernel_rfl) rfl #[.agg #[.int .u64 t309, .slice Ao62 t310.length co62], .int .u64 3] rfl (by (try simp only [List.map_toArray, List.map_cons, List.map_nil]); first | done | rfl | (simp only [List.length_drop, List.length_take]; rfl)) ?_; (with_reducible refine (setops_Cut.calls t309 _ _ t310 3 t313 t314 t317 _ ?side1 ?side2 A7.out).mono ?_); (case side1 => repeat (first | exact (Kd.R_reads' HO312.out).2.2 | (with_reducible refine Kd.C_alloc ?_ _) | (with_reducible refine Kd.C_drewN ?_ _) | (with_reducible refine Kd.C_drew ?_))); (case side2 => exact (Kd.R_reads' HO312.out).2.1); rintro e w63 ⟨v315, rfl, ho0, hb⟩; refine ⟨_, rfl, ?_⟩; have n0_ := am (Kd.R_elder' (ru (HO279.out)) (Kd.R_base ho0) hb); have n1_ := am (Kd.R_elder' (ru (HO286.out)) (Kd.R_base ho0) hb); have n2_ := am (Kd.R_elder' (ru (HO290.out)) (Kd.R_base ho0) hb); have n3_ := am (Kd.R_elder' (ru (HO299.out)) (Kd.R_base ho0) hb); have n4_ := am (Kd.R_elder' (ru (HO303.out)) (Kd.R_base ho0) hb); have n5_ := am (Kd.R_elder' (ru (HO312.out)) (Kd.R_base ho0) hb); have n6_ := am (Kd.R_lower (Kd.R_new' (Kd.R_new' (Kd.R_new' (Kd.R_new' (Kd.R_new' (Kd.R_new' ho0 (Kd.R_lt (ru (HO279.out)))) (Kd.R_lt (ru (HO286.out)))) (Kd.R_lt (ru (HO290.out)))) (Kd.R_lt (ru (HO299.out)))) (Kd.R_lt (ru (HO303.out)))) (Kd.R_lt (ru (HO312.out)))) (below_size (by repeat (first | (with_reducible first | exact HB.out | apply below_alloc | apply pw_below_drewN | apply below_drew1 | refine below_set ?_ GE292.out | refine below_set ?_ GE305.out) | exact HB.out)))); have n7_ := am (blk_below (g := gb292) (o := .cells #[.int .u64 t287, .slice Ao47 t288.length co47] 25 (0, 0)) (bu BK292.out) hb); have n8_ := am (blk_below (g := gb305) (o := .cells #[.int .u64 t300, .slice Ao57 t301.length co57] 25 (0, 0)) (bu BK305.out) hb); have n9_ := am (below_step (by repeat (first | (with_reducible first | exact HB.out | apply below_alloc | apply pw_below_drewN | apply below_drew1 | refine below_set ?_ GE292.out | refine below_set ?_ GE305.out) | exact HB.out)) hb); clear HO279; clear HO286; clear HO290; clear HO299; clear HO303; clear HO312; clear BK292; clear BK305; clear HB; have HO279 := n0_; have HO286 := n1_; have HO290 := n2_; have HO299 := n3_; have HO303 := n4_; have HO312 := n5_; have HO316 := n6_; have BK292 := n7_; have BK305 := n8_; have HB := n9_; clear n0_ n1_ n2_ n3_ n4_ n5_ n6_ n7_ n8_ n9_; (try clear hb); (try clear hb2); (try clear hk); (try clear hi); (try clear ho0)) | ((with_reducible refine gate_dst (N := 5) rfl ?_); (try (refine gate_guard (by rfl) ?_; dsimp only)); refine box_event ?hg (N := 5) ?hd (cs := #[.int .u64 0, .slice none 0 0]) (t := 25) ?hr ?_; (case hd => rfl); (case hg => rfl); (case hr => first | (go_simp; done) | (go_simp; rfl)); intro gb318 hg w64 hbox hb; have n0_ := am (Kd.R_below (ru (HO279.out)) hb); have n1_ := am (Kd.R_below (ru (HO286.out)) hb); have n2_ := am (Kd.R_below (ru (HO290.out)) hb); have n3_ := am (Kd.R_below (ru (HO299.out)) hb); have n4_ := am (Kd.R_below (ru (HO303.out)) hb); have n5_ := am (Kd.R_below (ru (HO312.out)) hb); have n6_ := am (Kd.R_below (ru (HO316.out)) hb); have n7_ := am (blk_below (g := gb292) (o := .cells #[.int .u64 t287, .slice Ao47 t288.length co47] 25 (0, 0)) (bu BK292.out) hb); have n8_ := am (blk_below (g := gb305) (o := .cells #[.int .u64 t300, .slice Ao57 t301.length co57] 25 (0, 0)) (bu BK305.out) hb); have n9_ := am (below_step (by repeat (first | (with_reducible first | exact HB.out | apply below_alloc | apply pw_below_drewN | apply below_drew1 | refine below_set ?_ GE292.out | refine below_set ?_ GE305.out) | exact HB.out)) hb); have n10_ := am (hbox); have n11_ := am ((by rw [hg]; exact (below_size (by repeat (first | (with_reducible first | exact HB.out | apply below_alloc | apply pw_below_drewN | apply below_drew1 | refine below_set ?_ GE292.out | refine below_set ?_ GE305.out) | exact HB.out))) : w.heap.size ≤ gb318)); have n12_ := am ((by rw [hg]; exact (below_size (by repeat (first | (with_reducible first | exact HB.out | apply below_alloc | apply pw_below_drewN | apply below_drew1 | refine below_set ?_ GE292.out | refine below_set ?_ GE305.out) | exact HB.out))) : w.heap.size ≤ gb318)); have n13_ := am ((by rw [hg]; exact Nat.ne_of_lt (blk_lt (g := gb292) (o := .cells #[.int .u64 t287, .slice Ao47 t288.length co47] 25 (0, 0)) (bu BK292.out)) : gb292 ≠ gb318)); have n14_ := am ((by rw [hg]; exact Nat.ne_of_gt (blk_lt (g := gb292) (o := .cells #[.int .u64 t287, .slice Ao47 t288.length co47] 25 (0, 0)) (bu BK292.out)) : gb318 ≠ gb292)); have n15_ := am ((by rw [hg]; exact Nat.ne_of_lt (blk_lt (g := gb305) (o := .cells #[.int .u64 t300, .slice Ao57 t301.length co57] 25 (0, 0)) (bu BK305.out)) : gb305 ≠ gb318)); have n16_ := am ((by rw [hg]; exact Nat.ne_of_gt (blk_lt (g := gb305) (o := .cells #[.int .u64 t300, .slice Ao57 t301.length co57] 25 (0, 0)) (bu BK305.out)) : gb318 ≠ gb305)); clear HO279; clear HO286; clear HO290; clear HO299; clear HO303; clear HO312; clear HO316; clear BK292; clear BK305; clear HB; have HO279 := n0_; have HO286 := n1_; have HO290 := n2_; have HO299 := n3_; have HO303 := n4_; have HO312 := n5_; have HO316 := n6_; have BK292 := n7_; have BK305 := n8_; have HB := n9_; have BK318 := n10_; have GW318 := n11_; have GE318 := n12_; have NB292_318 := n13_; have NB318_292 := n14_; have NB305_318 := n15_; have NB318_305 := n16_; clear n0_ n1_ n2_ n3_ n4_ n5_ n6_ n7_ n8_ n9_ n10_ n11_ n12_ n13_ n14_ n15_ n16_; clear hb hbox hg; have hnb65 := NB318_292.out; have hnc65 := NB292_318.out; have hnb66 := NB318_305.out; have hnc66 := NB305_318.out; have hcz67_0 : w64.cell? ⟨gb318, 0, none⟩ = some (.int .u64 0) := (blk_cell BK318.out 0).trans rfl; have hcz67_1 : w64.cell? ⟨gb318, 1, none⟩ = some (.slice none 0 0) := (blk_cell BK318.out 1).trans rfl; have hfz67_0 := blk_frozen BK318.out 0; have hfz67_1 := blk_frozen BK318.out 1; obtain ⟨Ao68, co68, eo68⟩ := Kd.R_slice HO316.out; subst eo68) | ((with_reducible refine gate_callee (f := 25) rfl ?_); refine goesL_ (some 33) rfl rfl Try.func25 (by kernel_rfl) rfl #[.agg #[.int .i64 0, .slice none 0 0, .int .u64 0]] rfl (by (try simp only [List.map_toArray, List.map_cons, List.map_nil]); first | done | rfl | (simp only [List.length_drop, List.length_take]; rfl)) ?_; (refine (setops_Of.calls k 0 _ _ ([] : List Int) 0 t319 t320 t323 _ ?side1 ?side2 A8.out).mono ?_); (case side1 => exact Kd.C_nil _ _); (case side2 => exact Nat.le_refl _); rintro e w69 ⟨v321, rfl, ho0, hb⟩; refine ⟨_, rfl, ?_⟩; have n0_ := am (Kd.R_elder' (rf HO279.out BK318.out (by decide)) (Kd.R_base ho0) hb); have n1_ := am (Kd.R_elder' (rf HO286.out BK318.out (by decide)) (Kd.R_base ho0) hb); have n2_ := am (Kd.R_elder' (rf HO290.out BK318.out (by decide)) (Kd.R_base ho0) hb); have n3_ := am (Kd.R_elder' (rf HO299.out BK318.out (by decide)) (Kd.R_base ho0) hb); have n4_ := am (Kd.R_elder' (rf HO303.out BK318.out (by decide)) (Kd.R_base ho0) hb); have n5_ := am (Kd.R_elder' (rf HO312.out BK318.out (by decide)) (Kd.R_base ho0) hb); have n6_ := am (Kd.R_elder' (rf HO316.out BK318.out (by decide)) (Kd.R_base ho0) hb); have n7_ := am (Kd.R_lower (Kd.R_new' (Kd.R_new' (Kd.R_new' (Kd.R_new' (Kd.R_new' (Kd.R_new' (Kd.R_new' ho0 (Kd.R_lt (rf HO279.out BK318.out (by decide)))) (Kd.R_lt (rf HO286.out BK318.out (by decide)))) (Kd.R_lt (rf HO290.out BK318.out (by decide)))) (Kd.R_lt (rf HO299.out BK318.out (by decide)))) (Kd.R_lt (rf HO303.out BK318.out (by decide)))) (Kd.R_lt (rf HO312.out BK318.out (by decide)))) (Kd.R_lt (rf HO316.out BK318.out (by decide)))) (below_size (by repeat (first | (with_reducible first | exact HB.out | apply below_alloc | apply pw_below_drewN | apply below_drew1 | refine below_set ?_ GE292.out | refine below_set ?_ GE305.out | refine below_set ?_ GE318.out) | exact HB.out)))); have n8_ := am (blk_below (g := gb292) (o := .cells #[.int .u64 t287, .slice Ao47 t288.length co47] 25 (0, 0)) (bf NB292_318.out BK292.out) hb); have n9_ := am (blk_below (g := gb305) (o := .cells #[.int .u64 t300, .slice Ao57 t301.length co57] 25 (0, 0)) (bf NB305_318.out BK305.out) hb); have n10_ := am (blk_below (g := gb318) (o := .cells #[.int .u64 t313, .slice Ao68 t314.length co68] 25 (0, 0)) (by (with_reducible repeat (first | refine blk_drewN ?_ _ | refine blk_drew ?_ | refine blk_alloc ?_ _)); refine blk_put (cs := #[.int .u64 t313, .slice none 0 0]) ?_ 1 _ rfl; (with_reducible repeat (first | refine blk_drewN ?_ _ | refine blk_drew ?_ | refine blk_alloc ?_ _)); refine blk_put (cs := #[.int .u64 0, .slice none 0 0]) ?_ 0 _ rfl; (with_reducible repeat (first | refine blk_drewN ?_ _ | refine blk_drew ?_ | refine blk_alloc ?_ _)); exact BK318.out) hb); have n11_ := am (below_step (by repeat (first | (with_reducible first | exact HB.out | apply below_alloc | apply pw_below_drewN | apply below_drew1 | refine below_set ?_ GE292.out | refine below_set ?_ GE305.out | refine below_set ?_ GE318.out) | exact HB.out)) hb); clear HO279; clear HO286; clear HO290; clear HO299; clear HO303; clear HO312; clear HO316; clear BK292; clear BK305; clear BK318; clear HB; have HO279 := n0_; have HO286 := n1_; have HO290 := n2_; have HO299 := n3_; have HO303 := n4_; have HO312 := n5_; have HO316 := n6_; have HO322 := n7_; have BK292 := n8_; have BK305 := n9_; have BK318 := n10_; have HB := n11_; clear n0_ n1_ n2_ n3_ n4_ n5_ n6_ n7_ n8_ n9_ n10_ n11_; (try clear hb); (try clear hb2); (try clear hk); (try clear hi); (try clear ho0)) | ((with_reducible refine gate_dst (N := 7) rfl ?_); (try (refine gate_guard (by rfl) ?_; dsimp only)); refine box_event ?hg (N := 7) ?hd (cs := #[.int .u64 0, .slice none 0 0]) (t := 25) ?hr ?_; (case hd => rfl); (case hg => rfl); (case hr => first | (go_simp; done) | (go_simp; rfl)); intro gb324 hg w70 hbox hb; have n0_ := am (Kd.R_below (ru (HO279.out)) hb); have n1_ := am (Kd.R_below (ru (HO286.out)) hb); have n2_ := am (Kd.R_below (ru (HO290.out)) hb); have n3_ := am (Kd.R_below (ru (HO299.out)) hb); have n4_ := am (Kd.R_below (ru (HO303.out)) hb); have n5_ := am (Kd.R_below (ru (HO312.out)) hb); have n6_ := am (Kd.R_below (ru (HO316.out)) hb); have n7_ := am (Kd.R_below (ru (HO322.out)) hb); have n8_ := am (blk_below (g := gb292) (o := .cells #[.int .u64 t287, .slice Ao47 t288.length co47] 25 (0, 0)) (bu BK292.out) hb); have n9_ := am (blk_below (g := gb305) (o := .cells #[.int .u64 t300, .slice Ao57 t301.length co57] 25 (0, 0)) (bu BK305.out) hb); have n10_ := am (blk_below (g := gb318) (o := .cells #[.int .u64 t313, .slice Ao68 t314.length co68] 25 (0, 0)) (bu BK318.out) hb); have n11_ := am (below_step (by repeat (first | (with_reducible first | exact HB.out | apply below_alloc | apply pw_below_drewN | apply below_drew1 | refine below_set ?_ GE292.out | refine below_set ?_ GE305.out | refine below_set ?_ GE318.out) | exact HB.out)) hb); have n12_ := am (hbox); have n13_ := am ((by rw [hg]; exact (below_size (by repeat (first | (with_reducible first | exact HB.out | apply below_alloc | apply pw_below_drewN | apply below_drew1 | refine below_set ?_ GE292.out | refine below_set ?_ GE305.out | refine below_set ?_ GE318.out) | exact HB.out))) : w.heap.size ≤ gb324)); have n14_ := am ((by rw [hg]; exact (below_size (by repeat (first | (with_reducible first | exact HB.out | apply below_alloc | apply pw_below_drewN | apply below_drew1 | refine below_set ?_ GE292.out | refine below_set ?_ GE305.out | refine below_set ?_ GE318.out) | exact HB.out))) : w.heap.size ≤ gb324)); have n15_ := am ((by rw [hg]; exact Nat.ne_of_lt (blk_lt (g := gb292) (o := .cells #[.int .u64 t287, .slice Ao47 t288.length co47] 25 (0, 0)) (bu BK292.out)) : gb292 ≠ gb324)); have n16_ := am ((by rw [hg]; exact Nat.ne_of_gt (blk_lt (g := gb292) (o := .cells #[.int .u64 t287, .slice Ao47 t288.length co47] 25 (0, 0)) (bu BK292.out)) : gb324 ≠ gb292)); have n17_ := am ((by rw [hg]; exact Nat.ne_of_lt (blk_lt (g := gb305) (o := .cells #[.int .u64 t300, .slice Ao57 t301.length co57] 25 (0, 0)) (bu BK305.out)) : gb305 ≠ gb324)); have n18_ := am ((by rw [hg]; exact Nat.ne_of_gt (blk_lt (g := gb305) (o := .cells #[.int .u64 t300, .slice Ao57 t301.length co57] 25 (0, 0)) (bu BK305.out)) : gb324 ≠ gb305)); have n19_ := am ((by rw [hg]; exact Nat.ne_of_lt (blk_lt (g := gb318) (o := .cells #[.int .u64 t313, .slice Ao68 t314.length co68] 25 (0, 0)) (bu BK318.out)) : gb318 ≠ gb324)); have n20_ := am ((by rw [hg]; exact Nat.ne_of_gt (blk_lt (g := gb318) (o := .cells #[.int .u64 t313, .slice Ao68 t314.length co68] 25 (0, 0)) (bu BK318.out)) : gb324 ≠ gb318)); clear HO279; clear HO286; clear HO290; clear HO299; clear HO303; clear HO312; clear HO316; clear HO322; clear BK292; clear BK305; clear BK318; clear HB; have HO279 := n0_; have HO286 := n1_; have HO290 := n2_; have HO299 := n3_; have HO303 := n4_; have HO312 := n5_; have HO316 := n6_; have HO322 := n7_; have BK292 := n8_; have BK305 := n9_; have BK318 := n10_; have HB := n11_; have BK324 := n12_; have GW324 := n13_; have GE324 := n14_; have NB292_324 := n15_; have NB324_292 := n16_; have NB305_324 := n17_; have NB324_305 := n18_; have NB318_324 := n19_; have NB324_318 := n20_; clear n0_ n1_ n2_ n3_ n4_ n5_ n6_ n7_ n8_ n9_ n10_ n11_ n12_ n13_ n14_ n15_ n16_ n17_ n18_ n19_ n20_; clear hb hbox hg; have hnb71 := NB324_292.out; have hnc71 := NB292_324.out; have hnb72 := NB324_305.out; have hnc72 := NB305_324.out; have hnb73 := NB324_318.out; have hnc73 := NB318_324.out; have hcz74_0 : w70.cell? ⟨gb324, 0, none⟩ = some (.int .u64 0) := (blk_cell BK324.out 0).trans rfl; have hcz74_1 : w70.cell? ⟨gb324, 1, none⟩ = some (.slice none 0 0) := (blk_cell BK324.out 1).trans rfl; have hfz74_0 := blk_frozen BK324.out 0; have hfz74_1 := blk_frozen BK324.out 1; obtain ⟨Ao75, co75, eo75⟩ := Kd.R_slice HO322.out; subst eo75) | ((with_reducible refine gate_store (t := 25) (p := 7) rfl ?_); refine store_event (t := 25) (p := 7) (v := ?vo_w76) (w1 := ((w70.setCell ⟨gb324, 0, none⟩ (.int .u64 t319)).setCell ⟨gb324, 1, none⟩ (.slice Ao75 t320.length co75))) ?hg ?ho ?hn ?hr ?_; (case ho => rfl); (case hg => rfl); (case hn => rfl); (case hr => first | (go_simp; done) | (go_simp; rfl)); intro w76 hw; have n0_ : Aside0 (Kd.R (Kd.int .u64) 22 w76 w.heap.size (fun k_ => nb Ao43 t284.length co43 k_ ∧ nb Ao47 t288.length co47 k_ ∧ nb Ao52 t297.length co52 k_ ∧ nb Ao57 t301.length co57 k_ ∧ nb Ao62 t310.length co62 k_ ∧ nb Ao68 t314.length co68 k_ ∧ nb Ao75 t320.length co75 k_) (.slice Ao42 t277.length co42) t277) := ⟨(by rw [hw]; exact (ru (Kd.R_mono (Kd.R_far (p := ⟨gb324, 1, none⟩) (Kd.R_far (p := ⟨gb324, 0, none⟩) (Kd.R_types HO279.out BK324.out (by decide)) (fun _ hk => hk.2) (.int .u64 t319)) (fun _ hk => hk.2) (.slice Ao75 t320.length co75)) (fun _ hk => ⟨hk.1.1.1.1, ⟨hk.1.1.1.2.1, ⟨hk.1.1.1.2.2.1, ⟨hk.1.1.1.2.2.2.1, ⟨hk.1.1.1.2.2.2.2, ⟨hk.1.1.2, hk.1.2⟩⟩⟩⟩⟩⟩))))⟩; have n1_ : Aside0 (Kd.R (Kd.int .u64) 22 w76 w.heap.size (fun k_ => nb Ao42 t277.length co42 k_ ∧ nb Ao47 t288.length co47 k_ ∧ nb Ao52 t297.length co52 k_ ∧ nb Ao57 t301.length co57 k_ ∧ nb Ao62 t310.length co62 k_ ∧ nb Ao68 t314.length co68 k_ ∧ nb Ao75 t320.length co75 k_) (.slice Ao43 t284.length co43) t284) := ⟨(by rw [hw]; exact (ru (Kd.R_mono (Kd.R_far (p := ⟨gb324, 1, none⟩) (Kd.R_far (p := ⟨gb324, 0, none⟩) (Kd.R_types HO286.out BK324.out (by decide)) (fun _ hk => hk.2) (.int .u64 t319)) (fun _ hk => hk.2) (.slice Ao75 t320.length co75)) (fun _ hk => ⟨hk.1.1.1.1, ⟨hk.1.1.1.2.1, ⟨hk.1.1.1.2.2.1, ⟨hk.1.1.1.2.2.2.1, ⟨hk.1.1.1.2.2.2.2, ⟨hk.1.1.2, hk.1.2⟩⟩⟩⟩⟩⟩))))⟩; have n2_ : Aside0 (Kd.R (Kd.int .u64) 22 w76 w.heap.size (fun k_ => nb Ao42 t277.length co42 k_ ∧ nb Ao43 t284.length co43 k_ ∧ nb Ao52 t297.length co52 k_ ∧ nb Ao57 t301.length co57 k_ ∧ nb Ao62 t310.length co62 k_ ∧ nb Ao68 t314.length co68 k_ ∧ nb Ao75 t320.length co75 k_) (.slice Ao47 t288.length co47) t288) := ⟨(by rw [hw]; exact (ru (Kd.R_mono (Kd.R_far (p := ⟨gb324, 1, none⟩) (Kd.R_far (p := ⟨gb324, 0, none⟩) (Kd.R_types HO290.out BK324.out (by decide)) (fun _ hk => hk.2) (.int .u64 t319)) (fun _ hk => hk.2) (.slice Ao75 t320.length co75)) (fun _ hk => ⟨hk.1.1.1.1, ⟨hk.1.1.1.2.1, ⟨hk.1.1.1.2.2.1, ⟨hk.1.1.1.2.2.2.1, ⟨hk.1.1.1.2.2.2.2, ⟨hk.1.1.2, hk.1.2⟩⟩⟩⟩⟩⟩))))⟩; have n3_ : Aside0 (Kd.R (Kd.int .u64) 22 w76 w.heap.size (fun k_ => nb Ao42 t277.length co42 k_ ∧ nb Ao43 t284.length co43 k_ ∧ nb Ao47 t288.length co47 k_ ∧ nb Ao57 t301.length co57 k_ ∧ nb Ao62 t310.length co62 k_ ∧ nb Ao68 t314.length co68 k_ ∧ nb Ao75 t320.length co75 k_) (.slice Ao52 t297.length co52) t297) := ⟨(by rw [hw]; exact (ru (Kd.R_mono (Kd.R_far (p := ⟨gb324, 1, none⟩) (Kd.R_far (p := ⟨gb324, 0, none⟩) (Kd.R_types HO299.out BK324.out (by decide)) (fun _ hk => hk.2) (.int .u64 t319)) (fun _ hk => hk.2) (.slice Ao75 t320.length co75)) (fun _ hk => ⟨hk.1.1.1.1, ⟨hk.1.1.1.2.1, ⟨hk.1.1.1.2.2.1, ⟨hk.1.1.1.2.2.2.1, ⟨hk.1.1.1.2.2.2.2, ⟨hk.1.1.2, hk.1.2⟩⟩⟩⟩⟩⟩))))⟩; have n4_ : Aside0 (Kd.R (Kd.int .u64) 22 w76 w.heap.size (fun k_ => nb Ao42 t277.length co42 k_ ∧ nb Ao43 t284.length co43 k_ ∧ nb Ao47 t288.length co47 k_ ∧ nb Ao52 t297.length co52 k_ ∧ nb Ao62 t310.length co62 k_ ∧ nb Ao68 t314.length co68 k_ ∧ nb Ao75 t320.length co75 k_) (.slice Ao57 t301.length co57) t301) := ⟨(by rw [hw]; exact (ru (Kd.R_mono (Kd.R_far (p := ⟨gb324, 1, none⟩) (Kd.R_far (p := ⟨gb324, 0, none⟩) (Kd.R_types HO303.out BK324.out (by decide)) (fun _ hk => hk.2) (.int .u64 t319)) (fun _ hk => hk.2) (.slice Ao75 t320.length co75)) (fun _ hk => ⟨hk.1.1.1.1, ⟨hk.1.1.1.2.1, ⟨hk.1.1.1.2.2.1, ⟨hk.1.1.1.2.2.2.1, ⟨hk.1.1.1.2.2.2.2, ⟨hk.1.1.2, hk.1.2⟩⟩⟩⟩⟩⟩))))⟩; have n5_ : Aside0 (Kd.R (Kd.int .u64) 22 w76 w.heap.size (fun k_ => nb Ao42 t277.length co42 k_ ∧ nb Ao43 t284.length co43 k_ ∧ nb Ao47 t288.length co47 k_ ∧ nb Ao52 t297.length co52 k_ ∧ nb Ao57 t301.length co57 k_ ∧ nb Ao68 t314.length co68 k_ ∧ nb Ao75 t320.length co75 k_) (.slice Ao62 t310.length co62) t310) := ⟨(by rw [hw]; exact (ru (Kd.R_mono (Kd.R_far (p := ⟨gb324, 1, none⟩) (Kd.R_far (p := ⟨gb324, 0, none⟩) (Kd.R_types HO312.out BK324.out (by decide)) (fun _ hk => hk.2) (.int .u64 t319)) (fun _ hk => hk.2) (.slice Ao75 t320.length co75)) (fun _ hk => ⟨hk.1.1.1.1, ⟨hk.1.1.1.2.1, ⟨hk.1.1.1.2.2.1, ⟨hk.1.1.1.2.2.2.1, ⟨hk.1.1.1.2.2.2.2, ⟨hk.1.1.2, hk.1.2⟩⟩⟩⟩⟩⟩))))⟩; have n6_ : Aside0 (Kd.R (Kd.int .u64) 22 w76 w.heap.size (fun k_ => nb Ao42 t277.length co42 k_ ∧ nb Ao43 t284.length co43 k_ ∧ nb Ao47 t288.length co47 k_ ∧ nb Ao52 t297.length co52 k_ ∧ nb Ao57 t301.length co57 k_ ∧ nb Ao62 t310.length co62 k_ ∧ nb Ao75 t320.length co75 k_) (.slice Ao68 t314.length co68) t314) := ⟨(by rw [hw]; exact (ru (Kd.R_mono (Kd.R_far (p := ⟨gb324, 1, none⟩) (Kd.R_far (p := ⟨gb324, 0, none⟩) (Kd.R_types HO316.out BK324.out (by decide)) (fun _ hk => hk.2) (.int .u64 t319)) (fun _ hk => hk.2) (.slice Ao75 t320.length co75)) (fun _ hk => ⟨hk.1.1.1.1.1.1.1.2, ⟨hk.1.1.1.1.1.1.2, ⟨hk.1.1.1.1.1.2, ⟨hk.1.1.1.1.2, ⟨hk.1.1.1.2, ⟨hk.1.1.2, hk.1.2⟩⟩⟩⟩⟩⟩))))⟩; have n7_ : Aside0 (Kd.R (Kd.int .u64) 22 w76 w.heap.size (fun k_ => nb Ao42 t277.length co42 k_ ∧ nb Ao43 t284.length co43 k_ ∧ nb Ao47 t288.length co47 k_ ∧ nb Ao52 t297.length co52 k_ ∧ nb Ao57 t301.length co57 k_ ∧ nb Ao62 t310.length co62 k_ ∧ nb Ao68 t314.length co68 k_) (.slice Ao75 t320.length co75) t320) := ⟨(by rw [hw]; exact (ru (Kd.R_mono (Kd.R_far (p := ⟨gb324, 1, none⟩) (Kd.R_far (p := ⟨gb324, 0, none⟩) (Kd.R_types HO322.out BK324.out (by decide)) (fun _ hk => hk.2) (.int .u64 t319)) (fun _ hk => hk.2) (.slice Ao75 t320.length co75)) (fun _ hk => ⟨hk.1.1.1.1.1.1.1.2, ⟨hk.1.1.1.1.1.1.2, ⟨hk.1.1.1.1.1.2, ⟨hk.1.1.1.1.2, ⟨hk.1.1.1.2, ⟨hk.1.1.2, hk.1.2⟩⟩⟩⟩⟩⟩))))⟩; have n8_ : Aside0 (w76.heap[gb292]? = some (.cells #[.int .u64 t287, .slice Ao47 t288.length co47] 25 (0, 0))) := ⟨(by rw [hw]; exact (bf NB292_324.out BK292.out))⟩; have n9_ : Aside0 (w76.heap[gb305]? = some (.cells #[.int .u64 t300, .slice Ao57 t301.length co57] 25 (0, 0))) := ⟨(by rw [hw]; exact (bf NB305_324.out BK305.out))⟩; have n10_ : Aside0 (w76.heap[gb318]? = some (.cells #[.int .u64 t313, .slice Ao68 t314.length co68] 25 (0, 0))) := ⟨(by rw [hw]; exact (bf NB318_324.out BK318.out))⟩; have n11_ : Aside0 (w76.heap[gb324]? = some (.cells #[.int .u64 t319, .slice Ao75 t320.length co75] 25 (0, 0))) := ⟨(by rw [hw]; exact (by (with_reducible repeat (first | refine blk_drewN ?_ _ | refine blk_drew ?_ | refine blk_alloc ?_ _)); refine blk_put (cs := #[.int .u64 t319, .slice none 0 0]) ?_ 1 _ rfl; (with_reducible repeat (first | refine blk_drewN ?_ _ | refine blk_drew ?_ | refine blk_alloc ?_ _)); refine blk_put (cs := #[.int .u64 0, .slice none 0 0]) ?_ 0 _ rfl; (with_reducible repeat (first | refine blk_drewN ?_ _ | refine blk_drew ?_ | refine blk_alloc ?_ _)); exact BK324.out))⟩; have n12_ : Aside0 (Below w.heap.size w w76) := ⟨(by rw [hw]; exact (by repeat (first | (with_reducible first | exact HB.out | apply below_alloc | apply pw_below_drewN | apply below_drew1 | refine below_set ?_ GE292.out | refine below_set ?_ GE305.out | refine below_set ?_ GE318.out | refine below_set ?_ GE324.out) | exact HB.out)))⟩; clear hw; clear HO279; clear HO286; clear HO290; clear HO299; clear HO303; clear HO312; clear HO316; clear HO322; clear BK292; clear BK305; clear BK318; clear BK324; clear HB; have HO279 := n0_; have HO286 := n1_; have HO290 := n2_; have HO299 := n3_; have HO303 := n4_; have HO312 := n5_; have HO316 := n6_; have HO322 := n7_; have BK292 := n8_; have BK305 := n9_; have BK318 := n10_; have BK324 := n11_; have HB := n12_; clear n0_ n1_ n2_ n3_ n4_ n5_ n6_ n7_ n8_ n9_ n10_ n11_ n12_) | ((with_reducible refine gate_callee (f := 29) rfl ?_); refine goesL_ (some 37) rfl rfl Try.func29 (by kernel_rfl) rfl #[.int .u64 0, .slice none 0 0] rfl (by (try simp only [List.map_toArray, List.map_cons, List.map_nil]); first | done | rfl | (simp only [List.length_drop, List.length_take]; rfl)) ?_; (refine (tallymanlaw17_view.calls 0 (fun k_ => some k_ = (.slice none 0 0 : Value).ownBlock) (.slice none 0 0) ([] : List Int) t325 t326 w _ ?side1 ?side2 A9.out).mono ?_); (case side1 => repeat (first | (with_reducible first | exact HB.out | apply below_alloc | apply pw_below_drewN | apply below_drew1 | refine below_set ?_ GE292.out | refine below_set ?_ GE305.out | refine below_set ?_ GE318.out | refine below_set ?_ GE324.out) | exact HB.out)); (case side2 => exact Kd.R_nil _ _ _ _ _); rintro e w77 ⟨v327, rfl, ho0, hb, hkp⟩; refine ⟨_, rfl, ?_⟩; have n0_ := am (Kd.R_mono (ok' := fun k_ => nb Ao43 t284.length co43 k_ ∧ nb Ao47 t288.length co47 k_ ∧ nb Ao52 t297.length co52 k_ ∧ nb Ao57 t301.length co57 k_ ∧ nb Ao62 t310.length co62 k_ ∧ nb Ao68 t314.length co68 k_ ∧ nb Ao75 t320.length co75 k_ ∧ some k_ ≠ (v327 : Value).ownBlock) (Kd.R_keptB (HO279.out) hkp (fun k_ hk_ hs_ => (fun e_ => by simp [Value.ownBlock] at e_) hs_)) (fun k_ hk_ => ⟨hk_.1.1, hk_.1.2.1, hk_.1.2.2.1, hk_.1.2.2.2.1, hk_.1.2.2.2.2.1, hk_.1.2.2.2.2.2.1, hk_.1.2.2.2.2.2.2, fun e_ => Or.elim (ho0.1 k_ e_.symm) (fun hs_ => hk_.2.1 hs_) (fun hn_ => Nat.not_le.2 hk_.2.2 hn_)⟩)); have n1_ := am (Kd.R_mono (ok' := fun k_ => nb Ao42 t277.length co42 k_ ∧ nb Ao47 t288.length co47 k_ ∧ nb Ao52 t297.length co52 k_ ∧ nb Ao57 t301.length co57 k_ ∧ nb Ao62 t310.length co62 k_ ∧ nb Ao68 t314.length co68 k_ ∧ nb Ao75 t320.length co75 k_ ∧ some k_ ≠ (v327 : Value).ownBlock) (Kd.R_keptB (HO286.out) hkp (fun k_ hk_ hs_ => (fun e_ => by simp [Value.ownBlock] at e_) hs_)) (fun k_ hk_ => ⟨hk_.1.1, hk_.1.2.1, hk_.1.2.2.1, hk_.1.2.2.2.1, hk_.1.2.2.2.2.1, hk_.1.2.2.2.2.2.1, hk_.1.2.2.2.2.2.2, fun e_ => Or.elim (ho0.1 k_ e_.symm) (fun hs_ => hk_.2.1 hs_) (fun hn_ => Nat.not_le.2 hk_.2.2 hn_)⟩)); have n2_ := am (Kd.R_mono (ok' := fun k_ => nb Ao42 t277.length co42 k_ ∧ nb Ao43 t284.length co43 k_ ∧ nb Ao52 t297.length co52 k_ ∧ nb Ao57 t301.length co57 k_ ∧ nb Ao62 t310.length co62 k_ ∧ nb Ao68 t314.length co68 k_ ∧ nb Ao75 t320.length co75 k_ ∧ some k_ ≠ (v327 : Value).ownBlock) (Kd.R_keptB (HO290.out) hkp (fun k_ hk_ hs_ => (fun e_ => by simp [Value.ownBlock] at e_) hs_)) (fun k_ hk_ => ⟨hk_.1.1, hk_.1.2.1, hk_.1.2.2.1, hk_.1.2.2.2.1, hk_.1.2.2.2.2.1, hk_.1.2.2.2.2.2.1, hk_.1.2.2.2.2.2.2, fun e_ => Or.elim (ho0.1 k_ e_.symm) (fun hs_ => hk_.2.1 hs_) (fun hn_ => Nat.not_le.2 hk_.2.2 hn_)⟩)); have n3_ := am (blk_kept (bu BK292.out) hkp (fun hs_ => (fun e_ => by simp [Value.ownBlock] at e_) hs_)); have n4_ := am (Kd.R_mono (ok' := fun k_ => nb Ao42 t277.length co42 k_ ∧ nb Ao43 t284.length co43 k_ ∧ nb Ao47 t288.length co47 k_ ∧ nb Ao57 t301.length co57 k_ ∧ nb Ao62 t310.length co62 k_ ∧ nb Ao68 t314.length co68 k_ ∧ nb Ao75 t320.length co75 k_ ∧ some k_ ≠ (v327 : Value).ownBlock) (Kd.R_keptB (HO299.out) hkp (fun k_ hk_ hs_ => (fun e_ => by simp [Value.ownBlock] at e_) hs_)) (fun k_ hk_ => ⟨hk_.1.1, hk_.1.2.1, hk_.1.2.2.1, hk_.1.2.2.2.1, hk_.1.2.2.2.2.1, hk_.1.2.2.2.2.2.1, hk_.1.2.2.2.2.2.2, fun e_ => Or.elim (ho0.1 k_ e_.symm) (fun hs_ => hk_.2.1 hs_) (fun hn_ => Nat.not_le.2 hk_.2.2 hn_)⟩)); have n5_ := am (Kd.R_mono (ok' := fun k_ => nb Ao42 t277.length co42 k_ ∧ nb Ao43 t284.length co43 k_ ∧ nb Ao47 t288.length co47 k_ ∧ nb Ao52 t297.length co52 k_ ∧ nb Ao62 t310.length co62 k_ ∧ nb Ao68 t314.length co68 k_ ∧ nb Ao75 t320.length co75 k_ ∧ some k_ ≠ (v327 : Value).ownBlock) (Kd.R_keptB (HO303.out) hkp (fun k_ hk_ hs_ => (fun e_ => by simp [Value.ownBlock] at e_) hs_)) (fun k_ hk_ => ⟨hk_.1.1, hk_.1.2.1, hk_.1.2.2.1, hk_.1.2.2.2.1, hk_.1.2.2.2.2.1, hk_.1.2.2.2.2.2.1, hk_.1.2.2.2.2.2.2, fun e_ => Or.elim (ho0.1 k_ e_.symm) (fun hs_ => hk_.2.1 hs_) (fun hn_ => Nat.not_le.2 hk_.2.2 hn_)⟩)); have n6_ := am (blk_kept (bu BK305.out) hkp (fun hs_ => (fun e_ => by simp [Value.ownBlock] at e_) hs_)); have n7_ := am (Kd.R_mono (ok' := fun k_ => nb Ao42 t277.length co42 k_ ∧ nb Ao43 t284.length co43 k_ ∧ nb Ao47 t288.length co47 k_ ∧ nb Ao52 t297.length co52 k_ ∧ nb Ao57 t301.length co57 k_ ∧ nb Ao68 t314.length co68 k_ ∧ nb Ao75 t320.length co75 k_ ∧ some k_ ≠ (v327 : Value).ownBlock) (Kd.R_keptB (HO312.out) hkp (fun k_ hk_ hs_ => (fun e_ => by simp [Value.ownBlock] at e_) hs_)) (fun k_ hk_ => ⟨hk_.1.1, hk_.1.2.1, hk_.1.2.2.1, hk_.1.2.2.2.1, hk_.1.2.2.2.2.1, hk_.1.2.2.2.2.2.1, hk_.1.2.2.2.2.2.2, fun e_ => Or.elim (ho0.1 k_ e_.symm) (fun hs_ => hk_.2.1 hs_) (fun hn_ => Nat.not_le.2 hk_.2.2 hn_)⟩)); have n8_ := am (Kd.R_mono (ok' := fun k_ => nb Ao42 t277.length co42 k_ ∧ nb Ao43 t284.length co43 k_ ∧ nb Ao47 t288.length co47 k_ ∧ nb Ao52 t297.length co52 k_ ∧ nb Ao57 t301.length co57 k_ ∧ nb Ao62 t310.length co62 k_ ∧ nb Ao75 t320.length co75 k_ ∧ some k_ ≠ (v327 : Value).ownBlock) (Kd.R_keptB (HO316.out) hkp (fun k_ hk_ hs_ => (fun e_ => by simp [Value.ownBlock] at e_) hs_)) (fun k_ hk_ => ⟨hk_.1.1, hk_.1.2.1, hk_.1.2.2.1, hk_.1.2.2.2.1, hk_.1.2.2.2.2.1, hk_.1.2.2.2.2.2.1, hk_.1.2.2.2.2.2.2, fun e_ => Or.elim (ho0.1 k_ e_.symm) (fun hs_ => hk_.2.1 hs_) (fun hn_ => Nat.not_le.2 hk_.2.2 hn_)⟩)); have n9_ := am (blk_kept (bu BK318.out) hkp (fun hs_ => (fun e_ => by simp [Value.ownBlock] at e_) hs_)); have n10_ := am (Kd.R_mono (ok' := fun k_ => nb Ao42 t277.length co42 k_ ∧ nb Ao43 t284.length co43 k_ ∧ nb Ao47 t288.length co47 k_ ∧ nb Ao52 t297.length co52 k_ ∧ nb Ao57 t301.length co57 k_ ∧ nb Ao62 t310.length co62 k_ ∧ nb Ao68 t314.length co68 k_ ∧ some k_ ≠ (v327 : Value).ownBlock) (Kd.R_keptB (HO322.out) hkp (fun k_ hk_ hs_ => (fun e_ => by simp [Value.ownBlock] at e_) hs_)) (fun k_ hk_ => ⟨hk_.1.1, hk_.1.2.1, hk_.1.2.2.1, hk_.1.2.2.2.1, hk_.1.2.2.2.2.1, hk_.1.2.2.2.2.2.1, hk_.1.2.2.2.2.2.2, fun e_ => Or.elim (ho0.1 k_ e_.symm) (fun hs_ => hk_.2.1 hs_) (fun hn_ => Nat.not_le.2 hk_.2.2 hn_)⟩)); have n11_ := am (blk_kept (bu BK324.out) hkp (fun hs_ => (fun e_ => by simp [Value.ownBlock] at e_) hs_)); have n12_ := am (Kd.R_mono (ok' := fun k_ => nb Ao42 t277.length co42 k_ ∧ nb Ao43 t284.length co43 k_ ∧ nb Ao47 t288.length co47 k_ ∧ nb Ao52 t297.length co52 k_ ∧ nb Ao57 t301.length co57 k_ ∧ nb Ao62 t310.length co62 k_ ∧ nb Ao68 t314.length co68 k_ ∧ nb Ao75 t320.length co75 k_) ho0 (fun k_ hk_ => ⟨Or.elim hk_ (fun hs_ => absurd hs_ (by simp [Value.ownBlock])) (fun hn_ => (Kd.fresh' (Kd.R_lt (ru (HO279.out))) k_ hn_)), Or.elim hk_ (fun hs_ => absurd hs_ (by simp [Value.ownBlock])) (fun hn_ => (Kd.fresh' (Kd.R_lt (ru (HO286.out))) k_ hn_)), Or.elim hk_ (fun hs_ => absurd hs_ (by simp [Value.ownBlock])) (fun hn_ => (Kd.fresh' (Kd.R_lt (ru (HO290.out))) k_ hn_)), Or.elim hk_ (fun hs_ => absurd hs_ (by simp [Value.ownBlock])) (fun hn_ => (Kd.fresh' (Kd.R_lt (ru (HO299.out))) k_ hn_)), Or.elim hk_ (fun hs_ => absurd hs_ (by simp [Value.ownBlock])) (fun hn_ => (Kd.fresh' (Kd.R_lt (ru (HO303.out))) k_ hn_)), Or.elim hk_ (fun hs_ => absurd hs_ (by simp [Value.ownBlock])) (fun hn_ => (Kd.fresh' (Kd.R_lt (ru (HO312.out))) k_ hn_)), Or.elim hk_ (fun hs_ => absurd hs_ (by simp [Value.ownBlock])) (fun hn_ => (Kd.fresh' (Kd.R_lt (ru (HO316.out))) k_ hn_)), Or.elim hk_ (fun hs_ => absurd hs_ (by simp [Value.ownBlock])) (fun hn_ => (Kd.fresh' (Kd.R_lt (ru (HO322.out))) k_ hn_))⟩)); have n13_ := am (hb); clear HO279; clear HO286; clear HO290; clear BK292; clear HO299; clear HO303; clear BK305; clear HO312; clear HO316; clear BK318; clear HO322; clear BK324; clear HB; have HO279 := n0_; have HO286 := n1_; have HO290 := n2_; have BK292 := n3_; have HO299 := n4_; have HO303 := n5_; have BK305 := n6_; have HO312 := n7_; have HO316 := n8_; have BK318 := n9_; have HO322 := n10_; have BK324 := n11_; have HO328 := n12_; have HB := n13_; clear n0_ n1_ n2_ n3_ n4_ n5_ n6_ n7_ n8_ n9_ n10_ n11_ n12_ n13_; (try clear hb); (try clear hkp); (try clear ho0)) | ((with_reducible refine gate_callee (f := 29) rfl ?_); refine goesL_ (some 38) rfl rfl Try.func29 (by kernel_rfl) rfl #[.int .u64 0, .slice none 0 0] rfl (by (try simp only [List.map_toArray, List.map_cons, List.map_nil]); first | done | rfl | (simp only [List.length_drop, List.length_take]; rfl)) ?_; (refine (tallymanlaw17_view.calls 0 (fun k_ => some k_ = (.slice none 0 0 : Value).ownBlock) (.slice none 0 0) ([] : List Int) t329 t330 w _ ?side1 ?side2 A10.out).mono ?_); (case side1 => repeat (first | (with_reducible first | exact HB.out | apply below_alloc | apply pw_below_drewN | apply below_drew1 | refine below_set ?_ GE292.out | refine below_set ?_ GE305.out | refine below_set ?_ GE318.out | refine below_set ?_ GE324.out) | exact HB.out)); (case side2 => exact Kd.R_nil _ _ _ _ _); rintro e w78 ⟨v331, rfl, ho0, hb, hkp⟩; refine ⟨_, rfl, ?_⟩; have n0_ := am (Kd.R_mono (ok' := fun k_ => nb Ao43 t284.length co43 k_ ∧ nb Ao47 t288.length co47 k_ ∧ nb Ao52 t297.length co52 k_ ∧ nb Ao57 t301.length co57 k_ ∧ nb Ao62 t310.length co62 k_ ∧ nb Ao68 t314.length co68 k_ ∧ nb Ao75 t320.length co75 k_ ∧ some k_ ≠ (v327 : Value).ownBlock ∧ some k_ ≠ (v331 : Value).ownBlock) (Kd.R_keptB (HO279.out) hkp (fun k_ hk_ hs_ => (fun e_ => by simp [Value.ownBlock] at e_) hs_)) (fun k_ hk_ => ⟨hk_.1.1, hk_.1.2.1, hk_.1.2.2.1, hk_.1.2.2.2.1, hk_.1.2.2.2.2.1, hk_.1.2.2.2.2.2.1, hk_.1.2.2.2.2.2.2.1, hk_.1.2.2.2.2.2.2.2, fun e_ => Or.elim (ho0.1 k_ e_.symm) (fun hs_ => hk_.2.1 hs_) (fun hn_ => Nat.not_le.2 hk_.2.2 hn_)⟩)); have n1_ := am (Kd.R_mono (ok' := fun k_ => nb Ao42 t277.length co42 k_ ∧ nb Ao47 t288.length co47 k_ ∧ nb Ao52 t297.length co52 k_ ∧ nb Ao57 t301.length co57 k_ ∧ nb Ao62 t310.length co62 k_ ∧ nb Ao68 t314.length co68 k_ ∧ nb Ao75 t320.length co75 k_ ∧ some k_ ≠ (v327 : Value).ownBlock ∧ some k_ ≠ (v331 : Value).ownBlock) (Kd.R_keptB (HO286.out) hkp (fun k_ hk_ hs_ => (fun e_ => by simp [Value.ownBlock] at e_) hs_)) (fun k_ hk_ => ⟨hk_.1.1, hk_.1.2.1, hk_.1.2.2.1, hk_.1.2.2.2.1, hk_.1.2.2.2.2.1, hk_.1.2.2.2.2.2.1, hk_.1.2.2.2.2.2.2.1, hk_.1.2.2.2.2.2.2.2, fun e_ => Or.elim (ho0.1 k_ e_.symm) (fun hs_ => hk_.2.1 hs_) (fun hn_ => Nat.not_le.2 hk_.2.2 hn_)⟩)); have n2_ := am (Kd.R_mono (ok' := fun k_ => nb Ao42 t277.length co42 k_ ∧ nb Ao43 t284.length co43 k_ ∧ nb Ao52 t297.length co52 k_ ∧ nb Ao57 t301.length co57 k_ ∧ nb Ao62 t310.length co62 k_ ∧ nb Ao68 t314.length co68 k_ ∧ nb Ao75 t320.length co75 k_ ∧ some k_ ≠ (v327 : Value).ownBlock ∧ some k_ ≠ (v331 : Value).ownBlock) (Kd.R_keptB (HO290.out) hkp (fun k_ hk_ hs_ => (fun e_ => by simp [Value.ownBlock] at e_) hs_)) (fun k_ hk_ => ⟨hk_.1.1, hk_.1.2.1, hk_.1.2.2.1, hk_.1.2.2.2.1, hk_.1.2.2.2.2.1, hk_.1.2.2.2.2.2.1, hk_.1.2.2.2.2.2.2.1, hk_.1.2.2.2.2.2.2.2, fun e_ => Or.elim (ho0.1 k_ e_.symm) (fun hs_ => hk_.2.1 hs_) (fun hn_ => Nat.not_le.2 hk_.2.2 hn_)⟩)); have n3_ := am (blk_kept (bu BK292.out) hkp (fun hs_ => (fun e_ => by simp [Value.ownBlock] at e_) hs_)); have n4_ := am (Kd.R_mono (ok' := fun k_ => nb Ao42 t277.length co42 k_ ∧ nb Ao43 t284.length co43 k_ ∧ nb Ao47 t288.length co47 k_ ∧ nb Ao57 t301.length co57 k_ ∧ nb Ao62 t310.length co62 k_ ∧ nb Ao68 t314.length co68 k_ ∧ nb Ao75 t320.length co75 k_ ∧ some k_ ≠ (v327 : Value).ownBlock ∧ some k_ ≠ (v331 : Value).ownBlock) (Kd.R_keptB (HO299.out) hkp (fun k_ hk_ hs_ => (fun e_ => by simp [Value.ownBlock] at e_) hs_)) (fun k_ hk_ => ⟨hk_.1.1, hk_.1.2.1, hk_.1.2.2.1, hk_.1.2.2.2.1, hk_.1.2.2.2.2.1, hk_.1.2.2.2.2.2.1, hk_.1.2.2.2.2.2.2.1, hk_.1.2.2.2.2.2.2.2, fun e_ => Or.elim (ho0.1 k_ e_.symm) (fun hs_ => hk_.2.1 hs_) (fun hn_ => Nat.not_le.2 hk_.2.2 hn_)⟩)); have n5_ := am (Kd.R_mono (ok' := fun k_ => nb Ao42 t277.length co42 k_ ∧ nb Ao43 t284.length co43 k_ ∧ nb Ao47 t288.length co47 k_ ∧ nb Ao52 t297.length co52 k_ ∧ nb Ao62 t310.length co62 k_ ∧ nb Ao68 t314.length co68 k_ ∧ nb Ao75 t320.length co75 k_ ∧ some k_ ≠ (v327 : Value).ownBlock ∧ some k_ ≠ (v331 : Value).ownBlock) (Kd.R_keptB (HO303.out) hkp (fun k_ hk_ hs_ => (fun e_ => by simp [Value.ownBlock] at e_) hs_)) (fun k_ hk_ => ⟨hk_.1.1, hk_.1.2.1, hk_.1.2.2.1, hk_.1.2.2.2.1, hk_.1.2.2.2.2.1, hk_.1.2.2.2.2.2.1, hk_.1.2.2.2.2.2.2.1, hk_.1.2.2.2.2.2.2.2, fun e_ => Or.elim (ho0.1 k_ e_.symm) (fun hs_ => hk_.2.1 hs_) (fun hn_ => Nat.not_le.2 hk_.2.2 hn_)⟩)); have n6_ := am (blk_kept (bu BK305.out) hkp (fun hs_ => (fun e_ => by simp [Value.ownBlock] at e_) hs_)); have n7_ := am (Kd.R_mono (ok' := fun k_ => nb Ao42 t277.length co42 k_ ∧ nb Ao43 t284.length co43 k_ ∧ nb Ao47 t288.length co47 k_ ∧ nb Ao52 t297.length co52 k_ ∧ nb Ao57 t301.length co57 k_ ∧ nb Ao68 t314.length co68 k_ ∧ nb Ao75 t320.length co75 k_ ∧ some k_ ≠ (v327 : Value).ownBlock ∧ some k_ ≠ (v331 : Value).ownBlock) (Kd.R_keptB (HO312.out) hkp (fun k_ hk_ hs_ => (fun e_ => by simp [Value.ownBlock] at e_) hs_)) (fun k_ hk_ => ⟨hk_.1.1, hk_.1.2.1, hk_.1.2.2.1, hk_.1.2.2.2.1, hk_.1.2.2.2.2.1, hk_.1.2.2.2.2.2.1, hk_.1.2.2.2.2.2.2.1, hk_.1.2.2.2.2.2.2.2, fun e_ => Or.elim (ho0.1 k_ e_.symm) (fun hs_ => hk_.2.1 hs_) (fun hn_ => Nat.not_le.2 hk_.2.2 hn_)⟩)); have n8_ := am (Kd.R_mono (ok' := fun k_ => nb Ao42 t277.length co42 k_ ∧ nb Ao43 t284.length co43 k_ ∧ nb Ao47 t288.length co47 k_ ∧ nb Ao52 t297.length co52 k_ ∧ nb Ao57 t301.length co57 k_ ∧ nb Ao62 t310.length co62 k_ ∧ nb Ao75 t320.length co75 k_ ∧ some k_ ≠ (v327 : Value).ownBlock ∧ some k_ ≠ (v331 : Value).ownBlock) (Kd.R_keptB (HO316.out) hkp (fun k_ hk_ hs_ => (fun e_ => by simp [Value.ownBlock] at e_) hs_)) (fun k_ hk_ => ⟨hk_.1.1, hk_.1.2.1, hk_.1.2.2.1, hk_.1.2.2.2.1, hk_.1.2.2.2.2.1, hk_.1.2.2.2.2.2.1, hk_.1.2.2.2.2.2.2.1, hk_.1.2.2.2.2.2.2.2, fun e_ => Or.elim (ho0.1 k_ e_.symm) (fun hs_ => hk_.2.1 hs_) (fun hn_ => Nat.not_le.2 hk_.2.2 hn_)⟩)); have n9_ := am (blk_kept (bu BK318.out) hkp (fun hs_ => (fun e_ => by simp [Value.ownBlock] at e_) hs_)); have n10_ := am (Kd.R_mono (ok' := fun k_ => nb Ao42 t277.length co42 k_ ∧ nb Ao43 t284.length co43 k_ ∧ nb Ao47 t288.length co47 k_ ∧ nb Ao52 t297.length co52 k_ ∧ nb Ao57 t301.length co57 k_ ∧ nb Ao62 t310.length co62 k_ ∧ nb Ao68 t314.length co68 k_ ∧ some k_ ≠ (v327 : Value).ownBlock ∧ some k_ ≠ (v331 : Value).ownBlock) (Kd.R_keptB (HO322.out) hkp (fun k_ hk_ hs_ => (fun e_ => by simp [Value.ownBlock] at e_) hs_)) (fun k_ hk_ => ⟨hk_.1.1, hk_.1.2.1, hk_.1.2.2.1, hk_.1.2.2.2.1, hk_.1.2.2.2.2.1, hk_.1.2.2.2.2.2.1, hk_.1.2.2.2.2.2.2.1, hk_.1.2.2.2.2.2.2.2, fun e_ => Or.elim (ho0.1 k_ e_.symm) (fun hs_ => hk_.2.1 hs_) (fun hn_ => Nat.not_le.2 hk_.2.2 hn_)⟩)); have n11_ := am (blk_kept (bu BK324.out) hkp (fun hs_ => (fun e_ => by simp [Value.ownBlock] at e_) hs_)); have n12_ := am (Kd.R_mono (ok' := fun k_ => nb Ao42 t277.length co42 k_ ∧ nb Ao43 t284.length co43 k_ ∧ nb Ao47 t288.length co47 k_ ∧ nb Ao52 t297.length co52 k_ ∧ nb Ao57 t301.length co57 k_ ∧ nb Ao62 t310.length co62 k_ ∧ nb Ao68 t314.length co68 k_ ∧ nb Ao75 t320.length co75 k_ ∧ some k_ ≠ (v331 : Value).ownBlock) (Kd.R_keptB (HO328.out) hkp (fun k_ hk_ hs_ => (fun e_ => by simp [Value.ownBlock] at e_) hs_)) (fun k_ hk_ => ⟨hk_.1.1, hk_.1.2.1, hk_.1.2.2.1, hk_.1.2.2.2.1, hk_.1.2.2.2.2.1, hk_.1.2.2.2.2.2.1, hk_.1.2.2.2.2.2.2.1, hk_.1.2.2.2.2.2.2.2, fun e_ => Or.elim (ho0.1 k_ e_.symm) (fun hs_ => hk_.2.1 hs_) (fun hn_ => Nat.not_le.2 hk_.2.2 hn_)⟩)); have n13_ := am (Kd.R_mono (ok' := fun k_ => nb Ao42 t277.length co42 k_ ∧ nb Ao43 t284.length co43 k_ ∧ nb Ao47 t288.length co47 k_ ∧ nb Ao52 t297.length co52 k_ ∧ nb Ao57 t301.length co57 k_ ∧ nb Ao62 t310.length co62 k_ ∧ nb Ao68 t314.length co68 k_ ∧ nb Ao75 t320.length co75 k_ ∧ some k_ ≠ (v327 : Value).ownBlock) ho0 (fun k_ hk_ => ⟨Or.elim hk_ (fun hs_ => absurd hs_ (by simp [Value.ownBlock])) (fun hn_ => (Kd.fresh' (Kd.R_lt (ru (HO279.out))) k_ hn_)), Or.elim hk_ (fun hs_ => absurd hs_ (by simp [Value.ownBlock])) (fun hn_ => (Kd.fresh' (Kd.R_lt (ru (HO286.out))) k_ hn_)), Or.elim hk_ (fun hs_ => absurd hs_ (by simp [Value.ownBlock])) (fun hn_ => (Kd.fresh' (Kd.R_lt (ru (HO290.out))) k_ hn_)), Or.elim hk_ (fun hs_ => absurd hs_ (by simp [Value.ownBlock])) (fun hn_ => (Kd.fresh' (Kd.R_lt (ru (HO299.out))) k_ hn_)), Or.elim hk_ (fun hs_ => absurd hs_ (by simp [Value.ownBlock])) (fun hn_ => (Kd.fresh' (Kd.R_lt (ru (HO303.out))) k_ hn_)), Or.elim hk_ (fun hs_ => absurd hs_ (by simp [Value.ownBlock])) (fun hn_ => (Kd.fresh' (Kd.R_lt (ru (HO312.out))) k_ hn_)), Or.elim hk_ (fun hs_ => absurd hs_ (by simp [Value.ownBlock])) (fun hn_ => (Kd.fresh' (Kd.R_lt (ru (HO316.out))) k_ hn_)), Or.elim hk_ (fun hs_ => absurd hs_ (by simp [Value.ownBlock])) (fun hn_ => (Kd.fresh' (Kd.R_lt (ru (HO322.out))) k_ hn_)), Or.elim hk_ (fun hs_ => absurd hs_ (by simp [Value.ownBlock])) (fun hn_ => (Kd.fresh' (Kd.R_lt (ru (HO328.out))) k_ hn_))⟩)); have n14_ := am (hb); clear HO279; clear HO286; clear HO290; clear BK292; clear HO299; clear HO303; clear BK305; clear HO312; clear HO316; clear BK318; clear HO322; clear BK324; clear HO328; clear HB; have HO279 := n0_; have HO286 := n1_; have HO290 := n2_; have BK292 := n3_; have HO299 := n4_; have HO303 := n5_; have BK305 := n6_; have HO312 := n7_; have HO316 := n8_; have BK318 := n9_; have HO322 := n10_; have BK324 := n11_; have HO328 := n12_; have HO332 := n13_; have HB := n14_; clear n0_ n1_ n2_ n3_ n4_ n5_ n6_ n7_ n8_ n9_ n10_ n11_ n12_ n13_ n14_; (try clear hb); (try clear hkp); (try clear ho0); obtain ⟨Ao79, co79, eo79⟩ := Kd.R_slice HO328.out; subst eo79; obtain ⟨Ao80, co80, eo80⟩ := Kd.R_slice HO332.out; subst eo80) | ((with_reducible refine gate_callee (f := 27) rfl ?_); refine goesL_ (some 39) rfl rfl Try.func27 (by kernel_rfl) rfl #[.agg #[.int .u64 t325, .slice Ao79 t326.length co79], .agg #[.int .u64 t329, .slice Ao80 t330.length co80]] rfl (by (try simp only [List.map_toArray, List.map_cons, List.map_nil]); first | done | rfl | (simp only [List.length_drop, List.length_take]; rfl)) ?_; (with_reducible refine (setops_Like.calls t325 _ _ t326 t329 _ _ t330 t333 t334 _ ?side1 ?side2 ?side3 ?side4 A11.out).mono ?_); (case side1 => repeat (first | exact (Kd.R_reads' HO328.out).2.2 | (with_reducible refine Kd.C_alloc ?_ _) | (with_reducible refine Kd.C_drewN ?_ _) | (with_reducible refine Kd.C_drew ?_))); (case side2 => exact (Kd.R_reads' HO328.out).2.1); (case side3 => repeat (first | exact (Kd.R_reads' HO332.out).2.2 | (with_reducible refine Kd.C_alloc ?_ _) | (with_reducible refine Kd.C_drewN ?_ _) | (with_reducible refine Kd.C_drew ?_))); (case side4 => exact (Kd.R_reads' HO332.out).2.1); rintro e w81 ⟨rfl, hb⟩; refine ⟨_, rfl, ?_⟩; have n0_ := am (Kd.R_below (ru (HO279.out)) hb); have n1_ := am (Kd.R_below (ru (HO286.out)) hb); have n2_ := am (Kd.R_below (ru (HO290.out)) hb); have n3_ := am (Kd.R_below (ru (HO299.out)) hb); have n4_ := am (Kd.R_below (ru (HO303.out)) hb); have n5_ := am (Kd.R_below (ru (HO312.out)) hb); have n6_ := am (Kd.R_below (ru (HO316.out)) hb); have n7_ := am (Kd.R_below (ru (HO322.out)) hb); have n8_ := am (Kd.R_below (ru (HO328.out)) hb); have n9_ := am (Kd.R_below (ru (HO332.out)) hb); have n10_ := am (blk_below (g := gb292) (o := .cells #[.int .u64 t287, .slice Ao47 t288.length co47] 25 (0, 0)) (bu BK292.out) hb); have n11_ := am (blk_below (g := gb305) (o := .cells #[.int .u64 t300, .slice Ao57 t301.length co57] 25 (0, 0)) (bu BK305.out) hb); have n12_ := am (blk_below (g := gb318) (o := .cells #[.int .u64 t313, .slice Ao68 t314.length co68] 25 (0, 0)) (bu BK318.out) hb); have n13_ := am (blk_below (g := gb324) (o := .cells #[.int .u64 t319, .slice Ao75 t320.length co75] 25 (0, 0)) (bu BK324.out) hb); have n14_ := am (below_step (by repeat (first | (with_reducible first | exact HB.out | apply below_alloc | apply pw_below_drewN | apply below_drew1 | refine below_set ?_ GE292.out | refine below_set ?_ GE305.out | refine below_set ?_ GE318.out | refine below_set ?_ GE324.out) | exact HB.out)) hb); clear HO279; clear HO286; clear HO290; clear HO299; clear HO303; clear HO312; clear HO316; clear HO322; clear HO328; clear HO332; clear BK292; clear BK305; clear BK318; clear BK324; clear HB; have HO279 := n0_; have HO286 := n1_; have HO290 := n2_; have HO299 := n3_; have HO303 := n4_; have HO312 := n5_; have HO316 := n6_; have HO322 := n7_; have HO328 := n8_; have HO332 := n9_; have BK292 := n10_; have BK305 := n11_; have BK318 := n12_; have BK324 := n13_; have HB := n14_; clear n0_ n1_ n2_ n3_ n4_ n5_ n6_ n7_ n8_ n9_ n10_ n11_ n12_ n13_ n14_; (try clear hb); (try clear hb2); (try clear hk); (try clear hi)))
                        have n0_ := am (Kd.R_drew HO279.out)
                        have n1_ := am (Kd.R_drew HO286.out)
                        have n2_ := am (Kd.R_drew HO290.out)
                        have n3_ := am (Kd.R_drew HO299.out)
                        have n4_ := am (Kd.R_drew HO303.out)
                        have n5_ := am (Kd.R_drew HO312.out)
                        have n6_ := am (Kd.R_drew HO316.out)
                        have n7_ := am (Kd.R_drew HO322.out)
                        have n8_ := am (Kd.R_drew HO328.out)
                        have n9_ := am (Kd.R_drew HO332.out)
                        have n10_ := am (blk_drew BK292.out)
                        have n11_ := am (blk_drew BK305.out)
                        have n12_ := am (blk_drew BK318.out)
                        have n13_ := am (blk_drew BK324.out)
                        have n14_ := am (below_drew1 HB.out)
                        clear HO279
                        clear HO286
                        clear HO290
                        clear HO299
                        clear HO303
                        clear HO312
                        clear HO316
                        clear HO322
                        clear HO328
                        clear HO332
                        clear BK292
                        clear BK305
                        clear BK318
                        clear BK324
                        clear HB
                        have HO279 := n0_
                        have HO286 := n1_
                        have HO290 := n2_
                        have HO299 := n3_
                        have HO303 := n4_
                        have HO312 := n5_
                        have HO316 := n6_
                        have HO322 := n7_
                        have HO328 := n8_
                        have HO332 := n9_
                        have BK292 := n10_
                        have BK305 := n11_
                        have BK318 := n12_
                        have BK324 := n13_
                        have HB := n14_
                        clear n0_ n1_ n2_ n3_ n4_ n5_ n6_ n7_ n8_ n9_ n10_ n11_ n12_ n13_ n14_
                        refine start_ (n := 54) (S := fun w' => w'.cell? ⟨gb292, 0, none⟩ = some (.int .u64 t287) ∧ w'.cell? ⟨gb292, 1, none⟩ = some (.slice Ao47 t288.length co47) ∧ w'.cell? ⟨gb318, 0, none⟩ = some (.int .u64 t313) ∧ w'.cell? ⟨gb318, 1, none⟩ = some (.slice Ao68 t314.length co68)) (ds := []) (tb 0 54) (by kernel_rfl) rfl rfl ⟨(blk_cell BK292.out 0).trans rfl, (blk_cell BK292.out 1).trans rfl, (blk_cell BK318.out 0).trans rfl, (blk_cell BK318.out 1).trans rfl⟩ (fun hHeld => ?_); refine with_tabW tallymanlaw17_SetopsNames.tab6 tallymanlaw17_SetopsNames.bits6 (fun HT_ HW_ => ?_)
                        generalize w81.drew = w82 at HO279 HO286 HO290 HO299 HO303 HO312 HO316 HO322 HO328 HO332 BK292 BK305 BK318 BK324 HB hHeld ⊢
                        refine one_ (i := 0) (N := some 42) (tb 1 54) rfl rfl (one_of HT_.out (by kernel_rfl)) (by decide) (fun K hK => ?_)
                        refine goes_ Try.func15 (by kernel_rfl) rfl #[] (by rfl) rfl rfl (by (try simp only [List.map_toArray, List.map_cons, List.map_nil]); first | done | rfl | (simp only [List.length_drop, List.length_take]; rfl)) ?_
                        with_reducible refine (tallymanlaw17_lives.calls k  true _ A12.out).mono ?_
                        rintro e w83 ⟨rfl, hb⟩
                        refine ⟨_, rfl, ?_⟩
                        have n0_ := am (Kd.R_below (ru (HO279.out)) hb)
                        have n1_ := am (Kd.R_below (ru (HO286.out)) hb)
                        have n2_ := am (Kd.R_below (ru (HO290.out)) hb)
                        have n3_ := am (Kd.R_below (ru (HO299.out)) hb)
                        have n4_ := am (Kd.R_below (ru (HO303.out)) hb)
                        have n5_ := am (Kd.R_below (ru (HO312.out)) hb)
                        have n6_ := am (Kd.R_below (ru (HO316.out)) hb)
                        have n7_ := am (Kd.R_below (ru (HO322.out)) hb)
                        have n8_ := am (Kd.R_below (ru (HO328.out)) hb)
                        have n9_ := am (Kd.R_below (ru (HO332.out)) hb)
                        have n10_ := am (blk_below (g := gb292) (o := .cells #[.int .u64 t287, .slice Ao47 t288.length co47] 25 (0, 0)) (bu BK292.out) hb)
                        have n11_ := am (blk_below (g := gb305) (o := .cells #[.int .u64 t300, .slice Ao57 t301.length co57] 25 (0, 0)) (bu BK305.out) hb)
                        have n12_ := am (blk_below (g := gb318) (o := .cells #[.int .u64 t313, .slice Ao68 t314.length co68] 25 (0, 0)) (bu BK318.out) hb)
                        have n13_ := am (blk_below (g := gb324) (o := .cells #[.int .u64 t319, .slice Ao75 t320.length co75] 25 (0, 0)) (bu BK324.out) hb)
                        have n14_ := am (below_step (by repeat (first | (with_reducible first | exact HB.out | apply below_alloc | apply pw_below_drewN | apply below_drew1 | refine below_set ?_ GE292.out | refine below_set ?_ GE305.out | refine below_set ?_ GE318.out | refine below_set ?_ GE324.out) | exact HB.out)) hb)
                        clear HO279
                        clear HO286
                        clear HO290
                        clear HO299
                        clear HO303
                        clear HO312
                        clear HO316
                        clear HO322
                        clear HO328
                        clear HO332
                        clear BK292
                        clear BK305
                        clear BK318
                        clear BK324
                        clear HB
                        have HO279 := n0_
                        have HO286 := n1_
                        have HO290 := n2_
                        have HO299 := n3_
                        have HO303 := n4_
                        have HO312 := n5_
                        have HO316 := n6_
                        have HO322 := n7_
                        have HO328 := n8_
                        have HO332 := n9_
                        have BK292 := n10_
                        have BK305 := n11_
                        have BK318 := n12_
                        have BK324 := n13_
                        have HB := n14_
                        clear n0_ n1_ n2_ n3_ n4_ n5_ n6_ n7_ n8_ n9_ n10_ n11_ n12_ n13_ n14_
                        (try clear hb)
                        (try clear hb2)
                        (try clear hk)
                        (try clear hi)
                        refine hK.out _ _ ⟨(blk_cell BK292.out 0).trans rfl, (blk_cell BK292.out 1).trans rfl, (blk_cell BK318.out 0).trans rfl, (blk_cell BK318.out 1).trans rfl⟩ (fun hHeld => ?_)
                        clear hK K
                        refine norm_ (a' := ?_) ?_ ?_
                        rotate_left
                        · show Act.put _ (some 42) _ = _
                          simp only [Act.put, List.setIfInBounds_toArray, List.set_cons_zero, List.set_cons_succ, i64_w, i32_w]
                          rfl
                        refine pure_ (i := 1) (N := some 43) (v := ?_) (a' := ?_) (tb 2 54) rfl rfl (any_of HT_.out (by kernel_rfl)) (fun _ _ _ h => h) (Or.inl ⟨by rfl, ?_⟩) ?_ ?_
                        rotate_left
                        · intro w'
                          go_simp
                          with_reducible rfl
                        rotate_left
                        · simp only [Act.put, List.setIfInBounds_toArray, List.set_cons_zero, List.set_cons_succ, i64_w, i32_w]
                          rfl
                        refine pure_ (i := 2) (N := some 44) (v := ?_) (a' := ?_) (tb 3 54) rfl rfl (any_of HT_.out (by kernel_rfl)) (fun _ _ _ h => h) (Or.inl ⟨by rfl, ?_⟩) ?_ ?_
                        rotate_left
                        · intro w'
                          go_simp
                          with_reducible rfl
                        rotate_left
                        · simp only [Act.put, List.setIfInBounds_toArray, List.set_cons_zero, List.set_cons_succ, i64_w, i32_w]
                          rfl
                        refine pure_ (i := 3) (N := some 45) (v := ?_) (a' := ?_) (tb 4 54) rfl rfl (any_of HT_.out (by kernel_rfl)) (fun _ _ _ h => h) (Or.inl ⟨by rfl, ?_⟩) ?_ ?_
                        rotate_left
                        · intro w'
                          go_simp
                          with_reducible rfl
                        rotate_left
                        · simp only [Act.put, List.setIfInBounds_toArray, List.set_cons_zero, List.set_cons_succ, i64_w, i32_w]
                          rfl
                        refine pure_ (i := 4) (N := some 46) (v := ?_) (a' := ?_) (tb 5 54) rfl rfl (any_of HT_.out (by kernel_rfl)) (fun _ _ _ h => h) (Or.inl ⟨by rfl, ?_⟩) ?_ ?_
                        rotate_left
                        · intro w'
                          go_simp
                          with_reducible rfl
                        rotate_left
                        · simp only [Act.put, List.setIfInBounds_toArray, List.set_cons_zero, List.set_cons_succ, i64_w, i32_w]
                          rfl
                        refine pure_ (i := 5) (N := some 47) (v := ?_) (a' := ?_) (tb 6 54) rfl rfl (any_of HT_.out (by kernel_rfl)) (fun _ _ _ h => h) (Or.inl ⟨by rfl, ?_⟩) ?_ ?_
                        rotate_left
                        · intro w'
                          go_simp
                          with_reducible rfl
                        rotate_left
                        · simp only [Act.put, List.setIfInBounds_toArray, List.set_cons_zero, List.set_cons_succ, i64_w, i32_w]
                          rfl
                        refine take_ (i := 6) (N := some 48) (v := ?_) (a' := ?_) (tb 7 54) rfl rfl (take_ofW HT_.out HW_.out (by kernel_rfl)) (fun _ _ _ h => h) (Or.inl ⟨by rfl, ?_⟩) hHeld ?_ ?_
                        rotate_left
                        · rintro w' ⟨s0, s1, s2, s3⟩
                          go_simp
                          with_reducible rfl
                        rotate_left
                        · simp only [Act.put, List.setIfInBounds_toArray, List.set_cons_zero, List.set_cons_succ, i64_w, i32_w]
                          rfl
                        refine one_ (i := 7) (N := some 49) (tb 8 54) rfl rfl (one_of HT_.out (by kernel_rfl)) (by decide) (fun K hK => ?_)
                        refine Kd.R_lit_step (Kd.int .u64) _ 22 ?hg (N := 49) ?hd (xs := ([1, 4, 5] : List Int)) (inner := [.int .u64 1, .int .u64 4, .int .u64 5]) (ok := fun _ => True) (okp := fun _ => True) ?hr ?hp (fun _ hk => hk) trivial (Below.refl _ _) (Nat.le_refl _) (by simp) ?_; (case hd => rfl); (case hg => rfl); (case hr => first | (go_simp; done) | (go_simp; rfl)); (case hp => exact (Reps.one (show Kd.M (Kd.int .u64) _ _ _ 1 [.int .u64 1] from rfl) (Reps.one (show Kd.M (Kd.int .u64) _ _ _ 4 [.int .u64 4] from rfl) (Reps.one (show Kd.M (Kd.int .u64) _ _ _ 5 [.int .u64 5] from rfl) (Reps.none _ _)))))
                        intro v337 w84 ho85 hb hg_ hnew_
                        clear hg_ hnew_
                        (first | rw [← Ny336.out] at ho85 | (simp only [Int.reduceToNat] at ho85; rw [← Ny336.out] at ho85))
                        have n0_ := am (Kd.R_elder' (ru (HO279.out)) (Kd.R_base ho85) hb)
                        have n1_ := am (Kd.R_elder' (ru (HO286.out)) (Kd.R_base ho85) hb)
                        have n2_ := am (Kd.R_elder' (ru (HO290.out)) (Kd.R_base ho85) hb)
                        have n3_ := am (Kd.R_elder' (ru (HO299.out)) (Kd.R_base ho85) hb)
                        have n4_ := am (Kd.R_elder' (ru (HO303.out)) (Kd.R_base ho85) hb)
                        have n5_ := am (Kd.R_elder' (ru (HO312.out)) (Kd.R_base ho85) hb)
                        have n6_ := am (Kd.R_elder' (ru (HO316.out)) (Kd.R_base ho85) hb)
                        have n7_ := am (Kd.R_elder' (ru (HO322.out)) (Kd.R_base ho85) hb)
                        have n8_ := am (Kd.R_elder' (ru (HO328.out)) (Kd.R_base ho85) hb)
                        have n9_ := am (Kd.R_elder' (ru (HO332.out)) (Kd.R_base ho85) hb)
                        have n10_ := am (Kd.R_lower (Kd.R_new' (Kd.R_new' (Kd.R_new' (Kd.R_new' (Kd.R_new' (Kd.R_new' (Kd.R_new' (Kd.R_new' (Kd.R_new' (Kd.R_new' ho85 (Kd.R_lt (ru (HO279.out)))) (Kd.R_lt (ru (HO286.out)))) (Kd.R_lt (ru (HO290.out)))) (Kd.R_lt (ru (HO299.out)))) (Kd.R_lt (ru (HO303.out)))) (Kd.R_lt (ru (HO312.out)))) (Kd.R_lt (ru (HO316.out)))) (Kd.R_lt (ru (HO322.out)))) (Kd.R_lt (ru (HO328.out)))) (Kd.R_lt (ru (HO332.out)))) (below_size (by repeat (first | (with_reducible first | exact HB.out | apply below_alloc | apply pw_below_drewN | apply below_drew1 | refine below_set ?_ GE292.out | refine below_set ?_ GE305.out | refine below_set ?_ GE318.out | refine below_set ?_ GE324.out) | exact HB.out))))
                        have n11_ := am (blk_below (g := gb292) (o := .cells #[.int .u64 t287, .slice Ao47 t288.length co47] 25 (0, 0)) (bu BK292.out) hb)
                        have n12_ := am (blk_below (g := gb305) (o := .cells #[.int .u64 t300, .slice Ao57 t301.length co57] 25 (0, 0)) (bu BK305.out) hb)
                        have n13_ := am (blk_below (g := gb318) (o := .cells #[.int .u64 t313, .slice Ao68 t314.length co68] 25 (0, 0)) (bu BK318.out) hb)
                        have n14_ := am (blk_below (g := gb324) (o := .cells #[.int .u64 t319, .slice Ao75 t320.length co75] 25 (0, 0)) (bu BK324.out) hb)
                        have n15_ := am (below_step (by repeat (first | (with_reducible first | exact HB.out | apply below_alloc | apply pw_below_drewN | apply below_drew1 | refine below_set ?_ GE292.out | refine below_set ?_ GE305.out | refine below_set ?_ GE318.out | refine below_set ?_ GE324.out) | exact HB.out)) hb)
                        clear HO279
                        clear HO286
                        clear HO290
                        clear HO299
                        clear HO303
                        clear HO312
                        clear HO316
                        clear HO322
                        clear HO328
                        clear HO332
                        clear BK292
                        clear BK305
                        clear BK318
                        clear BK324
                        clear HB
                        have HO279 := n0_
                        have HO286 := n1_
                        have HO290 := n2_
                        have HO299 := n3_
                        have HO303 := n4_
                        have HO312 := n5_
                        have HO316 := n6_
                        have HO322 := n7_
                        have HO328 := n8_
                        have HO332 := n9_
                        have HO338 := n10_
                        have BK292 := n11_
                        have BK305 := n12_
                        have BK318 := n13_
                        have BK324 := n14_
                        have HB := n15_
                        clear n0_ n1_ n2_ n3_ n4_ n5_ n6_ n7_ n8_ n9_ n10_ n11_ n12_ n13_ n14_ n15_
                        clear hb ho85
                        obtain ⟨Ao86, co86, eo86⟩ := Kd.R_slice HO338.out
                        (first | subst eo86 | (injection eo86 with f1_ f2_ f3_; have f4_ := f1_.symm; have f5_ := f3_.symm; clear f1_ f2_ f3_; subst f4_; subst f5_))
                        refine hK.out _ _ ⟨(blk_cell BK292.out 0).trans rfl, (blk_cell BK292.out 1).trans rfl, (blk_cell BK318.out 0).trans rfl, (blk_cell BK318.out 1).trans rfl⟩ (fun hHeld => ?_)
                        clear hK K
                        refine norm_ (a' := ?_) ?_ ?_
                        rotate_left
                        · show Act.put _ (some 49) _ = _
                          simp only [Act.put, List.setIfInBounds_toArray, List.set_cons_zero, List.set_cons_succ, i64_w, i32_w]
                          rfl
                        refine one_ (i := 8) (N := some 50) (tb 9 54) rfl rfl (one_of HT_.out (by kernel_rfl)) (by decide) (fun K hK => ?_)
                        refine goes_ Try.func29 (by kernel_rfl) rfl #[.int .u64 6, .slice Ao86 y336.length co86] (by rfl) rfl rfl (by (try simp only [List.map_toArray, List.map_cons, List.map_nil]); first | done | rfl | (simp only [List.length_drop, List.length_take]; rfl)) ?_
                        with_reducible refine (tallymanlaw17_view.calls 6 (fun k_ => some k_ = (.slice Ao86 y336.length co86 : Value).ownBlock) (.slice Ao86 y336.length co86) y336 t339 t340 w _ ?side1 ?side2 A15.out).mono ?_
                        (case side1 => repeat (first | (with_reducible first | exact HB.out | apply below_alloc | apply pw_below_drewN | apply below_drew1 | refine below_set ?_ GE292.out | refine below_set ?_ GE305.out | refine below_set ?_ GE318.out | refine below_set ?_ GE324.out) | exact HB.out))
                        (case side2 => exact Kd.R_tight rfl HO338.out)
                        rintro e w87 ⟨v341, rfl, ho0, hb, hkp⟩
                        refine ⟨_, rfl, ?_⟩
                        have n0_ := am (Kd.R_mono (ok' := fun k_ => nb Ao43 t284.length co43 k_ ∧ nb Ao47 t288.length co47 k_ ∧ nb Ao52 t297.length co52 k_ ∧ nb Ao57 t301.length co57 k_ ∧ nb Ao62 t310.length co62 k_ ∧ nb Ao68 t314.length co68 k_ ∧ nb Ao75 t320.length co75 k_ ∧ nb Ao79 t326.length co79 k_ ∧ nb Ao80 t330.length co80 k_ ∧ some k_ ≠ (v341 : Value).ownBlock) (Kd.R_keptB (HO279.out) hkp (fun k_ hk_ hs_ => (hk_.2) hs_)) (fun k_ hk_ => ⟨hk_.1.1.1, hk_.1.1.2.1, hk_.1.1.2.2.1, hk_.1.1.2.2.2.1, hk_.1.1.2.2.2.2.1, hk_.1.1.2.2.2.2.2.1, hk_.1.1.2.2.2.2.2.2.1, hk_.1.1.2.2.2.2.2.2.2.1, hk_.1.1.2.2.2.2.2.2.2.2, fun e_ => Or.elim (ho0.1 k_ e_.symm) (fun hs_ => hk_.2.1 hs_) (fun hn_ => Nat.not_le.2 hk_.2.2 hn_)⟩))
                        have n1_ := am (Kd.R_mono (ok' := fun k_ => nb Ao42 t277.length co42 k_ ∧ nb Ao47 t288.length co47 k_ ∧ nb Ao52 t297.length co52 k_ ∧ nb Ao57 t301.length co57 k_ ∧ nb Ao62 t310.length co62 k_ ∧ nb Ao68 t314.length co68 k_ ∧ nb Ao75 t320.length co75 k_ ∧ nb Ao79 t326.length co79 k_ ∧ nb Ao80 t330.length co80 k_ ∧ some k_ ≠ (v341 : Value).ownBlock) (Kd.R_keptB (HO286.out) hkp (fun k_ hk_ hs_ => (hk_.2) hs_)) (fun k_ hk_ => ⟨hk_.1.1.1, hk_.1.1.2.1, hk_.1.1.2.2.1, hk_.1.1.2.2.2.1, hk_.1.1.2.2.2.2.1, hk_.1.1.2.2.2.2.2.1, hk_.1.1.2.2.2.2.2.2.1, hk_.1.1.2.2.2.2.2.2.2.1, hk_.1.1.2.2.2.2.2.2.2.2, fun e_ => Or.elim (ho0.1 k_ e_.symm) (fun hs_ => hk_.2.1 hs_) (fun hn_ => Nat.not_le.2 hk_.2.2 hn_)⟩))
                        have n2_ := am (Kd.R_mono (ok' := fun k_ => nb Ao42 t277.length co42 k_ ∧ nb Ao43 t284.length co43 k_ ∧ nb Ao52 t297.length co52 k_ ∧ nb Ao57 t301.length co57 k_ ∧ nb Ao62 t310.length co62 k_ ∧ nb Ao68 t314.length co68 k_ ∧ nb Ao75 t320.length co75 k_ ∧ nb Ao79 t326.length co79 k_ ∧ nb Ao80 t330.length co80 k_ ∧ some k_ ≠ (v341 : Value).ownBlock) (Kd.R_keptB (HO290.out) hkp (fun k_ hk_ hs_ => (hk_.2) hs_)) (fun k_ hk_ => ⟨hk_.1.1.1, hk_.1.1.2.1, hk_.1.1.2.2.1, hk_.1.1.2.2.2.1, hk_.1.1.2.2.2.2.1, hk_.1.1.2.2.2.2.2.1, hk_.1.1.2.2.2.2.2.2.1, hk_.1.1.2.2.2.2.2.2.2.1, hk_.1.1.2.2.2.2.2.2.2.2, fun e_ => Or.elim (ho0.1 k_ e_.symm) (fun hs_ => hk_.2.1 hs_) (fun hn_ => Nat.not_le.2 hk_.2.2 hn_)⟩))
                        have n3_ := am (blk_kept (bu BK292.out) hkp (fun hs_ => (fun e_ => (Kd.R_ne HO338.out BK292.out (by decide)) e_) hs_))
                        have n4_ := am (Kd.R_mono (ok' := fun k_ => nb Ao42 t277.length co42 k_ ∧ nb Ao43 t284.length co43 k_ ∧ nb Ao47 t288.length co47 k_ ∧ nb Ao57 t301.length co57 k_ ∧ nb Ao62 t310.length co62 k_ ∧ nb Ao68 t314.length co68 k_ ∧ nb Ao75 t320.length co75 k_ ∧ nb Ao79 t326.length co79 k_ ∧ nb Ao80 t330.length co80 k_ ∧ some k_ ≠ (v341 : Value).ownBlock) (Kd.R_keptB (HO299.out) hkp (fun k_ hk_ hs_ => (hk_.2) hs_)) (fun k_ hk_ => ⟨hk_.1.1.1, hk_.1.1.2.1, hk_.1.1.2.2.1, hk_.1.1.2.2.2.1, hk_.1.1.2.2.2.2.1, hk_.1.1.2.2.2.2.2.1, hk_.1.1.2.2.2.2.2.2.1, hk_.1.1.2.2.2.2.2.2.2.1, hk_.1.1.2.2.2.2.2.2.2.2, fun e_ => Or.elim (ho0.1 k_ e_.symm) (fun hs_ => hk_.2.1 hs_) (fun hn_ => Nat.not_le.2 hk_.2.2 hn_)⟩))
                        have n5_ := am (Kd.R_mono (ok' := fun k_ => nb Ao42 t277.length co42 k_ ∧ nb Ao43 t284.length co43 k_ ∧ nb Ao47 t288.length co47 k_ ∧ nb Ao52 t297.length co52 k_ ∧ nb Ao62 t310.length co62 k_ ∧ nb Ao68 t314.length co68 k_ ∧ nb Ao75 t320.length co75 k_ ∧ nb Ao79 t326.length co79 k_ ∧ nb Ao80 t330.length co80 k_ ∧ some k_ ≠ (v341 : Value).ownBlock) (Kd.R_keptB (HO303.out) hkp (fun k_ hk_ hs_ => (hk_.2) hs_)) (fun k_ hk_ => ⟨hk_.1.1.1, hk_.1.1.2.1, hk_.1.1.2.2.1, hk_.1.1.2.2.2.1, hk_.1.1.2.2.2.2.1, hk_.1.1.2.2.2.2.2.1, hk_.1.1.2.2.2.2.2.2.1, hk_.1.1.2.2.2.2.2.2.2.1, hk_.1.1.2.2.2.2.2.2.2.2, fun e_ => Or.elim (ho0.1 k_ e_.symm) (fun hs_ => hk_.2.1 hs_) (fun hn_ => Nat.not_le.2 hk_.2.2 hn_)⟩))
                        have n6_ := am (blk_kept (bu BK305.out) hkp (fun hs_ => (fun e_ => (Kd.R_ne HO338.out BK305.out (by decide)) e_) hs_))
                        have n7_ := am (Kd.R_mono (ok' := fun k_ => nb Ao42 t277.length co42 k_ ∧ nb Ao43 t284.length co43 k_ ∧ nb Ao47 t288.length co47 k_ ∧ nb Ao52 t297.length co52 k_ ∧ nb Ao57 t301.length co57 k_ ∧ nb Ao68 t314.length co68 k_ ∧ nb Ao75 t320.length co75 k_ ∧ nb Ao79 t326.length co79 k_ ∧ nb Ao80 t330.length co80 k_ ∧ some k_ ≠ (v341 : Value).ownBlock) (Kd.R_keptB (HO312.out) hkp (fun k_ hk_ hs_ => (hk_.2) hs_)) (fun k_ hk_ => ⟨hk_.1.1.1, hk_.1.1.2.1, hk_.1.1.2.2.1, hk_.1.1.2.2.2.1, hk_.1.1.2.2.2.2.1, hk_.1.1.2.2.2.2.2.1, hk_.1.1.2.2.2.2.2.2.1, hk_.1.1.2.2.2.2.2.2.2.1, hk_.1.1.2.2.2.2.2.2.2.2, fun e_ => Or.elim (ho0.1 k_ e_.symm) (fun hs_ => hk_.2.1 hs_) (fun hn_ => Nat.not_le.2 hk_.2.2 hn_)⟩))
                        have n8_ := am (Kd.R_mono (ok' := fun k_ => nb Ao42 t277.length co42 k_ ∧ nb Ao43 t284.length co43 k_ ∧ nb Ao47 t288.length co47 k_ ∧ nb Ao52 t297.length co52 k_ ∧ nb Ao57 t301.length co57 k_ ∧ nb Ao62 t310.length co62 k_ ∧ nb Ao75 t320.length co75 k_ ∧ nb Ao79 t326.length co79 k_ ∧ nb Ao80 t330.length co80 k_ ∧ some k_ ≠ (v341 : Value).ownBlock) (Kd.R_keptB (HO316.out) hkp (fun k_ hk_ hs_ => (hk_.2) hs_)) (fun k_ hk_ => ⟨hk_.1.1.1, hk_.1.1.2.1, hk_.1.1.2.2.1, hk_.1.1.2.2.2.1, hk_.1.1.2.2.2.2.1, hk_.1.1.2.2.2.2.2.1, hk_.1.1.2.2.2.2.2.2.1, hk_.1.1.2.2.2.2.2.2.2.1, hk_.1.1.2.2.2.2.2.2.2.2, fun e_ => Or.elim (ho0.1 k_ e_.symm) (fun hs_ => hk_.2.1 hs_) (fun hn_ => Nat.not_le.2 hk_.2.2 hn_)⟩))
                        have n9_ := am (blk_kept (bu BK318.out) hkp (fun hs_ => (fun e_ => (Kd.R_ne HO338.out BK318.out (by decide)) e_) hs_))
                        have n10_ := am (Kd.R_mono (ok' := fun k_ => nb Ao42 t277.length co42 k_ ∧ nb Ao43 t284.length co43 k_ ∧ nb Ao47 t288.length co47 k_ ∧ nb Ao52 t297.length co52 k_ ∧ nb Ao57 t301.length co57 k_ ∧ nb Ao62 t310.length co62 k_ ∧ nb Ao68 t314.length co68 k_ ∧ nb Ao79 t326.length co79 k_ ∧ nb Ao80 t330.length co80 k_ ∧ some k_ ≠ (v341 : Value).ownBlock) (Kd.R_keptB (HO322.out) hkp (fun k_ hk_ hs_ => (hk_.2) hs_)) (fun k_ hk_ => ⟨hk_.1.1.1, hk_.1.1.2.1, hk_.1.1.2.2.1, hk_.1.1.2.2.2.1, hk_.1.1.2.2.2.2.1, hk_.1.1.2.2.2.2.2.1, hk_.1.1.2.2.2.2.2.2.1, hk_.1.1.2.2.2.2.2.2.2.1, hk_.1.1.2.2.2.2.2.2.2.2, fun e_ => Or.elim (ho0.1 k_ e_.symm) (fun hs_ => hk_.2.1 hs_) (fun hn_ => Nat.not_le.2 hk_.2.2 hn_)⟩))
                        have n11_ := am (blk_kept (bu BK324.out) hkp (fun hs_ => (fun e_ => (Kd.R_ne HO338.out BK324.out (by decide)) e_) hs_))
                        have n12_ := am (Kd.R_mono (ok' := fun k_ => nb Ao42 t277.length co42 k_ ∧ nb Ao43 t284.length co43 k_ ∧ nb Ao47 t288.length co47 k_ ∧ nb Ao52 t297.length co52 k_ ∧ nb Ao57 t301.length co57 k_ ∧ nb Ao62 t310.length co62 k_ ∧ nb Ao68 t314.length co68 k_ ∧ nb Ao75 t320.length co75 k_ ∧ nb Ao80 t330.length co80 k_ ∧ some k_ ≠ (v341 : Value).ownBlock) (Kd.R_keptB (HO328.out) hkp (fun k_ hk_ hs_ => (hk_.2) hs_)) (fun k_ hk_ => ⟨hk_.1.1.1, hk_.1.1.2.1, hk_.1.1.2.2.1, hk_.1.1.2.2.2.1, hk_.1.1.2.2.2.2.1, hk_.1.1.2.2.2.2.2.1, hk_.1.1.2.2.2.2.2.2.1, hk_.1.1.2.2.2.2.2.2.2.1, hk_.1.1.2.2.2.2.2.2.2.2, fun e_ => Or.elim (ho0.1 k_ e_.symm) (fun hs_ => hk_.2.1 hs_) (fun hn_ => Nat.not_le.2 hk_.2.2 hn_)⟩))
                        have n13_ := am (Kd.R_mono (ok' := fun k_ => nb Ao42 t277.length co42 k_ ∧ nb Ao43 t284.length co43 k_ ∧ nb Ao47 t288.length co47 k_ ∧ nb Ao52 t297.length co52 k_ ∧ nb Ao57 t301.length co57 k_ ∧ nb Ao62 t310.length co62 k_ ∧ nb Ao68 t314.length co68 k_ ∧ nb Ao75 t320.length co75 k_ ∧ nb Ao79 t326.length co79 k_ ∧ some k_ ≠ (v341 : Value).ownBlock) (Kd.R_keptB (HO332.out) hkp (fun k_ hk_ hs_ => (hk_.2) hs_)) (fun k_ hk_ => ⟨hk_.1.1.1, hk_.1.1.2.1, hk_.1.1.2.2.1, hk_.1.1.2.2.2.1, hk_.1.1.2.2.2.2.1, hk_.1.1.2.2.2.2.2.1, hk_.1.1.2.2.2.2.2.2.1, hk_.1.1.2.2.2.2.2.2.2.1, hk_.1.1.2.2.2.2.2.2.2.2, fun e_ => Or.elim (ho0.1 k_ e_.symm) (fun hs_ => hk_.2.1 hs_) (fun hn_ => Nat.not_le.2 hk_.2.2 hn_)⟩))
                        have n14_ := am (Kd.R_mono (ok' := fun k_ => nb Ao42 t277.length co42 k_ ∧ nb Ao43 t284.length co43 k_ ∧ nb Ao47 t288.length co47 k_ ∧ nb Ao52 t297.length co52 k_ ∧ nb Ao57 t301.length co57 k_ ∧ nb Ao62 t310.length co62 k_ ∧ nb Ao68 t314.length co68 k_ ∧ nb Ao75 t320.length co75 k_ ∧ nb Ao79 t326.length co79 k_ ∧ nb Ao80 t330.length co80 k_) ho0 (fun k_ hk_ => ⟨Or.elim hk_ (fun hs_ => fun e_ => (((HO279.out).1 k_ e_.symm).2) hs_) (fun hn_ => (Kd.fresh' (Kd.R_lt (ru (HO279.out))) k_ hn_)), Or.elim hk_ (fun hs_ => fun e_ => (((HO286.out).1 k_ e_.symm).2) hs_) (fun hn_ => (Kd.fresh' (Kd.R_lt (ru (HO286.out))) k_ hn_)), Or.elim hk_ (fun hs_ => fun e_ => (((HO290.out).1 k_ e_.symm).2) hs_) (fun hn_ => (Kd.fresh' (Kd.R_lt (ru (HO290.out))) k_ hn_)), Or.elim hk_ (fun hs_ => fun e_ => (((HO299.out).1 k_ e_.symm).2) hs_) (fun hn_ => (Kd.fresh' (Kd.R_lt (ru (HO299.out))) k_ hn_)), Or.elim hk_ (fun hs_ => fun e_ => (((HO303.out).1 k_ e_.symm).2) hs_) (fun hn_ => (Kd.fresh' (Kd.R_lt (ru (HO303.out))) k_ hn_)), Or.elim hk_ (fun hs_ => fun e_ => (((HO312.out).1 k_ e_.symm).2) hs_) (fun hn_ => (Kd.fresh' (Kd.R_lt (ru (HO312.out))) k_ hn_)), Or.elim hk_ (fun hs_ => fun e_ => (((HO316.out).1 k_ e_.symm).2) hs_) (fun hn_ => (Kd.fresh' (Kd.R_lt (ru (HO316.out))) k_ hn_)), Or.elim hk_ (fun hs_ => fun e_ => (((HO322.out).1 k_ e_.symm).2) hs_) (fun hn_ => (Kd.fresh' (Kd.R_lt (ru (HO322.out))) k_ hn_)), Or.elim hk_ (fun hs_ => fun e_ => (((HO328.out).1 k_ e_.symm).2) hs_) (fun hn_ => (Kd.fresh' (Kd.R_lt (ru (HO328.out))) k_ hn_)), Or.elim hk_ (fun hs_ => fun e_ => (((HO332.out).1 k_ e_.symm).2) hs_) (fun hn_ => (Kd.fresh' (Kd.R_lt (ru (HO332.out))) k_ hn_))⟩))
                        have n15_ := am (hb)
                        clear HO279
                        clear HO286
                        clear HO290
                        clear BK292
                        clear HO299
                        clear HO303
                        clear BK305
                        clear HO312
                        clear HO316
                        clear BK318
                        clear HO322
                        clear BK324
                        clear HO328
                        clear HO332
                        clear HB
                        clear HO338
                        have HO279 := n0_
                        have HO286 := n1_
                        have HO290 := n2_
                        have BK292 := n3_
                        have HO299 := n4_
                        have HO303 := n5_
                        have BK305 := n6_
                        have HO312 := n7_
                        have HO316 := n8_
                        have BK318 := n9_
                        have HO322 := n10_
                        have BK324 := n11_
                        have HO328 := n12_
                        have HO332 := n13_
                        have HO342 := n14_
                        have HB := n15_
                        clear n0_ n1_ n2_ n3_ n4_ n5_ n6_ n7_ n8_ n9_ n10_ n11_ n12_ n13_ n14_ n15_
                        (try clear hb)
                        (try clear hkp)
                        (try clear ho0)
                        obtain ⟨Ao88, co88, eo88⟩ := Kd.R_slice HO342.out
                        (first | subst eo88 | (injection eo88 with f1_ f2_ f3_; have f4_ := f1_.symm; have f5_ := f3_.symm; clear f1_ f2_ f3_; subst f4_; subst f5_))
                        refine hK.out _ _ ⟨(blk_cell BK292.out 0).trans rfl, (blk_cell BK292.out 1).trans rfl, (blk_cell BK318.out 0).trans rfl, (blk_cell BK318.out 1).trans rfl⟩ (fun hHeld => ?_)
                        clear hK K
                        refine norm_ (a' := ?_) ?_ ?_
                        rotate_left
                        · show Act.put _ (some 50) _ = _
                          simp only [Act.put, List.setIfInBounds_toArray, List.set_cons_zero, List.set_cons_succ, i64_w, i32_w]
                          rfl
                        refine one_ (i := 9) (N := some 51) (tb 10 54) rfl rfl (one_of HT_.out (by kernel_rfl)) (by decide) (fun K hK => ?_)
                        refine goes_ Try.func30 (by kernel_rfl) rfl #[.agg #[.int .u64 t287, .slice Ao47 t288.length co47], .agg #[.int .u64 t339, .slice Ao88 t340.length co88]] (by rfl) rfl rfl (by (try simp only [List.map_toArray, List.map_cons, List.map_nil]); first | done | rfl | (simp only [List.length_drop, List.length_take]; rfl)) ?_
                        with_reducible refine (tallymankit_View.calls k t287 _ _ t288 t339 _ _ t340 true _ ?side1 ?side2 ?side3 ?side4 A16.out).mono ?_
                        (case side1 => repeat (first | exact (Kd.R_reads' HO290.out).2.2 | (with_reducible refine Kd.C_alloc ?_ _) | (with_reducible refine Kd.C_drewN ?_ _) | (with_reducible refine Kd.C_drew ?_)))
                        (case side2 => exact (Kd.R_reads' HO290.out).2.1)
                        (case side3 => repeat (first | exact (Kd.R_reads' HO342.out).2.2 | (with_reducible refine Kd.C_alloc ?_ _) | (with_reducible refine Kd.C_drewN ?_ _) | (with_reducible refine Kd.C_drew ?_)))
                        (case side4 => exact (Kd.R_reads' HO342.out).2.1)
                        rintro e w89 ⟨rfl, hb⟩
                        refine ⟨_, rfl, ?_⟩
                        have n0_ := am (Kd.R_below (ru (HO279.out)) hb)
                        have n1_ := am (Kd.R_below (ru (HO286.out)) hb)
                        have n2_ := am (Kd.R_below (ru (HO290.out)) hb)
                        have n3_ := am (Kd.R_below (ru (HO299.out)) hb)
                        have n4_ := am (Kd.R_below (ru (HO303.out)) hb)
                        have n5_ := am (Kd.R_below (ru (HO312.out)) hb)
                        have n6_ := am (Kd.R_below (ru (HO316.out)) hb)
                        have n7_ := am (Kd.R_below (ru (HO322.out)) hb)
                        have n8_ := am (Kd.R_below (ru (HO328.out)) hb)
                        have n9_ := am (Kd.R_below (ru (HO332.out)) hb)
                        have n10_ := am (Kd.R_below (ru (HO342.out)) hb)
                        have n11_ := am (blk_below (g := gb292) (o := .cells #[.int .u64 t287, .slice Ao47 t288.length co47] 25 (0, 0)) (bu BK292.out) hb)
                        have n12_ := am (blk_below (g := gb305) (o := .cells #[.int .u64 t300, .slice Ao57 t301.length co57] 25 (0, 0)) (bu BK305.out) hb)
                        have n13_ := am (blk_below (g := gb318) (o := .cells #[.int .u64 t313, .slice Ao68 t314.length co68] 25 (0, 0)) (bu BK318.out) hb)
                        have n14_ := am (blk_below (g := gb324) (o := .cells #[.int .u64 t319, .slice Ao75 t320.length co75] 25 (0, 0)) (bu BK324.out) hb)
                        have n15_ := am (below_step (by repeat (first | (with_reducible first | exact HB.out | apply below_alloc | apply pw_below_drewN | apply below_drew1 | refine below_set ?_ GE292.out | refine below_set ?_ GE305.out | refine below_set ?_ GE318.out | refine below_set ?_ GE324.out) | exact HB.out)) hb)
                        clear HO279
                        clear HO286
                        clear HO290
                        clear HO299
                        clear HO303
                        clear HO312
                        clear HO316
                        clear HO322
                        clear HO328
                        clear HO332
                        clear HO342
                        clear BK292
                        clear BK305
                        clear BK318
                        clear BK324
                        clear HB
                        have HO279 := n0_
                        have HO286 := n1_
                        have HO290 := n2_
                        have HO299 := n3_
                        have HO303 := n4_
                        have HO312 := n5_
                        have HO316 := n6_
                        have HO322 := n7_
                        have HO328 := n8_
                        have HO332 := n9_
                        have HO342 := n10_
                        have BK292 := n11_
                        have BK305 := n12_
                        have BK318 := n13_
                        have BK324 := n14_
                        have HB := n15_
                        clear n0_ n1_ n2_ n3_ n4_ n5_ n6_ n7_ n8_ n9_ n10_ n11_ n12_ n13_ n14_ n15_
                        (try clear hb)
                        (try clear hb2)
                        (try clear hk)
                        (try clear hi)
                        refine hK.out _ _ ⟨(blk_cell BK292.out 0).trans rfl, (blk_cell BK292.out 1).trans rfl, (blk_cell BK318.out 0).trans rfl, (blk_cell BK318.out 1).trans rfl⟩ (fun hHeld => ?_)
                        clear hK K
                        refine norm_ (a' := ?_) ?_ ?_
                        rotate_left
                        · show Act.put _ (some 51) _ = _
                          simp only [Act.put, List.setIfInBounds_toArray, List.set_cons_zero, List.set_cons_succ, i64_w, i32_w]
                          rfl
                        refine pure_ (i := 10) (N := some 52) (v := ?_) (a' := ?_) (tb 11 54) rfl rfl (any_of HT_.out (by kernel_rfl)) (fun _ _ _ h => h) (Or.inl ⟨by rfl, ?_⟩) ?_ ?_
                        rotate_left
                        · intro w'
                          go_simp
                          with_reducible rfl
                        rotate_left
                        · simp only [Act.put, List.setIfInBounds_toArray, List.set_cons_zero, List.set_cons_succ, i64_w, i32_w]
                          rfl
                        refine pure_ (i := 11) (N := some 53) (v := ?_) (a' := ?_) (tb 12 54) rfl rfl (any_of HT_.out (by kernel_rfl)) (fun _ _ _ h => h) (Or.inl ⟨by rfl, ?_⟩) ?_ ?_
                        rotate_left
                        · intro w'
                          go_simp
                          with_reducible rfl
                        rotate_left
                        · simp only [Act.put, List.setIfInBounds_toArray, List.set_cons_zero, List.set_cons_succ, i64_w, i32_w]
                          rfl
                        refine pure_ (i := 12) (N := some 54) (v := ?_) (a' := ?_) (tb 13 54) rfl rfl (any_of HT_.out (by kernel_rfl)) (fun _ _ _ h => h) (Or.inl ⟨by rfl, ?_⟩) ?_ ?_
                        rotate_left
                        · intro w'
                          go_simp
                          with_reducible rfl
                        rotate_left
                        · simp only [Act.put, List.setIfInBounds_toArray, List.set_cons_zero, List.set_cons_succ, i64_w, i32_w]
                          rfl
                        refine pure_ (i := 13) (N := some 55) (v := ?_) (a' := ?_) (tb 14 54) rfl rfl (any_of HT_.out (by kernel_rfl)) (fun _ _ _ h => h) (Or.inl ⟨by rfl, ?_⟩) ?_ ?_
                        rotate_left
                        · intro w'
                          go_simp
                          with_reducible rfl
                        rotate_left
                        · simp only [Act.put, List.setIfInBounds_toArray, List.set_cons_zero, List.set_cons_succ, i64_w, i32_w]
                          rfl
                        refine pure_ (i := 14) (N := some 56) (v := ?_) (a' := ?_) (tb 15 54) rfl rfl (any_of HT_.out (by kernel_rfl)) (fun _ _ _ h => h) (Or.inl ⟨by rfl, ?_⟩) ?_ ?_
                        rotate_left
                        · intro w'
                          go_simp
                          with_reducible rfl
                        rotate_left
                        · simp only [Act.put, List.setIfInBounds_toArray, List.set_cons_zero, List.set_cons_succ, i64_w, i32_w]
                          rfl
                        refine pure_ (i := 15) (N := some 57) (v := ?_) (a' := ?_) (tb 16 54) rfl rfl (any_of HT_.out (by kernel_rfl)) (fun _ _ _ h => h) (Or.inl ⟨by rfl, ?_⟩) ?_ ?_
                        rotate_left
                        · intro w'
                          go_simp
                          with_reducible rfl
                        rotate_left
                        · simp only [Act.put, List.setIfInBounds_toArray, List.set_cons_zero, List.set_cons_succ, i64_w, i32_w]
                          rfl
                        refine pure_ (i := 16) (N := some 58) (v := ?_) (a' := ?_) (tb 17 54) rfl rfl (any_of HT_.out (by kernel_rfl)) (fun _ _ _ h => h) (Or.inl ⟨by rfl, ?_⟩) ?_ ?_
                        rotate_left
                        · intro w'
                          go_simp
                          with_reducible rfl
                        rotate_left
                        · simp only [Act.put, List.setIfInBounds_toArray, List.set_cons_zero, List.set_cons_succ, i64_w, i32_w]
                          rfl
                        refine pure_ (i := 17) (N := some 59) (v := ?_) (a' := ?_) (tb 18 54) rfl rfl (any_of HT_.out (by kernel_rfl)) (fun _ _ _ h => h) (Or.inl ⟨by rfl, ?_⟩) ?_ ?_
                        rotate_left
                        · intro w'
                          go_simp
                          with_reducible rfl
                        rotate_left
                        · simp only [Act.put, List.setIfInBounds_toArray, List.set_cons_zero, List.set_cons_succ, i64_w, i32_w]
                          rfl
                        refine pure_ (i := 18) (N := some 60) (v := ?_) (a' := ?_) (tb 19 54) rfl rfl (any_of HT_.out (by kernel_rfl)) (fun _ _ _ h => h) (Or.inl ⟨by rfl, ?_⟩) ?_ ?_
                        rotate_left
                        · intro w'
                          go_simp
                          with_reducible rfl
                        rotate_left
                        · simp only [Act.put, List.setIfInBounds_toArray, List.set_cons_zero, List.set_cons_succ, i64_w, i32_w]
                          rfl
                        refine pure_ (i := 19) (N := some 61) (v := ?_) (a' := ?_) (tb 20 54) rfl rfl (any_of HT_.out (by kernel_rfl)) (fun _ _ _ h => h) (Or.inl ⟨by rfl, ?_⟩) ?_ ?_
                        rotate_left
                        · intro w'
                          go_simp
                          with_reducible rfl
                        rotate_left
                        · simp only [Act.put, List.setIfInBounds_toArray, List.set_cons_zero, List.set_cons_succ, i64_w, i32_w]
                          rfl
                        refine take_ (i := 20) (N := some 62) (v := ?_) (a' := ?_) (tb 21 54) rfl rfl (take_ofW HT_.out HW_.out (by kernel_rfl)) (fun _ _ _ h => h) (Or.inl ⟨by rfl, ?_⟩) hHeld ?_ ?_
                        rotate_left
                        · rintro w' ⟨s0, s1, s2, s3⟩
                          go_simp
                          with_reducible rfl
                        rotate_left
                        · simp only [Act.put, List.setIfInBounds_toArray, List.set_cons_zero, List.set_cons_succ, i64_w, i32_w]
                          rfl
                        refine one_ (i := 21) (N := some 63) (tb 22 54) rfl rfl (one_of HT_.out (by kernel_rfl)) (by decide) (fun K hK => ?_)
                        refine Kd.R_lit_step (Kd.int .u64) _ 22 ?hg (N := 63) ?hd (xs := ([1] : List Int)) (inner := [.int .u64 1]) (ok := fun _ => True) (okp := fun _ => True) ?hr ?hp (fun _ hk => hk) trivial (Below.refl _ _) (Nat.le_refl _) (by simp) ?_; (case hd => rfl); (case hg => rfl); (case hr => first | (go_simp; done) | (go_simp; rfl)); (case hp => exact (Reps.one (show Kd.M (Kd.int .u64) _ _ _ 1 [.int .u64 1] from rfl) (Reps.none _ _)))
                        intro v345 w90 ho91 hb hg_ hnew_
                        clear hg_ hnew_
                        (first | rw [← Ny344.out] at ho91 | (simp only [Int.reduceToNat] at ho91; rw [← Ny344.out] at ho91))
                        have n0_ := am (Kd.R_elder' (ru (HO279.out)) (Kd.R_base ho91) hb)
                        have n1_ := am (Kd.R_elder' (ru (HO286.out)) (Kd.R_base ho91) hb)
                        have n2_ := am (Kd.R_elder' (ru (HO290.out)) (Kd.R_base ho91) hb)
                        have n3_ := am (Kd.R_elder' (ru (HO299.out)) (Kd.R_base ho91) hb)
                        have n4_ := am (Kd.R_elder' (ru (HO303.out)) (Kd.R_base ho91) hb)
                        have n5_ := am (Kd.R_elder' (ru (HO312.out)) (Kd.R_base ho91) hb)
                        have n6_ := am (Kd.R_elder' (ru (HO316.out)) (Kd.R_base ho91) hb)
                        have n7_ := am (Kd.R_elder' (ru (HO322.out)) (Kd.R_base ho91) hb)
                        have n8_ := am (Kd.R_elder' (ru (HO328.out)) (Kd.R_base ho91) hb)
                        have n9_ := am (Kd.R_elder' (ru (HO332.out)) (Kd.R_base ho91) hb)
                        have n10_ := am (Kd.R_elder' (ru (HO342.out)) (Kd.R_base ho91) hb)
                        have n11_ := am (Kd.R_lower (Kd.R_new' (Kd.R_new' (Kd.R_new' (Kd.R_new' (Kd.R_new' (Kd.R_new' (Kd.R_new' (Kd.R_new' (Kd.R_new' (Kd.R_new' (Kd.R_new' ho91 (Kd.R_lt (ru (HO279.out)))) (Kd.R_lt (ru (HO286.out)))) (Kd.R_lt (ru (HO290.out)))) (Kd.R_lt (ru (HO299.out)))) (Kd.R_lt (ru (HO303.out)))) (Kd.R_lt (ru (HO312.out)))) (Kd.R_lt (ru (HO316.out)))) (Kd.R_lt (ru (HO322.out)))) (Kd.R_lt (ru (HO328.out)))) (Kd.R_lt (ru (HO332.out)))) (Kd.R_lt (ru (HO342.out)))) (below_size (by repeat (first | (with_reducible first | exact HB.out | apply below_alloc | apply pw_below_drewN | apply below_drew1 | refine below_set ?_ GE292.out | refine below_set ?_ GE305.out | refine below_set ?_ GE318.out | refine below_set ?_ GE324.out) | exact HB.out))))
                        have n12_ := am (blk_below (g := gb292) (o := .cells #[.int .u64 t287, .slice Ao47 t288.length co47] 25 (0, 0)) (bu BK292.out) hb)
                        have n13_ := am (blk_below (g := gb305) (o := .cells #[.int .u64 t300, .slice Ao57 t301.length co57] 25 (0, 0)) (bu BK305.out) hb)
                        have n14_ := am (blk_below (g := gb318) (o := .cells #[.int .u64 t313, .slice Ao68 t314.length co68] 25 (0, 0)) (bu BK318.out) hb)
                        have n15_ := am (blk_below (g := gb324) (o := .cells #[.int .u64 t319, .slice Ao75 t320.length co75] 25 (0, 0)) (bu BK324.out) hb)
                        have n16_ := am (below_step (by repeat (first | (with_reducible first | exact HB.out | apply below_alloc | apply pw_below_drewN | apply below_drew1 | refine below_set ?_ GE292.out | refine below_set ?_ GE305.out | refine below_set ?_ GE318.out | refine below_set ?_ GE324.out) | exact HB.out)) hb)
                        clear HO279
                        clear HO286
                        clear HO290
                        clear HO299
                        clear HO303
                        clear HO312
                        clear HO316
                        clear HO322
                        clear HO328
                        clear HO332
                        clear HO342
                        clear BK292
                        clear BK305
                        clear BK318
                        clear BK324
                        clear HB
                        have HO279 := n0_
                        have HO286 := n1_
                        have HO290 := n2_
                        have HO299 := n3_
                        have HO303 := n4_
                        have HO312 := n5_
                        have HO316 := n6_
                        have HO322 := n7_
                        have HO328 := n8_
                        have HO332 := n9_
                        have HO342 := n10_
                        have HO346 := n11_
                        have BK292 := n12_
                        have BK305 := n13_
                        have BK318 := n14_
                        have BK324 := n15_
                        have HB := n16_
                        clear n0_ n1_ n2_ n3_ n4_ n5_ n6_ n7_ n8_ n9_ n10_ n11_ n12_ n13_ n14_ n15_ n16_
                        clear hb ho91
                        obtain ⟨Ao92, co92, eo92⟩ := Kd.R_slice HO346.out
                        (first | subst eo92 | (injection eo92 with f1_ f2_ f3_; have f4_ := f1_.symm; have f5_ := f3_.symm; clear f1_ f2_ f3_; subst f4_; subst f5_))
                        refine hK.out _ _ ⟨(blk_cell BK292.out 0).trans rfl, (blk_cell BK292.out 1).trans rfl, (blk_cell BK318.out 0).trans rfl, (blk_cell BK318.out 1).trans rfl⟩ (fun hHeld => ?_)
                        clear hK K
                        refine norm_ (a' := ?_) ?_ ?_
                        rotate_left
                        · show Act.put _ (some 63) _ = _
                          simp only [Act.put, List.setIfInBounds_toArray, List.set_cons_zero, List.set_cons_succ, i64_w, i32_w]
                          rfl
                        refine one_ (i := 22) (N := some 64) (tb 23 54) rfl rfl (one_of HT_.out (by kernel_rfl)) (by decide) (fun K hK => ?_)
                        refine goes_ Try.func29 (by kernel_rfl) rfl #[.int .u64 3, .slice Ao92 y344.length co92] (by rfl) rfl rfl (by (try simp only [List.map_toArray, List.map_cons, List.map_nil]); first | done | rfl | (simp only [List.length_drop, List.length_take]; rfl)) ?_
                        with_reducible refine (tallymanlaw17_view.calls 3 (fun k_ => some k_ = (.slice Ao92 y344.length co92 : Value).ownBlock) (.slice Ao92 y344.length co92) y344 t347 t348 w _ ?side1 ?side2 A20.out).mono ?_
                        (case side1 => repeat (first | (with_reducible first | exact HB.out | apply below_alloc | apply pw_below_drewN | apply below_drew1 | refine below_set ?_ GE292.out | refine below_set ?_ GE305.out | refine below_set ?_ GE318.out | refine below_set ?_ GE324.out) | exact HB.out))
                        (case side2 => exact Kd.R_tight rfl HO346.out)
                        rintro e w93 ⟨v349, rfl, ho0, hb, hkp⟩
                        refine ⟨_, rfl, ?_⟩
                        have n0_ := am (Kd.R_mono (ok' := fun k_ => nb Ao43 t284.length co43 k_ ∧ nb Ao47 t288.length co47 k_ ∧ nb Ao52 t297.length co52 k_ ∧ nb Ao57 t301.length co57 k_ ∧ nb Ao62 t310.length co62 k_ ∧ nb Ao68 t314.length co68 k_ ∧ nb Ao75 t320.length co75 k_ ∧ nb Ao79 t326.length co79 k_ ∧ nb Ao80 t330.length co80 k_ ∧ nb Ao88 t340.length co88 k_ ∧ some k_ ≠ (v349 : Value).ownBlock) (Kd.R_keptB (HO279.out) hkp (fun k_ hk_ hs_ => (hk_.2) hs_)) (fun k_ hk_ => ⟨hk_.1.1.1, hk_.1.1.2.1, hk_.1.1.2.2.1, hk_.1.1.2.2.2.1, hk_.1.1.2.2.2.2.1, hk_.1.1.2.2.2.2.2.1, hk_.1.1.2.2.2.2.2.2.1, hk_.1.1.2.2.2.2.2.2.2.1, hk_.1.1.2.2.2.2.2.2.2.2.1, hk_.1.1.2.2.2.2.2.2.2.2.2, fun e_ => Or.elim (ho0.1 k_ e_.symm) (fun hs_ => hk_.2.1 hs_) (fun hn_ => Nat.not_le.2 hk_.2.2 hn_)⟩))
                        have n1_ := am (Kd.R_mono (ok' := fun k_ => nb Ao42 t277.length co42 k_ ∧ nb Ao47 t288.length co47 k_ ∧ nb Ao52 t297.length co52 k_ ∧ nb Ao57 t301.length co57 k_ ∧ nb Ao62 t310.length co62 k_ ∧ nb Ao68 t314.length co68 k_ ∧ nb Ao75 t320.length co75 k_ ∧ nb Ao79 t326.length co79 k_ ∧ nb Ao80 t330.length co80 k_ ∧ nb Ao88 t340.length co88 k_ ∧ some k_ ≠ (v349 : Value).ownBlock) (Kd.R_keptB (HO286.out) hkp (fun k_ hk_ hs_ => (hk_.2) hs_)) (fun k_ hk_ => ⟨hk_.1.1.1, hk_.1.1.2.1, hk_.1.1.2.2.1, hk_.1.1.2.2.2.1, hk_.1.1.2.2.2.2.1, hk_.1.1.2.2.2.2.2.1, hk_.1.1.2.2.2.2.2.2.1, hk_.1.1.2.2.2.2.2.2.2.1, hk_.1.1.2.2.2.2.2.2.2.2.1, hk_.1.1.2.2.2.2.2.2.2.2.2, fun e_ => Or.elim (ho0.1 k_ e_.symm) (fun hs_ => hk_.2.1 hs_) (fun hn_ => Nat.not_le.2 hk_.2.2 hn_)⟩))
                        have n2_ := am (Kd.R_mono (ok' := fun k_ => nb Ao42 t277.length co42 k_ ∧ nb Ao43 t284.length co43 k_ ∧ nb Ao52 t297.length co52 k_ ∧ nb Ao57 t301.length co57 k_ ∧ nb Ao62 t310.length co62 k_ ∧ nb Ao68 t314.length co68 k_ ∧ nb Ao75 t320.length co75 k_ ∧ nb Ao79 t326.length co79 k_ ∧ nb Ao80 t330.length co80 k_ ∧ nb Ao88 t340.length co88 k_ ∧ some k_ ≠ (v349 : Value).ownBlock) (Kd.R_keptB (HO290.out) hkp (fun k_ hk_ hs_ => (hk_.2) hs_)) (fun k_ hk_ => ⟨hk_.1.1.1, hk_.1.1.2.1, hk_.1.1.2.2.1, hk_.1.1.2.2.2.1, hk_.1.1.2.2.2.2.1, hk_.1.1.2.2.2.2.2.1, hk_.1.1.2.2.2.2.2.2.1, hk_.1.1.2.2.2.2.2.2.2.1, hk_.1.1.2.2.2.2.2.2.2.2.1, hk_.1.1.2.2.2.2.2.2.2.2.2, fun e_ => Or.elim (ho0.1 k_ e_.symm) (fun hs_ => hk_.2.1 hs_) (fun hn_ => Nat.not_le.2 hk_.2.2 hn_)⟩))
                        have n3_ := am (blk_kept (bu BK292.out) hkp (fun hs_ => (fun e_ => (Kd.R_ne HO346.out BK292.out (by decide)) e_) hs_))
                        have n4_ := am (Kd.R_mono (ok' := fun k_ => nb Ao42 t277.length co42 k_ ∧ nb Ao43 t284.length co43 k_ ∧ nb Ao47 t288.length co47 k_ ∧ nb Ao57 t301.length co57 k_ ∧ nb Ao62 t310.length co62 k_ ∧ nb Ao68 t314.length co68 k_ ∧ nb Ao75 t320.length co75 k_ ∧ nb Ao79 t326.length co79 k_ ∧ nb Ao80 t330.length co80 k_ ∧ nb Ao88 t340.length co88 k_ ∧ some k_ ≠ (v349 : Value).ownBlock) (Kd.R_keptB (HO299.out) hkp (fun k_ hk_ hs_ => (hk_.2) hs_)) (fun k_ hk_ => ⟨hk_.1.1.1, hk_.1.1.2.1, hk_.1.1.2.2.1, hk_.1.1.2.2.2.1, hk_.1.1.2.2.2.2.1, hk_.1.1.2.2.2.2.2.1, hk_.1.1.2.2.2.2.2.2.1, hk_.1.1.2.2.2.2.2.2.2.1, hk_.1.1.2.2.2.2.2.2.2.2.1, hk_.1.1.2.2.2.2.2.2.2.2.2, fun e_ => Or.elim (ho0.1 k_ e_.symm) (fun hs_ => hk_.2.1 hs_) (fun hn_ => Nat.not_le.2 hk_.2.2 hn_)⟩))
                        have n5_ := am (Kd.R_mono (ok' := fun k_ => nb Ao42 t277.length co42 k_ ∧ nb Ao43 t284.length co43 k_ ∧ nb Ao47 t288.length co47 k_ ∧ nb Ao52 t297.length co52 k_ ∧ nb Ao62 t310.length co62 k_ ∧ nb Ao68 t314.length co68 k_ ∧ nb Ao75 t320.length co75 k_ ∧ nb Ao79 t326.length co79 k_ ∧ nb Ao80 t330.length co80 k_ ∧ nb Ao88 t340.length co88 k_ ∧ some k_ ≠ (v349 : Value).ownBlock) (Kd.R_keptB (HO303.out) hkp (fun k_ hk_ hs_ => (hk_.2) hs_)) (fun k_ hk_ => ⟨hk_.1.1.1, hk_.1.1.2.1, hk_.1.1.2.2.1, hk_.1.1.2.2.2.1, hk_.1.1.2.2.2.2.1, hk_.1.1.2.2.2.2.2.1, hk_.1.1.2.2.2.2.2.2.1, hk_.1.1.2.2.2.2.2.2.2.1, hk_.1.1.2.2.2.2.2.2.2.2.1, hk_.1.1.2.2.2.2.2.2.2.2.2, fun e_ => Or.elim (ho0.1 k_ e_.symm) (fun hs_ => hk_.2.1 hs_) (fun hn_ => Nat.not_le.2 hk_.2.2 hn_)⟩))
                        have n6_ := am (blk_kept (bu BK305.out) hkp (fun hs_ => (fun e_ => (Kd.R_ne HO346.out BK305.out (by decide)) e_) hs_))
                        have n7_ := am (Kd.R_mono (ok' := fun k_ => nb Ao42 t277.length co42 k_ ∧ nb Ao43 t284.length co43 k_ ∧ nb Ao47 t288.length co47 k_ ∧ nb Ao52 t297.length co52 k_ ∧ nb Ao57 t301.length co57 k_ ∧ nb Ao68 t314.length co68 k_ ∧ nb Ao75 t320.length co75 k_ ∧ nb Ao79 t326.length co79 k_ ∧ nb Ao80 t330.length co80 k_ ∧ nb Ao88 t340.length co88 k_ ∧ some k_ ≠ (v349 : Value).ownBlock) (Kd.R_keptB (HO312.out) hkp (fun k_ hk_ hs_ => (hk_.2) hs_)) (fun k_ hk_ => ⟨hk_.1.1.1, hk_.1.1.2.1, hk_.1.1.2.2.1, hk_.1.1.2.2.2.1, hk_.1.1.2.2.2.2.1, hk_.1.1.2.2.2.2.2.1, hk_.1.1.2.2.2.2.2.2.1, hk_.1.1.2.2.2.2.2.2.2.1, hk_.1.1.2.2.2.2.2.2.2.2.1, hk_.1.1.2.2.2.2.2.2.2.2.2, fun e_ => Or.elim (ho0.1 k_ e_.symm) (fun hs_ => hk_.2.1 hs_) (fun hn_ => Nat.not_le.2 hk_.2.2 hn_)⟩))
                        have n8_ := am (Kd.R_mono (ok' := fun k_ => nb Ao42 t277.length co42 k_ ∧ nb Ao43 t284.length co43 k_ ∧ nb Ao47 t288.length co47 k_ ∧ nb Ao52 t297.length co52 k_ ∧ nb Ao57 t301.length co57 k_ ∧ nb Ao62 t310.length co62 k_ ∧ nb Ao75 t320.length co75 k_ ∧ nb Ao79 t326.length co79 k_ ∧ nb Ao80 t330.length co80 k_ ∧ nb Ao88 t340.length co88 k_ ∧ some k_ ≠ (v349 : Value).ownBlock) (Kd.R_keptB (HO316.out) hkp (fun k_ hk_ hs_ => (hk_.2) hs_)) (fun k_ hk_ => ⟨hk_.1.1.1, hk_.1.1.2.1, hk_.1.1.2.2.1, hk_.1.1.2.2.2.1, hk_.1.1.2.2.2.2.1, hk_.1.1.2.2.2.2.2.1, hk_.1.1.2.2.2.2.2.2.1, hk_.1.1.2.2.2.2.2.2.2.1, hk_.1.1.2.2.2.2.2.2.2.2.1, hk_.1.1.2.2.2.2.2.2.2.2.2, fun e_ => Or.elim (ho0.1 k_ e_.symm) (fun hs_ => hk_.2.1 hs_) (fun hn_ => Nat.not_le.2 hk_.2.2 hn_)⟩))
                        have n9_ := am (blk_kept (bu BK318.out) hkp (fun hs_ => (fun e_ => (Kd.R_ne HO346.out BK318.out (by decide)) e_) hs_))
                        have n10_ := am (Kd.R_mono (ok' := fun k_ => nb Ao42 t277.length co42 k_ ∧ nb Ao43 t284.length co43 k_ ∧ nb Ao47 t288.length co47 k_ ∧ nb Ao52 t297.length co52 k_ ∧ nb Ao57 t301.length co57 k_ ∧ nb Ao62 t310.length co62 k_ ∧ nb Ao68 t314.length co68 k_ ∧ nb Ao79 t326.length co79 k_ ∧ nb Ao80 t330.length co80 k_ ∧ nb Ao88 t340.length co88 k_ ∧ some k_ ≠ (v349 : Value).ownBlock) (Kd.R_keptB (HO322.out) hkp (fun k_ hk_ hs_ => (hk_.2) hs_)) (fun k_ hk_ => ⟨hk_.1.1.1, hk_.1.1.2.1, hk_.1.1.2.2.1, hk_.1.1.2.2.2.1, hk_.1.1.2.2.2.2.1, hk_.1.1.2.2.2.2.2.1, hk_.1.1.2.2.2.2.2.2.1, hk_.1.1.2.2.2.2.2.2.2.1, hk_.1.1.2.2.2.2.2.2.2.2.1, hk_.1.1.2.2.2.2.2.2.2.2.2, fun e_ => Or.elim (ho0.1 k_ e_.symm) (fun hs_ => hk_.2.1 hs_) (fun hn_ => Nat.not_le.2 hk_.2.2 hn_)⟩))
                        have n11_ := am (blk_kept (bu BK324.out) hkp (fun hs_ => (fun e_ => (Kd.R_ne HO346.out BK324.out (by decide)) e_) hs_))
                        have n12_ := am (Kd.R_mono (ok' := fun k_ => nb Ao42 t277.length co42 k_ ∧ nb Ao43 t284.length co43 k_ ∧ nb Ao47 t288.length co47 k_ ∧ nb Ao52 t297.length co52 k_ ∧ nb Ao57 t301.length co57 k_ ∧ nb Ao62 t310.length co62 k_ ∧ nb Ao68 t314.length co68 k_ ∧ nb Ao75 t320.length co75 k_ ∧ nb Ao80 t330.length co80 k_ ∧ nb Ao88 t340.length co88 k_ ∧ some k_ ≠ (v349 : Value).ownBlock) (Kd.R_keptB (HO328.out) hkp (fun k_ hk_ hs_ => (hk_.2) hs_)) (fun k_ hk_ => ⟨hk_.1.1.1, hk_.1.1.2.1, hk_.1.1.2.2.1, hk_.1.1.2.2.2.1, hk_.1.1.2.2.2.2.1, hk_.1.1.2.2.2.2.2.1, hk_.1.1.2.2.2.2.2.2.1, hk_.1.1.2.2.2.2.2.2.2.1, hk_.1.1.2.2.2.2.2.2.2.2.1, hk_.1.1.2.2.2.2.2.2.2.2.2, fun e_ => Or.elim (ho0.1 k_ e_.symm) (fun hs_ => hk_.2.1 hs_) (fun hn_ => Nat.not_le.2 hk_.2.2 hn_)⟩))
                        have n13_ := am (Kd.R_mono (ok' := fun k_ => nb Ao42 t277.length co42 k_ ∧ nb Ao43 t284.length co43 k_ ∧ nb Ao47 t288.length co47 k_ ∧ nb Ao52 t297.length co52 k_ ∧ nb Ao57 t301.length co57 k_ ∧ nb Ao62 t310.length co62 k_ ∧ nb Ao68 t314.length co68 k_ ∧ nb Ao75 t320.length co75 k_ ∧ nb Ao79 t326.length co79 k_ ∧ nb Ao88 t340.length co88 k_ ∧ some k_ ≠ (v349 : Value).ownBlock) (Kd.R_keptB (HO332.out) hkp (fun k_ hk_ hs_ => (hk_.2) hs_)) (fun k_ hk_ => ⟨hk_.1.1.1, hk_.1.1.2.1, hk_.1.1.2.2.1, hk_.1.1.2.2.2.1, hk_.1.1.2.2.2.2.1, hk_.1.1.2.2.2.2.2.1, hk_.1.1.2.2.2.2.2.2.1, hk_.1.1.2.2.2.2.2.2.2.1, hk_.1.1.2.2.2.2.2.2.2.2.1, hk_.1.1.2.2.2.2.2.2.2.2.2, fun e_ => Or.elim (ho0.1 k_ e_.symm) (fun hs_ => hk_.2.1 hs_) (fun hn_ => Nat.not_le.2 hk_.2.2 hn_)⟩))
                        have n14_ := am (Kd.R_mono (ok' := fun k_ => nb Ao42 t277.length co42 k_ ∧ nb Ao43 t284.length co43 k_ ∧ nb Ao47 t288.length co47 k_ ∧ nb Ao52 t297.length co52 k_ ∧ nb Ao57 t301.length co57 k_ ∧ nb Ao62 t310.length co62 k_ ∧ nb Ao68 t314.length co68 k_ ∧ nb Ao75 t320.length co75 k_ ∧ nb Ao79 t326.length co79 k_ ∧ nb Ao80 t330.length co80 k_ ∧ some k_ ≠ (v349 : Value).ownBlock) (Kd.R_keptB (HO342.out) hkp (fun k_ hk_ hs_ => (hk_.2) hs_)) (fun k_ hk_ => ⟨hk_.1.1.1, hk_.1.1.2.1, hk_.1.1.2.2.1, hk_.1.1.2.2.2.1, hk_.1.1.2.2.2.2.1, hk_.1.1.2.2.2.2.2.1, hk_.1.1.2.2.2.2.2.2.1, hk_.1.1.2.2.2.2.2.2.2.1, hk_.1.1.2.2.2.2.2.2.2.2.1, hk_.1.1.2.2.2.2.2.2.2.2.2, fun e_ => Or.elim (ho0.1 k_ e_.symm) (fun hs_ => hk_.2.1 hs_) (fun hn_ => Nat.not_le.2 hk_.2.2 hn_)⟩))
                        have n15_ := am (Kd.R_mono (ok' := fun k_ => nb Ao42 t277.length co42 k_ ∧ nb Ao43 t284.length co43 k_ ∧ nb Ao47 t288.length co47 k_ ∧ nb Ao52 t297.length co52 k_ ∧ nb Ao57 t301.length co57 k_ ∧ nb Ao62 t310.length co62 k_ ∧ nb Ao68 t314.length co68 k_ ∧ nb Ao75 t320.length co75 k_ ∧ nb Ao79 t326.length co79 k_ ∧ nb Ao80 t330.length co80 k_ ∧ nb Ao88 t340.length co88 k_) ho0 (fun k_ hk_ => ⟨Or.elim hk_ (fun hs_ => fun e_ => (((HO279.out).1 k_ e_.symm).2) hs_) (fun hn_ => (Kd.fresh' (Kd.R_lt (ru (HO279.out))) k_ hn_)), Or.elim hk_ (fun hs_ => fun e_ => (((HO286.out).1 k_ e_.symm).2) hs_) (fun hn_ => (Kd.fresh' (Kd.R_lt (ru (HO286.out))) k_ hn_)), Or.elim hk_ (fun hs_ => fun e_ => (((HO290.out).1 k_ e_.symm).2) hs_) (fun hn_ => (Kd.fresh' (Kd.R_lt (ru (HO290.out))) k_ hn_)), Or.elim hk_ (fun hs_ => fun e_ => (((HO299.out).1 k_ e_.symm).2) hs_) (fun hn_ => (Kd.fresh' (Kd.R_lt (ru (HO299.out))) k_ hn_)), Or.elim hk_ (fun hs_ => fun e_ => (((HO303.out).1 k_ e_.symm).2) hs_) (fun hn_ => (Kd.fresh' (Kd.R_lt (ru (HO303.out))) k_ hn_)), Or.elim hk_ (fun hs_ => fun e_ => (((HO312.out).1 k_ e_.symm).2) hs_) (fun hn_ => (Kd.fresh' (Kd.R_lt (ru (HO312.out))) k_ hn_)), Or.elim hk_ (fun hs_ => fun e_ => (((HO316.out).1 k_ e_.symm).2) hs_) (fun hn_ => (Kd.fresh' (Kd.R_lt (ru (HO316.out))) k_ hn_)), Or.elim hk_ (fun hs_ => fun e_ => (((HO322.out).1 k_ e_.symm).2) hs_) (fun hn_ => (Kd.fresh' (Kd.R_lt (ru (HO322.out))) k_ hn_)), Or.elim hk_ (fun hs_ => fun e_ => (((HO328.out).1 k_ e_.symm).2) hs_) (fun hn_ => (Kd.fresh' (Kd.R_lt (ru (HO328.out))) k_ hn_)), Or.elim hk_ (fun hs_ => fun e_ => (((HO332.out).1 k_ e_.symm).2) hs_) (fun hn_ => (Kd.fresh' (Kd.R_lt (ru (HO332.out))) k_ hn_)), Or.elim hk_ (fun hs_ => fun e_ => (((HO342.out).1 k_ e_.symm).2) hs_) (fun hn_ => (Kd.fresh' (Kd.R_lt (ru (HO342.out))) k_ hn_))⟩))
                        have n16_ := am (hb)
                        clear HO279
                        clear HO286
                        clear HO290
                        clear BK292
                        clear HO299
                        clear HO303
                        clear BK305
                        clear HO312
                        clear HO316
                        clear BK318
                        clear HO322
                        clear BK324
                        clear HO328
                        clear HO332
                        clear HO342
                        clear HB
                        clear HO346
                        have HO279 := n0_
                        have HO286 := n1_
                        have HO290 := n2_
                        have BK292 := n3_
                        have HO299 := n4_
                        have HO303 := n5_
                        have BK305 := n6_
                        have HO312 := n7_
                        have HO316 := n8_
                        have BK318 := n9_
                        have HO322 := n10_
                        have BK324 := n11_
                        have HO328 := n12_
                        have HO332 := n13_
                        have HO342 := n14_
                        have HO350 := n15_
                        have HB := n16_
                        clear n0_ n1_ n2_ n3_ n4_ n5_ n6_ n7_ n8_ n9_ n10_ n11_ n12_ n13_ n14_ n15_ n16_
                        (try clear hb)
                        (try clear hkp)
                        (try clear ho0)
                        obtain ⟨Ao94, co94, eo94⟩ := Kd.R_slice HO350.out
                        (first | subst eo94 | (injection eo94 with f1_ f2_ f3_; have f4_ := f1_.symm; have f5_ := f3_.symm; clear f1_ f2_ f3_; subst f4_; subst f5_))
                        refine hK.out _ _ ⟨(blk_cell BK292.out 0).trans rfl, (blk_cell BK292.out 1).trans rfl, (blk_cell BK318.out 0).trans rfl, (blk_cell BK318.out 1).trans rfl⟩ (fun hHeld => ?_)
                        clear hK K
                        refine norm_ (a' := ?_) ?_ ?_
                        rotate_left
                        · show Act.put _ (some 64) _ = _
                          simp only [Act.put, List.setIfInBounds_toArray, List.set_cons_zero, List.set_cons_succ, i64_w, i32_w]
                          rfl
                        refine one_ (i := 23) (N := some 65) (tb 24 54) rfl rfl (one_of HT_.out (by kernel_rfl)) (by decide) (fun K hK => ?_)
                        refine goes_ Try.func30 (by kernel_rfl) rfl #[.agg #[.int .u64 t313, .slice Ao68 t314.length co68], .agg #[.int .u64 t347, .slice Ao94 t348.length co94]] (by rfl) rfl rfl (by (try simp only [List.map_toArray, List.map_cons, List.map_nil]); first | done | rfl | (simp only [List.length_drop, List.length_take]; rfl)) ?_
                        with_reducible refine (tallymankit_View.calls k t313 _ _ t314 t347 _ _ t348 true _ ?side1 ?side2 ?side3 ?side4 A21.out).mono ?_
                        (case side1 => repeat (first | exact (Kd.R_reads' HO316.out).2.2 | (with_reducible refine Kd.C_alloc ?_ _) | (with_reducible refine Kd.C_drewN ?_ _) | (with_reducible refine Kd.C_drew ?_)))
                        (case side2 => exact (Kd.R_reads' HO316.out).2.1)
                        (case side3 => repeat (first | exact (Kd.R_reads' HO350.out).2.2 | (with_reducible refine Kd.C_alloc ?_ _) | (with_reducible refine Kd.C_drewN ?_ _) | (with_reducible refine Kd.C_drew ?_)))
                        (case side4 => exact (Kd.R_reads' HO350.out).2.1)
                        rintro e w95 ⟨rfl, hb⟩
                        refine ⟨_, rfl, ?_⟩
                        have n0_ := am (Kd.R_below (ru (HO279.out)) hb)
                        have n1_ := am (Kd.R_below (ru (HO286.out)) hb)
                        have n2_ := am (Kd.R_below (ru (HO290.out)) hb)
                        have n3_ := am (Kd.R_below (ru (HO299.out)) hb)
                        have n4_ := am (Kd.R_below (ru (HO303.out)) hb)
                        have n5_ := am (Kd.R_below (ru (HO312.out)) hb)
                        have n6_ := am (Kd.R_below (ru (HO316.out)) hb)
                        have n7_ := am (Kd.R_below (ru (HO322.out)) hb)
                        have n8_ := am (Kd.R_below (ru (HO328.out)) hb)
                        have n9_ := am (Kd.R_below (ru (HO332.out)) hb)
                        have n10_ := am (Kd.R_below (ru (HO342.out)) hb)
                        have n11_ := am (Kd.R_below (ru (HO350.out)) hb)
                        have n12_ := am (blk_below (g := gb292) (o := .cells #[.int .u64 t287, .slice Ao47 t288.length co47] 25 (0, 0)) (bu BK292.out) hb)
                        have n13_ := am (blk_below (g := gb305) (o := .cells #[.int .u64 t300, .slice Ao57 t301.length co57] 25 (0, 0)) (bu BK305.out) hb)
                        have n14_ := am (blk_below (g := gb318) (o := .cells #[.int .u64 t313, .slice Ao68 t314.length co68] 25 (0, 0)) (bu BK318.out) hb)
                        have n15_ := am (blk_below (g := gb324) (o := .cells #[.int .u64 t319, .slice Ao75 t320.length co75] 25 (0, 0)) (bu BK324.out) hb)
                        have n16_ := am (below_step (by repeat (first | (with_reducible first | exact HB.out | apply below_alloc | apply pw_below_drewN | apply below_drew1 | refine below_set ?_ GE292.out | refine below_set ?_ GE305.out | refine below_set ?_ GE318.out | refine below_set ?_ GE324.out) | exact HB.out)) hb)
                        clear HO279
                        clear HO286
                        clear HO290
                        clear HO299
                        clear HO303
                        clear HO312
                        clear HO316
                        clear HO322
                        clear HO328
                        clear HO332
                        clear HO342
                        clear HO350
                        clear BK292
                        clear BK305
                        clear BK318
                        clear BK324
                        clear HB
                        have HO279 := n0_
                        have HO286 := n1_
                        have HO290 := n2_
                        have HO299 := n3_
                        have HO303 := n4_
                        have HO312 := n5_
                        have HO316 := n6_
                        have HO322 := n7_
                        have HO328 := n8_
                        have HO332 := n9_
                        have HO342 := n10_
                        have HO350 := n11_
                        have BK292 := n12_
                        have BK305 := n13_
                        have BK318 := n14_
                        have BK324 := n15_
                        have HB := n16_
                        clear n0_ n1_ n2_ n3_ n4_ n5_ n6_ n7_ n8_ n9_ n10_ n11_ n12_ n13_ n14_ n15_ n16_
                        (try clear hb)
                        (try clear hb2)
                        (try clear hk)
                        (try clear hi)
                        refine hK.out _ _ ⟨(blk_cell BK292.out 0).trans rfl, (blk_cell BK292.out 1).trans rfl, (blk_cell BK318.out 0).trans rfl, (blk_cell BK318.out 1).trans rfl⟩ (fun hHeld => ?_)
                        clear hK K
                        refine norm_ (a' := ?_) ?_ ?_
                        rotate_left
                        · show Act.put _ (some 65) _ = _
                          simp only [Act.put, List.setIfInBounds_toArray, List.set_cons_zero, List.set_cons_succ, i64_w, i32_w]
                          rfl
                        refine pure_ (i := 24) (N := some 66) (v := ?_) (a' := ?_) (tb 25 54) rfl rfl (any_of HT_.out (by kernel_rfl)) (fun _ _ _ h => h) (Or.inl ⟨by rfl, ?_⟩) ?_ ?_
                        rotate_left
                        · intro w'
                          go_simp
                          with_reducible rfl
                        rotate_left
                        · simp only [Act.put, List.setIfInBounds_toArray, List.set_cons_zero, List.set_cons_succ, i64_w, i32_w]
                          rfl
                        refine pure_ (i := 25) (N := some 67) (v := ?_) (a' := ?_) (tb 26 54) rfl rfl (any_of HT_.out (by kernel_rfl)) (fun _ _ _ h => h) (Or.inl ⟨by rfl, ?_⟩) ?_ ?_
                        rotate_left
                        · intro w'
                          go_simp
                          with_reducible rfl
                        rotate_left
                        · simp only [Act.put, List.setIfInBounds_toArray, List.set_cons_zero, List.set_cons_succ, i64_w, i32_w]
                          rfl
                        refine pure_ (i := 26) (N := some 68) (v := ?_) (a' := ?_) (tb 27 54) rfl rfl (any_of HT_.out (by kernel_rfl)) (fun _ _ _ h => h) (Or.inl ⟨by rfl, ?_⟩) ?_ ?_
                        rotate_left
                        · intro w'
                          go_simp
                          with_reducible rfl
                        rotate_left
                        · simp only [Act.put, List.setIfInBounds_toArray, List.set_cons_zero, List.set_cons_succ, i64_w, i32_w]
                          rfl
                        refine pure_ (i := 27) (N := some 69) (v := ?_) (a' := ?_) (tb 28 54) rfl rfl (any_of HT_.out (by kernel_rfl)) (fun _ _ _ h => h) (Or.inl ⟨by rfl, ?_⟩) ?_ ?_
                        rotate_left
                        · intro w'
                          go_simp
                          with_reducible rfl
                        rotate_left
                        · simp only [Act.put, List.setIfInBounds_toArray, List.set_cons_zero, List.set_cons_succ, i64_w, i32_w]
                          rfl
                        refine pure_ (i := 28) (N := some 70) (v := ?_) (a' := ?_) (tb 29 54) rfl rfl (any_of HT_.out (by kernel_rfl)) (fun _ _ _ h => h) (Or.inl ⟨by rfl, ?_⟩) ?_ ?_
                        rotate_left
                        · intro w'
                          go_simp
                          with_reducible rfl
                        rotate_left
                        · simp only [Act.put, List.setIfInBounds_toArray, List.set_cons_zero, List.set_cons_succ, i64_w, i32_w]
                          rfl
                        refine pure_ (i := 29) (N := some 71) (v := ?_) (a' := ?_) (tb 30 54) rfl rfl (any_of HT_.out (by kernel_rfl)) (fun _ _ _ h => h) (Or.inl ⟨by rfl, ?_⟩) ?_ ?_
                        rotate_left
                        · intro w'
                          go_simp
                          with_reducible rfl
                        rotate_left
                        · simp only [Act.put, List.setIfInBounds_toArray, List.set_cons_zero, List.set_cons_succ, i64_w, i32_w]
                          rfl
                        refine pure_ (i := 30) (N := some 72) (v := ?_) (a' := ?_) (tb 31 54) rfl rfl (any_of HT_.out (by kernel_rfl)) (fun _ _ _ h => h) (Or.inl ⟨by rfl, ?_⟩) ?_ ?_
                        rotate_left
                        · intro w'
                          go_simp
                          with_reducible rfl
                        rotate_left
                        · simp only [Act.put, List.setIfInBounds_toArray, List.set_cons_zero, List.set_cons_succ, i64_w, i32_w]
                          rfl
                        refine pure_ (i := 31) (N := some 73) (v := ?_) (a' := ?_) (tb 32 54) rfl rfl (any_of HT_.out (by kernel_rfl)) (fun _ _ _ h => h) (Or.inl ⟨by rfl, ?_⟩) ?_ ?_
                        rotate_left
                        · intro w'
                          go_simp
                          with_reducible rfl
                        rotate_left
                        · simp only [Act.put, List.setIfInBounds_toArray, List.set_cons_zero, List.set_cons_succ, i64_w, i32_w]
                          rfl
                        refine pure_ (i := 32) (N := some 74) (v := ?_) (a' := ?_) (tb 33 54) rfl rfl (any_of HT_.out (by kernel_rfl)) (fun _ _ _ h => h) (Or.inl ⟨by rfl, ?_⟩) ?_ ?_
                        rotate_left
                        · intro w'
                          go_simp
                          with_reducible rfl
                        rotate_left
                        · simp only [Act.put, List.setIfInBounds_toArray, List.set_cons_zero, List.set_cons_succ, i64_w, i32_w]
                          rfl
                        refine pure_ (i := 33) (N := some 75) (v := ?_) (a' := ?_) (tb 34 54) rfl rfl (any_of HT_.out (by kernel_rfl)) (fun _ _ _ h => h) (Or.inl ⟨by rfl, ?_⟩) ?_ ?_
                        rotate_left
                        · intro w'
                          go_simp
                          with_reducible rfl
                        rotate_left
                        · simp only [Act.put, List.setIfInBounds_toArray, List.set_cons_zero, List.set_cons_succ, i64_w, i32_w]
                          rfl
                        refine one_ (i := 34) (N := some 76) (tb 35 54) rfl rfl (one_of HT_.out (by kernel_rfl)) (by decide) (fun K hK => ?_)
                        refine Kd.R_lit_step (Kd.int .u64) _ 22 ?hg (N := 76) ?hd (xs := ([5] : List Int)) (inner := [.int .u64 5]) (ok := fun _ => True) (okp := fun _ => True) ?hr ?hp (fun _ hk => hk) trivial (Below.refl _ _) (Nat.le_refl _) (by simp) ?_; (case hd => rfl); (case hg => rfl); (case hr => first | (go_simp; done) | (go_simp; rfl)); (case hp => exact (Reps.one (show Kd.M (Kd.int .u64) _ _ _ 5 [.int .u64 5] from rfl) (Reps.none _ _)))
                        intro v353 w96 ho97 hb hg_ hnew_
                        clear hg_ hnew_
                        (first | rw [← Ny352.out] at ho97 | (simp only [Int.reduceToNat] at ho97; rw [← Ny352.out] at ho97))
                        have n0_ := am (Kd.R_elder' (ru (HO279.out)) (Kd.R_base ho97) hb)
                        have n1_ := am (Kd.R_elder' (ru (HO286.out)) (Kd.R_base ho97) hb)
                        have n2_ := am (Kd.R_elder' (ru (HO290.out)) (Kd.R_base ho97) hb)
                        have n3_ := am (Kd.R_elder' (ru (HO299.out)) (Kd.R_base ho97) hb)
                        have n4_ := am (Kd.R_elder' (ru (HO303.out)) (Kd.R_base ho97) hb)
                        have n5_ := am (Kd.R_elder' (ru (HO312.out)) (Kd.R_base ho97) hb)
                        have n6_ := am (Kd.R_elder' (ru (HO316.out)) (Kd.R_base ho97) hb)
                        have n7_ := am (Kd.R_elder' (ru (HO322.out)) (Kd.R_base ho97) hb)
                        have n8_ := am (Kd.R_elder' (ru (HO328.out)) (Kd.R_base ho97) hb)
                        have n9_ := am (Kd.R_elder' (ru (HO332.out)) (Kd.R_base ho97) hb)
                        have n10_ := am (Kd.R_elder' (ru (HO342.out)) (Kd.R_base ho97) hb)
                        have n11_ := am (Kd.R_elder' (ru (HO350.out)) (Kd.R_base ho97) hb)
                        have n12_ := am (Kd.R_lower (Kd.R_new' (Kd.R_new' (Kd.R_new' (Kd.R_new' (Kd.R_new' (Kd.R_new' (Kd.R_new' (Kd.R_new' (Kd.R_new' (Kd.R_new' (Kd.R_new' (Kd.R_new' ho97 (Kd.R_lt (ru (HO279.out)))) (Kd.R_lt (ru (HO286.out)))) (Kd.R_lt (ru (HO290.out)))) (Kd.R_lt (ru (HO299.out)))) (Kd.R_lt (ru (HO303.out)))) (Kd.R_lt (ru (HO312.out)))) (Kd.R_lt (ru (HO316.out)))) (Kd.R_lt (ru (HO322.out)))) (Kd.R_lt (ru (HO328.out)))) (Kd.R_lt (ru (HO332.out)))) (Kd.R_lt (ru (HO342.out)))) (Kd.R_lt (ru (HO350.out)))) (below_size (by repeat (first | (with_reducible first | exact HB.out | apply below_alloc | apply pw_below_drewN | apply below_drew1 | refine below_set ?_ GE292.out | refine below_set ?_ GE305.out | refine below_set ?_ GE318.out | refine below_set ?_ GE324.out) | exact HB.out))))
                        have n13_ := am (blk_below (g := gb292) (o := .cells #[.int .u64 t287, .slice Ao47 t288.length co47] 25 (0, 0)) (bu BK292.out) hb)
                        have n14_ := am (blk_below (g := gb305) (o := .cells #[.int .u64 t300, .slice Ao57 t301.length co57] 25 (0, 0)) (bu BK305.out) hb)
                        have n15_ := am (blk_below (g := gb318) (o := .cells #[.int .u64 t313, .slice Ao68 t314.length co68] 25 (0, 0)) (bu BK318.out) hb)
                        have n16_ := am (blk_below (g := gb324) (o := .cells #[.int .u64 t319, .slice Ao75 t320.length co75] 25 (0, 0)) (bu BK324.out) hb)
                        have n17_ := am (below_step (by repeat (first | (with_reducible first | exact HB.out | apply below_alloc | apply pw_below_drewN | apply below_drew1 | refine below_set ?_ GE292.out | refine below_set ?_ GE305.out | refine below_set ?_ GE318.out | refine below_set ?_ GE324.out) | exact HB.out)) hb)
                        clear HO279
                        clear HO286
                        clear HO290
                        clear HO299
                        clear HO303
                        clear HO312
                        clear HO316
                        clear HO322
                        clear HO328
                        clear HO332
                        clear HO342
                        clear HO350
                        clear BK292
                        clear BK305
                        clear BK318
                        clear BK324
                        clear HB
                        have HO279 := n0_
                        have HO286 := n1_
                        have HO290 := n2_
                        have HO299 := n3_
                        have HO303 := n4_
                        have HO312 := n5_
                        have HO316 := n6_
                        have HO322 := n7_
                        have HO328 := n8_
                        have HO332 := n9_
                        have HO342 := n10_
                        have HO350 := n11_
                        have HO354 := n12_
                        have BK292 := n13_
                        have BK305 := n14_
                        have BK318 := n15_
                        have BK324 := n16_
                        have HB := n17_
                        clear n0_ n1_ n2_ n3_ n4_ n5_ n6_ n7_ n8_ n9_ n10_ n11_ n12_ n13_ n14_ n15_ n16_ n17_
                        clear hb ho97
                        obtain ⟨Ao98, co98, eo98⟩ := Kd.R_slice HO354.out
                        (first | subst eo98 | (injection eo98 with f1_ f2_ f3_; have f4_ := f1_.symm; have f5_ := f3_.symm; clear f1_ f2_ f3_; subst f4_; subst f5_))
                        refine hK.out _ _ ⟨(blk_cell BK292.out 0).trans rfl, (blk_cell BK292.out 1).trans rfl, (blk_cell BK318.out 0).trans rfl, (blk_cell BK318.out 1).trans rfl⟩ (fun hHeld => ?_)
                        clear hK K
                        refine norm_ (a' := ?_) ?_ ?_
                        rotate_left
                        · show Act.put _ (some 76) _ = _
                          simp only [Act.put, List.setIfInBounds_toArray, List.set_cons_zero, List.set_cons_succ, i64_w, i32_w]
                          rfl
                        refine one_ (i := 35) (N := some 77) (tb 36 54) rfl rfl (one_of HT_.out (by kernel_rfl)) (by decide) (fun K hK => ?_)
                        refine goes_ Try.func29 (by kernel_rfl) rfl #[.int .u64 5, .slice Ao98 y352.length co98] (by rfl) rfl rfl (by (try simp only [List.map_toArray, List.map_cons, List.map_nil]); first | done | rfl | (simp only [List.length_drop, List.length_take]; rfl)) ?_
                        with_reducible refine (tallymanlaw17_view.calls 5 (fun k_ => some k_ = (.slice Ao98 y352.length co98 : Value).ownBlock) (.slice Ao98 y352.length co98) y352 t355 t356 w _ ?side1 ?side2 A25.out).mono ?_
                        (case side1 => repeat (first | (with_reducible first | exact HB.out | apply below_alloc | apply pw_below_drewN | apply below_drew1 | refine below_set ?_ GE292.out | refine below_set ?_ GE305.out | refine below_set ?_ GE318.out | refine below_set ?_ GE324.out) | exact HB.out))
                        (case side2 => exact Kd.R_tight rfl HO354.out)
                        rintro e w99 ⟨v357, rfl, ho0, hb, hkp⟩
                        refine ⟨_, rfl, ?_⟩
                        have n0_ := am (Kd.R_mono (ok' := fun k_ => nb Ao43 t284.length co43 k_ ∧ nb Ao47 t288.length co47 k_ ∧ nb Ao52 t297.length co52 k_ ∧ nb Ao57 t301.length co57 k_ ∧ nb Ao62 t310.length co62 k_ ∧ nb Ao68 t314.length co68 k_ ∧ nb Ao75 t320.length co75 k_ ∧ nb Ao79 t326.length co79 k_ ∧ nb Ao80 t330.length co80 k_ ∧ nb Ao88 t340.length co88 k_ ∧ nb Ao94 t348.length co94 k_ ∧ some k_ ≠ (v357 : Value).ownBlock) (Kd.R_keptB (HO279.out) hkp (fun k_ hk_ hs_ => (hk_.2) hs_)) (fun k_ hk_ => ⟨hk_.1.1.1, hk_.1.1.2.1, hk_.1.1.2.2.1, hk_.1.1.2.2.2.1, hk_.1.1.2.2.2.2.1, hk_.1.1.2.2.2.2.2.1, hk_.1.1.2.2.2.2.2.2.1, hk_.1.1.2.2.2.2.2.2.2.1, hk_.1.1.2.2.2.2.2.2.2.2.1, hk_.1.1.2.2.2.2.2.2.2.2.2.1, hk_.1.1.2.2.2.2.2.2.2.2.2.2, fun e_ => Or.elim (ho0.1 k_ e_.symm) (fun hs_ => hk_.2.1 hs_) (fun hn_ => Nat.not_le.2 hk_.2.2 hn_)⟩))
                        have n1_ := am (Kd.R_mono (ok' := fun k_ => nb Ao42 t277.length co42 k_ ∧ nb Ao47 t288.length co47 k_ ∧ nb Ao52 t297.length co52 k_ ∧ nb Ao57 t301.length co57 k_ ∧ nb Ao62 t310.length co62 k_ ∧ nb Ao68 t314.length co68 k_ ∧ nb Ao75 t320.length co75 k_ ∧ nb Ao79 t326.length co79 k_ ∧ nb Ao80 t330.length co80 k_ ∧ nb Ao88 t340.length co88 k_ ∧ nb Ao94 t348.length co94 k_ ∧ some k_ ≠ (v357 : Value).ownBlock) (Kd.R_keptB (HO286.out) hkp (fun k_ hk_ hs_ => (hk_.2) hs_)) (fun k_ hk_ => ⟨hk_.1.1.1, hk_.1.1.2.1, hk_.1.1.2.2.1, hk_.1.1.2.2.2.1, hk_.1.1.2.2.2.2.1, hk_.1.1.2.2.2.2.2.1, hk_.1.1.2.2.2.2.2.2.1, hk_.1.1.2.2.2.2.2.2.2.1, hk_.1.1.2.2.2.2.2.2.2.2.1, hk_.1.1.2.2.2.2.2.2.2.2.2.1, hk_.1.1.2.2.2.2.2.2.2.2.2.2, fun e_ => Or.elim (ho0.1 k_ e_.symm) (fun hs_ => hk_.2.1 hs_) (fun hn_ => Nat.not_le.2 hk_.2.2 hn_)⟩))
                        have n2_ := am (Kd.R_mono (ok' := fun k_ => nb Ao42 t277.length co42 k_ ∧ nb Ao43 t284.length co43 k_ ∧ nb Ao52 t297.length co52 k_ ∧ nb Ao57 t301.length co57 k_ ∧ nb Ao62 t310.length co62 k_ ∧ nb Ao68 t314.length co68 k_ ∧ nb Ao75 t320.length co75 k_ ∧ nb Ao79 t326.length co79 k_ ∧ nb Ao80 t330.length co80 k_ ∧ nb Ao88 t340.length co88 k_ ∧ nb Ao94 t348.length co94 k_ ∧ some k_ ≠ (v357 : Value).ownBlock) (Kd.R_keptB (HO290.out) hkp (fun k_ hk_ hs_ => (hk_.2) hs_)) (fun k_ hk_ => ⟨hk_.1.1.1, hk_.1.1.2.1, hk_.1.1.2.2.1, hk_.1.1.2.2.2.1, hk_.1.1.2.2.2.2.1, hk_.1.1.2.2.2.2.2.1, hk_.1.1.2.2.2.2.2.2.1, hk_.1.1.2.2.2.2.2.2.2.1, hk_.1.1.2.2.2.2.2.2.2.2.1, hk_.1.1.2.2.2.2.2.2.2.2.2.1, hk_.1.1.2.2.2.2.2.2.2.2.2.2, fun e_ => Or.elim (ho0.1 k_ e_.symm) (fun hs_ => hk_.2.1 hs_) (fun hn_ => Nat.not_le.2 hk_.2.2 hn_)⟩))
                        have n3_ := am (blk_kept (bu BK292.out) hkp (fun hs_ => (fun e_ => (Kd.R_ne HO354.out BK292.out (by decide)) e_) hs_))
                        have n4_ := am (Kd.R_mono (ok' := fun k_ => nb Ao42 t277.length co42 k_ ∧ nb Ao43 t284.length co43 k_ ∧ nb Ao47 t288.length co47 k_ ∧ nb Ao57 t301.length co57 k_ ∧ nb Ao62 t310.length co62 k_ ∧ nb Ao68 t314.length co68 k_ ∧ nb Ao75 t320.length co75 k_ ∧ nb Ao79 t326.length co79 k_ ∧ nb Ao80 t330.length co80 k_ ∧ nb Ao88 t340.length co88 k_ ∧ nb Ao94 t348.length co94 k_ ∧ some k_ ≠ (v357 : Value).ownBlock) (Kd.R_keptB (HO299.out) hkp (fun k_ hk_ hs_ => (hk_.2) hs_)) (fun k_ hk_ => ⟨hk_.1.1.1, hk_.1.1.2.1, hk_.1.1.2.2.1, hk_.1.1.2.2.2.1, hk_.1.1.2.2.2.2.1, hk_.1.1.2.2.2.2.2.1, hk_.1.1.2.2.2.2.2.2.1, hk_.1.1.2.2.2.2.2.2.2.1, hk_.1.1.2.2.2.2.2.2.2.2.1, hk_.1.1.2.2.2.2.2.2.2.2.2.1, hk_.1.1.2.2.2.2.2.2.2.2.2.2, fun e_ => Or.elim (ho0.1 k_ e_.symm) (fun hs_ => hk_.2.1 hs_) (fun hn_ => Nat.not_le.2 hk_.2.2 hn_)⟩))
                        have n5_ := am (Kd.R_mono (ok' := fun k_ => nb Ao42 t277.length co42 k_ ∧ nb Ao43 t284.length co43 k_ ∧ nb Ao47 t288.length co47 k_ ∧ nb Ao52 t297.length co52 k_ ∧ nb Ao62 t310.length co62 k_ ∧ nb Ao68 t314.length co68 k_ ∧ nb Ao75 t320.length co75 k_ ∧ nb Ao79 t326.length co79 k_ ∧ nb Ao80 t330.length co80 k_ ∧ nb Ao88 t340.length co88 k_ ∧ nb Ao94 t348.length co94 k_ ∧ some k_ ≠ (v357 : Value).ownBlock) (Kd.R_keptB (HO303.out) hkp (fun k_ hk_ hs_ => (hk_.2) hs_)) (fun k_ hk_ => ⟨hk_.1.1.1, hk_.1.1.2.1, hk_.1.1.2.2.1, hk_.1.1.2.2.2.1, hk_.1.1.2.2.2.2.1, hk_.1.1.2.2.2.2.2.1, hk_.1.1.2.2.2.2.2.2.1, hk_.1.1.2.2.2.2.2.2.2.1, hk_.1.1.2.2.2.2.2.2.2.2.1, hk_.1.1.2.2.2.2.2.2.2.2.2.1, hk_.1.1.2.2.2.2.2.2.2.2.2.2, fun e_ => Or.elim (ho0.1 k_ e_.symm) (fun hs_ => hk_.2.1 hs_) (fun hn_ => Nat.not_le.2 hk_.2.2 hn_)⟩))
                        have n6_ := am (blk_kept (bu BK305.out) hkp (fun hs_ => (fun e_ => (Kd.R_ne HO354.out BK305.out (by decide)) e_) hs_))
                        have n7_ := am (Kd.R_mono (ok' := fun k_ => nb Ao42 t277.length co42 k_ ∧ nb Ao43 t284.length co43 k_ ∧ nb Ao47 t288.length co47 k_ ∧ nb Ao52 t297.length co52 k_ ∧ nb Ao57 t301.length co57 k_ ∧ nb Ao68 t314.length co68 k_ ∧ nb Ao75 t320.length co75 k_ ∧ nb Ao79 t326.length co79 k_ ∧ nb Ao80 t330.length co80 k_ ∧ nb Ao88 t340.length co88 k_ ∧ nb Ao94 t348.length co94 k_ ∧ some k_ ≠ (v357 : Value).ownBlock) (Kd.R_keptB (HO312.out) hkp (fun k_ hk_ hs_ => (hk_.2) hs_)) (fun k_ hk_ => ⟨hk_.1.1.1, hk_.1.1.2.1, hk_.1.1.2.2.1, hk_.1.1.2.2.2.1, hk_.1.1.2.2.2.2.1, hk_.1.1.2.2.2.2.2.1, hk_.1.1.2.2.2.2.2.2.1, hk_.1.1.2.2.2.2.2.2.2.1, hk_.1.1.2.2.2.2.2.2.2.2.1, hk_.1.1.2.2.2.2.2.2.2.2.2.1, hk_.1.1.2.2.2.2.2.2.2.2.2.2, fun e_ => Or.elim (ho0.1 k_ e_.symm) (fun hs_ => hk_.2.1 hs_) (fun hn_ => Nat.not_le.2 hk_.2.2 hn_)⟩))
                        have n8_ := am (Kd.R_mono (ok' := fun k_ => nb Ao42 t277.length co42 k_ ∧ nb Ao43 t284.length co43 k_ ∧ nb Ao47 t288.length co47 k_ ∧ nb Ao52 t297.length co52 k_ ∧ nb Ao57 t301.length co57 k_ ∧ nb Ao62 t310.length co62 k_ ∧ nb Ao75 t320.length co75 k_ ∧ nb Ao79 t326.length co79 k_ ∧ nb Ao80 t330.length co80 k_ ∧ nb Ao88 t340.length co88 k_ ∧ nb Ao94 t348.length co94 k_ ∧ some k_ ≠ (v357 : Value).ownBlock) (Kd.R_keptB (HO316.out) hkp (fun k_ hk_ hs_ => (hk_.2) hs_)) (fun k_ hk_ => ⟨hk_.1.1.1, hk_.1.1.2.1, hk_.1.1.2.2.1, hk_.1.1.2.2.2.1, hk_.1.1.2.2.2.2.1, hk_.1.1.2.2.2.2.2.1, hk_.1.1.2.2.2.2.2.2.1, hk_.1.1.2.2.2.2.2.2.2.1, hk_.1.1.2.2.2.2.2.2.2.2.1, hk_.1.1.2.2.2.2.2.2.2.2.2.1, hk_.1.1.2.2.2.2.2.2.2.2.2.2, fun e_ => Or.elim (ho0.1 k_ e_.symm) (fun hs_ => hk_.2.1 hs_) (fun hn_ => Nat.not_le.2 hk_.2.2 hn_)⟩))
                        have n9_ := am (blk_kept (bu BK318.out) hkp (fun hs_ => (fun e_ => (Kd.R_ne HO354.out BK318.out (by decide)) e_) hs_))
                        have n10_ := am (Kd.R_mono (ok' := fun k_ => nb Ao42 t277.length co42 k_ ∧ nb Ao43 t284.length co43 k_ ∧ nb Ao47 t288.length co47 k_ ∧ nb Ao52 t297.length co52 k_ ∧ nb Ao57 t301.length co57 k_ ∧ nb Ao62 t310.length co62 k_ ∧ nb Ao68 t314.length co68 k_ ∧ nb Ao79 t326.length co79 k_ ∧ nb Ao80 t330.length co80 k_ ∧ nb Ao88 t340.length co88 k_ ∧ nb Ao94 t348.length co94 k_ ∧ some k_ ≠ (v357 : Value).ownBlock) (Kd.R_keptB (HO322.out) hkp (fun k_ hk_ hs_ => (hk_.2) hs_)) (fun k_ hk_ => ⟨hk_.1.1.1, hk_.1.1.2.1, hk_.1.1.2.2.1, hk_.1.1.2.2.2.1, hk_.1.1.2.2.2.2.1, hk_.1.1.2.2.2.2.2.1, hk_.1.1.2.2.2.2.2.2.1, hk_.1.1.2.2.2.2.2.2.2.1, hk_.1.1.2.2.2.2.2.2.2.2.1, hk_.1.1.2.2.2.2.2.2.2.2.2.1, hk_.1.1.2.2.2.2.2.2.2.2.2.2, fun e_ => Or.elim (ho0.1 k_ e_.symm) (fun hs_ => hk_.2.1 hs_) (fun hn_ => Nat.not_le.2 hk_.2.2 hn_)⟩))
                        have n11_ := am (blk_kept (bu BK324.out) hkp (fun hs_ => (fun e_ => (Kd.R_ne HO354.out BK324.out (by decide)) e_) hs_))
                        have n12_ := am (Kd.R_mono (ok' := fun k_ => nb Ao42 t277.length co42 k_ ∧ nb Ao43 t284.length co43 k_ ∧ nb Ao47 t288.length co47 k_ ∧ nb Ao52 t297.length co52 k_ ∧ nb Ao57 t301.length co57 k_ ∧ nb Ao62 t310.length co62 k_ ∧ nb Ao68 t314.length co68 k_ ∧ nb Ao75 t320.length co75 k_ ∧ nb Ao80 t330.length co80 k_ ∧ nb Ao88 t340.length co88 k_ ∧ nb Ao94 t348.length co94 k_ ∧ some k_ ≠ (v357 : Value).ownBlock) (Kd.R_keptB (HO328.out) hkp (fun k_ hk_ hs_ => (hk_.2) hs_)) (fun k_ hk_ => ⟨hk_.1.1.1, hk_.1.1.2.1, hk_.1.1.2.2.1, hk_.1.1.2.2.2.1, hk_.1.1.2.2.2.2.1, hk_.1.1.2.2.2.2.2.1, hk_.1.1.2.2.2.2.2.2.1, hk_.1.1.2.2.2.2.2.2.2.1, hk_.1.1.2.2.2.2.2.2.2.2.1, hk_.1.1.2.2.2.2.2.2.2.2.2.1, hk_.1.1.2.2.2.2.2.2.2.2.2.2, fun e_ => Or.elim (ho0.1 k_ e_.symm) (fun hs_ => hk_.2.1 hs_) (fun hn_ => Nat.not_le.2 hk_.2.2 hn_)⟩))
                        have n13_ := am (Kd.R_mono (ok' := fun k_ => nb Ao42 t277.length co42 k_ ∧ nb Ao43 t284.length co43 k_ ∧ nb Ao47 t288.length co47 k_ ∧ nb Ao52 t297.length co52 k_ ∧ nb Ao57 t301.length co57 k_ ∧ nb Ao62 t310.length co62 k_ ∧ nb Ao68 t314.length co68 k_ ∧ nb Ao75 t320.length co75 k_ ∧ nb Ao79 t326.length co79 k_ ∧ nb Ao88 t340.length co88 k_ ∧ nb Ao94 t348.length co94 k_ ∧ some k_ ≠ (v357 : Value).ownBlock) (Kd.R_keptB (HO332.out) hkp (fun k_ hk_ hs_ => (hk_.2) hs_)) (fun k_ hk_ => ⟨hk_.1.1.1, hk_.1.1.2.1, hk_.1.1.2.2.1, hk_.1.1.2.2.2.1, hk_.1.1.2.2.2.2.1, hk_.1.1.2.2.2.2.2.1, hk_.1.1.2.2.2.2.2.2.1, hk_.1.1.2.2.2.2.2.2.2.1, hk_.1.1.2.2.2.2.2.2.2.2.1, hk_.1.1.2.2.2.2.2.2.2.2.2.1, hk_.1.1.2.2.2.2.2.2.2.2.2.2, fun e_ => Or.elim (ho0.1 k_ e_.symm) (fun hs_ => hk_.2.1 hs_) (fun hn_ => Nat.not_le.2 hk_.2.2 hn_)⟩))
                        have n14_ := am (Kd.R_mono (ok' := fun k_ => nb Ao42 t277.length co42 k_ ∧ nb Ao43 t284.length co43 k_ ∧ nb Ao47 t288.length co47 k_ ∧ nb Ao52 t297.length co52 k_ ∧ nb Ao57 t301.length co57 k_ ∧ nb Ao62 t310.length co62 k_ ∧ nb Ao68 t314.length co68 k_ ∧ nb Ao75 t320.length co75 k_ ∧ nb Ao79 t326.length co79 k_ ∧ nb Ao80 t330.length co80 k_ ∧ nb Ao94 t348.length co94 k_ ∧ some k_ ≠ (v357 : Value).ownBlock) (Kd.R_keptB (HO342.out) hkp (fun k_ hk_ hs_ => (hk_.2) hs_)) (fun k_ hk_ => ⟨hk_.1.1.1, hk_.1.1.2.1, hk_.1.1.2.2.1, hk_.1.1.2.2.2.1, hk_.1.1.2.2.2.2.1, hk_.1.1.2.2.2.2.2.1, hk_.1.1.2.2.2.2.2.2.1, hk_.1.1.2.2.2.2.2.2.2.1, hk_.1.1.2.2.2.2.2.2.2.2.1, hk_.1.1.2.2.2.2.2.2.2.2.2.1, hk_.1.1.2.2.2.2.2.2.2.2.2.2, fun e_ => Or.elim (ho0.1 k_ e_.symm) (fun hs_ => hk_.2.1 hs_) (fun hn_ => Nat.not_le.2 hk_.2.2 hn_)⟩))
                        have n15_ := am (Kd.R_mono (ok' := fun k_ => nb Ao42 t277.length co42 k_ ∧ nb Ao43 t284.length co43 k_ ∧ nb Ao47 t288.length co47 k_ ∧ nb Ao52 t297.length co52 k_ ∧ nb Ao57 t301.length co57 k_ ∧ nb Ao62 t310.length co62 k_ ∧ nb Ao68 t314.length co68 k_ ∧ nb Ao75 t320.length co75 k_ ∧ nb Ao79 t326.length co79 k_ ∧ nb Ao80 t330.length co80 k_ ∧ nb Ao88 t340.length co88 k_ ∧ some k_ ≠ (v357 : Value).ownBlock) (Kd.R_keptB (HO350.out) hkp (fun k_ hk_ hs_ => (hk_.2) hs_)) (fun k_ hk_ => ⟨hk_.1.1.1, hk_.1.1.2.1, hk_.1.1.2.2.1, hk_.1.1.2.2.2.1, hk_.1.1.2.2.2.2.1, hk_.1.1.2.2.2.2.2.1, hk_.1.1.2.2.2.2.2.2.1, hk_.1.1.2.2.2.2.2.2.2.1, hk_.1.1.2.2.2.2.2.2.2.2.1, hk_.1.1.2.2.2.2.2.2.2.2.2.1, hk_.1.1.2.2.2.2.2.2.2.2.2.2, fun e_ => Or.elim (ho0.1 k_ e_.symm) (fun hs_ => hk_.2.1 hs_) (fun hn_ => Nat.not_le.2 hk_.2.2 hn_)⟩))
                        have n16_ := am (Kd.R_mono (ok' := fun k_ => nb Ao42 t277.length co42 k_ ∧ nb Ao43 t284.length co43 k_ ∧ nb Ao47 t288.length co47 k_ ∧ nb Ao52 t297.length co52 k_ ∧ nb Ao57 t301.length co57 k_ ∧ nb Ao62 t310.length co62 k_ ∧ nb Ao68 t314.length co68 k_ ∧ nb Ao75 t320.length co75 k_ ∧ nb Ao79 t326.length co79 k_ ∧ nb Ao80 t330.length co80 k_ ∧ nb Ao88 t340.length co88 k_ ∧ nb Ao94 t348.length co94 k_) ho0 (fun k_ hk_ => ⟨Or.elim hk_ (fun hs_ => fun e_ => (((HO279.out).1 k_ e_.symm).2) hs_) (fun hn_ => (Kd.fresh' (Kd.R_lt (ru (HO279.out))) k_ hn_)), Or.elim hk_ (fun hs_ => fun e_ => (((HO286.out).1 k_ e_.symm).2) hs_) (fun hn_ => (Kd.fresh' (Kd.R_lt (ru (HO286.out))) k_ hn_)), Or.elim hk_ (fun hs_ => fun e_ => (((HO290.out).1 k_ e_.symm).2) hs_) (fun hn_ => (Kd.fresh' (Kd.R_lt (ru (HO290.out))) k_ hn_)), Or.elim hk_ (fun hs_ => fun e_ => (((HO299.out).1 k_ e_.symm).2) hs_) (fun hn_ => (Kd.fresh' (Kd.R_lt (ru (HO299.out))) k_ hn_)), Or.elim hk_ (fun hs_ => fun e_ => (((HO303.out).1 k_ e_.symm).2) hs_) (fun hn_ => (Kd.fresh' (Kd.R_lt (ru (HO303.out))) k_ hn_)), Or.elim hk_ (fun hs_ => fun e_ => (((HO312.out).1 k_ e_.symm).2) hs_) (fun hn_ => (Kd.fresh' (Kd.R_lt (ru (HO312.out))) k_ hn_)), Or.elim hk_ (fun hs_ => fun e_ => (((HO316.out).1 k_ e_.symm).2) hs_) (fun hn_ => (Kd.fresh' (Kd.R_lt (ru (HO316.out))) k_ hn_)), Or.elim hk_ (fun hs_ => fun e_ => (((HO322.out).1 k_ e_.symm).2) hs_) (fun hn_ => (Kd.fresh' (Kd.R_lt (ru (HO322.out))) k_ hn_)), Or.elim hk_ (fun hs_ => fun e_ => (((HO328.out).1 k_ e_.symm).2) hs_) (fun hn_ => (Kd.fresh' (Kd.R_lt (ru (HO328.out))) k_ hn_)), Or.elim hk_ (fun hs_ => fun e_ => (((HO332.out).1 k_ e_.symm).2) hs_) (fun hn_ => (Kd.fresh' (Kd.R_lt (ru (HO332.out))) k_ hn_)), Or.elim hk_ (fun hs_ => fun e_ => (((HO342.out).1 k_ e_.symm).2) hs_) (fun hn_ => (Kd.fresh' (Kd.R_lt (ru (HO342.out))) k_ hn_)), Or.elim hk_ (fun hs_ => fun e_ => (((HO350.out).1 k_ e_.symm).2) hs_) (fun hn_ => (Kd.fresh' (Kd.R_lt (ru (HO350.out))) k_ hn_))⟩))
                        have n17_ := am (hb)
                        clear HO279
                        clear HO286
                        clear HO290
                        clear BK292
                        clear HO299
                        clear HO303
                        clear BK305
                        clear HO312
                        clear HO316
                        clear BK318
                        clear HO322
                        clear BK324
                        clear HO328
                        clear HO332
                        clear HO342
                        clear HO350
                        clear HB
                        clear HO354
                        have HO279 := n0_
                        have HO286 := n1_
                        have HO290 := n2_
                        have BK292 := n3_
                        have HO299 := n4_
                        have HO303 := n5_
                        have BK305 := n6_
                        have HO312 := n7_
                        have HO316 := n8_
                        have BK318 := n9_
                        have HO322 := n10_
                        have BK324 := n11_
                        have HO328 := n12_
                        have HO332 := n13_
                        have HO342 := n14_
                        have HO350 := n15_
                        have HO358 := n16_
                        have HB := n17_
                        clear n0_ n1_ n2_ n3_ n4_ n5_ n6_ n7_ n8_ n9_ n10_ n11_ n12_ n13_ n14_ n15_ n16_ n17_
                        (try clear hb)
                        (try clear hkp)
                        (try clear ho0)
                        obtain ⟨Ao100, co100, eo100⟩ := Kd.R_slice HO358.out
                        (first | subst eo100 | (injection eo100 with f1_ f2_ f3_; have f4_ := f1_.symm; have f5_ := f3_.symm; clear f1_ f2_ f3_; subst f4_; subst f5_))
                        refine hK.out _ _ ⟨(blk_cell BK292.out 0).trans rfl, (blk_cell BK292.out 1).trans rfl, (blk_cell BK318.out 0).trans rfl, (blk_cell BK318.out 1).trans rfl⟩ (fun hHeld => ?_)
                        clear hK K
                        refine norm_ (a' := ?_) ?_ ?_
                        rotate_left
                        · show Act.put _ (some 77) _ = _
                          simp only [Act.put, List.setIfInBounds_toArray, List.set_cons_zero, List.set_cons_succ, i64_w, i32_w]
                          rfl
                        refine one_ (i := 36) (N := some 78) (tb 37 54) rfl rfl (one_of HT_.out (by kernel_rfl)) (by decide) (fun K hK => ?_)
                        refine goes_ Try.func16 (by kernel_rfl) rfl #[.agg #[.int .u64 t355, .slice Ao100 t356.length co100]] (by rfl) rfl rfl (by (try simp only [List.map_toArray, List.map_cons, List.map_nil]); first | done | rfl | (simp only [List.length_drop, List.length_take]; rfl)) ?_
                        with_reducible refine (setops_Check.calls k t355 _ _ t356 t359 _ ?side1 ?side2 A26.out).mono ?_
                        (case side1 => repeat (first | exact (Kd.R_reads' HO358.out).2.2 | (with_reducible refine Kd.C_alloc ?_ _) | (with_reducible refine Kd.C_drewN ?_ _) | (with_reducible refine Kd.C_drew ?_)))
                        (case side2 => exact (Kd.R_reads' HO358.out).2.1)
                        rintro e w101 ⟨rfl, hb⟩
                        refine ⟨_, rfl, ?_⟩
                        have n0_ := am (Kd.R_below (ru (HO279.out)) hb)
                        have n1_ := am (Kd.R_below (ru (HO286.out)) hb)
                        have n2_ := am (Kd.R_below (ru (HO290.out)) hb)
                        have n3_ := am (Kd.R_below (ru (HO299.out)) hb)
                        have n4_ := am (Kd.R_below (ru (HO303.out)) hb)
                        have n5_ := am (Kd.R_below (ru (HO312.out)) hb)
                        have n6_ := am (Kd.R_below (ru (HO316.out)) hb)
                        have n7_ := am (Kd.R_below (ru (HO322.out)) hb)
                        have n8_ := am (Kd.R_below (ru (HO328.out)) hb)
                        have n9_ := am (Kd.R_below (ru (HO332.out)) hb)
                        have n10_ := am (Kd.R_below (ru (HO342.out)) hb)
                        have n11_ := am (Kd.R_below (ru (HO350.out)) hb)
                        have n12_ := am (Kd.R_below (ru (HO358.out)) hb)
                        have n13_ := am (blk_below (g := gb292) (o := .cells #[.int .u64 t287, .slice Ao47 t288.length co47] 25 (0, 0)) (bu BK292.out) hb)
                        have n14_ := am (blk_below (g := gb305) (o := .cells #[.int .u64 t300, .slice Ao57 t301.length co57] 25 (0, 0)) (bu BK305.out) hb)
                        have n15_ := am (blk_below (g := gb318) (o := .cells #[.int .u64 t313, .slice Ao68 t314.length co68] 25 (0, 0)) (bu BK318.out) hb)
                        have n16_ := am (blk_below (g := gb324) (o := .cells #[.int .u64 t319, .slice Ao75 t320.length co75] 25 (0, 0)) (bu BK324.out) hb)
                        have n17_ := am (below_step (by repeat (first | (with_reducible first | exact HB.out | apply below_alloc | apply pw_below_drewN | apply below_drew1 | refine below_set ?_ GE292.out | refine below_set ?_ GE305.out | refine below_set ?_ GE318.out | refine below_set ?_ GE324.out) | exact HB.out)) hb)
                        clear HO279
                        clear HO286
                        clear HO290
                        clear HO299
                        clear HO303
                        clear HO312
                        clear HO316
                        clear HO322
                        clear HO328
                        clear HO332
                        clear HO342
                        clear HO350
                        clear HO358
                        clear BK292
                        clear BK305
                        clear BK318
                        clear BK324
                        clear HB
                        have HO279 := n0_
                        have HO286 := n1_
                        have HO290 := n2_
                        have HO299 := n3_
                        have HO303 := n4_
                        have HO312 := n5_
                        have HO316 := n6_
                        have HO322 := n7_
                        have HO328 := n8_
                        have HO332 := n9_
                        have HO342 := n10_
                        have HO350 := n11_
                        have HO358 := n12_
                        have BK292 := n13_
                        have BK305 := n14_
                        have BK318 := n15_
                        have BK324 := n16_
                        have HB := n17_
                        clear n0_ n1_ n2_ n3_ n4_ n5_ n6_ n7_ n8_ n9_ n10_ n11_ n12_ n13_ n14_ n15_ n16_ n17_
                        (try clear hb)
                        (try clear hb2)
                        (try clear hk)
                        (try clear hi)
                        refine hK.out _ _ ⟨(blk_cell BK292.out 0).trans rfl, (blk_cell BK292.out 1).trans rfl, (blk_cell BK318.out 0).trans rfl, (blk_cell BK318.out 1).trans rfl⟩ (fun hHeld => ?_)
                        clear hK K
                        refine norm_ (a' := ?_) ?_ ?_
                        rotate_left
                        · show Act.put _ (some 78) _ = _
                          simp only [Act.put, List.setIfInBounds_toArray, List.set_cons_zero, List.set_cons_succ, i64_w, i32_w]
                          rfl
                        refine pure_ (i := 37) (N := some 79) (v := ?_) (a' := ?_) (tb 38 54) rfl rfl (any_of HT_.out (by kernel_rfl)) (fun _ _ _ h => h) (Or.inl ⟨by rfl, ?_⟩) ?_ ?_
                        rotate_left
                        · intro w'
                          go_simp
                          with_reducible rfl
                        rotate_left
                        · simp only [Act.put, List.setIfInBounds_toArray, List.set_cons_zero, List.set_cons_succ, i64_w, i32_w]
                          rfl
                        refine pure_ (i := 38) (N := some 80) (v := ?_) (a' := ?_) (tb 39 54) rfl rfl (any_of HT_.out (by kernel_rfl)) (fun _ _ _ h => h) (Or.inl ⟨by rfl, ?_⟩) ?_ ?_
                        rotate_left
                        · intro w'
                          go_simp
                          with_reducible rfl
                        rotate_left
                        · simp only [Act.put, List.setIfInBounds_toArray, List.set_cons_zero, List.set_cons_succ, i64_w, i32_w]
                          rfl
                        refine pure_ (i := 39) (N := some 81) (v := ?_) (a' := ?_) (tb 40 54) rfl rfl (any_of HT_.out (by kernel_rfl)) (fun _ _ _ h => h) (Or.inl ⟨by rfl, ?_⟩) ?_ ?_
                        rotate_left
                        · intro w'
                          go_simp
                          with_reducible rfl
                        rotate_left
                        · simp only [Act.put, List.setIfInBounds_toArray, List.set_cons_zero, List.set_cons_succ, i64_w, i32_w]
                          rfl
                        refine one_ (i := 40) (N := some 82) (tb 41 54) rfl rfl (one_of HT_.out (by kernel_rfl)) (by decide) (fun K hK => ?_)
                        refine Kd.R_lit_step (Kd.int .u64) _ 22 ?hg (N := 82) ?hd (xs := ([2, 2] : List Int)) (inner := [.int .u64 2, .int .u64 2]) (ok := fun _ => True) (okp := fun _ => True) ?hr ?hp (fun _ hk => hk) trivial (Below.refl _ _) (Nat.le_refl _) (by simp) ?_; (case hd => rfl); (case hg => rfl); (case hr => first | (go_simp; done) | (go_simp; rfl)); (case hp => exact (Reps.one (show Kd.M (Kd.int .u64) _ _ _ 2 [.int .u64 2] from rfl) (Reps.one (show Kd.M (Kd.int .u64) _ _ _ 2 [.int .u64 2] from rfl) (Reps.none _ _))))
                        intro v361 w102 ho103 hb hg_ hnew_
                        clear hg_ hnew_
                        (first | rw [← Ny360.out] at ho103 | (simp only [Int.reduceToNat] at ho103; rw [← Ny360.out] at ho103))
                        have n0_ := am (Kd.R_elder' (ru (HO279.out)) (Kd.R_base ho103) hb)
                        have n1_ := am (Kd.R_elder' (ru (HO286.out)) (Kd.R_base ho103) hb)
                        have n2_ := am (Kd.R_elder' (ru (HO290.out)) (Kd.R_base ho103) hb)
                        have n3_ := am (Kd.R_elder' (ru (HO299.out)) (Kd.R_base ho103) hb)
                        have n4_ := am (Kd.R_elder' (ru (HO303.out)) (Kd.R_base ho103) hb)
                        have n5_ := am (Kd.R_elder' (ru (HO312.out)) (Kd.R_base ho103) hb)
                        have n6_ := am (Kd.R_elder' (ru (HO316.out)) (Kd.R_base ho103) hb)
                        have n7_ := am (Kd.R_elder' (ru (HO322.out)) (Kd.R_base ho103) hb)
                        have n8_ := am (Kd.R_elder' (ru (HO328.out)) (Kd.R_base ho103) hb)
                        have n9_ := am (Kd.R_elder' (ru (HO332.out)) (Kd.R_base ho103) hb)
                        have n10_ := am (Kd.R_elder' (ru (HO342.out)) (Kd.R_base ho103) hb)
                        have n11_ := am (Kd.R_elder' (ru (HO350.out)) (Kd.R_base ho103) hb)
                        have n12_ := am (Kd.R_elder' (ru (HO358.out)) (Kd.R_base ho103) hb)
                        have n13_ := am (Kd.R_lower (Kd.R_new' (Kd.R_new' (Kd.R_new' (Kd.R_new' (Kd.R_new' (Kd.R_new' (Kd.R_new' (Kd.R_new' (Kd.R_new' (Kd.R_new' (Kd.R_new' (Kd.R_new' (Kd.R_new' ho103 (Kd.R_lt (ru (HO279.out)))) (Kd.R_lt (ru (HO286.out)))) (Kd.R_lt (ru (HO290.out)))) (Kd.R_lt (ru (HO299.out)))) (Kd.R_lt (ru (HO303.out)))) (Kd.R_lt (ru (HO312.out)))) (Kd.R_lt (ru (HO316.out)))) (Kd.R_lt (ru (HO322.out)))) (Kd.R_lt (ru (HO328.out)))) (Kd.R_lt (ru (HO332.out)))) (Kd.R_lt (ru (HO342.out)))) (Kd.R_lt (ru (HO350.out)))) (Kd.R_lt (ru (HO358.out)))) (below_size (by repeat (first | (with_reducible first | exact HB.out | apply below_alloc | apply pw_below_drewN | apply below_drew1 | refine below_set ?_ GE292.out | refine below_set ?_ GE305.out | refine below_set ?_ GE318.out | refine below_set ?_ GE324.out) | exact HB.out))))
                        have n14_ := am (blk_below (g := gb292) (o := .cells #[.int .u64 t287, .slice Ao47 t288.length co47] 25 (0, 0)) (bu BK292.out) hb)
                        have n15_ := am (blk_below (g := gb305) (o := .cells #[.int .u64 t300, .slice Ao57 t301.length co57] 25 (0, 0)) (bu BK305.out) hb)
                        have n16_ := am (blk_below (g := gb318) (o := .cells #[.int .u64 t313, .slice Ao68 t314.length co68] 25 (0, 0)) (bu BK318.out) hb)
                        have n17_ := am (blk_below (g := gb324) (o := .cells #[.int .u64 t319, .slice Ao75 t320.length co75] 25 (0, 0)) (bu BK324.out) hb)
                        have n18_ := am (below_step (by repeat (first | (with_reducible first | exact HB.out | apply below_alloc | apply pw_below_drewN | apply below_drew1 | refine below_set ?_ GE292.out | refine below_set ?_ GE305.out | refine below_set ?_ GE318.out | refine below_set ?_ GE324.out) | exact HB.out)) hb)
                        clear HO279
                        clear HO286
                        clear HO290
                        clear HO299
                        clear HO303
                        clear HO312
                        clear HO316
                        clear HO322
                        clear HO328
                        clear HO332
                        clear HO342
                        clear HO350
                        clear HO358
                        clear BK292
                        clear BK305
                        clear BK318
                        clear BK324
                        clear HB
                        have HO279 := n0_
                        have HO286 := n1_
                        have HO290 := n2_
                        have HO299 := n3_
                        have HO303 := n4_
                        have HO312 := n5_
                        have HO316 := n6_
                        have HO322 := n7_
                        have HO328 := n8_
                        have HO332 := n9_
                        have HO342 := n10_
                        have HO350 := n11_
                        have HO358 := n12_
                        have HO362 := n13_
                        have BK292 := n14_
                        have BK305 := n15_
                        have BK318 := n16_
                        have BK324 := n17_
                        have HB := n18_
                        clear n0_ n1_ n2_ n3_ n4_ n5_ n6_ n7_ n8_ n9_ n10_ n11_ n12_ n13_ n14_ n15_ n16_ n17_ n18_
                        clear hb ho103
                        obtain ⟨Ao104, co104, eo104⟩ := Kd.R_slice HO362.out
                        (first | subst eo104 | (injection eo104 with f1_ f2_ f3_; have f4_ := f1_.symm; have f5_ := f3_.symm; clear f1_ f2_ f3_; subst f4_; subst f5_))
                        refine hK.out _ _ ⟨(blk_cell BK292.out 0).trans rfl, (blk_cell BK292.out 1).trans rfl, (blk_cell BK318.out 0).trans rfl, (blk_cell BK318.out 1).trans rfl⟩ (fun hHeld => ?_)
                        clear hK K
                        refine norm_ (a' := ?_) ?_ ?_
                        rotate_left
                        · show Act.put _ (some 82) _ = _
                          simp only [Act.put, List.setIfInBounds_toArray, List.set_cons_zero, List.set_cons_succ, i64_w, i32_w]
                          rfl
                        refine one_ (i := 41) (N := some 83) (tb 42 54) rfl rfl (one_of HT_.out (by kernel_rfl)) (by decide) (fun K hK => ?_)
                        refine goes_ Try.func29 (by kernel_rfl) rfl #[.int .u64 0, .slice Ao104 y360.length co104] (by rfl) rfl rfl (by (try simp only [List.map_toArray, List.map_cons, List.map_nil]); first | done | rfl | (simp only [List.length_drop, List.length_take]; rfl)) ?_
                        with_reducible refine (tallymanlaw17_view.calls 0 (fun k_ => some k_ = (.slice Ao104 y360.length co104 : Value).ownBlock) (.slice Ao104 y360.length co104) y360 t363 t364 w _ ?side1 ?side2 A28.out).mono ?_
                        (case side1 => repeat (first | (with_reducible first | exact HB.out | apply below_alloc | apply pw_below_drewN | apply below_drew1 | refine below_set ?_ GE292.out | refine below_set ?_ GE305.out | refine below_set ?_ GE318.out | refine below_set ?_ GE324.out) | exact HB.out))
                        (case side2 => exact Kd.R_tight rfl HO362.out)
                        rintro e w105 ⟨v365, rfl, ho0, hb, hkp⟩
                        refine ⟨_, rfl, ?_⟩
                        have n0_ := am (Kd.R_mono (ok' := fun k_ => nb Ao43 t284.length co43 k_ ∧ nb Ao47 t288.length co47 k_ ∧ nb Ao52 t297.length co52 k_ ∧ nb Ao57 t301.length co57 k_ ∧ nb Ao62 t310.length co62 k_ ∧ nb Ao68 t314.length co68 k_ ∧ nb Ao75 t320.length co75 k_ ∧ nb Ao79 t326.length co79 k_ ∧ nb Ao80 t330.length co80 k_ ∧ nb Ao88 t340.length co88 k_ ∧ nb Ao94 t348.length co94 k_ ∧ nb Ao100 t356.length co100 k_ ∧ some k_ ≠ (v365 : Value).ownBlock) (Kd.R_keptB (HO279.out) hkp (fun k_ hk_ hs_ => (hk_.2) hs_)) (fun k_ hk_ => ⟨hk_.1.1.1, hk_.1.1.2.1, hk_.1.1.2.2.1, hk_.1.1.2.2.2.1, hk_.1.1.2.2.2.2.1, hk_.1.1.2.2.2.2.2.1, hk_.1.1.2.2.2.2.2.2.1, hk_.1.1.2.2.2.2.2.2.2.1, hk_.1.1.2.2.2.2.2.2.2.2.1, hk_.1.1.2.2.2.2.2.2.2.2.2.1, hk_.1.1.2.2.2.2.2.2.2.2.2.2.1, hk_.1.1.2.2.2.2.2.2.2.2.2.2.2, fun e_ => Or.elim (ho0.1 k_ e_.symm) (fun hs_ => hk_.2.1 hs_) (fun hn_ => Nat.not_le.2 hk_.2.2 hn_)⟩))
                        have n1_ := am (Kd.R_mono (ok' := fun k_ => nb Ao42 t277.length co42 k_ ∧ nb Ao47 t288.length co47 k_ ∧ nb Ao52 t297.length co52 k_ ∧ nb Ao57 t301.length co57 k_ ∧ nb Ao62 t310.length co62 k_ ∧ nb Ao68 t314.length co68 k_ ∧ nb Ao75 t320.length co75 k_ ∧ nb Ao79 t326.length co79 k_ ∧ nb Ao80 t330.length co80 k_ ∧ nb Ao88 t340.length co88 k_ ∧ nb Ao94 t348.length co94 k_ ∧ nb Ao100 t356.length co100 k_ ∧ some k_ ≠ (v365 : Value).ownBlock) (Kd.R_keptB (HO286.out) hkp (fun k_ hk_ hs_ => (hk_.2) hs_)) (fun k_ hk_ => ⟨hk_.1.1.1, hk_.1.1.2.1, hk_.1.1.2.2.1, hk_.1.1.2.2.2.1, hk_.1.1.2.2.2.2.1, hk_.1.1.2.2.2.2.2.1, hk_.1.1.2.2.2.2.2.2.1, hk_.1.1.2.2.2.2.2.2.2.1, hk_.1.1.2.2.2.2.2.2.2.2.1, hk_.1.1.2.2.2.2.2.2.2.2.2.1, hk_.1.1.2.2.2.2.2.2.2.2.2.2.1, hk_.1.1.2.2.2.2.2.2.2.2.2.2.2, fun e_ => Or.elim (ho0.1 k_ e_.symm) (fun hs_ => hk_.2.1 hs_) (fun hn_ => Nat.not_le.2 hk_.2.2 hn_)⟩))
                        have n2_ := am (Kd.R_mono (ok' := fun k_ => nb Ao42 t277.length co42 k_ ∧ nb Ao43 t284.length co43 k_ ∧ nb Ao52 t297.length co52 k_ ∧ nb Ao57 t301.length co57 k_ ∧ nb Ao62 t310.length co62 k_ ∧ nb Ao68 t314.length co68 k_ ∧ nb Ao75 t320.length co75 k_ ∧ nb Ao79 t326.length co79 k_ ∧ nb Ao80 t330.length co80 k_ ∧ nb Ao88 t340.length co88 k_ ∧ nb Ao94 t348.length co94 k_ ∧ nb Ao100 t356.length co100 k_ ∧ some k_ ≠ (v365 : Value).ownBlock) (Kd.R_keptB (HO290.out) hkp (fun k_ hk_ hs_ => (hk_.2) hs_)) (fun k_ hk_ => ⟨hk_.1.1.1, hk_.1.1.2.1, hk_.1.1.2.2.1, hk_.1.1.2.2.2.1, hk_.1.1.2.2.2.2.1, hk_.1.1.2.2.2.2.2.1, hk_.1.1.2.2.2.2.2.2.1, hk_.1.1.2.2.2.2.2.2.2.1, hk_.1.1.2.2.2.2.2.2.2.2.1, hk_.1.1.2.2.2.2.2.2.2.2.2.1, hk_.1.1.2.2.2.2.2.2.2.2.2.2.1, hk_.1.1.2.2.2.2.2.2.2.2.2.2.2, fun e_ => Or.elim (ho0.1 k_ e_.symm) (fun hs_ => hk_.2.1 hs_) (fun hn_ => Nat.not_le.2 hk_.2.2 hn_)⟩))
                        have n3_ := am (blk_kept (bu BK292.out) hkp (fun hs_ => (fun e_ => (Kd.R_ne HO362.out BK292.out (by decide)) e_) hs_))
                        have n4_ := am (Kd.R_mono (ok' := fun k_ => nb Ao42 t277.length co42 k_ ∧ nb Ao43 t284.length co43 k_ ∧ nb Ao47 t288.length co47 k_ ∧ nb Ao57 t301.length co57 k_ ∧ nb Ao62 t310.length co62 k_ ∧ nb Ao68 t314.length co68 k_ ∧ nb Ao75 t320.length co75 k_ ∧ nb Ao79 t326.length co79 k_ ∧ nb Ao80 t330.length co80 k_ ∧ nb Ao88 t340.length co88 k_ ∧ nb Ao94 t348.length co94 k_ ∧ nb Ao100 t356.length co100 k_ ∧ some k_ ≠ (v365 : Value).ownBlock) (Kd.R_keptB (HO299.out) hkp (fun k_ hk_ hs_ => (hk_.2) hs_)) (fun k_ hk_ => ⟨hk_.1.1.1, hk_.1.1.2.1, hk_.1.1.2.2.1, hk_.1.1.2.2.2.1, hk_.1.1.2.2.2.2.1, hk_.1.1.2.2.2.2.2.1, hk_.1.1.2.2.2.2.2.2.1, hk_.1.1.2.2.2.2.2.2.2.1, hk_.1.1.2.2.2.2.2.2.2.2.1, hk_.1.1.2.2.2.2.2.2.2.2.2.1, hk_.1.1.2.2.2.2.2.2.2.2.2.2.1, hk_.1.1.2.2.2.2.2.2.2.2.2.2.2, fun e_ => Or.elim (ho0.1 k_ e_.symm) (fun hs_ => hk_.2.1 hs_) (fun hn_ => Nat.not_le.2 hk_.2.2 hn_)⟩))
                        have n5_ := am (Kd.R_mono (ok' := fun k_ => nb Ao42 t277.length co42 k_ ∧ nb Ao43 t284.length co43 k_ ∧ nb Ao47 t288.length co47 k_ ∧ nb Ao52 t297.length co52 k_ ∧ nb Ao62 t310.length co62 k_ ∧ nb Ao68 t314.length co68 k_ ∧ nb Ao75 t320.length co75 k_ ∧ nb Ao79 t326.length co79 k_ ∧ nb Ao80 t330.length co80 k_ ∧ nb Ao88 t340.length co88 k_ ∧ nb Ao94 t348.length co94 k_ ∧ nb Ao100 t356.length co100 k_ ∧ some k_ ≠ (v365 : Value).ownBlock) (Kd.R_keptB (HO303.out) hkp (fun k_ hk_ hs_ => (hk_.2) hs_)) (fun k_ hk_ => ⟨hk_.1.1.1, hk_.1.1.2.1, hk_.1.1.2.2.1, hk_.1.1.2.2.2.1, hk_.1.1.2.2.2.2.1, hk_.1.1.2.2.2.2.2.1, hk_.1.1.2.2.2.2.2.2.1, hk_.1.1.2.2.2.2.2.2.2.1, hk_.1.1.2.2.2.2.2.2.2.2.1, hk_.1.1.2.2.2.2.2.2.2.2.2.1, hk_.1.1.2.2.2.2.2.2.2.2.2.2.1, hk_.1.1.2.2.2.2.2.2.2.2.2.2.2, fun e_ => Or.elim (ho0.1 k_ e_.symm) (fun hs_ => hk_.2.1 hs_) (fun hn_ => Nat.not_le.2 hk_.2.2 hn_)⟩))
                        have n6_ := am (blk_kept (bu BK305.out) hkp (fun hs_ => (fun e_ => (Kd.R_ne HO362.out BK305.out (by decide)) e_) hs_))
                        have n7_ := am (Kd.R_mono (ok' := fun k_ => nb Ao42 t277.length co42 k_ ∧ nb Ao43 t284.length co43 k_ ∧ nb Ao47 t288.length co47 k_ ∧ nb Ao52 t297.length co52 k_ ∧ nb Ao57 t301.length co57 k_ ∧ nb Ao68 t314.length co68 k_ ∧ nb Ao75 t320.length co75 k_ ∧ nb Ao79 t326.length co79 k_ ∧ nb Ao80 t330.length co80 k_ ∧ nb Ao88 t340.length co88 k_ ∧ nb Ao94 t348.length co94 k_ ∧ nb Ao100 t356.length co100 k_ ∧ some k_ ≠ (v365 : Value).ownBlock) (Kd.R_keptB (HO312.out) hkp (fun k_ hk_ hs_ => (hk_.2) hs_)) (fun k_ hk_ => ⟨hk_.1.1.1, hk_.1.1.2.1, hk_.1.1.2.2.1, hk_.1.1.2.2.2.1, hk_.1.1.2.2.2.2.1, hk_.1.1.2.2.2.2.2.1, hk_.1.1.2.2.2.2.2.2.1, hk_.1.1.2.2.2.2.2.2.2.1, hk_.1.1.2.2.2.2.2.2.2.2.1, hk_.1.1.2.2.2.2.2.2.2.2.2.1, hk_.1.1.2.2.2.2.2.2.2.2.2.2.1, hk_.1.1.2.2.2.2.2.2.2.2.2.2.2, fun e_ => Or.elim (ho0.1 k_ e_.symm) (fun hs_ => hk_.2.1 hs_) (fun hn_ => Nat.not_le.2 hk_.2.2 hn_)⟩))
                        have n8_ := am (Kd.R_mono (ok' := fun k_ => nb Ao42 t277.length co42 k_ ∧ nb Ao43 t284.length co43 k_ ∧ nb Ao47 t288.length co47 k_ ∧ nb Ao52 t297.length co52 k_ ∧ nb Ao57 t301.length co57 k_ ∧ nb Ao62 t310.length co62 k_ ∧ nb Ao75 t320.length co75 k_ ∧ nb Ao79 t326.length co79 k_ ∧ nb Ao80 t330.length co80 k_ ∧ nb Ao88 t340.length co88 k_ ∧ nb Ao94 t348.length co94 k_ ∧ nb Ao100 t356.length co100 k_ ∧ some k_ ≠ (v365 : Value).ownBlock) (Kd.R_keptB (HO316.out) hkp (fun k_ hk_ hs_ => (hk_.2) hs_)) (fun k_ hk_ => ⟨hk_.1.1.1, hk_.1.1.2.1, hk_.1.1.2.2.1, hk_.1.1.2.2.2.1, hk_.1.1.2.2.2.2.1, hk_.1.1.2.2.2.2.2.1, hk_.1.1.2.2.2.2.2.2.1, hk_.1.1.2.2.2.2.2.2.2.1, hk_.1.1.2.2.2.2.2.2.2.2.1, hk_.1.1.2.2.2.2.2.2.2.2.2.1, hk_.1.1.2.2.2.2.2.2.2.2.2.2.1, hk_.1.1.2.2.2.2.2.2.2.2.2.2.2, fun e_ => Or.elim (ho0.1 k_ e_.symm) (fun hs_ => hk_.2.1 hs_) (fun hn_ => Nat.not_le.2 hk_.2.2 hn_)⟩))
                        have n9_ := am (blk_kept (bu BK318.out) hkp (fun hs_ => (fun e_ => (Kd.R_ne HO362.out BK318.out (by decide)) e_) hs_))
                        have n10_ := am (Kd.R_mono (ok' := fun k_ => nb Ao42 t277.length co42 k_ ∧ nb Ao43 t284.length co43 k_ ∧ nb Ao47 t288.length co47 k_ ∧ nb Ao52 t297.length co52 k_ ∧ nb Ao57 t301.length co57 k_ ∧ nb Ao62 t310.length co62 k_ ∧ nb Ao68 t314.length co68 k_ ∧ nb Ao79 t326.length co79 k_ ∧ nb Ao80 t330.length co80 k_ ∧ nb Ao88 t340.length co88 k_ ∧ nb Ao94 t348.length co94 k_ ∧ nb Ao100 t356.length co100 k_ ∧ some k_ ≠ (v365 : Value).ownBlock) (Kd.R_keptB (HO322.out) hkp (fun k_ hk_ hs_ => (hk_.2) hs_)) (fun k_ hk_ => ⟨hk_.1.1.1, hk_.1.1.2.1, hk_.1.1.2.2.1, hk_.1.1.2.2.2.1, hk_.1.1.2.2.2.2.1, hk_.1.1.2.2.2.2.2.1, hk_.1.1.2.2.2.2.2.2.1, hk_.1.1.2.2.2.2.2.2.2.1, hk_.1.1.2.2.2.2.2.2.2.2.1, hk_.1.1.2.2.2.2.2.2.2.2.2.1, hk_.1.1.2.2.2.2.2.2.2.2.2.2.1, hk_.1.1.2.2.2.2.2.2.2.2.2.2.2, fun e_ => Or.elim (ho0.1 k_ e_.symm) (fun hs_ => hk_.2.1 hs_) (fun hn_ => Nat.not_le.2 hk_.2.2 hn_)⟩))
                        have n11_ := am (blk_kept (bu BK324.out) hkp (fun hs_ => (fun e_ => (Kd.R_ne HO362.out BK324.out (by decide)) e_) hs_))
                        have n12_ := am (Kd.R_mono (ok' := fun k_ => nb Ao42 t277.length co42 k_ ∧ nb Ao43 t284.length co43 k_ ∧ nb Ao47 t288.length co47 k_ ∧ nb Ao52 t297.length co52 k_ ∧ nb Ao57 t301.length co57 k_ ∧ nb Ao62 t310.length co62 k_ ∧ nb Ao68 t314.length co68 k_ ∧ nb Ao75 t320.length co75 k_ ∧ nb Ao80 t330.length co80 k_ ∧ nb Ao88 t340.length co88 k_ ∧ nb Ao94 t348.length co94 k_ ∧ nb Ao100 t356.length co100 k_ ∧ some k_ ≠ (v365 : Value).ownBlock) (Kd.R_keptB (HO328.out) hkp (fun k_ hk_ hs_ => (hk_.2) hs_)) (fun k_ hk_ => ⟨hk_.1.1.1, hk_.1.1.2.1, hk_.1.1.2.2.1, hk_.1.1.2.2.2.1, hk_.1.1.2.2.2.2.1, hk_.1.1.2.2.2.2.2.1, hk_.1.1.2.2.2.2.2.2.1, hk_.1.1.2.2.2.2.2.2.2.1, hk_.1.1.2.2.2.2.2.2.2.2.1, hk_.1.1.2.2.2.2.2.2.2.2.2.1, hk_.1.1.2.2.2.2.2.2.2.2.2.2.1, hk_.1.1.2.2.2.2.2.2.2.2.2.2.2, fun e_ => Or.elim (ho0.1 k_ e_.symm) (fun hs_ => hk_.2.1 hs_) (fun hn_ => Nat.not_le.2 hk_.2.2 hn_)⟩))
                        have n13_ := am (Kd.R_mono (ok' := fun k_ => nb Ao42 t277.length co42 k_ ∧ nb Ao43 t284.length co43 k_ ∧ nb Ao47 t288.length co47 k_ ∧ nb Ao52 t297.length co52 k_ ∧ nb Ao57 t301.length co57 k_ ∧ nb Ao62 t310.length co62 k_ ∧ nb Ao68 t314.length co68 k_ ∧ nb Ao75 t320.length co75 k_ ∧ nb Ao79 t326.length co79 k_ ∧ nb Ao88 t340.length co88 k_ ∧ nb Ao94 t348.length co94 k_ ∧ nb Ao100 t356.length co100 k_ ∧ some k_ ≠ (v365 : Value).ownBlock) (Kd.R_keptB (HO332.out) hkp (fun k_ hk_ hs_ => (hk_.2) hs_)) (fun k_ hk_ => ⟨hk_.1.1.1, hk_.1.1.2.1, hk_.1.1.2.2.1, hk_.1.1.2.2.2.1, hk_.1.1.2.2.2.2.1, hk_.1.1.2.2.2.2.2.1, hk_.1.1.2.2.2.2.2.2.1, hk_.1.1.2.2.2.2.2.2.2.1, hk_.1.1.2.2.2.2.2.2.2.2.1, hk_.1.1.2.2.2.2.2.2.2.2.2.1, hk_.1.1.2.2.2.2.2.2.2.2.2.2.1, hk_.1.1.2.2.2.2.2.2.2.2.2.2.2, fun e_ => Or.elim (ho0.1 k_ e_.symm) (fun hs_ => hk_.2.1 hs_) (fun hn_ => Nat.not_le.2 hk_.2.2 hn_)⟩))
                        have n14_ := am (Kd.R_mono (ok' := fun k_ => nb Ao42 t277.length co42 k_ ∧ nb Ao43 t284.length co43 k_ ∧ nb Ao47 t288.length co47 k_ ∧ nb Ao52 t297.length co52 k_ ∧ nb Ao57 t301.length co57 k_ ∧ nb Ao62 t310.length co62 k_ ∧ nb Ao68 t314.length co68 k_ ∧ nb Ao75 t320.length co75 k_ ∧ nb Ao79 t326.length co79 k_ ∧ nb Ao80 t330.length co80 k_ ∧ nb Ao94 t348.length co94 k_ ∧ nb Ao100 t356.length co100 k_ ∧ some k_ ≠ (v365 : Value).ownBlock) (Kd.R_keptB (HO342.out) hkp (fun k_ hk_ hs_ => (hk_.2) hs_)) (fun k_ hk_ => ⟨hk_.1.1.1, hk_.1.1.2.1, hk_.1.1.2.2.1, hk_.1.1.2.2.2.1, hk_.1.1.2.2.2.2.1, hk_.1.1.2.2.2.2.2.1, hk_.1.1.2.2.2.2.2.2.1, hk_.1.1.2.2.2.2.2.2.2.1, hk_.1.1.2.2.2.2.2.2.2.2.1, hk_.1.1.2.2.2.2.2.2.2.2.2.1, hk_.1.1.2.2.2.2.2.2.2.2.2.2.1, hk_.1.1.2.2.2.2.2.2.2.2.2.2.2, fun e_ => Or.elim (ho0.1 k_ e_.symm) (fun hs_ => hk_.2.1 hs_) (fun hn_ => Nat.not_le.2 hk_.2.2 hn_)⟩))
                        have n15_ := am (Kd.R_mono (ok' := fun k_ => nb Ao42 t277.length co42 k_ ∧ nb Ao43 t284.length co43 k_ ∧ nb Ao47 t288.length co47 k_ ∧ nb Ao52 t297.length co52 k_ ∧ nb Ao57 t301.length co57 k_ ∧ nb Ao62 t310.length co62 k_ ∧ nb Ao68 t314.length co68 k_ ∧ nb Ao75 t320.length co75 k_ ∧ nb Ao79 t326.length co79 k_ ∧ nb Ao80 t330.length co80 k_ ∧ nb Ao88 t340.length co88 k_ ∧ nb Ao100 t356.length co100 k_ ∧ some k_ ≠ (v365 : Value).ownBlock) (Kd.R_keptB (HO350.out) hkp (fun k_ hk_ hs_ => (hk_.2) hs_)) (fun k_ hk_ => ⟨hk_.1.1.1, hk_.1.1.2.1, hk_.1.1.2.2.1, hk_.1.1.2.2.2.1, hk_.1.1.2.2.2.2.1, hk_.1.1.2.2.2.2.2.1, hk_.1.1.2.2.2.2.2.2.1, hk_.1.1.2.2.2.2.2.2.2.1, hk_.1.1.2.2.2.2.2.2.2.2.1, hk_.1.1.2.2.2.2.2.2.2.2.2.1, hk_.1.1.2.2.2.2.2.2.2.2.2.2.1, hk_.1.1.2.2.2.2.2.2.2.2.2.2.2, fun e_ => Or.elim (ho0.1 k_ e_.symm) (fun hs_ => hk_.2.1 hs_) (fun hn_ => Nat.not_le.2 hk_.2.2 hn_)⟩))
                        have n16_ := am (Kd.R_mono (ok' := fun k_ => nb Ao42 t277.length co42 k_ ∧ nb Ao43 t284.length co43 k_ ∧ nb Ao47 t288.length co47 k_ ∧ nb Ao52 t297.length co52 k_ ∧ nb Ao57 t301.length co57 k_ ∧ nb Ao62 t310.length co62 k_ ∧ nb Ao68 t314.length co68 k_ ∧ nb Ao75 t320.length co75 k_ ∧ nb Ao79 t326.length co79 k_ ∧ nb Ao80 t330.length co80 k_ ∧ nb Ao88 t340.length co88 k_ ∧ nb Ao94 t348.length co94 k_ ∧ some k_ ≠ (v365 : Value).ownBlock) (Kd.R_keptB (HO358.out) hkp (fun k_ hk_ hs_ => (hk_.2) hs_)) (fun k_ hk_ => ⟨hk_.1.1.1, hk_.1.1.2.1, hk_.1.1.2.2.1, hk_.1.1.2.2.2.1, hk_.1.1.2.2.2.2.1, hk_.1.1.2.2.2.2.2.1, hk_.1.1.2.2.2.2.2.2.1, hk_.1.1.2.2.2.2.2.2.2.1, hk_.1.1.2.2.2.2.2.2.2.2.1, hk_.1.1.2.2.2.2.2.2.2.2.2.1, hk_.1.1.2.2.2.2.2.2.2.2.2.2.1, hk_.1.1.2.2.2.2.2.2.2.2.2.2.2, fun e_ => Or.elim (ho0.1 k_ e_.symm) (fun hs_ => hk_.2.1 hs_) (fun hn_ => Nat.not_le.2 hk_.2.2 hn_)⟩))
                        have n17_ := am (Kd.R_mono (ok' := fun k_ => nb Ao42 t277.length co42 k_ ∧ nb Ao43 t284.length co43 k_ ∧ nb Ao47 t288.length co47 k_ ∧ nb Ao52 t297.length co52 k_ ∧ nb Ao57 t301.length co57 k_ ∧ nb Ao62 t310.length co62 k_ ∧ nb Ao68 t314.length co68 k_ ∧ nb Ao75 t320.length co75 k_ ∧ nb Ao79 t326.length co79 k_ ∧ nb Ao80 t330.length co80 k_ ∧ nb Ao88 t340.length co88 k_ ∧ nb Ao94 t348.length co94 k_ ∧ nb Ao100 t356.length co100 k_) ho0 (fun k_ hk_ => ⟨Or.elim hk_ (fun hs_ => fun e_ => (((HO279.out).1 k_ e_.symm).2) hs_) (fun hn_ => (Kd.fresh' (Kd.R_lt (ru (HO279.out))) k_ hn_)), Or.elim hk_ (fun hs_ => fun e_ => (((HO286.out).1 k_ e_.symm).2) hs_) (fun hn_ => (Kd.fresh' (Kd.R_lt (ru (HO286.out))) k_ hn_)), Or.elim hk_ (fun hs_ => fun e_ => (((HO290.out).1 k_ e_.symm).2) hs_) (fun hn_ => (Kd.fresh' (Kd.R_lt (ru (HO290.out))) k_ hn_)), Or.elim hk_ (fun hs_ => fun e_ => (((HO299.out).1 k_ e_.symm).2) hs_) (fun hn_ => (Kd.fresh' (Kd.R_lt (ru (HO299.out))) k_ hn_)), Or.elim hk_ (fun hs_ => fun e_ => (((HO303.out).1 k_ e_.symm).2) hs_) (fun hn_ => (Kd.fresh' (Kd.R_lt (ru (HO303.out))) k_ hn_)), Or.elim hk_ (fun hs_ => fun e_ => (((HO312.out).1 k_ e_.symm).2) hs_) (fun hn_ => (Kd.fresh' (Kd.R_lt (ru (HO312.out))) k_ hn_)), Or.elim hk_ (fun hs_ => fun e_ => (((HO316.out).1 k_ e_.symm).2) hs_) (fun hn_ => (Kd.fresh' (Kd.R_lt (ru (HO316.out))) k_ hn_)), Or.elim hk_ (fun hs_ => fun e_ => (((HO322.out).1 k_ e_.symm).2) hs_) (fun hn_ => (Kd.fresh' (Kd.R_lt (ru (HO322.out))) k_ hn_)), Or.elim hk_ (fun hs_ => fun e_ => (((HO328.out).1 k_ e_.symm).2) hs_) (fun hn_ => (Kd.fresh' (Kd.R_lt (ru (HO328.out))) k_ hn_)), Or.elim hk_ (fun hs_ => fun e_ => (((HO332.out).1 k_ e_.symm).2) hs_) (fun hn_ => (Kd.fresh' (Kd.R_lt (ru (HO332.out))) k_ hn_)), Or.elim hk_ (fun hs_ => fun e_ => (((HO342.out).1 k_ e_.symm).2) hs_) (fun hn_ => (Kd.fresh' (Kd.R_lt (ru (HO342.out))) k_ hn_)), Or.elim hk_ (fun hs_ => fun e_ => (((HO350.out).1 k_ e_.symm).2) hs_) (fun hn_ => (Kd.fresh' (Kd.R_lt (ru (HO350.out))) k_ hn_)), Or.elim hk_ (fun hs_ => fun e_ => (((HO358.out).1 k_ e_.symm).2) hs_) (fun hn_ => (Kd.fresh' (Kd.R_lt (ru (HO358.out))) k_ hn_))⟩))
                        have n18_ := am (hb)
                        clear HO279
                        clear HO286
                        clear HO290
                        clear BK292
                        clear HO299
                        clear HO303
                        clear BK305
                        clear HO312
                        clear HO316
                        clear BK318
                        clear HO322
                        clear BK324
                        clear HO328
                        clear HO332
                        clear HO342
                        clear HO350
                        clear HO358
                        clear HB
                        clear HO362
                        have HO279 := n0_
                        have HO286 := n1_
                        have HO290 := n2_
                        have BK292 := n3_
                        have HO299 := n4_
                        have HO303 := n5_
                        have BK305 := n6_
                        have HO312 := n7_
                        have HO316 := n8_
                        have BK318 := n9_
                        have HO322 := n10_
                        have BK324 := n11_
                        have HO328 := n12_
                        have HO332 := n13_
                        have HO342 := n14_
                        have HO350 := n15_
                        have HO358 := n16_
                        have HO366 := n17_
                        have HB := n18_
                        clear n0_ n1_ n2_ n3_ n4_ n5_ n6_ n7_ n8_ n9_ n10_ n11_ n12_ n13_ n14_ n15_ n16_ n17_ n18_
                        (try clear hb)
                        (try clear hkp)
                        (try clear ho0)
                        obtain ⟨Ao106, co106, eo106⟩ := Kd.R_slice HO366.out
                        (first | subst eo106 | (injection eo106 with f1_ f2_ f3_; have f4_ := f1_.symm; have f5_ := f3_.symm; clear f1_ f2_ f3_; subst f4_; subst f5_))
                        refine hK.out _ _ ⟨(blk_cell BK292.out 0).trans rfl, (blk_cell BK292.out 1).trans rfl, (blk_cell BK318.out 0).trans rfl, (blk_cell BK318.out 1).trans rfl⟩ (fun hHeld => ?_)
                        clear hK K
                        refine norm_ (a' := ?_) ?_ ?_
                        rotate_left
                        · show Act.put _ (some 83) _ = _
                          simp only [Act.put, List.setIfInBounds_toArray, List.set_cons_zero, List.set_cons_succ, i64_w, i32_w]
                          rfl
                        refine one_ (i := 42) (N := some 84) (tb 43 54) rfl rfl (one_of HT_.out (by kernel_rfl)) (by decide) (fun K hK => ?_)
                        refine goes_ Try.func16 (by kernel_rfl) rfl #[.agg #[.int .u64 t363, .slice Ao106 t364.length co106]] (by rfl) rfl rfl (by (try simp only [List.map_toArray, List.map_cons, List.map_nil]); first | done | rfl | (simp only [List.length_drop, List.length_take]; rfl)) ?_
                        with_reducible refine (setops_Check.calls k t363 _ _ t364 t367 _ ?side1 ?side2 A29.out).mono ?_
                        (case side1 => repeat (first | exact (Kd.R_reads' HO366.out).2.2 | (with_reducible refine Kd.C_alloc ?_ _) | (with_reducible refine Kd.C_drewN ?_ _) | (with_reducible refine Kd.C_drew ?_)))
                        (case side2 => exact (Kd.R_reads' HO366.out).2.1)
                        rintro e w107 ⟨rfl, hb⟩
                        refine ⟨_, rfl, ?_⟩
                        have n0_ := am (Kd.R_below (ru (HO279.out)) hb)
                        have n1_ := am (Kd.R_below (ru (HO286.out)) hb)
                        have n2_ := am (Kd.R_below (ru (HO290.out)) hb)
                        have n3_ := am (Kd.R_below (ru (HO299.out)) hb)
                        have n4_ := am (Kd.R_below (ru (HO303.out)) hb)
                        have n5_ := am (Kd.R_below (ru (HO312.out)) hb)
                        have n6_ := am (Kd.R_below (ru (HO316.out)) hb)
                        have n7_ := am (Kd.R_below (ru (HO322.out)) hb)
                        have n8_ := am (Kd.R_below (ru (HO328.out)) hb)
                        have n9_ := am (Kd.R_below (ru (HO332.out)) hb)
                        have n10_ := am (Kd.R_below (ru (HO342.out)) hb)
                        have n11_ := am (Kd.R_below (ru (HO350.out)) hb)
                        have n12_ := am (Kd.R_below (ru (HO358.out)) hb)
                        have n13_ := am (Kd.R_below (ru (HO366.out)) hb)
                        have n14_ := am (blk_below (g := gb292) (o := .cells #[.int .u64 t287, .slice Ao47 t288.length co47] 25 (0, 0)) (bu BK292.out) hb)
                        have n15_ := am (blk_below (g := gb305) (o := .cells #[.int .u64 t300, .slice Ao57 t301.length co57] 25 (0, 0)) (bu BK305.out) hb)
                        have n16_ := am (blk_below (g := gb318) (o := .cells #[.int .u64 t313, .slice Ao68 t314.length co68] 25 (0, 0)) (bu BK318.out) hb)
                        have n17_ := am (blk_below (g := gb324) (o := .cells #[.int .u64 t319, .slice Ao75 t320.length co75] 25 (0, 0)) (bu BK324.out) hb)
                        have n18_ := am (below_step (by repeat (first | (with_reducible first | exact HB.out | apply below_alloc | apply pw_below_drewN | apply below_drew1 | refine below_set ?_ GE292.out | refine below_set ?_ GE305.out | refine below_set ?_ GE318.out | refine below_set ?_ GE324.out) | exact HB.out)) hb)
                        clear HO279
                        clear HO286
                        clear HO290
                        clear HO299
                        clear HO303
                        clear HO312
                        clear HO316
                        clear HO322
                        clear HO328
                        clear HO332
                        clear HO342
                        clear HO350
                        clear HO358
                        clear HO366
                        clear BK292
                        clear BK305
                        clear BK318
                        clear BK324
                        clear HB
                        have HO279 := n0_
                        have HO286 := n1_
                        have HO290 := n2_
                        have HO299 := n3_
                        have HO303 := n4_
                        have HO312 := n5_
                        have HO316 := n6_
                        have HO322 := n7_
                        have HO328 := n8_
                        have HO332 := n9_
                        have HO342 := n10_
                        have HO350 := n11_
                        have HO358 := n12_
                        have HO366 := n13_
                        have BK292 := n14_
                        have BK305 := n15_
                        have BK318 := n16_
                        have BK324 := n17_
                        have HB := n18_
                        clear n0_ n1_ n2_ n3_ n4_ n5_ n6_ n7_ n8_ n9_ n10_ n11_ n12_ n13_ n14_ n15_ n16_ n17_ n18_
                        (try clear hb)
                        (try clear hb2)
                        (try clear hk)
                        (try clear hi)
                        refine hK.out _ _ ⟨(blk_cell BK292.out 0).trans rfl, (blk_cell BK292.out 1).trans rfl, (blk_cell BK318.out 0).trans rfl, (blk_cell BK318.out 1).trans rfl⟩ (fun hHeld => ?_)
                        clear hK K
                        refine norm_ (a' := ?_) ?_ ?_
                        rotate_left
                        · show Act.put _ (some 84) _ = _
                          simp only [Act.put, List.setIfInBounds_toArray, List.set_cons_zero, List.set_cons_succ, i64_w, i32_w]
                          rfl
                        refine pure_ (i := 43) (N := some 85) (v := ?_) (a' := ?_) (tb 44 54) rfl rfl (any_of HT_.out (by kernel_rfl)) (fun _ _ _ h => h) (Or.inl ⟨by rfl, ?_⟩) ?_ ?_
                        rotate_left
                        · intro w'
                          go_simp
                          with_reducible rfl
                        rotate_left
                        · simp only [Act.put, List.setIfInBounds_toArray, List.set_cons_zero, List.set_cons_succ, i64_w, i32_w]
                          rfl
                        refine pure_ (i := 44) (N := some 86) (v := ?_) (a' := ?_) (tb 45 54) rfl rfl (any_of HT_.out (by kernel_rfl)) (fun _ _ _ h => h) (Or.inl ⟨by rfl, ?_⟩) ?_ ?_
                        rotate_left
                        · intro w'
                          go_simp
                          with_reducible rfl
                        rotate_left
                        · simp only [Act.put, List.setIfInBounds_toArray, List.set_cons_zero, List.set_cons_succ, i64_w, i32_w]
                          rfl
                        refine pure_ (i := 45) (N := some 87) (v := ?_) (a' := ?_) (tb 46 54) rfl rfl (any_of HT_.out (by kernel_rfl)) (fun _ _ _ h => h) (Or.inl ⟨by rfl, ?_⟩) ?_ ?_
                        rotate_left
                        · intro w'
                          go_simp
                          with_reducible rfl
                        rotate_left
                        · simp only [Act.put, List.setIfInBounds_toArray, List.set_cons_zero, List.set_cons_succ, i64_w, i32_w]
                          rfl
                        refine one_ (i := 46) (N := some 88) (tb 47 54) rfl rfl (one_of HT_.out (by kernel_rfl)) (by decide) (fun K hK => ?_)
                        refine Kd.R_lit_step (Kd.int .u64) _ 22 ?hg (N := 88) ?hd (xs := ([0] : List Int)) (inner := [.int .u64 0]) (ok := fun _ => True) (okp := fun _ => True) ?hr ?hp (fun _ hk => hk) trivial (Below.refl _ _) (Nat.le_refl _) (by simp) ?_; (case hd => rfl); (case hg => rfl); (case hr => first | (go_simp; done) | (go_simp; rfl)); (case hp => exact (Reps.one (show Kd.M (Kd.int .u64) _ _ _ 0 [.int .u64 0] from rfl) (Reps.none _ _)))
                        intro v369 w108 ho109 hb hg_ hnew_
                        clear hg_ hnew_
                        (first | rw [← Ny368.out] at ho109 | (simp only [Int.reduceToNat] at ho109; rw [← Ny368.out] at ho109))
                        have n0_ := am (Kd.R_elder' (ru (HO279.out)) (Kd.R_base ho109) hb)
                        have n1_ := am (Kd.R_elder' (ru (HO286.out)) (Kd.R_base ho109) hb)
                        have n2_ := am (Kd.R_elder' (ru (HO290.out)) (Kd.R_base ho109) hb)
                        have n3_ := am (Kd.R_elder' (ru (HO299.out)) (Kd.R_base ho109) hb)
                        have n4_ := am (Kd.R_elder' (ru (HO303.out)) (Kd.R_base ho109) hb)
                        have n5_ := am (Kd.R_elder' (ru (HO312.out)) (Kd.R_base ho109) hb)
                        have n6_ := am (Kd.R_elder' (ru (HO316.out)) (Kd.R_base ho109) hb)
                        have n7_ := am (Kd.R_elder' (ru (HO322.out)) (Kd.R_base ho109) hb)
                        have n8_ := am (Kd.R_elder' (ru (HO328.out)) (Kd.R_base ho109) hb)
                        have n9_ := am (Kd.R_elder' (ru (HO332.out)) (Kd.R_base ho109) hb)
                        have n10_ := am (Kd.R_elder' (ru (HO342.out)) (Kd.R_base ho109) hb)
                        have n11_ := am (Kd.R_elder' (ru (HO350.out)) (Kd.R_base ho109) hb)
                        have n12_ := am (Kd.R_elder' (ru (HO358.out)) (Kd.R_base ho109) hb)
                        have n13_ := am (Kd.R_elder' (ru (HO366.out)) (Kd.R_base ho109) hb)
                        have n14_ := am (Kd.R_lower (Kd.R_new' (Kd.R_new' (Kd.R_new' (Kd.R_new' (Kd.R_new' (Kd.R_new' (Kd.R_new' (Kd.R_new' (Kd.R_new' (Kd.R_new' (Kd.R_new' (Kd.R_new' (Kd.R_new' (Kd.R_new' ho109 (Kd.R_lt (ru (HO279.out)))) (Kd.R_lt (ru (HO286.out)))) (Kd.R_lt (ru (HO290.out)))) (Kd.R_lt (ru (HO299.out)))) (Kd.R_lt (ru (HO303.out)))) (Kd.R_lt (ru (HO312.out)))) (Kd.R_lt (ru (HO316.out)))) (Kd.R_lt (ru (HO322.out)))) (Kd.R_lt (ru (HO328.out)))) (Kd.R_lt (ru (HO332.out)))) (Kd.R_lt (ru (HO342.out)))) (Kd.R_lt (ru (HO350.out)))) (Kd.R_lt (ru (HO358.out)))) (Kd.R_lt (ru (HO366.out)))) (below_size (by repeat (first | (with_reducible first | exact HB.out | apply below_alloc | apply pw_below_drewN | apply below_drew1 | refine below_set ?_ GE292.out | refine below_set ?_ GE305.out | refine below_set ?_ GE318.out | refine below_set ?_ GE324.out) | exact HB.out))))
                        have n15_ := am (blk_below (g := gb292) (o := .cells #[.int .u64 t287, .slice Ao47 t288.length co47] 25 (0, 0)) (bu BK292.out) hb)
                        have n16_ := am (blk_below (g := gb305) (o := .cells #[.int .u64 t300, .slice Ao57 t301.length co57] 25 (0, 0)) (bu BK305.out) hb)
                        have n17_ := am (blk_below (g := gb318) (o := .cells #[.int .u64 t313, .slice Ao68 t314.length co68] 25 (0, 0)) (bu BK318.out) hb)
                        have n18_ := am (blk_below (g := gb324) (o := .cells #[.int .u64 t319, .slice Ao75 t320.length co75] 25 (0, 0)) (bu BK324.out) hb)
                        have n19_ := am (below_step (by repeat (first | (with_reducible first | exact HB.out | apply below_alloc | apply pw_below_drewN | apply below_drew1 | refine below_set ?_ GE292.out | refine below_set ?_ GE305.out | refine below_set ?_ GE318.out | refine below_set ?_ GE324.out) | exact HB.out)) hb)
                        clear HO279
                        clear HO286
                        clear HO290
                        clear HO299
                        clear HO303
                        clear HO312
                        clear HO316
                        clear HO322
                        clear HO328
                        clear HO332
                        clear HO342
                        clear HO350
                        clear HO358
                        clear HO366
                        clear BK292
                        clear BK305
                        clear BK318
                        clear BK324
                        clear HB
                        have HO279 := n0_
                        have HO286 := n1_
                        have HO290 := n2_
                        have HO299 := n3_
                        have HO303 := n4_
                        have HO312 := n5_
                        have HO316 := n6_
                        have HO322 := n7_
                        have HO328 := n8_
                        have HO332 := n9_
                        have HO342 := n10_
                        have HO350 := n11_
                        have HO358 := n12_
                        have HO366 := n13_
                        have HO370 := n14_
                        have BK292 := n15_
                        have BK305 := n16_
                        have BK318 := n17_
                        have BK324 := n18_
                        have HB := n19_
                        clear n0_ n1_ n2_ n3_ n4_ n5_ n6_ n7_ n8_ n9_ n10_ n11_ n12_ n13_ n14_ n15_ n16_ n17_ n18_ n19_
                        clear hb ho109
                        obtain ⟨Ao110, co110, eo110⟩ := Kd.R_slice HO370.out
                        (first | subst eo110 | (injection eo110 with f1_ f2_ f3_; have f4_ := f1_.symm; have f5_ := f3_.symm; clear f1_ f2_ f3_; subst f4_; subst f5_))
                        refine hK.out _ _ ⟨(blk_cell BK292.out 0).trans rfl, (blk_cell BK292.out 1).trans rfl, (blk_cell BK318.out 0).trans rfl, (blk_cell BK318.out 1).trans rfl⟩ (fun hHeld => ?_)
                        clear hK K
                        refine norm_ (a' := ?_) ?_ ?_
                        rotate_left
                        · show Act.put _ (some 88) _ = _
                          simp only [Act.put, List.setIfInBounds_toArray, List.set_cons_zero, List.set_cons_succ, i64_w, i32_w]
                          rfl
                        refine one_ (i := 47) (N := some 89) (tb 48 54) rfl rfl (one_of HT_.out (by kernel_rfl)) (by decide) (fun K hK => ?_)
                        refine goes_ Try.func29 (by kernel_rfl) rfl #[.int .u64 1, .slice Ao110 y368.length co110] (by rfl) rfl rfl (by (try simp only [List.map_toArray, List.map_cons, List.map_nil]); first | done | rfl | (simp only [List.length_drop, List.length_take]; rfl)) ?_
                        with_reducible refine (tallymanlaw17_view.calls 1 (fun k_ => some k_ = (.slice Ao110 y368.length co110 : Value).ownBlock) (.slice Ao110 y368.length co110) y368 t371 t372 w _ ?side1 ?side2 A31.out).mono ?_
                        (case side1 => repeat (first | (with_reducible first | exact HB.out | apply below_alloc | apply pw_below_drewN | apply below_drew1 | refine below_set ?_ GE292.out | refine below_set ?_ GE305.out | refine below_set ?_ GE318.out | refine below_set ?_ GE324.out) | exact HB.out))
                        (case side2 => exact Kd.R_tight rfl HO370.out)
                        rintro e w111 ⟨v373, rfl, ho0, hb, hkp⟩
                        refine ⟨_, rfl, ?_⟩
                        have n0_ := am (Kd.R_mono (ok' := fun k_ => nb Ao43 t284.length co43 k_ ∧ nb Ao47 t288.length co47 k_ ∧ nb Ao52 t297.length co52 k_ ∧ nb Ao57 t301.length co57 k_ ∧ nb Ao62 t310.length co62 k_ ∧ nb Ao68 t314.length co68 k_ ∧ nb Ao75 t320.length co75 k_ ∧ nb Ao79 t326.length co79 k_ ∧ nb Ao80 t330.length co80 k_ ∧ nb Ao88 t340.length co88 k_ ∧ nb Ao94 t348.length co94 k_ ∧ nb Ao100 t356.length co100 k_ ∧ nb Ao106 t364.length co106 k_ ∧ some k_ ≠ (v373 : Value).ownBlock) (Kd.R_keptB (HO279.out) hkp (fun k_ hk_ hs_ => (hk_.2) hs_)) (fun k_ hk_ => ⟨hk_.1.1.1, hk_.1.1.2.1, hk_.1.1.2.2.1, hk_.1.1.2.2.2.1, hk_.1.1.2.2.2.2.1, hk_.1.1.2.2.2.2.2.1, hk_.1.1.2.2.2.2.2.2.1, hk_.1.1.2.2.2.2.2.2.2.1, hk_.1.1.2.2.2.2.2.2.2.2.1, hk_.1.1.2.2.2.2.2.2.2.2.2.1, hk_.1.1.2.2.2.2.2.2.2.2.2.2.1, hk_.1.1.2.2.2.2.2.2.2.2.2.2.2.1, hk_.1.1.2.2.2.2.2.2.2.2.2.2.2.2, fun e_ => Or.elim (ho0.1 k_ e_.symm) (fun hs_ => hk_.2.1 hs_) (fun hn_ => Nat.not_le.2 hk_.2.2 hn_)⟩))
                        have n1_ := am (Kd.R_mono (ok' := fun k_ => nb Ao42 t277.length co42 k_ ∧ nb Ao47 t288.length co47 k_ ∧ nb Ao52 t297.length co52 k_ ∧ nb Ao57 t301.length co57 k_ ∧ nb Ao62 t310.length co62 k_ ∧ nb Ao68 t314.length co68 k_ ∧ nb Ao75 t320.length co75 k_ ∧ nb Ao79 t326.length co79 k_ ∧ nb Ao80 t330.length co80 k_ ∧ nb Ao88 t340.length co88 k_ ∧ nb Ao94 t348.length co94 k_ ∧ nb Ao100 t356.length co100 k_ ∧ nb Ao106 t364.length co106 k_ ∧ some k_ ≠ (v373 : Value).ownBlock) (Kd.R_keptB (HO286.out) hkp (fun k_ hk_ hs_ => (hk_.2) hs_)) (fun k_ hk_ => ⟨hk_.1.1.1, hk_.1.1.2.1, hk_.1.1.2.2.1, hk_.1.1.2.2.2.1, hk_.1.1.2.2.2.2.1, hk_.1.1.2.2.2.2.2.1, hk_.1.1.2.2.2.2.2.2.1, hk_.1.1.2.2.2.2.2.2.2.1, hk_.1.1.2.2.2.2.2.2.2.2.1, hk_.1.1.2.2.2.2.2.2.2.2.2.1, hk_.1.1.2.2.2.2.2.2.2.2.2.2.1, hk_.1.1.2.2.2.2.2.2.2.2.2.2.2.1, hk_.1.1.2.2.2.2.2.2.2.2.2.2.2.2, fun e_ => Or.elim (ho0.1 k_ e_.symm) (fun hs_ => hk_.2.1 hs_) (fun hn_ => Nat.not_le.2 hk_.2.2 hn_)⟩))
                        have n2_ := am (Kd.R_mono (ok' := fun k_ => nb Ao42 t277.length co42 k_ ∧ nb Ao43 t284.length co43 k_ ∧ nb Ao52 t297.length co52 k_ ∧ nb Ao57 t301.length co57 k_ ∧ nb Ao62 t310.length co62 k_ ∧ nb Ao68 t314.length co68 k_ ∧ nb Ao75 t320.length co75 k_ ∧ nb Ao79 t326.length co79 k_ ∧ nb Ao80 t330.length co80 k_ ∧ nb Ao88 t340.length co88 k_ ∧ nb Ao94 t348.length co94 k_ ∧ nb Ao100 t356.length co100 k_ ∧ nb Ao106 t364.length co106 k_ ∧ some k_ ≠ (v373 : Value).ownBlock) (Kd.R_keptB (HO290.out) hkp (fun k_ hk_ hs_ => (hk_.2) hs_)) (fun k_ hk_ => ⟨hk_.1.1.1, hk_.1.1.2.1, hk_.1.1.2.2.1, hk_.1.1.2.2.2.1, hk_.1.1.2.2.2.2.1, hk_.1.1.2.2.2.2.2.1, hk_.1.1.2.2.2.2.2.2.1, hk_.1.1.2.2.2.2.2.2.2.1, hk_.1.1.2.2.2.2.2.2.2.2.1, hk_.1.1.2.2.2.2.2.2.2.2.2.1, hk_.1.1.2.2.2.2.2.2.2.2.2.2.1, hk_.1.1.2.2.2.2.2.2.2.2.2.2.2.1, hk_.1.1.2.2.2.2.2.2.2.2.2.2.2.2, fun e_ => Or.elim (ho0.1 k_ e_.symm) (fun hs_ => hk_.2.1 hs_) (fun hn_ => Nat.not_le.2 hk_.2.2 hn_)⟩))
                        have n3_ := am (blk_kept (bu BK292.out) hkp (fun hs_ => (fun e_ => (Kd.R_ne HO370.out BK292.out (by decide)) e_) hs_))
                        have n4_ := am (Kd.R_mono (ok' := fun k_ => nb Ao42 t277.length co42 k_ ∧ nb Ao43 t284.length co43 k_ ∧ nb Ao47 t288.length co47 k_ ∧ nb Ao57 t301.length co57 k_ ∧ nb Ao62 t310.length co62 k_ ∧ nb Ao68 t314.length co68 k_ ∧ nb Ao75 t320.length co75 k_ ∧ nb Ao79 t326.length co79 k_ ∧ nb Ao80 t330.length co80 k_ ∧ nb Ao88 t340.length co88 k_ ∧ nb Ao94 t348.length co94 k_ ∧ nb Ao100 t356.length co100 k_ ∧ nb Ao106 t364.length co106 k_ ∧ some k_ ≠ (v373 : Value).ownBlock) (Kd.R_keptB (HO299.out) hkp (fun k_ hk_ hs_ => (hk_.2) hs_)) (fun k_ hk_ => ⟨hk_.1.1.1, hk_.1.1.2.1, hk_.1.1.2.2.1, hk_.1.1.2.2.2.1, hk_.1.1.2.2.2.2.1, hk_.1.1.2.2.2.2.2.1, hk_.1.1.2.2.2.2.2.2.1, hk_.1.1.2.2.2.2.2.2.2.1, hk_.1.1.2.2.2.2.2.2.2.2.1, hk_.1.1.2.2.2.2.2.2.2.2.2.1, hk_.1.1.2.2.2.2.2.2.2.2.2.2.1, hk_.1.1.2.2.2.2.2.2.2.2.2.2.2.1, hk_.1.1.2.2.2.2.2.2.2.2.2.2.2.2, fun e_ => Or.elim (ho0.1 k_ e_.symm) (fun hs_ => hk_.2.1 hs_) (fun hn_ => Nat.not_le.2 hk_.2.2 hn_)⟩))
                        have n5_ := am (Kd.R_mono (ok' := fun k_ => nb Ao42 t277.length co42 k_ ∧ nb Ao43 t284.length co43 k_ ∧ nb Ao47 t288.length co47 k_ ∧ nb Ao52 t297.length co52 k_ ∧ nb Ao62 t310.length co62 k_ ∧ nb Ao68 t314.length co68 k_ ∧ nb Ao75 t320.length co75 k_ ∧ nb Ao79 t326.length co79 k_ ∧ nb Ao80 t330.length co80 k_ ∧ nb Ao88 t340.length co88 k_ ∧ nb Ao94 t348.length co94 k_ ∧ nb Ao100 t356.length co100 k_ ∧ nb Ao106 t364.length co106 k_ ∧ some k_ ≠ (v373 : Value).ownBlock) (Kd.R_keptB (HO303.out) hkp (fun k_ hk_ hs_ => (hk_.2) hs_)) (fun k_ hk_ => ⟨hk_.1.1.1, hk_.1.1.2.1, hk_.1.1.2.2.1, hk_.1.1.2.2.2.1, hk_.1.1.2.2.2.2.1, hk_.1.1.2.2.2.2.2.1, hk_.1.1.2.2.2.2.2.2.1, hk_.1.1.2.2.2.2.2.2.2.1, hk_.1.1.2.2.2.2.2.2.2.2.1, hk_.1.1.2.2.2.2.2.2.2.2.2.1, hk_.1.1.2.2.2.2.2.2.2.2.2.2.1, hk_.1.1.2.2.2.2.2.2.2.2.2.2.2.1, hk_.1.1.2.2.2.2.2.2.2.2.2.2.2.2, fun e_ => Or.elim (ho0.1 k_ e_.symm) (fun hs_ => hk_.2.1 hs_) (fun hn_ => Nat.not_le.2 hk_.2.2 hn_)⟩))
                        have n6_ := am (blk_kept (bu BK305.out) hkp (fun hs_ => (fun e_ => (Kd.R_ne HO370.out BK305.out (by decide)) e_) hs_))
                        have n7_ := am (Kd.R_mono (ok' := fun k_ => nb Ao42 t277.length co42 k_ ∧ nb Ao43 t284.length co43 k_ ∧ nb Ao47 t288.length co47 k_ ∧ nb Ao52 t297.length co52 k_ ∧ nb Ao57 t301.length co57 k_ ∧ nb Ao68 t314.length co68 k_ ∧ nb Ao75 t320.length co75 k_ ∧ nb Ao79 t326.length co79 k_ ∧ nb Ao80 t330.length co80 k_ ∧ nb Ao88 t340.length co88 k_ ∧ nb Ao94 t348.length co94 k_ ∧ nb Ao100 t356.length co100 k_ ∧ nb Ao106 t364.length co106 k_ ∧ some k_ ≠ (v373 : Value).ownBlock) (Kd.R_keptB (HO312.out) hkp (fun k_ hk_ hs_ => (hk_.2) hs_)) (fun k_ hk_ => ⟨hk_.1.1.1, hk_.1.1.2.1, hk_.1.1.2.2.1, hk_.1.1.2.2.2.1, hk_.1.1.2.2.2.2.1, hk_.1.1.2.2.2.2.2.1, hk_.1.1.2.2.2.2.2.2.1, hk_.1.1.2.2.2.2.2.2.2.1, hk_.1.1.2.2.2.2.2.2.2.2.1, hk_.1.1.2.2.2.2.2.2.2.2.2.1, hk_.1.1.2.2.2.2.2.2.2.2.2.2.1, hk_.1.1.2.2.2.2.2.2.2.2.2.2.2.1, hk_.1.1.2.2.2.2.2.2.2.2.2.2.2.2, fun e_ => Or.elim (ho0.1 k_ e_.symm) (fun hs_ => hk_.2.1 hs_) (fun hn_ => Nat.not_le.2 hk_.2.2 hn_)⟩))
                        have n8_ := am (Kd.R_mono (ok' := fun k_ => nb Ao42 t277.length co42 k_ ∧ nb Ao43 t284.length co43 k_ ∧ nb Ao47 t288.length co47 k_ ∧ nb Ao52 t297.length co52 k_ ∧ nb Ao57 t301.length co57 k_ ∧ nb Ao62 t310.length co62 k_ ∧ nb Ao75 t320.length co75 k_ ∧ nb Ao79 t326.length co79 k_ ∧ nb Ao80 t330.length co80 k_ ∧ nb Ao88 t340.length co88 k_ ∧ nb Ao94 t348.length co94 k_ ∧ nb Ao100 t356.length co100 k_ ∧ nb Ao106 t364.length co106 k_ ∧ some k_ ≠ (v373 : Value).ownBlock) (Kd.R_keptB (HO316.out) hkp (fun k_ hk_ hs_ => (hk_.2) hs_)) (fun k_ hk_ => ⟨hk_.1.1.1, hk_.1.1.2.1, hk_.1.1.2.2.1, hk_.1.1.2.2.2.1, hk_.1.1.2.2.2.2.1, hk_.1.1.2.2.2.2.2.1, hk_.1.1.2.2.2.2.2.2.1, hk_.1.1.2.2.2.2.2.2.2.1, hk_.1.1.2.2.2.2.2.2.2.2.1, hk_.1.1.2.2.2.2.2.2.2.2.2.1, hk_.1.1.2.2.2.2.2.2.2.2.2.2.1, hk_.1.1.2.2.2.2.2.2.2.2.2.2.2.1, hk_.1.1.2.2.2.2.2.2.2.2.2.2.2.2, fun e_ => Or.elim (ho0.1 k_ e_.symm) (fun hs_ => hk_.2.1 hs_) (fun hn_ => Nat.not_le.2 hk_.2.2 hn_)⟩))
                        have n9_ := am (blk_kept (bu BK318.out) hkp (fun hs_ => (fun e_ => (Kd.R_ne HO370.out BK318.out (by decide)) e_) hs_))
                        have n10_ := am (Kd.R_mono (ok' := fun k_ => nb Ao42 t277.length co42 k_ ∧ nb Ao43 t284.length co43 k_ ∧ nb Ao47 t288.length co47 k_ ∧ nb Ao52 t297.length co52 k_ ∧ nb Ao57 t301.length co57 k_ ∧ nb Ao62 t310.length co62 k_ ∧ nb Ao68 t314.length co68 k_ ∧ nb Ao79 t326.length co79 k_ ∧ nb Ao80 t330.length co80 k_ ∧ nb Ao88 t340.length co88 k_ ∧ nb Ao94 t348.length co94 k_ ∧ nb Ao100 t356.length co100 k_ ∧ nb Ao106 t364.length co106 k_ ∧ some k_ ≠ (v373 : Value).ownBlock) (Kd.R_keptB (HO322.out) hkp (fun k_ hk_ hs_ => (hk_.2) hs_)) (fun k_ hk_ => ⟨hk_.1.1.1, hk_.1.1.2.1, hk_.1.1.2.2.1, hk_.1.1.2.2.2.1, hk_.1.1.2.2.2.2.1, hk_.1.1.2.2.2.2.2.1, hk_.1.1.2.2.2.2.2.2.1, hk_.1.1.2.2.2.2.2.2.2.1, hk_.1.1.2.2.2.2.2.2.2.2.1, hk_.1.1.2.2.2.2.2.2.2.2.2.1, hk_.1.1.2.2.2.2.2.2.2.2.2.2.1, hk_.1.1.2.2.2.2.2.2.2.2.2.2.2.1, hk_.1.1.2.2.2.2.2.2.2.2.2.2.2.2, fun e_ => Or.elim (ho0.1 k_ e_.symm) (fun hs_ => hk_.2.1 hs_) (fun hn_ => Nat.not_le.2 hk_.2.2 hn_)⟩))
                        have n11_ := am (blk_kept (bu BK324.out) hkp (fun hs_ => (fun e_ => (Kd.R_ne HO370.out BK324.out (by decide)) e_) hs_))
                        have n12_ := am (Kd.R_mono (ok' := fun k_ => nb Ao42 t277.length co42 k_ ∧ nb Ao43 t284.length co43 k_ ∧ nb Ao47 t288.length co47 k_ ∧ nb Ao52 t297.length co52 k_ ∧ nb Ao57 t301.length co57 k_ ∧ nb Ao62 t310.length co62 k_ ∧ nb Ao68 t314.length co68 k_ ∧ nb Ao75 t320.length co75 k_ ∧ nb Ao80 t330.length co80 k_ ∧ nb Ao88 t340.length co88 k_ ∧ nb Ao94 t348.length co94 k_ ∧ nb Ao100 t356.length co100 k_ ∧ nb Ao106 t364.length co106 k_ ∧ some k_ ≠ (v373 : Value).ownBlock) (Kd.R_keptB (HO328.out) hkp (fun k_ hk_ hs_ => (hk_.2) hs_)) (fun k_ hk_ => ⟨hk_.1.1.1, hk_.1.1.2.1, hk_.1.1.2.2.1, hk_.1.1.2.2.2.1, hk_.1.1.2.2.2.2.1, hk_.1.1.2.2.2.2.2.1, hk_.1.1.2.2.2.2.2.2.1, hk_.1.1.2.2.2.2.2.2.2.1, hk_.1.1.2.2.2.2.2.2.2.2.1, hk_.1.1.2.2.2.2.2.2.2.2.2.1, hk_.1.1.2.2.2.2.2.2.2.2.2.2.1, hk_.1.1.2.2.2.2.2.2.2.2.2.2.2.1, hk_.1.1.2.2.2.2.2.2.2.2.2.2.2.2, fun e_ => Or.elim (ho0.1 k_ e_.symm) (fun hs_ => hk_.2.1 hs_) (fun hn_ => Nat.not_le.2 hk_.2.2 hn_)⟩))
                        have n13_ := am (Kd.R_mono (ok' := fun k_ => nb Ao42 t277.length co42 k_ ∧ nb Ao43 t284.length co43 k_ ∧ nb Ao47 t288.length co47 k_ ∧ nb Ao52 t297.length co52 k_ ∧ nb Ao57 t301.length co57 k_ ∧ nb Ao62 t310.length co62 k_ ∧ nb Ao68 t314.length co68 k_ ∧ nb Ao75 t320.length co75 k_ ∧ nb Ao79 t326.length co79 k_ ∧ nb Ao88 t340.length co88 k_ ∧ nb Ao94 t348.length co94 k_ ∧ nb Ao100 t356.length co100 k_ ∧ nb Ao106 t364.length co106 k_ ∧ some k_ ≠ (v373 : Value).ownBlock) (Kd.R_keptB (HO332.out) hkp (fun k_ hk_ hs_ => (hk_.2) hs_)) (fun k_ hk_ => ⟨hk_.1.1.1, hk_.1.1.2.1, hk_.1.1.2.2.1, hk_.1.1.2.2.2.1, hk_.1.1.2.2.2.2.1, hk_.1.1.2.2.2.2.2.1, hk_.1.1.2.2.2.2.2.2.1, hk_.1.1.2.2.2.2.2.2.2.1, hk_.1.1.2.2.2.2.2.2.2.2.1, hk_.1.1.2.2.2.2.2.2.2.2.2.1, hk_.1.1.2.2.2.2.2.2.2.2.2.2.1, hk_.1.1.2.2.2.2.2.2.2.2.2.2.2.1, hk_.1.1.2.2.2.2.2.2.2.2.2.2.2.2, fun e_ => Or.elim (ho0.1 k_ e_.symm) (fun hs_ => hk_.2.1 hs_) (fun hn_ => Nat.not_le.2 hk_.2.2 hn_)⟩))
                        have n14_ := am (Kd.R_mono (ok' := fun k_ => nb Ao42 t277.length co42 k_ ∧ nb Ao43 t284.length co43 k_ ∧ nb Ao47 t288.length co47 k_ ∧ nb Ao52 t297.length co52 k_ ∧ nb Ao57 t301.length co57 k_ ∧ nb Ao62 t310.length co62 k_ ∧ nb Ao68 t314.length co68 k_ ∧ nb Ao75 t320.length co75 k_ ∧ nb Ao79 t326.length co79 k_ ∧ nb Ao80 t330.length co80 k_ ∧ nb Ao94 t348.length co94 k_ ∧ nb Ao100 t356.length co100 k_ ∧ nb Ao106 t364.length co106 k_ ∧ some k_ ≠ (v373 : Value).ownBlock) (Kd.R_keptB (HO342.out) hkp (fun k_ hk_ hs_ => (hk_.2) hs_)) (fun k_ hk_ => ⟨hk_.1.1.1, hk_.1.1.2.1, hk_.1.1.2.2.1, hk_.1.1.2.2.2.1, hk_.1.1.2.2.2.2.1, hk_.1.1.2.2.2.2.2.1, hk_.1.1.2.2.2.2.2.2.1, hk_.1.1.2.2.2.2.2.2.2.1, hk_.1.1.2.2.2.2.2.2.2.2.1, hk_.1.1.2.2.2.2.2.2.2.2.2.1, hk_.1.1.2.2.2.2.2.2.2.2.2.2.1, hk_.1.1.2.2.2.2.2.2.2.2.2.2.2.1, hk_.1.1.2.2.2.2.2.2.2.2.2.2.2.2, fun e_ => Or.elim (ho0.1 k_ e_.symm) (fun hs_ => hk_.2.1 hs_) (fun hn_ => Nat.not_le.2 hk_.2.2 hn_)⟩))
                        have n15_ := am (Kd.R_mono (ok' := fun k_ => nb Ao42 t277.length co42 k_ ∧ nb Ao43 t284.length co43 k_ ∧ nb Ao47 t288.length co47 k_ ∧ nb Ao52 t297.length co52 k_ ∧ nb Ao57 t301.length co57 k_ ∧ nb Ao62 t310.length co62 k_ ∧ nb Ao68 t314.length co68 k_ ∧ nb Ao75 t320.length co75 k_ ∧ nb Ao79 t326.length co79 k_ ∧ nb Ao80 t330.length co80 k_ ∧ nb Ao88 t340.length co88 k_ ∧ nb Ao100 t356.length co100 k_ ∧ nb Ao106 t364.length co106 k_ ∧ some k_ ≠ (v373 : Value).ownBlock) (Kd.R_keptB (HO350.out) hkp (fun k_ hk_ hs_ => (hk_.2) hs_)) (fun k_ hk_ => ⟨hk_.1.1.1, hk_.1.1.2.1, hk_.1.1.2.2.1, hk_.1.1.2.2.2.1, hk_.1.1.2.2.2.2.1, hk_.1.1.2.2.2.2.2.1, hk_.1.1.2.2.2.2.2.2.1, hk_.1.1.2.2.2.2.2.2.2.1, hk_.1.1.2.2.2.2.2.2.2.2.1, hk_.1.1.2.2.2.2.2.2.2.2.2.1, hk_.1.1.2.2.2.2.2.2.2.2.2.2.1, hk_.1.1.2.2.2.2.2.2.2.2.2.2.2.1, hk_.1.1.2.2.2.2.2.2.2.2.2.2.2.2, fun e_ => Or.elim (ho0.1 k_ e_.symm) (fun hs_ => hk_.2.1 hs_) (fun hn_ => Nat.not_le.2 hk_.2.2 hn_)⟩))
                        have n16_ := am (Kd.R_mono (ok' := fun k_ => nb Ao42 t277.length co42 k_ ∧ nb Ao43 t284.length co43 k_ ∧ nb Ao47 t288.length co47 k_ ∧ nb Ao52 t297.length co52 k_ ∧ nb Ao57 t301.length co57 k_ ∧ nb Ao62 t310.length co62 k_ ∧ nb Ao68 t314.length co68 k_ ∧ nb Ao75 t320.length co75 k_ ∧ nb Ao79 t326.length co79 k_ ∧ nb Ao80 t330.length co80 k_ ∧ nb Ao88 t340.length co88 k_ ∧ nb Ao94 t348.length co94 k_ ∧ nb Ao106 t364.length co106 k_ ∧ some k_ ≠ (v373 : Value).ownBlock) (Kd.R_keptB (HO358.out) hkp (fun k_ hk_ hs_ => (hk_.2) hs_)) (fun k_ hk_ => ⟨hk_.1.1.1, hk_.1.1.2.1, hk_.1.1.2.2.1, hk_.1.1.2.2.2.1, hk_.1.1.2.2.2.2.1, hk_.1.1.2.2.2.2.2.1, hk_.1.1.2.2.2.2.2.2.1, hk_.1.1.2.2.2.2.2.2.2.1, hk_.1.1.2.2.2.2.2.2.2.2.1, hk_.1.1.2.2.2.2.2.2.2.2.2.1, hk_.1.1.2.2.2.2.2.2.2.2.2.2.1, hk_.1.1.2.2.2.2.2.2.2.2.2.2.2.1, hk_.1.1.2.2.2.2.2.2.2.2.2.2.2.2, fun e_ => Or.elim (ho0.1 k_ e_.symm) (fun hs_ => hk_.2.1 hs_) (fun hn_ => Nat.not_le.2 hk_.2.2 hn_)⟩))
                        have n17_ := am (Kd.R_mono (ok' := fun k_ => nb Ao42 t277.length co42 k_ ∧ nb Ao43 t284.length co43 k_ ∧ nb Ao47 t288.length co47 k_ ∧ nb Ao52 t297.length co52 k_ ∧ nb Ao57 t301.length co57 k_ ∧ nb Ao62 t310.length co62 k_ ∧ nb Ao68 t314.length co68 k_ ∧ nb Ao75 t320.length co75 k_ ∧ nb Ao79 t326.length co79 k_ ∧ nb Ao80 t330.length co80 k_ ∧ nb Ao88 t340.length co88 k_ ∧ nb Ao94 t348.length co94 k_ ∧ nb Ao100 t356.length co100 k_ ∧ some k_ ≠ (v373 : Value).ownBlock) (Kd.R_keptB (HO366.out) hkp (fun k_ hk_ hs_ => (hk_.2) hs_)) (fun k_ hk_ => ⟨hk_.1.1.1, hk_.1.1.2.1, hk_.1.1.2.2.1, hk_.1.1.2.2.2.1, hk_.1.1.2.2.2.2.1, hk_.1.1.2.2.2.2.2.1, hk_.1.1.2.2.2.2.2.2.1, hk_.1.1.2.2.2.2.2.2.2.1, hk_.1.1.2.2.2.2.2.2.2.2.1, hk_.1.1.2.2.2.2.2.2.2.2.2.1, hk_.1.1.2.2.2.2.2.2.2.2.2.2.1, hk_.1.1.2.2.2.2.2.2.2.2.2.2.2.1, hk_.1.1.2.2.2.2.2.2.2.2.2.2.2.2, fun e_ => Or.elim (ho0.1 k_ e_.symm) (fun hs_ => hk_.2.1 hs_) (fun hn_ => Nat.not_le.2 hk_.2.2 hn_)⟩))
                        have n18_ := am (Kd.R_mono (ok' := fun k_ => nb Ao42 t277.length co42 k_ ∧ nb Ao43 t284.length co43 k_ ∧ nb Ao47 t288.length co47 k_ ∧ nb Ao52 t297.length co52 k_ ∧ nb Ao57 t301.length co57 k_ ∧ nb Ao62 t310.length co62 k_ ∧ nb Ao68 t314.length co68 k_ ∧ nb Ao75 t320.length co75 k_ ∧ nb Ao79 t326.length co79 k_ ∧ nb Ao80 t330.length co80 k_ ∧ nb Ao88 t340.length co88 k_ ∧ nb Ao94 t348.length co94 k_ ∧ nb Ao100 t356.length co100 k_ ∧ nb Ao106 t364.length co106 k_) ho0 (fun k_ hk_ => ⟨Or.elim hk_ (fun hs_ => fun e_ => (((HO279.out).1 k_ e_.symm).2) hs_) (fun hn_ => (Kd.fresh' (Kd.R_lt (ru (HO279.out))) k_ hn_)), Or.elim hk_ (fun hs_ => fun e_ => (((HO286.out).1 k_ e_.symm).2) hs_) (fun hn_ => (Kd.fresh' (Kd.R_lt (ru (HO286.out))) k_ hn_)), Or.elim hk_ (fun hs_ => fun e_ => (((HO290.out).1 k_ e_.symm).2) hs_) (fun hn_ => (Kd.fresh' (Kd.R_lt (ru (HO290.out))) k_ hn_)), Or.elim hk_ (fun hs_ => fun e_ => (((HO299.out).1 k_ e_.symm).2) hs_) (fun hn_ => (Kd.fresh' (Kd.R_lt (ru (HO299.out))) k_ hn_)), Or.elim hk_ (fun hs_ => fun e_ => (((HO303.out).1 k_ e_.symm).2) hs_) (fun hn_ => (Kd.fresh' (Kd.R_lt (ru (HO303.out))) k_ hn_)), Or.elim hk_ (fun hs_ => fun e_ => (((HO312.out).1 k_ e_.symm).2) hs_) (fun hn_ => (Kd.fresh' (Kd.R_lt (ru (HO312.out))) k_ hn_)), Or.elim hk_ (fun hs_ => fun e_ => (((HO316.out).1 k_ e_.symm).2) hs_) (fun hn_ => (Kd.fresh' (Kd.R_lt (ru (HO316.out))) k_ hn_)), Or.elim hk_ (fun hs_ => fun e_ => (((HO322.out).1 k_ e_.symm).2) hs_) (fun hn_ => (Kd.fresh' (Kd.R_lt (ru (HO322.out))) k_ hn_)), Or.elim hk_ (fun hs_ => fun e_ => (((HO328.out).1 k_ e_.symm).2) hs_) (fun hn_ => (Kd.fresh' (Kd.R_lt (ru (HO328.out))) k_ hn_)), Or.elim hk_ (fun hs_ => fun e_ => (((HO332.out).1 k_ e_.symm).2) hs_) (fun hn_ => (Kd.fresh' (Kd.R_lt (ru (HO332.out))) k_ hn_)), Or.elim hk_ (fun hs_ => fun e_ => (((HO342.out).1 k_ e_.symm).2) hs_) (fun hn_ => (Kd.fresh' (Kd.R_lt (ru (HO342.out))) k_ hn_)), Or.elim hk_ (fun hs_ => fun e_ => (((HO350.out).1 k_ e_.symm).2) hs_) (fun hn_ => (Kd.fresh' (Kd.R_lt (ru (HO350.out))) k_ hn_)), Or.elim hk_ (fun hs_ => fun e_ => (((HO358.out).1 k_ e_.symm).2) hs_) (fun hn_ => (Kd.fresh' (Kd.R_lt (ru (HO358.out))) k_ hn_)), Or.elim hk_ (fun hs_ => fun e_ => (((HO366.out).1 k_ e_.symm).2) hs_) (fun hn_ => (Kd.fresh' (Kd.R_lt (ru (HO366.out))) k_ hn_))⟩))
                        have n19_ := am (hb)
                        clear HO279
                        clear HO286
                        clear HO290
                        clear BK292
                        clear HO299
                        clear HO303
                        clear BK305
                        clear HO312
                        clear HO316
                        clear BK318
                        clear HO322
                        clear BK324
                        clear HO328
                        clear HO332
                        clear HO342
                        clear HO350
                        clear HO358
                        clear HO366
                        clear HB
                        clear HO370
                        have HO279 := n0_
                        have HO286 := n1_
                        have HO290 := n2_
                        have BK292 := n3_
                        have HO299 := n4_
                        have HO303 := n5_
                        have BK305 := n6_
                        have HO312 := n7_
                        have HO316 := n8_
                        have BK318 := n9_
                        have HO322 := n10_
                        have BK324 := n11_
                        have HO328 := n12_
                        have HO332 := n13_
                        have HO342 := n14_
                        have HO350 := n15_
                        have HO358 := n16_
                        have HO366 := n17_
                        have HO374 := n18_
                        have HB := n19_
                        clear n0_ n1_ n2_ n3_ n4_ n5_ n6_ n7_ n8_ n9_ n10_ n11_ n12_ n13_ n14_ n15_ n16_ n17_ n18_ n19_
                        (try clear hb)
                        (try clear hkp)
                        (try clear ho0)
                        obtain ⟨Ao112, co112, eo112⟩ := Kd.R_slice HO374.out
                        (first | subst eo112 | (injection eo112 with f1_ f2_ f3_; have f4_ := f1_.symm; have f5_ := f3_.symm; clear f1_ f2_ f3_; subst f4_; subst f5_))
                        refine hK.out _ _ ⟨(blk_cell BK292.out 0).trans rfl, (blk_cell BK292.out 1).trans rfl, (blk_cell BK318.out 0).trans rfl, (blk_cell BK318.out 1).trans rfl⟩ (fun hHeld => ?_)
                        clear hK K
                        refine norm_ (a' := ?_) ?_ ?_
                        rotate_left
                        · show Act.put _ (some 89) _ = _
                          simp only [Act.put, List.setIfInBounds_toArray, List.set_cons_zero, List.set_cons_succ, i64_w, i32_w]
                          rfl
                        refine one_ (i := 48) (N := some 90) (tb 49 54) rfl rfl (one_of HT_.out (by kernel_rfl)) (by decide) (fun K hK => ?_)
                        refine goes_ Try.func22 (by kernel_rfl) rfl #[.agg #[.int .u64 t371, .slice Ao112 t372.length co112]] (by rfl) rfl rfl (by (try simp only [List.map_toArray, List.map_cons, List.map_nil]); first | done | rfl | (simp only [List.length_drop, List.length_take]; rfl)) ?_
                        with_reducible refine (setops_Estimate.calls k t371 _ _ t372 t375 _ ?side1 ?side2 A32.out).mono ?_
                        (case side1 => repeat (first | exact (Kd.R_reads' HO374.out).2.2 | (with_reducible refine Kd.C_alloc ?_ _) | (with_reducible refine Kd.C_drewN ?_ _) | (with_reducible refine Kd.C_drew ?_)))
                        (case side2 => exact (Kd.R_reads' HO374.out).2.1)
                        rintro e w113 ⟨rfl, hb⟩
                        refine ⟨_, rfl, ?_⟩
                        have n0_ := am (Kd.R_below (ru (HO279.out)) hb)
                        have n1_ := am (Kd.R_below (ru (HO286.out)) hb)
                        have n2_ := am (Kd.R_below (ru (HO290.out)) hb)
                        have n3_ := am (Kd.R_below (ru (HO299.out)) hb)
                        have n4_ := am (Kd.R_below (ru (HO303.out)) hb)
                        have n5_ := am (Kd.R_below (ru (HO312.out)) hb)
                        have n6_ := am (Kd.R_below (ru (HO316.out)) hb)
                        have n7_ := am (Kd.R_below (ru (HO322.out)) hb)
                        have n8_ := am (Kd.R_below (ru (HO328.out)) hb)
                        have n9_ := am (Kd.R_below (ru (HO332.out)) hb)
                        have n10_ := am (Kd.R_below (ru (HO342.out)) hb)
                        have n11_ := am (Kd.R_below (ru (HO350.out)) hb)
                        have n12_ := am (Kd.R_below (ru (HO358.out)) hb)
                        have n13_ := am (Kd.R_below (ru (HO366.out)) hb)
                        have n14_ := am (Kd.R_below (ru (HO374.out)) hb)
                        have n15_ := am (blk_below (g := gb292) (o := .cells #[.int .u64 t287, .slice Ao47 t288.length co47] 25 (0, 0)) (bu BK292.out) hb)
                        have n16_ := am (blk_below (g := gb305) (o := .cells #[.int .u64 t300, .slice Ao57 t301.length co57] 25 (0, 0)) (bu BK305.out) hb)
                        have n17_ := am (blk_below (g := gb318) (o := .cells #[.int .u64 t313, .slice Ao68 t314.length co68] 25 (0, 0)) (bu BK318.out) hb)
                        have n18_ := am (blk_below (g := gb324) (o := .cells #[.int .u64 t319, .slice Ao75 t320.length co75] 25 (0, 0)) (bu BK324.out) hb)
                        have n19_ := am (below_step (by repeat (first | (with_reducible first | exact HB.out | apply below_alloc | apply pw_below_drewN | apply below_drew1 | refine below_set ?_ GE292.out | refine below_set ?_ GE305.out | refine below_set ?_ GE318.out | refine below_set ?_ GE324.out) | exact HB.out)) hb)
                        clear HO279
                        clear HO286
                        clear HO290
                        clear HO299
                        clear HO303
                        clear HO312
                        clear HO316
                        clear HO322
                        clear HO328
                        clear HO332
                        clear HO342
                        clear HO350
                        clear HO358
                        clear HO366
                        clear HO374
                        clear BK292
                        clear BK305
                        clear BK318
                        clear BK324
                        clear HB
                        have HO279 := n0_
                        have HO286 := n1_
                        have HO290 := n2_
                        have HO299 := n3_
                        have HO303 := n4_
                        have HO312 := n5_
                        have HO316 := n6_
                        have HO322 := n7_
                        have HO328 := n8_
                        have HO332 := n9_
                        have HO342 := n10_
                        have HO350 := n11_
                        have HO358 := n12_
                        have HO366 := n13_
                        have HO374 := n14_
                        have BK292 := n15_
                        have BK305 := n16_
                        have BK318 := n17_
                        have BK324 := n18_
                        have HB := n19_
                        clear n0_ n1_ n2_ n3_ n4_ n5_ n6_ n7_ n8_ n9_ n10_ n11_ n12_ n13_ n14_ n15_ n16_ n17_ n18_ n19_
                        (try clear hb)
                        (try clear hb2)
                        (try clear hk)
                        (try clear hi)
                        refine hK.out _ _ ⟨(blk_cell BK292.out 0).trans rfl, (blk_cell BK292.out 1).trans rfl, (blk_cell BK318.out 0).trans rfl, (blk_cell BK318.out 1).trans rfl⟩ (fun hHeld => ?_)
                        clear hK K
                        refine norm_ (a' := ?_) ?_ ?_
                        rotate_left
                        · show Act.put _ (some 90) _ = _
                          simp only [Act.put, List.setIfInBounds_toArray, List.set_cons_zero, List.set_cons_succ, i64_w, i32_w]
                          rfl
                        refine pure_ (i := 49) (N := some 91) (v := ?_) (a' := ?_) (tb 50 54) rfl rfl (any_of HT_.out (by kernel_rfl)) (fun _ _ _ h => h) (Or.inl ⟨by rfl, ?_⟩) ?_ ?_
                        rotate_left
                        · intro w'
                          go_simp
                          with_reducible rfl
                        rotate_left
                        · simp only [Act.put, List.setIfInBounds_toArray, List.set_cons_zero, List.set_cons_succ, i64_w, i32_w]
                          rfl
                        refine pure_ (i := 50) (N := some 92) (v := ?_) (a' := ?_) (tb 51 54) rfl rfl (any_of HT_.out (by kernel_rfl)) (fun _ _ _ h => h) (Or.inl ⟨by rfl, ?_⟩) ?_ ?_
                        rotate_left
                        · intro w'
                          go_simp
                          with_reducible rfl
                        rotate_left
                        · simp only [Act.put, List.setIfInBounds_toArray, List.set_cons_zero, List.set_cons_succ, i64_w, i32_w]
                          rfl
                        refine pure_ (i := 51) (N := some 93) (v := ?_) (a' := ?_) (tb 52 54) rfl rfl (any_of HT_.out (by kernel_rfl)) (fun _ _ _ h => h) (Or.inl ⟨by rfl, ?_⟩) ?_ ?_
                        rotate_left
                        · intro w'
                          go_simp
                          with_reducible rfl
                        rotate_left
                        · simp only [Act.put, List.setIfInBounds_toArray, List.set_cons_zero, List.set_cons_succ, i64_w, i32_w]
                          rfl
                        refine pure_ (i := 52) (N := some 94) (v := ?_) (a' := ?_) (tb 53 54) rfl rfl (any_of HT_.out (by kernel_rfl)) (fun _ _ _ h => h) (Or.inl ⟨by rfl, ?_⟩) ?_ ?_
                        rotate_left
                        · intro w'
                          go_simp
                          with_reducible rfl
                        rotate_left
                        · simp only [Act.put, List.setIfInBounds_toArray, List.set_cons_zero, List.set_cons_succ, i64_w, i32_w]
                          rfl
                        refine pure_ (i := 53) (N := some 0) (v := ?_) (a' := ?_) (tb 54 54) rfl rfl (any_of HT_.out (by kernel_rfl)) (fun _ _ _ h => h) (Or.inl ⟨by rfl, ?_⟩) ?_ ?_
                        rotate_left
                        · intro w'
                          go_simp
                          with_reducible rfl
                        rotate_left
                        · simp only [Act.put, List.setIfInBounds_toArray, List.set_cons_zero, List.set_cons_succ, i64_w, i32_w]
                          rfl
                        refine done_ (done_of HT_.out (by kernel_rfl)) ?_
                        try go_wp2
                        go_ret
                        exact ⟨by first | rfl | (simp [errW_none, errW_some] <;> rfl) | (simp [*, errW_none, errW_some] <;> rfl), by repeat (first | (with_reducible first | exact HB.out | apply below_alloc | apply pw_below_drewN | apply below_drew1 | refine below_set ?_ GE292.out | refine below_set ?_ GE305.out | refine below_set ?_ GE318.out | refine below_set ?_ GE324.out) | exact HB.out)⟩
                      · rw [if_neg c33] at H
                        have c33b0 : (t375 == 9223372036854775807) = false := beq_eq_false_iff_ne.mpr c33
                        have c33b1 : (t375 != 9223372036854775807) = true := bne_iff_ne.mpr c33
                        exact absurd H (by simp)
                    · rw [if_neg c30] at H
                      have c30b0 : (t367 == 2) = false := beq_eq_false_iff_ne.mpr c30
                      have c30b1 : (t367 != 2) = true := bne_iff_ne.mpr c30
                      exact absurd H (by simp)
                  · rw [if_neg c27] at H
                    have c27b0 : (t359 == 2) = false := beq_eq_false_iff_ne.mpr c27
                    have c27b1 : (t359 != 2) = true := bne_iff_ne.mpr c27
                    exact absurd H (by simp)
                · rw [if_neg c24] at H
                  have c24b0 : (t333 == 65536) = false := beq_eq_false_iff_ne.mpr c24
                  have c24b1 : (t333 != 65536) = true := bne_iff_ne.mpr c24
                  exact absurd H (by simp)
              · rw [if_neg c23] at H
                have c23b0 : (t323 == 2) = false := beq_eq_false_iff_ne.mpr c23
                have c23b1 : (t323 != 2) = true := bne_iff_ne.mpr c23
                exact absurd H (by simp)
            · replace c22 := Bool.eq_false_iff.mpr c22
              subst c22
              have H1 : (none) = some r := by rw [if_neg (show ¬ (false = true) by decide)] at H; exact H
              clear H
              have H := H1
              clear H1
              exact absurd H (by simp)
          · rw [if_neg c19] at H
            have c19b0 : (t317 == 0) = false := beq_eq_false_iff_ne.mpr c19
            have c19b1 : (t317 != 0) = true := bne_iff_ne.mpr c19
            exact absurd H (by simp)
        · rw [if_neg c18] at H
          have c18b0 : (t304 == 2) = false := beq_eq_false_iff_ne.mpr c18
          have c18b1 : (t304 != 2) = true := bne_iff_ne.mpr c18
          exact absurd H (by simp)
      · replace c17 := Bool.eq_false_iff.mpr c17
        subst c17
        have H1 : (none) = some r := by rw [if_neg (show ¬ (false = true) by decide)] at H; exact H
        clear H
        have H := H1
        clear H1
        exact absurd H (by simp)
    · rw [if_neg c14] at H
      have c14b0 : (t291 == 0) = false := beq_eq_false_iff_ne.mpr c14
      have c14b1 : (t291 != 0) = true := bne_iff_ne.mpr c14
      exact absurd H (by simp)
  · replace c13 := Bool.eq_false_iff.mpr c13
    subst c13
    have H1 : (none) = some r := by rw [if_neg (show ¬ (false = true) by decide)] at H; exact H
    clear H
    have H := H1
    clear H1
    exact absurd H (by simp)

/-- THE ONE PURE STATEMENT of tallymanlaw17_SetopsNames: yours. -/
def tallymanlaw17_SetopsNames.Pure : Prop := ∃ k, tallymanlaw17_SetopsNames.f k  = some true
theorem tallymanlaw17_SetopsNames.walk (P : tallymanlaw17_SetopsNames.Pure)  (w : World)  :
    Calls Try.prog 6 #[] w fun e w' => e = .returned (.bool true) ∧ Below w.heap.size w w' := by
  obtain ⟨k, h⟩ := P  
  refine (tallymanlaw17_SetopsNames.calls k  true w h).mono ?_
  rintro e w' ⟨rfl, hd⟩
  exact ⟨rfl, hd⟩

end Go.Proofs.Ytpagondojdlknaa.H
