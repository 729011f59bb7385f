-- Made by this session's own call of the printer (functions that are proved by hand are taken from a text beside it).
import Derived.Test.YtpagondojdlknaaZ
import Derived.Test.YtpagondojdlknaaH0
import Derived.Test.YtpagondojdlknaaH4
namespace Go.Proofs.Ytpagondojdlknaa.H
open Go.RowKit Go.Proofs.YtpagondojdlknaaW.PrintWords Go.Proofs.YtpagondojdlknaaW.PrintLast Go.Proofs.YtpagondojdlknaaW.PrintMore
attribute [local go_sem] max2_int min2_int max_two min_two max_three min_three max_four min_four   -- for this text's walks alone
set_option linter.unusedVariables false
set_option linter.unusedSimpArgs false

/-! ### tallymanlaw17_lives: function 15 -/
def tallymanlaw17_lives.f (k : Nat)  : Option (Bool) := (tallymanlaw17_view.f 6 (([1, 3, 5] : List Int))).bind fun bt133 => ((tallymanlaw17_view.f 0 (([3, 4, 9] : List Int))).bind fun bt140 => ((setops_Either.f bt133.1 bt133.2 bt140.1 bt140.2).bind fun bt146 => ((setops_Both.f bt133.1 bt133.2 bt140.1 bt140.2).bind fun bt152 => ((setops_Less.f bt133.1 bt133.2 bt140.1 bt140.2).bind fun bt158 => ((setops_Like.f bt133.1 bt133.2 bt140.1 bt140.2).bind fun bt164 => (if bt146.2.2 = 0 then (if bt152.2.2 = 0 then (if bt158.2.2 = 0 then (if bt164.2 = 0 then ((tallymanlaw17_view.f 6 (([1, 3, 4, 5] : List Int))).bind fun bt169 => ((tallymankit_View.f k bt146.1 bt146.2.1 bt169.1 bt169.2).bind fun t173 => (if t173 = true then ((tallymanlaw17_view.f 6 (([3] : List Int))).bind fun bt177 => ((tallymankit_View.f k bt152.1 bt152.2.1 bt177.1 bt177.2).bind fun t181 => (if t181 = true then ((tallymanlaw17_view.f 6 (([1, 5] : List Int))).bind fun bt185 => ((tallymankit_View.f k bt158.1 bt158.2.1 bt185.1 bt185.2).bind fun t189 => (if t189 = true then (if bt164.1 = 16384 then ((tallymanlaw17_view.f 4611686018427387904 (([1, 2, 3, 4] : List Int))).bind fun bt193 => ((setops_Estimate.f k bt193.1 bt193.2).bind fun t197 => (some (t197 == 16)))) else (none)) else (none)))) else (none)))) else (none)))) else (none)) else (none)) else (none)) else (none)))))))
theorem tallymanlaw17_lives.mono : ∀ k, LeO (tallymanlaw17_lives.f k ) (tallymanlaw17_lives.f (k + 1) ) := by
  intro  k
  unfold tallymanlaw17_lives.f
  repeat' first
      | (with_reducible exact setops_Estimate.mono _ _ _)
      | (with_reducible exact tallymankit_View.mono _ _ _ _ _)
      | (with_reducible exact LeO.refl _)
      | (with_reducible exact LeO.none _)
      | (with_reducible refine LeO.ite ?_ ?_)
      | (with_reducible refine LeO.bind ?_ (fun _ => ?_))
      | exact setops_Estimate.mono _ _ _
      | exact tallymankit_View.mono _ _ _ _ _
      | exact LeO.none _
      | refine LeO.ite ?_ ?_
      | refine LeO.bind ?_ (fun _ => ?_)
def tallymanlaw17_lives.T6 : Bool × List (List Nat × List Nat) := (true, [([], []), ([0], [0]), ([1], [1]), ([2], [2]), ([3, 2], [2, 3]), ([2, 4], [2, 4]), ([5, 2], [5]), ([6], [6]), ([7, 6], [6, 7]), ([6, 8], [6, 8]), ([9, 6], [9]), ([10], [10]), ([11, 10], [10, 11]), ([10, 12], [10, 12]), ([13, 10], [13]), ([14], [14]), ([14], [14]), ([16, 14, 14], [14, 16]), ([15, 17, 17, 14], [14, 15, 17]), ([14, 18], [14, 18]), ([19, 18], [19]), ([20], [20]), ([20], [20]), ([22, 20, 20], [20, 22]), ([21, 23, 23, 20], [20, 21, 23]), ([20, 24], [20, 24]), ([25, 24], [25]), ([26], [26]), ([26], [26]), ([28, 26, 26], [26, 28]), ([27, 29, 29, 26], [26, 27, 29]), ([26, 30], [26, 30]), ([31, 30], [31]), ([32], [32]), ([33, 32], [32, 33]), ([32, 34], [32, 34]), ([35, 32], [35]), ([36], [36]), ([37, 36, 36], [36, 37]), ([38, 38, 36], [36, 38]), ([39, 36], [36, 39]), ([36, 40], [36, 40]), ([41, 39, 0, 1, 2, 3, 4, 5, 6, 7, 8, 9, 10, 11, 12, 13, 14, 15, 16, 17, 18, 19, 20, 21, 22, 23, 24, 25, 26, 27, 28, 29, 30, 31, 32, 33, 34, 35, 36, 37, 38, 39, 40, 41], [41])])
def tallymanlaw17_lives.B6 : List Nat := [0, 1, 3, 7, 15, 31, 63, 127, 255, 511, 1023, 2047, 4095, 8191, 16383, 32767, 32767, 98303, 262143, 524287, 1048575, 2097151, 2097151, 6291455, 16777215, 33554431, 67108863, 134217727, 134217727, 402653183, 1073741823, 2147483647, 4294967295, 8589934591, 17179869183, 34359738367, 68719476735, 137438953471, 274877906943, 549755813887, 1099511627775, 2199023255551, 4398046511103]
theorem tallymanlaw17_lives.tab6 : rtab .any (opsOf Try.f15 6) = tallymanlaw17_lives.T6 := by kernel_rfl
theorem tallymanlaw17_lives.bits6 : waitsOk tallymanlaw17_lives.T6.2 tallymanlaw17_lives.B6 = true := by kernel_rfl
set_option maxHeartbeats 8000000 in
set_option maxRecDepth 100000 in
theorem tallymanlaw17_lives.calls (k : Nat)  (r : Bool) (w : World) (h : tallymanlaw17_lives.f k  = some r) :
    Calls Try.prog 15 #[] w fun e w' => e = .returned (.bool r) ∧ Below w.heap.size w w' := by
  have hu25 := Try.underlying25
  have HB := am (Below.refl w.heap.size w)
  have H : ((tallymanlaw17_view.f 6 (([1, 3, 5] : List Int))).bind fun bt133 => ((tallymanlaw17_view.f 0 (([3, 4, 9] : List Int))).bind fun bt140 => ((setops_Either.f bt133.1 bt133.2 bt140.1 bt140.2).bind fun bt146 => ((setops_Both.f bt133.1 bt133.2 bt140.1 bt140.2).bind fun bt152 => ((setops_Less.f bt133.1 bt133.2 bt140.1 bt140.2).bind fun bt158 => ((setops_Like.f bt133.1 bt133.2 bt140.1 bt140.2).bind fun bt164 => (if bt146.2.2 = 0 then (if bt152.2.2 = 0 then (if bt158.2.2 = 0 then (if bt164.2 = 0 then ((tallymanlaw17_view.f 6 (([1, 3, 4, 5] : List Int))).bind fun bt169 => ((tallymankit_View.f k bt146.1 bt146.2.1 bt169.1 bt169.2).bind fun t173 => (if t173 = true then ((tallymanlaw17_view.f 6 (([3] : List Int))).bind fun bt177 => ((tallymankit_View.f k bt152.1 bt152.2.1 bt177.1 bt177.2).bind fun t181 => (if t181 = true then ((tallymanlaw17_view.f 6 (([1, 5] : List Int))).bind fun bt185 => ((tallymankit_View.f k bt158.1 bt158.2.1 bt185.1 bt185.2).bind fun t189 => (if t189 = true then (if bt164.1 = 16384 then ((tallymanlaw17_view.f 4611686018427387904 (([1, 2, 3, 4] : List Int))).bind fun bt193 => ((setops_Estimate.f k bt193.1 bt193.2).bind fun t197 => (some (t197 == 16)))) else (none)) else (none)))) else (none)))) else (none)))) else (none)) else (none)) else (none)) else (none)))))))) = some r := h
  clear h
  obtain ⟨y130, hy130⟩ : ∃ y_ : List Int, y_ = (([1, 3, 5] : List Int)) := ⟨_, rfl⟩
  replace H : ((tallymanlaw17_view.f 6 y130).bind fun bt133 => ((tallymanlaw17_view.f 0 (([3, 4, 9] : List Int))).bind fun bt140 => ((setops_Either.f bt133.1 bt133.2 bt140.1 bt140.2).bind fun bt146 => ((setops_Both.f bt133.1 bt133.2 bt140.1 bt140.2).bind fun bt152 => ((setops_Less.f bt133.1 bt133.2 bt140.1 bt140.2).bind fun bt158 => ((setops_Like.f bt133.1 bt133.2 bt140.1 bt140.2).bind fun bt164 => (if bt146.2.2 = 0 then (if bt152.2.2 = 0 then (if bt158.2.2 = 0 then (if bt164.2 = 0 then ((tallymanlaw17_view.f 6 (([1, 3, 4, 5] : List Int))).bind fun bt169 => ((tallymankit_View.f k bt146.1 bt146.2.1 bt169.1 bt169.2).bind fun t173 => (if t173 = true then ((tallymanlaw17_view.f 6 (([3] : List Int))).bind fun bt177 => ((tallymankit_View.f k bt152.1 bt152.2.1 bt177.1 bt177.2).bind fun t181 => (if t181 = true then ((tallymanlaw17_view.f 6 (([1, 5] : List Int))).bind fun bt185 => ((tallymankit_View.f k bt158.1 bt158.2.1 bt185.1 bt185.2).bind fun t189 => (if t189 = true then (if bt164.1 = 16384 then ((tallymanlaw17_view.f 4611686018427387904 (([1, 2, 3, 4] : List Int))).bind fun bt193 => ((setops_Estimate.f k bt193.1 bt193.2).bind fun t197 => (some (t197 == 16)))) else (none)) else (none)))) else (none)))) else (none)))) else (none)) else (none)) else (none)) else (none)))))))) = some r := by first | (rw [hy130]; with_reducible exact H) | (have H2_ := (Option.bind_some _ _).symm.trans H; rw [hy130]; with_reducible exact H2_) | (have H2_ := (Option.bind_some _ _).symm.trans H; with_reducible exact H2_) | with_reducible exact H | (rw [hy130]; exact H) | exact H
  have Ny130 := Aside0.mk hy130
  clear hy130
  replace H := Option.bind_eq_some_iff.mp H
  obtain ⟨⟨t133, t134⟩, A10, H⟩ := H
  replace H : ((tallymanlaw17_view.f 0 (([3, 4, 9] : List Int))).bind fun bt140 => ((setops_Either.f t133 t134 bt140.1 bt140.2).bind fun bt146 => ((setops_Both.f t133 t134 bt140.1 bt140.2).bind fun bt152 => ((setops_Less.f t133 t134 bt140.1 bt140.2).bind fun bt158 => ((setops_Like.f t133 t134 bt140.1 bt140.2).bind fun bt164 => (if bt146.2.2 = 0 then (if bt152.2.2 = 0 then (if bt158.2.2 = 0 then (if bt164.2 = 0 then ((tallymanlaw17_view.f 6 (([1, 3, 4, 5] : List Int))).bind fun bt169 => ((tallymankit_View.f k bt146.1 bt146.2.1 bt169.1 bt169.2).bind fun t173 => (if t173 = true then ((tallymanlaw17_view.f 6 (([3] : List Int))).bind fun bt177 => ((tallymankit_View.f k bt152.1 bt152.2.1 bt177.1 bt177.2).bind fun t181 => (if t181 = true then ((tallymanlaw17_view.f 6 (([1, 5] : List Int))).bind fun bt185 => ((tallymankit_View.f k bt158.1 bt158.2.1 bt185.1 bt185.2).bind fun t189 => (if t189 = true then (if bt164.1 = 16384 then ((tallymanlaw17_view.f 4611686018427387904 (([1, 2, 3, 4] : List Int))).bind fun bt193 => ((setops_Estimate.f k bt193.1 bt193.2).bind fun t197 => (some (t197 == 16)))) else (none)) else (none)))) else (none)))) else (none)))) else (none)) else (none)) else (none)) else (none))))))) = some r := H
  have A1 := Aside0.mk A10
  clear A10
  obtain ⟨y137, hy137⟩ : ∃ y_ : List Int, y_ = (([3, 4, 9] : List Int)) := ⟨_, rfl⟩
  replace H : ((tallymanlaw17_view.f 0 y137).bind fun bt140 => ((setops_Either.f t133 t134 bt140.1 bt140.2).bind fun bt146 => ((setops_Both.f t133 t134 bt140.1 bt140.2).bind fun bt152 => ((setops_Less.f t133 t134 bt140.1 bt140.2).bind fun bt158 => ((setops_Like.f t133 t134 bt140.1 bt140.2).bind fun bt164 => (if bt146.2.2 = 0 then (if bt152.2.2 = 0 then (if bt158.2.2 = 0 then (if bt164.2 = 0 then ((tallymanlaw17_view.f 6 (([1, 3, 4, 5] : List Int))).bind fun bt169 => ((tallymankit_View.f k bt146.1 bt146.2.1 bt169.1 bt169.2).bind fun t173 => (if t173 = true then ((tallymanlaw17_view.f 6 (([3] : List Int))).bind fun bt177 => ((tallymankit_View.f k bt152.1 bt152.2.1 bt177.1 bt177.2).bind fun t181 => (if t181 = true then ((tallymanlaw17_view.f 6 (([1, 5] : List Int))).bind fun bt185 => ((tallymankit_View.f k bt158.1 bt158.2.1 bt185.1 bt185.2).bind fun t189 => (if t189 = true then (if bt164.1 = 16384 then ((tallymanlaw17_view.f 4611686018427387904 (([1, 2, 3, 4] : List Int))).bind fun bt193 => ((setops_Estimate.f k bt193.1 bt193.2).bind fun t197 => (some (t197 == 16)))) else (none)) else (none)))) else (none)))) else (none)))) else (none)) else (none)) else (none)) else (none))))))) = some r := by first | (rw [hy137]; with_reducible exact H) | (have H2_ := (Option.bind_some _ _).symm.trans H; rw [hy137]; with_reducible exact H2_) | (have H2_ := (Option.bind_some _ _).symm.trans H; with_reducible exact H2_) | with_reducible exact H | (rw [hy137]; exact H) | exact H
  have Ny137 := Aside0.mk hy137
  clear hy137
  replace H := Option.bind_eq_some_iff.mp H
  obtain ⟨⟨t140, t141⟩, A20, H⟩ := H
  replace H : ((setops_Either.f t133 t134 t140 t141).bind fun bt146 => ((setops_Both.f t133 t134 t140 t141).bind fun bt152 => ((setops_Less.f t133 t134 t140 t141).bind fun bt158 => ((setops_Like.f t133 t134 t140 t141).bind fun bt164 => (if bt146.2.2 = 0 then (if bt152.2.2 = 0 then (if bt158.2.2 = 0 then (if bt164.2 = 0 then ((tallymanlaw17_view.f 6 (([1, 3, 4, 5] : List Int))).bind fun bt169 => ((tallymankit_View.f k bt146.1 bt146.2.1 bt169.1 bt169.2).bind fun t173 => (if t173 = true then ((tallymanlaw17_view.f 6 (([3] : List Int))).bind fun bt177 => ((tallymankit_View.f k bt152.1 bt152.2.1 bt177.1 bt177.2).bind fun t181 => (if t181 = true then ((tallymanlaw17_view.f 6 (([1, 5] : List Int))).bind fun bt185 => ((tallymankit_View.f k bt158.1 bt158.2.1 bt185.1 bt185.2).bind fun t189 => (if t189 = true then (if bt164.1 = 16384 then ((tallymanlaw17_view.f 4611686018427387904 (([1, 2, 3, 4] : List Int))).bind fun bt193 => ((setops_Estimate.f k bt193.1 bt193.2).bind fun t197 => (some (t197 == 16)))) else (none)) else (none)))) else (none)))) else (none)))) else (none)) else (none)) else (none)) else (none)))))) = some r := H
  have A2 := Aside0.mk A20
  clear A20
  replace H := Option.bind_eq_some_iff.mp H
  obtain ⟨⟨t146, t147, t150⟩, A30, H⟩ := H
  replace H : ((setops_Both.f t133 t134 t140 t141).bind fun bt152 => ((setops_Less.f t133 t134 t140 t141).bind fun bt158 => ((setops_Like.f t133 t134 t140 t141).bind fun bt164 => (if t150 = 0 then (if bt152.2.2 = 0 then (if bt158.2.2 = 0 then (if bt164.2 = 0 then ((tallymanlaw17_view.f 6 (([1, 3, 4, 5] : List Int))).bind fun bt169 => ((tallymankit_View.f k t146 t147 bt169.1 bt169.2).bind fun t173 => (if t173 = true then ((tallymanlaw17_view.f 6 (([3] : List Int))).bind fun bt177 => ((tallymankit_View.f k bt152.1 bt152.2.1 bt177.1 bt177.2).bind fun t181 => (if t181 = true then ((tallymanlaw17_view.f 6 (([1, 5] : List Int))).bind fun bt185 => ((tallymankit_View.f k bt158.1 bt158.2.1 bt185.1 bt185.2).bind fun t189 => (if t189 = true then (if bt164.1 = 16384 then ((tallymanlaw17_view.f 4611686018427387904 (([1, 2, 3, 4] : List Int))).bind fun bt193 => ((setops_Estimate.f k bt193.1 bt193.2).bind fun t197 => (some (t197 == 16)))) else (none)) else (none)))) else (none)))) else (none)))) else (none)) else (none)) else (none)) else (none))))) = some r := H
  have A3 := Aside0.mk A30
  clear A30
  replace H := Option.bind_eq_some_iff.mp H
  obtain ⟨⟨t152, t153, t156⟩, A40, H⟩ := H
  replace H : ((setops_Less.f t133 t134 t140 t141).bind fun bt158 => ((setops_Like.f t133 t134 t140 t141).bind fun bt164 => (if t150 = 0 then (if t156 = 0 then (if bt158.2.2 = 0 then (if bt164.2 = 0 then ((tallymanlaw17_view.f 6 (([1, 3, 4, 5] : List Int))).bind fun bt169 => ((tallymankit_View.f k t146 t147 bt169.1 bt169.2).bind fun t173 => (if t173 = true then ((tallymanlaw17_view.f 6 (([3] : List Int))).bind fun bt177 => ((tallymankit_View.f k t152 t153 bt177.1 bt177.2).bind fun t181 => (if t181 = true then ((tallymanlaw17_view.f 6 (([1, 5] : List Int))).bind fun bt185 => ((tallymankit_View.f k bt158.1 bt158.2.1 bt185.1 bt185.2).bind fun t189 => (if t189 = true then (if bt164.1 = 16384 then ((tallymanlaw17_view.f 4611686018427387904 (([1, 2, 3, 4] : List Int))).bind fun bt193 => ((setops_Estimate.f k bt193.1 bt193.2).bind fun t197 => (some (t197 == 16)))) else (none)) else (none)))) else (none)))) else (none)))) else (none)) else (none)) else (none)) else (none)))) = some r := H
  have A4 := Aside0.mk A40
  clear A40
  replace H := Option.bind_eq_some_iff.mp H
  obtain ⟨⟨t158, t159, t162⟩, A50, H⟩ := H
  replace H : ((setops_Like.f t133 t134 t140 t141).bind fun bt164 => (if t150 = 0 then (if t156 = 0 then (if t162 = 0 then (if bt164.2 = 0 then ((tallymanlaw17_view.f 6 (([1, 3, 4, 5] : List Int))).bind fun bt169 => ((tallymankit_View.f k t146 t147 bt169.1 bt169.2).bind fun t173 => (if t173 = true then ((tallymanlaw17_view.f 6 (([3] : List Int))).bind fun bt177 => ((tallymankit_View.f k t152 t153 bt177.1 bt177.2).bind fun t181 => (if t181 = true then ((tallymanlaw17_view.f 6 (([1, 5] : List Int))).bind fun bt185 => ((tallymankit_View.f k t158 t159 bt185.1 bt185.2).bind fun t189 => (if t189 = true then (if bt164.1 = 16384 then ((tallymanlaw17_view.f 4611686018427387904 (([1, 2, 3, 4] : List Int))).bind fun bt193 => ((setops_Estimate.f k bt193.1 bt193.2).bind fun t197 => (some (t197 == 16)))) else (none)) else (none)))) else (none)))) else (none)))) else (none)) else (none)) else (none)) else (none))) = some r := H
  have A5 := Aside0.mk A50
  clear A50
  replace H := Option.bind_eq_some_iff.mp H
  obtain ⟨⟨t164, t165⟩, A60, H⟩ := H
  replace H : (if t150 = 0 then (if t156 = 0 then (if t162 = 0 then (if t165 = 0 then ((tallymanlaw17_view.f 6 (([1, 3, 4, 5] : List Int))).bind fun bt169 => ((tallymankit_View.f k t146 t147 bt169.1 bt169.2).bind fun t173 => (if t173 = true then ((tallymanlaw17_view.f 6 (([3] : List Int))).bind fun bt177 => ((tallymankit_View.f k t152 t153 bt177.1 bt177.2).bind fun t181 => (if t181 = true then ((tallymanlaw17_view.f 6 (([1, 5] : List Int))).bind fun bt185 => ((tallymankit_View.f k t158 t159 bt185.1 bt185.2).bind fun t189 => (if t189 = true then (if t164 = 16384 then ((tallymanlaw17_view.f 4611686018427387904 (([1, 2, 3, 4] : List Int))).bind fun bt193 => ((setops_Estimate.f k bt193.1 bt193.2).bind fun t197 => (some (t197 == 16)))) else (none)) else (none)))) else (none)))) else (none)))) else (none)) else (none)) else (none)) else (none)) = some r := H
  have A6 := Aside0.mk A60
  clear A60
  by_cases c7 : t150 = 0
  · rw [if_pos c7] at H
    have c7b0 : (t150 == 0) = true := beq_iff_eq.mpr c7
    have c7b1 : (t150 != 0) = false := bne_eq_false_iff_eq.mpr c7
    clear c7
    by_cases c8 : t156 = 0
    · rw [if_pos c8] at H
      have c8b0 : (t156 == 0) = true := beq_iff_eq.mpr c8
      have c8b1 : (t156 != 0) = false := bne_eq_false_iff_eq.mpr c8
      clear c8
      by_cases c9 : t162 = 0
      · rw [if_pos c9] at H
        have c9b0 : (t162 == 0) = true := beq_iff_eq.mpr c9
        have c9b1 : (t162 != 0) = false := bne_eq_false_iff_eq.mpr c9
        clear c9
        by_cases c10 : t165 = 0
        · rw [if_pos c10] at H
          have c10b0 : (t165 == 0) = true := beq_iff_eq.mpr c10
          have c10b1 : (t165 != 0) = false := bne_eq_false_iff_eq.mpr c10
          clear c10
          obtain ⟨y166, hy166⟩ : ∃ y_ : List Int, y_ = (([1, 3, 4, 5] : List Int)) := ⟨_, rfl⟩
          replace H : ((tallymanlaw17_view.f 6 y166).bind fun bt169 => ((tallymankit_View.f k t146 t147 bt169.1 bt169.2).bind fun t173 => (if t173 = true then ((tallymanlaw17_view.f 6 (([3] : List Int))).bind fun bt177 => ((tallymankit_View.f k t152 t153 bt177.1 bt177.2).bind fun t181 => (if t181 = true then ((tallymanlaw17_view.f 6 (([1, 5] : List Int))).bind fun bt185 => ((tallymankit_View.f k t158 t159 bt185.1 bt185.2).bind fun t189 => (if t189 = true then (if t164 = 16384 then ((tallymanlaw17_view.f 4611686018427387904 (([1, 2, 3, 4] : List Int))).bind fun bt193 => ((setops_Estimate.f k bt193.1 bt193.2).bind fun t197 => (some (t197 == 16)))) else (none)) else (none)))) else (none)))) else (none)))) = some r := by first | (rw [hy166]; with_reducible exact H) | (have H2_ := (Option.bind_some _ _).symm.trans H; rw [hy166]; with_reducible exact H2_) | (have H2_ := (Option.bind_some _ _).symm.trans H; with_reducible exact H2_) | with_reducible exact H | (rw [hy166]; exact H) | exact H
          have Ny166 := Aside0.mk hy166
          clear hy166
          replace H := Option.bind_eq_some_iff.mp H
          obtain ⟨⟨t169, t170⟩, A110, H⟩ := H
          replace H : ((tallymankit_View.f k t146 t147 t169 t170).bind fun t173 => (if t173 = true then ((tallymanlaw17_view.f 6 (([3] : List Int))).bind fun bt177 => ((tallymankit_View.f k t152 t153 bt177.1 bt177.2).bind fun t181 => (if t181 = true then ((tallymanlaw17_view.f 6 (([1, 5] : List Int))).bind fun bt185 => ((tallymankit_View.f k t158 t159 bt185.1 bt185.2).bind fun t189 => (if t189 = true then (if t164 = 16384 then ((tallymanlaw17_view.f 4611686018427387904 (([1, 2, 3, 4] : List Int))).bind fun bt193 => ((setops_Estimate.f k bt193.1 bt193.2).bind fun t197 => (some (t197 == 16)))) else (none)) else (none)))) else (none)))) else (none))) = some r := H
          have A11 := Aside0.mk A110
          clear A110
          replace H := Option.bind_eq_some_iff.mp H
          obtain ⟨t173, A120, H⟩ := H
          replace H : (if t173 = true then ((tallymanlaw17_view.f 6 (([3] : List Int))).bind fun bt177 => ((tallymankit_View.f k t152 t153 bt177.1 bt177.2).bind fun t181 => (if t181 = true then ((tallymanlaw17_view.f 6 (([1, 5] : List Int))).bind fun bt185 => ((tallymankit_View.f k t158 t159 bt185.1 bt185.2).bind fun t189 => (if t189 = true then (if t164 = 16384 then ((tallymanlaw17_view.f 4611686018427387904 (([1, 2, 3, 4] : List Int))).bind fun bt193 => ((setops_Estimate.f k bt193.1 bt193.2).bind fun t197 => (some (t197 == 16)))) else (none)) else (none)))) else (none)))) else (none)) = some r := H
          have A12 := Aside0.mk A120
          clear A120
          by_cases c13 : t173 = true
          · subst c13
            have H1 : ((tallymanlaw17_view.f 6 (([3] : List Int))).bind fun bt177 => ((tallymankit_View.f k t152 t153 bt177.1 bt177.2).bind fun t181 => (if t181 = true then ((tallymanlaw17_view.f 6 (([1, 5] : List Int))).bind fun bt185 => ((tallymankit_View.f k t158 t159 bt185.1 bt185.2).bind fun t189 => (if t189 = true then (if t164 = 16384 then ((tallymanlaw17_view.f 4611686018427387904 (([1, 2, 3, 4] : List Int))).bind fun bt193 => ((setops_Estimate.f k bt193.1 bt193.2).bind fun t197 => (some (t197 == 16)))) else (none)) else (none)))) else (none)))) = some r := by rw [if_pos rfl] at H; exact H
            clear H
            have H := H1
            clear H1
            obtain ⟨y174, hy174⟩ : ∃ y_ : List Int, y_ = (([3] : List Int)) := ⟨_, rfl⟩
            replace H : ((tallymanlaw17_view.f 6 y174).bind fun bt177 => ((tallymankit_View.f k t152 t153 bt177.1 bt177.2).bind fun t181 => (if t181 = true then ((tallymanlaw17_view.f 6 (([1, 5] : List Int))).bind fun bt185 => ((tallymankit_View.f k t158 t159 bt185.1 bt185.2).bind fun t189 => (if t189 = true then (if t164 = 16384 then ((tallymanlaw17_view.f 4611686018427387904 (([1, 2, 3, 4] : List Int))).bind fun bt193 => ((setops_Estimate.f k bt193.1 bt193.2).bind fun t197 => (some (t197 == 16)))) else (none)) else (none)))) else (none)))) = some r := by first | (rw [hy174]; with_reducible exact H) | (have H2_ := (Option.bind_some _ _).symm.trans H; rw [hy174]; with_reducible exact H2_) | (have H2_ := (Option.bind_some _ _).symm.trans H; with_reducible exact H2_) | with_reducible exact H | (rw [hy174]; exact H) | exact H
            have Ny174 := Aside0.mk hy174
            clear hy174
            replace H := Option.bind_eq_some_iff.mp H
            obtain ⟨⟨t177, t178⟩, A140, H⟩ := H
            replace H : ((tallymankit_View.f k t152 t153 t177 t178).bind fun t181 => (if t181 = true then ((tallymanlaw17_view.f 6 (([1, 5] : List Int))).bind fun bt185 => ((tallymankit_View.f k t158 t159 bt185.1 bt185.2).bind fun t189 => (if t189 = true then (if t164 = 16384 then ((tallymanlaw17_view.f 4611686018427387904 (([1, 2, 3, 4] : List Int))).bind fun bt193 => ((setops_Estimate.f k bt193.1 bt193.2).bind fun t197 => (some (t197 == 16)))) else (none)) else (none)))) else (none))) = some r := H
            have A14 := Aside0.mk A140
            clear A140
            replace H := Option.bind_eq_some_iff.mp H
            obtain ⟨t181, A150, H⟩ := H
            replace H : (if t181 = true then ((tallymanlaw17_view.f 6 (([1, 5] : List Int))).bind fun bt185 => ((tallymankit_View.f k t158 t159 bt185.1 bt185.2).bind fun t189 => (if t189 = true then (if t164 = 16384 then ((tallymanlaw17_view.f 4611686018427387904 (([1, 2, 3, 4] : List Int))).bind fun bt193 => ((setops_Estimate.f k bt193.1 bt193.2).bind fun t197 => (some (t197 == 16)))) else (none)) else (none)))) else (none)) = some r := H
            have A15 := Aside0.mk A150
            clear A150
            by_cases c16 : t181 = true
            · subst c16
              have H1 : ((tallymanlaw17_view.f 6 (([1, 5] : List Int))).bind fun bt185 => ((tallymankit_View.f k t158 t159 bt185.1 bt185.2).bind fun t189 => (if t189 = true then (if t164 = 16384 then ((tallymanlaw17_view.f 4611686018427387904 (([1, 2, 3, 4] : List Int))).bind fun bt193 => ((setops_Estimate.f k bt193.1 bt193.2).bind fun t197 => (some (t197 == 16)))) else (none)) else (none)))) = some r := by rw [if_pos rfl] at H; exact H
              clear H
              have H := H1
              clear H1
              obtain ⟨y182, hy182⟩ : ∃ y_ : List Int, y_ = (([1, 5] : List Int)) := ⟨_, rfl⟩
              replace H : ((tallymanlaw17_view.f 6 y182).bind fun bt185 => ((tallymankit_View.f k t158 t159 bt185.1 bt185.2).bind fun t189 => (if t189 = true then (if t164 = 16384 then ((tallymanlaw17_view.f 4611686018427387904 (([1, 2, 3, 4] : List Int))).bind fun bt193 => ((setops_Estimate.f k bt193.1 bt193.2).bind fun t197 => (some (t197 == 16)))) else (none)) else (none)))) = some r := by first | (rw [hy182]; with_reducible exact H) | (have H2_ := (Option.bind_some _ _).symm.trans H; rw [hy182]; with_reducible exact H2_) | (have H2_ := (Option.bind_some _ _).symm.trans H; with_reducible exact H2_) | with_reducible exact H | (rw [hy182]; exact H) | exact H
              have Ny182 := Aside0.mk hy182
              clear hy182
              replace H := Option.bind_eq_some_iff.mp H
              obtain ⟨⟨t185, t186⟩, A170, H⟩ := H
              replace H : ((tallymankit_View.f k t158 t159 t185 t186).bind fun t189 => (if t189 = true then (if t164 = 16384 then ((tallymanlaw17_view.f 4611686018427387904 (([1, 2, 3, 4] : List Int))).bind fun bt193 => ((setops_Estimate.f k bt193.1 bt193.2).bind fun t197 => (some (t197 == 16)))) else (none)) else (none))) = some r := H
              have A17 := Aside0.mk A170
              clear A170
              replace H := Option.bind_eq_some_iff.mp H
              obtain ⟨t189, A180, H⟩ := H
              replace H : (if t189 = true then (if t164 = 16384 then ((tallymanlaw17_view.f 4611686018427387904 (([1, 2, 3, 4] : List Int))).bind fun bt193 => ((setops_Estimate.f k bt193.1 bt193.2).bind fun t197 => (some (t197 == 16)))) else (none)) else (none)) = some r := H
              have A18 := Aside0.mk A180
              clear A180
              by_cases c19 : t189 = true
              · subst c19
                have H1 : (if t164 = 16384 then ((tallymanlaw17_view.f 4611686018427387904 (([1, 2, 3, 4] : List Int))).bind fun bt193 => ((setops_Estimate.f k bt193.1 bt193.2).bind fun t197 => (some (t197 == 16)))) else (none)) = some r := by rw [if_pos rfl] at H; exact H
                clear H
                have H := H1
                clear H1
                by_cases c20 : t164 = 16384
                · rw [if_pos c20] at H
                  have c20b0 : (t164 == 16384) = true := beq_iff_eq.mpr c20
                  have c20b1 : (t164 != 16384) = false := bne_eq_false_iff_eq.mpr c20
                  clear c20
                  obtain ⟨y190, hy190⟩ : ∃ y_ : List Int, y_ = (([1, 2, 3, 4] : List Int)) := ⟨_, rfl⟩
                  replace H : ((tallymanlaw17_view.f 4611686018427387904 y190).bind fun bt193 => ((setops_Estimate.f k bt193.1 bt193.2).bind fun t197 => (some (t197 == 16)))) = some r := by first | (rw [hy190]; with_reducible exact H) | (have H2_ := (Option.bind_some _ _).symm.trans H; rw [hy190]; with_reducible exact H2_) | (have H2_ := (Option.bind_some _ _).symm.trans H; with_reducible exact H2_) | with_reducible exact H | (rw [hy190]; exact H) | exact H
                  have Ny190 := Aside0.mk hy190
                  clear hy190
                  replace H := Option.bind_eq_some_iff.mp H
                  obtain ⟨⟨t193, t194⟩, A210, H⟩ := H
                  replace H : ((setops_Estimate.f k t193 t194).bind fun t197 => (some (t197 == 16))) = some r := H
                  have A21 := Aside0.mk A210
                  clear A210
                  replace H := Option.bind_eq_some_iff.mp H
                  obtain ⟨t197, A220, H⟩ := H
                  replace H : (some (t197 == 16)) = some r := H
                  have A22 := Aside0.mk A220
                  clear A220
                  obtain rfl := Option.some.inj H
                  go_enter Try.func15, Try.ntmps15
                  try go_wp2_with (first | ((with_reducible refine gate_dst (N := 11) rfl ?_); (try (refine gate_guard (by rfl) ?_; dsimp only)); refine Kd.R_lit (Kd.int .u64) _ 22 ?hg (N := 11) ?hd (xs := ([1, 3, 5] : List Int)) (inner := [.int .u64 1, .int .u64 3, .int .u64 5]) (ok := fun _ => True) (okp := fun _ => True) ?hr ?hp (fun _ hk => hk) trivial (Below.refl _ _) (Nat.le_refl _) (by simp) ?_; (case hd => rfl); (case hg => rfl); (case hr => first | (go_simp; done) | (go_simp; rfl)); (case hp => exact (Reps.one (show Kd.M (Kd.int .u64) _ _ _ 1 [.int .u64 1] from rfl) (Reps.one (show Kd.M (Kd.int .u64) _ _ _ 3 [.int .u64 3] from rfl) (Reps.one (show Kd.M (Kd.int .u64) _ _ _ 5 [.int .u64 5] from rfl) (Reps.none _ _))))); intro v131 w23 ho24 hb hg_ hnew_; clear hg_ hnew_; (first | rw [← Ny130.out] at ho24 | (simp only [Int.reduceToNat] at ho24; rw [← Ny130.out] at ho24)); have n0_ := am (Kd.R_lower ho24 (below_size (hu HB.out))); have n1_ := am (below_step (hu HB.out) hb); clear HB; have HO132 := n0_; have HB := n1_; clear n0_ n1_; clear hb ho24; obtain ⟨Ao25, co25, eo25⟩ := Kd.R_slice HO132.out; subst eo25) | ((with_reducible refine gate_callee (f := 29) rfl ?_); refine goesL_ (some 12) rfl rfl Try.func29 (by kernel_rfl) rfl #[.int .u64 6, .slice Ao25 y130.length co25] rfl (by (try simp only [List.map_toArray, List.map_cons, List.map_nil]); first | done | rfl | (simp only [List.length_drop, List.length_take]; rfl)) ?_; (with_reducible refine (tallymanlaw17_view.calls 6 (fun k_ => some k_ = (.slice Ao25 y130.length co25 : Value).ownBlock) (.slice Ao25 y130.length co25) y130 t133 t134 w _ ?side1 ?side2 A1.out).mono ?_); (case side1 => repeat (first | (with_reducible first | exact HB.out | apply below_alloc | apply pw_below_drewN | apply below_drew1) | exact HB.out)); (case side2 => exact Kd.R_tight rfl HO132.out); rintro e w26 ⟨v135, rfl, ho0, hb, hkp⟩; refine ⟨_, rfl, ?_⟩; have n0_ := am (Kd.R_mono (ok' := fun k_ => True) ho0 (fun k_ hk_ => trivial)); have n1_ := am (hb); clear HB; clear HO132; have HO136 := n0_; have HB := n1_; clear n0_ n1_; (try clear hb); (try clear hkp); (try clear ho0)) | ((with_reducible refine gate_dst (N := 13) rfl ?_); (try (refine gate_guard (by rfl) ?_; dsimp only)); refine Kd.R_lit (Kd.int .u64) _ 22 ?hg (N := 13) ?hd (xs := ([3, 4, 9] : List Int)) (inner := [.int .u64 3, .int .u64 4, .int .u64 9]) (ok := fun _ => True) (okp := fun _ => True) ?hr ?hp (fun _ hk => hk) trivial (Below.refl _ _) (Nat.le_refl _) (by simp) ?_; (case hd => rfl); (case hg => rfl); (case hr => first | (go_simp; done) | (go_simp; rfl)); (case hp => exact (Reps.one (show Kd.M (Kd.int .u64) _ _ _ 3 [.int .u64 3] from rfl) (Reps.one (show Kd.M (Kd.int .u64) _ _ _ 4 [.int .u64 4] from rfl) (Reps.one (show Kd.M (Kd.int .u64) _ _ _ 9 [.int .u64 9] from rfl) (Reps.none _ _))))); intro v138 w27 ho28 hb hg_ hnew_; clear hg_ hnew_; (first | rw [← Ny137.out] at ho28 | (simp only [Int.reduceToNat] at ho28; rw [← Ny137.out] at ho28)); have n0_ := am (Kd.R_elder' (ru (HO136.out)) (Kd.R_base ho28) hb); have n1_ := am (Kd.R_lower (Kd.R_new' ho28 (Kd.R_lt (ru (HO136.out)))) (below_size (hu HB.out))); have n2_ := am (below_step (hu HB.out) hb); clear HO136; clear HB; have HO136 := n0_; have HO139 := n1_; have HB := n2_; clear n0_ n1_ n2_; clear hb ho28; obtain ⟨Ao29, co29, eo29⟩ := Kd.R_slice HO139.out; subst eo29) | ((with_reducible refine gate_callee (f := 29) rfl ?_); refine goesL_ (some 14) rfl rfl Try.func29 (by kernel_rfl) rfl #[.int .u64 0, .slice Ao29 y137.length co29] rfl (by (try simp only [List.map_toArray, List.map_cons, List.map_nil]); first | done | rfl | (simp only [List.length_drop, List.length_take]; rfl)) ?_; (with_reducible refine (tallymanlaw17_view.calls 0 (fun k_ => some k_ = (.slice Ao29 y137.length co29 : Value).ownBlock) (.slice Ao29 y137.length co29) y137 t140 t141 w _ ?side1 ?side2 A2.out).mono ?_); (case side1 => repeat (first | (with_reducible first | exact HB.out | apply below_alloc | apply pw_below_drewN | apply below_drew1) | exact HB.out)); (case side2 => exact Kd.R_tight rfl HO139.out); rintro e w30 ⟨v142, rfl, ho0, hb, hkp⟩; refine ⟨_, rfl, ?_⟩; have n0_ := am (Kd.R_mono (ok' := fun k_ => some k_ ≠ (v142 : Value).ownBlock) (Kd.R_keptB (HO136.out) hkp (fun k_ hk_ hs_ => (hk_.2) hs_)) (fun k_ hk_ => fun e_ => Or.elim (ho0.1 k_ e_.symm) (fun hs_ => hk_.2.1 hs_) (fun hn_ => Nat.not_le.2 hk_.2.2 hn_))); have n1_ := am (Kd.R_mono (ok' := fun k_ => some k_ ≠ (v135 : Value).ownBlock) ho0 (fun k_ hk_ => Or.elim hk_ (fun hs_ => fun e_ => (((HO136.out).1 k_ e_.symm).2) hs_) (fun hn_ => (Kd.fresh' (Kd.R_lt (ru (HO136.out))) k_ hn_)))); have n2_ := am (hb); clear HO136; clear HB; clear HO139; have HO136 := n0_; have HO143 := n1_; have HB := n2_; clear n0_ n1_ n2_; (try clear hb); (try clear hkp); (try clear ho0)) | ((with_reducible refine gate_dst (N := 1) rfl ?_); (try (refine gate_guard (by rfl) ?_; dsimp only)); refine box_event ?hg (N := 1) ?hd (cs := #[.int .u64 0, .slice none 0 0]) (t := 25) ?hr ?_; (case hd => rfl); (case hg => rfl); (case hr => first | (go_simp; done) | (go_simp; rfl)); intro gb144 hg w31 hbox hb; have n0_ := am (Kd.R_below (ru (HO136.out)) hb); have n1_ := am (Kd.R_below (ru (HO143.out)) hb); have n2_ := am (below_step (hu HB.out) hb); have n3_ := am (hbox); have n4_ := am ((by rw [hg]; exact (below_size (hu HB.out)) : w.heap.size ≤ gb144)); have n5_ := am ((by rw [hg]; exact (below_size (hu HB.out)) : w.heap.size ≤ gb144)); clear HO136; clear HO143; clear HB; have HO136 := n0_; have HO143 := n1_; have HB := n2_; have BK144 := n3_; have GW144 := n4_; have GE144 := n5_; clear n0_ n1_ n2_ n3_ n4_ n5_; clear hb hbox hg) | ((with_reducible refine gate_dst (N := 2) rfl ?_); (try (refine gate_guard (by rfl) ?_; dsimp only)); refine box_event ?hg (N := 2) ?hd (cs := #[.int .u64 0, .slice none 0 0]) (t := 25) ?hr ?_; (case hd => rfl); (case hg => rfl); (case hr => first | (go_simp; done) | (go_simp; rfl)); intro gb145 hg w32 hbox hb; have n0_ := am (Kd.R_below (ru (HO136.out)) hb); have n1_ := am (Kd.R_below (ru (HO143.out)) hb); have n2_ := am (blk_below (g := gb144) (o := .cells #[.int .u64 0, .slice none 0 0] 25 (0, 0)) (bu BK144.out) hb); have n3_ := am (below_step (by repeat (first | (with_reducible first | exact HB.out | apply below_alloc | apply pw_below_drewN | apply below_drew1 | refine below_set ?_ GE144.out) | exact HB.out)) hb); have n4_ := am (hbox); have n5_ := am ((by rw [hg]; exact (below_size (by repeat (first | (with_reducible first | exact HB.out | apply below_alloc | apply pw_below_drewN | apply below_drew1 | refine below_set ?_ GE144.out) | exact HB.out))) : w.heap.size ≤ gb145)); have n6_ := am ((by rw [hg]; exact (below_size (by repeat (first | (with_reducible first | exact HB.out | apply below_alloc | apply pw_below_drewN | apply below_drew1 | refine below_set ?_ GE144.out) | exact HB.out))) : w.heap.size ≤ gb145)); have n7_ := am ((by rw [hg]; exact Nat.ne_of_lt (blk_lt (g := gb144) (o := .cells #[.int .u64 0, .slice none 0 0] 25 (0, 0)) (bu BK144.out)) : gb144 ≠ gb145)); have n8_ := am ((by rw [hg]; exact Nat.ne_of_gt (blk_lt (g := gb144) (o := .cells #[.int .u64 0, .slice none 0 0] 25 (0, 0)) (bu BK144.out)) : gb145 ≠ gb144)); clear HO136; clear HO143; clear BK144; clear HB; have HO136 := n0_; have HO143 := n1_; have BK144 := n2_; have HB := n3_; have BK145 := n4_; have GW145 := n5_; have GE145 := n6_; have NB144_145 := n7_; have NB145_144 := n8_; clear n0_ n1_ n2_ n3_ n4_ n5_ n6_ n7_ n8_; clear hb hbox hg; have hnb33 := NB144_145.out; have hnc33 := NB145_144.out; have hcz34_0 : w32.cell? ⟨gb144, 0, none⟩ = some (.int .u64 0) := (blk_cell BK144.out 0).trans rfl; have hcz34_1 : w32.cell? ⟨gb144, 1, none⟩ = some (.slice none 0 0) := (blk_cell BK144.out 1).trans rfl; have hfz34_0 := blk_frozen BK144.out 0; have hfz34_1 := blk_frozen BK144.out 1; obtain ⟨Ao35, co35, eo35⟩ := Kd.R_slice HO136.out; subst eo35; have hcz36_0 : w32.cell? ⟨gb145, 0, none⟩ = some (.int .u64 0) := (blk_cell BK145.out 0).trans rfl; have hcz36_1 : w32.cell? ⟨gb145, 1, none⟩ = some (.slice none 0 0) := (blk_cell BK145.out 1).trans rfl; have hfz36_0 := blk_frozen BK145.out 0; have hfz36_1 := blk_frozen BK145.out 1; obtain ⟨Ao37, co37, eo37⟩ := Kd.R_slice HO143.out; subst eo37) | ((with_reducible refine gate_callee (f := 17) rfl ?_); refine goesL_ (some 18) rfl rfl Try.func17 (by kernel_rfl) rfl #[.agg #[.int .u64 t133, .slice Ao35 t134.length co35], .agg #[.int .u64 t140, .slice Ao37 t141.length co37]] rfl (by (try simp only [List.map_toArray, List.map_cons, List.map_nil]); first | done | rfl | (simp only [List.length_drop, List.length_take]; rfl)) ?_; (with_reducible refine (setops_Either.calls t133 _ _ t134 t140 _ _ t141 t146 t147 t150 _ ?side1 ?side2 ?side3 ?side4 A3.out).mono ?_); (case side1 => refine (Kd.R_reads' (e := 22) (base := w.heap.size) (ok := fun k_ => nb Ao37 t141.length co37 k_) (n := t134.length) (c := co35) ?_).2.2; exact (ru (Kd.R_mono (Kd.R_mono (Kd.R_far (p := ⟨gb145, 1, none⟩) (Kd.R_far (p := ⟨gb145, 0, none⟩) (Kd.R_far (p := ⟨gb144, 1, none⟩) (Kd.R_far (p := ⟨gb144, 0, none⟩) (Kd.R_types (Kd.R_types HO136.out BK144.out (by decide)) BK145.out (by decide)) (fun _ hk => hk.1.2) (.int .u64 t133)) (fun _ hk => hk.1.2) (.slice Ao35 t134.length co35)) (fun _ hk => hk.2) (.int .u64 t140)) (fun _ hk => hk.2) (.slice Ao37 t141.length co37)) (fun _ h_ => h_.1)) (fun _ h_ => h_.1)))); (case side2 => exact (Kd.R_reads' HO136.out).2.1); (case side3 => refine (Kd.R_reads' (e := 22) (base := w.heap.size) (ok := fun k_ => nb Ao35 t134.length co35 k_) (n := t141.length) (c := co37) ?_).2.2; exact (ru (Kd.R_mono (Kd.R_mono (Kd.R_far (p := ⟨gb145, 1, none⟩) (Kd.R_far (p := ⟨gb145, 0, none⟩) (Kd.R_far (p := ⟨gb144, 1, none⟩) (Kd.R_far (p := ⟨gb144, 0, none⟩) (Kd.R_types (Kd.R_types HO143.out BK144.out (by decide)) BK145.out (by decide)) (fun _ hk => hk.1.2) (.int .u64 t133)) (fun _ hk => hk.1.2) (.slice Ao35 t134.length co35)) (fun _ hk => hk.2) (.int .u64 t140)) (fun _ hk => hk.2) (.slice Ao37 t141.length co37)) (fun _ h_ => h_.1)) (fun _ h_ => h_.1)))); (case side4 => exact (Kd.R_reads' HO143.out).2.1); rintro e w38 ⟨v148, rfl, ho0, hb⟩; refine ⟨_, rfl, ?_⟩; have n0_ := am (Kd.R_elder' (ru (Kd.R_mono (Kd.R_mono (Kd.R_far (p := ⟨gb145, 1, none⟩) (Kd.R_far (p := ⟨gb145, 0, none⟩) (Kd.R_far (p := ⟨gb144, 1, none⟩) (Kd.R_far (p := ⟨gb144, 0, none⟩) (Kd.R_types (Kd.R_types HO136.out BK144.out (by decide)) BK145.out (by decide)) (fun _ hk => hk.1.2) (.int .u64 t133)) (fun _ hk => hk.1.2) (.slice Ao35 t134.length co35)) (fun _ hk => hk.2) (.int .u64 t140)) (fun _ hk => hk.2) (.slice Ao37 t141.length co37)) (fun _ h_ => h_.1)) (fun _ h_ => h_.1))) (Kd.R_base ho0) hb); have n1_ := am (Kd.R_elder' (ru (Kd.R_mono (Kd.R_mono (Kd.R_far (p := ⟨gb145, 1, none⟩) (Kd.R_far (p := ⟨gb145, 0, none⟩) (Kd.R_far (p := ⟨gb144, 1, none⟩) (Kd.R_far (p := ⟨gb144, 0, none⟩) (Kd.R_types (Kd.R_types HO143.out BK144.out (by decide)) BK145.out (by decide)) (fun _ hk => hk.1.2) (.int .u64 t133)) (fun _ hk => hk.1.2) (.slice Ao35 t134.length co35)) (fun _ hk => hk.2) (.int .u64 t140)) (fun _ hk => hk.2) (.slice Ao37 t141.length co37)) (fun _ h_ => h_.1)) (fun _ h_ => h_.1))) (Kd.R_base ho0) hb); have n2_ := am (Kd.R_lower (Kd.R_new' (Kd.R_new' ho0 (Kd.R_lt (ru (Kd.R_mono (Kd.R_mono (Kd.R_far (p := ⟨gb145, 1, none⟩) (Kd.R_far (p := ⟨gb145, 0, none⟩) (Kd.R_far (p := ⟨gb144, 1, none⟩) (Kd.R_far (p := ⟨gb144, 0, none⟩) (Kd.R_types (Kd.R_types HO136.out BK144.out (by decide)) BK145.out (by decide)) (fun _ hk => hk.1.2) (.int .u64 t133)) (fun _ hk => hk.1.2) (.slice Ao35 t134.length co35)) (fun _ hk => hk.2) (.int .u64 t140)) (fun _ hk => hk.2) (.slice Ao37 t141.length co37)) (fun _ h_ => h_.1)) (fun _ h_ => h_.1))))) (Kd.R_lt (ru (Kd.R_mono (Kd.R_mono (Kd.R_far (p := ⟨gb145, 1, none⟩) (Kd.R_far (p := ⟨gb145, 0, none⟩) (Kd.R_far (p := ⟨gb144, 1, none⟩) (Kd.R_far (p := ⟨gb144, 0, none⟩) (Kd.R_types (Kd.R_types HO143.out BK144.out (by decide)) BK145.out (by decide)) (fun _ hk => hk.1.2) (.int .u64 t133)) (fun _ hk => hk.1.2) (.slice Ao35 t134.length co35)) (fun _ hk => hk.2) (.int .u64 t140)) (fun _ hk => hk.2) (.slice Ao37 t141.length co37)) (fun _ h_ => h_.1)) (fun _ h_ => h_.1))))) (below_size (by repeat (first | (with_reducible first | exact HB.out | apply below_alloc | apply pw_below_drewN | apply below_drew1 | refine below_set ?_ GE144.out | refine below_set ?_ GE145.out) | exact HB.out)))); have n3_ := am (blk_below (g := gb144) (o := .cells #[.int .u64 t133, .slice Ao35 t134.length co35] 25 (0, 0)) (by (with_reducible repeat (first | refine blk_drewN ?_ _ | refine blk_drew ?_ | refine blk_alloc ?_ _)); refine blk_far ?_ NB144_145.out _; (with_reducible repeat (first | refine blk_drewN ?_ _ | refine blk_drew ?_ | refine blk_alloc ?_ _)); refine blk_far ?_ NB144_145.out _; (with_reducible repeat (first | refine blk_drewN ?_ _ | refine blk_drew ?_ | refine blk_alloc ?_ _)); refine blk_put (cs := #[.int .u64 t133, .slice none 0 0]) ?_ 1 _ rfl; (with_reducible repeat (first | refine blk_drewN ?_ _ | refine blk_drew ?_ | refine blk_alloc ?_ _)); refine blk_put (cs := #[.int .u64 0, .slice none 0 0]) ?_ 0 _ rfl; (with_reducible repeat (first | refine blk_drewN ?_ _ | refine blk_drew ?_ | refine blk_alloc ?_ _)); exact BK144.out) hb); have n4_ := am (blk_below (g := gb145) (o := .cells #[.int .u64 t140, .slice Ao37 t141.length co37] 25 (0, 0)) (by (with_reducible repeat (first | refine blk_drewN ?_ _ | refine blk_drew ?_ | refine blk_alloc ?_ _)); refine blk_put (cs := #[.int .u64 t140, .slice none 0 0]) ?_ 1 _ rfl; (with_reducible repeat (first | refine blk_drewN ?_ _ | refine blk_drew ?_ | refine blk_alloc ?_ _)); refine blk_put (cs := #[.int .u64 0, .slice none 0 0]) ?_ 0 _ rfl; (with_reducible repeat (first | refine blk_drewN ?_ _ | refine blk_drew ?_ | refine blk_alloc ?_ _)); refine blk_far ?_ NB145_144.out _; (with_reducible repeat (first | refine blk_drewN ?_ _ | refine blk_drew ?_ | refine blk_alloc ?_ _)); refine blk_far ?_ NB145_144.out _; (with_reducible repeat (first | refine blk_drewN ?_ _ | refine blk_drew ?_ | refine blk_alloc ?_ _)); exact BK145.out) hb); have n5_ := am (below_step (by repeat (first | (with_reducible first | exact HB.out | apply below_alloc | apply pw_below_drewN | apply below_drew1 | refine below_set ?_ GE144.out | refine below_set ?_ GE145.out) | exact HB.out)) hb); clear HO136; clear HO143; clear BK144; clear BK145; clear HB; have HO136 := n0_; have HO143 := n1_; have HO149 := n2_; have BK144 := n3_; have BK145 := n4_; have HB := n5_; clear n0_ n1_ n2_ n3_ n4_ n5_; (try clear hb); (try clear hb2); (try clear hk); (try clear hi); (try clear ho0)) | ((with_reducible refine gate_dst (N := 3) rfl ?_); (try (refine gate_guard (by rfl) ?_; dsimp only)); refine box_event ?hg (N := 3) ?hd (cs := #[.int .u64 0, .slice none 0 0]) (t := 25) ?hr ?_; (case hd => rfl); (case hg => rfl); (case hr => first | (go_simp; done) | (go_simp; rfl)); intro gb151 hg w39 hbox hb; have n0_ := am (Kd.R_below (ru (HO136.out)) hb); have n1_ := am (Kd.R_below (ru (HO143.out)) hb); have n2_ := am (Kd.R_below (ru (HO149.out)) hb); have n3_ := am (blk_below (g := gb144) (o := .cells #[.int .u64 t133, .slice Ao35 t134.length co35] 25 (0, 0)) (bu BK144.out) hb); have n4_ := am (blk_below (g := gb145) (o := .cells #[.int .u64 t140, .slice Ao37 t141.length co37] 25 (0, 0)) (bu BK145.out) hb); have n5_ := am (below_step (by repeat (first | (with_reducible first | exact HB.out | apply below_alloc | apply pw_below_drewN | apply below_drew1 | refine below_set ?_ GE144.out | refine below_set ?_ GE145.out) | exact HB.out)) hb); have n6_ := am (hbox); have n7_ := am ((by rw [hg]; exact (below_size (by repeat (first | (with_reducible first | exact HB.out | apply below_alloc | apply pw_below_drewN | apply below_drew1 | refine below_set ?_ GE144.out | refine below_set ?_ GE145.out) | exact HB.out))) : w.heap.size ≤ gb151)); have n8_ := am ((by rw [hg]; exact (below_size (by repeat (first | (with_reducible first | exact HB.out | apply below_alloc | apply pw_below_drewN | apply below_drew1 | refine below_set ?_ GE144.out | refine below_set ?_ GE145.out) | exact HB.out))) : w.heap.size ≤ gb151)); have n9_ := am ((by rw [hg]; exact Nat.ne_of_lt (blk_lt (g := gb144) (o := .cells #[.int .u64 t133, .slice Ao35 t134.length co35] 25 (0, 0)) (bu BK144.out)) : gb144 ≠ gb151)); have n10_ := am ((by rw [hg]; exact Nat.ne_of_gt (blk_lt (g := gb144) (o := .cells #[.int .u64 t133, .slice Ao35 t134.length co35] 25 (0, 0)) (bu BK144.out)) : gb151 ≠ gb144)); have n11_ := am ((by rw [hg]; exact Nat.ne_of_lt (blk_lt (g := gb145) (o := .cells #[.int .u64 t140, .slice Ao37 t141.length co37] 25 (0, 0)) (bu BK145.out)) : gb145 ≠ gb151)); have n12_ := am ((by rw [hg]; exact Nat.ne_of_gt (blk_lt (g := gb145) (o := .cells #[.int .u64 t140, .slice Ao37 t141.length co37] 25 (0, 0)) (bu BK145.out)) : gb151 ≠ gb145)); clear HO136; clear HO143; clear HO149; clear BK144; clear BK145; clear HB; have HO136 := n0_; have HO143 := n1_; have HO149 := n2_; have BK144 := n3_; have BK145 := n4_; have HB := n5_; have BK151 := n6_; have GW151 := n7_; have GE151 := n8_; have NB144_151 := n9_; have NB151_144 := n10_; have NB145_151 := n11_; have NB151_145 := n12_; clear n0_ n1_ n2_ n3_ n4_ n5_ n6_ n7_ n8_ n9_ n10_ n11_ n12_; clear hb hbox hg; have hnb40 := NB151_144.out; have hnc40 := NB144_151.out; have hnb41 := NB151_145.out; have hnc41 := NB145_151.out; have hcz42_0 : w39.cell? ⟨gb151, 0, none⟩ = some (.int .u64 0) := (blk_cell BK151.out 0).trans rfl; have hcz42_1 : w39.cell? ⟨gb151, 1, none⟩ = some (.slice none 0 0) := (blk_cell BK151.out 1).trans rfl; have hfz42_0 := blk_frozen BK151.out 0; have hfz42_1 := blk_frozen BK151.out 1; obtain ⟨Ao43, co43, eo43⟩ := Kd.R_slice HO149.out; subst eo43; have hcz44_0 : w39.cell? ⟨gb144, 0, none⟩ = some (.int .u64 t133) := (blk_cell BK144.out 0).trans rfl; have hcz44_1 : w39.cell? ⟨gb144, 1, none⟩ = some (.slice Ao35 t134.length co35) := (blk_cell BK144.out 1).trans rfl; have hfz44_0 := blk_frozen BK144.out 0; have hfz44_1 := blk_frozen BK144.out 1; have hcz45_0 : w39.cell? ⟨gb145, 0, none⟩ = some (.int .u64 t140) := (blk_cell BK145.out 0).trans rfl; have hcz45_1 : w39.cell? ⟨gb145, 1, none⟩ = some (.slice Ao37 t141.length co37) := (blk_cell BK145.out 1).trans rfl; have hfz45_0 := blk_frozen BK145.out 0; have hfz45_1 := blk_frozen BK145.out 1) | ((with_reducible refine gate_callee (f := 18) rfl ?_); refine goesL_ (some 24) rfl rfl Try.func18 (by kernel_rfl) rfl #[.agg #[.int .u64 t133, .slice Ao35 t134.length co35], .agg #[.int .u64 t140, .slice Ao37 t141.length co37]] rfl (by (try simp only [List.map_toArray, List.map_cons, List.map_nil]); first | done | rfl | (simp only [List.length_drop, List.length_take]; rfl)) ?_; (with_reducible refine (setops_Both.calls t133 _ _ t134 t140 _ _ t141 t152 t153 t156 _ ?side1 ?side2 ?side3 ?side4 A4.out).mono ?_); (case side1 => refine (Kd.R_reads' (e := 22) (base := w.heap.size) (ok := fun k_ => (nb Ao37 t141.length co37 k_ ∧ nb Ao43 t147.length co43 k_)) (n := t134.length) (c := co35) ?_).2.2; exact (rf HO136.out BK151.out (by decide))); (case side2 => exact (Kd.R_reads' HO136.out).2.1); (case side3 => refine (Kd.R_reads' (e := 22) (base := w.heap.size) (ok := fun k_ => (nb Ao35 t134.length co35 k_ ∧ nb Ao43 t147.length co43 k_)) (n := t141.length) (c := co37) ?_).2.2; exact (rf HO143.out BK151.out (by decide))); (case side4 => exact (Kd.R_reads' HO143.out).2.1); rintro e w46 ⟨v154, rfl, ho0, hb⟩; refine ⟨_, rfl, ?_⟩; have n0_ := am (Kd.R_elder' (rf HO136.out BK151.out (by decide)) (Kd.R_base ho0) hb); have n1_ := am (Kd.R_elder' (rf HO143.out BK151.out (by decide)) (Kd.R_base ho0) hb); have n2_ := am (Kd.R_elder' (rf HO149.out BK151.out (by decide)) (Kd.R_base ho0) hb); have n3_ := am (Kd.R_lower (Kd.R_new' (Kd.R_new' (Kd.R_new' ho0 (Kd.R_lt (rf HO136.out BK151.out (by decide)))) (Kd.R_lt (rf HO143.out BK151.out (by decide)))) (Kd.R_lt (rf HO149.out BK151.out (by decide)))) (below_size (by repeat (first | (with_reducible first | exact HB.out | apply below_alloc | apply pw_below_drewN | apply below_drew1 | refine below_set ?_ GE144.out | refine below_set ?_ GE145.out | refine below_set ?_ GE151.out) | exact HB.out)))); have n4_ := am (blk_below (g := gb144) (o := .cells #[.int .u64 t133, .slice Ao35 t134.length co35] 25 (0, 0)) (bf NB144_151.out BK144.out) hb); have n5_ := am (blk_below (g := gb145) (o := .cells #[.int .u64 t140, .slice Ao37 t141.length co37] 25 (0, 0)) (bf NB145_151.out BK145.out) hb); have n6_ := am (blk_below (g := gb151) (o := .cells #[.int .u64 t146, .slice Ao43 t147.length co43] 25 (0, 0)) (by (with_reducible repeat (first | refine blk_drewN ?_ _ | refine blk_drew ?_ | refine blk_alloc ?_ _)); refine blk_put (cs := #[.int .u64 t146, .slice none 0 0]) ?_ 1 _ rfl; (with_reducible repeat (first | refine blk_drewN ?_ _ | refine blk_drew ?_ | refine blk_alloc ?_ _)); refine blk_put (cs := #[.int .u64 0, .slice none 0 0]) ?_ 0 _ rfl; (with_reducible repeat (first | refine blk_drewN ?_ _ | refine blk_drew ?_ | refine blk_alloc ?_ _)); exact BK151.out) hb); have n7_ := am (below_step (by repeat (first | (with_reducible first | exact HB.out | apply below_alloc | apply pw_below_drewN | apply below_drew1 | refine below_set ?_ GE144.out | refine below_set ?_ GE145.out | refine below_set ?_ GE151.out) | exact HB.out)) hb); clear HO136; clear HO143; clear HO149; clear BK144; clear BK145; clear BK151; clear HB; have HO136 := n0_; have HO143 := n1_; have HO149 := n2_; have HO155 := n3_; have BK144 := n4_; have BK145 := n5_; have BK151 := n6_; have HB := n7_; clear n0_ n1_ n2_ n3_ n4_ n5_ n6_ n7_; (try clear hb); (try clear hb2); (try clear hk); (try clear hi); (try clear ho0)) | ((with_reducible refine gate_dst (N := 5) rfl ?_); (try (refine gate_guard (by rfl) ?_; dsimp only)); refine box_event ?hg (N := 5) ?hd (cs := #[.int .u64 0, .slice none 0 0]) (t := 25) ?hr ?_; (case hd => rfl); (case hg => rfl); (case hr => first | (go_simp; done) | (go_simp; rfl)); intro gb157 hg w47 hbox hb; have n0_ := am (Kd.R_below (ru (HO136.out)) hb); have n1_ := am (Kd.R_below (ru (HO143.out)) hb); have n2_ := am (Kd.R_below (ru (HO149.out)) hb); have n3_ := am (Kd.R_below (ru (HO155.out)) hb); have n4_ := am (blk_below (g := gb144) (o := .cells #[.int .u64 t133, .slice Ao35 t134.length co35] 25 (0, 0)) (bu BK144.out) hb); have n5_ := am (blk_below (g := gb145) (o := .cells #[.int .u64 t140, .slice Ao37 t141.length co37] 25 (0, 0)) (bu BK145.out) hb); have n6_ := am (blk_below (g := gb151) (o := .cells #[.int .u64 t146, .slice Ao43 t147.length co43] 25 (0, 0)) (bu BK151.out) hb); have n7_ := am (below_step (by repeat (first | (with_reducible first | exact HB.out | apply below_alloc | apply pw_below_drewN | apply below_drew1 | refine below_set ?_ GE144.out | refine below_set ?_ GE145.out | refine below_set ?_ GE151.out) | exact HB.out)) hb); have n8_ := am (hbox); have n9_ := am ((by rw [hg]; exact (below_size (by repeat (first | (with_reducible first | exact HB.out | apply below_alloc | apply pw_below_drewN | apply below_drew1 | refine below_set ?_ GE144.out | refine below_set ?_ GE145.out | refine below_set ?_ GE151.out) | exact HB.out))) : w.heap.size ≤ gb157)); have n10_ := am ((by rw [hg]; exact (below_size (by repeat (first | (with_reducible first | exact HB.out | apply below_alloc | apply pw_below_drewN | apply below_drew1 | refine below_set ?_ GE144.out | refine below_set ?_ GE145.out | refine below_set ?_ GE151.out) | exact HB.out))) : w.heap.size ≤ gb157)); have n11_ := am ((by rw [hg]; exact Nat.ne_of_lt (blk_lt (g := gb144) (o := .cells #[.int .u64 t133, .slice Ao35 t134.length co35] 25 (0, 0)) (bu BK144.out)) : gb144 ≠ gb157)); have n12_ := am ((by rw [hg]; exact Nat.ne_of_gt (blk_lt (g := gb144) (o := .cells #[.int .u64 t133, .slice Ao35 t134.length co35] 25 (0, 0)) (bu BK144.out)) : gb157 ≠ gb144)); have n13_ := am ((by rw [hg]; exact Nat.ne_of_lt (blk_lt (g := gb145) (o := .cells #[.int .u64 t140, .slice Ao37 t141.length co37] 25 (0, 0)) (bu BK145.out)) : gb145 ≠ gb157)); have n14_ := am ((by rw [hg]; exact Nat.ne_of_gt (blk_lt (g := gb145) (o := .cells #[.int .u64 t140, .slice Ao37 t141.length co37] 25 (0, 0)) (bu BK145.out)) : gb157 ≠ gb145)); have n15_ := am ((by rw [hg]; exact Nat.ne_of_lt (blk_lt (g := gb151) (o := .cells #[.int .u64 t146, .slice Ao43 t147.length co43] 25 (0, 0)) (bu BK151.out)) : gb151 ≠ gb157)); have n16_ := am ((by rw [hg]; exact Nat.ne_of_gt (blk_lt (g := gb151) (o := .cells #[.int .u64 t146, .slice Ao43 t147.length co43] 25 (0, 0)) (bu BK151.out)) : gb157 ≠ gb151)); clear HO136; clear HO143; clear HO149; clear HO155; clear BK144; clear BK145; clear BK151; clear HB; have HO136 := n0_; have HO143 := n1_; have HO149 := n2_; have HO155 := n3_; have BK144 := n4_; have BK145 := n5_; have BK151 := n6_; have HB := n7_; have BK157 := n8_; have GW157 := n9_; have GE157 := n10_; have NB144_157 := n11_; have NB157_144 := n12_; have NB145_157 := n13_; have NB157_145 := n14_; have NB151_157 := n15_; have NB157_151 := n16_; clear n0_ n1_ n2_ n3_ n4_ n5_ n6_ n7_ n8_ n9_ n10_ n11_ n12_ n13_ n14_ n15_ n16_; clear hb hbox hg; have hnb48 := NB157_144.out; have hnc48 := NB144_157.out; have hnb49 := NB157_145.out; have hnc49 := NB145_157.out; have hnb50 := NB157_151.out; have hnc50 := NB151_157.out; have hcz51_0 : w47.cell? ⟨gb157, 0, none⟩ = some (.int .u64 0) := (blk_cell BK157.out 0).trans rfl; have hcz51_1 : w47.cell? ⟨gb157, 1, none⟩ = some (.slice none 0 0) := (blk_cell BK157.out 1).trans rfl; have hfz51_0 := blk_frozen BK157.out 0; have hfz51_1 := blk_frozen BK157.out 1; obtain ⟨Ao52, co52, eo52⟩ := Kd.R_slice HO155.out; subst eo52; have hcz53_0 : w47.cell? ⟨gb144, 0, none⟩ = some (.int .u64 t133) := (blk_cell BK144.out 0).trans rfl; have hcz53_1 : w47.cell? ⟨gb144, 1, none⟩ = some (.slice Ao35 t134.length co35) := (blk_cell BK144.out 1).trans rfl; have hfz53_0 := blk_frozen BK144.out 0; have hfz53_1 := blk_frozen BK144.out 1; have hcz54_0 : w47.cell? ⟨gb145, 0, none⟩ = some (.int .u64 t140) := (blk_cell BK145.out 0).trans rfl; have hcz54_1 : w47.cell? ⟨gb145, 1, none⟩ = some (.slice Ao37 t141.length co37) := (blk_cell BK145.out 1).trans rfl; have hfz54_0 := blk_frozen BK145.out 0; have hfz54_1 := blk_frozen BK145.out 1) | ((with_reducible refine gate_callee (f := 19) rfl ?_); refine goesL_ (some 30) rfl rfl Try.func19 (by kernel_rfl) rfl #[.agg #[.int .u64 t133, .slice Ao35 t134.length co35], .agg #[.int .u64 t140, .slice Ao37 t141.length co37]] rfl (by (try simp only [List.map_toArray, List.map_cons, List.map_nil]); first | done | rfl | (simp only [List.length_drop, List.length_take]; rfl)) ?_; (with_reducible refine (setops_Less.calls t133 _ _ t134 t140 _ _ t141 t158 t159 t162 _ ?side1 ?side2 ?side3 ?side4 A5.out).mono ?_); (case side1 => refine (Kd.R_reads' (e := 22) (base := w.heap.size) (ok := fun k_ => ((nb Ao37 t141.length co37 k_ ∧ nb Ao43 t147.length co43 k_) ∧ nb Ao52 t153.length co52 k_)) (n := t134.length) (c := co35) ?_).2.2; exact (rf HO136.out BK157.out (by decide))); (case side2 => exact (Kd.R_reads' HO136.out).2.1); (case side3 => refine (Kd.R_reads' (e := 22) (base := w.heap.size) (ok := fun k_ => ((nb Ao35 t134.length co35 k_ ∧ nb Ao43 t147.length co43 k_) ∧ nb Ao52 t153.length co52 k_)) (n := t141.length) (c := co37) ?_).2.2; exact (rf HO143.out BK157.out (by decide))); (case side4 => exact (Kd.R_reads' HO143.out).2.1); rintro e w55 ⟨v160, rfl, ho0, hb⟩; refine ⟨_, rfl, ?_⟩; have n0_ := am (Kd.R_elder' (rf HO136.out BK157.out (by decide)) (Kd.R_base ho0) hb); have n1_ := am (Kd.R_elder' (rf HO143.out BK157.out (by decide)) (Kd.R_base ho0) hb); have n2_ := am (Kd.R_elder' (rf HO149.out BK157.out (by decide)) (Kd.R_base ho0) hb); have n3_ := am (Kd.R_elder' (rf HO155.out BK157.out (by decide)) (Kd.R_base ho0) hb); have n4_ := am (Kd.R_lower (Kd.R_new' (Kd.R_new' (Kd.R_new' (Kd.R_new' ho0 (Kd.R_lt (rf HO136.out BK157.out (by decide)))) (Kd.R_lt (rf HO143.out BK157.out (by decide)))) (Kd.R_lt (rf HO149.out BK157.out (by decide)))) (Kd.R_lt (rf HO155.out BK157.out (by decide)))) (below_size (by repeat (first | (with_reducible first | exact HB.out | apply below_alloc | apply pw_below_drewN | apply below_drew1 | refine below_set ?_ GE144.out | refine below_set ?_ GE145.out | refine below_set ?_ GE151.out | refine below_set ?_ GE157.out) | exact HB.out)))); have n5_ := am (blk_below (g := gb144) (o := .cells #[.int .u64 t133, .slice Ao35 t134.length co35] 25 (0, 0)) (bf NB144_157.out BK144.out) hb); have n6_ := am (blk_below (g := gb145) (o := .cells #[.int .u64 t140, .slice Ao37 t141.length co37] 25 (0, 0)) (bf NB145_157.out BK145.out) hb); have n7_ := am (blk_below (g := gb151) (o := .cells #[.int .u64 t146, .slice Ao43 t147.length co43] 25 (0, 0)) (bf NB151_157.out BK151.out) hb); have n8_ := am (blk_below (g := gb157) (o := .cells #[.int .u64 t152, .slice Ao52 t153.length co52] 25 (0, 0)) (by (with_reducible repeat (first | refine blk_drewN ?_ _ | refine blk_drew ?_ | refine blk_alloc ?_ _)); refine blk_put (cs := #[.int .u64 t152, .slice none 0 0]) ?_ 1 _ rfl; (with_reducible repeat (first | refine blk_drewN ?_ _ | refine blk_drew ?_ | refine blk_alloc ?_ _)); refine blk_put (cs := #[.int .u64 0, .slice none 0 0]) ?_ 0 _ rfl; (with_reducible repeat (first | refine blk_drewN ?_ _ | refine blk_drew ?_ | refine blk_alloc ?_ _)); exact BK157.out) hb); have n9_ := am (below_step (by repeat (first | (with_reducible first | exact HB.out | apply below_alloc | apply pw_below_drewN | apply below_drew1 | refine below_set ?_ GE144.out | refine below_set ?_ GE145.out | refine below_set ?_ GE151.out | refine below_set ?_ GE157.out) | exact HB.out)) hb); clear HO136; clear HO143; clear HO149; clear HO155; clear BK144; clear BK145; clear BK151; clear BK157; clear HB; have HO136 := n0_; have HO143 := n1_; have HO149 := n2_; have HO155 := n3_; have HO161 := n4_; have BK144 := n5_; have BK145 := n6_; have BK151 := n7_; have BK157 := n8_; have HB := n9_; clear n0_ n1_ n2_ n3_ n4_ n5_ n6_ n7_ n8_ n9_; (try clear hb); (try clear hb2); (try clear hk); (try clear hi); (try clear ho0)) | ((with_reducible refine gate_dst (N := 7) rfl ?_); (try (refine gate_guard (by rfl) ?_; dsimp only)); refine box_event ?hg (N := 7) ?hd (cs := #[.int .u64 0, .slice none 0 0]) (t := 25) ?hr ?_; (case hd => rfl); (case hg => rfl); (case hr => first | (go_simp; done) | (go_simp; rfl)); intro gb163 hg w56 hbox hb; have n0_ := am (Kd.R_below (ru (HO136.out)) hb); have n1_ := am (Kd.R_below (ru (HO143.out)) hb); have n2_ := am (Kd.R_below (ru (HO149.out)) hb); have n3_ := am (Kd.R_below (ru (HO155.out)) hb); have n4_ := am (Kd.R_below (ru (HO161.out)) hb); have n5_ := am (blk_below (g := gb144) (o := .cells #[.int .u64 t133, .slice Ao35 t134.length co35] 25 (0, 0)) (bu BK144.out) hb); have n6_ := am (blk_below (g := gb145) (o := .cells #[.int .u64 t140, .slice Ao37 t141.length co37] 25 (0, 0)) (bu BK145.out) hb); have n7_ := am (blk_below (g := gb151) (o := .cells #[.int .u64 t146, .slice Ao43 t147.length co43] 25 (0, 0)) (bu BK151.out) hb); have n8_ := am (blk_below (g := gb157) (o := .cells #[.int .u64 t152, .slice Ao52 t153.length co52] 25 (0, 0)) (bu BK157.out) hb); have n9_ := am (below_step (by repeat (first | (with_reducible first | exact HB.out | apply below_alloc | apply pw_below_drewN | apply below_drew1 | refine below_set ?_ GE144.out | refine below_set ?_ GE145.out | refine below_set ?_ GE151.out | refine below_set ?_ GE157.out) | exact HB.out)) hb); have n10_ := am (hbox); have n11_ := am ((by rw [hg]; exact (below_size (by repeat (first | (with_reducible first | exact HB.out | apply below_alloc | apply pw_below_drewN | apply below_drew1 | refine below_set ?_ GE144.out | refine below_set ?_ GE145.out | refine below_set ?_ GE151.out | refine below_set ?_ GE157.out) | exact HB.out))) : w.heap.size ≤ gb163)); have n12_ := am ((by rw [hg]; exact (below_size (by repeat (first | (with_reducible first | exact HB.out | apply below_alloc | apply pw_below_drewN | apply below_drew1 | refine below_set ?_ GE144.out | refine below_set ?_ GE145.out | refine below_set ?_ GE151.out | refine below_set ?_ GE157.out) | exact HB.out))) : w.heap.size ≤ gb163)); have n13_ := am ((by rw [hg]; exact Nat.ne_of_lt (blk_lt (g := gb144) (o := .cells #[.int .u64 t133, .slice Ao35 t134.length co35] 25 (0, 0)) (bu BK144.out)) : gb144 ≠ gb163)); have n14_ := am ((by rw [hg]; exact Nat.ne_of_gt (blk_lt (g := gb144) (o := .cells #[.int .u64 t133, .slice Ao35 t134.length co35] 25 (0, 0)) (bu BK144.out)) : gb163 ≠ gb144)); have n15_ := am ((by rw [hg]; exact Nat.ne_of_lt (blk_lt (g := gb145) (o := .cells #[.int .u64 t140, .slice Ao37 t141.length co37] 25 (0, 0)) (bu BK145.out)) : gb145 ≠ gb163)); have n16_ := am ((by rw [hg]; exact Nat.ne_of_gt (blk_lt (g := gb145) (o := .cells #[.int .u64 t140, .slice Ao37 t141.length co37] 25 (0, 0)) (bu BK145.out)) : gb163 ≠ gb145)); have n17_ := am ((by rw [hg]; exact Nat.ne_of_lt (blk_lt (g := gb151) (o := .cells #[.int .u64 t146, .slice Ao43 t147.length co43] 25 (0, 0)) (bu BK151.out)) : gb151 ≠ gb163)); have n18_ := am ((by rw [hg]; exact Nat.ne_of_gt (blk_lt (g := gb151) (o := .cells #[.int .u64 t146, .slice Ao43 t147.length co43] 25 (0, 0)) (bu BK151.out)) : gb163 ≠ gb151)); have n19_ := am ((by rw [hg]; exact Nat.ne_of_lt (blk_lt (g := gb157) (o := .cells #[.int .u64 t152, .slice Ao52 t153.length co52] 25 (0, 0)) (bu BK157.out)) : gb157 ≠ gb163)); have n20_ := am ((by rw [hg]; exact Nat.ne_of_gt (blk_lt (g := gb157) (o := .cells #[.int .u64 t152, .slice Ao52 t153.length co52] 25 (0, 0)) (bu BK157.out)) : gb163 ≠ gb157)); clear HO136; clear HO143; clear HO149; clear HO155; clear HO161; clear BK144; clear BK145; clear BK151; clear BK157; clear HB; have HO136 := n0_; have HO143 := n1_; have HO149 := n2_; have HO155 := n3_; have HO161 := n4_; have BK144 := n5_; have BK145 := n6_; have BK151 := n7_; have BK157 := n8_; have HB := n9_; have BK163 := n10_; have GW163 := n11_; have GE163 := n12_; have NB144_163 := n13_; have NB163_144 := n14_; have NB145_163 := n15_; have NB163_145 := n16_; have NB151_163 := n17_; have NB163_151 := n18_; have NB157_163 := n19_; have NB163_157 := n20_; clear n0_ n1_ n2_ n3_ n4_ n5_ n6_ n7_ n8_ n9_ n10_ n11_ n12_ n13_ n14_ n15_ n16_ n17_ n18_ n19_ n20_; clear hb hbox hg; have hnb57 := NB163_144.out; have hnc57 := NB144_163.out; have hnb58 := NB163_145.out; have hnc58 := NB145_163.out; have hnb59 := NB163_151.out; have hnc59 := NB151_163.out; have hnb60 := NB163_157.out; have hnc60 := NB157_163.out; have hcz61_0 : w56.cell? ⟨gb163, 0, none⟩ = some (.int .u64 0) := (blk_cell BK163.out 0).trans rfl; have hcz61_1 : w56.cell? ⟨gb163, 1, none⟩ = some (.slice none 0 0) := (blk_cell BK163.out 1).trans rfl; have hfz61_0 := blk_frozen BK163.out 0; have hfz61_1 := blk_frozen BK163.out 1; obtain ⟨Ao62, co62, eo62⟩ := Kd.R_slice HO161.out; subst eo62; have hcz63_0 : w56.cell? ⟨gb144, 0, none⟩ = some (.int .u64 t133) := (blk_cell BK144.out 0).trans rfl; have hcz63_1 : w56.cell? ⟨gb144, 1, none⟩ = some (.slice Ao35 t134.length co35) := (blk_cell BK144.out 1).trans rfl; have hfz63_0 := blk_frozen BK144.out 0; have hfz63_1 := blk_frozen BK144.out 1; have hcz64_0 : w56.cell? ⟨gb145, 0, none⟩ = some (.int .u64 t140) := (blk_cell BK145.out 0).trans rfl; have hcz64_1 : w56.cell? ⟨gb145, 1, none⟩ = some (.slice Ao37 t141.length co37) := (blk_cell BK145.out 1).trans rfl; have hfz64_0 := blk_frozen BK145.out 0; have hfz64_1 := blk_frozen BK145.out 1) | ((with_reducible refine gate_callee (f := 27) rfl ?_); refine goesL_ (some 36) rfl rfl Try.func27 (by kernel_rfl) rfl #[.agg #[.int .u64 t133, .slice Ao35 t134.length co35], .agg #[.int .u64 t140, .slice Ao37 t141.length co37]] rfl (by (try simp only [List.map_toArray, List.map_cons, List.map_nil]); first | done | rfl | (simp only [List.length_drop, List.length_take]; rfl)) ?_; (with_reducible refine (setops_Like.calls t133 _ _ t134 t140 _ _ t141 t164 t165 _ ?side1 ?side2 ?side3 ?side4 A6.out).mono ?_); (case side1 => refine (Kd.R_reads' (e := 22) (base := w.heap.size) (ok := fun k_ => (((nb Ao37 t141.length co37 k_ ∧ nb Ao43 t147.length co43 k_) ∧ nb Ao52 t153.length co52 k_) ∧ nb Ao62 t159.length co62 k_)) (n := t134.length) (c := co35) ?_).2.2; exact (rf HO136.out BK163.out (by decide))); (case side2 => exact (Kd.R_reads' HO136.out).2.1); (case side3 => refine (Kd.R_reads' (e := 22) (base := w.heap.size) (ok := fun k_ => (((nb Ao35 t134.length co35 k_ ∧ nb Ao43 t147.length co43 k_) ∧ nb Ao52 t153.length co52 k_) ∧ nb Ao62 t159.length co62 k_)) (n := t141.length) (c := co37) ?_).2.2; exact (rf HO143.out BK163.out (by decide))); (case side4 => exact (Kd.R_reads' HO143.out).2.1); rintro e w65 ⟨rfl, hb⟩; refine ⟨_, rfl, ?_⟩; have n0_ := am (Kd.R_below (rf HO136.out BK163.out (by decide)) hb); have n1_ := am (Kd.R_below (rf HO143.out BK163.out (by decide)) hb); have n2_ := am (Kd.R_below (rf HO149.out BK163.out (by decide)) hb); have n3_ := am (Kd.R_below (rf HO155.out BK163.out (by decide)) hb); have n4_ := am (Kd.R_below (rf HO161.out BK163.out (by decide)) hb); have n5_ := am (blk_below (g := gb144) (o := .cells #[.int .u64 t133, .slice Ao35 t134.length co35] 25 (0, 0)) (bf NB144_163.out BK144.out) hb); have n6_ := am (blk_below (g := gb145) (o := .cells #[.int .u64 t140, .slice Ao37 t141.length co37] 25 (0, 0)) (bf NB145_163.out BK145.out) hb); have n7_ := am (blk_below (g := gb151) (o := .cells #[.int .u64 t146, .slice Ao43 t147.length co43] 25 (0, 0)) (bf NB151_163.out BK151.out) hb); have n8_ := am (blk_below (g := gb157) (o := .cells #[.int .u64 t152, .slice Ao52 t153.length co52] 25 (0, 0)) (bf NB157_163.out BK157.out) hb); have n9_ := am (blk_below (g := gb163) (o := .cells #[.int .u64 t158, .slice Ao62 t159.length co62] 25 (0, 0)) (by (with_reducible repeat (first | refine blk_drewN ?_ _ | refine blk_drew ?_ | refine blk_alloc ?_ _)); refine blk_put (cs := #[.int .u64 t158, .slice none 0 0]) ?_ 1 _ rfl; (with_reducible repeat (first | refine blk_drewN ?_ _ | refine blk_drew ?_ | refine blk_alloc ?_ _)); refine blk_put (cs := #[.int .u64 0, .slice none 0 0]) ?_ 0 _ rfl; (with_reducible repeat (first | refine blk_drewN ?_ _ | refine blk_drew ?_ | refine blk_alloc ?_ _)); exact BK163.out) hb); have n10_ := am (below_step (by repeat (first | (with_reducible first | exact HB.out | apply below_alloc | apply pw_below_drewN | apply below_drew1 | refine below_set ?_ GE144.out | refine below_set ?_ GE145.out | refine below_set ?_ GE151.out | refine below_set ?_ GE157.out | refine below_set ?_ GE163.out) | exact HB.out)) hb); clear HO136; clear HO143; clear HO149; clear HO155; clear HO161; clear BK144; clear BK145; clear BK151; clear BK157; clear BK163; clear HB; have HO136 := n0_; have HO143 := n1_; have HO149 := n2_; have HO155 := n3_; have HO161 := n4_; have BK144 := n5_; have BK145 := n6_; have BK151 := n7_; have BK157 := n8_; have BK163 := n9_; have HB := n10_; clear n0_ n1_ n2_ n3_ n4_ n5_ n6_ n7_ n8_ n9_ n10_; (try clear hb); (try clear hb2); (try clear hk); (try clear hi)))
                  have n0_ := am (Kd.R_drew HO136.out)
                  have n1_ := am (Kd.R_drew HO143.out)
                  have n2_ := am (Kd.R_drew HO149.out)
                  have n3_ := am (Kd.R_drew HO155.out)
                  have n4_ := am (Kd.R_drew HO161.out)
                  have n5_ := am (blk_drew BK144.out)
                  have n6_ := am (blk_drew BK145.out)
                  have n7_ := am (blk_drew BK151.out)
                  have n8_ := am (blk_drew BK157.out)
                  have n9_ := am (blk_drew BK163.out)
                  have n10_ := am (below_drew1 HB.out)
                  clear HO136
                  clear HO143
                  clear HO149
                  clear HO155
                  clear HO161
                  clear BK144
                  clear BK145
                  clear BK151
                  clear BK157
                  clear BK163
                  clear HB
                  have HO136 := n0_
                  have HO143 := n1_
                  have HO149 := n2_
                  have HO155 := n3_
                  have HO161 := n4_
                  have BK144 := n5_
                  have BK145 := n6_
                  have BK151 := n7_
                  have BK157 := n8_
                  have BK163 := n9_
                  have HB := n10_
                  clear n0_ n1_ n2_ n3_ n4_ n5_ n6_ n7_ n8_ n9_ n10_
                  refine start_ (n := 43) (S := fun w' => w'.cell? ⟨gb151, 0, none⟩ = some (.int .u64 t146) ∧ w'.cell? ⟨gb151, 1, none⟩ = some (.slice Ao43 t147.length co43) ∧ w'.cell? ⟨gb157, 0, none⟩ = some (.int .u64 t152) ∧ w'.cell? ⟨gb157, 1, none⟩ = some (.slice Ao52 t153.length co52) ∧ w'.cell? ⟨gb163, 0, none⟩ = some (.int .u64 t158) ∧ w'.cell? ⟨gb163, 1, none⟩ = some (.slice Ao62 t159.length co62)) (ds := []) (tb 0 43) (by kernel_rfl) rfl rfl ⟨(blk_cell BK151.out 0).trans rfl, (blk_cell BK151.out 1).trans rfl, (blk_cell BK157.out 0).trans rfl, (blk_cell BK157.out 1).trans rfl, (blk_cell BK163.out 0).trans rfl, (blk_cell BK163.out 1).trans rfl⟩ (fun hHeld => ?_); refine with_tabW tallymanlaw17_lives.tab6 tallymanlaw17_lives.bits6 (fun HT_ HW_ => ?_)
                  generalize w65.drew = w66 at HO136 HO143 HO149 HO155 HO161 BK144 BK145 BK151 BK157 BK163 HB hHeld ⊢
                  refine pure_ (i := 0) (N := some 39) (v := ?_) (a' := ?_) (tb 1 43) rfl rfl (any_of HT_.out (by kernel_rfl)) (fun _ _ _ h => h) (Or.inl ⟨by rfl, ?_⟩) ?_ ?_
                  rotate_left
                  · intro w'
                    go_simp
                    with_reducible rfl
                  rotate_left
                  · simp only [Act.put, List.setIfInBounds_toArray, List.set_cons_zero, List.set_cons_succ, i64_w, i32_w]
                    rfl
                  refine pure_ (i := 1) (N := some 40) (v := ?_) (a' := ?_) (tb 2 43) rfl rfl (any_of HT_.out (by kernel_rfl)) (fun _ _ _ h => h) (Or.inl ⟨by rfl, ?_⟩) ?_ ?_
                  rotate_left
                  · intro w'
                    go_simp
                    with_reducible rfl
                  rotate_left
                  · simp only [Act.put, List.setIfInBounds_toArray, List.set_cons_zero, List.set_cons_succ, i64_w, i32_w]
                    rfl
                  refine pure_ (i := 2) (N := some 41) (v := ?_) (a' := ?_) (tb 3 43) rfl rfl (any_of HT_.out (by kernel_rfl)) (fun _ _ _ h => h) (Or.inl ⟨by rfl, ?_⟩) ?_ ?_
                  rotate_left
                  · intro w'
                    go_simp
                    with_reducible rfl
                  rotate_left
                  · simp only [Act.put, List.setIfInBounds_toArray, List.set_cons_zero, List.set_cons_succ, i64_w, i32_w]
                    rfl
                  refine pure_ (i := 3) (N := some 42) (v := ?_) (a' := ?_) (tb 4 43) rfl rfl (any_of HT_.out (by kernel_rfl)) (fun _ _ _ h => h) (Or.inl ⟨by rfl, ?_⟩) ?_ ?_
                  rotate_left
                  · intro w'
                    go_simp
                    with_reducible rfl
                  rotate_left
                  · simp only [Act.put, List.setIfInBounds_toArray, List.set_cons_zero, List.set_cons_succ, i64_w, i32_w]
                    rfl
                  refine pure_ (i := 4) (N := some 43) (v := ?_) (a' := ?_) (tb 5 43) rfl rfl (any_of HT_.out (by kernel_rfl)) (fun _ _ _ h => h) (Or.inl ⟨by rfl, ?_⟩) ?_ ?_
                  rotate_left
                  · intro w'
                    go_simp
                    with_reducible rfl
                  rotate_left
                  · simp only [Act.put, List.setIfInBounds_toArray, List.set_cons_zero, List.set_cons_succ, i64_w, i32_w]
                    rfl
                  refine pure_ (i := 5) (N := some 44) (v := ?_) (a' := ?_) (tb 6 43) rfl rfl (any_of HT_.out (by kernel_rfl)) (fun _ _ _ h => h) (Or.inl ⟨by rfl, ?_⟩) ?_ ?_
                  rotate_left
                  · intro w'
                    go_simp
                    with_reducible rfl
                  rotate_left
                  · simp only [Act.put, List.setIfInBounds_toArray, List.set_cons_zero, List.set_cons_succ, i64_w, i32_w]
                    rfl
                  refine pure_ (i := 6) (N := some 45) (v := ?_) (a' := ?_) (tb 7 43) rfl rfl (any_of HT_.out (by kernel_rfl)) (fun _ _ _ h => h) (Or.inl ⟨by rfl, ?_⟩) ?_ ?_
                  rotate_left
                  · intro w'
                    go_simp
                    with_reducible rfl
                  rotate_left
                  · simp only [Act.put, List.setIfInBounds_toArray, List.set_cons_zero, List.set_cons_succ, i64_w, i32_w]
                    rfl
                  refine pure_ (i := 7) (N := some 46) (v := ?_) (a' := ?_) (tb 8 43) rfl rfl (any_of HT_.out (by kernel_rfl)) (fun _ _ _ h => h) (Or.inl ⟨by rfl, ?_⟩) ?_ ?_
                  rotate_left
                  · intro w'
                    go_simp
                    with_reducible rfl
                  rotate_left
                  · simp only [Act.put, List.setIfInBounds_toArray, List.set_cons_zero, List.set_cons_succ, i64_w, i32_w]
                    rfl
                  refine pure_ (i := 8) (N := some 47) (v := ?_) (a' := ?_) (tb 9 43) rfl rfl (any_of HT_.out (by kernel_rfl)) (fun _ _ _ h => h) (Or.inl ⟨by rfl, ?_⟩) ?_ ?_
                  rotate_left
                  · intro w'
                    go_simp
                    with_reducible rfl
                  rotate_left
                  · simp only [Act.put, List.setIfInBounds_toArray, List.set_cons_zero, List.set_cons_succ, i64_w, i32_w]
                    rfl
                  refine pure_ (i := 9) (N := some 48) (v := ?_) (a' := ?_) (tb 10 43) rfl rfl (any_of HT_.out (by kernel_rfl)) (fun _ _ _ h => h) (Or.inl ⟨by rfl, ?_⟩) ?_ ?_
                  rotate_left
                  · intro w'
                    go_simp
                    with_reducible rfl
                  rotate_left
                  · simp only [Act.put, List.setIfInBounds_toArray, List.set_cons_zero, List.set_cons_succ, i64_w, i32_w]
                    rfl
                  refine pure_ (i := 10) (N := some 49) (v := ?_) (a' := ?_) (tb 11 43) rfl rfl (any_of HT_.out (by kernel_rfl)) (fun _ _ _ h => h) (Or.inl ⟨by rfl, ?_⟩) ?_ ?_
                  rotate_left
                  · intro w'
                    go_simp
                    with_reducible rfl
                  rotate_left
                  · simp only [Act.put, List.setIfInBounds_toArray, List.set_cons_zero, List.set_cons_succ, i64_w, i32_w]
                    rfl
                  refine pure_ (i := 11) (N := some 50) (v := ?_) (a' := ?_) (tb 12 43) rfl rfl (any_of HT_.out (by kernel_rfl)) (fun _ _ _ h => h) (Or.inl ⟨by rfl, ?_⟩) ?_ ?_
                  rotate_left
                  · intro w'
                    go_simp
                    with_reducible rfl
                  rotate_left
                  · simp only [Act.put, List.setIfInBounds_toArray, List.set_cons_zero, List.set_cons_succ, i64_w, i32_w]
                    rfl
                  refine pure_ (i := 12) (N := some 51) (v := ?_) (a' := ?_) (tb 13 43) rfl rfl (any_of HT_.out (by kernel_rfl)) (fun _ _ _ h => h) (Or.inl ⟨by rfl, ?_⟩) ?_ ?_
                  rotate_left
                  · intro w'
                    go_simp
                    with_reducible rfl
                  rotate_left
                  · simp only [Act.put, List.setIfInBounds_toArray, List.set_cons_zero, List.set_cons_succ, i64_w, i32_w]
                    rfl
                  refine pure_ (i := 13) (N := some 52) (v := ?_) (a' := ?_) (tb 14 43) rfl rfl (any_of HT_.out (by kernel_rfl)) (fun _ _ _ h => h) (Or.inl ⟨by rfl, ?_⟩) ?_ ?_
                  rotate_left
                  · intro w'
                    go_simp
                    with_reducible rfl
                  rotate_left
                  · simp only [Act.put, List.setIfInBounds_toArray, List.set_cons_zero, List.set_cons_succ, i64_w, i32_w]
                    rfl
                  refine pure_ (i := 14) (N := some 53) (v := ?_) (a' := ?_) (tb 15 43) rfl rfl (any_of HT_.out (by kernel_rfl)) (fun _ _ _ h => h) (Or.inl ⟨by rfl, ?_⟩) ?_ ?_
                  rotate_left
                  · intro w'
                    go_simp
                    with_reducible rfl
                  rotate_left
                  · simp only [Act.put, List.setIfInBounds_toArray, List.set_cons_zero, List.set_cons_succ, i64_w, i32_w]
                    rfl
                  refine take_ (i := 15) (N := some 54) (v := ?_) (a' := ?_) (tb 16 43) rfl rfl (take_ofW HT_.out HW_.out (by kernel_rfl)) (fun _ _ _ h => h) (Or.inl ⟨by rfl, ?_⟩) hHeld ?_ ?_
                  rotate_left
                  · rintro w' ⟨s0, s1, s2, s3, s4, s5⟩
                    go_simp
                    with_reducible rfl
                  rotate_left
                  · simp only [Act.put, List.setIfInBounds_toArray, List.set_cons_zero, List.set_cons_succ, i64_w, i32_w]
                    rfl
                  refine one_ (i := 16) (N := some 55) (tb 17 43) rfl rfl (one_of HT_.out (by kernel_rfl)) (by decide) (fun K hK => ?_)
                  refine Kd.R_lit_step (Kd.int .u64) _ 22 ?hg (N := 55) ?hd (xs := ([1, 3, 4, 5] : List Int)) (inner := [.int .u64 1, .int .u64 3, .int .u64 4, .int .u64 5]) (ok := fun _ => True) (okp := fun _ => True) ?hr ?hp (fun _ hk => hk) trivial (Below.refl _ _) (Nat.le_refl _) (by simp) ?_; (case hd => rfl); (case hg => rfl); (case hr => first | (go_simp; done) | (go_simp; rfl)); (case hp => exact (Reps.one (show Kd.M (Kd.int .u64) _ _ _ 1 [.int .u64 1] from rfl) (Reps.one (show Kd.M (Kd.int .u64) _ _ _ 3 [.int .u64 3] from rfl) (Reps.one (show Kd.M (Kd.int .u64) _ _ _ 4 [.int .u64 4] from rfl) (Reps.one (show Kd.M (Kd.int .u64) _ _ _ 5 [.int .u64 5] from rfl) (Reps.none _ _))))))
                  intro v167 w67 ho68 hb hg_ hnew_
                  clear hg_ hnew_
                  (first | rw [← Ny166.out] at ho68 | (simp only [Int.reduceToNat] at ho68; rw [← Ny166.out] at ho68))
                  have n0_ := am (Kd.R_elder' (ru (HO136.out)) (Kd.R_base ho68) hb)
                  have n1_ := am (Kd.R_elder' (ru (HO143.out)) (Kd.R_base ho68) hb)
                  have n2_ := am (Kd.R_elder' (ru (HO149.out)) (Kd.R_base ho68) hb)
                  have n3_ := am (Kd.R_elder' (ru (HO155.out)) (Kd.R_base ho68) hb)
                  have n4_ := am (Kd.R_elder' (ru (HO161.out)) (Kd.R_base ho68) hb)
                  have n5_ := am (Kd.R_lower (Kd.R_new' (Kd.R_new' (Kd.R_new' (Kd.R_new' (Kd.R_new' ho68 (Kd.R_lt (ru (HO136.out)))) (Kd.R_lt (ru (HO143.out)))) (Kd.R_lt (ru (HO149.out)))) (Kd.R_lt (ru (HO155.out)))) (Kd.R_lt (ru (HO161.out)))) (below_size (by repeat (first | (with_reducible first | exact HB.out | apply below_alloc | apply pw_below_drewN | apply below_drew1 | refine below_set ?_ GE144.out | refine below_set ?_ GE145.out | refine below_set ?_ GE151.out | refine below_set ?_ GE157.out | refine below_set ?_ GE163.out) | exact HB.out))))
                  have n6_ := am (blk_below (g := gb144) (o := .cells #[.int .u64 t133, .slice Ao35 t134.length co35] 25 (0, 0)) (bu BK144.out) hb)
                  have n7_ := am (blk_below (g := gb145) (o := .cells #[.int .u64 t140, .slice Ao37 t141.length co37] 25 (0, 0)) (bu BK145.out) hb)
                  have n8_ := am (blk_below (g := gb151) (o := .cells #[.int .u64 t146, .slice Ao43 t147.length co43] 25 (0, 0)) (bu BK151.out) hb)
                  have n9_ := am (blk_below (g := gb157) (o := .cells #[.int .u64 t152, .slice Ao52 t153.length co52] 25 (0, 0)) (bu BK157.out) hb)
                  have n10_ := am (blk_below (g := gb163) (o := .cells #[.int .u64 t158, .slice Ao62 t159.length co62] 25 (0, 0)) (bu BK163.out) hb)
                  have n11_ := am (below_step (by repeat (first | (with_reducible first | exact HB.out | apply below_alloc | apply pw_below_drewN | apply below_drew1 | refine below_set ?_ GE144.out | refine below_set ?_ GE145.out | refine below_set ?_ GE151.out | refine below_set ?_ GE157.out | refine below_set ?_ GE163.out) | exact HB.out)) hb)
                  clear HO136
                  clear HO143
                  clear HO149
                  clear HO155
                  clear HO161
                  clear BK144
                  clear BK145
                  clear BK151
                  clear BK157
                  clear BK163
                  clear HB
                  have HO136 := n0_
                  have HO143 := n1_
                  have HO149 := n2_
                  have HO155 := n3_
                  have HO161 := n4_
                  have HO168 := n5_
                  have BK144 := n6_
                  have BK145 := n7_
                  have BK151 := n8_
                  have BK157 := n9_
                  have BK163 := n10_
                  have HB := n11_
                  clear n0_ n1_ n2_ n3_ n4_ n5_ n6_ n7_ n8_ n9_ n10_ n11_
                  clear hb ho68
                  obtain ⟨Ao69, co69, eo69⟩ := Kd.R_slice HO168.out
                  (first | subst eo69 | (injection eo69 with f1_ f2_ f3_; have f4_ := f1_.symm; have f5_ := f3_.symm; clear f1_ f2_ f3_; subst f4_; subst f5_))
                  refine hK.out _ _ ⟨(blk_cell BK151.out 0).trans rfl, (blk_cell BK151.out 1).trans rfl, (blk_cell BK157.out 0).trans rfl, (blk_cell BK157.out 1).trans rfl, (blk_cell BK163.out 0).trans rfl, (blk_cell BK163.out 1).trans rfl⟩ (fun hHeld => ?_)
                  clear hK K
                  refine norm_ (a' := ?_) ?_ ?_
                  rotate_left
                  · show Act.put _ (some 55) _ = _
                    simp only [Act.put, List.setIfInBounds_toArray, List.set_cons_zero, List.set_cons_succ, i64_w, i32_w]
                    rfl
                  refine one_ (i := 17) (N := some 56) (tb 18 43) rfl rfl (one_of HT_.out (by kernel_rfl)) (by decide) (fun K hK => ?_)
                  refine goes_ Try.func29 (by kernel_rfl) rfl #[.int .u64 6, .slice Ao69 y166.length co69] (by rfl) rfl rfl (by (try simp only [List.map_toArray, List.map_cons, List.map_nil]); first | done | rfl | (simp only [List.length_drop, List.length_take]; rfl)) ?_
                  with_reducible refine (tallymanlaw17_view.calls 6 (fun k_ => some k_ = (.slice Ao69 y166.length co69 : Value).ownBlock) (.slice Ao69 y166.length co69) y166 t169 t170 w _ ?side1 ?side2 A11.out).mono ?_
                  (case side1 => repeat (first | (with_reducible first | exact HB.out | apply below_alloc | apply pw_below_drewN | apply below_drew1 | refine below_set ?_ GE144.out | refine below_set ?_ GE145.out | refine below_set ?_ GE151.out | refine below_set ?_ GE157.out | refine below_set ?_ GE163.out) | exact HB.out))
                  (case side2 => exact Kd.R_tight rfl HO168.out)
                  rintro e w70 ⟨v171, rfl, ho0, hb, hkp⟩
                  refine ⟨_, rfl, ?_⟩
                  have n0_ := am (Kd.R_mono (ok' := fun k_ => nb Ao37 t141.length co37 k_ ∧ nb Ao43 t147.length co43 k_ ∧ nb Ao52 t153.length co52 k_ ∧ nb Ao62 t159.length co62 k_ ∧ some k_ ≠ (v171 : Value).ownBlock) (Kd.R_keptB (HO136.out) hkp (fun k_ hk_ hs_ => (hk_.2) hs_)) (fun k_ hk_ => ⟨hk_.1.1.1.1.1, hk_.1.1.1.1.2, hk_.1.1.1.2, hk_.1.1.2, fun e_ => Or.elim (ho0.1 k_ e_.symm) (fun hs_ => hk_.2.1 hs_) (fun hn_ => Nat.not_le.2 hk_.2.2 hn_)⟩))
                  have n1_ := am (Kd.R_mono (ok' := fun k_ => nb Ao35 t134.length co35 k_ ∧ nb Ao43 t147.length co43 k_ ∧ nb Ao52 t153.length co52 k_ ∧ nb Ao62 t159.length co62 k_ ∧ some k_ ≠ (v171 : Value).ownBlock) (Kd.R_keptB (HO143.out) hkp (fun k_ hk_ hs_ => (hk_.2) hs_)) (fun k_ hk_ => ⟨hk_.1.1.1.1.1, hk_.1.1.1.1.2, hk_.1.1.1.2, hk_.1.1.2, fun e_ => Or.elim (ho0.1 k_ e_.symm) (fun hs_ => hk_.2.1 hs_) (fun hn_ => Nat.not_le.2 hk_.2.2 hn_)⟩))
                  have n2_ := am (blk_kept (bu BK144.out) hkp (fun hs_ => (fun e_ => (Kd.R_ne HO168.out BK144.out (by decide)) e_) hs_))
                  have n3_ := am (blk_kept (bu BK145.out) hkp (fun hs_ => (fun e_ => (Kd.R_ne HO168.out BK145.out (by decide)) e_) hs_))
                  have n4_ := am (Kd.R_mono (ok' := fun k_ => nb Ao35 t134.length co35 k_ ∧ nb Ao37 t141.length co37 k_ ∧ nb Ao52 t153.length co52 k_ ∧ nb Ao62 t159.length co62 k_ ∧ some k_ ≠ (v171 : Value).ownBlock) (Kd.R_keptB (HO149.out) hkp (fun k_ hk_ hs_ => (hk_.2) hs_)) (fun k_ hk_ => ⟨hk_.1.1.1.1.1.2, hk_.1.1.1.1.2, hk_.1.1.1.2, hk_.1.1.2, fun e_ => Or.elim (ho0.1 k_ e_.symm) (fun hs_ => hk_.2.1 hs_) (fun hn_ => Nat.not_le.2 hk_.2.2 hn_)⟩))
                  have n5_ := am (blk_kept (bu BK151.out) hkp (fun hs_ => (fun e_ => (Kd.R_ne HO168.out BK151.out (by decide)) e_) hs_))
                  have n6_ := am (Kd.R_mono (ok' := fun k_ => nb Ao35 t134.length co35 k_ ∧ nb Ao37 t141.length co37 k_ ∧ nb Ao43 t147.length co43 k_ ∧ nb Ao62 t159.length co62 k_ ∧ some k_ ≠ (v171 : Value).ownBlock) (Kd.R_keptB (HO155.out) hkp (fun k_ hk_ hs_ => (hk_.2) hs_)) (fun k_ hk_ => ⟨hk_.1.1.1.1.1.2, hk_.1.1.1.1.2, hk_.1.1.1.2, hk_.1.1.2, fun e_ => Or.elim (ho0.1 k_ e_.symm) (fun hs_ => hk_.2.1 hs_) (fun hn_ => Nat.not_le.2 hk_.2.2 hn_)⟩))
                  have n7_ := am (blk_kept (bu BK157.out) hkp (fun hs_ => (fun e_ => (Kd.R_ne HO168.out BK157.out (by decide)) e_) hs_))
                  have n8_ := am (Kd.R_mono (ok' := fun k_ => nb Ao35 t134.length co35 k_ ∧ nb Ao37 t141.length co37 k_ ∧ nb Ao43 t147.length co43 k_ ∧ nb Ao52 t153.length co52 k_ ∧ some k_ ≠ (v171 : Value).ownBlock) (Kd.R_keptB (HO161.out) hkp (fun k_ hk_ hs_ => (hk_.2) hs_)) (fun k_ hk_ => ⟨hk_.1.1.1.1.1.2, hk_.1.1.1.1.2, hk_.1.1.1.2, hk_.1.1.2, fun e_ => Or.elim (ho0.1 k_ e_.symm) (fun hs_ => hk_.2.1 hs_) (fun hn_ => Nat.not_le.2 hk_.2.2 hn_)⟩))
                  have n9_ := am (blk_kept (bu BK163.out) hkp (fun hs_ => (fun e_ => (Kd.R_ne HO168.out BK163.out (by decide)) e_) hs_))
                  have n10_ := am (Kd.R_mono (ok' := fun k_ => nb Ao35 t134.length co35 k_ ∧ nb Ao37 t141.length co37 k_ ∧ nb Ao43 t147.length co43 k_ ∧ nb Ao52 t153.length co52 k_ ∧ nb Ao62 t159.length co62 k_) ho0 (fun k_ hk_ => ⟨Or.elim hk_ (fun hs_ => fun e_ => (((HO136.out).1 k_ e_.symm).2) hs_) (fun hn_ => (Kd.fresh' (Kd.R_lt (ru (HO136.out))) k_ hn_)), Or.elim hk_ (fun hs_ => fun e_ => (((HO143.out).1 k_ e_.symm).2) hs_) (fun hn_ => (Kd.fresh' (Kd.R_lt (ru (HO143.out))) k_ hn_)), Or.elim hk_ (fun hs_ => fun e_ => (((HO149.out).1 k_ e_.symm).2) hs_) (fun hn_ => (Kd.fresh' (Kd.R_lt (ru (HO149.out))) k_ hn_)), Or.elim hk_ (fun hs_ => fun e_ => (((HO155.out).1 k_ e_.symm).2) hs_) (fun hn_ => (Kd.fresh' (Kd.R_lt (ru (HO155.out))) k_ hn_)), Or.elim hk_ (fun hs_ => fun e_ => (((HO161.out).1 k_ e_.symm).2) hs_) (fun hn_ => (Kd.fresh' (Kd.R_lt (ru (HO161.out))) k_ hn_))⟩))
                  have n11_ := am (hb)
                  clear HO136
                  clear HO143
                  clear BK144
                  clear BK145
                  clear HO149
                  clear BK151
                  clear HO155
                  clear BK157
                  clear HO161
                  clear BK163
                  clear HB
                  clear HO168
                  have HO136 := n0_
                  have HO143 := n1_
                  have BK144 := n2_
                  have BK145 := n3_
                  have HO149 := n4_
                  have BK151 := n5_
                  have HO155 := n6_
                  have BK157 := n7_
                  have HO161 := n8_
                  have BK163 := n9_
                  have HO172 := n10_
                  have HB := n11_
                  clear n0_ n1_ n2_ n3_ n4_ n5_ n6_ n7_ n8_ n9_ n10_ n11_
                  (try clear hb)
                  (try clear hkp)
                  (try clear ho0)
                  obtain ⟨Ao71, co71, eo71⟩ := Kd.R_slice HO172.out
                  (first | subst eo71 | (injection eo71 with f1_ f2_ f3_; have f4_ := f1_.symm; have f5_ := f3_.symm; clear f1_ f2_ f3_; subst f4_; subst f5_))
                  refine hK.out _ _ ⟨(blk_cell BK151.out 0).trans rfl, (blk_cell BK151.out 1).trans rfl, (blk_cell BK157.out 0).trans rfl, (blk_cell BK157.out 1).trans rfl, (blk_cell BK163.out 0).trans rfl, (blk_cell BK163.out 1).trans rfl⟩ (fun hHeld => ?_)
                  clear hK K
                  refine norm_ (a' := ?_) ?_ ?_
                  rotate_left
                  · show Act.put _ (some 56) _ = _
                    simp only [Act.put, List.setIfInBounds_toArray, List.set_cons_zero, List.set_cons_succ, i64_w, i32_w]
                    rfl
                  refine one_ (i := 18) (N := some 57) (tb 19 43) rfl rfl (one_of HT_.out (by kernel_rfl)) (by decide) (fun K hK => ?_)
                  refine goes_ Try.func30 (by kernel_rfl) rfl #[.agg #[.int .u64 t146, .slice Ao43 t147.length co43], .agg #[.int .u64 t169, .slice Ao71 t170.length co71]] (by rfl) rfl rfl (by (try simp only [List.map_toArray, List.map_cons, List.map_nil]); first | done | rfl | (simp only [List.length_drop, List.length_take]; rfl)) ?_
                  with_reducible refine (tallymankit_View.calls k t146 _ _ t147 t169 _ _ t170 true _ ?side1 ?side2 ?side3 ?side4 A12.out).mono ?_
                  (case side1 => repeat (first | exact (Kd.R_reads' HO149.out).2.2 | (with_reducible refine Kd.C_alloc ?_ _) | (with_reducible refine Kd.C_drewN ?_ _) | (with_reducible refine Kd.C_drew ?_)))
                  (case side2 => exact (Kd.R_reads' HO149.out).2.1)
                  (case side3 => repeat (first | exact (Kd.R_reads' HO172.out).2.2 | (with_reducible refine Kd.C_alloc ?_ _) | (with_reducible refine Kd.C_drewN ?_ _) | (with_reducible refine Kd.C_drew ?_)))
                  (case side4 => exact (Kd.R_reads' HO172.out).2.1)
                  rintro e w72 ⟨rfl, hb⟩
                  refine ⟨_, rfl, ?_⟩
                  have n0_ := am (Kd.R_below (ru (HO136.out)) hb)
                  have n1_ := am (Kd.R_below (ru (HO143.out)) hb)
                  have n2_ := am (Kd.R_below (ru (HO149.out)) hb)
                  have n3_ := am (Kd.R_below (ru (HO155.out)) hb)
                  have n4_ := am (Kd.R_below (ru (HO161.out)) hb)
                  have n5_ := am (Kd.R_below (ru (HO172.out)) hb)
                  have n6_ := am (blk_below (g := gb144) (o := .cells #[.int .u64 t133, .slice Ao35 t134.length co35] 25 (0, 0)) (bu BK144.out) hb)
                  have n7_ := am (blk_below (g := gb145) (o := .cells #[.int .u64 t140, .slice Ao37 t141.length co37] 25 (0, 0)) (bu BK145.out) hb)
                  have n8_ := am (blk_below (g := gb151) (o := .cells #[.int .u64 t146, .slice Ao43 t147.length co43] 25 (0, 0)) (bu BK151.out) hb)
                  have n9_ := am (blk_below (g := gb157) (o := .cells #[.int .u64 t152, .slice Ao52 t153.length co52] 25 (0, 0)) (bu BK157.out) hb)
                  have n10_ := am (blk_below (g := gb163) (o := .cells #[.int .u64 t158, .slice Ao62 t159.length co62] 25 (0, 0)) (bu BK163.out) hb)
                  have n11_ := am (below_step (by repeat (first | (with_reducible first | exact HB.out | apply below_alloc | apply pw_below_drewN | apply below_drew1 | refine below_set ?_ GE144.out | refine below_set ?_ GE145.out | refine below_set ?_ GE151.out | refine below_set ?_ GE157.out | refine below_set ?_ GE163.out) | exact HB.out)) hb)
                  clear HO136
                  clear HO143
                  clear HO149
                  clear HO155
                  clear HO161
                  clear HO172
                  clear BK144
                  clear BK145
                  clear BK151
                  clear BK157
                  clear BK163
                  clear HB
                  have HO136 := n0_
                  have HO143 := n1_
                  have HO149 := n2_
                  have HO155 := n3_
                  have HO161 := n4_
                  have HO172 := n5_
                  have BK144 := n6_
                  have BK145 := n7_
                  have BK151 := n8_
                  have BK157 := n9_
                  have BK163 := n10_
                  have HB := n11_
                  clear n0_ n1_ n2_ n3_ n4_ n5_ n6_ n7_ n8_ n9_ n10_ n11_
                  (try clear hb)
                  (try clear hb2)
                  (try clear hk)
                  (try clear hi)
                  refine hK.out _ _ ⟨(blk_cell BK151.out 0).trans rfl, (blk_cell BK151.out 1).trans rfl, (blk_cell BK157.out 0).trans rfl, (blk_cell BK157.out 1).trans rfl, (blk_cell BK163.out 0).trans rfl, (blk_cell BK163.out 1).trans rfl⟩ (fun hHeld => ?_)
                  clear hK K
                  refine norm_ (a' := ?_) ?_ ?_
                  rotate_left
                  · show Act.put _ (some 57) _ = _
                    simp only [Act.put, List.setIfInBounds_toArray, List.set_cons_zero, List.set_cons_succ, i64_w, i32_w]
                    rfl
                  refine pure_ (i := 19) (N := some 58) (v := ?_) (a' := ?_) (tb 20 43) rfl rfl (any_of HT_.out (by kernel_rfl)) (fun _ _ _ h => h) (Or.inl ⟨by rfl, ?_⟩) ?_ ?_
                  rotate_left
                  · intro w'
                    go_simp
                    with_reducible rfl
                  rotate_left
                  · simp only [Act.put, List.setIfInBounds_toArray, List.set_cons_zero, List.set_cons_succ, i64_w, i32_w]
                    rfl
                  refine pure_ (i := 20) (N := some 59) (v := ?_) (a' := ?_) (tb 21 43) rfl rfl (any_of HT_.out (by kernel_rfl)) (fun _ _ _ h => h) (Or.inl ⟨by rfl, ?_⟩) ?_ ?_
                  rotate_left
                  · intro w'
                    go_simp
                    with_reducible rfl
                  rotate_left
                  · simp only [Act.put, List.setIfInBounds_toArray, List.set_cons_zero, List.set_cons_succ, i64_w, i32_w]
                    rfl
                  refine take_ (i := 21) (N := some 60) (v := ?_) (a' := ?_) (tb 22 43) rfl rfl (take_ofW HT_.out HW_.out (by kernel_rfl)) (fun _ _ _ h => h) (Or.inl ⟨by rfl, ?_⟩) hHeld ?_ ?_
                  rotate_left
                  · rintro w' ⟨s0, s1, s2, s3, s4, s5⟩
                    go_simp
                    with_reducible rfl
                  rotate_left
                  · simp only [Act.put, List.setIfInBounds_toArray, List.set_cons_zero, List.set_cons_succ, i64_w, i32_w]
                    rfl
                  refine one_ (i := 22) (N := some 61) (tb 23 43) rfl rfl (one_of HT_.out (by kernel_rfl)) (by decide) (fun K hK => ?_)
                  refine Kd.R_lit_step (Kd.int .u64) _ 22 ?hg (N := 61) ?hd (xs := ([3] : List Int)) (inner := [.int .u64 3]) (ok := fun _ => True) (okp := fun _ => True) ?hr ?hp (fun _ hk => hk) trivial (Below.refl _ _) (Nat.le_refl _) (by simp) ?_; (case hd => rfl); (case hg => rfl); (case hr => first | (go_simp; done) | (go_simp; rfl)); (case hp => exact (Reps.one (show Kd.M (Kd.int .u64) _ _ _ 3 [.int .u64 3] from rfl) (Reps.none _ _)))
                  intro v175 w73 ho74 hb hg_ hnew_
                  clear hg_ hnew_
                  (first | rw [← Ny174.out] at ho74 | (simp only [Int.reduceToNat] at ho74; rw [← Ny174.out] at ho74))
                  have n0_ := am (Kd.R_elder' (ru (HO136.out)) (Kd.R_base ho74) hb)
                  have n1_ := am (Kd.R_elder' (ru (HO143.out)) (Kd.R_base ho74) hb)
                  have n2_ := am (Kd.R_elder' (ru (HO149.out)) (Kd.R_base ho74) hb)
                  have n3_ := am (Kd.R_elder' (ru (HO155.out)) (Kd.R_base ho74) hb)
                  have n4_ := am (Kd.R_elder' (ru (HO161.out)) (Kd.R_base ho74) hb)
                  have n5_ := am (Kd.R_elder' (ru (HO172.out)) (Kd.R_base ho74) hb)
                  have n6_ := am (Kd.R_lower (Kd.R_new' (Kd.R_new' (Kd.R_new' (Kd.R_new' (Kd.R_new' (Kd.R_new' ho74 (Kd.R_lt (ru (HO136.out)))) (Kd.R_lt (ru (HO143.out)))) (Kd.R_lt (ru (HO149.out)))) (Kd.R_lt (ru (HO155.out)))) (Kd.R_lt (ru (HO161.out)))) (Kd.R_lt (ru (HO172.out)))) (below_size (by repeat (first | (with_reducible first | exact HB.out | apply below_alloc | apply pw_below_drewN | apply below_drew1 | refine below_set ?_ GE144.out | refine below_set ?_ GE145.out | refine below_set ?_ GE151.out | refine below_set ?_ GE157.out | refine below_set ?_ GE163.out) | exact HB.out))))
                  have n7_ := am (blk_below (g := gb144) (o := .cells #[.int .u64 t133, .slice Ao35 t134.length co35] 25 (0, 0)) (bu BK144.out) hb)
                  have n8_ := am (blk_below (g := gb145) (o := .cells #[.int .u64 t140, .slice Ao37 t141.length co37] 25 (0, 0)) (bu BK145.out) hb)
                  have n9_ := am (blk_below (g := gb151) (o := .cells #[.int .u64 t146, .slice Ao43 t147.length co43] 25 (0, 0)) (bu BK151.out) hb)
                  have n10_ := am (blk_below (g := gb157) (o := .cells #[.int .u64 t152, .slice Ao52 t153.length co52] 25 (0, 0)) (bu BK157.out) hb)
                  have n11_ := am (blk_below (g := gb163) (o := .cells #[.int .u64 t158, .slice Ao62 t159.length co62] 25 (0, 0)) (bu BK163.out) hb)
                  have n12_ := am (below_step (by repeat (first | (with_reducible first | exact HB.out | apply below_alloc | apply pw_below_drewN | apply below_drew1 | refine below_set ?_ GE144.out | refine below_set ?_ GE145.out | refine below_set ?_ GE151.out | refine below_set ?_ GE157.out | refine below_set ?_ GE163.out) | exact HB.out)) hb)
                  clear HO136
                  clear HO143
                  clear HO149
                  clear HO155
                  clear HO161
                  clear HO172
                  clear BK144
                  clear BK145
                  clear BK151
                  clear BK157
                  clear BK163
                  clear HB
                  have HO136 := n0_
                  have HO143 := n1_
                  have HO149 := n2_
                  have HO155 := n3_
                  have HO161 := n4_
                  have HO172 := n5_
                  have HO176 := n6_
                  have BK144 := n7_
                  have BK145 := n8_
                  have BK151 := n9_
                  have BK157 := n10_
                  have BK163 := n11_
                  have HB := n12_
                  clear n0_ n1_ n2_ n3_ n4_ n5_ n6_ n7_ n8_ n9_ n10_ n11_ n12_
                  clear hb ho74
                  obtain ⟨Ao75, co75, eo75⟩ := Kd.R_slice HO176.out
                  (first | subst eo75 | (injection eo75 with f1_ f2_ f3_; have f4_ := f1_.symm; have f5_ := f3_.symm; clear f1_ f2_ f3_; subst f4_; subst f5_))
                  refine hK.out _ _ ⟨(blk_cell BK151.out 0).trans rfl, (blk_cell BK151.out 1).trans rfl, (blk_cell BK157.out 0).trans rfl, (blk_cell BK157.out 1).trans rfl, (blk_cell BK163.out 0).trans rfl, (blk_cell BK163.out 1).trans rfl⟩ (fun hHeld => ?_)
                  clear hK K
                  refine norm_ (a' := ?_) ?_ ?_
                  rotate_left
                  · show Act.put _ (some 61) _ = _
                    simp only [Act.put, List.setIfInBounds_toArray, List.set_cons_zero, List.set_cons_succ, i64_w, i32_w]
                    rfl
                  refine one_ (i := 23) (N := some 62) (tb 24 43) rfl rfl (one_of HT_.out (by kernel_rfl)) (by decide) (fun K hK => ?_)
                  refine goes_ Try.func29 (by kernel_rfl) rfl #[.int .u64 6, .slice Ao75 y174.length co75] (by rfl) rfl rfl (by (try simp only [List.map_toArray, List.map_cons, List.map_nil]); first | done | rfl | (simp only [List.length_drop, List.length_take]; rfl)) ?_
                  with_reducible refine (tallymanlaw17_view.calls 6 (fun k_ => some k_ = (.slice Ao75 y174.length co75 : Value).ownBlock) (.slice Ao75 y174.length co75) y174 t177 t178 w _ ?side1 ?side2 A14.out).mono ?_
                  (case side1 => repeat (first | (with_reducible first | exact HB.out | apply below_alloc | apply pw_below_drewN | apply below_drew1 | refine below_set ?_ GE144.out | refine below_set ?_ GE145.out | refine below_set ?_ GE151.out | refine below_set ?_ GE157.out | refine below_set ?_ GE163.out) | exact HB.out))
                  (case side2 => exact Kd.R_tight rfl HO176.out)
                  rintro e w76 ⟨v179, rfl, ho0, hb, hkp⟩
                  refine ⟨_, rfl, ?_⟩
                  have n0_ := am (Kd.R_mono (ok' := fun k_ => nb Ao37 t141.length co37 k_ ∧ nb Ao43 t147.length co43 k_ ∧ nb Ao52 t153.length co52 k_ ∧ nb Ao62 t159.length co62 k_ ∧ nb Ao71 t170.length co71 k_ ∧ some k_ ≠ (v179 : Value).ownBlock) (Kd.R_keptB (HO136.out) hkp (fun k_ hk_ hs_ => (hk_.2) hs_)) (fun k_ hk_ => ⟨hk_.1.1.1, hk_.1.1.2.1, hk_.1.1.2.2.1, hk_.1.1.2.2.2.1, hk_.1.1.2.2.2.2, fun e_ => Or.elim (ho0.1 k_ e_.symm) (fun hs_ => hk_.2.1 hs_) (fun hn_ => Nat.not_le.2 hk_.2.2 hn_)⟩))
                  have n1_ := am (Kd.R_mono (ok' := fun k_ => nb Ao35 t134.length co35 k_ ∧ nb Ao43 t147.length co43 k_ ∧ nb Ao52 t153.length co52 k_ ∧ nb Ao62 t159.length co62 k_ ∧ nb Ao71 t170.length co71 k_ ∧ some k_ ≠ (v179 : Value).ownBlock) (Kd.R_keptB (HO143.out) hkp (fun k_ hk_ hs_ => (hk_.2) hs_)) (fun k_ hk_ => ⟨hk_.1.1.1, hk_.1.1.2.1, hk_.1.1.2.2.1, hk_.1.1.2.2.2.1, hk_.1.1.2.2.2.2, fun e_ => Or.elim (ho0.1 k_ e_.symm) (fun hs_ => hk_.2.1 hs_) (fun hn_ => Nat.not_le.2 hk_.2.2 hn_)⟩))
                  have n2_ := am (blk_kept (bu BK144.out) hkp (fun hs_ => (fun e_ => (Kd.R_ne HO176.out BK144.out (by decide)) e_) hs_))
                  have n3_ := am (blk_kept (bu BK145.out) hkp (fun hs_ => (fun e_ => (Kd.R_ne HO176.out BK145.out (by decide)) e_) hs_))
                  have n4_ := am (Kd.R_mono (ok' := fun k_ => nb Ao35 t134.length co35 k_ ∧ nb Ao37 t141.length co37 k_ ∧ nb Ao52 t153.length co52 k_ ∧ nb Ao62 t159.length co62 k_ ∧ nb Ao71 t170.length co71 k_ ∧ some k_ ≠ (v179 : Value).ownBlock) (Kd.R_keptB (HO149.out) hkp (fun k_ hk_ hs_ => (hk_.2) hs_)) (fun k_ hk_ => ⟨hk_.1.1.1, hk_.1.1.2.1, hk_.1.1.2.2.1, hk_.1.1.2.2.2.1, hk_.1.1.2.2.2.2, fun e_ => Or.elim (ho0.1 k_ e_.symm) (fun hs_ => hk_.2.1 hs_) (fun hn_ => Nat.not_le.2 hk_.2.2 hn_)⟩))
                  have n5_ := am (blk_kept (bu BK151.out) hkp (fun hs_ => (fun e_ => (Kd.R_ne HO176.out BK151.out (by decide)) e_) hs_))
                  have n6_ := am (Kd.R_mono (ok' := fun k_ => nb Ao35 t134.length co35 k_ ∧ nb Ao37 t141.length co37 k_ ∧ nb Ao43 t147.length co43 k_ ∧ nb Ao62 t159.length co62 k_ ∧ nb Ao71 t170.length co71 k_ ∧ some k_ ≠ (v179 : Value).ownBlock) (Kd.R_keptB (HO155.out) hkp (fun k_ hk_ hs_ => (hk_.2) hs_)) (fun k_ hk_ => ⟨hk_.1.1.1, hk_.1.1.2.1, hk_.1.1.2.2.1, hk_.1.1.2.2.2.1, hk_.1.1.2.2.2.2, fun e_ => Or.elim (ho0.1 k_ e_.symm) (fun hs_ => hk_.2.1 hs_) (fun hn_ => Nat.not_le.2 hk_.2.2 hn_)⟩))
                  have n7_ := am (blk_kept (bu BK157.out) hkp (fun hs_ => (fun e_ => (Kd.R_ne HO176.out BK157.out (by decide)) e_) hs_))
                  have n8_ := am (Kd.R_mono (ok' := fun k_ => nb Ao35 t134.length co35 k_ ∧ nb Ao37 t141.length co37 k_ ∧ nb Ao43 t147.length co43 k_ ∧ nb Ao52 t153.length co52 k_ ∧ nb Ao71 t170.length co71 k_ ∧ some k_ ≠ (v179 : Value).ownBlock) (Kd.R_keptB (HO161.out) hkp (fun k_ hk_ hs_ => (hk_.2) hs_)) (fun k_ hk_ => ⟨hk_.1.1.1, hk_.1.1.2.1, hk_.1.1.2.2.1, hk_.1.1.2.2.2.1, hk_.1.1.2.2.2.2, fun e_ => Or.elim (ho0.1 k_ e_.symm) (fun hs_ => hk_.2.1 hs_) (fun hn_ => Nat.not_le.2 hk_.2.2 hn_)⟩))
                  have n9_ := am (blk_kept (bu BK163.out) hkp (fun hs_ => (fun e_ => (Kd.R_ne HO176.out BK163.out (by decide)) e_) hs_))
                  have n10_ := am (Kd.R_mono (ok' := fun k_ => nb Ao35 t134.length co35 k_ ∧ nb Ao37 t141.length co37 k_ ∧ nb Ao43 t147.length co43 k_ ∧ nb Ao52 t153.length co52 k_ ∧ nb Ao62 t159.length co62 k_ ∧ some k_ ≠ (v179 : Value).ownBlock) (Kd.R_keptB (HO172.out) hkp (fun k_ hk_ hs_ => (hk_.2) hs_)) (fun k_ hk_ => ⟨hk_.1.1.1, hk_.1.1.2.1, hk_.1.1.2.2.1, hk_.1.1.2.2.2.1, hk_.1.1.2.2.2.2, fun e_ => Or.elim (ho0.1 k_ e_.symm) (fun hs_ => hk_.2.1 hs_) (fun hn_ => Nat.not_le.2 hk_.2.2 hn_)⟩))
                  have n11_ := am (Kd.R_mono (ok' := fun k_ => nb Ao35 t134.length co35 k_ ∧ nb Ao37 t141.length co37 k_ ∧ nb Ao43 t147.length co43 k_ ∧ nb Ao52 t153.length co52 k_ ∧ nb Ao62 t159.length co62 k_ ∧ nb Ao71 t170.length co71 k_) ho0 (fun k_ hk_ => ⟨Or.elim hk_ (fun hs_ => fun e_ => (((HO136.out).1 k_ e_.symm).2) hs_) (fun hn_ => (Kd.fresh' (Kd.R_lt (ru (HO136.out))) k_ hn_)), Or.elim hk_ (fun hs_ => fun e_ => (((HO143.out).1 k_ e_.symm).2) hs_) (fun hn_ => (Kd.fresh' (Kd.R_lt (ru (HO143.out))) k_ hn_)), Or.elim hk_ (fun hs_ => fun e_ => (((HO149.out).1 k_ e_.symm).2) hs_) (fun hn_ => (Kd.fresh' (Kd.R_lt (ru (HO149.out))) k_ hn_)), Or.elim hk_ (fun hs_ => fun e_ => (((HO155.out).1 k_ e_.symm).2) hs_) (fun hn_ => (Kd.fresh' (Kd.R_lt (ru (HO155.out))) k_ hn_)), Or.elim hk_ (fun hs_ => fun e_ => (((HO161.out).1 k_ e_.symm).2) hs_) (fun hn_ => (Kd.fresh' (Kd.R_lt (ru (HO161.out))) k_ hn_)), Or.elim hk_ (fun hs_ => fun e_ => (((HO172.out).1 k_ e_.symm).2) hs_) (fun hn_ => (Kd.fresh' (Kd.R_lt (ru (HO172.out))) k_ hn_))⟩))
                  have n12_ := am (hb)
                  clear HO136
                  clear HO143
                  clear BK144
                  clear BK145
                  clear HO149
                  clear BK151
                  clear HO155
                  clear BK157
                  clear HO161
                  clear BK163
                  clear HO172
                  clear HB
                  clear HO176
                  have HO136 := n0_
                  have HO143 := n1_
                  have BK144 := n2_
                  have BK145 := n3_
                  have HO149 := n4_
                  have BK151 := n5_
                  have HO155 := n6_
                  have BK157 := n7_
                  have HO161 := n8_
                  have BK163 := n9_
                  have HO172 := n10_
                  have HO180 := n11_
                  have HB := n12_
                  clear n0_ n1_ n2_ n3_ n4_ n5_ n6_ n7_ n8_ n9_ n10_ n11_ n12_
                  (try clear hb)
                  (try clear hkp)
                  (try clear ho0)
                  obtain ⟨Ao77, co77, eo77⟩ := Kd.R_slice HO180.out
                  (first | subst eo77 | (injection eo77 with f1_ f2_ f3_; have f4_ := f1_.symm; have f5_ := f3_.symm; clear f1_ f2_ f3_; subst f4_; subst f5_))
                  refine hK.out _ _ ⟨(blk_cell BK151.out 0).trans rfl, (blk_cell BK151.out 1).trans rfl, (blk_cell BK157.out 0).trans rfl, (blk_cell BK157.out 1).trans rfl, (blk_cell BK163.out 0).trans rfl, (blk_cell BK163.out 1).trans rfl⟩ (fun hHeld => ?_)
                  clear hK K
                  refine norm_ (a' := ?_) ?_ ?_
                  rotate_left
                  · show Act.put _ (some 62) _ = _
                    simp only [Act.put, List.setIfInBounds_toArray, List.set_cons_zero, List.set_cons_succ, i64_w, i32_w]
                    rfl
                  refine one_ (i := 24) (N := some 63) (tb 25 43) rfl rfl (one_of HT_.out (by kernel_rfl)) (by decide) (fun K hK => ?_)
                  refine goes_ Try.func30 (by kernel_rfl) rfl #[.agg #[.int .u64 t152, .slice Ao52 t153.length co52], .agg #[.int .u64 t177, .slice Ao77 t178.length co77]] (by rfl) rfl rfl (by (try simp only [List.map_toArray, List.map_cons, List.map_nil]); first | done | rfl | (simp only [List.length_drop, List.length_take]; rfl)) ?_
                  with_reducible refine (tallymankit_View.calls k t152 _ _ t153 t177 _ _ t178 true _ ?side1 ?side2 ?side3 ?side4 A15.out).mono ?_
                  (case side1 => repeat (first | exact (Kd.R_reads' HO155.out).2.2 | (with_reducible refine Kd.C_alloc ?_ _) | (with_reducible refine Kd.C_drewN ?_ _) | (with_reducible refine Kd.C_drew ?_)))
                  (case side2 => exact (Kd.R_reads' HO155.out).2.1)
                  (case side3 => repeat (first | exact (Kd.R_reads' HO180.out).2.2 | (with_reducible refine Kd.C_alloc ?_ _) | (with_reducible refine Kd.C_drewN ?_ _) | (with_reducible refine Kd.C_drew ?_)))
                  (case side4 => exact (Kd.R_reads' HO180.out).2.1)
                  rintro e w78 ⟨rfl, hb⟩
                  refine ⟨_, rfl, ?_⟩
                  have n0_ := am (Kd.R_below (ru (HO136.out)) hb)
                  have n1_ := am (Kd.R_below (ru (HO143.out)) hb)
                  have n2_ := am (Kd.R_below (ru (HO149.out)) hb)
                  have n3_ := am (Kd.R_below (ru (HO155.out)) hb)
                  have n4_ := am (Kd.R_below (ru (HO161.out)) hb)
                  have n5_ := am (Kd.R_below (ru (HO172.out)) hb)
                  have n6_ := am (Kd.R_below (ru (HO180.out)) hb)
                  have n7_ := am (blk_below (g := gb144) (o := .cells #[.int .u64 t133, .slice Ao35 t134.length co35] 25 (0, 0)) (bu BK144.out) hb)
                  have n8_ := am (blk_below (g := gb145) (o := .cells #[.int .u64 t140, .slice Ao37 t141.length co37] 25 (0, 0)) (bu BK145.out) hb)
                  have n9_ := am (blk_below (g := gb151) (o := .cells #[.int .u64 t146, .slice Ao43 t147.length co43] 25 (0, 0)) (bu BK151.out) hb)
                  have n10_ := am (blk_below (g := gb157) (o := .cells #[.int .u64 t152, .slice Ao52 t153.length co52] 25 (0, 0)) (bu BK157.out) hb)
                  have n11_ := am (blk_below (g := gb163) (o := .cells #[.int .u64 t158, .slice Ao62 t159.length co62] 25 (0, 0)) (bu BK163.out) hb)
                  have n12_ := am (below_step (by repeat (first | (with_reducible first | exact HB.out | apply below_alloc | apply pw_below_drewN | apply below_drew1 | refine below_set ?_ GE144.out | refine below_set ?_ GE145.out | refine below_set ?_ GE151.out | refine below_set ?_ GE157.out | refine below_set ?_ GE163.out) | exact HB.out)) hb)
                  clear HO136
                  clear HO143
                  clear HO149
                  clear HO155
                  clear HO161
                  clear HO172
                  clear HO180
                  clear BK144
                  clear BK145
                  clear BK151
                  clear BK157
                  clear BK163
                  clear HB
                  have HO136 := n0_
                  have HO143 := n1_
                  have HO149 := n2_
                  have HO155 := n3_
                  have HO161 := n4_
                  have HO172 := n5_
                  have HO180 := n6_
                  have BK144 := n7_
                  have BK145 := n8_
                  have BK151 := n9_
                  have BK157 := n10_
                  have BK163 := n11_
                  have HB := n12_
                  clear n0_ n1_ n2_ n3_ n4_ n5_ n6_ n7_ n8_ n9_ n10_ n11_ n12_
                  (try clear hb)
                  (try clear hb2)
                  (try clear hk)
                  (try clear hi)
                  refine hK.out _ _ ⟨(blk_cell BK151.out 0).trans rfl, (blk_cell BK151.out 1).trans rfl, (blk_cell BK157.out 0).trans rfl, (blk_cell BK157.out 1).trans rfl, (blk_cell BK163.out 0).trans rfl, (blk_cell BK163.out 1).trans rfl⟩ (fun hHeld => ?_)
                  clear hK K
                  refine norm_ (a' := ?_) ?_ ?_
                  rotate_left
                  · show Act.put _ (some 63) _ = _
                    simp only [Act.put, List.setIfInBounds_toArray, List.set_cons_zero, List.set_cons_succ, i64_w, i32_w]
                    rfl
                  refine pure_ (i := 25) (N := some 64) (v := ?_) (a' := ?_) (tb 26 43) rfl rfl (any_of HT_.out (by kernel_rfl)) (fun _ _ _ h => h) (Or.inl ⟨by rfl, ?_⟩) ?_ ?_
                  rotate_left
                  · intro w'
                    go_simp
                    with_reducible rfl
                  rotate_left
                  · simp only [Act.put, List.setIfInBounds_toArray, List.set_cons_zero, List.set_cons_succ, i64_w, i32_w]
                    rfl
                  refine pure_ (i := 26) (N := some 65) (v := ?_) (a' := ?_) (tb 27 43) rfl rfl (any_of HT_.out (by kernel_rfl)) (fun _ _ _ h => h) (Or.inl ⟨by rfl, ?_⟩) ?_ ?_
                  rotate_left
                  · intro w'
                    go_simp
                    with_reducible rfl
                  rotate_left
                  · simp only [Act.put, List.setIfInBounds_toArray, List.set_cons_zero, List.set_cons_succ, i64_w, i32_w]
                    rfl
                  refine take_ (i := 27) (N := some 66) (v := ?_) (a' := ?_) (tb 28 43) rfl rfl (take_ofW HT_.out HW_.out (by kernel_rfl)) (fun _ _ _ h => h) (Or.inl ⟨by rfl, ?_⟩) hHeld ?_ ?_
                  rotate_left
                  · rintro w' ⟨s0, s1, s2, s3, s4, s5⟩
                    go_simp
                    with_reducible rfl
                  rotate_left
                  · simp only [Act.put, List.setIfInBounds_toArray, List.set_cons_zero, List.set_cons_succ, i64_w, i32_w]
                    rfl
                  refine one_ (i := 28) (N := some 67) (tb 29 43) rfl rfl (one_of HT_.out (by kernel_rfl)) (by decide) (fun K hK => ?_)
                  refine Kd.R_lit_step (Kd.int .u64) _ 22 ?hg (N := 67) ?hd (xs := ([1, 5] : List Int)) (inner := [.int .u64 1, .int .u64 5]) (ok := fun _ => True) (okp := fun _ => True) ?hr ?hp (fun _ hk => hk) trivial (Below.refl _ _) (Nat.le_refl _) (by simp) ?_; (case hd => rfl); (case hg => rfl); (case hr => first | (go_simp; done) | (go_simp; rfl)); (case hp => exact (Reps.one (show Kd.M (Kd.int .u64) _ _ _ 1 [.int .u64 1] from rfl) (Reps.one (show Kd.M (Kd.int .u64) _ _ _ 5 [.int .u64 5] from rfl) (Reps.none _ _))))
                  intro v183 w79 ho80 hb hg_ hnew_
                  clear hg_ hnew_
                  (first | rw [← Ny182.out] at ho80 | (simp only [Int.reduceToNat] at ho80; rw [← Ny182.out] at ho80))
                  have n0_ := am (Kd.R_elder' (ru (HO136.out)) (Kd.R_base ho80) hb)
                  have n1_ := am (Kd.R_elder' (ru (HO143.out)) (Kd.R_base ho80) hb)
                  have n2_ := am (Kd.R_elder' (ru (HO149.out)) (Kd.R_base ho80) hb)
                  have n3_ := am (Kd.R_elder' (ru (HO155.out)) (Kd.R_base ho80) hb)
                  have n4_ := am (Kd.R_elder' (ru (HO161.out)) (Kd.R_base ho80) hb)
                  have n5_ := am (Kd.R_elder' (ru (HO172.out)) (Kd.R_base ho80) hb)
                  have n6_ := am (Kd.R_elder' (ru (HO180.out)) (Kd.R_base ho80) hb)
                  have n7_ := am (Kd.R_lower (Kd.R_new' (Kd.R_new' (Kd.R_new' (Kd.R_new' (Kd.R_new' (Kd.R_new' (Kd.R_new' ho80 (Kd.R_lt (ru (HO136.out)))) (Kd.R_lt (ru (HO143.out)))) (Kd.R_lt (ru (HO149.out)))) (Kd.R_lt (ru (HO155.out)))) (Kd.R_lt (ru (HO161.out)))) (Kd.R_lt (ru (HO172.out)))) (Kd.R_lt (ru (HO180.out)))) (below_size (by repeat (first | (with_reducible first | exact HB.out | apply below_alloc | apply pw_below_drewN | apply below_drew1 | refine below_set ?_ GE144.out | refine below_set ?_ GE145.out | refine below_set ?_ GE151.out | refine below_set ?_ GE157.out | refine below_set ?_ GE163.out) | exact HB.out))))
                  have n8_ := am (blk_below (g := gb144) (o := .cells #[.int .u64 t133, .slice Ao35 t134.length co35] 25 (0, 0)) (bu BK144.out) hb)
                  have n9_ := am (blk_below (g := gb145) (o := .cells #[.int .u64 t140, .slice Ao37 t141.length co37] 25 (0, 0)) (bu BK145.out) hb)
                  have n10_ := am (blk_below (g := gb151) (o := .cells #[.int .u64 t146, .slice Ao43 t147.length co43] 25 (0, 0)) (bu BK151.out) hb)
                  have n11_ := am (blk_below (g := gb157) (o := .cells #[.int .u64 t152, .slice Ao52 t153.length co52] 25 (0, 0)) (bu BK157.out) hb)
                  have n12_ := am (blk_below (g := gb163) (o := .cells #[.int .u64 t158, .slice Ao62 t159.length co62] 25 (0, 0)) (bu BK163.out) hb)
                  have n13_ := am (below_step (by repeat (first | (with_reducible first | exact HB.out | apply below_alloc | apply pw_below_drewN | apply below_drew1 | refine below_set ?_ GE144.out | refine below_set ?_ GE145.out | refine below_set ?_ GE151.out | refine below_set ?_ GE157.out | refine below_set ?_ GE163.out) | exact HB.out)) hb)
                  clear HO136
                  clear HO143
                  clear HO149
                  clear HO155
                  clear HO161
                  clear HO172
                  clear HO180
                  clear BK144
                  clear BK145
                  clear BK151
                  clear BK157
                  clear BK163
                  clear HB
                  have HO136 := n0_
                  have HO143 := n1_
                  have HO149 := n2_
                  have HO155 := n3_
                  have HO161 := n4_
                  have HO172 := n5_
                  have HO180 := n6_
                  have HO184 := n7_
                  have BK144 := n8_
                  have BK145 := n9_
                  have BK151 := n10_
                  have BK157 := n11_
                  have BK163 := n12_
                  have HB := n13_
                  clear n0_ n1_ n2_ n3_ n4_ n5_ n6_ n7_ n8_ n9_ n10_ n11_ n12_ n13_
                  clear hb ho80
                  obtain ⟨Ao81, co81, eo81⟩ := Kd.R_slice HO184.out
                  (first | subst eo81 | (injection eo81 with f1_ f2_ f3_; have f4_ := f1_.symm; have f5_ := f3_.symm; clear f1_ f2_ f3_; subst f4_; subst f5_))
                  refine hK.out _ _ ⟨(blk_cell BK151.out 0).trans rfl, (blk_cell BK151.out 1).trans rfl, (blk_cell BK157.out 0).trans rfl, (blk_cell BK157.out 1).trans rfl, (blk_cell BK163.out 0).trans rfl, (blk_cell BK163.out 1).trans rfl⟩ (fun hHeld => ?_)
                  clear hK K
                  refine norm_ (a' := ?_) ?_ ?_
                  rotate_left
                  · show Act.put _ (some 67) _ = _
                    simp only [Act.put, List.setIfInBounds_toArray, List.set_cons_zero, List.set_cons_succ, i64_w, i32_w]
                    rfl
                  refine one_ (i := 29) (N := some 68) (tb 30 43) rfl rfl (one_of HT_.out (by kernel_rfl)) (by decide) (fun K hK => ?_)
                  refine goes_ Try.func29 (by kernel_rfl) rfl #[.int .u64 6, .slice Ao81 y182.length co81] (by rfl) rfl rfl (by (try simp only [List.map_toArray, List.map_cons, List.map_nil]); first | done | rfl | (simp only [List.length_drop, List.length_take]; rfl)) ?_
                  with_reducible refine (tallymanlaw17_view.calls 6 (fun k_ => some k_ = (.slice Ao81 y182.length co81 : Value).ownBlock) (.slice Ao81 y182.length co81) y182 t185 t186 w _ ?side1 ?side2 A17.out).mono ?_
                  (case side1 => repeat (first | (with_reducible first | exact HB.out | apply below_alloc | apply pw_below_drewN | apply below_drew1 | refine below_set ?_ GE144.out | refine below_set ?_ GE145.out | refine below_set ?_ GE151.out | refine below_set ?_ GE157.out | refine below_set ?_ GE163.out) | exact HB.out))
                  (case side2 => exact Kd.R_tight rfl HO184.out)
                  rintro e w82 ⟨v187, rfl, ho0, hb, hkp⟩
                  refine ⟨_, rfl, ?_⟩
                  have n0_ := am (Kd.R_mono (ok' := fun k_ => nb Ao37 t141.length co37 k_ ∧ nb Ao43 t147.length co43 k_ ∧ nb Ao52 t153.length co52 k_ ∧ nb Ao62 t159.length co62 k_ ∧ nb Ao71 t170.length co71 k_ ∧ nb Ao77 t178.length co77 k_ ∧ some k_ ≠ (v187 : Value).ownBlock) (Kd.R_keptB (HO136.out) hkp (fun k_ hk_ hs_ => (hk_.2) hs_)) (fun k_ hk_ => ⟨hk_.1.1.1, hk_.1.1.2.1, hk_.1.1.2.2.1, hk_.1.1.2.2.2.1, hk_.1.1.2.2.2.2.1, hk_.1.1.2.2.2.2.2, fun e_ => Or.elim (ho0.1 k_ e_.symm) (fun hs_ => hk_.2.1 hs_) (fun hn_ => Nat.not_le.2 hk_.2.2 hn_)⟩))
                  have n1_ := am (Kd.R_mono (ok' := fun k_ => nb Ao35 t134.length co35 k_ ∧ nb Ao43 t147.length co43 k_ ∧ nb Ao52 t153.length co52 k_ ∧ nb Ao62 t159.length co62 k_ ∧ nb Ao71 t170.length co71 k_ ∧ nb Ao77 t178.length co77 k_ ∧ some k_ ≠ (v187 : Value).ownBlock) (Kd.R_keptB (HO143.out) hkp (fun k_ hk_ hs_ => (hk_.2) hs_)) (fun k_ hk_ => ⟨hk_.1.1.1, hk_.1.1.2.1, hk_.1.1.2.2.1, hk_.1.1.2.2.2.1, hk_.1.1.2.2.2.2.1, hk_.1.1.2.2.2.2.2, fun e_ => Or.elim (ho0.1 k_ e_.symm) (fun hs_ => hk_.2.1 hs_) (fun hn_ => Nat.not_le.2 hk_.2.2 hn_)⟩))
                  have n2_ := am (blk_kept (bu BK144.out) hkp (fun hs_ => (fun e_ => (Kd.R_ne HO184.out BK144.out (by decide)) e_) hs_))
                  have n3_ := am (blk_kept (bu BK145.out) hkp (fun hs_ => (fun e_ => (Kd.R_ne HO184.out BK145.out (by decide)) e_) hs_))
                  have n4_ := am (Kd.R_mono (ok' := fun k_ => nb Ao35 t134.length co35 k_ ∧ nb Ao37 t141.length co37 k_ ∧ nb Ao52 t153.length co52 k_ ∧ nb Ao62 t159.length co62 k_ ∧ nb Ao71 t170.length co71 k_ ∧ nb Ao77 t178.length co77 k_ ∧ some k_ ≠ (v187 : Value).ownBlock) (Kd.R_keptB (HO149.out) hkp (fun k_ hk_ hs_ => (hk_.2) hs_)) (fun k_ hk_ => ⟨hk_.1.1.1, hk_.1.1.2.1, hk_.1.1.2.2.1, hk_.1.1.2.2.2.1, hk_.1.1.2.2.2.2.1, hk_.1.1.2.2.2.2.2, fun e_ => Or.elim (ho0.1 k_ e_.symm) (fun hs_ => hk_.2.1 hs_) (fun hn_ => Nat.not_le.2 hk_.2.2 hn_)⟩))
                  have n5_ := am (blk_kept (bu BK151.out) hkp (fun hs_ => (fun e_ => (Kd.R_ne HO184.out BK151.out (by decide)) e_) hs_))
                  have n6_ := am (Kd.R_mono (ok' := fun k_ => nb Ao35 t134.length co35 k_ ∧ nb Ao37 t141.length co37 k_ ∧ nb Ao43 t147.length co43 k_ ∧ nb Ao62 t159.length co62 k_ ∧ nb Ao71 t170.length co71 k_ ∧ nb Ao77 t178.length co77 k_ ∧ some k_ ≠ (v187 : Value).ownBlock) (Kd.R_keptB (HO155.out) hkp (fun k_ hk_ hs_ => (hk_.2) hs_)) (fun k_ hk_ => ⟨hk_.1.1.1, hk_.1.1.2.1, hk_.1.1.2.2.1, hk_.1.1.2.2.2.1, hk_.1.1.2.2.2.2.1, hk_.1.1.2.2.2.2.2, fun e_ => Or.elim (ho0.1 k_ e_.symm) (fun hs_ => hk_.2.1 hs_) (fun hn_ => Nat.not_le.2 hk_.2.2 hn_)⟩))
                  have n7_ := am (blk_kept (bu BK157.out) hkp (fun hs_ => (fun e_ => (Kd.R_ne HO184.out BK157.out (by decide)) e_) hs_))
                  have n8_ := am (Kd.R_mono (ok' := fun k_ => nb Ao35 t134.length co35 k_ ∧ nb Ao37 t141.length co37 k_ ∧ nb Ao43 t147.length co43 k_ ∧ nb Ao52 t153.length co52 k_ ∧ nb Ao71 t170.length co71 k_ ∧ nb Ao77 t178.length co77 k_ ∧ some k_ ≠ (v187 : Value).ownBlock) (Kd.R_keptB (HO161.out) hkp (fun k_ hk_ hs_ => (hk_.2) hs_)) (fun k_ hk_ => ⟨hk_.1.1.1, hk_.1.1.2.1, hk_.1.1.2.2.1, hk_.1.1.2.2.2.1, hk_.1.1.2.2.2.2.1, hk_.1.1.2.2.2.2.2, fun e_ => Or.elim (ho0.1 k_ e_.symm) (fun hs_ => hk_.2.1 hs_) (fun hn_ => Nat.not_le.2 hk_.2.2 hn_)⟩))
                  have n9_ := am (blk_kept (bu BK163.out) hkp (fun hs_ => (fun e_ => (Kd.R_ne HO184.out BK163.out (by decide)) e_) hs_))
                  have n10_ := am (Kd.R_mono (ok' := fun k_ => nb Ao35 t134.length co35 k_ ∧ nb Ao37 t141.length co37 k_ ∧ nb Ao43 t147.length co43 k_ ∧ nb Ao52 t153.length co52 k_ ∧ nb Ao62 t159.length co62 k_ ∧ nb Ao77 t178.length co77 k_ ∧ some k_ ≠ (v187 : Value).ownBlock) (Kd.R_keptB (HO172.out) hkp (fun k_ hk_ hs_ => (hk_.2) hs_)) (fun k_ hk_ => ⟨hk_.1.1.1, hk_.1.1.2.1, hk_.1.1.2.2.1, hk_.1.1.2.2.2.1, hk_.1.1.2.2.2.2.1, hk_.1.1.2.2.2.2.2, fun e_ => Or.elim (ho0.1 k_ e_.symm) (fun hs_ => hk_.2.1 hs_) (fun hn_ => Nat.not_le.2 hk_.2.2 hn_)⟩))
                  have n11_ := am (Kd.R_mono (ok' := fun k_ => nb Ao35 t134.length co35 k_ ∧ nb Ao37 t141.length co37 k_ ∧ nb Ao43 t147.length co43 k_ ∧ nb Ao52 t153.length co52 k_ ∧ nb Ao62 t159.length co62 k_ ∧ nb Ao71 t170.length co71 k_ ∧ some k_ ≠ (v187 : Value).ownBlock) (Kd.R_keptB (HO180.out) hkp (fun k_ hk_ hs_ => (hk_.2) hs_)) (fun k_ hk_ => ⟨hk_.1.1.1, hk_.1.1.2.1, hk_.1.1.2.2.1, hk_.1.1.2.2.2.1, hk_.1.1.2.2.2.2.1, hk_.1.1.2.2.2.2.2, fun e_ => Or.elim (ho0.1 k_ e_.symm) (fun hs_ => hk_.2.1 hs_) (fun hn_ => Nat.not_le.2 hk_.2.2 hn_)⟩))
                  have n12_ := am (Kd.R_mono (ok' := fun k_ => nb Ao35 t134.length co35 k_ ∧ nb Ao37 t141.length co37 k_ ∧ nb Ao43 t147.length co43 k_ ∧ nb Ao52 t153.length co52 k_ ∧ nb Ao62 t159.length co62 k_ ∧ nb Ao71 t170.length co71 k_ ∧ nb Ao77 t178.length co77 k_) ho0 (fun k_ hk_ => ⟨Or.elim hk_ (fun hs_ => fun e_ => (((HO136.out).1 k_ e_.symm).2) hs_) (fun hn_ => (Kd.fresh' (Kd.R_lt (ru (HO136.out))) k_ hn_)), Or.elim hk_ (fun hs_ => fun e_ => (((HO143.out).1 k_ e_.symm).2) hs_) (fun hn_ => (Kd.fresh' (Kd.R_lt (ru (HO143.out))) k_ hn_)), Or.elim hk_ (fun hs_ => fun e_ => (((HO149.out).1 k_ e_.symm).2) hs_) (fun hn_ => (Kd.fresh' (Kd.R_lt (ru (HO149.out))) k_ hn_)), Or.elim hk_ (fun hs_ => fun e_ => (((HO155.out).1 k_ e_.symm).2) hs_) (fun hn_ => (Kd.fresh' (Kd.R_lt (ru (HO155.out))) k_ hn_)), Or.elim hk_ (fun hs_ => fun e_ => (((HO161.out).1 k_ e_.symm).2) hs_) (fun hn_ => (Kd.fresh' (Kd.R_lt (ru (HO161.out))) k_ hn_)), Or.elim hk_ (fun hs_ => fun e_ => (((HO172.out).1 k_ e_.symm).2) hs_) (fun hn_ => (Kd.fresh' (Kd.R_lt (ru (HO172.out))) k_ hn_)), Or.elim hk_ (fun hs_ => fun e_ => (((HO180.out).1 k_ e_.symm).2) hs_) (fun hn_ => (Kd.fresh' (Kd.R_lt (ru (HO180.out))) k_ hn_))⟩))
                  have n13_ := am (hb)
                  clear HO136
                  clear HO143
                  clear BK144
                  clear BK145
                  clear HO149
                  clear BK151
                  clear HO155
                  clear BK157
                  clear HO161
                  clear BK163
                  clear HO172
                  clear HO180
                  clear HB
                  clear HO184
                  have HO136 := n0_
                  have HO143 := n1_
                  have BK144 := n2_
                  have BK145 := n3_
                  have HO149 := n4_
                  have BK151 := n5_
                  have HO155 := n6_
                  have BK157 := n7_
                  have HO161 := n8_
                  have BK163 := n9_
                  have HO172 := n10_
                  have HO180 := n11_
                  have HO188 := n12_
                  have HB := n13_
                  clear n0_ n1_ n2_ n3_ n4_ n5_ n6_ n7_ n8_ n9_ n10_ n11_ n12_ n13_
                  (try clear hb)
                  (try clear hkp)
                  (try clear ho0)
                  obtain ⟨Ao83, co83, eo83⟩ := Kd.R_slice HO188.out
                  (first | subst eo83 | (injection eo83 with f1_ f2_ f3_; have f4_ := f1_.symm; have f5_ := f3_.symm; clear f1_ f2_ f3_; subst f4_; subst f5_))
                  refine hK.out _ _ ⟨(blk_cell BK151.out 0).trans rfl, (blk_cell BK151.out 1).trans rfl, (blk_cell BK157.out 0).trans rfl, (blk_cell BK157.out 1).trans rfl, (blk_cell BK163.out 0).trans rfl, (blk_cell BK163.out 1).trans rfl⟩ (fun hHeld => ?_)
                  clear hK K
                  refine norm_ (a' := ?_) ?_ ?_
                  rotate_left
                  · show Act.put _ (some 68) _ = _
                    simp only [Act.put, List.setIfInBounds_toArray, List.set_cons_zero, List.set_cons_succ, i64_w, i32_w]
                    rfl
                  refine one_ (i := 30) (N := some 69) (tb 31 43) rfl rfl (one_of HT_.out (by kernel_rfl)) (by decide) (fun K hK => ?_)
                  refine goes_ Try.func30 (by kernel_rfl) rfl #[.agg #[.int .u64 t158, .slice Ao62 t159.length co62], .agg #[.int .u64 t185, .slice Ao83 t186.length co83]] (by rfl) rfl rfl (by (try simp only [List.map_toArray, List.map_cons, List.map_nil]); first | done | rfl | (simp only [List.length_drop, List.length_take]; rfl)) ?_
                  with_reducible refine (tallymankit_View.calls k t158 _ _ t159 t185 _ _ t186 true _ ?side1 ?side2 ?side3 ?side4 A18.out).mono ?_
                  (case side1 => repeat (first | exact (Kd.R_reads' HO161.out).2.2 | (with_reducible refine Kd.C_alloc ?_ _) | (with_reducible refine Kd.C_drewN ?_ _) | (with_reducible refine Kd.C_drew ?_)))
                  (case side2 => exact (Kd.R_reads' HO161.out).2.1)
                  (case side3 => repeat (first | exact (Kd.R_reads' HO188.out).2.2 | (with_reducible refine Kd.C_alloc ?_ _) | (with_reducible refine Kd.C_drewN ?_ _) | (with_reducible refine Kd.C_drew ?_)))
                  (case side4 => exact (Kd.R_reads' HO188.out).2.1)
                  rintro e w84 ⟨rfl, hb⟩
                  refine ⟨_, rfl, ?_⟩
                  have n0_ := am (Kd.R_below (ru (HO136.out)) hb)
                  have n1_ := am (Kd.R_below (ru (HO143.out)) hb)
                  have n2_ := am (Kd.R_below (ru (HO149.out)) hb)
                  have n3_ := am (Kd.R_below (ru (HO155.out)) hb)
                  have n4_ := am (Kd.R_below (ru (HO161.out)) hb)
                  have n5_ := am (Kd.R_below (ru (HO172.out)) hb)
                  have n6_ := am (Kd.R_below (ru (HO180.out)) hb)
                  have n7_ := am (Kd.R_below (ru (HO188.out)) hb)
                  have n8_ := am (blk_below (g := gb144) (o := .cells #[.int .u64 t133, .slice Ao35 t134.length co35] 25 (0, 0)) (bu BK144.out) hb)
                  have n9_ := am (blk_below (g := gb145) (o := .cells #[.int .u64 t140, .slice Ao37 t141.length co37] 25 (0, 0)) (bu BK145.out) hb)
                  have n10_ := am (blk_below (g := gb151) (o := .cells #[.int .u64 t146, .slice Ao43 t147.length co43] 25 (0, 0)) (bu BK151.out) hb)
                  have n11_ := am (blk_below (g := gb157) (o := .cells #[.int .u64 t152, .slice Ao52 t153.length co52] 25 (0, 0)) (bu BK157.out) hb)
                  have n12_ := am (blk_below (g := gb163) (o := .cells #[.int .u64 t158, .slice Ao62 t159.length co62] 25 (0, 0)) (bu BK163.out) hb)
                  have n13_ := am (below_step (by repeat (first | (with_reducible first | exact HB.out | apply below_alloc | apply pw_below_drewN | apply below_drew1 | refine below_set ?_ GE144.out | refine below_set ?_ GE145.out | refine below_set ?_ GE151.out | refine below_set ?_ GE157.out | refine below_set ?_ GE163.out) | exact HB.out)) hb)
                  clear HO136
                  clear HO143
                  clear HO149
                  clear HO155
                  clear HO161
                  clear HO172
                  clear HO180
                  clear HO188
                  clear BK144
                  clear BK145
                  clear BK151
                  clear BK157
                  clear BK163
                  clear HB
                  have HO136 := n0_
                  have HO143 := n1_
                  have HO149 := n2_
                  have HO155 := n3_
                  have HO161 := n4_
                  have HO172 := n5_
                  have HO180 := n6_
                  have HO188 := n7_
                  have BK144 := n8_
                  have BK145 := n9_
                  have BK151 := n10_
                  have BK157 := n11_
                  have BK163 := n12_
                  have HB := n13_
                  clear n0_ n1_ n2_ n3_ n4_ n5_ n6_ n7_ n8_ n9_ n10_ n11_ n12_ n13_
                  (try clear hb)
                  (try clear hb2)
                  (try clear hk)
                  (try clear hi)
                  refine hK.out _ _ ⟨(blk_cell BK151.out 0).trans rfl, (blk_cell BK151.out 1).trans rfl, (blk_cell BK157.out 0).trans rfl, (blk_cell BK157.out 1).trans rfl, (blk_cell BK163.out 0).trans rfl, (blk_cell BK163.out 1).trans rfl⟩ (fun hHeld => ?_)
                  clear hK K
                  refine norm_ (a' := ?_) ?_ ?_
                  rotate_left
                  · show Act.put _ (some 69) _ = _
                    simp only [Act.put, List.setIfInBounds_toArray, List.set_cons_zero, List.set_cons_succ, i64_w, i32_w]
                    rfl
                  refine pure_ (i := 31) (N := some 70) (v := ?_) (a' := ?_) (tb 32 43) rfl rfl (any_of HT_.out (by kernel_rfl)) (fun _ _ _ h => h) (Or.inl ⟨by rfl, ?_⟩) ?_ ?_
                  rotate_left
                  · intro w'
                    go_simp
                    with_reducible rfl
                  rotate_left
                  · simp only [Act.put, List.setIfInBounds_toArray, List.set_cons_zero, List.set_cons_succ, i64_w, i32_w]
                    rfl
                  refine pure_ (i := 32) (N := some 71) (v := ?_) (a' := ?_) (tb 33 43) rfl rfl (any_of HT_.out (by kernel_rfl)) (fun _ _ _ h => h) (Or.inl ⟨by rfl, ?_⟩) ?_ ?_
                  rotate_left
                  · intro w'
                    go_simp
                    with_reducible rfl
                  rotate_left
                  · simp only [Act.put, List.setIfInBounds_toArray, List.set_cons_zero, List.set_cons_succ, i64_w, i32_w]
                    rfl
                  refine pure_ (i := 33) (N := some 72) (v := ?_) (a' := ?_) (tb 34 43) rfl rfl (any_of HT_.out (by kernel_rfl)) (fun _ _ _ h => h) (Or.inl ⟨by rfl, ?_⟩) ?_ ?_
                  rotate_left
                  · intro w'
                    go_simp
                    with_reducible rfl
                  rotate_left
                  · simp only [Act.put, List.setIfInBounds_toArray, List.set_cons_zero, List.set_cons_succ, i64_w, i32_w]
                    rfl
                  refine pure_ (i := 34) (N := some 73) (v := ?_) (a' := ?_) (tb 35 43) rfl rfl (any_of HT_.out (by kernel_rfl)) (fun _ _ _ h => h) (Or.inl ⟨by rfl, ?_⟩) ?_ ?_
                  rotate_left
                  · intro w'
                    go_simp
                    with_reducible rfl
                  rotate_left
                  · simp only [Act.put, List.setIfInBounds_toArray, List.set_cons_zero, List.set_cons_succ, i64_w, i32_w]
                    rfl
                  refine pure_ (i := 35) (N := some 74) (v := ?_) (a' := ?_) (tb 36 43) rfl rfl (any_of HT_.out (by kernel_rfl)) (fun _ _ _ h => h) (Or.inl ⟨by rfl, ?_⟩) ?_ ?_
                  rotate_left
                  · intro w'
                    go_simp
                    with_reducible rfl
                  rotate_left
                  · simp only [Act.put, List.setIfInBounds_toArray, List.set_cons_zero, List.set_cons_succ, i64_w, i32_w]
                    rfl
                  refine pure_ (i := 36) (N := some 75) (v := ?_) (a' := ?_) (tb 37 43) rfl rfl (any_of HT_.out (by kernel_rfl)) (fun _ _ _ h => h) (Or.inl ⟨by rfl, ?_⟩) ?_ ?_
                  rotate_left
                  · intro w'
                    go_simp
                    with_reducible rfl
                  rotate_left
                  · simp only [Act.put, List.setIfInBounds_toArray, List.set_cons_zero, List.set_cons_succ, i64_w, i32_w]
                    rfl
                  refine one_ (i := 37) (N := some 76) (tb 38 43) rfl rfl (one_of HT_.out (by kernel_rfl)) (by decide) (fun K hK => ?_)
                  refine Kd.R_lit_step (Kd.int .u64) _ 22 ?hg (N := 76) ?hd (xs := ([1, 2, 3, 4] : List Int)) (inner := [.int .u64 1, .int .u64 2, .int .u64 3, .int .u64 4]) (ok := fun _ => True) (okp := fun _ => True) ?hr ?hp (fun _ hk => hk) trivial (Below.refl _ _) (Nat.le_refl _) (by simp) ?_; (case hd => rfl); (case hg => rfl); (case hr => first | (go_simp; done) | (go_simp; rfl)); (case hp => exact (Reps.one (show Kd.M (Kd.int .u64) _ _ _ 1 [.int .u64 1] from rfl) (Reps.one (show Kd.M (Kd.int .u64) _ _ _ 2 [.int .u64 2] from rfl) (Reps.one (show Kd.M (Kd.int .u64) _ _ _ 3 [.int .u64 3] from rfl) (Reps.one (show Kd.M (Kd.int .u64) _ _ _ 4 [.int .u64 4] from rfl) (Reps.none _ _))))))
                  intro v191 w85 ho86 hb hg_ hnew_
                  clear hg_ hnew_
                  (first | rw [← Ny190.out] at ho86 | (simp only [Int.reduceToNat] at ho86; rw [← Ny190.out] at ho86))
                  have n0_ := am (Kd.R_elder' (ru (HO136.out)) (Kd.R_base ho86) hb)
                  have n1_ := am (Kd.R_elder' (ru (HO143.out)) (Kd.R_base ho86) hb)
                  have n2_ := am (Kd.R_elder' (ru (HO149.out)) (Kd.R_base ho86) hb)
                  have n3_ := am (Kd.R_elder' (ru (HO155.out)) (Kd.R_base ho86) hb)
                  have n4_ := am (Kd.R_elder' (ru (HO161.out)) (Kd.R_base ho86) hb)
                  have n5_ := am (Kd.R_elder' (ru (HO172.out)) (Kd.R_base ho86) hb)
                  have n6_ := am (Kd.R_elder' (ru (HO180.out)) (Kd.R_base ho86) hb)
                  have n7_ := am (Kd.R_elder' (ru (HO188.out)) (Kd.R_base ho86) hb)
                  have n8_ := am (Kd.R_lower (Kd.R_new' (Kd.R_new' (Kd.R_new' (Kd.R_new' (Kd.R_new' (Kd.R_new' (Kd.R_new' (Kd.R_new' ho86 (Kd.R_lt (ru (HO136.out)))) (Kd.R_lt (ru (HO143.out)))) (Kd.R_lt (ru (HO149.out)))) (Kd.R_lt (ru (HO155.out)))) (Kd.R_lt (ru (HO161.out)))) (Kd.R_lt (ru (HO172.out)))) (Kd.R_lt (ru (HO180.out)))) (Kd.R_lt (ru (HO188.out)))) (below_size (by repeat (first | (with_reducible first | exact HB.out | apply below_alloc | apply pw_below_drewN | apply below_drew1 | refine below_set ?_ GE144.out | refine below_set ?_ GE145.out | refine below_set ?_ GE151.out | refine below_set ?_ GE157.out | refine below_set ?_ GE163.out) | exact HB.out))))
                  have n9_ := am (blk_below (g := gb144) (o := .cells #[.int .u64 t133, .slice Ao35 t134.length co35] 25 (0, 0)) (bu BK144.out) hb)
                  have n10_ := am (blk_below (g := gb145) (o := .cells #[.int .u64 t140, .slice Ao37 t141.length co37] 25 (0, 0)) (bu BK145.out) hb)
                  have n11_ := am (blk_below (g := gb151) (o := .cells #[.int .u64 t146, .slice Ao43 t147.length co43] 25 (0, 0)) (bu BK151.out) hb)
                  have n12_ := am (blk_below (g := gb157) (o := .cells #[.int .u64 t152, .slice Ao52 t153.length co52] 25 (0, 0)) (bu BK157.out) hb)
                  have n13_ := am (blk_below (g := gb163) (o := .cells #[.int .u64 t158, .slice Ao62 t159.length co62] 25 (0, 0)) (bu BK163.out) hb)
                  have n14_ := am (below_step (by repeat (first | (with_reducible first | exact HB.out | apply below_alloc | apply pw_below_drewN | apply below_drew1 | refine below_set ?_ GE144.out | refine below_set ?_ GE145.out | refine below_set ?_ GE151.out | refine below_set ?_ GE157.out | refine below_set ?_ GE163.out) | exact HB.out)) hb)
                  clear HO136
                  clear HO143
                  clear HO149
                  clear HO155
                  clear HO161
                  clear HO172
                  clear HO180
                  clear HO188
                  clear BK144
                  clear BK145
                  clear BK151
                  clear BK157
                  clear BK163
                  clear HB
                  have HO136 := n0_
                  have HO143 := n1_
                  have HO149 := n2_
                  have HO155 := n3_
                  have HO161 := n4_
                  have HO172 := n5_
                  have HO180 := n6_
                  have HO188 := n7_
                  have HO192 := n8_
                  have BK144 := n9_
                  have BK145 := n10_
                  have BK151 := n11_
                  have BK157 := n12_
                  have BK163 := n13_
                  have HB := n14_
                  clear n0_ n1_ n2_ n3_ n4_ n5_ n6_ n7_ n8_ n9_ n10_ n11_ n12_ n13_ n14_
                  clear hb ho86
                  obtain ⟨Ao87, co87, eo87⟩ := Kd.R_slice HO192.out
                  (first | subst eo87 | (injection eo87 with f1_ f2_ f3_; have f4_ := f1_.symm; have f5_ := f3_.symm; clear f1_ f2_ f3_; subst f4_; subst f5_))
                  refine hK.out _ _ ⟨(blk_cell BK151.out 0).trans rfl, (blk_cell BK151.out 1).trans rfl, (blk_cell BK157.out 0).trans rfl, (blk_cell BK157.out 1).trans rfl, (blk_cell BK163.out 0).trans rfl, (blk_cell BK163.out 1).trans rfl⟩ (fun hHeld => ?_)
                  clear hK K
                  refine norm_ (a' := ?_) ?_ ?_
                  rotate_left
                  · show Act.put _ (some 76) _ = _
                    simp only [Act.put, List.setIfInBounds_toArray, List.set_cons_zero, List.set_cons_succ, i64_w, i32_w]
                    rfl
                  refine one_ (i := 38) (N := some 77) (tb 39 43) rfl rfl (one_of HT_.out (by kernel_rfl)) (by decide) (fun K hK => ?_)
                  refine goes_ Try.func29 (by kernel_rfl) rfl #[.int .u64 4611686018427387904, .slice Ao87 y190.length co87] (by rfl) rfl rfl (by (try simp only [List.map_toArray, List.map_cons, List.map_nil]); first | done | rfl | (simp only [List.length_drop, List.length_take]; rfl)) ?_
                  with_reducible refine (tallymanlaw17_view.calls 4611686018427387904 (fun k_ => some k_ = (.slice Ao87 y190.length co87 : Value).ownBlock) (.slice Ao87 y190.length co87) y190 t193 t194 w _ ?side1 ?side2 A21.out).mono ?_
                  (case side1 => repeat (first | (with_reducible first | exact HB.out | apply below_alloc | apply pw_below_drewN | apply below_drew1 | refine below_set ?_ GE144.out | refine below_set ?_ GE145.out | refine below_set ?_ GE151.out | refine below_set ?_ GE157.out | refine below_set ?_ GE163.out) | exact HB.out))
                  (case side2 => exact Kd.R_tight rfl HO192.out)
                  rintro e w88 ⟨v195, rfl, ho0, hb, hkp⟩
                  refine ⟨_, rfl, ?_⟩
                  have n0_ := am (Kd.R_mono (ok' := fun k_ => nb Ao37 t141.length co37 k_ ∧ nb Ao43 t147.length co43 k_ ∧ nb Ao52 t153.length co52 k_ ∧ nb Ao62 t159.length co62 k_ ∧ nb Ao71 t170.length co71 k_ ∧ nb Ao77 t178.length co77 k_ ∧ nb Ao83 t186.length co83 k_ ∧ some k_ ≠ (v195 : Value).ownBlock) (Kd.R_keptB (HO136.out) hkp (fun k_ hk_ hs_ => (hk_.2) hs_)) (fun k_ hk_ => ⟨hk_.1.1.1, hk_.1.1.2.1, hk_.1.1.2.2.1, hk_.1.1.2.2.2.1, hk_.1.1.2.2.2.2.1, hk_.1.1.2.2.2.2.2.1, hk_.1.1.2.2.2.2.2.2, fun e_ => Or.elim (ho0.1 k_ e_.symm) (fun hs_ => hk_.2.1 hs_) (fun hn_ => Nat.not_le.2 hk_.2.2 hn_)⟩))
                  have n1_ := am (Kd.R_mono (ok' := fun k_ => nb Ao35 t134.length co35 k_ ∧ nb Ao43 t147.length co43 k_ ∧ nb Ao52 t153.length co52 k_ ∧ nb Ao62 t159.length co62 k_ ∧ nb Ao71 t170.length co71 k_ ∧ nb Ao77 t178.length co77 k_ ∧ nb Ao83 t186.length co83 k_ ∧ some k_ ≠ (v195 : Value).ownBlock) (Kd.R_keptB (HO143.out) hkp (fun k_ hk_ hs_ => (hk_.2) hs_)) (fun k_ hk_ => ⟨hk_.1.1.1, hk_.1.1.2.1, hk_.1.1.2.2.1, hk_.1.1.2.2.2.1, hk_.1.1.2.2.2.2.1, hk_.1.1.2.2.2.2.2.1, hk_.1.1.2.2.2.2.2.2, fun e_ => Or.elim (ho0.1 k_ e_.symm) (fun hs_ => hk_.2.1 hs_) (fun hn_ => Nat.not_le.2 hk_.2.2 hn_)⟩))
                  have n2_ := am (blk_kept (bu BK144.out) hkp (fun hs_ => (fun e_ => (Kd.R_ne HO192.out BK144.out (by decide)) e_) hs_))
                  have n3_ := am (blk_kept (bu BK145.out) hkp (fun hs_ => (fun e_ => (Kd.R_ne HO192.out BK145.out (by decide)) e_) hs_))
                  have n4_ := am (Kd.R_mono (ok' := fun k_ => nb Ao35 t134.length co35 k_ ∧ nb Ao37 t141.length co37 k_ ∧ nb Ao52 t153.length co52 k_ ∧ nb Ao62 t159.length co62 k_ ∧ nb Ao71 t170.length co71 k_ ∧ nb Ao77 t178.length co77 k_ ∧ nb Ao83 t186.length co83 k_ ∧ some k_ ≠ (v195 : Value).ownBlock) (Kd.R_keptB (HO149.out) hkp (fun k_ hk_ hs_ => (hk_.2) hs_)) (fun k_ hk_ => ⟨hk_.1.1.1, hk_.1.1.2.1, hk_.1.1.2.2.1, hk_.1.1.2.2.2.1, hk_.1.1.2.2.2.2.1, hk_.1.1.2.2.2.2.2.1, hk_.1.1.2.2.2.2.2.2, fun e_ => Or.elim (ho0.1 k_ e_.symm) (fun hs_ => hk_.2.1 hs_) (fun hn_ => Nat.not_le.2 hk_.2.2 hn_)⟩))
                  have n5_ := am (blk_kept (bu BK151.out) hkp (fun hs_ => (fun e_ => (Kd.R_ne HO192.out BK151.out (by decide)) e_) hs_))
                  have n6_ := am (Kd.R_mono (ok' := fun k_ => nb Ao35 t134.length co35 k_ ∧ nb Ao37 t141.length co37 k_ ∧ nb Ao43 t147.length co43 k_ ∧ nb Ao62 t159.length co62 k_ ∧ nb Ao71 t170.length co71 k_ ∧ nb Ao77 t178.length co77 k_ ∧ nb Ao83 t186.length co83 k_ ∧ some k_ ≠ (v195 : Value).ownBlock) (Kd.R_keptB (HO155.out) hkp (fun k_ hk_ hs_ => (hk_.2) hs_)) (fun k_ hk_ => ⟨hk_.1.1.1, hk_.1.1.2.1, hk_.1.1.2.2.1, hk_.1.1.2.2.2.1, hk_.1.1.2.2.2.2.1, hk_.1.1.2.2.2.2.2.1, hk_.1.1.2.2.2.2.2.2, fun e_ => Or.elim (ho0.1 k_ e_.symm) (fun hs_ => hk_.2.1 hs_) (fun hn_ => Nat.not_le.2 hk_.2.2 hn_)⟩))
                  have n7_ := am (blk_kept (bu BK157.out) hkp (fun hs_ => (fun e_ => (Kd.R_ne HO192.out BK157.out (by decide)) e_) hs_))
                  have n8_ := am (Kd.R_mono (ok' := fun k_ => nb Ao35 t134.length co35 k_ ∧ nb Ao37 t141.length co37 k_ ∧ nb Ao43 t147.length co43 k_ ∧ nb Ao52 t153.length co52 k_ ∧ nb Ao71 t170.length co71 k_ ∧ nb Ao77 t178.length co77 k_ ∧ nb Ao83 t186.length co83 k_ ∧ some k_ ≠ (v195 : Value).ownBlock) (Kd.R_keptB (HO161.out) hkp (fun k_ hk_ hs_ => (hk_.2) hs_)) (fun k_ hk_ => ⟨hk_.1.1.1, hk_.1.1.2.1, hk_.1.1.2.2.1, hk_.1.1.2.2.2.1, hk_.1.1.2.2.2.2.1, hk_.1.1.2.2.2.2.2.1, hk_.1.1.2.2.2.2.2.2, fun e_ => Or.elim (ho0.1 k_ e_.symm) (fun hs_ => hk_.2.1 hs_) (fun hn_ => Nat.not_le.2 hk_.2.2 hn_)⟩))
                  have n9_ := am (blk_kept (bu BK163.out) hkp (fun hs_ => (fun e_ => (Kd.R_ne HO192.out BK163.out (by decide)) e_) hs_))
                  have n10_ := am (Kd.R_mono (ok' := fun k_ => nb Ao35 t134.length co35 k_ ∧ nb Ao37 t141.length co37 k_ ∧ nb Ao43 t147.length co43 k_ ∧ nb Ao52 t153.length co52 k_ ∧ nb Ao62 t159.length co62 k_ ∧ nb Ao77 t178.length co77 k_ ∧ nb Ao83 t186.length co83 k_ ∧ some k_ ≠ (v195 : Value).ownBlock) (Kd.R_keptB (HO172.out) hkp (fun k_ hk_ hs_ => (hk_.2) hs_)) (fun k_ hk_ => ⟨hk_.1.1.1, hk_.1.1.2.1, hk_.1.1.2.2.1, hk_.1.1.2.2.2.1, hk_.1.1.2.2.2.2.1, hk_.1.1.2.2.2.2.2.1, hk_.1.1.2.2.2.2.2.2, fun e_ => Or.elim (ho0.1 k_ e_.symm) (fun hs_ => hk_.2.1 hs_) (fun hn_ => Nat.not_le.2 hk_.2.2 hn_)⟩))
                  have n11_ := am (Kd.R_mono (ok' := fun k_ => nb Ao35 t134.length co35 k_ ∧ nb Ao37 t141.length co37 k_ ∧ nb Ao43 t147.length co43 k_ ∧ nb Ao52 t153.length co52 k_ ∧ nb Ao62 t159.length co62 k_ ∧ nb Ao71 t170.length co71 k_ ∧ nb Ao83 t186.length co83 k_ ∧ some k_ ≠ (v195 : Value).ownBlock) (Kd.R_keptB (HO180.out) hkp (fun k_ hk_ hs_ => (hk_.2) hs_)) (fun k_ hk_ => ⟨hk_.1.1.1, hk_.1.1.2.1, hk_.1.1.2.2.1, hk_.1.1.2.2.2.1, hk_.1.1.2.2.2.2.1, hk_.1.1.2.2.2.2.2.1, hk_.1.1.2.2.2.2.2.2, fun e_ => Or.elim (ho0.1 k_ e_.symm) (fun hs_ => hk_.2.1 hs_) (fun hn_ => Nat.not_le.2 hk_.2.2 hn_)⟩))
                  have n12_ := am (Kd.R_mono (ok' := fun k_ => nb Ao35 t134.length co35 k_ ∧ nb Ao37 t141.length co37 k_ ∧ nb Ao43 t147.length co43 k_ ∧ nb Ao52 t153.length co52 k_ ∧ nb Ao62 t159.length co62 k_ ∧ nb Ao71 t170.length co71 k_ ∧ nb Ao77 t178.length co77 k_ ∧ some k_ ≠ (v195 : Value).ownBlock) (Kd.R_keptB (HO188.out) hkp (fun k_ hk_ hs_ => (hk_.2) hs_)) (fun k_ hk_ => ⟨hk_.1.1.1, hk_.1.1.2.1, hk_.1.1.2.2.1, hk_.1.1.2.2.2.1, hk_.1.1.2.2.2.2.1, hk_.1.1.2.2.2.2.2.1, hk_.1.1.2.2.2.2.2.2, fun e_ => Or.elim (ho0.1 k_ e_.symm) (fun hs_ => hk_.2.1 hs_) (fun hn_ => Nat.not_le.2 hk_.2.2 hn_)⟩))
                  have n13_ := am (Kd.R_mono (ok' := fun k_ => nb Ao35 t134.length co35 k_ ∧ nb Ao37 t141.length co37 k_ ∧ nb Ao43 t147.length co43 k_ ∧ nb Ao52 t153.length co52 k_ ∧ nb Ao62 t159.length co62 k_ ∧ nb Ao71 t170.length co71 k_ ∧ nb Ao77 t178.length co77 k_ ∧ nb Ao83 t186.length co83 k_) ho0 (fun k_ hk_ => ⟨Or.elim hk_ (fun hs_ => fun e_ => (((HO136.out).1 k_ e_.symm).2) hs_) (fun hn_ => (Kd.fresh' (Kd.R_lt (ru (HO136.out))) k_ hn_)), Or.elim hk_ (fun hs_ => fun e_ => (((HO143.out).1 k_ e_.symm).2) hs_) (fun hn_ => (Kd.fresh' (Kd.R_lt (ru (HO143.out))) k_ hn_)), Or.elim hk_ (fun hs_ => fun e_ => (((HO149.out).1 k_ e_.symm).2) hs_) (fun hn_ => (Kd.fresh' (Kd.R_lt (ru (HO149.out))) k_ hn_)), Or.elim hk_ (fun hs_ => fun e_ => (((HO155.out).1 k_ e_.symm).2) hs_) (fun hn_ => (Kd.fresh' (Kd.R_lt (ru (HO155.out))) k_ hn_)), Or.elim hk_ (fun hs_ => fun e_ => (((HO161.out).1 k_ e_.symm).2) hs_) (fun hn_ => (Kd.fresh' (Kd.R_lt (ru (HO161.out))) k_ hn_)), Or.elim hk_ (fun hs_ => fun e_ => (((HO172.out).1 k_ e_.symm).2) hs_) (fun hn_ => (Kd.fresh' (Kd.R_lt (ru (HO172.out))) k_ hn_)), Or.elim hk_ (fun hs_ => fun e_ => (((HO180.out).1 k_ e_.symm).2) hs_) (fun hn_ => (Kd.fresh' (Kd.R_lt (ru (HO180.out))) k_ hn_)), Or.elim hk_ (fun hs_ => fun e_ => (((HO188.out).1 k_ e_.symm).2) hs_) (fun hn_ => (Kd.fresh' (Kd.R_lt (ru (HO188.out))) k_ hn_))⟩))
                  have n14_ := am (hb)
                  clear HO136
                  clear HO143
                  clear BK144
                  clear BK145
                  clear HO149
                  clear BK151
                  clear HO155
                  clear BK157
                  clear HO161
                  clear BK163
                  clear HO172
                  clear HO180
                  clear HO188
                  clear HB
                  clear HO192
                  have HO136 := n0_
                  have HO143 := n1_
                  have BK144 := n2_
                  have BK145 := n3_
                  have HO149 := n4_
                  have BK151 := n5_
                  have HO155 := n6_
                  have BK157 := n7_
                  have HO161 := n8_
                  have BK163 := n9_
                  have HO172 := n10_
                  have HO180 := n11_
                  have HO188 := n12_
                  have HO196 := n13_
                  have HB := n14_
                  clear n0_ n1_ n2_ n3_ n4_ n5_ n6_ n7_ n8_ n9_ n10_ n11_ n12_ n13_ n14_
                  (try clear hb)
                  (try clear hkp)
                  (try clear ho0)
                  obtain ⟨Ao89, co89, eo89⟩ := Kd.R_slice HO196.out
                  (first | subst eo89 | (injection eo89 with f1_ f2_ f3_; have f4_ := f1_.symm; have f5_ := f3_.symm; clear f1_ f2_ f3_; subst f4_; subst f5_))
                  refine hK.out _ _ ⟨(blk_cell BK151.out 0).trans rfl, (blk_cell BK151.out 1).trans rfl, (blk_cell BK157.out 0).trans rfl, (blk_cell BK157.out 1).trans rfl, (blk_cell BK163.out 0).trans rfl, (blk_cell BK163.out 1).trans rfl⟩ (fun hHeld => ?_)
                  clear hK K
                  refine norm_ (a' := ?_) ?_ ?_
                  rotate_left
                  · show Act.put _ (some 77) _ = _
                    simp only [Act.put, List.setIfInBounds_toArray, List.set_cons_zero, List.set_cons_succ, i64_w, i32_w]
                    rfl
                  refine one_ (i := 39) (N := some 78) (tb 40 43) rfl rfl (one_of HT_.out (by kernel_rfl)) (by decide) (fun K hK => ?_)
                  refine goes_ Try.func22 (by kernel_rfl) rfl #[.agg #[.int .u64 t193, .slice Ao89 t194.length co89]] (by rfl) rfl rfl (by (try simp only [List.map_toArray, List.map_cons, List.map_nil]); first | done | rfl | (simp only [List.length_drop, List.length_take]; rfl)) ?_
                  with_reducible refine (setops_Estimate.calls k t193 _ _ t194 t197 _ ?side1 ?side2 A22.out).mono ?_
                  (case side1 => repeat (first | exact (Kd.R_reads' HO196.out).2.2 | (with_reducible refine Kd.C_alloc ?_ _) | (with_reducible refine Kd.C_drewN ?_ _) | (with_reducible refine Kd.C_drew ?_)))
                  (case side2 => exact (Kd.R_reads' HO196.out).2.1)
                  rintro e w90 ⟨rfl, hb⟩
                  refine ⟨_, rfl, ?_⟩
                  have n0_ := am (Kd.R_below (ru (HO136.out)) hb)
                  have n1_ := am (Kd.R_below (ru (HO143.out)) hb)
                  have n2_ := am (Kd.R_below (ru (HO149.out)) hb)
                  have n3_ := am (Kd.R_below (ru (HO155.out)) hb)
                  have n4_ := am (Kd.R_below (ru (HO161.out)) hb)
                  have n5_ := am (Kd.R_below (ru (HO172.out)) hb)
                  have n6_ := am (Kd.R_below (ru (HO180.out)) hb)
                  have n7_ := am (Kd.R_below (ru (HO188.out)) hb)
                  have n8_ := am (Kd.R_below (ru (HO196.out)) hb)
                  have n9_ := am (blk_below (g := gb144) (o := .cells #[.int .u64 t133, .slice Ao35 t134.length co35] 25 (0, 0)) (bu BK144.out) hb)
                  have n10_ := am (blk_below (g := gb145) (o := .cells #[.int .u64 t140, .slice Ao37 t141.length co37] 25 (0, 0)) (bu BK145.out) hb)
                  have n11_ := am (blk_below (g := gb151) (o := .cells #[.int .u64 t146, .slice Ao43 t147.length co43] 25 (0, 0)) (bu BK151.out) hb)
                  have n12_ := am (blk_below (g := gb157) (o := .cells #[.int .u64 t152, .slice Ao52 t153.length co52] 25 (0, 0)) (bu BK157.out) hb)
                  have n13_ := am (blk_below (g := gb163) (o := .cells #[.int .u64 t158, .slice Ao62 t159.length co62] 25 (0, 0)) (bu BK163.out) hb)
                  have n14_ := am (below_step (by repeat (first | (with_reducible first | exact HB.out | apply below_alloc | apply pw_below_drewN | apply below_drew1 | refine below_set ?_ GE144.out | refine below_set ?_ GE145.out | refine below_set ?_ GE151.out | refine below_set ?_ GE157.out | refine below_set ?_ GE163.out) | exact HB.out)) hb)
                  clear HO136
                  clear HO143
                  clear HO149
                  clear HO155
                  clear HO161
                  clear HO172
                  clear HO180
                  clear HO188
                  clear HO196
                  clear BK144
                  clear BK145
                  clear BK151
                  clear BK157
                  clear BK163
                  clear HB
                  have HO136 := n0_
                  have HO143 := n1_
                  have HO149 := n2_
                  have HO155 := n3_
                  have HO161 := n4_
                  have HO172 := n5_
                  have HO180 := n6_
                  have HO188 := n7_
                  have HO196 := n8_
                  have BK144 := n9_
                  have BK145 := n10_
                  have BK151 := n11_
                  have BK157 := n12_
                  have BK163 := n13_
                  have HB := n14_
                  clear n0_ n1_ n2_ n3_ n4_ n5_ n6_ n7_ n8_ n9_ n10_ n11_ n12_ n13_ n14_
                  (try clear hb)
                  (try clear hb2)
                  (try clear hk)
                  (try clear hi)
                  refine hK.out _ _ ⟨(blk_cell BK151.out 0).trans rfl, (blk_cell BK151.out 1).trans rfl, (blk_cell BK157.out 0).trans rfl, (blk_cell BK157.out 1).trans rfl, (blk_cell BK163.out 0).trans rfl, (blk_cell BK163.out 1).trans rfl⟩ (fun hHeld => ?_)
                  clear hK K
                  refine norm_ (a' := ?_) ?_ ?_
                  rotate_left
                  · show Act.put _ (some 78) _ = _
                    simp only [Act.put, List.setIfInBounds_toArray, List.set_cons_zero, List.set_cons_succ, i64_w, i32_w]
                    rfl
                  refine pure_ (i := 40) (N := some 79) (v := ?_) (a' := ?_) (tb 41 43) rfl rfl (any_of HT_.out (by kernel_rfl)) (fun _ _ _ h => h) (Or.inl ⟨by rfl, ?_⟩) ?_ ?_
                  rotate_left
                  · intro w'
                    go_simp
                    with_reducible rfl
                  rotate_left
                  · simp only [Act.put, List.setIfInBounds_toArray, List.set_cons_zero, List.set_cons_succ, i64_w, i32_w]
                    rfl
                  refine pure_ (i := 41) (N := some 80) (v := ?_) (a' := ?_) (tb 42 43) rfl rfl (any_of HT_.out (by kernel_rfl)) (fun _ _ _ h => h) (Or.inl ⟨by rfl, ?_⟩) ?_ ?_
                  rotate_left
                  · intro w'
                    go_simp
                    with_reducible rfl
                  rotate_left
                  · simp only [Act.put, List.setIfInBounds_toArray, List.set_cons_zero, List.set_cons_succ, i64_w, i32_w]
                    rfl
                  refine pure_ (i := 42) (N := some 0) (v := ?_) (a' := ?_) (tb 43 43) rfl rfl (any_of HT_.out (by kernel_rfl)) (fun _ _ _ h => h) (Or.inl ⟨by rfl, ?_⟩) ?_ ?_
                  rotate_left
                  · intro w'
                    go_simp
                    with_reducible rfl
                  rotate_left
                  · simp only [Act.put, List.setIfInBounds_toArray, List.set_cons_zero, List.set_cons_succ, i64_w, i32_w]
                    rfl
                  refine done_ (done_of HT_.out (by kernel_rfl)) ?_
                  try go_wp2
                  go_ret
                  exact ⟨by first | rfl | (simp [errW_none, errW_some] <;> rfl) | (simp [*, errW_none, errW_some] <;> rfl), by repeat (first | (with_reducible first | exact HB.out | apply below_alloc | apply pw_below_drewN | apply below_drew1 | refine below_set ?_ GE144.out | refine below_set ?_ GE145.out | refine below_set ?_ GE151.out | refine below_set ?_ GE157.out | refine below_set ?_ GE163.out) | exact HB.out)⟩
                · rw [if_neg c20] at H
                  have c20b0 : (t164 == 16384) = false := beq_eq_false_iff_ne.mpr c20
                  have c20b1 : (t164 != 16384) = true := bne_iff_ne.mpr c20
                  exact absurd H (by simp)
              · replace c19 := Bool.eq_false_iff.mpr c19
                subst c19
                have H1 : (none) = some r := by rw [if_neg (show ¬ (false = true) by decide)] at H; exact H
                clear H
                have H := H1
                clear H1
                exact absurd H (by simp)
            · replace c16 := Bool.eq_false_iff.mpr c16
              subst c16
              have H1 : (none) = some r := by rw [if_neg (show ¬ (false = true) by decide)] at H; exact H
              clear H
              have H := H1
              clear H1
              exact absurd H (by simp)
          · replace c13 := Bool.eq_false_iff.mpr c13
            subst c13
            have H1 : (none) = some r := by rw [if_neg (show ¬ (false = true) by decide)] at H; exact H
            clear H
            have H := H1
            clear H1
            exact absurd H (by simp)
        · rw [if_neg c10] at H
          have c10b0 : (t165 == 0) = false := beq_eq_false_iff_ne.mpr c10
          have c10b1 : (t165 != 0) = true := bne_iff_ne.mpr c10
          exact absurd H (by simp)
      · rw [if_neg c9] at H
        have c9b0 : (t162 == 0) = false := beq_eq_false_iff_ne.mpr c9
        have c9b1 : (t162 != 0) = true := bne_iff_ne.mpr c9
        exact absurd H (by simp)
    · rw [if_neg c8] at H
      have c8b0 : (t156 == 0) = false := beq_eq_false_iff_ne.mpr c8
      have c8b1 : (t156 != 0) = true := bne_iff_ne.mpr c8
      exact absurd H (by simp)
  · rw [if_neg c7] at H
    have c7b0 : (t150 == 0) = false := beq_eq_false_iff_ne.mpr c7
    have c7b1 : (t150 != 0) = true := bne_iff_ne.mpr c7
    exact absurd H (by simp)

end Go.Proofs.Ytpagondojdlknaa.H
