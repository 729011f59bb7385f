-- Made by this session's own call of the printer (functions that are proved by hand are taken from a text beside it).
import Derived.Test.YtbclnjinpcfpjaaH0
import Derived.Test.YtbclnjinpcfpjaaH2
import Derived.Test.YtbclnjinpcfpjaaH4
namespace Go.Proofs.Ytbclnjinpcfpjaa.H
open Go.RowKit Go.Proofs.YtbclnjinpcfpjaaW.PrintWords Go.Proofs.YtbclnjinpcfpjaaW.PrintLast Go.Proofs.YtbclnjinpcfpjaaW.PrintMore
attribute [local go_sem] max2_int min2_int max_two min_two max_three min_three max_four min_four   -- for this text's walks alone
set_option linter.unusedVariables false
set_option linter.unusedSimpArgs false

/-! ### tallymanlaw15_lives: function 15 -/
def tallymanlaw15_lives.f (k : Nat)  : Option (Bool) := (dense_Bytes.f k 4 ([] : List (S32))).bind fun bt180 => ((dense_Bytes.f k 4 (([(⟨2, 3⟩ : S32)] : List (S32)))).bind fun bt187 => (if bt180.2 = 0 then (if bt187.2 = 0 then (if (strOfNums bt180.1).toList = ([4, 0, 0] : List UInt8) then (if (strOfNums bt187.1).toList = ([4, 0, 1, 2, 3] : List UInt8) then ((dense_Log2.f k 1).bind fun t191 => (if t191 = 0 then ((dense_Log2.f k 8).bind fun t192 => (if t192 = 196608 then ((dense_Log2.f k 3).bind fun t193 => (some (t193 == 103872))) else (none))) else (none))) else (none)) else (none)) else (none)) else (none)))
theorem tallymanlaw15_lives.mono : ∀ k, LeO (tallymanlaw15_lives.f k ) (tallymanlaw15_lives.f (k + 1) ) := by
  intro  k
  unfold tallymanlaw15_lives.f
  repeat' first
      | (with_reducible exact dense_Bytes.mono _ _ _)
      | (with_reducible exact dense_Log2.mono _ _)
      | (with_reducible exact LeO.refl _)
      | (with_reducible exact LeO.none _)
      | (with_reducible refine LeO.ite ?_ ?_)
      | (with_reducible refine LeO.bind ?_ (fun _ => ?_))
      | exact dense_Bytes.mono _ _ _
      | exact dense_Log2.mono _ _
      | exact LeO.none _
      | refine LeO.ite ?_ ?_
      | refine LeO.bind ?_ (fun _ => ?_)
set_option maxHeartbeats 8000000 in
set_option maxRecDepth 100000 in
theorem tallymanlaw15_lives.calls (k : Nat)  (r : Bool) (w : World) (h : tallymanlaw15_lives.f k  = some r) :
    Calls Try.prog 15 #[] w fun e w' => e = .returned (.bool r) ∧ Below w.heap.size w w' := by
  have hu30 := Try.underlying30
  have hu32 := Try.underlying32
  have HB := Aside0.mk (Below.refl w.heap.size w)
  have H : ((dense_Bytes.f k 4 ([] : List (S32))).bind fun bt180 => ((dense_Bytes.f k 4 (([(⟨2, 3⟩ : S32)] : List (S32)))).bind fun bt187 => (if bt180.2 = 0 then (if bt187.2 = 0 then (if (strOfNums bt180.1).toList = ([4, 0, 0] : List UInt8) then (if (strOfNums bt187.1).toList = ([4, 0, 1, 2, 3] : List UInt8) then ((dense_Log2.f k 1).bind fun t191 => (if t191 = 0 then ((dense_Log2.f k 8).bind fun t192 => (if t192 = 196608 then ((dense_Log2.f k 3).bind fun t193 => (some (t193 == 103872))) else (none))) else (none))) else (none)) else (none)) else (none)) else (none)))) = some r := h
  clear h
  replace H := Option.bind_eq_some_iff.mp H
  obtain ⟨⟨t180, t183⟩, A10, H⟩ := H
  replace H : ((dense_Bytes.f k 4 (([(⟨2, 3⟩ : S32)] : List (S32)))).bind fun bt187 => (if t183 = 0 then (if bt187.2 = 0 then (if (strOfNums t180).toList = ([4, 0, 0] : List UInt8) then (if (strOfNums bt187.1).toList = ([4, 0, 1, 2, 3] : List UInt8) then ((dense_Log2.f k 1).bind fun t191 => (if t191 = 0 then ((dense_Log2.f k 8).bind fun t192 => (if t192 = 196608 then ((dense_Log2.f k 3).bind fun t193 => (some (t193 == 103872))) else (none))) else (none))) else (none)) else (none)) else (none)) else (none))) = some r := H
  have A1 := Aside0.mk A10
  clear A10
  obtain ⟨y184, hy184⟩ : ∃ y_ : List (S32), y_ = (([(⟨2, 3⟩ : S32)] : List (S32))) := ⟨_, rfl⟩
  replace H : ((dense_Bytes.f k 4 y184).bind fun bt187 => (if t183 = 0 then (if bt187.2 = 0 then (if (strOfNums t180).toList = ([4, 0, 0] : List UInt8) then (if (strOfNums bt187.1).toList = ([4, 0, 1, 2, 3] : List UInt8) then ((dense_Log2.f k 1).bind fun t191 => (if t191 = 0 then ((dense_Log2.f k 8).bind fun t192 => (if t192 = 196608 then ((dense_Log2.f k 3).bind fun t193 => (some (t193 == 103872))) else (none))) else (none))) else (none)) else (none)) else (none)) else (none))) = some r := by first | (rw [hy184]; with_reducible exact H) | (have H2_ := (Option.bind_some _ _).symm.trans H; rw [hy184]; with_reducible exact H2_) | (have H2_ := (Option.bind_some _ _).symm.trans H; with_reducible exact H2_) | with_reducible exact H | (rw [hy184]; exact H) | exact H
  have Ny184 := Aside0.mk hy184
  clear hy184
  replace H := Option.bind_eq_some_iff.mp H
  obtain ⟨⟨t187, t190⟩, A20, H⟩ := H
  replace H : (if t183 = 0 then (if t190 = 0 then (if (strOfNums t180).toList = ([4, 0, 0] : List UInt8) then (if (strOfNums t187).toList = ([4, 0, 1, 2, 3] : List UInt8) then ((dense_Log2.f k 1).bind fun t191 => (if t191 = 0 then ((dense_Log2.f k 8).bind fun t192 => (if t192 = 196608 then ((dense_Log2.f k 3).bind fun t193 => (some (t193 == 103872))) else (none))) else (none))) else (none)) else (none)) else (none)) else (none)) = some r := H
  have A2 := Aside0.mk A20
  clear A20
  by_cases c3 : t183 = 0
  · rw [if_pos c3] at H
    have c3b0 : (t183 == 0) = true := beq_iff_eq.mpr c3
    have c3b1 : (t183 != 0) = false := bne_eq_false_iff_eq.mpr c3
    clear c3
    by_cases c4 : t190 = 0
    · rw [if_pos c4] at H
      have c4b0 : (t190 == 0) = true := beq_iff_eq.mpr c4
      have c4b1 : (t190 != 0) = false := bne_eq_false_iff_eq.mpr c4
      clear c4
      by_cases c5 : (strOfNums t180).toList = ([4, 0, 0] : List UInt8)
      · rw [if_pos c5] at H
        have c5b0 : ((strOfNums t180).toList == ([4, 0, 0] : List UInt8)) = true := beq_iff_eq.mpr c5
        have c5b1 : ((strOfNums t180).toList != ([4, 0, 0] : List UInt8)) = false := bne_eq_false_iff_eq.mpr c5
        clear c5
        by_cases c6 : (strOfNums t187).toList = ([4, 0, 1, 2, 3] : List UInt8)
        · rw [if_pos c6] at H
          have c6b0 : ((strOfNums t187).toList == ([4, 0, 1, 2, 3] : List UInt8)) = true := beq_iff_eq.mpr c6
          have c6b1 : ((strOfNums t187).toList != ([4, 0, 1, 2, 3] : List UInt8)) = false := bne_eq_false_iff_eq.mpr c6
          clear c6
          replace H := Option.bind_eq_some_iff.mp H
          obtain ⟨t191, A70, H⟩ := H
          replace H : (if t191 = 0 then ((dense_Log2.f k 8).bind fun t192 => (if t192 = 196608 then ((dense_Log2.f k 3).bind fun t193 => (some (t193 == 103872))) else (none))) else (none)) = some r := H
          have A7 := Aside0.mk A70
          clear A70
          by_cases c8 : t191 = 0
          · rw [if_pos c8] at H
            have c8b0 : (t191 == 0) = true := beq_iff_eq.mpr c8
            have c8b1 : (t191 != 0) = false := bne_eq_false_iff_eq.mpr c8
            clear c8
            replace H := Option.bind_eq_some_iff.mp H
            obtain ⟨t192, A90, H⟩ := H
            replace H : (if t192 = 196608 then ((dense_Log2.f k 3).bind fun t193 => (some (t193 == 103872))) else (none)) = some r := H
            have A9 := Aside0.mk A90
            clear A90
            by_cases c10 : t192 = 196608
            · rw [if_pos c10] at H
              have c10b0 : (t192 == 196608) = true := beq_iff_eq.mpr c10
              have c10b1 : (t192 != 196608) = false := bne_eq_false_iff_eq.mpr c10
              clear c10
              replace H := Option.bind_eq_some_iff.mp H
              obtain ⟨t193, A110, H⟩ := H
              replace H : (some (t193 == 103872)) = some r := H
              have A11 := Aside0.mk A110
              clear A110
              obtain rfl := Option.some.inj H
              go_enter Try.func15, Try.ntmps15
              go_wp2_with (first | ((with_reducible refine gate_callee (f := 20) rfl ?_); refine goesL_ (some 7) rfl rfl Try.func20 (by kernel_rfl) rfl #[.agg #[.int .i64 4, .slice none 0 0]] rfl (by (try simp only [List.map_toArray, List.map_cons, List.map_nil]); first | done | rfl | (simp only [List.length_drop, List.length_take]; rfl)) ?_; (refine (dense_Bytes.calls k 4 _ _ ([] : List (S32)) t180 t183 _ ?side1 ?side2 A1.out).mono ?_); (case side1 => exact Kd.C_nil _ _); (case side2 => exact Nat.le_refl _); rintro e w12 ⟨v181, rfl, ho0, hb⟩; refine ⟨_, rfl, ?_⟩; have n0_ := Aside0.mk (Kd.R_lower ho0 (below_size (by repeat (first | (with_reducible first | exact HB.out | apply below_alloc | apply pw_below_drewN | apply below_drew1) | exact HB.out)))); have n1_ := Aside0.mk (below_step (by repeat (first | (with_reducible first | exact HB.out | apply below_alloc | apply pw_below_drewN | apply below_drew1) | exact HB.out)) hb); clear HB; have HO182 := n0_; have HB := n1_; clear n0_ n1_; (try clear hb); (try clear hb2); (try clear hk); (try clear hi); (try clear ho0)) | ((with_reducible refine gate_dst (N := 12) rfl ?_); refine Kd.R_lit k32 _ 32 ?hg (N := 12) ?hd (xs := ([(⟨2, 3⟩ : S32)] : List (S32))) (inner := [.int .i64 2, .int .i64 3]) (ok := fun _ => True) (okp := fun _ => True) ?hr ?hp (fun _ hk => hk) trivial (Below.refl _ _) (Nat.le_refl _) (by simp) ?_; (case hd => rfl); (case hg => rfl); (case hr => first | (go_simp; done) | (go_simp; rfl)); (case hp => exact (Reps.c2 (show Kd.M k32 _ _ _ (⟨2, 3⟩ : S32) [.int .i64 2, .int .i64 3] from (k32_mkM _ _ _ (⟨2, 3⟩ : S32) )) (Reps.none _ _))); intro v185 w13 ho14 hb hg_ hnew_; clear hg_ hnew_; (first | rw [← Ny184.out] at ho14 | (simp only [Int.reduceToNat] at ho14; rw [← Ny184.out] at ho14)); have n0_ := Aside0.mk (Kd.R_below (by (with_reducible repeat (first | apply Kd.R_alloc | apply Kd.R_drewN | apply Kd.R_drew)); exact HO182.out) hb); have n1_ := Aside0.mk (Kd.R_lower ho14 (below_size (by repeat (first | (with_reducible first | exact HB.out | apply below_alloc | apply pw_below_drewN | apply below_drew1) | exact HB.out)))); have n2_ := Aside0.mk (below_step (by repeat (first | (with_reducible first | exact HB.out | apply below_alloc | apply pw_below_drewN | apply below_drew1) | exact HB.out)) hb); clear HO182; clear HB; have HO182 := n0_; have HO186 := n1_; have HB := n2_; clear n0_ n1_ n2_; clear hb ho14; obtain ⟨Ao15, co15, eo15⟩ := Kd.R_slice HO186.out; subst eo15) | ((with_reducible refine gate_callee (f := 20) rfl ?_); refine goesL_ (some 14) rfl rfl Try.func20 (by kernel_rfl) rfl #[.agg #[.int .i64 4, .slice Ao15 y184.length co15]] rfl (by (try simp only [List.map_toArray, List.map_cons, List.map_nil]); first | done | rfl | (simp only [List.length_drop, List.length_take]; rfl)) ?_; (with_reducible refine (dense_Bytes.calls k 4 _ _ y184 t187 t190 _ ?side1 ?side2 A2.out).mono ?_); (case side1 => repeat (first | exact (Kd.R_reads' HO186.out).2.2 | (with_reducible refine Kd.C_alloc ?_ _) | (with_reducible refine Kd.C_drewN ?_ _) | (with_reducible refine Kd.C_drew ?_))); (case side2 => exact (Kd.R_reads' HO186.out).2.1); rintro e w16 ⟨v188, rfl, ho0, hb⟩; refine ⟨_, rfl, ?_⟩; have n0_ := Aside0.mk (Kd.R_elder' (by (with_reducible repeat (first | apply Kd.R_alloc | apply Kd.R_drewN | apply Kd.R_drew)); exact HO182.out) (Kd.R_base ho0) hb); have n1_ := Aside0.mk (Kd.R_below (by (with_reducible repeat (first | apply Kd.R_alloc | apply Kd.R_drewN | apply Kd.R_drew)); exact HO186.out) hb); have n2_ := Aside0.mk (Kd.R_lower (Kd.R_new' ho0 (Kd.R_lt (by (with_reducible repeat (first | apply Kd.R_alloc | apply Kd.R_drewN | apply Kd.R_drew)); exact HO182.out))) (below_size (by repeat (first | (with_reducible first | exact HB.out | apply below_alloc | apply pw_below_drewN | apply below_drew1) | exact HB.out)))); have n3_ := Aside0.mk (below_step (by repeat (first | (with_reducible first | exact HB.out | apply below_alloc | apply pw_below_drewN | apply below_drew1) | exact HB.out)) hb); clear HO182; clear HO186; clear HB; have HO182 := n0_; have HO186 := n1_; have HO189 := n2_; have HB := n3_; clear n0_ n1_ n2_ n3_; (try clear hb); (try clear hb2); (try clear hk); (try clear hi); (try clear ho0); have hcv17 := own_string (P := Try.prog) Try.underlying33 Try.underlying5 Try.underlying9 (Kd.own_of_R HO182.out); have hcv18 := fun nq_ : Nat => own_string (P := Try.prog) Try.underlying33 Try.underlying5 Try.underlying9 (pw_own_drewN (Kd.own_of_R HO182.out) nq_); have hcv19 := own_string (P := Try.prog) Try.underlying33 Try.underlying5 Try.underlying9 (Kd.own_of_R HO189.out); have hcv20 := fun nq_ : Nat => own_string (P := Try.prog) Try.underlying33 Try.underlying5 Try.underlying9 (pw_own_drewN (Kd.own_of_R HO189.out) nq_)) | (go_at_call 16; (with_reducible refine (dense_Log2.calls k 1 t191 _ A7.out).mono ?_); rintro e w' ⟨rfl, ⟨nd, rfl⟩⟩) | (go_at_call 16; (with_reducible refine (dense_Log2.calls k 8 t192 _ A9.out).mono ?_); rintro e w' ⟨rfl, ⟨nd, rfl⟩⟩) | (go_at_call 16; (with_reducible refine (dense_Log2.calls k 3 t193 _ A11.out).mono ?_); rintro e w' ⟨rfl, ⟨nd, rfl⟩⟩))
              go_ret
              exact ⟨by first | rfl | (simp [errW_none, errW_some] <;> rfl) | (simp [*, errW_none, errW_some] <;> rfl), by repeat (first | (with_reducible first | exact HB.out | apply below_alloc | apply pw_below_drewN | apply below_drew1) | exact HB.out)⟩
            · rw [if_neg c10] at H
              exact absurd H (by simp)
          · rw [if_neg c8] at H
            exact absurd H (by simp)
        · rw [if_neg c6] at H
          exact absurd H (by simp)
      · rw [if_neg c5] at H
        exact absurd H (by simp)
    · rw [if_neg c4] at H
      exact absurd H (by simp)
  · rw [if_neg c3] at H
    exact absurd H (by simp)

/-! ### tallymankit_Pick: function 17 -/
def tallymankit_Pick.f (a0 : Int) (a1 : Int) : Option (Int) := if a1 < 1 then (some 0) else (if a1 = 0 then (none) else (if (Int.tmod a0 a1) < 0 then (some (wrap64 ((Int.tmod a0 a1) + a1))) else (some (Int.tmod a0 a1))))
set_option maxHeartbeats 8000000 in
set_option maxRecDepth 100000 in
theorem tallymankit_Pick.calls (a0 : Int) (a1 : Int) (r : Int) (w : World) (h : tallymankit_Pick.f a0 a1 = some r) :
    Calls Try.prog 17 #[.int .i64 a0, .int .i64 a1] w fun e w' => e = .returned (.int .i64 r) ∧ Drawn0 w w' := by
  have H : (if a1 < 1 then (some 0) else (if a1 = 0 then (none) else (if (Int.tmod a0 a1) < 0 then (some (wrap64 ((Int.tmod a0 a1) + a1))) else (some (Int.tmod a0 a1))))) = some r := h
  clear h
  by_cases c3 : a1 < 1
  · rw [if_pos c3] at H
    have c3b0 : decide (a1 < 1) = true := decide_eq_true c3
    clear c3
    obtain rfl := Option.some.inj H
    go_enter Try.func17, Try.ntmps17
    go_wp2
    go_ret
    exact ⟨by first | rfl | (simp; done) | (simp [*]; done), by repeat (first | exact Drawn0.refl _ | apply Drawn0.step)⟩
  · rw [if_neg c3] at H
    have c3b0 : decide (a1 < 1) = false := decide_eq_false c3
    clear c3
    by_cases c4 : a1 = 0
    · rw [if_pos c4] at H
      exact absurd H (by simp)
    · rw [if_neg c4] at H
      have c4b0 : (a1 == 0) = false := beq_eq_false_iff_ne.mpr c4
      have c4b1 : (a1 != 0) = true := bne_iff_ne.mpr c4
      by_cases c5 : (Int.tmod a0 a1) < 0
      · rw [if_pos c5] at H
        have c5b0 : decide ((Int.tmod a0 a1) < 0) = true := decide_eq_true c5
        clear c5
        obtain rfl := Option.some.inj H
        go_enter Try.func17, Try.ntmps17
        go_wp2
        go_ret
        exact ⟨by first | rfl | (simp; done) | (simp [*]; done), by repeat (first | exact Drawn0.refl _ | apply Drawn0.step)⟩
      · rw [if_neg c5] at H
        have c5b0 : decide ((Int.tmod a0 a1) < 0) = false := decide_eq_false c5
        clear c5
        obtain rfl := Option.some.inj H
        go_enter Try.func17, Try.ntmps17
        go_wp2
        go_ret
        exact ⟨by first | rfl | (simp; done) | (simp [*]; done), by repeat (first | exact Drawn0.refl _ | apply Drawn0.step)⟩

/-! ### tallymanlaw15_DenseLogs: function 3 -/
def tallymanlaw15_DenseLogs.f (k : Nat) (a0 : Int) (a1 : Int) (a2 : Int) : Option (Bool) := (tallymanlaw15_lives.f k).bind fun t194 => (if t194 = true then ((dense_Log2.f k (IntKind.u64.wrap (1 + (Int.tmod a0 2147483648)))).bind fun t195 => ((dense_Log2.f k (IntKind.u64.wrap (1 + (Int.tmod a1 2147483648)))).bind fun t196 => ((tallymankit_Pick.f a2 64).bind fun t197 => ((dense_Log2.f k (IntKind.u64.wrap ((IntKind.u64.wrap (1 + (Int.tmod a0 2147483648))) * (IntKind.u64.wrap (1 + (Int.tmod a1 2147483648)))))).bind fun t198 => (if (IntKind.u64.wrap (1 + (Int.tmod a0 2147483648))) > (IntKind.u64.wrap (1 + (Int.tmod a1 2147483648))) then (if (IntKind.u64.wrap (1 + (Int.tmod a0 2147483648))) < (IntKind.u64.wrap (1 + (Int.tmod a1 2147483648))) then ((dense_Log2.f k (IntKind.u64.wrap (2 * (IntKind.u64.wrap (1 + (Int.tmod a0 2147483648)))))).bind fun t199 => (if t199 = (wrap64 (t195 + 65536)) then (if (wrap64 ((wrap64 (t198 - t195)) - t196)) ≥ (-4) then (if (wrap64 ((wrap64 (t198 - t195)) - t196)) ≤ 4 then (if 0 ≤ (IntKind.u64.wrap (t197)) then ((dense_Log2.f k (shl .u64 1 (IntKind.u64.wrap (t197)))).bind fun t200 => (if t200 = (wrap64 (65536 * t197)) then (if t195 ≥ 0 then (some (decide (t195 ≤ 2031616))) else (none)) else (none))) else (none)) else (none)) else (none)) else (none))) else (if t195 ≥ t196 then ((dense_Log2.f k (IntKind.u64.wrap (2 * (IntKind.u64.wrap (1 + (Int.tmod a0 2147483648)))))).bind fun t201 => (if t201 = (wrap64 (t195 + 65536)) then (if (wrap64 ((wrap64 (t198 - t195)) - t196)) ≥ (-4) then (if (wrap64 ((wrap64 (t198 - t195)) - t196)) ≤ 4 then (if 0 ≤ (IntKind.u64.wrap (t197)) then ((dense_Log2.f k (shl .u64 1 (IntKind.u64.wrap (t197)))).bind fun t202 => (if t202 = (wrap64 (65536 * t197)) then (if t195 ≥ 0 then (some (decide (t195 ≤ 2031616))) else (none)) else (none))) else (none)) else (none)) else (none)) else (none))) else (none))) else (if t195 ≤ t196 then (if (IntKind.u64.wrap (1 + (Int.tmod a0 2147483648))) < (IntKind.u64.wrap (1 + (Int.tmod a1 2147483648))) then ((dense_Log2.f k (IntKind.u64.wrap (2 * (IntKind.u64.wrap (1 + (Int.tmod a0 2147483648)))))).bind fun t203 => (if t203 = (wrap64 (t195 + 65536)) then (if (wrap64 ((wrap64 (t198 - t195)) - t196)) ≥ (-4) then (if (wrap64 ((wrap64 (t198 - t195)) - t196)) ≤ 4 then (if 0 ≤ (IntKind.u64.wrap (t197)) then ((dense_Log2.f k (shl .u64 1 (IntKind.u64.wrap (t197)))).bind fun t204 => (if t204 = (wrap64 (65536 * t197)) then (if t195 ≥ 0 then (some (decide (t195 ≤ 2031616))) else (none)) else (none))) else (none)) else (none)) else (none)) else (none))) else (if t195 ≥ t196 then ((dense_Log2.f k (IntKind.u64.wrap (2 * (IntKind.u64.wrap (1 + (Int.tmod a0 2147483648)))))).bind fun t205 => (if t205 = (wrap64 (t195 + 65536)) then (if (wrap64 ((wrap64 (t198 - t195)) - t196)) ≥ (-4) then (if (wrap64 ((wrap64 (t198 - t195)) - t196)) ≤ 4 then (if 0 ≤ (IntKind.u64.wrap (t197)) then ((dense_Log2.f k (shl .u64 1 (IntKind.u64.wrap (t197)))).bind fun t206 => (if t206 = (wrap64 (65536 * t197)) then (if t195 ≥ 0 then (some (decide (t195 ≤ 2031616))) else (none)) else (none))) else (none)) else (none)) else (none)) else (none))) else (none))) else (none))))))) else (none))
theorem tallymanlaw15_DenseLogs.mono : ∀ a0 a1 a2 k, LeO (tallymanlaw15_DenseLogs.f k a0 a1 a2) (tallymanlaw15_DenseLogs.f (k + 1) a0 a1 a2) := by
  intro a0 a1 a2 k
  unfold tallymanlaw15_DenseLogs.f
  repeat' first
      | (with_reducible exact dense_Log2.mono _ _)
      | (with_reducible exact tallymanlaw15_lives.mono _)
      | (with_reducible exact LeO.refl _)
      | (with_reducible exact LeO.none _)
      | (with_reducible refine LeO.ite ?_ ?_)
      | (with_reducible refine LeO.bind ?_ (fun _ => ?_))
      | exact dense_Log2.mono _ _
      | exact tallymanlaw15_lives.mono _
      | exact LeO.none _
      | refine LeO.ite ?_ ?_
      | refine LeO.bind ?_ (fun _ => ?_)
set_option maxHeartbeats 8000000 in
set_option maxRecDepth 100000 in
theorem tallymanlaw15_DenseLogs.calls (k : Nat) (a0 : Int) (a1 : Int) (a2 : Int) (r : Bool) (w : World) (h : tallymanlaw15_DenseLogs.f k a0 a1 a2 = some r) :
    Calls Try.prog 3 #[.int .u64 a0, .int .u64 a1, .int .i64 a2] w fun e w' => e = .returned (.bool r) ∧ Below w.heap.size w w' := by
  have HB := Aside0.mk (Below.refl w.heap.size w)
  have H : ((tallymanlaw15_lives.f k).bind fun t194 => (if t194 = true then ((dense_Log2.f k (IntKind.u64.wrap (1 + (Int.tmod a0 2147483648)))).bind fun t195 => ((dense_Log2.f k (IntKind.u64.wrap (1 + (Int.tmod a1 2147483648)))).bind fun t196 => ((tallymankit_Pick.f a2 64).bind fun t197 => ((dense_Log2.f k (IntKind.u64.wrap ((IntKind.u64.wrap (1 + (Int.tmod a0 2147483648))) * (IntKind.u64.wrap (1 + (Int.tmod a1 2147483648)))))).bind fun t198 => (if (IntKind.u64.wrap (1 + (Int.tmod a0 2147483648))) > (IntKind.u64.wrap (1 + (Int.tmod a1 2147483648))) then (if (IntKind.u64.wrap (1 + (Int.tmod a0 2147483648))) < (IntKind.u64.wrap (1 + (Int.tmod a1 2147483648))) then ((dense_Log2.f k (IntKind.u64.wrap (2 * (IntKind.u64.wrap (1 + (Int.tmod a0 2147483648)))))).bind fun t199 => (if t199 = (wrap64 (t195 + 65536)) then (if (wrap64 ((wrap64 (t198 - t195)) - t196)) ≥ (-4) then (if (wrap64 ((wrap64 (t198 - t195)) - t196)) ≤ 4 then (if 0 ≤ (IntKind.u64.wrap (t197)) then ((dense_Log2.f k (shl .u64 1 (IntKind.u64.wrap (t197)))).bind fun t200 => (if t200 = (wrap64 (65536 * t197)) then (if t195 ≥ 0 then (some (decide (t195 ≤ 2031616))) else (none)) else (none))) else (none)) else (none)) else (none)) else (none))) else (if t195 ≥ t196 then ((dense_Log2.f k (IntKind.u64.wrap (2 * (IntKind.u64.wrap (1 + (Int.tmod a0 2147483648)))))).bind fun t201 => (if t201 = (wrap64 (t195 + 65536)) then (if (wrap64 ((wrap64 (t198 - t195)) - t196)) ≥ (-4) then (if (wrap64 ((wrap64 (t198 - t195)) - t196)) ≤ 4 then (if 0 ≤ (IntKind.u64.wrap (t197)) then ((dense_Log2.f k (shl .u64 1 (IntKind.u64.wrap (t197)))).bind fun t202 => (if t202 = (wrap64 (65536 * t197)) then (if t195 ≥ 0 then (some (decide (t195 ≤ 2031616))) else (none)) else (none))) else (none)) else (none)) else (none)) else (none))) else (none))) else (if t195 ≤ t196 then (if (IntKind.u64.wrap (1 + (Int.tmod a0 2147483648))) < (IntKind.u64.wrap (1 + (Int.tmod a1 2147483648))) then ((dense_Log2.f k (IntKind.u64.wrap (2 * (IntKind.u64.wrap (1 + (Int.tmod a0 2147483648)))))).bind fun t203 => (if t203 = (wrap64 (t195 + 65536)) then (if (wrap64 ((wrap64 (t198 - t195)) - t196)) ≥ (-4) then (if (wrap64 ((wrap64 (t198 - t195)) - t196)) ≤ 4 then (if 0 ≤ (IntKind.u64.wrap (t197)) then ((dense_Log2.f k (shl .u64 1 (IntKind.u64.wrap (t197)))).bind fun t204 => (if t204 = (wrap64 (65536 * t197)) then (if t195 ≥ 0 then (some (decide (t195 ≤ 2031616))) else (none)) else (none))) else (none)) else (none)) else (none)) else (none))) else (if t195 ≥ t196 then ((dense_Log2.f k (IntKind.u64.wrap (2 * (IntKind.u64.wrap (1 + (Int.tmod a0 2147483648)))))).bind fun t205 => (if t205 = (wrap64 (t195 + 65536)) then (if (wrap64 ((wrap64 (t198 - t195)) - t196)) ≥ (-4) then (if (wrap64 ((wrap64 (t198 - t195)) - t196)) ≤ 4 then (if 0 ≤ (IntKind.u64.wrap (t197)) then ((dense_Log2.f k (shl .u64 1 (IntKind.u64.wrap (t197)))).bind fun t206 => (if t206 = (wrap64 (65536 * t197)) then (if t195 ≥ 0 then (some (decide (t195 ≤ 2031616))) else (none)) else (none))) else (none)) else (none)) else (none)) else (none))) else (none))) else (none))))))) else (none))) = some r := h
  clear h
  replace H := Option.bind_eq_some_iff.mp H
  obtain ⟨t194, A40, H⟩ := H
  replace H : (if t194 = true then ((dense_Log2.f k (IntKind.u64.wrap (1 + (Int.tmod a0 2147483648)))).bind fun t195 => ((dense_Log2.f k (IntKind.u64.wrap (1 + (Int.tmod a1 2147483648)))).bind fun t196 => ((tallymankit_Pick.f a2 64).bind fun t197 => ((dense_Log2.f k (IntKind.u64.wrap ((IntKind.u64.wrap (1 + (Int.tmod a0 2147483648))) * (IntKind.u64.wrap (1 + (Int.tmod a1 2147483648)))))).bind fun t198 => (if (IntKind.u64.wrap (1 + (Int.tmod a0 2147483648))) > (IntKind.u64.wrap (1 + (Int.tmod a1 2147483648))) then (if (IntKind.u64.wrap (1 + (Int.tmod a0 2147483648))) < (IntKind.u64.wrap (1 + (Int.tmod a1 2147483648))) then ((dense_Log2.f k (IntKind.u64.wrap (2 * (IntKind.u64.wrap (1 + (Int.tmod a0 2147483648)))))).bind fun t199 => (if t199 = (wrap64 (t195 + 65536)) then (if (wrap64 ((wrap64 (t198 - t195)) - t196)) ≥ (-4) then (if (wrap64 ((wrap64 (t198 - t195)) - t196)) ≤ 4 then (if 0 ≤ (IntKind.u64.wrap (t197)) then ((dense_Log2.f k (shl .u64 1 (IntKind.u64.wrap (t197)))).bind fun t200 => (if t200 = (wrap64 (65536 * t197)) then (if t195 ≥ 0 then (some (decide (t195 ≤ 2031616))) else (none)) else (none))) else (none)) else (none)) else (none)) else (none))) else (if t195 ≥ t196 then ((dense_Log2.f k (IntKind.u64.wrap (2 * (IntKind.u64.wrap (1 + (Int.tmod a0 2147483648)))))).bind fun t201 => (if t201 = (wrap64 (t195 + 65536)) then (if (wrap64 ((wrap64 (t198 - t195)) - t196)) ≥ (-4) then (if (wrap64 ((wrap64 (t198 - t195)) - t196)) ≤ 4 then (if 0 ≤ (IntKind.u64.wrap (t197)) then ((dense_Log2.f k (shl .u64 1 (IntKind.u64.wrap (t197)))).bind fun t202 => (if t202 = (wrap64 (65536 * t197)) then (if t195 ≥ 0 then (some (decide (t195 ≤ 2031616))) else (none)) else (none))) else (none)) else (none)) else (none)) else (none))) else (none))) else (if t195 ≤ t196 then (if (IntKind.u64.wrap (1 + (Int.tmod a0 2147483648))) < (IntKind.u64.wrap (1 + (Int.tmod a1 2147483648))) then ((dense_Log2.f k (IntKind.u64.wrap (2 * (IntKind.u64.wrap (1 + (Int.tmod a0 2147483648)))))).bind fun t203 => (if t203 = (wrap64 (t195 + 65536)) then (if (wrap64 ((wrap64 (t198 - t195)) - t196)) ≥ (-4) then (if (wrap64 ((wrap64 (t198 - t195)) - t196)) ≤ 4 then (if 0 ≤ (IntKind.u64.wrap (t197)) then ((dense_Log2.f k (shl .u64 1 (IntKind.u64.wrap (t197)))).bind fun t204 => (if t204 = (wrap64 (65536 * t197)) then (if t195 ≥ 0 then (some (decide (t195 ≤ 2031616))) else (none)) else (none))) else (none)) else (none)) else (none)) else (none))) else (if t195 ≥ t196 then ((dense_Log2.f k (IntKind.u64.wrap (2 * (IntKind.u64.wrap (1 + (Int.tmod a0 2147483648)))))).bind fun t205 => (if t205 = (wrap64 (t195 + 65536)) then (if (wrap64 ((wrap64 (t198 - t195)) - t196)) ≥ (-4) then (if (wrap64 ((wrap64 (t198 - t195)) - t196)) ≤ 4 then (if 0 ≤ (IntKind.u64.wrap (t197)) then ((dense_Log2.f k (shl .u64 1 (IntKind.u64.wrap (t197)))).bind fun t206 => (if t206 = (wrap64 (65536 * t197)) then (if t195 ≥ 0 then (some (decide (t195 ≤ 2031616))) else (none)) else (none))) else (none)) else (none)) else (none)) else (none))) else (none))) else (none))))))) else (none)) = some r := H
  have A4 := Aside0.mk A40
  clear A40
  by_cases c5 : t194 = true
  · subst c5
    have H1 : ((dense_Log2.f k (IntKind.u64.wrap (1 + (Int.tmod a0 2147483648)))).bind fun t195 => ((dense_Log2.f k (IntKind.u64.wrap (1 + (Int.tmod a1 2147483648)))).bind fun t196 => ((tallymankit_Pick.f a2 64).bind fun t197 => ((dense_Log2.f k (IntKind.u64.wrap ((IntKind.u64.wrap (1 + (Int.tmod a0 2147483648))) * (IntKind.u64.wrap (1 + (Int.tmod a1 2147483648)))))).bind fun t198 => (if (IntKind.u64.wrap (1 + (Int.tmod a0 2147483648))) > (IntKind.u64.wrap (1 + (Int.tmod a1 2147483648))) then (if (IntKind.u64.wrap (1 + (Int.tmod a0 2147483648))) < (IntKind.u64.wrap (1 + (Int.tmod a1 2147483648))) then ((dense_Log2.f k (IntKind.u64.wrap (2 * (IntKind.u64.wrap (1 + (Int.tmod a0 2147483648)))))).bind fun t199 => (if t199 = (wrap64 (t195 + 65536)) then (if (wrap64 ((wrap64 (t198 - t195)) - t196)) ≥ (-4) then (if (wrap64 ((wrap64 (t198 - t195)) - t196)) ≤ 4 then (if 0 ≤ (IntKind.u64.wrap (t197)) then ((dense_Log2.f k (shl .u64 1 (IntKind.u64.wrap (t197)))).bind fun t200 => (if t200 = (wrap64 (65536 * t197)) then (if t195 ≥ 0 then (some (decide (t195 ≤ 2031616))) else (none)) else (none))) else (none)) else (none)) else (none)) else (none))) else (if t195 ≥ t196 then ((dense_Log2.f k (IntKind.u64.wrap (2 * (IntKind.u64.wrap (1 + (Int.tmod a0 2147483648)))))).bind fun t201 => (if t201 = (wrap64 (t195 + 65536)) then (if (wrap64 ((wrap64 (t198 - t195)) - t196)) ≥ (-4) then (if (wrap64 ((wrap64 (t198 - t195)) - t196)) ≤ 4 then (if 0 ≤ (IntKind.u64.wrap (t197)) then ((dense_Log2.f k (shl .u64 1 (IntKind.u64.wrap (t197)))).bind fun t202 => (if t202 = (wrap64 (65536 * t197)) then (if t195 ≥ 0 then (some (decide (t195 ≤ 2031616))) else (none)) else (none))) else (none)) else (none)) else (none)) else (none))) else (none))) else (if t195 ≤ t196 then (if (IntKind.u64.wrap (1 + (Int.tmod a0 2147483648))) < (IntKind.u64.wrap (1 + (Int.tmod a1 2147483648))) then ((dense_Log2.f k (IntKind.u64.wrap (2 * (IntKind.u64.wrap (1 + (Int.tmod a0 2147483648)))))).bind fun t203 => (if t203 = (wrap64 (t195 + 65536)) then (if (wrap64 ((wrap64 (t198 - t195)) - t196)) ≥ (-4) then (if (wrap64 ((wrap64 (t198 - t195)) - t196)) ≤ 4 then (if 0 ≤ (IntKind.u64.wrap (t197)) then ((dense_Log2.f k (shl .u64 1 (IntKind.u64.wrap (t197)))).bind fun t204 => (if t204 = (wrap64 (65536 * t197)) then (if t195 ≥ 0 then (some (decide (t195 ≤ 2031616))) else (none)) else (none))) else (none)) else (none)) else (none)) else (none))) else (if t195 ≥ t196 then ((dense_Log2.f k (IntKind.u64.wrap (2 * (IntKind.u64.wrap (1 + (Int.tmod a0 2147483648)))))).bind fun t205 => (if t205 = (wrap64 (t195 + 65536)) then (if (wrap64 ((wrap64 (t198 - t195)) - t196)) ≥ (-4) then (if (wrap64 ((wrap64 (t198 - t195)) - t196)) ≤ 4 then (if 0 ≤ (IntKind.u64.wrap (t197)) then ((dense_Log2.f k (shl .u64 1 (IntKind.u64.wrap (t197)))).bind fun t206 => (if t206 = (wrap64 (65536 * t197)) then (if t195 ≥ 0 then (some (decide (t195 ≤ 2031616))) else (none)) else (none))) else (none)) else (none)) else (none)) else (none))) else (none))) else (none))))))) = some r := by rw [if_pos rfl] at H; exact H
    clear H
    have H := H1
    clear H1
    replace H := Option.bind_eq_some_iff.mp H
    obtain ⟨t195, A60, H⟩ := H
    replace H : ((dense_Log2.f k (IntKind.u64.wrap (1 + (Int.tmod a1 2147483648)))).bind fun t196 => ((tallymankit_Pick.f a2 64).bind fun t197 => ((dense_Log2.f k (IntKind.u64.wrap ((IntKind.u64.wrap (1 + (Int.tmod a0 2147483648))) * (IntKind.u64.wrap (1 + (Int.tmod a1 2147483648)))))).bind fun t198 => (if (IntKind.u64.wrap (1 + (Int.tmod a0 2147483648))) > (IntKind.u64.wrap (1 + (Int.tmod a1 2147483648))) then (if (IntKind.u64.wrap (1 + (Int.tmod a0 2147483648))) < (IntKind.u64.wrap (1 + (Int.tmod a1 2147483648))) then ((dense_Log2.f k (IntKind.u64.wrap (2 * (IntKind.u64.wrap (1 + (Int.tmod a0 2147483648)))))).bind fun t199 => (if t199 = (wrap64 (t195 + 65536)) then (if (wrap64 ((wrap64 (t198 - t195)) - t196)) ≥ (-4) then (if (wrap64 ((wrap64 (t198 - t195)) - t196)) ≤ 4 then (if 0 ≤ (IntKind.u64.wrap (t197)) then ((dense_Log2.f k (shl .u64 1 (IntKind.u64.wrap (t197)))).bind fun t200 => (if t200 = (wrap64 (65536 * t197)) then (if t195 ≥ 0 then (some (decide (t195 ≤ 2031616))) else (none)) else (none))) else (none)) else (none)) else (none)) else (none))) else (if t195 ≥ t196 then ((dense_Log2.f k (IntKind.u64.wrap (2 * (IntKind.u64.wrap (1 + (Int.tmod a0 2147483648)))))).bind fun t201 => (if t201 = (wrap64 (t195 + 65536)) then (if (wrap64 ((wrap64 (t198 - t195)) - t196)) ≥ (-4) then (if (wrap64 ((wrap64 (t198 - t195)) - t196)) ≤ 4 then (if 0 ≤ (IntKind.u64.wrap (t197)) then ((dense_Log2.f k (shl .u64 1 (IntKind.u64.wrap (t197)))).bind fun t202 => (if t202 = (wrap64 (65536 * t197)) then (if t195 ≥ 0 then (some (decide (t195 ≤ 2031616))) else (none)) else (none))) else (none)) else (none)) else (none)) else (none))) else (none))) else (if t195 ≤ t196 then (if (IntKind.u64.wrap (1 + (Int.tmod a0 2147483648))) < (IntKind.u64.wrap (1 + (Int.tmod a1 2147483648))) then ((dense_Log2.f k (IntKind.u64.wrap (2 * (IntKind.u64.wrap (1 + (Int.tmod a0 2147483648)))))).bind fun t203 => (if t203 = (wrap64 (t195 + 65536)) then (if (wrap64 ((wrap64 (t198 - t195)) - t196)) ≥ (-4) then (if (wrap64 ((wrap64 (t198 - t195)) - t196)) ≤ 4 then (if 0 ≤ (IntKind.u64.wrap (t197)) then ((dense_Log2.f k (shl .u64 1 (IntKind.u64.wrap (t197)))).bind fun t204 => (if t204 = (wrap64 (65536 * t197)) then (if t195 ≥ 0 then (some (decide (t195 ≤ 2031616))) else (none)) else (none))) else (none)) else (none)) else (none)) else (none))) else (if t195 ≥ t196 then ((dense_Log2.f k (IntKind.u64.wrap (2 * (IntKind.u64.wrap (1 + (Int.tmod a0 2147483648)))))).bind fun t205 => (if t205 = (wrap64 (t195 + 65536)) then (if (wrap64 ((wrap64 (t198 - t195)) - t196)) ≥ (-4) then (if (wrap64 ((wrap64 (t198 - t195)) - t196)) ≤ 4 then (if 0 ≤ (IntKind.u64.wrap (t197)) then ((dense_Log2.f k (shl .u64 1 (IntKind.u64.wrap (t197)))).bind fun t206 => (if t206 = (wrap64 (65536 * t197)) then (if t195 ≥ 0 then (some (decide (t195 ≤ 2031616))) else (none)) else (none))) else (none)) else (none)) else (none)) else (none))) else (none))) else (none)))))) = some r := H
    have A6 := Aside0.mk A60
    clear A60
    replace H := Option.bind_eq_some_iff.mp H
    obtain ⟨t196, A70, H⟩ := H
    replace H : ((tallymankit_Pick.f a2 64).bind fun t197 => ((dense_Log2.f k (IntKind.u64.wrap ((IntKind.u64.wrap (1 + (Int.tmod a0 2147483648))) * (IntKind.u64.wrap (1 + (Int.tmod a1 2147483648)))))).bind fun t198 => (if (IntKind.u64.wrap (1 + (Int.tmod a0 2147483648))) > (IntKind.u64.wrap (1 + (Int.tmod a1 2147483648))) then (if (IntKind.u64.wrap (1 + (Int.tmod a0 2147483648))) < (IntKind.u64.wrap (1 + (Int.tmod a1 2147483648))) then ((dense_Log2.f k (IntKind.u64.wrap (2 * (IntKind.u64.wrap (1 + (Int.tmod a0 2147483648)))))).bind fun t199 => (if t199 = (wrap64 (t195 + 65536)) then (if (wrap64 ((wrap64 (t198 - t195)) - t196)) ≥ (-4) then (if (wrap64 ((wrap64 (t198 - t195)) - t196)) ≤ 4 then (if 0 ≤ (IntKind.u64.wrap (t197)) then ((dense_Log2.f k (shl .u64 1 (IntKind.u64.wrap (t197)))).bind fun t200 => (if t200 = (wrap64 (65536 * t197)) then (if t195 ≥ 0 then (some (decide (t195 ≤ 2031616))) else (none)) else (none))) else (none)) else (none)) else (none)) else (none))) else (if t195 ≥ t196 then ((dense_Log2.f k (IntKind.u64.wrap (2 * (IntKind.u64.wrap (1 + (Int.tmod a0 2147483648)))))).bind fun t201 => (if t201 = (wrap64 (t195 + 65536)) then (if (wrap64 ((wrap64 (t198 - t195)) - t196)) ≥ (-4) then (if (wrap64 ((wrap64 (t198 - t195)) - t196)) ≤ 4 then (if 0 ≤ (IntKind.u64.wrap (t197)) then ((dense_Log2.f k (shl .u64 1 (IntKind.u64.wrap (t197)))).bind fun t202 => (if t202 = (wrap64 (65536 * t197)) then (if t195 ≥ 0 then (some (decide (t195 ≤ 2031616))) else (none)) else (none))) else (none)) else (none)) else (none)) else (none))) else (none))) else (if t195 ≤ t196 then (if (IntKind.u64.wrap (1 + (Int.tmod a0 2147483648))) < (IntKind.u64.wrap (1 + (Int.tmod a1 2147483648))) then ((dense_Log2.f k (IntKind.u64.wrap (2 * (IntKind.u64.wrap (1 + (Int.tmod a0 2147483648)))))).bind fun t203 => (if t203 = (wrap64 (t195 + 65536)) then (if (wrap64 ((wrap64 (t198 - t195)) - t196)) ≥ (-4) then (if (wrap64 ((wrap64 (t198 - t195)) - t196)) ≤ 4 then (if 0 ≤ (IntKind.u64.wrap (t197)) then ((dense_Log2.f k (shl .u64 1 (IntKind.u64.wrap (t197)))).bind fun t204 => (if t204 = (wrap64 (65536 * t197)) then (if t195 ≥ 0 then (some (decide (t195 ≤ 2031616))) else (none)) else (none))) else (none)) else (none)) else (none)) else (none))) else (if t195 ≥ t196 then ((dense_Log2.f k (IntKind.u64.wrap (2 * (IntKind.u64.wrap (1 + (Int.tmod a0 2147483648)))))).bind fun t205 => (if t205 = (wrap64 (t195 + 65536)) then (if (wrap64 ((wrap64 (t198 - t195)) - t196)) ≥ (-4) then (if (wrap64 ((wrap64 (t198 - t195)) - t196)) ≤ 4 then (if 0 ≤ (IntKind.u64.wrap (t197)) then ((dense_Log2.f k (shl .u64 1 (IntKind.u64.wrap (t197)))).bind fun t206 => (if t206 = (wrap64 (65536 * t197)) then (if t195 ≥ 0 then (some (decide (t195 ≤ 2031616))) else (none)) else (none))) else (none)) else (none)) else (none)) else (none))) else (none))) else (none))))) = some r := H
    have A7 := Aside0.mk A70
    clear A70
    replace H := Option.bind_eq_some_iff.mp H
    obtain ⟨t197, A80, H⟩ := H
    replace H : ((dense_Log2.f k (IntKind.u64.wrap ((IntKind.u64.wrap (1 + (Int.tmod a0 2147483648))) * (IntKind.u64.wrap (1 + (Int.tmod a1 2147483648)))))).bind fun t198 => (if (IntKind.u64.wrap (1 + (Int.tmod a0 2147483648))) > (IntKind.u64.wrap (1 + (Int.tmod a1 2147483648))) then (if (IntKind.u64.wrap (1 + (Int.tmod a0 2147483648))) < (IntKind.u64.wrap (1 + (Int.tmod a1 2147483648))) then ((dense_Log2.f k (IntKind.u64.wrap (2 * (IntKind.u64.wrap (1 + (Int.tmod a0 2147483648)))))).bind fun t199 => (if t199 = (wrap64 (t195 + 65536)) then (if (wrap64 ((wrap64 (t198 - t195)) - t196)) ≥ (-4) then (if (wrap64 ((wrap64 (t198 - t195)) - t196)) ≤ 4 then (if 0 ≤ (IntKind.u64.wrap (t197)) then ((dense_Log2.f k (shl .u64 1 (IntKind.u64.wrap (t197)))).bind fun t200 => (if t200 = (wrap64 (65536 * t197)) then (if t195 ≥ 0 then (some (decide (t195 ≤ 2031616))) else (none)) else (none))) else (none)) else (none)) else (none)) else (none))) else (if t195 ≥ t196 then ((dense_Log2.f k (IntKind.u64.wrap (2 * (IntKind.u64.wrap (1 + (Int.tmod a0 2147483648)))))).bind fun t201 => (if t201 = (wrap64 (t195 + 65536)) then (if (wrap64 ((wrap64 (t198 - t195)) - t196)) ≥ (-4) then (if (wrap64 ((wrap64 (t198 - t195)) - t196)) ≤ 4 then (if 0 ≤ (IntKind.u64.wrap (t197)) then ((dense_Log2.f k (shl .u64 1 (IntKind.u64.wrap (t197)))).bind fun t202 => (if t202 = (wrap64 (65536 * t197)) then (if t195 ≥ 0 then (some (decide (t195 ≤ 2031616))) else (none)) else (none))) else (none)) else (none)) else (none)) else (none))) else (none))) else (if t195 ≤ t196 then (if (IntKind.u64.wrap (1 + (Int.tmod a0 2147483648))) < (IntKind.u64.wrap (1 + (Int.tmod a1 2147483648))) then ((dense_Log2.f k (IntKind.u64.wrap (2 * (IntKind.u64.wrap (1 + (Int.tmod a0 2147483648)))))).bind fun t203 => (if t203 = (wrap64 (t195 + 65536)) then (if (wrap64 ((wrap64 (t198 - t195)) - t196)) ≥ (-4) then (if (wrap64 ((wrap64 (t198 - t195)) - t196)) ≤ 4 then (if 0 ≤ (IntKind.u64.wrap (t197)) then ((dense_Log2.f k (shl .u64 1 (IntKind.u64.wrap (t197)))).bind fun t204 => (if t204 = (wrap64 (65536 * t197)) then (if t195 ≥ 0 then (some (decide (t195 ≤ 2031616))) else (none)) else (none))) else (none)) else (none)) else (none)) else (none))) else (if t195 ≥ t196 then ((dense_Log2.f k (IntKind.u64.wrap (2 * (IntKind.u64.wrap (1 + (Int.tmod a0 2147483648)))))).bind fun t205 => (if t205 = (wrap64 (t195 + 65536)) then (if (wrap64 ((wrap64 (t198 - t195)) - t196)) ≥ (-4) then (if (wrap64 ((wrap64 (t198 - t195)) - t196)) ≤ 4 then (if 0 ≤ (IntKind.u64.wrap (t197)) then ((dense_Log2.f k (shl .u64 1 (IntKind.u64.wrap (t197)))).bind fun t206 => (if t206 = (wrap64 (65536 * t197)) then (if t195 ≥ 0 then (some (decide (t195 ≤ 2031616))) else (none)) else (none))) else (none)) else (none)) else (none)) else (none))) else (none))) else (none)))) = some r := H
    have A8 := Aside0.mk A80
    clear A80
    replace H := Option.bind_eq_some_iff.mp H
    obtain ⟨t198, A90, H⟩ := H
    replace H : (if (IntKind.u64.wrap (1 + (Int.tmod a0 2147483648))) > (IntKind.u64.wrap (1 + (Int.tmod a1 2147483648))) then (if (IntKind.u64.wrap (1 + (Int.tmod a0 2147483648))) < (IntKind.u64.wrap (1 + (Int.tmod a1 2147483648))) then ((dense_Log2.f k (IntKind.u64.wrap (2 * (IntKind.u64.wrap (1 + (Int.tmod a0 2147483648)))))).bind fun t199 => (if t199 = (wrap64 (t195 + 65536)) then (if (wrap64 ((wrap64 (t198 - t195)) - t196)) ≥ (-4) then (if (wrap64 ((wrap64 (t198 - t195)) - t196)) ≤ 4 then (if 0 ≤ (IntKind.u64.wrap (t197)) then ((dense_Log2.f k (shl .u64 1 (IntKind.u64.wrap (t197)))).bind fun t200 => (if t200 = (wrap64 (65536 * t197)) then (if t195 ≥ 0 then (some (decide (t195 ≤ 2031616))) else (none)) else (none))) else (none)) else (none)) else (none)) else (none))) else (if t195 ≥ t196 then ((dense_Log2.f k (IntKind.u64.wrap (2 * (IntKind.u64.wrap (1 + (Int.tmod a0 2147483648)))))).bind fun t201 => (if t201 = (wrap64 (t195 + 65536)) then (if (wrap64 ((wrap64 (t198 - t195)) - t196)) ≥ (-4) then (if (wrap64 ((wrap64 (t198 - t195)) - t196)) ≤ 4 then (if 0 ≤ (IntKind.u64.wrap (t197)) then ((dense_Log2.f k (shl .u64 1 (IntKind.u64.wrap (t197)))).bind fun t202 => (if t202 = (wrap64 (65536 * t197)) then (if t195 ≥ 0 then (some (decide (t195 ≤ 2031616))) else (none)) else (none))) else (none)) else (none)) else (none)) else (none))) else (none))) else (if t195 ≤ t196 then (if (IntKind.u64.wrap (1 + (Int.tmod a0 2147483648))) < (IntKind.u64.wrap (1 + (Int.tmod a1 2147483648))) then ((dense_Log2.f k (IntKind.u64.wrap (2 * (IntKind.u64.wrap (1 + (Int.tmod a0 2147483648)))))).bind fun t203 => (if t203 = (wrap64 (t195 + 65536)) then (if (wrap64 ((wrap64 (t198 - t195)) - t196)) ≥ (-4) then (if (wrap64 ((wrap64 (t198 - t195)) - t196)) ≤ 4 then (if 0 ≤ (IntKind.u64.wrap (t197)) then ((dense_Log2.f k (shl .u64 1 (IntKind.u64.wrap (t197)))).bind fun t204 => (if t204 = (wrap64 (65536 * t197)) then (if t195 ≥ 0 then (some (decide (t195 ≤ 2031616))) else (none)) else (none))) else (none)) else (none)) else (none)) else (none))) else (if t195 ≥ t196 then ((dense_Log2.f k (IntKind.u64.wrap (2 * (IntKind.u64.wrap (1 + (Int.tmod a0 2147483648)))))).bind fun t205 => (if t205 = (wrap64 (t195 + 65536)) then (if (wrap64 ((wrap64 (t198 - t195)) - t196)) ≥ (-4) then (if (wrap64 ((wrap64 (t198 - t195)) - t196)) ≤ 4 then (if 0 ≤ (IntKind.u64.wrap (t197)) then ((dense_Log2.f k (shl .u64 1 (IntKind.u64.wrap (t197)))).bind fun t206 => (if t206 = (wrap64 (65536 * t197)) then (if t195 ≥ 0 then (some (decide (t195 ≤ 2031616))) else (none)) else (none))) else (none)) else (none)) else (none)) else (none))) else (none))) else (none))) = some r := H
    have A9 := Aside0.mk A90
    clear A90
    by_cases c10 : (IntKind.u64.wrap (1 + (Int.tmod a0 2147483648))) > (IntKind.u64.wrap (1 + (Int.tmod a1 2147483648)))
    · rw [if_pos c10] at H
      have c10b0 : decide ((IntKind.u64.wrap (1 + (Int.tmod a1 2147483648))) < (IntKind.u64.wrap (1 + (Int.tmod a0 2147483648)))) = true := decide_eq_true c10
      clear c10
      by_cases c11 : (IntKind.u64.wrap (1 + (Int.tmod a0 2147483648))) < (IntKind.u64.wrap (1 + (Int.tmod a1 2147483648)))
      · rw [if_pos c11] at H
        have c11b0 : decide ((IntKind.u64.wrap (1 + (Int.tmod a0 2147483648))) < (IntKind.u64.wrap (1 + (Int.tmod a1 2147483648)))) = true := decide_eq_true c11
        clear c11
        replace H := Option.bind_eq_some_iff.mp H
        obtain ⟨t199, A120, H⟩ := H
        replace H : (if t199 = (wrap64 (t195 + 65536)) then (if (wrap64 ((wrap64 (t198 - t195)) - t196)) ≥ (-4) then (if (wrap64 ((wrap64 (t198 - t195)) - t196)) ≤ 4 then (if 0 ≤ (IntKind.u64.wrap (t197)) then ((dense_Log2.f k (shl .u64 1 (IntKind.u64.wrap (t197)))).bind fun t200 => (if t200 = (wrap64 (65536 * t197)) then (if t195 ≥ 0 then (some (decide (t195 ≤ 2031616))) else (none)) else (none))) else (none)) else (none)) else (none)) else (none)) = some r := H
        have A12 := Aside0.mk A120
        clear A120
        by_cases c13 : t199 = (wrap64 (t195 + 65536))
        · rw [if_pos c13] at H
          have c13b0 : (t199 == (wrap64 (t195 + 65536))) = true := beq_iff_eq.mpr c13
          have c13b1 : (t199 != (wrap64 (t195 + 65536))) = false := bne_eq_false_iff_eq.mpr c13
          clear c13
          by_cases c14 : (wrap64 ((wrap64 (t198 - t195)) - t196)) ≥ (-4)
          · rw [if_pos c14] at H
            have c14b0 : decide ((-4) ≤ (wrap64 ((wrap64 (t198 - t195)) - t196))) = true := decide_eq_true c14
            clear c14
            by_cases c15 : (wrap64 ((wrap64 (t198 - t195)) - t196)) ≤ 4
            · rw [if_pos c15] at H
              have c15b0 : decide ((wrap64 ((wrap64 (t198 - t195)) - t196)) ≤ 4) = true := decide_eq_true c15
              clear c15
              obtain ⟨ji16, hji16⟩ : ∃ j_ : Int, (IntKind.u64.wrap (t197)) = j_ := ⟨_, rfl⟩
              replace H : (if 0 ≤ (ji16) then ((dense_Log2.f k (shl .u64 1 (ji16))).bind fun t200 => (if t200 = (wrap64 (65536 * t197)) then (if t195 ≥ 0 then (some (decide (t195 ≤ 2031616))) else (none)) else (none))) else (none)) = some r := by first | (rw [hji16] at H; exact H) | (simp only [hji16] at H ⊢; exact H)
              (try rw [hji16] at A4)
              (try rw [hji16] at A6)
              (try rw [hji16] at A7)
              (try rw [hji16] at A8)
              (try rw [hji16] at A9)
              (try rw [hji16] at A12)
              by_cases c17 : 0 ≤ (ji16)
              · rw [if_pos c17] at H
                have c17b0 := eq_true c17
                have c17b1 : decide (0 ≤ (ji16)) = true := decide_eq_true c17
                clear c17
                obtain ⟨ji18, hji18⟩ : ∃ j_ : Int, (shl .u64 1 (ji16)) = j_ := ⟨_, rfl⟩
                replace H : ((dense_Log2.f k (ji18)).bind fun t200 => (if t200 = (wrap64 (65536 * t197)) then (if t195 ≥ 0 then (some (decide (t195 ≤ 2031616))) else (none)) else (none))) = some r := by first | (rw [hji18] at H; exact H) | (simp only [hji18] at H ⊢; exact H)
                (try rw [hji18] at A4)
                (try rw [hji18] at A6)
                (try rw [hji18] at A7)
                (try rw [hji18] at A8)
                (try rw [hji18] at A9)
                (try rw [hji18] at A12)
                have hji18_ : (IntKind.u64.wrap (1 * 2 ^ min (ji16).toNat 64)) = ji18 := hji18
                have hji18z : (ji16) ≤ 64 → (IntKind.u64.wrap (1 * 2 ^ (ji16).toNat)) = ji18 := shl_small hji18
                have hji18u : (IntKind.u64.wrap (2 ^ min (ji16).toNat 64)) = ji18 := by have h_ := hji18_; rw [Int.one_mul] at h_; exact h_
                have hji18v : (ji16) ≤ 64 → (IntKind.u64.wrap (2 ^ (ji16).toNat)) = ji18 := fun hle_ => by have h_ := hji18z hle_; rw [Int.one_mul] at h_; exact h_
                replace H := Option.bind_eq_some_iff.mp H
                obtain ⟨t200, A190, H⟩ := H
                replace H : (if t200 = (wrap64 (65536 * t197)) then (if t195 ≥ 0 then (some (decide (t195 ≤ 2031616))) else (none)) else (none)) = some r := H
                have A19 := Aside0.mk A190
                clear A190
                by_cases c20 : t200 = (wrap64 (65536 * t197))
                · rw [if_pos c20] at H
                  have c20b0 : (t200 == (wrap64 (65536 * t197))) = true := beq_iff_eq.mpr c20
                  have c20b1 : (t200 != (wrap64 (65536 * t197))) = false := bne_eq_false_iff_eq.mpr c20
                  clear c20
                  by_cases c21 : t195 ≥ 0
                  · rw [if_pos c21] at H
                    have c21b0 : decide (0 ≤ t195) = true := decide_eq_true c21
                    clear c21
                    obtain rfl := Option.some.inj H
                    go_enter Try.func3, Try.ntmps3
                    go_wp2_with (first | ((with_reducible refine gate_callee (f := 15) rfl ?_); refine goesL_ (some 11) rfl rfl Try.func15 (by kernel_rfl) rfl #[] rfl (by (try simp only [List.map_toArray, List.map_cons, List.map_nil]); first | done | rfl | (simp only [List.length_drop, List.length_take]; rfl)) ?_; (with_reducible refine (tallymanlaw15_lives.calls k  true _ A4.out).mono ?_); rintro e w22 ⟨rfl, hb⟩; refine ⟨_, rfl, ?_⟩; have n0_ := Aside0.mk (below_step (by repeat (first | (with_reducible first | exact HB.out | apply below_alloc | apply pw_below_drewN | apply below_drew1) | exact HB.out)) hb); clear HB; have HB := n0_; clear n0_; (try clear hb); (try clear hb2); (try clear hk); (try clear hi)) | ((with_reducible refine gate_callee (f := 16) rfl ?_); refine goesL_ (some 20) rfl rfl Try.func16 (by kernel_rfl) rfl #[.int .u64 (IntKind.u64.wrap (1 + (Int.tmod a0 2147483648)))] rfl (by (try simp only [List.map_toArray, List.map_cons, List.map_nil]); first | done | rfl | (simp only [List.length_drop, List.length_take]; rfl)) ?_; (with_reducible refine (dense_Log2.calls k (IntKind.u64.wrap (1 + (Int.tmod a0 2147483648))) t195 _ A6.out).mono ?_); rintro e w' ⟨rfl, ⟨nd, rfl⟩⟩; refine ⟨_, rfl, ?_⟩) | ((with_reducible refine gate_callee (f := 16) rfl ?_); refine goesL_ (some 22) rfl rfl Try.func16 (by kernel_rfl) rfl #[.int .u64 (IntKind.u64.wrap (1 + (Int.tmod a1 2147483648)))] rfl (by (try simp only [List.map_toArray, List.map_cons, List.map_nil]); first | done | rfl | (simp only [List.length_drop, List.length_take]; rfl)) ?_; (with_reducible refine (dense_Log2.calls k (IntKind.u64.wrap (1 + (Int.tmod a1 2147483648))) t196 _ A7.out).mono ?_); rintro e w' ⟨rfl, ⟨nd, rfl⟩⟩; refine ⟨_, rfl, ?_⟩) | ((with_reducible refine gate_callee (f := 17) rfl ?_); refine goesL_ (some 24) rfl rfl Try.func17 (by kernel_rfl) rfl #[.int .i64 a2, .int .i64 64] rfl (by (try simp only [List.map_toArray, List.map_cons, List.map_nil]); first | done | rfl | (simp only [List.length_drop, List.length_take]; rfl)) ?_; (with_reducible refine (tallymankit_Pick.calls a2 64 t197 _ A8.out).mono ?_); rintro e w' ⟨rfl, ⟨nd, rfl⟩⟩; refine ⟨_, rfl, ?_⟩) | ((with_reducible refine gate_callee (f := 16) rfl ?_); refine goesL_ (some 28) rfl rfl Try.func16 (by kernel_rfl) rfl #[.int .u64 (IntKind.u64.wrap ((IntKind.u64.wrap (1 + (Int.tmod a0 2147483648))) * (IntKind.u64.wrap (1 + (Int.tmod a1 2147483648)))))] rfl (by (try simp only [List.map_toArray, List.map_cons, List.map_nil]); first | done | rfl | (simp only [List.length_drop, List.length_take]; rfl)) ?_; (with_reducible refine (dense_Log2.calls k (IntKind.u64.wrap ((IntKind.u64.wrap (1 + (Int.tmod a0 2147483648))) * (IntKind.u64.wrap (1 + (Int.tmod a1 2147483648))))) t198 _ A9.out).mono ?_); rintro e w' ⟨rfl, ⟨nd, rfl⟩⟩; refine ⟨_, rfl, ?_⟩) | (go_at_call 16; (with_reducible refine (dense_Log2.calls k (IntKind.u64.wrap (2 * (IntKind.u64.wrap (1 + (Int.tmod a0 2147483648))))) t199 _ A12.out).mono ?_); rintro e w' ⟨rfl, ⟨nd, rfl⟩⟩) | (go_at_call 16; (with_reducible refine (dense_Log2.calls k ji18 t200 _ A19.out).mono ?_); rintro e w' ⟨rfl, ⟨nd, rfl⟩⟩))
                    go_ret
                    exact ⟨by first | rfl | (simp [errW_none, errW_some] <;> rfl) | (simp only [← hji16, ← hji18]; first | rfl | (simp [errW_none, errW_some] <;> rfl)) | (simp [*, errW_none, errW_some] <;> rfl), by repeat (first | (with_reducible first | exact HB.out | apply below_alloc | apply pw_below_drewN | apply below_drew1) | exact HB.out)⟩
                  · rw [if_neg c21] at H
                    exact absurd H (by simp)
                · rw [if_neg c20] at H
                  exact absurd H (by simp)
              · rw [if_neg c17] at H
                exact absurd H (by simp)
            · rw [if_neg c15] at H
              exact absurd H (by simp)
          · rw [if_neg c14] at H
            exact absurd H (by simp)
        · rw [if_neg c13] at H
          exact absurd H (by simp)
      · rw [if_neg c11] at H
        have c11b0 : decide ((IntKind.u64.wrap (1 + (Int.tmod a0 2147483648))) < (IntKind.u64.wrap (1 + (Int.tmod a1 2147483648)))) = false := decide_eq_false c11
        clear c11
        by_cases c23 : t195 ≥ t196
        · rw [if_pos c23] at H
          have c23b0 : decide (t196 ≤ t195) = true := decide_eq_true c23
          clear c23
          replace H := Option.bind_eq_some_iff.mp H
          obtain ⟨t201, A240, H⟩ := H
          replace H : (if t201 = (wrap64 (t195 + 65536)) then (if (wrap64 ((wrap64 (t198 - t195)) - t196)) ≥ (-4) then (if (wrap64 ((wrap64 (t198 - t195)) - t196)) ≤ 4 then (if 0 ≤ (IntKind.u64.wrap (t197)) then ((dense_Log2.f k (shl .u64 1 (IntKind.u64.wrap (t197)))).bind fun t202 => (if t202 = (wrap64 (65536 * t197)) then (if t195 ≥ 0 then (some (decide (t195 ≤ 2031616))) else (none)) else (none))) else (none)) else (none)) else (none)) else (none)) = some r := H
          have A24 := Aside0.mk A240
          clear A240
          by_cases c25 : t201 = (wrap64 (t195 + 65536))
          · rw [if_pos c25] at H
            have c25b0 : (t201 == (wrap64 (t195 + 65536))) = true := beq_iff_eq.mpr c25
            have c25b1 : (t201 != (wrap64 (t195 + 65536))) = false := bne_eq_false_iff_eq.mpr c25
            clear c25
            by_cases c26 : (wrap64 ((wrap64 (t198 - t195)) - t196)) ≥ (-4)
            · rw [if_pos c26] at H
              have c26b0 : decide ((-4) ≤ (wrap64 ((wrap64 (t198 - t195)) - t196))) = true := decide_eq_true c26
              clear c26
              by_cases c27 : (wrap64 ((wrap64 (t198 - t195)) - t196)) ≤ 4
              · rw [if_pos c27] at H
                have c27b0 : decide ((wrap64 ((wrap64 (t198 - t195)) - t196)) ≤ 4) = true := decide_eq_true c27
                clear c27
                obtain ⟨ji28, hji28⟩ : ∃ j_ : Int, (IntKind.u64.wrap (t197)) = j_ := ⟨_, rfl⟩
                replace H : (if 0 ≤ (ji28) then ((dense_Log2.f k (shl .u64 1 (ji28))).bind fun t202 => (if t202 = (wrap64 (65536 * t197)) then (if t195 ≥ 0 then (some (decide (t195 ≤ 2031616))) else (none)) else (none))) else (none)) = some r := by first | (rw [hji28] at H; exact H) | (simp only [hji28] at H ⊢; exact H)
                (try rw [hji28] at A4)
                (try rw [hji28] at A6)
                (try rw [hji28] at A7)
                (try rw [hji28] at A8)
                (try rw [hji28] at A9)
                (try rw [hji28] at A24)
                by_cases c29 : 0 ≤ (ji28)
                · rw [if_pos c29] at H
                  have c29b0 := eq_true c29
                  have c29b1 : decide (0 ≤ (ji28)) = true := decide_eq_true c29
                  clear c29
                  obtain ⟨ji30, hji30⟩ : ∃ j_ : Int, (shl .u64 1 (ji28)) = j_ := ⟨_, rfl⟩
                  replace H : ((dense_Log2.f k (ji30)).bind fun t202 => (if t202 = (wrap64 (65536 * t197)) then (if t195 ≥ 0 then (some (decide (t195 ≤ 2031616))) else (none)) else (none))) = some r := by first | (rw [hji30] at H; exact H) | (simp only [hji30] at H ⊢; exact H)
                  (try rw [hji30] at A4)
                  (try rw [hji30] at A6)
                  (try rw [hji30] at A7)
                  (try rw [hji30] at A8)
                  (try rw [hji30] at A9)
                  (try rw [hji30] at A24)
                  have hji30_ : (IntKind.u64.wrap (1 * 2 ^ min (ji28).toNat 64)) = ji30 := hji30
                  have hji30z : (ji28) ≤ 64 → (IntKind.u64.wrap (1 * 2 ^ (ji28).toNat)) = ji30 := shl_small hji30
                  have hji30u : (IntKind.u64.wrap (2 ^ min (ji28).toNat 64)) = ji30 := by have h_ := hji30_; rw [Int.one_mul] at h_; exact h_
                  have hji30v : (ji28) ≤ 64 → (IntKind.u64.wrap (2 ^ (ji28).toNat)) = ji30 := fun hle_ => by have h_ := hji30z hle_; rw [Int.one_mul] at h_; exact h_
                  replace H := Option.bind_eq_some_iff.mp H
                  obtain ⟨t202, A310, H⟩ := H
                  replace H : (if t202 = (wrap64 (65536 * t197)) then (if t195 ≥ 0 then (some (decide (t195 ≤ 2031616))) else (none)) else (none)) = some r := H
                  have A31 := Aside0.mk A310
                  clear A310
                  by_cases c32 : t202 = (wrap64 (65536 * t197))
                  · rw [if_pos c32] at H
                    have c32b0 : (t202 == (wrap64 (65536 * t197))) = true := beq_iff_eq.mpr c32
                    have c32b1 : (t202 != (wrap64 (65536 * t197))) = false := bne_eq_false_iff_eq.mpr c32
                    clear c32
                    by_cases c33 : t195 ≥ 0
                    · rw [if_pos c33] at H
                      have c33b0 : decide (0 ≤ t195) = true := decide_eq_true c33
                      clear c33
                      obtain rfl := Option.some.inj H
                      go_enter Try.func3, Try.ntmps3
                      go_wp2_with (first | ((with_reducible refine gate_callee (f := 15) rfl ?_); refine goesL_ (some 11) rfl rfl Try.func15 (by kernel_rfl) rfl #[] rfl (by (try simp only [List.map_toArray, List.map_cons, List.map_nil]); first | done | rfl | (simp only [List.length_drop, List.length_take]; rfl)) ?_; (with_reducible refine (tallymanlaw15_lives.calls k  true _ A4.out).mono ?_); rintro e w34 ⟨rfl, hb⟩; refine ⟨_, rfl, ?_⟩; have n0_ := Aside0.mk (below_step (by repeat (first | (with_reducible first | exact HB.out | apply below_alloc | apply pw_below_drewN | apply below_drew1) | exact HB.out)) hb); clear HB; have HB := n0_; clear n0_; (try clear hb); (try clear hb2); (try clear hk); (try clear hi)) | ((with_reducible refine gate_callee (f := 16) rfl ?_); refine goesL_ (some 20) rfl rfl Try.func16 (by kernel_rfl) rfl #[.int .u64 (IntKind.u64.wrap (1 + (Int.tmod a0 2147483648)))] rfl (by (try simp only [List.map_toArray, List.map_cons, List.map_nil]); first | done | rfl | (simp only [List.length_drop, List.length_take]; rfl)) ?_; (with_reducible refine (dense_Log2.calls k (IntKind.u64.wrap (1 + (Int.tmod a0 2147483648))) t195 _ A6.out).mono ?_); rintro e w' ⟨rfl, ⟨nd, rfl⟩⟩; refine ⟨_, rfl, ?_⟩) | ((with_reducible refine gate_callee (f := 16) rfl ?_); refine goesL_ (some 22) rfl rfl Try.func16 (by kernel_rfl) rfl #[.int .u64 (IntKind.u64.wrap (1 + (Int.tmod a1 2147483648)))] rfl (by (try simp only [List.map_toArray, List.map_cons, List.map_nil]); first | done | rfl | (simp only [List.length_drop, List.length_take]; rfl)) ?_; (with_reducible refine (dense_Log2.calls k (IntKind.u64.wrap (1 + (Int.tmod a1 2147483648))) t196 _ A7.out).mono ?_); rintro e w' ⟨rfl, ⟨nd, rfl⟩⟩; refine ⟨_, rfl, ?_⟩) | ((with_reducible refine gate_callee (f := 17) rfl ?_); refine goesL_ (some 24) rfl rfl Try.func17 (by kernel_rfl) rfl #[.int .i64 a2, .int .i64 64] rfl (by (try simp only [List.map_toArray, List.map_cons, List.map_nil]); first | done | rfl | (simp only [List.length_drop, List.length_take]; rfl)) ?_; (with_reducible refine (tallymankit_Pick.calls a2 64 t197 _ A8.out).mono ?_); rintro e w' ⟨rfl, ⟨nd, rfl⟩⟩; refine ⟨_, rfl, ?_⟩) | ((with_reducible refine gate_callee (f := 16) rfl ?_); refine goesL_ (some 28) rfl rfl Try.func16 (by kernel_rfl) rfl #[.int .u64 (IntKind.u64.wrap ((IntKind.u64.wrap (1 + (Int.tmod a0 2147483648))) * (IntKind.u64.wrap (1 + (Int.tmod a1 2147483648)))))] rfl (by (try simp only [List.map_toArray, List.map_cons, List.map_nil]); first | done | rfl | (simp only [List.length_drop, List.length_take]; rfl)) ?_; (with_reducible refine (dense_Log2.calls k (IntKind.u64.wrap ((IntKind.u64.wrap (1 + (Int.tmod a0 2147483648))) * (IntKind.u64.wrap (1 + (Int.tmod a1 2147483648))))) t198 _ A9.out).mono ?_); rintro e w' ⟨rfl, ⟨nd, rfl⟩⟩; refine ⟨_, rfl, ?_⟩) | (go_at_call 16; (with_reducible refine (dense_Log2.calls k (IntKind.u64.wrap (2 * (IntKind.u64.wrap (1 + (Int.tmod a0 2147483648))))) t201 _ A24.out).mono ?_); rintro e w' ⟨rfl, ⟨nd, rfl⟩⟩) | (go_at_call 16; (with_reducible refine (dense_Log2.calls k ji30 t202 _ A31.out).mono ?_); rintro e w' ⟨rfl, ⟨nd, rfl⟩⟩))
                      go_ret
                      exact ⟨by first | rfl | (simp [errW_none, errW_some] <;> rfl) | (simp only [← hji28, ← hji30]; first | rfl | (simp [errW_none, errW_some] <;> rfl)) | (simp [*, errW_none, errW_some] <;> rfl), by repeat (first | (with_reducible first | exact HB.out | apply below_alloc | apply pw_below_drewN | apply below_drew1) | exact HB.out)⟩
                    · rw [if_neg c33] at H
                      exact absurd H (by simp)
                  · rw [if_neg c32] at H
                    exact absurd H (by simp)
                · rw [if_neg c29] at H
                  exact absurd H (by simp)
              · rw [if_neg c27] at H
                exact absurd H (by simp)
            · rw [if_neg c26] at H
              exact absurd H (by simp)
          · rw [if_neg c25] at H
            exact absurd H (by simp)
        · rw [if_neg c23] at H
          exact absurd H (by simp)
    · rw [if_neg c10] at H
      have c10b0 : decide ((IntKind.u64.wrap (1 + (Int.tmod a1 2147483648))) < (IntKind.u64.wrap (1 + (Int.tmod a0 2147483648)))) = false := decide_eq_false c10
      clear c10
      by_cases c35 : t195 ≤ t196
      · rw [if_pos c35] at H
        have c35b0 : decide (t195 ≤ t196) = true := decide_eq_true c35
        clear c35
        by_cases c36 : (IntKind.u64.wrap (1 + (Int.tmod a0 2147483648))) < (IntKind.u64.wrap (1 + (Int.tmod a1 2147483648)))
        · rw [if_pos c36] at H
          have c36b0 : decide ((IntKind.u64.wrap (1 + (Int.tmod a0 2147483648))) < (IntKind.u64.wrap (1 + (Int.tmod a1 2147483648)))) = true := decide_eq_true c36
          clear c36
          replace H := Option.bind_eq_some_iff.mp H
          obtain ⟨t203, A370, H⟩ := H
          replace H : (if t203 = (wrap64 (t195 + 65536)) then (if (wrap64 ((wrap64 (t198 - t195)) - t196)) ≥ (-4) then (if (wrap64 ((wrap64 (t198 - t195)) - t196)) ≤ 4 then (if 0 ≤ (IntKind.u64.wrap (t197)) then ((dense_Log2.f k (shl .u64 1 (IntKind.u64.wrap (t197)))).bind fun t204 => (if t204 = (wrap64 (65536 * t197)) then (if t195 ≥ 0 then (some (decide (t195 ≤ 2031616))) else (none)) else (none))) else (none)) else (none)) else (none)) else (none)) = some r := H
          have A37 := Aside0.mk A370
          clear A370
          by_cases c38 : t203 = (wrap64 (t195 + 65536))
          · rw [if_pos c38] at H
            have c38b0 : (t203 == (wrap64 (t195 + 65536))) = true := beq_iff_eq.mpr c38
            have c38b1 : (t203 != (wrap64 (t195 + 65536))) = false := bne_eq_false_iff_eq.mpr c38
            clear c38
            by_cases c39 : (wrap64 ((wrap64 (t198 - t195)) - t196)) ≥ (-4)
            · rw [if_pos c39] at H
              have c39b0 : decide ((-4) ≤ (wrap64 ((wrap64 (t198 - t195)) - t196))) = true := decide_eq_true c39
              clear c39
              by_cases c40 : (wrap64 ((wrap64 (t198 - t195)) - t196)) ≤ 4
              · rw [if_pos c40] at H
                have c40b0 : decide ((wrap64 ((wrap64 (t198 - t195)) - t196)) ≤ 4) = true := decide_eq_true c40
                clear c40
                obtain ⟨ji41, hji41⟩ : ∃ j_ : Int, (IntKind.u64.wrap (t197)) = j_ := ⟨_, rfl⟩
                replace H : (if 0 ≤ (ji41) then ((dense_Log2.f k (shl .u64 1 (ji41))).bind fun t204 => (if t204 = (wrap64 (65536 * t197)) then (if t195 ≥ 0 then (some (decide (t195 ≤ 2031616))) else (none)) else (none))) else (none)) = some r := by first | (rw [hji41] at H; exact H) | (simp only [hji41] at H ⊢; exact H)
                (try rw [hji41] at A4)
                (try rw [hji41] at A6)
                (try rw [hji41] at A7)
                (try rw [hji41] at A8)
                (try rw [hji41] at A9)
                (try rw [hji41] at A37)
                by_cases c42 : 0 ≤ (ji41)
                · rw [if_pos c42] at H
                  have c42b0 := eq_true c42
                  have c42b1 : decide (0 ≤ (ji41)) = true := decide_eq_true c42
                  clear c42
                  obtain ⟨ji43, hji43⟩ : ∃ j_ : Int, (shl .u64 1 (ji41)) = j_ := ⟨_, rfl⟩
                  replace H : ((dense_Log2.f k (ji43)).bind fun t204 => (if t204 = (wrap64 (65536 * t197)) then (if t195 ≥ 0 then (some (decide (t195 ≤ 2031616))) else (none)) else (none))) = some r := by first | (rw [hji43] at H; exact H) | (simp only [hji43] at H ⊢; exact H)
                  (try rw [hji43] at A4)
                  (try rw [hji43] at A6)
                  (try rw [hji43] at A7)
                  (try rw [hji43] at A8)
                  (try rw [hji43] at A9)
                  (try rw [hji43] at A37)
                  have hji43_ : (IntKind.u64.wrap (1 * 2 ^ min (ji41).toNat 64)) = ji43 := hji43
                  have hji43z : (ji41) ≤ 64 → (IntKind.u64.wrap (1 * 2 ^ (ji41).toNat)) = ji43 := shl_small hji43
                  have hji43u : (IntKind.u64.wrap (2 ^ min (ji41).toNat 64)) = ji43 := by have h_ := hji43_; rw [Int.one_mul] at h_; exact h_
                  have hji43v : (ji41) ≤ 64 → (IntKind.u64.wrap (2 ^ (ji41).toNat)) = ji43 := fun hle_ => by have h_ := hji43z hle_; rw [Int.one_mul] at h_; exact h_
                  replace H := Option.bind_eq_some_iff.mp H
                  obtain ⟨t204, A440, H⟩ := H
                  replace H : (if t204 = (wrap64 (65536 * t197)) then (if t195 ≥ 0 then (some (decide (t195 ≤ 2031616))) else (none)) else (none)) = some r := H
                  have A44 := Aside0.mk A440
                  clear A440
                  by_cases c45 : t204 = (wrap64 (65536 * t197))
                  · rw [if_pos c45] at H
                    have c45b0 : (t204 == (wrap64 (65536 * t197))) = true := beq_iff_eq.mpr c45
                    have c45b1 : (t204 != (wrap64 (65536 * t197))) = false := bne_eq_false_iff_eq.mpr c45
                    clear c45
                    by_cases c46 : t195 ≥ 0
                    · rw [if_pos c46] at H
                      have c46b0 : decide (0 ≤ t195) = true := decide_eq_true c46
                      clear c46
                      obtain rfl := Option.some.inj H
                      go_enter Try.func3, Try.ntmps3
                      go_wp2_with (first | ((with_reducible refine gate_callee (f := 15) rfl ?_); refine goesL_ (some 11) rfl rfl Try.func15 (by kernel_rfl) rfl #[] rfl (by (try simp only [List.map_toArray, List.map_cons, List.map_nil]); first | done | rfl | (simp only [List.length_drop, List.length_take]; rfl)) ?_; (with_reducible refine (tallymanlaw15_lives.calls k  true _ A4.out).mono ?_); rintro e w47 ⟨rfl, hb⟩; refine ⟨_, rfl, ?_⟩; have n0_ := Aside0.mk (below_step (by repeat (first | (with_reducible first | exact HB.out | apply below_alloc | apply pw_below_drewN | apply below_drew1) | exact HB.out)) hb); clear HB; have HB := n0_; clear n0_; (try clear hb); (try clear hb2); (try clear hk); (try clear hi)) | ((with_reducible refine gate_callee (f := 16) rfl ?_); refine goesL_ (some 20) rfl rfl Try.func16 (by kernel_rfl) rfl #[.int .u64 (IntKind.u64.wrap (1 + (Int.tmod a0 2147483648)))] rfl (by (try simp only [List.map_toArray, List.map_cons, List.map_nil]); first | done | rfl | (simp only [List.length_drop, List.length_take]; rfl)) ?_; (with_reducible refine (dense_Log2.calls k (IntKind.u64.wrap (1 + (Int.tmod a0 2147483648))) t195 _ A6.out).mono ?_); rintro e w' ⟨rfl, ⟨nd, rfl⟩⟩; refine ⟨_, rfl, ?_⟩) | ((with_reducible refine gate_callee (f := 16) rfl ?_); refine goesL_ (some 22) rfl rfl Try.func16 (by kernel_rfl) rfl #[.int .u64 (IntKind.u64.wrap (1 + (Int.tmod a1 2147483648)))] rfl (by (try simp only [List.map_toArray, List.map_cons, List.map_nil]); first | done | rfl | (simp only [List.length_drop, List.length_take]; rfl)) ?_; (with_reducible refine (dense_Log2.calls k (IntKind.u64.wrap (1 + (Int.tmod a1 2147483648))) t196 _ A7.out).mono ?_); rintro e w' ⟨rfl, ⟨nd, rfl⟩⟩; refine ⟨_, rfl, ?_⟩) | ((with_reducible refine gate_callee (f := 17) rfl ?_); refine goesL_ (some 24) rfl rfl Try.func17 (by kernel_rfl) rfl #[.int .i64 a2, .int .i64 64] rfl (by (try simp only [List.map_toArray, List.map_cons, List.map_nil]); first | done | rfl | (simp only [List.length_drop, List.length_take]; rfl)) ?_; (with_reducible refine (tallymankit_Pick.calls a2 64 t197 _ A8.out).mono ?_); rintro e w' ⟨rfl, ⟨nd, rfl⟩⟩; refine ⟨_, rfl, ?_⟩) | ((with_reducible refine gate_callee (f := 16) rfl ?_); refine goesL_ (some 28) rfl rfl Try.func16 (by kernel_rfl) rfl #[.int .u64 (IntKind.u64.wrap ((IntKind.u64.wrap (1 + (Int.tmod a0 2147483648))) * (IntKind.u64.wrap (1 + (Int.tmod a1 2147483648)))))] rfl (by (try simp only [List.map_toArray, List.map_cons, List.map_nil]); first | done | rfl | (simp only [List.length_drop, List.length_take]; rfl)) ?_; (with_reducible refine (dense_Log2.calls k (IntKind.u64.wrap ((IntKind.u64.wrap (1 + (Int.tmod a0 2147483648))) * (IntKind.u64.wrap (1 + (Int.tmod a1 2147483648))))) t198 _ A9.out).mono ?_); rintro e w' ⟨rfl, ⟨nd, rfl⟩⟩; refine ⟨_, rfl, ?_⟩) | (go_at_call 16; (with_reducible refine (dense_Log2.calls k (IntKind.u64.wrap (2 * (IntKind.u64.wrap (1 + (Int.tmod a0 2147483648))))) t203 _ A37.out).mono ?_); rintro e w' ⟨rfl, ⟨nd, rfl⟩⟩) | (go_at_call 16; (with_reducible refine (dense_Log2.calls k ji43 t204 _ A44.out).mono ?_); rintro e w' ⟨rfl, ⟨nd, rfl⟩⟩))
                      go_ret
                      exact ⟨by first | rfl | (simp [errW_none, errW_some] <;> rfl) | (simp only [← hji41, ← hji43]; first | rfl | (simp [errW_none, errW_some] <;> rfl)) | (simp [*, errW_none, errW_some] <;> rfl), by repeat (first | (with_reducible first | exact HB.out | apply below_alloc | apply pw_below_drewN | apply below_drew1) | exact HB.out)⟩
                    · rw [if_neg c46] at H
                      exact absurd H (by simp)
                  · rw [if_neg c45] at H
                    exact absurd H (by simp)
                · rw [if_neg c42] at H
                  exact absurd H (by simp)
              · rw [if_neg c40] at H
                exact absurd H (by simp)
            · rw [if_neg c39] at H
              exact absurd H (by simp)
          · rw [if_neg c38] at H
            exact absurd H (by simp)
        · rw [if_neg c36] at H
          have c36b0 : decide ((IntKind.u64.wrap (1 + (Int.tmod a0 2147483648))) < (IntKind.u64.wrap (1 + (Int.tmod a1 2147483648)))) = false := decide_eq_false c36
          clear c36
          by_cases c48 : t195 ≥ t196
          · rw [if_pos c48] at H
            have c48b0 : decide (t196 ≤ t195) = true := decide_eq_true c48
            clear c48
            replace H := Option.bind_eq_some_iff.mp H
            obtain ⟨t205, A490, H⟩ := H
            replace H : (if t205 = (wrap64 (t195 + 65536)) then (if (wrap64 ((wrap64 (t198 - t195)) - t196)) ≥ (-4) then (if (wrap64 ((wrap64 (t198 - t195)) - t196)) ≤ 4 then (if 0 ≤ (IntKind.u64.wrap (t197)) then ((dense_Log2.f k (shl .u64 1 (IntKind.u64.wrap (t197)))).bind fun t206 => (if t206 = (wrap64 (65536 * t197)) then (if t195 ≥ 0 then (some (decide (t195 ≤ 2031616))) else (none)) else (none))) else (none)) else (none)) else (none)) else (none)) = some r := H
            have A49 := Aside0.mk A490
            clear A490
            by_cases c50 : t205 = (wrap64 (t195 + 65536))
            · rw [if_pos c50] at H
              have c50b0 : (t205 == (wrap64 (t195 + 65536))) = true := beq_iff_eq.mpr c50
              have c50b1 : (t205 != (wrap64 (t195 + 65536))) = false := bne_eq_false_iff_eq.mpr c50
              clear c50
              by_cases c51 : (wrap64 ((wrap64 (t198 - t195)) - t196)) ≥ (-4)
              · rw [if_pos c51] at H
                have c51b0 : decide ((-4) ≤ (wrap64 ((wrap64 (t198 - t195)) - t196))) = true := decide_eq_true c51
                clear c51
                by_cases c52 : (wrap64 ((wrap64 (t198 - t195)) - t196)) ≤ 4
                · rw [if_pos c52] at H
                  have c52b0 : decide ((wrap64 ((wrap64 (t198 - t195)) - t196)) ≤ 4) = true := decide_eq_true c52
                  clear c52
                  obtain ⟨ji53, hji53⟩ : ∃ j_ : Int, (IntKind.u64.wrap (t197)) = j_ := ⟨_, rfl⟩
                  replace H : (if 0 ≤ (ji53) then ((dense_Log2.f k (shl .u64 1 (ji53))).bind fun t206 => (if t206 = (wrap64 (65536 * t197)) then (if t195 ≥ 0 then (some (decide (t195 ≤ 2031616))) else (none)) else (none))) else (none)) = some r := by first | (rw [hji53] at H; exact H) | (simp only [hji53] at H ⊢; exact H)
                  (try rw [hji53] at A4)
                  (try rw [hji53] at A6)
                  (try rw [hji53] at A7)
                  (try rw [hji53] at A8)
                  (try rw [hji53] at A9)
                  (try rw [hji53] at A49)
                  by_cases c54 : 0 ≤ (ji53)
                  · rw [if_pos c54] at H
                    have c54b0 := eq_true c54
                    have c54b1 : decide (0 ≤ (ji53)) = true := decide_eq_true c54
                    clear c54
                    obtain ⟨ji55, hji55⟩ : ∃ j_ : Int, (shl .u64 1 (ji53)) = j_ := ⟨_, rfl⟩
                    replace H : ((dense_Log2.f k (ji55)).bind fun t206 => (if t206 = (wrap64 (65536 * t197)) then (if t195 ≥ 0 then (some (decide (t195 ≤ 2031616))) else (none)) else (none))) = some r := by first | (rw [hji55] at H; exact H) | (simp only [hji55] at H ⊢; exact H)
                    (try rw [hji55] at A4)
                    (try rw [hji55] at A6)
                    (try rw [hji55] at A7)
                    (try rw [hji55] at A8)
                    (try rw [hji55] at A9)
                    (try rw [hji55] at A49)
                    have hji55_ : (IntKind.u64.wrap (1 * 2 ^ min (ji53).toNat 64)) = ji55 := hji55
                    have hji55z : (ji53) ≤ 64 → (IntKind.u64.wrap (1 * 2 ^ (ji53).toNat)) = ji55 := shl_small hji55
                    have hji55u : (IntKind.u64.wrap (2 ^ min (ji53).toNat 64)) = ji55 := by have h_ := hji55_; rw [Int.one_mul] at h_; exact h_
                    have hji55v : (ji53) ≤ 64 → (IntKind.u64.wrap (2 ^ (ji53).toNat)) = ji55 := fun hle_ => by have h_ := hji55z hle_; rw [Int.one_mul] at h_; exact h_
                    replace H := Option.bind_eq_some_iff.mp H
                    obtain ⟨t206, A560, H⟩ := H
                    replace H : (if t206 = (wrap64 (65536 * t197)) then (if t195 ≥ 0 then (some (decide (t195 ≤ 2031616))) else (none)) else (none)) = some r := H
                    have A56 := Aside0.mk A560
                    clear A560
                    by_cases c57 : t206 = (wrap64 (65536 * t197))
                    · rw [if_pos c57] at H
                      have c57b0 : (t206 == (wrap64 (65536 * t197))) = true := beq_iff_eq.mpr c57
                      have c57b1 : (t206 != (wrap64 (65536 * t197))) = false := bne_eq_false_iff_eq.mpr c57
                      clear c57
                      by_cases c58 : t195 ≥ 0
                      · rw [if_pos c58] at H
                        have c58b0 : decide (0 ≤ t195) = true := decide_eq_true c58
                        clear c58
                        obtain rfl := Option.some.inj H
                        go_enter Try.func3, Try.ntmps3
                        go_wp2_with (first | ((with_reducible refine gate_callee (f := 15) rfl ?_); refine goesL_ (some 11) rfl rfl Try.func15 (by kernel_rfl) rfl #[] rfl (by (try simp only [List.map_toArray, List.map_cons, List.map_nil]); first | done | rfl | (simp only [List.length_drop, List.length_take]; rfl)) ?_; (with_reducible refine (tallymanlaw15_lives.calls k  true _ A4.out).mono ?_); rintro e w59 ⟨rfl, hb⟩; refine ⟨_, rfl, ?_⟩; have n0_ := Aside0.mk (below_step (by repeat (first | (with_reducible first | exact HB.out | apply below_alloc | apply pw_below_drewN | apply below_drew1) | exact HB.out)) hb); clear HB; have HB := n0_; clear n0_; (try clear hb); (try clear hb2); (try clear hk); (try clear hi)) | ((with_reducible refine gate_callee (f := 16) rfl ?_); refine goesL_ (some 20) rfl rfl Try.func16 (by kernel_rfl) rfl #[.int .u64 (IntKind.u64.wrap (1 + (Int.tmod a0 2147483648)))] rfl (by (try simp only [List.map_toArray, List.map_cons, List.map_nil]); first | done | rfl | (simp only [List.length_drop, List.length_take]; rfl)) ?_; (with_reducible refine (dense_Log2.calls k (IntKind.u64.wrap (1 + (Int.tmod a0 2147483648))) t195 _ A6.out).mono ?_); rintro e w' ⟨rfl, ⟨nd, rfl⟩⟩; refine ⟨_, rfl, ?_⟩) | ((with_reducible refine gate_callee (f := 16) rfl ?_); refine goesL_ (some 22) rfl rfl Try.func16 (by kernel_rfl) rfl #[.int .u64 (IntKind.u64.wrap (1 + (Int.tmod a1 2147483648)))] rfl (by (try simp only [List.map_toArray, List.map_cons, List.map_nil]); first | done | rfl | (simp only [List.length_drop, List.length_take]; rfl)) ?_; (with_reducible refine (dense_Log2.calls k (IntKind.u64.wrap (1 + (Int.tmod a1 2147483648))) t196 _ A7.out).mono ?_); rintro e w' ⟨rfl, ⟨nd, rfl⟩⟩; refine ⟨_, rfl, ?_⟩) | ((with_reducible refine gate_callee (f := 17) rfl ?_); refine goesL_ (some 24) rfl rfl Try.func17 (by kernel_rfl) rfl #[.int .i64 a2, .int .i64 64] rfl (by (try simp only [List.map_toArray, List.map_cons, List.map_nil]); first | done | rfl | (simp only [List.length_drop, List.length_take]; rfl)) ?_; (with_reducible refine (tallymankit_Pick.calls a2 64 t197 _ A8.out).mono ?_); rintro e w' ⟨rfl, ⟨nd, rfl⟩⟩; refine ⟨_, rfl, ?_⟩) | ((with_reducible refine gate_callee (f := 16) rfl ?_); refine goesL_ (some 28) rfl rfl Try.func16 (by kernel_rfl) rfl #[.int .u64 (IntKind.u64.wrap ((IntKind.u64.wrap (1 + (Int.tmod a0 2147483648))) * (IntKind.u64.wrap (1 + (Int.tmod a1 2147483648)))))] rfl (by (try simp only [List.map_toArray, List.map_cons, List.map_nil]); first | done | rfl | (simp only [List.length_drop, List.length_take]; rfl)) ?_; (with_reducible refine (dense_Log2.calls k (IntKind.u64.wrap ((IntKind.u64.wrap (1 + (Int.tmod a0 2147483648))) * (IntKind.u64.wrap (1 + (Int.tmod a1 2147483648))))) t198 _ A9.out).mono ?_); rintro e w' ⟨rfl, ⟨nd, rfl⟩⟩; refine ⟨_, rfl, ?_⟩) | (go_at_call 16; (with_reducible refine (dense_Log2.calls k (IntKind.u64.wrap (2 * (IntKind.u64.wrap (1 + (Int.tmod a0 2147483648))))) t205 _ A49.out).mono ?_); rintro e w' ⟨rfl, ⟨nd, rfl⟩⟩) | (go_at_call 16; (with_reducible refine (dense_Log2.calls k ji55 t206 _ A56.out).mono ?_); rintro e w' ⟨rfl, ⟨nd, rfl⟩⟩))
                        go_ret
                        exact ⟨by first | rfl | (simp [errW_none, errW_some] <;> rfl) | (simp only [← hji53, ← hji55]; first | rfl | (simp [errW_none, errW_some] <;> rfl)) | (simp [*, errW_none, errW_some] <;> rfl), by repeat (first | (with_reducible first | exact HB.out | apply below_alloc | apply pw_below_drewN | apply below_drew1) | exact HB.out)⟩
                      · rw [if_neg c58] at H
                        exact absurd H (by simp)
                    · rw [if_neg c57] at H
                      exact absurd H (by simp)
                  · rw [if_neg c54] at H
                    exact absurd H (by simp)
                · rw [if_neg c52] at H
                  exact absurd H (by simp)
              · rw [if_neg c51] at H
                exact absurd H (by simp)
            · rw [if_neg c50] at H
              exact absurd H (by simp)
          · rw [if_neg c48] at H
            exact absurd H (by simp)
      · rw [if_neg c35] at H
        exact absurd H (by simp)
  · replace c5 := Bool.eq_false_iff.mpr c5
    subst c5
    have H1 : (none) = some r := by rw [if_neg (show ¬ (false = true) by decide)] at H; exact H
    clear H
    have H := H1
    clear H1
    exact absurd H (by simp)

/-- THE ONE PURE STATEMENT of tallymanlaw15_DenseLogs: yours. -/
def tallymanlaw15_DenseLogs.Pure : Prop := ∀ (a0 : Int) (a1 : Int) (a2 : Int), (Lit.int .u64 a0).wf = true → (Lit.int .u64 a1).wf = true → (Lit.int .i64 a2).wf = true → ∃ k, tallymanlaw15_DenseLogs.f k a0 a1 a2 = some true
theorem tallymanlaw15_DenseLogs.walk (P : tallymanlaw15_DenseLogs.Pure) (a0 : Int) (a1 : Int) (a2 : Int) (w : World) (w0 : (Lit.int .u64 a0).wf = true) (w1 : (Lit.int .u64 a1).wf = true) (w2 : (Lit.int .i64 a2).wf = true) :
    Calls Try.prog 3 #[.int .u64 a0, .int .u64 a1, .int .i64 a2] w fun e w' => e = .returned (.bool true) ∧ Below w.heap.size w w' := by
  obtain ⟨k, h⟩ := P a0 a1 a2 w0 w1 w2
  refine (tallymanlaw15_DenseLogs.calls k a0 a1 a2 true w h).mono ?_
  rintro e w' ⟨rfl, hd⟩
  exact ⟨rfl, hd⟩

end Go.Proofs.Ytbclnjinpcfpjaa.H
