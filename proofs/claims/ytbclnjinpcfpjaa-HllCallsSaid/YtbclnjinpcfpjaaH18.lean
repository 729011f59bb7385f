-- Made by this session's own call of the printer (functions that are proved by hand are taken from a text beside it).
import Derived.Test.YtbclnjinpcfpjaaH0
import Derived.Test.YtbclnjinpcfpjaaH13
import Derived.Test.YtbclnjinpcfpjaaH15
namespace Go.Proofs.Ytbclnjinpcfpjaa.H
open Go.RowKit Go.Proofs.YtbclnjinpcfpjaaW.PrintWords Go.Proofs.YtbclnjinpcfpjaaW.PrintLast Go.Proofs.YtbclnjinpcfpjaaW.PrintMore
attribute [local go_sem] max2_int min2_int max_two min_two max_three min_three max_four min_four   -- for this text's walks alone
set_option linter.unusedVariables false
set_option linter.unusedSimpArgs false

/-! ### tallymanref14_Fold: function 46 -/
mutual
def tallymanref14_Fold.j0 : Nat → Int → Bool → Int → List (S32) → Option (Int × (List (S32)) × Int)
  | 0, _, _, _, _ => none
  | k + 1, x1, x26, x619000, x619001 => if x26 = true then (some (0, ([] : List (S32)), 2)) else (if 0 ≤ (IntKind.u64.wrap (x1)) then (if 0 ≤ (shl .i64 1 (IntKind.u64.wrap (x1))) then (if (shl .i64 1 (IntKind.u64.wrap (x1)) : Int).toNat ≤ 35184372088832 then (tallymanref14_Fold.l0 k x1 (List.replicate (shl .i64 1 (IntKind.u64.wrap (x1)) : Int).toNat 0) (wrap64 (x619000 - x1)) 0 x619000 x619001) else (none)) else (none)) else (none))
def tallymanref14_Fold.l0 : Nat → Int → List Int → Int → Int → Int → List (S32) → Option (Int × (List (S32)) × Int)
  | 0, _, _, _, _, _, _ => none
  | k + 1, x1, x6, x7, x8, x619000, x619001 => if x8 < (x619001.length : Int) then (if 0 ≤ x8 then (if 0 ≤ (IntKind.u64.wrap (x7)) then (if (shl .i64 1 (IntKind.u64.wrap (x7))) = 0 then (none) else (if (Int.tmod ((rd_T32 x619001 x8).f0) (shl .i64 1 (IntKind.u64.wrap (x7)))) = 0 then (if 0 ≤ (shr .i64 ((rd_T32 x619001 x8).f0) (IntKind.u64.wrap (x7))) then (if (shr .i64 ((rd_T32 x619001 x8).f0) (IntKind.u64.wrap (x7))) < (x6.length : Int) then (tallymanref14_Fold.l0 k x1 (x6.set ((shr .i64 ((rd_T32 x619001 x8).f0) (IntKind.u64.wrap (x7))) : Int).toNat (mx (rd x6 (shr .i64 ((rd_T32 x619001 x8).f0) (IntKind.u64.wrap (x7)))) (wrap64 (((rd_T32 x619001 x8).f1) + x7)))) x7 (wrap64 (x8 + 1)) x619000 x619001) else (none)) else (none)) else (tallymanref14_Fold.l1 k x1 x6 x7 x8 (Int.tmod ((rd_T32 x619001 x8).f0) (shl .i64 1 (IntKind.u64.wrap (x7)))) 1 (wrap64 (x7 - 1)) x619000 x619001 ((rd_T32 x619001 x8).f0) ((rd_T32 x619001 x8).f1)))) else (none)) else (none)) else ((tallymanref14_of.f k x1 x6).bind fun bt624 => (some (bt624.1, bt624.2, 0)))
def tallymanref14_Fold.l1 : Nat → Int → List Int → Int → Int → Int → Int → Int → Int → List (S32) → Int → Int → Option (Int × (List (S32)) × Int)
  | 0, _, _, _, _, _, _, _, _, _, _, _ => none
  | k + 1, x1, x6, x7, x8, x10, x11, x12, x619000, x619001, x630000, x630001 => if 0 ≤ (IntKind.u64.wrap (x12)) then (if (Int.tmod (shr .i64 x10 (IntKind.u64.wrap (x12))) 2) = 0 then (tallymanref14_Fold.l1 k x1 x6 x7 x8 x10 (wrap64 (x11 + 1)) (wrap64 (x12 - 1)) x619000 x619001 x630000 x630001) else (if 0 ≤ (IntKind.u64.wrap (x7)) then (if 0 ≤ (shr .i64 x630000 (IntKind.u64.wrap (x7))) then (if (shr .i64 x630000 (IntKind.u64.wrap (x7))) < (x6.length : Int) then (tallymanref14_Fold.l0 k x1 (x6.set ((shr .i64 x630000 (IntKind.u64.wrap (x7))) : Int).toNat (mx (rd x6 (shr .i64 x630000 (IntKind.u64.wrap (x7)))) x11)) x7 (wrap64 (x8 + 1)) x619000 x619001) else (none)) else (none)) else (none))) else (none)
end
def tallymanref14_Fold.f (k : Nat) (a0_0 : Int) (l0_1 : List (S32)) (a1 : Int) : Option (Int × (List (S32)) × Int) := (tallymanref14_Check.f k a0_0 l0_1).bind fun t620 => (if t620 = 0 then (if a1 < 4 then (tallymanref14_Fold.j0 k a1 true a0_0 l0_1) else (tallymanref14_Fold.j0 k a1 (decide (a1 > a0_0)) a0_0 l0_1)) else (tallymanref14_Fold.j0 k a1 true a0_0 l0_1))
theorem tallymanref14_Fold.mono_l : ∀ k, (∀ y0 y1 y2 y3, LeO (tallymanref14_Fold.j0 k y0 y1 y2 y3) (tallymanref14_Fold.j0 (k + 1) y0 y1 y2 y3)) ∧ (∀ y0 y1 y2 y3 y4 y5, LeO (tallymanref14_Fold.l0 k y0 y1 y2 y3 y4 y5) (tallymanref14_Fold.l0 (k + 1) y0 y1 y2 y3 y4 y5)) ∧ (∀ y0 y1 y2 y3 y4 y5 y6 y7 y8 y9 y10, LeO (tallymanref14_Fold.l1 k y0 y1 y2 y3 y4 y5 y6 y7 y8 y9 y10) (tallymanref14_Fold.l1 (k + 1) y0 y1 y2 y3 y4 y5 y6 y7 y8 y9 y10))
  | 0 => ⟨fun _ _ _ _ r h => by simp [tallymanref14_Fold.j0] at h, fun _ _ _ _ _ _ r h => by simp [tallymanref14_Fold.l0] at h, fun _ _ _ _ _ _ _ _ _ _ _ r h => by simp [tallymanref14_Fold.l1] at h⟩
  | k + 1 => by
    obtain ⟨ih0, ih1, ih2⟩ := tallymanref14_Fold.mono_l k
    refine ⟨?_, ?_, ?_⟩
    · intro y0 y1 y2 y3
      unfold tallymanref14_Fold.j0
      repeat' first
      | (with_reducible exact ih0 _ _ _ _)
      | (with_reducible exact ih1 _ _ _ _ _ _)
      | (with_reducible exact ih2 _ _ _ _ _ _ _ _ _ _ _)
      | (with_reducible exact tallymanref14_Check.mono _ _ _)
      | (with_reducible exact tallymanref14_of.mono _ _ _)
      | (with_reducible exact LeO.refl _)
      | (with_reducible exact LeO.none _)
      | (with_reducible refine LeO.ite ?_ ?_)
      | (with_reducible refine LeO.bind ?_ (fun _ => ?_))
      | exact ih0 _ _ _ _
      | exact ih1 _ _ _ _ _ _
      | exact ih2 _ _ _ _ _ _ _ _ _ _ _
      | exact tallymanref14_Check.mono _ _ _
      | exact tallymanref14_of.mono _ _ _
      | exact LeO.none _
      | refine LeO.ite ?_ ?_
      | refine LeO.bind ?_ (fun _ => ?_)
    · intro y0 y1 y2 y3 y4 y5
      unfold tallymanref14_Fold.l0
      repeat' first
      | (with_reducible exact ih0 _ _ _ _)
      | (with_reducible exact ih1 _ _ _ _ _ _)
      | (with_reducible exact ih2 _ _ _ _ _ _ _ _ _ _ _)
      | (with_reducible exact tallymanref14_Check.mono _ _ _)
      | (with_reducible exact tallymanref14_of.mono _ _ _)
      | (with_reducible exact LeO.refl _)
      | (with_reducible exact LeO.none _)
      | (with_reducible refine LeO.ite ?_ ?_)
      | (with_reducible refine LeO.bind ?_ (fun _ => ?_))
      | exact ih0 _ _ _ _
      | exact ih1 _ _ _ _ _ _
      | exact ih2 _ _ _ _ _ _ _ _ _ _ _
      | exact tallymanref14_Check.mono _ _ _
      | exact tallymanref14_of.mono _ _ _
      | exact LeO.none _
      | refine LeO.ite ?_ ?_
      | refine LeO.bind ?_ (fun _ => ?_)
    · intro y0 y1 y2 y3 y4 y5 y6 y7 y8 y9 y10
      unfold tallymanref14_Fold.l1
      repeat' first
      | (with_reducible exact ih0 _ _ _ _)
      | (with_reducible exact ih1 _ _ _ _ _ _)
      | (with_reducible exact ih2 _ _ _ _ _ _ _ _ _ _ _)
      | (with_reducible exact tallymanref14_Check.mono _ _ _)
      | (with_reducible exact tallymanref14_of.mono _ _ _)
      | (with_reducible exact LeO.refl _)
      | (with_reducible exact LeO.none _)
      | (with_reducible refine LeO.ite ?_ ?_)
      | (with_reducible refine LeO.bind ?_ (fun _ => ?_))
      | exact ih0 _ _ _ _
      | exact ih1 _ _ _ _ _ _
      | exact ih2 _ _ _ _ _ _ _ _ _ _ _
      | exact tallymanref14_Check.mono _ _ _
      | exact tallymanref14_of.mono _ _ _
      | exact LeO.none _
      | refine LeO.ite ?_ ?_
      | refine LeO.bind ?_ (fun _ => ?_)
theorem tallymanref14_Fold.mono : ∀ a0 a1 a2 k, LeO (tallymanref14_Fold.f k a0 a1 a2) (tallymanref14_Fold.f (k + 1) a0 a1 a2) := by
  intro a0 a1 a2 k
  obtain ⟨ih0, ih1, ih2⟩ := tallymanref14_Fold.mono_l k
  unfold tallymanref14_Fold.f
  repeat' first
      | (with_reducible exact ih0 _ _ _ _)
      | (with_reducible exact ih1 _ _ _ _ _ _)
      | (with_reducible exact ih2 _ _ _ _ _ _ _ _ _ _ _)
      | (with_reducible exact tallymanref14_Check.mono _ _ _)
      | (with_reducible exact tallymanref14_of.mono _ _ _)
      | (with_reducible exact LeO.refl _)
      | (with_reducible exact LeO.none _)
      | (with_reducible refine LeO.ite ?_ ?_)
      | (with_reducible refine LeO.bind ?_ (fun _ => ?_))
      | exact ih0 _ _ _ _
      | exact ih1 _ _ _ _ _ _
      | exact ih2 _ _ _ _ _ _ _ _ _ _ _
      | exact tallymanref14_Check.mono _ _ _
      | exact tallymanref14_of.mono _ _ _
      | exact LeO.none _
      | refine LeO.ite ?_ ?_
      | refine LeO.bind ?_ (fun _ => ?_)
set_option maxHeartbeats 8000000 in
set_option maxRecDepth 100000 in
theorem tallymanref14_Fold.calls (k : Nat) (a0_0 : Int) (A0_1 : Option Addr) (c0_1 : Nat) (l0_1 : List (S32)) (a1 : Int) (r1 : Int) (r2 : List (S32)) (r3 : Int) (w : World) (hr0_1 : Kd.C k32 w A0_1 l0_1.length l0_1) (hc0_1 : l0_1.length ≤ c0_1) (h : tallymanref14_Fold.f k a0_0 l0_1 a1 = some (r1, r2, r3)) :
    Calls Try.prog 46 #[.agg #[.int .i64 a0_0, .slice A0_1 l0_1.length c0_1], .int .i64 a1] w fun e w' => ∃ v1_ : Value, e = .returned (.tuple #[.agg #[.int .i64 r1, v1_], .int .i64 r3]) ∧ Kd.R k32 32 w' w.heap.size (fun _ => True) v1_ r2 ∧ Below w.heap.size w w' := by
  have hu30 := Try.underlying30
  have hu32 := Try.underlying32
  have HR0_1 := Aside0.mk hr0_1
  have HC0_1 := Aside0.mk hc0_1
  clear hr0_1 hc0_1
  have HB := Aside0.mk (Below.refl w.heap.size w)
  have H : ((tallymanref14_Check.f k a0_0 l0_1).bind fun t620 => (if t620 = 0 then (if a1 < 4 then (tallymanref14_Fold.j0 k a1 true a0_0 l0_1) else (tallymanref14_Fold.j0 k a1 (decide (a1 > a0_0)) a0_0 l0_1)) else (tallymanref14_Fold.j0 k a1 true a0_0 l0_1))) = some (r1, r2, r3) := h
  clear h
  have HC3 := Aside0.mk H
  clear H
  go_enter Try.func46, Try.ntmps46
  go_upto_region 1 with (first | ((with_reducible refine gate_dst (N := 2) rfl ?_); refine box_event ?hg (N := 2) ?hd (cs := #[.int .i64 a0_0, .slice A0_1 l0_1.length c0_1]) (t := 30) ?hr ?_; (case hd => rfl); (case hg => rfl); (case hr => first | (go_simp; done) | (go_simp; rfl)); intro gb618 hg w4 hbox hb; have n0_ := Aside0.mk (below_step (by repeat (first | (with_reducible first | exact HB.out | apply below_alloc | apply pw_below_drewN | apply below_drew1) | exact HB.out)) hb); have n1_ := Aside0.mk (hbox); have n2_ := Aside0.mk ((by rw [hg]; exact (below_size (by repeat (first | (with_reducible first | exact HB.out | apply below_alloc | apply pw_below_drewN | apply below_drew1) | exact HB.out))) : w.heap.size ≤ gb618)); have n3_ := Aside0.mk ((by rw [hg]; exact (below_size (by repeat (first | (with_reducible first | exact HB.out | apply below_alloc | apply pw_below_drewN | apply below_drew1) | exact HB.out))) : w.heap.size ≤ gb618)); clear HB; have HB := n0_; have BK618 := n1_; have GW618 := n2_; have GE618 := n3_; clear n0_ n1_ n2_ n3_; clear hb hbox hg) | ((with_reducible refine gate_dst (N := 4) rfl ?_); refine box_event ?hg (N := 4) ?hd (cs := #[.int .i64 0, .slice none 0 0]) (t := 30) ?hr ?_; (case hd => rfl); (case hg => rfl); (case hr => first | (go_simp; done) | (go_simp; rfl)); intro gb619 hg w5 hbox hb; have n0_ := Aside0.mk (blk_below (g := gb618) (o := .cells #[.int .i64 a0_0, .slice A0_1 l0_1.length c0_1] 30 (0, 0)) (by (with_reducible repeat (first | refine blk_drewN ?_ _ | refine blk_drew ?_ | refine blk_alloc ?_ _)); exact BK618.out) hb); have n1_ := Aside0.mk (below_step (by repeat (first | (with_reducible first | exact HB.out | apply below_alloc | apply pw_below_drewN | apply below_drew1 | refine below_set ?_ GE618.out) | exact HB.out)) hb); have n2_ := Aside0.mk (hbox); have n3_ := Aside0.mk ((by rw [hg]; exact (below_size (by repeat (first | (with_reducible first | exact HB.out | apply below_alloc | apply pw_below_drewN | apply below_drew1 | refine below_set ?_ GE618.out) | exact HB.out))) : w.heap.size ≤ gb619)); have n4_ := Aside0.mk ((by rw [hg]; exact (below_size (by repeat (first | (with_reducible first | exact HB.out | apply below_alloc | apply pw_below_drewN | apply below_drew1 | refine below_set ?_ GE618.out) | exact HB.out))) : w.heap.size ≤ gb619)); have n5_ := Aside0.mk ((by rw [hg]; exact Nat.ne_of_lt (blk_lt (g := gb618) (o := .cells #[.int .i64 a0_0, .slice A0_1 l0_1.length c0_1] 30 (0, 0)) (by (with_reducible repeat (first | refine blk_drewN ?_ _ | refine blk_drew ?_ | refine blk_alloc ?_ _)); exact BK618.out)) : gb618 ≠ gb619)); have n6_ := Aside0.mk ((by rw [hg]; exact Nat.ne_of_gt (blk_lt (g := gb618) (o := .cells #[.int .i64 a0_0, .slice A0_1 l0_1.length c0_1] 30 (0, 0)) (by (with_reducible repeat (first | refine blk_drewN ?_ _ | refine blk_drew ?_ | refine blk_alloc ?_ _)); exact BK618.out)) : gb619 ≠ gb618)); clear BK618; clear HB; have BK618 := n0_; have HB := n1_; have BK619 := n2_; have GW619 := n3_; have GE619 := n4_; have NB618_619 := n5_; have NB619_618 := n6_; clear n0_ n1_ n2_ n3_ n4_ n5_ n6_; clear hb hbox hg))
  (try simp only [Act.put, List.setIfInBounds_toArray, List.set_cons_zero, List.set_cons_succ])
  go_cut [26] (fun v26 wc => ∃ (kq : Nat) (x26_2 : Bool), v26 = .bool x26_2 ∧ Aside0 (tallymanref14_Fold.j0 kq a1 x26_2 a0_0 l0_1 = some (r1, r2, r3)) ∧ Aside0 (kq ≤ k) ∧ Aside0 (wc.heap[gb618]? = some (.cells #[.int .i64 a0_0, (.slice A0_1 l0_1.length c0_1)] 30 (0, 0))) ∧ Aside0 (wc.heap[gb619]? = some (.cells #[.int .i64 0, (.slice none 0 0)] 30 (0, 0))) ∧ Aside0 (Below w.heap.size w wc))
  case first =>
    have H := HC3.out
    clear HC3
    replace H := Option.bind_eq_some_iff.mp H
    obtain ⟨t620, A60, H⟩ := H
    replace H : (if t620 = 0 then (if a1 < 4 then (tallymanref14_Fold.j0 k a1 true a0_0 l0_1) else (tallymanref14_Fold.j0 k a1 (decide (a1 > a0_0)) a0_0 l0_1)) else (tallymanref14_Fold.j0 k a1 true a0_0 l0_1)) = some (r1, r2, r3) := H
    have A6 := Aside0.mk A60
    clear A60
    by_cases c7 : t620 = 0
    · rw [if_pos c7] at H
      have c7b0 : (t620 == 0) = true := beq_iff_eq.mpr c7
      have c7b1 : (t620 != 0) = false := bne_eq_false_iff_eq.mpr c7
      clear c7
      (first | rw [c7b0] | (simp only [i64_w, i32_w]; rw [c7b0]) | skip)
      by_cases c8 : a1 < 4
      · rw [if_pos c8] at H
        have c8b0 : decide (a1 < 4) = true := decide_eq_true c8
        clear c8
        have H' := Aside0.mk H
        clear H
        have hnb9 := NB618_619.out
        have hnc9 := NB619_618.out
        have hcz10_0 : w5.cell? ⟨gb618, 0, none⟩ = some (.int .i64 a0_0) := (blk_cell BK618.out 0).trans rfl
        have hcz10_1 : w5.cell? ⟨gb618, 1, none⟩ = some (.slice A0_1 l0_1.length c0_1) := (blk_cell BK618.out 1).trans rfl
        have hfz10_0 := blk_frozen BK618.out 0
        have hfz10_1 := blk_frozen BK618.out 1
        go_wp2_with (first | ((with_reducible refine gate_callee (f := 36) rfl ?_); refine goesL_ (some 15) rfl rfl Try.func36 (by kernel_rfl) rfl #[.agg #[.int .i64 a0_0, .slice A0_1 l0_1.length c0_1]] rfl (by (try simp only [List.map_toArray, List.map_cons, List.map_nil]); first | done | rfl | (simp only [List.length_drop, List.length_take]; rfl)) ?_; (with_reducible refine (tallymanref14_Check.calls k a0_0 _ _ l0_1 t620 _ ?side1 ?side2 A6.out).mono ?_); (case side1 => repeat (first | exact (Kd.C_below HR0_1.out HB.out) | (with_reducible refine Kd.C_alloc ?_ _) | (with_reducible refine Kd.C_drewN ?_ _) | (with_reducible refine Kd.C_drew ?_))); (case side2 => exact HC0_1.out); rintro e w11 ⟨rfl, hb⟩; refine ⟨_, rfl, ?_⟩; have n0_ := Aside0.mk (blk_below (g := gb618) (o := .cells #[.int .i64 a0_0, .slice A0_1 l0_1.length c0_1] 30 (0, 0)) (by (with_reducible repeat (first | refine blk_drewN ?_ _ | refine blk_drew ?_ | refine blk_alloc ?_ _)); exact BK618.out) hb); have n1_ := Aside0.mk (blk_below (g := gb619) (o := .cells #[.int .i64 0, .slice none 0 0] 30 (0, 0)) (by (with_reducible repeat (first | refine blk_drewN ?_ _ | refine blk_drew ?_ | refine blk_alloc ?_ _)); exact BK619.out) hb); have n2_ := Aside0.mk (below_step (by repeat (first | (with_reducible first | exact HB.out | apply below_alloc | apply pw_below_drewN | apply below_drew1 | refine below_set ?_ GE618.out | refine below_set ?_ GE619.out) | exact HB.out)) hb); clear BK618; clear BK619; clear HB; have BK618 := n0_; have BK619 := n1_; have HB := n2_; clear n0_ n1_ n2_; (try clear hb); (try clear hb2); (try clear hk); (try clear hi)))
        go_meet
        case rel => exact ⟨_, (true), (by first | rfl | (simp; done) | (simp [*]; done)), H', ⟨by first | omega | exact Nat.le_refl _⟩, ⟨by (with_reducible repeat (first | refine blk_drewN ?_ _ | refine blk_drew ?_ | refine blk_alloc ?_ _)); exact BK618.out⟩, ⟨by (with_reducible repeat (first | refine blk_drewN ?_ _ | refine blk_drew ?_ | refine blk_alloc ?_ _)); exact BK619.out⟩, ⟨by repeat (first | (with_reducible first | exact HB.out | apply below_alloc | apply pw_below_drewN | apply below_drew1 | refine below_set ?_ GE618.out | refine below_set ?_ GE619.out) | exact HB.out)⟩⟩
      · rw [if_neg c8] at H
        have c8b0 : decide (a1 < 4) = false := decide_eq_false c8
        clear c8
        have H' := Aside0.mk H
        clear H
        have hnb12 := NB618_619.out
        have hnc12 := NB619_618.out
        have hcz13_0 : w5.cell? ⟨gb618, 0, none⟩ = some (.int .i64 a0_0) := (blk_cell BK618.out 0).trans rfl
        have hcz13_1 : w5.cell? ⟨gb618, 1, none⟩ = some (.slice A0_1 l0_1.length c0_1) := (blk_cell BK618.out 1).trans rfl
        have hfz13_0 := blk_frozen BK618.out 0
        have hfz13_1 := blk_frozen BK618.out 1
        go_wp2_with (first | ((with_reducible refine gate_callee (f := 36) rfl ?_); refine goesL_ (some 15) rfl rfl Try.func36 (by kernel_rfl) rfl #[.agg #[.int .i64 a0_0, .slice A0_1 l0_1.length c0_1]] rfl (by (try simp only [List.map_toArray, List.map_cons, List.map_nil]); first | done | rfl | (simp only [List.length_drop, List.length_take]; rfl)) ?_; (with_reducible refine (tallymanref14_Check.calls k a0_0 _ _ l0_1 t620 _ ?side1 ?side2 A6.out).mono ?_); (case side1 => repeat (first | exact (Kd.C_below HR0_1.out HB.out) | (with_reducible refine Kd.C_alloc ?_ _) | (with_reducible refine Kd.C_drewN ?_ _) | (with_reducible refine Kd.C_drew ?_))); (case side2 => exact HC0_1.out); rintro e w14 ⟨rfl, hb⟩; refine ⟨_, rfl, ?_⟩; have n0_ := Aside0.mk (blk_below (g := gb618) (o := .cells #[.int .i64 a0_0, .slice A0_1 l0_1.length c0_1] 30 (0, 0)) (by (with_reducible repeat (first | refine blk_drewN ?_ _ | refine blk_drew ?_ | refine blk_alloc ?_ _)); exact BK618.out) hb); have n1_ := Aside0.mk (blk_below (g := gb619) (o := .cells #[.int .i64 0, .slice none 0 0] 30 (0, 0)) (by (with_reducible repeat (first | refine blk_drewN ?_ _ | refine blk_drew ?_ | refine blk_alloc ?_ _)); exact BK619.out) hb); have n2_ := Aside0.mk (below_step (by repeat (first | (with_reducible first | exact HB.out | apply below_alloc | apply pw_below_drewN | apply below_drew1 | refine below_set ?_ GE618.out | refine below_set ?_ GE619.out) | exact HB.out)) hb); clear BK618; clear BK619; clear HB; have BK618 := n0_; have BK619 := n1_; have HB := n2_; clear n0_ n1_ n2_; (try clear hb); (try clear hb2); (try clear hk); (try clear hi); have hcz15_0 : w14.cell? ⟨gb618, 0, none⟩ = some (.int .i64 a0_0) := (blk_cell BK618.out 0).trans rfl; have hcz15_1 : w14.cell? ⟨gb618, 1, none⟩ = some (.slice A0_1 l0_1.length c0_1) := (blk_cell BK618.out 1).trans rfl; have hfz15_0 := blk_frozen BK618.out 0; have hfz15_1 := blk_frozen BK618.out 1))
        go_meet
        case rel => exact ⟨_, (decide (a1 > a0_0)), (by first | rfl | (simp; done) | (simp [*]; done)), H', ⟨by first | omega | exact Nat.le_refl _⟩, ⟨by (with_reducible repeat (first | refine blk_drewN ?_ _ | refine blk_drew ?_ | refine blk_alloc ?_ _)); exact BK618.out⟩, ⟨by (with_reducible repeat (first | refine blk_drewN ?_ _ | refine blk_drew ?_ | refine blk_alloc ?_ _)); exact BK619.out⟩, ⟨by repeat (first | (with_reducible first | exact HB.out | apply below_alloc | apply pw_below_drewN | apply below_drew1 | refine below_set ?_ GE618.out | refine below_set ?_ GE619.out) | exact HB.out)⟩⟩
    · rw [if_neg c7] at H
      have c7b0 : (t620 == 0) = false := beq_eq_false_iff_ne.mpr c7
      have c7b1 : (t620 != 0) = true := bne_iff_ne.mpr c7
      (first | rw [c7b0] | (simp only [i64_w, i32_w]; rw [c7b0]) | skip)
      have H' := Aside0.mk H
      clear H
      have hnb16 := NB618_619.out
      have hnc16 := NB619_618.out
      have hcz17_0 : w5.cell? ⟨gb618, 0, none⟩ = some (.int .i64 a0_0) := (blk_cell BK618.out 0).trans rfl
      have hcz17_1 : w5.cell? ⟨gb618, 1, none⟩ = some (.slice A0_1 l0_1.length c0_1) := (blk_cell BK618.out 1).trans rfl
      have hfz17_0 := blk_frozen BK618.out 0
      have hfz17_1 := blk_frozen BK618.out 1
      go_wp2_with (first | ((with_reducible refine gate_callee (f := 36) rfl ?_); refine goesL_ (some 15) rfl rfl Try.func36 (by kernel_rfl) rfl #[.agg #[.int .i64 a0_0, .slice A0_1 l0_1.length c0_1]] rfl (by (try simp only [List.map_toArray, List.map_cons, List.map_nil]); first | done | rfl | (simp only [List.length_drop, List.length_take]; rfl)) ?_; (with_reducible refine (tallymanref14_Check.calls k a0_0 _ _ l0_1 t620 _ ?side1 ?side2 A6.out).mono ?_); (case side1 => repeat (first | exact (Kd.C_below HR0_1.out HB.out) | (with_reducible refine Kd.C_alloc ?_ _) | (with_reducible refine Kd.C_drewN ?_ _) | (with_reducible refine Kd.C_drew ?_))); (case side2 => exact HC0_1.out); rintro e w18 ⟨rfl, hb⟩; refine ⟨_, rfl, ?_⟩; have n0_ := Aside0.mk (blk_below (g := gb618) (o := .cells #[.int .i64 a0_0, .slice A0_1 l0_1.length c0_1] 30 (0, 0)) (by (with_reducible repeat (first | refine blk_drewN ?_ _ | refine blk_drew ?_ | refine blk_alloc ?_ _)); exact BK618.out) hb); have n1_ := Aside0.mk (blk_below (g := gb619) (o := .cells #[.int .i64 0, .slice none 0 0] 30 (0, 0)) (by (with_reducible repeat (first | refine blk_drewN ?_ _ | refine blk_drew ?_ | refine blk_alloc ?_ _)); exact BK619.out) hb); have n2_ := Aside0.mk (below_step (by repeat (first | (with_reducible first | exact HB.out | apply below_alloc | apply pw_below_drewN | apply below_drew1 | refine below_set ?_ GE618.out | refine below_set ?_ GE619.out) | exact HB.out)) hb); clear BK618; clear BK619; clear HB; have BK618 := n0_; have BK619 := n1_; have HB := n2_; clear n0_ n1_ n2_; (try clear hb); (try clear hb2); (try clear hk); (try clear hi)))
      go_meet
      case rel => exact ⟨_, (true), (by first | rfl | (simp; done) | (simp [*]; done)), H', ⟨by first | omega | exact Nat.le_refl _⟩, ⟨by (with_reducible repeat (first | refine blk_drewN ?_ _ | refine blk_drew ?_ | refine blk_alloc ?_ _)); exact BK618.out⟩, ⟨by (with_reducible repeat (first | refine blk_drewN ?_ _ | refine blk_drew ?_ | refine blk_alloc ?_ _)); exact BK619.out⟩, ⟨by repeat (first | (with_reducible first | exact HB.out | apply below_alloc | apply pw_below_drewN | apply below_drew1 | refine below_set ?_ GE618.out | refine below_set ?_ GE619.out) | exact HB.out)⟩⟩
  case rest =>
    clear HC3
    try clear c1
    try clear p2
    try clear c3
    try clear c4
    try clear c7
    try clear c7b0
    try clear c7b1
    try clear c8
    try clear c8b0
    try clear c9
    try clear c12
    try clear c16
    try clear hcz10_0
    try clear hcz10_1
    try clear hcz13_0
    try clear hcz13_1
    try clear hcz15_0
    try clear hcz15_1
    try clear hcz17_0
    try clear hcz17_1
    try clear hfz10_0
    try clear hfz10_1
    try clear hfz13_0
    try clear hfz13_1
    try clear hfz15_0
    try clear hfz15_1
    try clear hfz17_0
    try clear hfz17_1
    obtain ⟨kq, x26_2, rfl, HA, HJ2, BK618, BK619, HB⟩ := hcut
    cases kq with
    | zero => exact absurd HA.out (by simp [tallymanref14_Fold.j0])
    | succ kj2 =>
      have H := HA.out
      clear HA
      simp only [tallymanref14_Fold.j0] at H
      by_cases c19 : x26_2 = true
      · subst c19
        have H1 : (some (0, ([] : List (S32)), 2)) = some (r1, r2, r3) := by rw [if_pos rfl] at H; exact H
        clear H
        have H := H1
        clear H1
        simp only [Option.some.injEq, Prod.mk.injEq] at H
        obtain ⟨rfl, rfl, rfl⟩ := H
        have hnb20 := NB619_618.out
        have hnc20 := NB618_619.out
        have hcz21_0 : wc.cell? ⟨gb619, 0, none⟩ = some (.int .i64 0) := (blk_cell BK619.out 0).trans rfl
        have hcz21_1 : wc.cell? ⟨gb619, 1, none⟩ = some (.slice none 0 0) := (blk_cell BK619.out 1).trans rfl
        have hfz21_0 := blk_frozen BK619.out 0
        have hfz21_1 := blk_frozen BK619.out 1
        go_wp2
        refine bodyPost_ret (results_ct rfl _ _ gb619 30 #[.int .i64 0, .slice none 0 0] (0, 0) _ rfl (by (with_reducible repeat (first | refine blk_drewN ?_ _ | refine blk_drew ?_ | refine blk_alloc ?_ _)); refine blk_put (cs := #[.int .i64 0, .slice none 0 0]) ?_ 1 _ rfl; (with_reducible repeat (first | refine blk_drewN ?_ _ | refine blk_drew ?_ | refine blk_alloc ?_ _)); refine blk_put (cs := #[.int .i64 0, .slice none 0 0]) ?_ 0 _ rfl; (with_reducible repeat (first | refine blk_drewN ?_ _ | refine blk_drew ?_ | refine blk_alloc ?_ _)); exact BK619.out) Try.underlying30 rfl (by kernel_rfl)) rfl ?_
        exact ⟨_, by first | rfl | (simp [errW_none, errW_some] <;> rfl) | (simp [*, errW_none, errW_some] <;> rfl), by first | exact Kd.R_nil _ _ _ _ _ | exact Kd.N_nil _ _ _ _ _ | exact Kd.V_nil _ _ _ _ _ | exact Kd.Q_nil _ _ _ _ _ | exact Kd.S_nil _ _ _ _ _, by repeat (first | (with_reducible first | exact HB.out | apply below_alloc | apply pw_below_drewN | apply below_drew1 | refine below_set ?_ GE618.out | refine below_set ?_ GE619.out) | exact HB.out)⟩
      · replace c19 := Bool.eq_false_iff.mpr c19
        subst c19
        have H1 : (if 0 ≤ (IntKind.u64.wrap (a1)) then (if 0 ≤ (shl .i64 1 (IntKind.u64.wrap (a1))) then (if (shl .i64 1 (IntKind.u64.wrap (a1)) : Int).toNat ≤ 35184372088832 then (tallymanref14_Fold.l0 kj2 a1 (List.replicate (shl .i64 1 (IntKind.u64.wrap (a1)) : Int).toNat 0) (wrap64 (a0_0 - a1)) 0 a0_0 l0_1) else (none)) else (none)) else (none)) = some (r1, r2, r3) := by rw [if_neg (show ¬ (false = true) by decide)] at H; exact H
        clear H
        have H := H1
        clear H1
        obtain ⟨ji22, hji22⟩ : ∃ j_ : Int, (IntKind.u64.wrap (a1)) = j_ := ⟨_, rfl⟩
        replace H : (if 0 ≤ (ji22) then (if 0 ≤ (shl .i64 1 (ji22)) then (if (shl .i64 1 (ji22) : Int).toNat ≤ 35184372088832 then (tallymanref14_Fold.l0 kj2 a1 (List.replicate (shl .i64 1 (ji22) : Int).toNat 0) (wrap64 (a0_0 - a1)) 0 a0_0 l0_1) else (none)) else (none)) else (none)) = some (r1, r2, r3) := by first | (rw [hji22] at H; exact H) | (simp only [hji22] at H ⊢; exact H)
        by_cases c23 : 0 ≤ (ji22)
        · rw [if_pos c23] at H
          have c23b0 := eq_true c23
          have c23b1 : decide (0 ≤ (ji22)) = true := decide_eq_true c23
          clear c23
          obtain ⟨ji24, hji24⟩ : ∃ j_ : Int, (shl .i64 1 (ji22)) = j_ := ⟨_, rfl⟩
          replace H : (if 0 ≤ (ji24) then (if (ji24 : Int).toNat ≤ 35184372088832 then (tallymanref14_Fold.l0 kj2 a1 (List.replicate (ji24 : Int).toNat 0) (wrap64 (a0_0 - a1)) 0 a0_0 l0_1) else (none)) else (none)) = some (r1, r2, r3) := by first | (rw [hji24] at H; exact H) | (simp only [hji24] at H ⊢; exact H)
          have hji24_ : (IntKind.i64.wrap (1 * 2 ^ min (ji22).toNat 64)) = ji24 := hji24
          have hji24z : (ji22) ≤ 64 → (IntKind.i64.wrap (1 * 2 ^ (ji22).toNat)) = ji24 := shl_small hji24
          have hji24u : (IntKind.i64.wrap (2 ^ min (ji22).toNat 64)) = ji24 := by have h_ := hji24_; rw [Int.one_mul] at h_; exact h_
          have hji24v : (ji22) ≤ 64 → (IntKind.i64.wrap (2 ^ (ji22).toNat)) = ji24 := fun hle_ => by have h_ := hji24z hle_; rw [Int.one_mul] at h_; exact h_
          have hji24y : (wrap64 (1 * 2 ^ min (ji22).toNat 64)) = ji24 := (i64_w _).symm.trans hji24_
          have hji24x : (ji22) ≤ 64 → (wrap64 (1 * 2 ^ (ji22).toNat)) = ji24 := fun h_ => (i64_w _).symm.trans (hji24z h_)
          by_cases c25 : 0 ≤ (ji24)
          · rw [if_pos c25] at H
            have c25b0 := eq_true c25
            have c25b1 : decide (0 ≤ (ji24)) = true := decide_eq_true c25
            clear c25
            by_cases c26 : (ji24 : Int).toNat ≤ 35184372088832
            · rw [if_pos c26] at H
              have c26b0 := eq_true c26
              have c26b1 : decide ((ji24 : Int).toNat ≤ 35184372088832) = true := decide_eq_true c26
              clear c26
              obtain ⟨y621, hy621⟩ : ∃ y_ : List Int, y_ = (List.replicate (ji24 : Int).toNat 0) := ⟨_, rfl⟩
              replace H : (tallymanref14_Fold.l0 kj2 a1 y621 (wrap64 (a0_0 - a1)) 0 a0_0 l0_1) = some (r1, r2, r3) := by first | (rw [hy621]; with_reducible exact H) | (have H2_ := (Option.bind_some _ _).symm.trans H; rw [hy621]; with_reducible exact H2_) | (have H2_ := (Option.bind_some _ _).symm.trans H; with_reducible exact H2_) | with_reducible exact H | (rw [hy621]; exact H) | exact H
              have Ny621 := Aside0.mk hy621
              clear hy621
              have H' := Aside0.mk H
              clear H
              go_wp2_with (first | ((with_reducible refine gate_dst (N := 31) rfl ?_); refine Kd.R_make (Kd.int .i64) _ 3 rfl (N := 31) rfl 58 _ _ rfl ji24 rfl rfl Try.underlying58 (.int .i64 0) 8 info3 rfl (by decide) (by omega) 0 (ok := fun _ => True) (okp := fun _ => True) rfl (fun _ hk => hk) trivial (of_decide_eq_true (by first | (with_reducible assumption) | assumption)) (Nat.le_trans (Nat.mul_le_mul_right _ (of_decide_eq_true (by first | (with_reducible assumption) | assumption) : ji24.toNat ≤ 35184372088832)) (by omega)) (Below.refl _ _) (Nat.le_refl _) ?_; intro v622 w27 ho28 hb hg_ hnew_; clear hg_ hnew_; (first | rw [← Ny621.out] at ho28 | (simp only [Int.reduceToNat] at ho28; rw [← Ny621.out] at ho28)); have n0_ := Aside0.mk (Kd.R_lower ho28 (below_size (by repeat (first | (with_reducible first | exact HB.out | apply below_alloc | apply pw_below_drewN | apply below_drew1 | refine below_set ?_ GE618.out | refine below_set ?_ GE619.out) | exact HB.out)))); have n1_ := Aside0.mk (blk_below (g := gb618) (o := .cells #[.int .i64 a0_0, .slice A0_1 l0_1.length c0_1] 30 (0, 0)) (by (with_reducible repeat (first | refine blk_drewN ?_ _ | refine blk_drew ?_ | refine blk_alloc ?_ _)); exact BK618.out) hb); have n2_ := Aside0.mk (blk_below (g := gb619) (o := .cells #[.int .i64 0, .slice none 0 0] 30 (0, 0)) (by (with_reducible repeat (first | refine blk_drewN ?_ _ | refine blk_drew ?_ | refine blk_alloc ?_ _)); exact BK619.out) hb); have n3_ := Aside0.mk (below_step (by repeat (first | (with_reducible first | exact HB.out | apply below_alloc | apply pw_below_drewN | apply below_drew1 | refine below_set ?_ GE618.out | refine below_set ?_ GE619.out) | exact HB.out)) hb); clear BK618; clear BK619; clear HB; have HO623 := n0_; have BK618 := n1_; have BK619 := n2_; have HB := n3_; clear n0_ n1_ n2_ n3_; clear hb ho28; have hnb29 := NB618_619.out; have hnc29 := NB619_618.out; have hcz30_0 : w27.cell? ⟨gb618, 0, none⟩ = some (.int .i64 a0_0) := (blk_cell BK618.out 0).trans rfl; have hcz30_1 : w27.cell? ⟨gb618, 1, none⟩ = some (.slice A0_1 l0_1.length c0_1) := (blk_cell BK618.out 1).trans rfl; have hfz30_0 := blk_frozen BK618.out 0; have hfz30_1 := blk_frozen BK618.out 1))
              go_loopg [8] kj2 (fun kq v8 w' => ∃ (x6_2 : List Int) (x8_2 : Int), v8 = .int .i64 x8_2 ∧ Aside0 (tallymanref14_Fold.l0 kq a1 x6_2 (wrap64 (a0_0 - a1)) x8_2 a0_0 l0_1 = some (r1, r2, r3)) ∧ Aside0 (kq ≤ kj2) ∧ Aside0 (Kd.R (Kd.int .i64) 3 w' w.heap.size (fun _ => True) v622 x6_2) ∧ Aside0 (w'.heap[gb618]? = some (.cells #[.int .i64 a0_0, (.slice A0_1 l0_1.length c0_1)] 30 (0, 0))) ∧ Aside0 (w'.heap[gb619]? = some (.cells #[.int .i64 0, (.slice none 0 0)] 30 (0, 0))) ∧ Aside0 (Below w.heap.size w w'))
              case atStart => exact ⟨(y621), (0), (by first | rfl | (simp; done) | (simp [*]; done)), H', ⟨Nat.le_refl _⟩, ⟨by (with_reducible repeat (first | apply Kd.R_alloc | apply Kd.R_drewN | apply Kd.R_drew)); exact HO623.out⟩, ⟨by (with_reducible repeat (first | refine blk_drewN ?_ _ | refine blk_drew ?_ | refine blk_alloc ?_ _)); exact BK618.out⟩, ⟨by (with_reducible repeat (first | refine blk_drewN ?_ _ | refine blk_drew ?_ | refine blk_alloc ?_ _)); exact BK619.out⟩, ⟨by repeat (first | (with_reducible first | exact HB.out | apply below_alloc | apply pw_below_drewN | apply below_drew1 | refine below_set ?_ GE618.out | refine below_set ?_ GE619.out) | exact HB.out)⟩⟩
              case round =>
                clear H'
                try clear c1
                try clear c2
                try clear p2
                try clear c3
                try clear c4
                try clear p6
                try clear c7
                try clear c7b0
                try clear c7b1
                try clear c8
                try clear c8b0
                try clear c9
                try clear c12
                try clear c16
                try clear c19
                try clear c20
                try clear c23
                try clear c23b0
                try clear c23b1
                try clear c25
                try clear c25b0
                try clear c25b1
                try clear c26
                try clear c26b0
                try clear c26b1
                try clear c29
                try clear hcz10_0
                try clear hcz10_1
                try clear hcz13_0
                try clear hcz13_1
                try clear hcz15_0
                try clear hcz15_1
                try clear hcz17_0
                try clear hcz17_1
                try clear hcz21_0
                try clear hcz21_1
                try clear hcz30_0
                try clear hcz30_1
                try clear hfz10_0
                try clear hfz10_1
                try clear hfz13_0
                try clear hfz13_1
                try clear hfz15_0
                try clear hfz15_1
                try clear hfz17_0
                try clear hfz17_1
                try clear hfz21_0
                try clear hfz21_1
                try clear hfz30_0
                try clear hfz30_1
                try clear p2
                obtain ⟨x6_2, x8_2, rfl, HA, HK2, HO_6, BK618, BK619, HB⟩ := hrel
                cases gk with
                | zero => exact absurd HA.out (by simp [tallymanref14_Fold.l0])
                | succ k2 =>
                  have H := HA.out
                  clear HA
                  simp only [tallymanref14_Fold.l0] at H
                  by_cases c31 : x8_2 < (l0_1.length : Int)
                  · rw [if_pos c31] at H
                    have c31b0 : decide (x8_2 < (l0_1.length : Int)) = true := decide_eq_true c31
                    clear c31
                    by_cases c32 : 0 ≤ x8_2
                    · rw [if_pos c32] at H
                      have c32b0 : decide (0 ≤ x8_2) = true := decide_eq_true c32
                      clear c32
                      obtain ⟨ji33, hji33⟩ : ∃ j_ : Int, (IntKind.u64.wrap ((wrap64 (a0_0 - a1)))) = j_ := ⟨_, rfl⟩
                      replace H : (if 0 ≤ (ji33) then (if (shl .i64 1 (ji33)) = 0 then (none) else (if (Int.tmod ((rd_T32 l0_1 x8_2).f0) (shl .i64 1 (ji33))) = 0 then (if 0 ≤ (shr .i64 ((rd_T32 l0_1 x8_2).f0) (ji33)) then (if (shr .i64 ((rd_T32 l0_1 x8_2).f0) (ji33)) < (x6_2.length : Int) then (tallymanref14_Fold.l0 k2 a1 (x6_2.set ((shr .i64 ((rd_T32 l0_1 x8_2).f0) (ji33)) : Int).toNat (mx (rd x6_2 (shr .i64 ((rd_T32 l0_1 x8_2).f0) (ji33))) (wrap64 (((rd_T32 l0_1 x8_2).f1) + (wrap64 (a0_0 - a1)))))) (wrap64 (a0_0 - a1)) (wrap64 (x8_2 + 1)) a0_0 l0_1) else (none)) else (none)) else (tallymanref14_Fold.l1 k2 a1 x6_2 (wrap64 (a0_0 - a1)) x8_2 (Int.tmod ((rd_T32 l0_1 x8_2).f0) (shl .i64 1 (ji33))) 1 (wrap64 ((wrap64 (a0_0 - a1)) - 1)) a0_0 l0_1 ((rd_T32 l0_1 x8_2).f0) ((rd_T32 l0_1 x8_2).f1)))) else (none)) = some (r1, r2, r3) := by first | (rw [hji33] at H; exact H) | (simp only [hji33] at H ⊢; exact H)
                      by_cases c34 : 0 ≤ (ji33)
                      · rw [if_pos c34] at H
                        have c34b0 := eq_true c34
                        have c34b1 : decide (0 ≤ (ji33)) = true := decide_eq_true c34
                        clear c34
                        obtain ⟨ji35, hji35⟩ : ∃ j_ : Int, (shl .i64 1 (ji33)) = j_ := ⟨_, rfl⟩
                        replace H : (if (ji35) = 0 then (none) else (if (Int.tmod ((rd_T32 l0_1 x8_2).f0) (ji35)) = 0 then (if 0 ≤ (shr .i64 ((rd_T32 l0_1 x8_2).f0) (ji33)) then (if (shr .i64 ((rd_T32 l0_1 x8_2).f0) (ji33)) < (x6_2.length : Int) then (tallymanref14_Fold.l0 k2 a1 (x6_2.set ((shr .i64 ((rd_T32 l0_1 x8_2).f0) (ji33)) : Int).toNat (mx (rd x6_2 (shr .i64 ((rd_T32 l0_1 x8_2).f0) (ji33))) (wrap64 (((rd_T32 l0_1 x8_2).f1) + (wrap64 (a0_0 - a1)))))) (wrap64 (a0_0 - a1)) (wrap64 (x8_2 + 1)) a0_0 l0_1) else (none)) else (none)) else (tallymanref14_Fold.l1 k2 a1 x6_2 (wrap64 (a0_0 - a1)) x8_2 (Int.tmod ((rd_T32 l0_1 x8_2).f0) (ji35)) 1 (wrap64 ((wrap64 (a0_0 - a1)) - 1)) a0_0 l0_1 ((rd_T32 l0_1 x8_2).f0) ((rd_T32 l0_1 x8_2).f1)))) = some (r1, r2, r3) := by first | (rw [hji35] at H; exact H) | (simp only [hji35] at H ⊢; exact H)
                        have hji35_ : (IntKind.i64.wrap (1 * 2 ^ min (ji33).toNat 64)) = ji35 := hji35
                        have hji35z : (ji33) ≤ 64 → (IntKind.i64.wrap (1 * 2 ^ (ji33).toNat)) = ji35 := shl_small hji35
                        have hji35u : (IntKind.i64.wrap (2 ^ min (ji33).toNat 64)) = ji35 := by have h_ := hji35_; rw [Int.one_mul] at h_; exact h_
                        have hji35v : (ji33) ≤ 64 → (IntKind.i64.wrap (2 ^ (ji33).toNat)) = ji35 := fun hle_ => by have h_ := hji35z hle_; rw [Int.one_mul] at h_; exact h_
                        have hji35y : (wrap64 (1 * 2 ^ min (ji33).toNat 64)) = ji35 := (i64_w _).symm.trans hji35_
                        have hji35x : (ji33) ≤ 64 → (wrap64 (1 * 2 ^ (ji33).toNat)) = ji35 := fun h_ => (i64_w _).symm.trans (hji35z h_)
                        by_cases c36 : (ji35) = 0
                        · rw [if_pos c36] at H
                          exact absurd H (by simp)
                        · rw [if_neg c36] at H
                          have c36b0 : ((ji35) == 0) = false := beq_eq_false_iff_ne.mpr c36
                          have c36b1 : ((ji35) != 0) = true := bne_iff_ne.mpr c36
                          by_cases c37 : (Int.tmod ((rd_T32 l0_1 x8_2).f0) (ji35)) = 0
                          · rw [if_pos c37] at H
                            have c37b0 : ((Int.tmod ((rd_T32 l0_1 x8_2).f0) (ji35)) == 0) = true := beq_iff_eq.mpr c37
                            have c37b1 : ((Int.tmod ((rd_T32 l0_1 x8_2).f0) (ji35)) != 0) = false := bne_eq_false_iff_eq.mpr c37
                            clear c37
                            have c38b0 := eq_true (of_decide_eq_true (by first | (with_reducible assumption) | assumption) : 0 ≤ (ji33))
                            obtain ⟨ji39, hji39⟩ : ∃ j_ : Int, (shr .i64 ((rd_T32 l0_1 x8_2).f0) (ji33)) = j_ := ⟨_, rfl⟩
                            replace H : (if 0 ≤ (ji39) then (if (ji39) < (x6_2.length : Int) then (tallymanref14_Fold.l0 k2 a1 (x6_2.set ((ji39) : Int).toNat (mx (rd x6_2 (ji39)) (wrap64 (((rd_T32 l0_1 x8_2).f1) + (wrap64 (a0_0 - a1)))))) (wrap64 (a0_0 - a1)) (wrap64 (x8_2 + 1)) a0_0 l0_1) else (none)) else (none)) = some (r1, r2, r3) := by first | (rw [hji39] at H; exact H) | (simp only [hji39] at H ⊢; exact H)
                            have hji39_ : (((rd_T32 l0_1 x8_2).f0) / 2 ^ min (ji33).toNat 64) = ji39 := hji39
                            have hji39z : (ji33) ≤ 64 → (((rd_T32 l0_1 x8_2).f0) / 2 ^ (ji33).toNat) = ji39 := shr_small hji39
                            by_cases c40 : 0 ≤ (ji39)
                            · rw [if_pos c40] at H
                              have c40b0 : decide (0 ≤ (ji39)) = true := decide_eq_true c40
                              clear c40
                              by_cases c41 : (ji39) < (x6_2.length : Int)
                              · rw [if_pos c41] at H
                                have c41b0 : decide ((ji39) < (x6_2.length : Int)) = true := decide_eq_true c41
                                clear c41
                                obtain ⟨ji42, hji42⟩ : ∃ j_ : Int, (mx (rd x6_2 (ji39)) (wrap64 (((rd_T32 l0_1 x8_2).f1) + (wrap64 (a0_0 - a1))))) = j_ := ⟨_, rfl⟩
                                replace H : (tallymanref14_Fold.l0 k2 a1 (x6_2.set ((ji39) : Int).toNat (ji42)) (wrap64 (a0_0 - a1)) (wrap64 (x8_2 + 1)) a0_0 l0_1) = some (r1, r2, r3) := by first | (rw [hji42] at H; exact H) | (simp only [hji42] at H ⊢; exact H)
                                have hji42_ : (if (rd x6_2 (ji39)) < (wrap64 (((rd_T32 l0_1 x8_2).f1) + (wrap64 (a0_0 - a1)))) then (wrap64 (((rd_T32 l0_1 x8_2).f1) + (wrap64 (a0_0 - a1)))) else (rd x6_2 (ji39))) = ji42 := hji42
                                obtain ⟨y631, hy631⟩ : ∃ y_ : List Int, y_ = (x6_2.set ((ji39) : Int).toNat (ji42)) := ⟨_, rfl⟩
                                replace H : (tallymanref14_Fold.l0 k2 a1 y631 (wrap64 (a0_0 - a1)) (wrap64 (x8_2 + 1)) a0_0 l0_1) = some (r1, r2, r3) := by first | (rw [hy631]; with_reducible exact H) | (have H2_ := (Option.bind_some _ _).symm.trans H; rw [hy631]; with_reducible exact H2_) | (have H2_ := (Option.bind_some _ _).symm.trans H; with_reducible exact H2_) | with_reducible exact H | (rw [hy631]; exact H) | exact H
                                have Ny631 := Aside0.mk hy631
                                clear hy631
                                have H' := Aside0.mk H
                                clear H
                                have hnb44 := NB618_619.out
                                have hnc44 := NB619_618.out
                                have hcz45_0 : wr.cell? ⟨gb618, 0, none⟩ = some (.int .i64 a0_0) := (blk_cell BK618.out 0).trans rfl
                                have hcz45_1 : wr.cell? ⟨gb618, 1, none⟩ = some (.slice A0_1 l0_1.length c0_1) := (blk_cell BK618.out 1).trans rfl
                                have hfz45_0 := blk_frozen BK618.out 0
                                have hfz45_1 := blk_frozen BK618.out 1
                                have p628 : 0 ≤ (x8_2 : Int) := of_decide_eq_true (by first | (with_reducible assumption) | assumption)
                                have q628 : x8_2 < (l0_1.length : Int) := of_decide_eq_true (by first | (with_reducible assumption) | assumption)
                                obtain ⟨ad628, e628, hx628_0, hx628_1⟩ := at_T32 HR0_1.out x8_2 p628 q628
                                cases e628
                                replace hx628_0 := (HB.out.cell (World.block_lt_of_cell? w _ hx628_0)).trans hx628_0
                                replace hx628_1 := (HB.out.cell (World.block_lt_of_cell? w _ hx628_1)).trans hx628_1
                                replace p628 := eq_true p628
                                replace q628 := eq_true q628
                                go_wp2_with (first | ((with_reducible refine gate_dst (N := 9) rfl ?_); refine box_event ?hg (N := 9) ?hd (cs := #[.int .i64 0, .int .i64 0]) (t := 32) ?hr ?_; (case hd => rfl); (case hg => rfl); (case hr => first | (go_simp; done) | (go_simp; rfl)); intro gb629 hg w46 hbox hb; have n0_ := Aside0.mk (Kd.R_below (by (with_reducible repeat (first | apply Kd.R_alloc | apply Kd.R_drewN | apply Kd.R_drew)); exact HO_6.out) hb); have n1_ := Aside0.mk (blk_below (g := gb618) (o := .cells #[.int .i64 a0_0, .slice (some ad628) l0_1.length c0_1] 30 (0, 0)) (by (with_reducible repeat (first | refine blk_drewN ?_ _ | refine blk_drew ?_ | refine blk_alloc ?_ _)); exact BK618.out) hb); have n2_ := Aside0.mk (blk_below (g := gb619) (o := .cells #[.int .i64 0, .slice none 0 0] 30 (0, 0)) (by (with_reducible repeat (first | refine blk_drewN ?_ _ | refine blk_drew ?_ | refine blk_alloc ?_ _)); exact BK619.out) hb); have n3_ := Aside0.mk (below_step (by repeat (first | (with_reducible first | exact HB.out | apply below_alloc | apply pw_below_drewN | apply below_drew1 | refine below_set ?_ GE618.out | refine below_set ?_ GE619.out) | exact HB.out)) hb); have n4_ := Aside0.mk (hbox); have n5_ := Aside0.mk ((by rw [hg]; exact (below_size (by repeat (first | (with_reducible first | exact HB.out | apply below_alloc | apply pw_below_drewN | apply below_drew1 | refine below_set ?_ GE618.out | refine below_set ?_ GE619.out) | exact HB.out))) : w.heap.size ≤ gb629)); have n6_ := Aside0.mk ((by rw [hg]; exact (below_size (by repeat (first | (with_reducible first | exact HB.out | apply below_alloc | apply pw_below_drewN | apply below_drew1 | refine below_set ?_ GE618.out | refine below_set ?_ GE619.out) | exact HB.out))) : w.heap.size ≤ gb629)); have n7_ := Aside0.mk ((by rw [hg]; exact Nat.ne_of_lt (blk_lt (g := gb618) (o := .cells #[.int .i64 a0_0, .slice (some ad628) l0_1.length c0_1] 30 (0, 0)) (by (with_reducible repeat (first | refine blk_drewN ?_ _ | refine blk_drew ?_ | refine blk_alloc ?_ _)); exact BK618.out)) : gb618 ≠ gb629)); have n8_ := Aside0.mk ((by rw [hg]; exact Nat.ne_of_gt (blk_lt (g := gb618) (o := .cells #[.int .i64 a0_0, .slice (some ad628) l0_1.length c0_1] 30 (0, 0)) (by (with_reducible repeat (first | refine blk_drewN ?_ _ | refine blk_drew ?_ | refine blk_alloc ?_ _)); exact BK618.out)) : gb629 ≠ gb618)); have n9_ := Aside0.mk ((by rw [hg]; exact Nat.ne_of_lt (blk_lt (g := gb619) (o := .cells #[.int .i64 0, .slice none 0 0] 30 (0, 0)) (by (with_reducible repeat (first | refine blk_drewN ?_ _ | refine blk_drew ?_ | refine blk_alloc ?_ _)); exact BK619.out)) : gb619 ≠ gb629)); have n10_ := Aside0.mk ((by rw [hg]; exact Nat.ne_of_gt (blk_lt (g := gb619) (o := .cells #[.int .i64 0, .slice none 0 0] 30 (0, 0)) (by (with_reducible repeat (first | refine blk_drewN ?_ _ | refine blk_drew ?_ | refine blk_alloc ?_ _)); exact BK619.out)) : gb629 ≠ gb619)); clear HO_6; clear BK618; clear BK619; clear HB; have HO_6 := n0_; have BK618 := n1_; have BK619 := n2_; have HB := n3_; have BK629 := n4_; have GW629 := n5_; have GE629 := n6_; have NB618_629 := n7_; have NB629_618 := n8_; have NB619_629 := n9_; have NB629_619 := n10_; clear n0_ n1_ n2_ n3_ n4_ n5_ n6_ n7_ n8_ n9_ n10_; clear hb hbox hg; have hnb47 := NB629_618.out; have hnc47 := NB618_629.out; have hnb48 := NB629_619.out; have hnc48 := NB619_629.out; have hcz49_0 : w46.cell? ⟨gb629, 0, none⟩ = some (.int .i64 0) := (blk_cell BK629.out 0).trans rfl; have hcz49_1 : w46.cell? ⟨gb629, 1, none⟩ = some (.int .i64 0) := (blk_cell BK629.out 1).trans rfl; have hfz49_0 := blk_frozen BK629.out 0; have hfz49_1 := blk_frozen BK629.out 1) | ((with_reducible refine gate_store (t := 32) (p := 9) rfl ?_); refine store_event (t := 32) (p := 9) (v := ?vo_w50) (w1 := ((w46.setCell ⟨gb629, 0, none⟩ (.int .i64 ((rd_T32 l0_1 x8_2).f0))).setCell ⟨gb629, 1, none⟩ (.int .i64 ((rd_T32 l0_1 x8_2).f1)))) ?hg ?ho ?hn ?hr ?_; (case ho => rfl); (case hg => rfl); (case hn => rfl); (case hr => first | (go_simp; done) | (go_simp; rfl)); intro w50 hw; have n0_ : Aside0 (Kd.R (Kd.int .i64) 3 w50 w.heap.size (fun _ => True) v622 x6_2) := ⟨(by rw [hw]; exact (by (with_reducible repeat (first | apply Kd.R_alloc | apply Kd.R_drewN | apply Kd.R_drew)); exact Kd.R_mono (Kd.R_far (p := ⟨gb629, 1, none⟩) (Kd.R_far (p := ⟨gb629, 0, none⟩) (Kd.R_types HO_6.out BK629.out (by decide)) (fun _ hk => hk.2) (.int .i64 ((rd_T32 l0_1 x8_2).f0))) (fun _ hk => hk.2) (.int .i64 ((rd_T32 l0_1 x8_2).f1))) (fun _ hk => trivial)))⟩; have n1_ : Aside0 (w50.heap[gb618]? = some (.cells #[.int .i64 a0_0, .slice (some ad628) l0_1.length c0_1] 30 (0, 0))) := ⟨(by rw [hw]; exact (by (with_reducible repeat (first | refine blk_drewN ?_ _ | refine blk_drew ?_ | refine blk_alloc ?_ _)); refine blk_far ?_ NB618_629.out _; (with_reducible repeat (first | refine blk_drewN ?_ _ | refine blk_drew ?_ | refine blk_alloc ?_ _)); refine blk_far ?_ NB618_629.out _; (with_reducible repeat (first | refine blk_drewN ?_ _ | refine blk_drew ?_ | refine blk_alloc ?_ _)); exact BK618.out))⟩; have n2_ : Aside0 (w50.heap[gb619]? = some (.cells #[.int .i64 0, .slice none 0 0] 30 (0, 0))) := ⟨(by rw [hw]; exact (by (with_reducible repeat (first | refine blk_drewN ?_ _ | refine blk_drew ?_ | refine blk_alloc ?_ _)); refine blk_far ?_ NB619_629.out _; (with_reducible repeat (first | refine blk_drewN ?_ _ | refine blk_drew ?_ | refine blk_alloc ?_ _)); refine blk_far ?_ NB619_629.out _; (with_reducible repeat (first | refine blk_drewN ?_ _ | refine blk_drew ?_ | refine blk_alloc ?_ _)); exact BK619.out))⟩; have n3_ : Aside0 (w50.heap[gb629]? = some (.cells #[.int .i64 ((rd_T32 l0_1 x8_2).f0), .int .i64 ((rd_T32 l0_1 x8_2).f1)] 32 (0, 0))) := ⟨(by rw [hw]; exact (by (with_reducible repeat (first | refine blk_drewN ?_ _ | refine blk_drew ?_ | refine blk_alloc ?_ _)); refine blk_put (cs := #[.int .i64 ((rd_T32 l0_1 x8_2).f0), .int .i64 0]) ?_ 1 _ rfl; (with_reducible repeat (first | refine blk_drewN ?_ _ | refine blk_drew ?_ | refine blk_alloc ?_ _)); refine blk_put (cs := #[.int .i64 0, .int .i64 0]) ?_ 0 _ rfl; (with_reducible repeat (first | refine blk_drewN ?_ _ | refine blk_drew ?_ | refine blk_alloc ?_ _)); exact BK629.out))⟩; have n4_ : Aside0 (Below w.heap.size w w50) := ⟨(by rw [hw]; exact (by repeat (first | (with_reducible first | exact HB.out | apply below_alloc | apply pw_below_drewN | apply below_drew1 | refine below_set ?_ GE618.out | refine below_set ?_ GE619.out | refine below_set ?_ GE629.out) | exact HB.out)))⟩; clear hw; clear HO_6; clear BK618; clear BK619; clear BK629; clear HB; have HO_6 := n0_; have BK618 := n1_; have BK619 := n2_; have BK629 := n3_; have HB := n4_; clear n0_ n1_ n2_ n3_ n4_; have hcz51_0 : w50.cell? ⟨gb629, 0, none⟩ = some (.int .i64 ((rd_T32 l0_1 x8_2).f0)) := (blk_cell BK629.out 0).trans rfl; have hcz51_1 : w50.cell? ⟨gb629, 1, none⟩ = some (.int .i64 ((rd_T32 l0_1 x8_2).f1)) := (blk_cell BK629.out 1).trans rfl; have hfz51_0 := blk_frozen BK629.out 0; have hfz51_1 := blk_frozen BK629.out 1; obtain ⟨Ao52, co52, eo52⟩ := Kd.R_slice HO_6.out; subst eo52; have p630 : 0 ≤ ((ji39) : Int) := of_decide_eq_true (by first | (with_reducible assumption) | assumption); have q630 : (ji39) < (x6_2.length : Int) := of_decide_eq_true (by first | (with_reducible assumption) | assumption); obtain ⟨ad630, e630, hx630_0⟩ := Kd.at_int (Kd.R_reads' HO_6.out).2.2 (ji39) p630 q630; cases e630; replace p630 := eq_true p630; replace q630 := eq_true q630; have p43 : 0 ≤ ((ji39) : Int) := of_decide_eq_true (by first | (with_reducible assumption) | assumption); have q43 : ((ji39) : Int) < ((x6_2.length : Int) : Int) := of_decide_eq_true (by first | (with_reducible assumption) | assumption); obtain ⟨go43, co43, eo43, gb43, gl43, cl43, HG43⟩ := Kd.R_form HO_6.out (by omega); (first | cases eo43 | (injection eo43 with ea_ en_ ec_; (first | subst ea_ | (injection ea_ with ea_; subst ea_)); subst ec_; clear en_)); have GB43 := Aside0.mk gb43; have GG43 := Aside0.mk HG43; clear gb43 gl43 HG43; (first | simp only [add_plain] at hx630_0 | skip); obtain ⟨hx43_0, hf43_0⟩ := Kd.R_celln 0 HO_6.out ((ji39) : Int) p43 q43; replace p43 := eq_true p43; replace q43 := eq_true q43; obtain ⟨hy53_, hz53_⟩ := Kd.R_celln 0 HO_6.out ((ji39) : Int) (of_decide_eq_true (by first | (with_reducible assumption) | assumption)) (of_decide_eq_true (by first | (with_reducible assumption) | assumption)); have HP53 := Kd.R_putg HO_6.out ((ji39) : Int) ji42) | ((with_reducible refine gate_store (t := 3) (p := 85) rfl ?_); refine store_event (t := 3) (p := 85) (v := ?vo_w54) (w1 := (w50.setCell ⟨go43, ((ji39) : Int).toNat, none⟩ (.int .i64 ji42))) ?hg ?ho ?hn ?hr ?_; (case ho => rfl); (case hg => rfl); (case hn => rfl); (case hr => first | (go_simp; done) | (go_simp; rfl)); intro w54 hw; have hg : w50.grownBy w54 (some go43) := (by rw [hw]; exact HP53.2); have hp_ : Kd.R (Kd.int .i64) 3 w54 w.heap.size (fun _ => True) (.slice (some ⟨go43, 0, none⟩) x6_2.length co52) y631 := (by rw [hw, Ny631.out]; exact HP53.1); clear HP53; have n0_ := Aside0.mk (hp_); have n1_ := Aside0.mk (blk_grown (g := gb618) (o := .cells #[.int .i64 a0_0, .slice (some ad628) l0_1.length c0_1] 30 (0, 0)) (by (with_reducible repeat (first | refine blk_drewN ?_ _ | refine blk_drew ?_ | refine blk_alloc ?_ _)); exact BK618.out) hg (Kd.R_ne HO_6.out BK618.out (by decide))); have n2_ := Aside0.mk (blk_grown (g := gb619) (o := .cells #[.int .i64 0, .slice none 0 0] 30 (0, 0)) (by (with_reducible repeat (first | refine blk_drewN ?_ _ | refine blk_drew ?_ | refine blk_alloc ?_ _)); exact BK619.out) hg (Kd.R_ne HO_6.out BK619.out (by decide))); have n3_ := Aside0.mk (blk_grown (g := gb629) (o := .cells #[.int .i64 ((rd_T32 l0_1 x8_2).f0), .int .i64 ((rd_T32 l0_1 x8_2).f1)] 32 (0, 0)) (by (with_reducible repeat (first | refine blk_drewN ?_ _ | refine blk_drew ?_ | refine blk_alloc ?_ _)); exact BK629.out) hg (Kd.R_ne HO_6.out BK629.out (by decide))); have n4_ := Aside0.mk ((by rw [hw]; exact below_set (HB.out) GB43.out : Below w.heap.size w w54)); clear HO_6; clear BK618; clear BK619; clear BK629; clear HB; have HO_6 := n0_; have BK618 := n1_; have BK619 := n2_; have BK629 := n3_; have HB := n4_; clear n0_ n1_ n2_ n3_ n4_; clear hg hw hp_))
                                go_roundg k2
                                case measure => have := HJ2.out; have := HK2.out; omega
                                case rel => exact ⟨(y631), (wrap64 (x8_2 + 1)), (by first | rfl | (simp; done) | (simp [*]; done)), H', ⟨by have := HJ2.out; have := HK2.out; omega⟩, ⟨by (with_reducible repeat (first | apply Kd.R_alloc | apply Kd.R_drewN | apply Kd.R_drew)); exact HO_6.out⟩, ⟨by (with_reducible repeat (first | refine blk_drewN ?_ _ | refine blk_drew ?_ | refine blk_alloc ?_ _)); exact BK618.out⟩, ⟨by (with_reducible repeat (first | refine blk_drewN ?_ _ | refine blk_drew ?_ | refine blk_alloc ?_ _)); exact BK619.out⟩, ⟨by repeat (first | (with_reducible first | exact HB.out | apply below_alloc | apply pw_below_drewN | apply below_drew1 | refine below_set ?_ GE618.out | refine below_set ?_ GE619.out | refine below_set ?_ GE629.out) | exact HB.out)⟩⟩
                              · rw [if_neg c41] at H
                                exact absurd H (by simp)
                            · rw [if_neg c40] at H
                              exact absurd H (by simp)
                          · rw [if_neg c37] at H
                            have c37b0 : ((Int.tmod ((rd_T32 l0_1 x8_2).f0) (ji35)) == 0) = false := beq_eq_false_iff_ne.mpr c37
                            have c37b1 : ((Int.tmod ((rd_T32 l0_1 x8_2).f0) (ji35)) != 0) = true := bne_iff_ne.mpr c37
                            have H' := Aside0.mk H
                            clear H
                            have hnb55 := NB618_619.out
                            have hnc55 := NB619_618.out
                            have hcz56_0 : wr.cell? ⟨gb618, 0, none⟩ = some (.int .i64 a0_0) := (blk_cell BK618.out 0).trans rfl
                            have hcz56_1 : wr.cell? ⟨gb618, 1, none⟩ = some (.slice A0_1 l0_1.length c0_1) := (blk_cell BK618.out 1).trans rfl
                            have hfz56_0 := blk_frozen BK618.out 0
                            have hfz56_1 := blk_frozen BK618.out 1
                            have p628 : 0 ≤ (x8_2 : Int) := of_decide_eq_true (by first | (with_reducible assumption) | assumption)
                            have q628 : x8_2 < (l0_1.length : Int) := of_decide_eq_true (by first | (with_reducible assumption) | assumption)
                            obtain ⟨ad628, e628, hx628_0, hx628_1⟩ := at_T32 HR0_1.out x8_2 p628 q628
                            cases e628
                            replace hx628_0 := (HB.out.cell (World.block_lt_of_cell? w _ hx628_0)).trans hx628_0
                            replace hx628_1 := (HB.out.cell (World.block_lt_of_cell? w _ hx628_1)).trans hx628_1
                            replace p628 := eq_true p628
                            replace q628 := eq_true q628
                            go_wp2_with (first | ((with_reducible refine gate_dst (N := 9) rfl ?_); refine box_event ?hg (N := 9) ?hd (cs := #[.int .i64 0, .int .i64 0]) (t := 32) ?hr ?_; (case hd => rfl); (case hg => rfl); (case hr => first | (go_simp; done) | (go_simp; rfl)); intro gb629 hg w57 hbox hb; have n0_ := Aside0.mk (Kd.R_below (by (with_reducible repeat (first | apply Kd.R_alloc | apply Kd.R_drewN | apply Kd.R_drew)); exact HO_6.out) hb); have n1_ := Aside0.mk (blk_below (g := gb618) (o := .cells #[.int .i64 a0_0, .slice (some ad628) l0_1.length c0_1] 30 (0, 0)) (by (with_reducible repeat (first | refine blk_drewN ?_ _ | refine blk_drew ?_ | refine blk_alloc ?_ _)); exact BK618.out) hb); have n2_ := Aside0.mk (blk_below (g := gb619) (o := .cells #[.int .i64 0, .slice none 0 0] 30 (0, 0)) (by (with_reducible repeat (first | refine blk_drewN ?_ _ | refine blk_drew ?_ | refine blk_alloc ?_ _)); exact BK619.out) hb); have n3_ := Aside0.mk (below_step (by repeat (first | (with_reducible first | exact HB.out | apply below_alloc | apply pw_below_drewN | apply below_drew1 | refine below_set ?_ GE618.out | refine below_set ?_ GE619.out) | exact HB.out)) hb); have n4_ := Aside0.mk (hbox); have n5_ := Aside0.mk ((by rw [hg]; exact (below_size (by repeat (first | (with_reducible first | exact HB.out | apply below_alloc | apply pw_below_drewN | apply below_drew1 | refine below_set ?_ GE618.out | refine below_set ?_ GE619.out) | exact HB.out))) : w.heap.size ≤ gb629)); have n6_ := Aside0.mk ((by rw [hg]; exact (below_size (by repeat (first | (with_reducible first | exact HB.out | apply below_alloc | apply pw_below_drewN | apply below_drew1 | refine below_set ?_ GE618.out | refine below_set ?_ GE619.out) | exact HB.out))) : w.heap.size ≤ gb629)); have n7_ := Aside0.mk ((by rw [hg]; exact Nat.ne_of_lt (blk_lt (g := gb618) (o := .cells #[.int .i64 a0_0, .slice (some ad628) l0_1.length c0_1] 30 (0, 0)) (by (with_reducible repeat (first | refine blk_drewN ?_ _ | refine blk_drew ?_ | refine blk_alloc ?_ _)); exact BK618.out)) : gb618 ≠ gb629)); have n8_ := Aside0.mk ((by rw [hg]; exact Nat.ne_of_gt (blk_lt (g := gb618) (o := .cells #[.int .i64 a0_0, .slice (some ad628) l0_1.length c0_1] 30 (0, 0)) (by (with_reducible repeat (first | refine blk_drewN ?_ _ | refine blk_drew ?_ | refine blk_alloc ?_ _)); exact BK618.out)) : gb629 ≠ gb618)); have n9_ := Aside0.mk ((by rw [hg]; exact Nat.ne_of_lt (blk_lt (g := gb619) (o := .cells #[.int .i64 0, .slice none 0 0] 30 (0, 0)) (by (with_reducible repeat (first | refine blk_drewN ?_ _ | refine blk_drew ?_ | refine blk_alloc ?_ _)); exact BK619.out)) : gb619 ≠ gb629)); have n10_ := Aside0.mk ((by rw [hg]; exact Nat.ne_of_gt (blk_lt (g := gb619) (o := .cells #[.int .i64 0, .slice none 0 0] 30 (0, 0)) (by (with_reducible repeat (first | refine blk_drewN ?_ _ | refine blk_drew ?_ | refine blk_alloc ?_ _)); exact BK619.out)) : gb629 ≠ gb619)); clear HO_6; clear BK618; clear BK619; clear HB; have HO_6 := n0_; have BK618 := n1_; have BK619 := n2_; have HB := n3_; have BK629 := n4_; have GW629 := n5_; have GE629 := n6_; have NB618_629 := n7_; have NB629_618 := n8_; have NB619_629 := n9_; have NB629_619 := n10_; clear n0_ n1_ n2_ n3_ n4_ n5_ n6_ n7_ n8_ n9_ n10_; clear hb hbox hg; have hnb58 := NB629_618.out; have hnc58 := NB618_629.out; have hnb59 := NB629_619.out; have hnc59 := NB619_629.out; have hcz60_0 : w57.cell? ⟨gb629, 0, none⟩ = some (.int .i64 0) := (blk_cell BK629.out 0).trans rfl; have hcz60_1 : w57.cell? ⟨gb629, 1, none⟩ = some (.int .i64 0) := (blk_cell BK629.out 1).trans rfl; have hfz60_0 := blk_frozen BK629.out 0; have hfz60_1 := blk_frozen BK629.out 1))
                            (try simp only [Act.put, List.setIfInBounds_toArray, List.set_cons_zero, List.set_cons_succ])
                            go_loopg [11, 12] k2 (fun kq v11 v12 w' => ∃ (x11_3 : Int) (x12_3 : Int), v11 = .int .i64 x11_3 ∧ v12 = .int .i64 x12_3 ∧ Aside0 (tallymanref14_Fold.l1 kq a1 x6_2 (wrap64 (a0_0 - a1)) x8_2 (Int.tmod ((rd_T32 l0_1 x8_2).f0) (ji35)) x11_3 x12_3 a0_0 l0_1 ((rd_T32 l0_1 x8_2).f0) ((rd_T32 l0_1 x8_2).f1) = some (r1, r2, r3)) ∧ Aside0 (kq ≤ k2) ∧ Aside0 (Kd.R (Kd.int .i64) 3 w' w.heap.size (fun _ => True) v622 x6_2) ∧ Aside0 (w'.heap[gb618]? = some (.cells #[.int .i64 a0_0, (.slice (some ad628) l0_1.length c0_1)] 30 (0, 0))) ∧ Aside0 (w'.heap[gb619]? = some (.cells #[.int .i64 0, (.slice none 0 0)] 30 (0, 0))) ∧ Aside0 (w'.heap[gb629]? = some (.cells #[.int .i64 ((rd_T32 l0_1 x8_2).f0), .int .i64 ((rd_T32 l0_1 x8_2).f1)] 32 (0, 0))) ∧ Aside0 (Below w.heap.size w w'))
                            case atStart => exact ⟨(1), (wrap64 ((wrap64 (a0_0 - a1)) - 1)), (by first | rfl | (simp; done) | (simp [*]; done)), (by first | rfl | (simp; done) | (simp [*]; done)), H', ⟨Nat.le_refl _⟩, ⟨by (with_reducible repeat (first | apply Kd.R_alloc | apply Kd.R_drewN | apply Kd.R_drew)); exact Kd.R_mono (Kd.R_far (p := ⟨gb629, 1, none⟩) (Kd.R_far (p := ⟨gb629, 0, none⟩) (Kd.R_types HO_6.out BK629.out (by decide)) (fun _ hk => hk.2) (.int .i64 ((rd_T32 l0_1 x8_2).f0))) (fun _ hk => hk.2) (.int .i64 ((rd_T32 l0_1 x8_2).f1))) (fun _ hk => trivial)⟩, ⟨by (with_reducible repeat (first | refine blk_drewN ?_ _ | refine blk_drew ?_ | refine blk_alloc ?_ _)); refine blk_far ?_ NB618_629.out _; (with_reducible repeat (first | refine blk_drewN ?_ _ | refine blk_drew ?_ | refine blk_alloc ?_ _)); refine blk_far ?_ NB618_629.out _; (with_reducible repeat (first | refine blk_drewN ?_ _ | refine blk_drew ?_ | refine blk_alloc ?_ _)); exact BK618.out⟩, ⟨by (with_reducible repeat (first | refine blk_drewN ?_ _ | refine blk_drew ?_ | refine blk_alloc ?_ _)); refine blk_far ?_ NB619_629.out _; (with_reducible repeat (first | refine blk_drewN ?_ _ | refine blk_drew ?_ | refine blk_alloc ?_ _)); refine blk_far ?_ NB619_629.out _; (with_reducible repeat (first | refine blk_drewN ?_ _ | refine blk_drew ?_ | refine blk_alloc ?_ _)); exact BK619.out⟩, ⟨by (with_reducible repeat (first | refine blk_drewN ?_ _ | refine blk_drew ?_ | refine blk_alloc ?_ _)); refine blk_put (cs := #[.int .i64 ((rd_T32 l0_1 x8_2).f0), .int .i64 0]) ?_ 1 _ rfl; (with_reducible repeat (first | refine blk_drewN ?_ _ | refine blk_drew ?_ | refine blk_alloc ?_ _)); refine blk_put (cs := #[.int .i64 0, .int .i64 0]) ?_ 0 _ rfl; (with_reducible repeat (first | refine blk_drewN ?_ _ | refine blk_drew ?_ | refine blk_alloc ?_ _)); exact BK629.out⟩, ⟨by repeat (first | (with_reducible first | exact HB.out | apply below_alloc | apply pw_below_drewN | apply below_drew1 | refine below_set ?_ GE618.out | refine below_set ?_ GE619.out | refine below_set ?_ GE629.out) | exact HB.out)⟩⟩
                            case round =>
                              clear H'
                              try clear c1
                              try clear c2
                              try clear p2
                              try clear c3
                              try clear c4
                              try clear p4
                              try clear q4
                              try clear hx4
                              try clear hf4
                              try clear c5
                              try clear p6
                              try clear q6
                              try clear hx6
                              try clear c7
                              try clear c7b0
                              try clear c7b1
                              try clear c8
                              try clear c8b0
                              try clear c9
                              try clear c12
                              try clear c16
                              try clear c19
                              try clear c20
                              try clear c23
                              try clear c23b0
                              try clear c23b1
                              try clear c25
                              try clear c25b0
                              try clear c25b1
                              try clear c26
                              try clear c26b0
                              try clear c26b1
                              try clear c29
                              try clear c31
                              try clear c31b0
                              try clear c32
                              try clear c32b0
                              try clear c34
                              try clear c34b0
                              try clear c34b1
                              try clear c36
                              try clear c36b0
                              try clear c36b1
                              try clear c37
                              try clear c37b0
                              try clear c37b1
                              try clear c38
                              try clear c38b0
                              try clear c40
                              try clear c40b0
                              try clear c41
                              try clear c41b0
                              try clear p43
                              try clear q43
                              try clear hx43
                              try clear hf43
                              try clear c44
                              try clear c46
                              try clear c47
                              try clear c48
                              try clear c55
                              try clear c58
                              try clear c59
                              try clear hcz10_0
                              try clear hcz10_1
                              try clear hcz13_0
                              try clear hcz13_1
                              try clear hcz15_0
                              try clear hcz15_1
                              try clear hcz17_0
                              try clear hcz17_1
                              try clear hcz21_0
                              try clear hcz21_1
                              try clear hcz30_0
                              try clear hcz30_1
                              try clear hcz45_0
                              try clear hcz45_1
                              try clear hcz49_0
                              try clear hcz49_1
                              try clear hcz51_0
                              try clear hcz51_1
                              try clear hcz56_0
                              try clear hcz56_1
                              try clear hcz60_0
                              try clear hcz60_1
                              try clear hfz10_0
                              try clear hfz10_1
                              try clear hfz13_0
                              try clear hfz13_1
                              try clear hfz15_0
                              try clear hfz15_1
                              try clear hfz17_0
                              try clear hfz17_1
                              try clear hfz21_0
                              try clear hfz21_1
                              try clear hfz30_0
                              try clear hfz30_1
                              try clear hfz45_0
                              try clear hfz45_1
                              try clear hfz49_0
                              try clear hfz49_1
                              try clear hfz51_0
                              try clear hfz51_1
                              try clear hfz56_0
                              try clear hfz56_1
                              try clear hfz60_0
                              try clear hfz60_1
                              try clear hx43_0
                              try clear hx628_0
                              try clear hx628_1
                              try clear hx630_0
                              try clear p2
                              try clear p43
                              try clear p6
                              try clear p628
                              try clear p630
                              try clear q43
                              try clear q628
                              try clear q630
                              obtain ⟨x11_3, x12_3, rfl, rfl, HA, HK3, HO_6, BK618, BK619, BK629, HB⟩ := hrel
                              cases gk with
                              | zero => exact absurd HA.out (by simp [tallymanref14_Fold.l1])
                              | succ k3 =>
                                have H := HA.out
                                clear HA
                                simp only [tallymanref14_Fold.l1] at H
                                obtain ⟨ji61, hji61⟩ : ∃ j_ : Int, (IntKind.u64.wrap (x12_3)) = j_ := ⟨_, rfl⟩
                                replace H : (if 0 ≤ (ji61) then (if (Int.tmod (shr .i64 (Int.tmod ((rd_T32 l0_1 x8_2).f0) (ji35)) (ji61)) 2) = 0 then (tallymanref14_Fold.l1 k3 a1 x6_2 (wrap64 (a0_0 - a1)) x8_2 (Int.tmod ((rd_T32 l0_1 x8_2).f0) (ji35)) (wrap64 (x11_3 + 1)) (wrap64 (x12_3 - 1)) a0_0 l0_1 ((rd_T32 l0_1 x8_2).f0) ((rd_T32 l0_1 x8_2).f1)) else (if 0 ≤ (IntKind.u64.wrap ((wrap64 (a0_0 - a1)))) then (if 0 ≤ (shr .i64 ((rd_T32 l0_1 x8_2).f0) (IntKind.u64.wrap ((wrap64 (a0_0 - a1))))) then (if (shr .i64 ((rd_T32 l0_1 x8_2).f0) (IntKind.u64.wrap ((wrap64 (a0_0 - a1))))) < (x6_2.length : Int) then (tallymanref14_Fold.l0 k3 a1 (x6_2.set ((shr .i64 ((rd_T32 l0_1 x8_2).f0) (IntKind.u64.wrap ((wrap64 (a0_0 - a1))))) : Int).toNat (mx (rd x6_2 (shr .i64 ((rd_T32 l0_1 x8_2).f0) (IntKind.u64.wrap ((wrap64 (a0_0 - a1)))))) x11_3)) (wrap64 (a0_0 - a1)) (wrap64 (x8_2 + 1)) a0_0 l0_1) else (none)) else (none)) else (none))) else (none)) = some (r1, r2, r3) := by first | (rw [hji61] at H; exact H) | (simp only [hji61] at H ⊢; exact H)
                                by_cases c62 : 0 ≤ (ji61)
                                · rw [if_pos c62] at H
                                  have c62b0 := eq_true c62
                                  have c62b1 : decide (0 ≤ (ji61)) = true := decide_eq_true c62
                                  clear c62
                                  obtain ⟨ji63, hji63⟩ : ∃ j_ : Int, (shr .i64 (Int.tmod ((rd_T32 l0_1 x8_2).f0) (ji35)) (ji61)) = j_ := ⟨_, rfl⟩
                                  replace H : (if (Int.tmod (ji63) 2) = 0 then (tallymanref14_Fold.l1 k3 a1 x6_2 (wrap64 (a0_0 - a1)) x8_2 (Int.tmod ((rd_T32 l0_1 x8_2).f0) (ji35)) (wrap64 (x11_3 + 1)) (wrap64 (x12_3 - 1)) a0_0 l0_1 ((rd_T32 l0_1 x8_2).f0) ((rd_T32 l0_1 x8_2).f1)) else (if 0 ≤ (IntKind.u64.wrap ((wrap64 (a0_0 - a1)))) then (if 0 ≤ (shr .i64 ((rd_T32 l0_1 x8_2).f0) (IntKind.u64.wrap ((wrap64 (a0_0 - a1))))) then (if (shr .i64 ((rd_T32 l0_1 x8_2).f0) (IntKind.u64.wrap ((wrap64 (a0_0 - a1))))) < (x6_2.length : Int) then (tallymanref14_Fold.l0 k3 a1 (x6_2.set ((shr .i64 ((rd_T32 l0_1 x8_2).f0) (IntKind.u64.wrap ((wrap64 (a0_0 - a1))))) : Int).toNat (mx (rd x6_2 (shr .i64 ((rd_T32 l0_1 x8_2).f0) (IntKind.u64.wrap ((wrap64 (a0_0 - a1)))))) x11_3)) (wrap64 (a0_0 - a1)) (wrap64 (x8_2 + 1)) a0_0 l0_1) else (none)) else (none)) else (none))) = some (r1, r2, r3) := by first | (rw [hji63] at H; exact H) | (simp only [hji63] at H ⊢; exact H)
                                  have hji63_ : ((Int.tmod ((rd_T32 l0_1 x8_2).f0) (ji35)) / 2 ^ min (ji61).toNat 64) = ji63 := hji63
                                  have hji63z : (ji61) ≤ 64 → ((Int.tmod ((rd_T32 l0_1 x8_2).f0) (ji35)) / 2 ^ (ji61).toNat) = ji63 := shr_small hji63
                                  by_cases c64 : (Int.tmod (ji63) 2) = 0
                                  · rw [if_pos c64] at H
                                    have c64b0 : ((Int.tmod (ji63) 2) == 0) = true := beq_iff_eq.mpr c64
                                    have c64b1 : ((Int.tmod (ji63) 2) != 0) = false := bne_eq_false_iff_eq.mpr c64
                                    clear c64
                                    have H' := Aside0.mk H
                                    clear H
                                    go_wp2
                                    go_roundg k3
                                    case measure => have := HJ2.out; have := HK2.out; have := HK3.out; omega
                                    case rel => exact ⟨(wrap64 (x11_3 + 1)), (wrap64 (x12_3 - 1)), (by first | rfl | (simp; done) | (simp [*]; done)), (by first | rfl | (simp; done) | (simp [*]; done)), H', ⟨by have := HJ2.out; have := HK2.out; have := HK3.out; omega⟩, ⟨by (with_reducible repeat (first | apply Kd.R_alloc | apply Kd.R_drewN | apply Kd.R_drew)); exact HO_6.out⟩, ⟨by (with_reducible repeat (first | refine blk_drewN ?_ _ | refine blk_drew ?_ | refine blk_alloc ?_ _)); exact BK618.out⟩, ⟨by (with_reducible repeat (first | refine blk_drewN ?_ _ | refine blk_drew ?_ | refine blk_alloc ?_ _)); exact BK619.out⟩, ⟨by (with_reducible repeat (first | refine blk_drewN ?_ _ | refine blk_drew ?_ | refine blk_alloc ?_ _)); exact BK629.out⟩, ⟨by repeat (first | (with_reducible first | exact HB.out | apply below_alloc | apply pw_below_drewN | apply below_drew1 | refine below_set ?_ GE618.out | refine below_set ?_ GE619.out | refine below_set ?_ GE629.out) | exact HB.out)⟩⟩
                                  · rw [if_neg c64] at H
                                    have c64b0 : ((Int.tmod (ji63) 2) == 0) = false := beq_eq_false_iff_ne.mpr c64
                                    have c64b1 : ((Int.tmod (ji63) 2) != 0) = true := bne_iff_ne.mpr c64
                                    obtain ⟨ji65, hji65⟩ : ∃ j_ : Int, (IntKind.u64.wrap ((wrap64 (a0_0 - a1)))) = j_ := ⟨_, rfl⟩
                                    obtain rfl : ji65 = ji33 := hji65.symm.trans hji33
                                    replace H : (if 0 ≤ (ji65) then (if 0 ≤ (shr .i64 ((rd_T32 l0_1 x8_2).f0) (ji65)) then (if (shr .i64 ((rd_T32 l0_1 x8_2).f0) (ji65)) < (x6_2.length : Int) then (tallymanref14_Fold.l0 k3 a1 (x6_2.set ((shr .i64 ((rd_T32 l0_1 x8_2).f0) (ji65)) : Int).toNat (mx (rd x6_2 (shr .i64 ((rd_T32 l0_1 x8_2).f0) (ji65))) x11_3)) (wrap64 (a0_0 - a1)) (wrap64 (x8_2 + 1)) a0_0 l0_1) else (none)) else (none)) else (none)) = some (r1, r2, r3) := by first | (rw [hji65] at H; exact H) | (simp only [hji65] at H ⊢; exact H)
                                    by_cases c66 : 0 ≤ (ji65)
                                    · rw [if_pos c66] at H
                                      have c66b0 := eq_true c66
                                      have c66b1 : decide (0 ≤ (ji65)) = true := decide_eq_true c66
                                      clear c66
                                      obtain ⟨ji67, hji67⟩ : ∃ j_ : Int, (shr .i64 ((rd_T32 l0_1 x8_2).f0) (ji65)) = j_ := ⟨_, rfl⟩
                                      replace H : (if 0 ≤ (ji67) then (if (ji67) < (x6_2.length : Int) then (tallymanref14_Fold.l0 k3 a1 (x6_2.set ((ji67) : Int).toNat (mx (rd x6_2 (ji67)) x11_3)) (wrap64 (a0_0 - a1)) (wrap64 (x8_2 + 1)) a0_0 l0_1) else (none)) else (none)) = some (r1, r2, r3) := by first | (rw [hji67] at H; exact H) | (simp only [hji67] at H ⊢; exact H)
                                      have hji67_ : (((rd_T32 l0_1 x8_2).f0) / 2 ^ min (ji65).toNat 64) = ji67 := hji67
                                      have hji67z : (ji65) ≤ 64 → (((rd_T32 l0_1 x8_2).f0) / 2 ^ (ji65).toNat) = ji67 := shr_small hji67
                                      by_cases c68 : 0 ≤ (ji67)
                                      · rw [if_pos c68] at H
                                        have c68b0 : decide (0 ≤ (ji67)) = true := decide_eq_true c68
                                        clear c68
                                        by_cases c69 : (ji67) < (x6_2.length : Int)
                                        · rw [if_pos c69] at H
                                          have c69b0 : decide ((ji67) < (x6_2.length : Int)) = true := decide_eq_true c69
                                          clear c69
                                          obtain ⟨ji70, hji70⟩ : ∃ j_ : Int, (mx (rd x6_2 (ji67)) x11_3) = j_ := ⟨_, rfl⟩
                                          replace H : (tallymanref14_Fold.l0 k3 a1 (x6_2.set ((ji67) : Int).toNat (ji70)) (wrap64 (a0_0 - a1)) (wrap64 (x8_2 + 1)) a0_0 l0_1) = some (r1, r2, r3) := by first | (rw [hji70] at H; exact H) | (simp only [hji70] at H ⊢; exact H)
                                          have hji70_ : (if (rd x6_2 (ji67)) < x11_3 then x11_3 else (rd x6_2 (ji67))) = ji70 := hji70
                                          obtain ⟨y633, hy633⟩ : ∃ y_ : List Int, y_ = (x6_2.set ((ji67) : Int).toNat (ji70)) := ⟨_, rfl⟩
                                          replace H : (tallymanref14_Fold.l0 k3 a1 y633 (wrap64 (a0_0 - a1)) (wrap64 (x8_2 + 1)) a0_0 l0_1) = some (r1, r2, r3) := by first | (rw [hy633]; with_reducible exact H) | (have H2_ := (Option.bind_some _ _).symm.trans H; rw [hy633]; with_reducible exact H2_) | (have H2_ := (Option.bind_some _ _).symm.trans H; with_reducible exact H2_) | with_reducible exact H | (rw [hy633]; exact H) | exact H
                                          have Ny633 := Aside0.mk hy633
                                          clear hy633
                                          have H' := Aside0.mk H
                                          clear H
                                          have hnb72 := NB629_618.out
                                          have hnc72 := NB618_629.out
                                          have hnb73 := NB629_619.out
                                          have hnc73 := NB619_629.out
                                          have hcz74_0 : wr.cell? ⟨gb629, 0, none⟩ = some (.int .i64 ((rd_T32 l0_1 x8_2).f0)) := (blk_cell BK629.out 0).trans rfl
                                          have hcz74_1 : wr.cell? ⟨gb629, 1, none⟩ = some (.int .i64 ((rd_T32 l0_1 x8_2).f1)) := (blk_cell BK629.out 1).trans rfl
                                          have hfz74_0 := blk_frozen BK629.out 0
                                          have hfz74_1 := blk_frozen BK629.out 1
                                          obtain ⟨Ao75, co75, eo75⟩ := Kd.R_slice HO_6.out
                                          subst eo75
                                          have p632 : 0 ≤ ((ji67) : Int) := of_decide_eq_true (by first | (with_reducible assumption) | assumption)
                                          have q632 : (ji67) < (x6_2.length : Int) := of_decide_eq_true (by first | (with_reducible assumption) | assumption)
                                          obtain ⟨ad632, e632, hx632_0⟩ := Kd.at_int (Kd.R_reads' HO_6.out).2.2 (ji67) p632 q632
                                          cases e632
                                          replace p632 := eq_true p632
                                          replace q632 := eq_true q632
                                          have p71 : 0 ≤ ((ji67) : Int) := of_decide_eq_true (by first | (with_reducible assumption) | assumption)
                                          have q71 : ((ji67) : Int) < ((x6_2.length : Int) : Int) := of_decide_eq_true (by first | (with_reducible assumption) | assumption)
                                          obtain ⟨go71, co71, eo71, gb71, gl71, cl71, HG71⟩ := Kd.R_form HO_6.out (by omega)
                                          (first | cases eo71 | (injection eo71 with ea_ en_ ec_; (first | subst ea_ | (injection ea_ with ea_; subst ea_)); subst ec_; clear en_))
                                          have GB71 := Aside0.mk gb71
                                          have GG71 := Aside0.mk HG71
                                          clear gb71 gl71 HG71
                                          (first | simp only [add_plain] at hx632_0 | skip)
                                          obtain ⟨hx71_0, hf71_0⟩ := Kd.R_celln 0 HO_6.out ((ji67) : Int) p71 q71
                                          replace p71 := eq_true p71
                                          replace q71 := eq_true q71
                                          have HP76 := Kd.R_putg HO_6.out ((ji67) : Int) ji70
                                          go_wp2_with (first | ((with_reducible refine gate_store (t := 3) (p := 85) rfl ?_); refine store_event (t := 3) (p := 85) (v := ?vo_w77) (w1 := (wr.setCell ⟨go71, ((ji67) : Int).toNat, none⟩ (.int .i64 ji70))) ?hg ?ho ?hn ?hr ?_; (case ho => rfl); (case hg => rfl); (case hn => rfl); (case hr => first | (go_simp; done) | (go_simp; rfl)); intro w77 hw; have hg : wr.grownBy w77 (some go71) := (by rw [hw]; exact HP76.2); have hp_ : Kd.R (Kd.int .i64) 3 w77 w.heap.size (fun _ => True) (.slice (some ⟨go71, 0, none⟩) x6_2.length co75) y633 := (by rw [hw, Ny633.out]; exact HP76.1); clear HP76; have n0_ := Aside0.mk (hp_); have n1_ := Aside0.mk (blk_grown (g := gb618) (o := .cells #[.int .i64 a0_0, .slice (some ad628) l0_1.length c0_1] 30 (0, 0)) (by (with_reducible repeat (first | refine blk_drewN ?_ _ | refine blk_drew ?_ | refine blk_alloc ?_ _)); exact BK618.out) hg (Kd.R_ne HO_6.out BK618.out (by decide))); have n2_ := Aside0.mk (blk_grown (g := gb619) (o := .cells #[.int .i64 0, .slice none 0 0] 30 (0, 0)) (by (with_reducible repeat (first | refine blk_drewN ?_ _ | refine blk_drew ?_ | refine blk_alloc ?_ _)); exact BK619.out) hg (Kd.R_ne HO_6.out BK619.out (by decide))); have n3_ := Aside0.mk (blk_grown (g := gb629) (o := .cells #[.int .i64 ((rd_T32 l0_1 x8_2).f0), .int .i64 ((rd_T32 l0_1 x8_2).f1)] 32 (0, 0)) (by (with_reducible repeat (first | refine blk_drewN ?_ _ | refine blk_drew ?_ | refine blk_alloc ?_ _)); exact BK629.out) hg (Kd.R_ne HO_6.out BK629.out (by decide))); have n4_ := Aside0.mk ((by rw [hw]; exact below_set (HB.out) GB71.out : Below w.heap.size w w77)); clear HO_6; clear BK618; clear BK619; clear BK629; clear HB; have HO_6 := n0_; have BK618 := n1_; have BK619 := n2_; have BK629 := n3_; have HB := n4_; clear n0_ n1_ n2_ n3_ n4_; clear hg hw hp_))
                                          go_roundg k3
                                          case measure => have := HJ2.out; have := HK2.out; have := HK3.out; omega
                                          case rel => exact ⟨(y633), (wrap64 (x8_2 + 1)), (by first | rfl | (simp; done) | (simp [*]; done)), H', ⟨by have := HJ2.out; have := HK2.out; have := HK3.out; omega⟩, ⟨by (with_reducible repeat (first | apply Kd.R_alloc | apply Kd.R_drewN | apply Kd.R_drew)); exact HO_6.out⟩, ⟨by (with_reducible repeat (first | refine blk_drewN ?_ _ | refine blk_drew ?_ | refine blk_alloc ?_ _)); exact BK618.out⟩, ⟨by (with_reducible repeat (first | refine blk_drewN ?_ _ | refine blk_drew ?_ | refine blk_alloc ?_ _)); exact BK619.out⟩, ⟨by repeat (first | (with_reducible first | exact HB.out | apply below_alloc | apply pw_below_drewN | apply below_drew1 | refine below_set ?_ GE618.out | refine below_set ?_ GE619.out | refine below_set ?_ GE629.out) | exact HB.out)⟩⟩
                                        · rw [if_neg c69] at H
                                          exact absurd H (by simp)
                                      · rw [if_neg c68] at H
                                        exact absurd H (by simp)
                                    · rw [if_neg c66] at H
                                      exact absurd H (by simp)
                                · rw [if_neg c62] at H
                                  exact absurd H (by simp)
                      · rw [if_neg c34] at H
                        exact absurd H (by simp)
                    · rw [if_neg c32] at H
                      exact absurd H (by simp)
                  · rw [if_neg c31] at H
                    have c31b0 : decide (x8_2 < (l0_1.length : Int)) = false := decide_eq_false c31
                    clear c31
                    replace H := Option.bind_eq_some_iff.mp H
                    obtain ⟨⟨t624, t625⟩, A780, H⟩ := H
                    replace H : (some (t624, t625, 0)) = some (r1, r2, r3) := H
                    have A78 := Aside0.mk A780
                    clear A780
                    simp only [Option.some.injEq, Prod.mk.injEq] at H
                    obtain ⟨rfl, rfl, rfl⟩ := H
                    have hnb79 := NB618_619.out
                    have hnc79 := NB619_618.out
                    have hcz80_0 : wr.cell? ⟨gb618, 0, none⟩ = some (.int .i64 a0_0) := (blk_cell BK618.out 0).trans rfl
                    have hcz80_1 : wr.cell? ⟨gb618, 1, none⟩ = some (.slice A0_1 l0_1.length c0_1) := (blk_cell BK618.out 1).trans rfl
                    have hfz80_0 := blk_frozen BK618.out 0
                    have hfz80_1 := blk_frozen BK618.out 1
                    obtain ⟨Ao81, co81, eo81⟩ := Kd.R_slice HO_6.out
                    subst eo81
                    go_wp2_with (first | ((with_reducible refine gate_callee (f := 80) rfl ?_); refine goesL_ (some 88) rfl rfl Try.func80 (by kernel_rfl) rfl #[.int .i64 a1, .slice Ao81 x6_2.length co81] rfl (by (try simp only [List.map_toArray, List.map_cons, List.map_nil]); first | done | rfl | (simp only [List.length_drop, List.length_take]; rfl)) ?_; (with_reducible refine (tallymanref14_of.calls k2 a1 _ _ x6_2 t624 t625 _ ?side1 ?side2 A78.out).mono ?_); (case side1 => repeat (first | exact (Kd.R_reads' HO_6.out).2.2 | (with_reducible refine Kd.C_alloc ?_ _) | (with_reducible refine Kd.C_drewN ?_ _) | (with_reducible refine Kd.C_drew ?_))); (case side2 => exact (Kd.R_reads' HO_6.out).2.1); rintro e w82 ⟨v626, rfl, ho0, hb⟩; refine ⟨_, rfl, ?_⟩; have n0_ := Aside0.mk (Kd.R_below (by (with_reducible repeat (first | apply Kd.R_alloc | apply Kd.R_drewN | apply Kd.R_drew)); exact HO_6.out) hb); have n1_ := Aside0.mk (Kd.R_lower ho0 (below_size (by repeat (first | (with_reducible first | exact HB.out | apply below_alloc | apply pw_below_drewN | apply below_drew1 | refine below_set ?_ GE618.out | refine below_set ?_ GE619.out) | exact HB.out)))); have n2_ := Aside0.mk (blk_below (g := gb618) (o := .cells #[.int .i64 a0_0, .slice A0_1 l0_1.length c0_1] 30 (0, 0)) (by (with_reducible repeat (first | refine blk_drewN ?_ _ | refine blk_drew ?_ | refine blk_alloc ?_ _)); exact BK618.out) hb); have n3_ := Aside0.mk (blk_below (g := gb619) (o := .cells #[.int .i64 0, .slice none 0 0] 30 (0, 0)) (by (with_reducible repeat (first | refine blk_drewN ?_ _ | refine blk_drew ?_ | refine blk_alloc ?_ _)); exact BK619.out) hb); have n4_ := Aside0.mk (below_step (by repeat (first | (with_reducible first | exact HB.out | apply below_alloc | apply pw_below_drewN | apply below_drew1 | refine below_set ?_ GE618.out | refine below_set ?_ GE619.out) | exact HB.out)) hb); clear HO_6; clear BK618; clear BK619; clear HB; have HO_6 := n0_; have HO627 := n1_; have BK618 := n2_; have BK619 := n3_; have HB := n4_; clear n0_ n1_ n2_ n3_ n4_; (try clear hb); (try clear hb2); (try clear hk); (try clear hi); (try clear ho0); have hcz83_0 : w82.cell? ⟨gb619, 0, none⟩ = some (.int .i64 0) := (blk_cell BK619.out 0).trans rfl; have hcz83_1 : w82.cell? ⟨gb619, 1, none⟩ = some (.slice none 0 0) := (blk_cell BK619.out 1).trans rfl; have hfz83_0 := blk_frozen BK619.out 0; have hfz83_1 := blk_frozen BK619.out 1; obtain ⟨Ao84, co84, eo84⟩ := Kd.R_slice HO627.out; subst eo84))
                    refine bodyPost_ret (results_ct rfl _ _ gb619 30 #[.int .i64 t624, .slice Ao84 t625.length co84] (0, 0) _ rfl (by (with_reducible repeat (first | refine blk_drewN ?_ _ | refine blk_drew ?_ | refine blk_alloc ?_ _)); refine blk_put (cs := #[.int .i64 t624, .slice none 0 0]) ?_ 1 _ rfl; (with_reducible repeat (first | refine blk_drewN ?_ _ | refine blk_drew ?_ | refine blk_alloc ?_ _)); refine blk_put (cs := #[.int .i64 0, .slice none 0 0]) ?_ 0 _ rfl; (with_reducible repeat (first | refine blk_drewN ?_ _ | refine blk_drew ?_ | refine blk_alloc ?_ _)); exact BK619.out) Try.underlying30 rfl (by kernel_rfl)) rfl ?_
                    exact ⟨_, by first | rfl | (simp [errW_none, errW_some] <;> rfl) | (simp only [← hji22, ← hji24]; first | rfl | (simp [errW_none, errW_some] <;> rfl)) | (simp [*, errW_none, errW_some] <;> rfl), by (with_reducible repeat (first | apply Kd.R_alloc | apply Kd.R_drewN | apply Kd.R_drew)); exact Kd.R_mono (Kd.R_far (p := ⟨gb619, 1, none⟩) (Kd.R_far (p := ⟨gb619, 0, none⟩) (Kd.R_types HO627.out BK619.out (by decide)) (fun _ hk => hk.2) (.int .i64 t624)) (fun _ hk => hk.2) (.slice Ao84 t625.length co84)) (fun _ hk => trivial), by repeat (first | (with_reducible first | exact HB.out | apply below_alloc | apply pw_below_drewN | apply below_drew1 | refine below_set ?_ GE618.out | refine below_set ?_ GE619.out) | exact HB.out)⟩
            · rw [if_neg c26] at H
              exact absurd H (by simp)
          · rw [if_neg c25] at H
            exact absurd H (by simp)
        · rw [if_neg c23] at H
          exact absurd H (by simp)

end Go.Proofs.Ytbclnjinpcfpjaa.H
