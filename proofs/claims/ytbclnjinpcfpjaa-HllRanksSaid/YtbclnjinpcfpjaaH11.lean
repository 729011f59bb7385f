-- Made by this session's own call of the printer (functions that are proved by hand are taken from a text beside it).
import Derived.Test.YtbclnjinpcfpjaaZ2
import Derived.Test.YtbclnjinpcfpjaaM1
import Derived.Test.YtbclnjinpcfpjaaH0
import Derived.Test.YtbclnjinpcfpjaaH2
import Derived.Test.YtbclnjinpcfpjaaH3
import Derived.Test.YtbclnjinpcfpjaaH10
namespace Go.Proofs.Ytbclnjinpcfpjaa.H
open Go.RowKit Go.Proofs.YtbclnjinpcfpjaaW.PrintWords Go.Proofs.YtbclnjinpcfpjaaW.PrintLast Go.Proofs.YtbclnjinpcfpjaaW.PrintMore
attribute [local go_sem] max2_int min2_int max_two min_two max_three min_three max_four min_four   -- for this text's walks alone
set_option linter.unusedVariables false
set_option linter.unusedSimpArgs false

/-! ### hll_Fold: function 41 -/
mutual
def hll_Fold.j0 : Nat → Int → Bool → Int → List (S32) → Option (Int × (List (S32)) × Int)
 | 0, _, _, _, _ => none
 | k + 1, x1, x24, x405000, x405001 => if x24 = true then (some (0, ([] : List (S32)), 2)) else (hll_Fold.l0 k x1 (wrap64 (x405000 - x1)) ([] : List (S32)) x405001 (x405001.length : Int) 0)
def hll_Fold.l0 : Nat → Int → Int → List (S32) → List (S32) → Int → Int → Option (Int × (List (S32)) × Int)
 | 0, _, _, _, _, _, _ => none
 | k + 1, x1, x6, x7, x31, x32, x33 => if x33 < x32 then (if 0 ≤ x33 then (if x33 < (x31.length : Int) then (if 0 ≤ x6 then (if (Go.bits .and .u64 (IntKind.u64.wrap ((rd_T32 x31 x33).f0)) (IntKind.u64.wrap ((shl .u64 1 x6) - 1))) = 0 then ((hll_put.f k x7 (shr .i64 ((rd_T32 x31 x33).f0) x6) (wrap64 (((rd_T32 x31 x33).f1) + x6))).bind fun t410 => (hll_Fold.l0 k x1 x6 t410 x31 x32 (wrap64 (x33 + 1)))) else ((bits_Len.f (Go.bits .and .u64 (IntKind.u64.wrap ((rd_T32 x31 x33).f0)) (IntKind.u64.wrap ((shl .u64 1 x6) - 1)))).bind fun t413 => ((hll_put.f k x7 (shr .i64 ((rd_T32 x31 x33).f0) x6) (wrap64 ((wrap64 (1 + x6)) - t413))).bind fun t414 => (hll_Fold.l0 k x1 x6 t414 x31 x32 (wrap64 (x33 + 1)))))) else (none)) else (none)) else (none)) else (some (x1, x7, 0))
end
def hll_Fold.f (k : Nat) (a0_0 : Int) (l0_1 : List (S32)) (a1 : Int) : Option (Int × (List (S32)) × Int) := (hll_Check.f k a0_0 l0_1).bind fun t406 => (if t406 = 0 then (if a1 < 4 then (hll_Fold.j0 k a1 true a0_0 l0_1) else (hll_Fold.j0 k a1 (decide (a1 > a0_0)) a0_0 l0_1)) else (hll_Fold.j0 k a1 true a0_0 l0_1))
theorem hll_Fold.mono_l : ∀ k, (∀ y0 y1 y2 y3, LeO (hll_Fold.j0 k y0 y1 y2 y3) (hll_Fold.j0 (k + 1) y0 y1 y2 y3)) ∧ (∀ y0 y1 y2 y3 y4 y5, LeO (hll_Fold.l0 k y0 y1 y2 y3 y4 y5) (hll_Fold.l0 (k + 1) y0 y1 y2 y3 y4 y5))
 | 0 => ⟨fun _ _ _ _ r h => by simp [hll_Fold.j0] at h, fun _ _ _ _ _ _ r h => by simp [hll_Fold.l0] at h⟩
 | k + 1 => by
  obtain ⟨ih0, ih1⟩ := hll_Fold.mono_l k
  refine ⟨?_, ?_⟩
  ·
   intro y0 y1 y2 y3
   unfold hll_Fold.j0
   repeat' first
   | (with_reducible exact ih0 _ _ _ _)
   | (with_reducible exact ih1 _ _ _ _ _ _)
   | (with_reducible exact hll_Check.mono _ _ _)
   | (with_reducible exact hll_put.mono _ _ _ _)
   | (with_reducible exact LeO.refl _)
   | (with_reducible exact LeO.none _)
   | (with_reducible refine LeO.ite ?_ ?_)
   | (with_reducible refine LeO.bind ?_ (fun _ => ?_))
   | exact ih0 _ _ _ _
   | exact ih1 _ _ _ _ _ _
   | exact hll_Check.mono _ _ _
   | exact hll_put.mono _ _ _ _
   | exact LeO.none _
   | refine LeO.ite ?_ ?_
   | refine LeO.bind ?_ (fun _ => ?_)
  ·
   intro y0 y1 y2 y3 y4 y5
   unfold hll_Fold.l0
   repeat' first
   | (with_reducible exact ih0 _ _ _ _)
   | (with_reducible exact ih1 _ _ _ _ _ _)
   | (with_reducible exact hll_Check.mono _ _ _)
   | (with_reducible exact hll_put.mono _ _ _ _)
   | (with_reducible exact LeO.refl _)
   | (with_reducible exact LeO.none _)
   | (with_reducible refine LeO.ite ?_ ?_)
   | (with_reducible refine LeO.bind ?_ (fun _ => ?_))
   | exact ih0 _ _ _ _
   | exact ih1 _ _ _ _ _ _
   | exact hll_Check.mono _ _ _
   | exact hll_put.mono _ _ _ _
   | exact LeO.none _
   | refine LeO.ite ?_ ?_
   | refine LeO.bind ?_ (fun _ => ?_)
theorem hll_Fold.mono : ∀ a0 a1 a2 k, LeO (hll_Fold.f k a0 a1 a2) (hll_Fold.f (k + 1) a0 a1 a2) := by
 intro a0 a1 a2 k
 obtain ⟨ih0, ih1⟩ := hll_Fold.mono_l k
 unfold hll_Fold.f
 repeat' first
   | (with_reducible exact ih0 _ _ _ _)
   | (with_reducible exact ih1 _ _ _ _ _ _)
   | (with_reducible exact hll_Check.mono _ _ _)
   | (with_reducible exact hll_put.mono _ _ _ _)
   | (with_reducible exact LeO.refl _)
   | (with_reducible exact LeO.none _)
   | (with_reducible refine LeO.ite ?_ ?_)
   | (with_reducible refine LeO.bind ?_ (fun _ => ?_))
   | exact ih0 _ _ _ _
   | exact ih1 _ _ _ _ _ _
   | exact hll_Check.mono _ _ _
   | exact hll_put.mono _ _ _ _
   | exact LeO.none _
   | refine LeO.ite ?_ ?_
   | refine LeO.bind ?_ (fun _ => ?_)
def hll_Fold.T8 : Bool × List (List Nat × List Nat) := (true, [([], []), ([0], [0]), ([1], [1]), ([], []), ([3], [3]), ([4], [4]), ([2, 5], [2, 5]), ([6, 0, 1, 2, 3, 4, 5, 6], [6])])
def hll_Fold.B8 : List Nat := [0, 1, 3, 0, 8, 24, 63, 127]
theorem hll_Fold.tab8 : rtab .any (opsOf Try.f41 8) = hll_Fold.T8 := by kernel_rfl
theorem hll_Fold.bits8 : waitsOk hll_Fold.T8.2 hll_Fold.B8 = true := by kernel_rfl
def hll_Fold.T9 : Bool × List (List Nat × List Nat) := (true, [([], []), ([0], [0]), ([], []), ([1, 2], [1, 2]), ([], []), ([4], [4]), ([], []), ([5, 6], [5, 6]), ([3, 7], [3, 7]), ([], []), ([9, 8, 0, 1, 2, 3, 4, 5, 6, 7, 8, 9], [8, 9])])
def hll_Fold.B9 : List Nat := [0, 1, 0, 7, 0, 16, 0, 112, 255, 0, 1023]
theorem hll_Fold.tab9 : rtab .any (opsOf Try.f41 9) = hll_Fold.T9 := by kernel_rfl
theorem hll_Fold.bits9 : waitsOk hll_Fold.T9.2 hll_Fold.B9 = true := by kernel_rfl
set_option maxHeartbeats 8000000 in
set_option maxRecDepth 100000 in
theorem hll_Fold.calls (k : Nat) (a0_0 : Int) (A0_1 : Option Addr) (c0_1 : Nat) (l0_1 : List (S32)) (a1 : Int) (r1 : Int) (r2 : List (S32)) (r3 : Int) (w : World) (hr0_1 : Kd.C k32 w A0_1 l0_1.length l0_1) (hc0_1 : l0_1.length ≤ c0_1) (h : hll_Fold.f k a0_0 l0_1 a1 = some (r1, r2, r3)) :
  Calls Try.prog 41 #[.agg #[.int .i64 a0_0, .slice A0_1 l0_1.length c0_1], .int .i64 a1] w fun e w' => ∃ v1_ : Value, e = .returned (.tuple #[.agg #[.int .i64 r1, v1_], .int .i64 r3]) ∧ Kd.R k32 32 w' w.heap.size (fun _ => True) v1_ r2 ∧ Below w.heap.size w w' := by
 have hu30 := Try.underlying30
 have hu32 := Try.underlying32
 have HR0_1 := Aside0.mk hr0_1
 have HC0_1 := Aside0.mk hc0_1
 clear hr0_1 hc0_1
 have HB := am (Below.refl w.heap.size w)
 have H : ((hll_Check.f k a0_0 l0_1).bind fun t406 => (if t406 = 0 then (if a1 < 4 then (hll_Fold.j0 k a1 true a0_0 l0_1) else (hll_Fold.j0 k a1 (decide (a1 > a0_0)) a0_0 l0_1)) else (hll_Fold.j0 k a1 true a0_0 l0_1))) = some (r1, r2, r3) := h
 clear h
 have HC3 := Aside0.mk H
 clear H
 go_enter Try.func41, Try.ntmps41
 go_upto_region 1 with (first | ((with_reducible refine gate_dst (N := 2) rfl ?_); refine box_event ?hg (N := 2) ?hd (cs := #[.int .i64 a0_0, .slice A0_1 l0_1.length c0_1]) (t := 30) ?hr ?_; (case hd => rfl); (case hg => rfl); (case hr => first | (go_simp; done) | (go_simp; rfl)); intro gb404 hg w4 hbox hb; obtain ⟨HBn, GW404⟩ := tri hg hb (hu HB.out); have GE404 := GW404; have BK404 := am (hbox); clear HB; have HB := HBn; clear HBn; clear hb hbox hg) | ((with_reducible refine gate_dst (N := 4) rfl ?_); refine box_event ?hg (N := 4) ?hd (cs := #[.int .i64 0, .slice none 0 0]) (t := 30) ?hr ?_; (case hd => rfl); (case hg => rfl); (case hr => first | (go_simp; done) | (go_simp; rfl)); intro gb405 hg w5 hbox hb; obtain ⟨HBn, GW405⟩ := tri hg hb (by repeat (first | (with_reducible first | exact HB.out | apply below_alloc | apply pw_below_drewN | apply below_drew1 | refine below_set ?_ (Aside0.out (by assumption))) | exact HB.out)); have GE405 := GW405; have BK405 := am (hbox); have NB404_405 := nl hg (bu BK404.out); have NB405_404 := nr hg (bu BK404.out); replace BK404 := bb BK404 hb; clear HB; have HB := HBn; clear HBn; clear hb hbox hg))
 (try simp only [Act.put, List.setIfInBounds_toArray, List.set_cons_zero, List.set_cons_succ])
 go_cut [24] (fun v24 wc => ∃ (kq : Nat) (x24_2 : Bool), v24 = .bool x24_2 ∧ Aside0 (hll_Fold.j0 kq a1 x24_2 a0_0 l0_1 = some (r1, r2, r3)) ∧ Aside0 (kq ≤ k) ∧ Aside0 (wc.heap[gb404]? = some (.cells #[.int .i64 a0_0, (.slice A0_1 l0_1.length c0_1)] 30 (0, 0))) ∧ Aside0 (wc.heap[gb405]? = some (.cells #[.int .i64 0, (.slice none 0 0)] 30 (0, 0))) ∧ Aside0 (Below w.heap.size w wc))
 case first =>
  have H := HC3.out
  clear HC3
  replace H := Option.bind_eq_some_iff.mp H
  obtain ⟨t406, A60, H⟩ := H
  replace H : (if t406 = 0 then (if a1 < 4 then (hll_Fold.j0 k a1 true a0_0 l0_1) else (hll_Fold.j0 k a1 (decide (a1 > a0_0)) a0_0 l0_1)) else (hll_Fold.j0 k a1 true a0_0 l0_1)) = some (r1, r2, r3) := H
  have A6 := Aside0.mk A60
  clear A60
  by_cases c7 : t406 = 0
  ·
   rw [if_pos c7] at H
   have c7b0 : (t406 == 0) = true := beq_iff_eq.mpr c7
   have c7b1 : (t406 != 0) = false := bne_eq_false_iff_eq.mpr c7
   clear c7
   (first | rw [c7b0] | (simp only [i64_w, i32_w]; rw [c7b0]) | skip)
   by_cases c8 : a1 < 4
   ·
    rw [if_pos c8] at H
    have c8b0 : decide (a1 < 4) = true := decide_eq_true c8
    clear c8
    have H' := Aside0.mk H
    clear H
    have hnb9 := NB404_405.out
    have hnc9 := NB405_404.out
    have hcz10_0 := ca BK404.out
    have hcz10_1 := cb BK404.out
    have hfz10_0 := blk_frozen BK404.out 0
    have hfz10_1 := blk_frozen BK404.out 1
    go_wp2_with (first | ((with_reducible refine gate_callee (f := 33) rfl ?_); refine goesL_ (some 13) rfl rfl Try.func33 (by kernel_rfl) rfl #[.agg #[.int .i64 a0_0, .slice A0_1 l0_1.length c0_1]] rfl (by (try simp only [List.map_toArray, List.map_cons, List.map_nil]); first | done | rfl | (simp only [List.length_drop, List.length_take]; rfl)) ?_; (with_reducible refine (hll_Check.calls k a0_0 _ _ l0_1 t406 _ ?side1 ?side2 A6.out).mono ?_); (case side1 => repeat (first | exact (Kd.C_below HR0_1.out HB.out) | (with_reducible refine Kd.C_alloc ?_ _) | (with_reducible refine Kd.C_drewN ?_ _) | (with_reducible refine Kd.C_drew ?_))); (case side2 => exact HC0_1.out); rintro e w11 ⟨rfl, hb⟩; refine ⟨_, rfl, ?_⟩; replace BK404 := bb BK404 hb; replace BK405 := bb BK405 hb; replace HB := am (below_step (by repeat (first | (with_reducible first | exact HB.out | apply below_alloc | apply pw_below_drewN | apply below_drew1 | refine below_set ?_ (Aside0.out (by assumption))) | exact HB.out)) hb); (try clear hb); (try clear hb2); (try clear hk); (try clear hi)))
    go_meet
    case rel => exact ⟨_, (true), (by first | rfl | (simp; done) | (simp [*]; done)), H', ⟨by first | omega | exact Nat.le_refl _⟩, ⟨bu BK404.out⟩, ⟨bu BK405.out⟩, ⟨by repeat (first | (with_reducible first | exact HB.out | apply below_alloc | apply pw_below_drewN | apply below_drew1 | refine below_set ?_ (Aside0.out (by assumption))) | exact HB.out)⟩⟩
   ·
    rw [if_neg c8] at H
    have c8b0 : decide (a1 < 4) = false := decide_eq_false c8
    clear c8
    have H' := Aside0.mk H
    clear H
    have hnb12 := NB404_405.out
    have hnc12 := NB405_404.out
    have hcz13_0 := ca BK404.out
    have hcz13_1 := cb BK404.out
    have hfz13_0 := blk_frozen BK404.out 0
    have hfz13_1 := blk_frozen BK404.out 1
    go_wp2_with (first | ((with_reducible refine gate_callee (f := 33) rfl ?_); refine goesL_ (some 13) rfl rfl Try.func33 (by kernel_rfl) rfl #[.agg #[.int .i64 a0_0, .slice A0_1 l0_1.length c0_1]] rfl (by (try simp only [List.map_toArray, List.map_cons, List.map_nil]); first | done | rfl | (simp only [List.length_drop, List.length_take]; rfl)) ?_; (with_reducible refine (hll_Check.calls k a0_0 _ _ l0_1 t406 _ ?side1 ?side2 A6.out).mono ?_); (case side1 => repeat (first | exact (Kd.C_below HR0_1.out HB.out) | (with_reducible refine Kd.C_alloc ?_ _) | (with_reducible refine Kd.C_drewN ?_ _) | (with_reducible refine Kd.C_drew ?_))); (case side2 => exact HC0_1.out); rintro e w14 ⟨rfl, hb⟩; refine ⟨_, rfl, ?_⟩; replace BK404 := bb BK404 hb; replace BK405 := bb BK405 hb; replace HB := am (below_step (by repeat (first | (with_reducible first | exact HB.out | apply below_alloc | apply pw_below_drewN | apply below_drew1 | refine below_set ?_ (Aside0.out (by assumption))) | exact HB.out)) hb); (try clear hb); (try clear hb2); (try clear hk); (try clear hi); have hcz15_0 := ca BK404.out; have hcz15_1 := cb BK404.out; have hfz15_0 := blk_frozen BK404.out 0; have hfz15_1 := blk_frozen BK404.out 1))
    go_meet
    case rel => exact ⟨_, (decide (a1 > a0_0)), (by first | rfl | (simp; done) | (simp [*]; done)), H', ⟨by first | omega | exact Nat.le_refl _⟩, ⟨bu BK404.out⟩, ⟨bu BK405.out⟩, ⟨by repeat (first | (with_reducible first | exact HB.out | apply below_alloc | apply pw_below_drewN | apply below_drew1 | refine below_set ?_ (Aside0.out (by assumption))) | exact HB.out)⟩⟩
  ·
   rw [if_neg c7] at H
   have c7b0 : (t406 == 0) = false := beq_eq_false_iff_ne.mpr c7
   have c7b1 : (t406 != 0) = true := bne_iff_ne.mpr c7
   (first | rw [c7b0] | (simp only [i64_w, i32_w]; rw [c7b0]) | skip)
   have H' := Aside0.mk H
   clear H
   have hnb16 := NB404_405.out
   have hnc16 := NB405_404.out
   have hcz17_0 := ca BK404.out
   have hcz17_1 := cb BK404.out
   have hfz17_0 := blk_frozen BK404.out 0
   have hfz17_1 := blk_frozen BK404.out 1
   go_wp2_with (first | ((with_reducible refine gate_callee (f := 33) rfl ?_); refine goesL_ (some 13) rfl rfl Try.func33 (by kernel_rfl) rfl #[.agg #[.int .i64 a0_0, .slice A0_1 l0_1.length c0_1]] rfl (by (try simp only [List.map_toArray, List.map_cons, List.map_nil]); first | done | rfl | (simp only [List.length_drop, List.length_take]; rfl)) ?_; (with_reducible refine (hll_Check.calls k a0_0 _ _ l0_1 t406 _ ?side1 ?side2 A6.out).mono ?_); (case side1 => repeat (first | exact (Kd.C_below HR0_1.out HB.out) | (with_reducible refine Kd.C_alloc ?_ _) | (with_reducible refine Kd.C_drewN ?_ _) | (with_reducible refine Kd.C_drew ?_))); (case side2 => exact HC0_1.out); rintro e w18 ⟨rfl, hb⟩; refine ⟨_, rfl, ?_⟩; replace BK404 := bb BK404 hb; replace BK405 := bb BK405 hb; replace HB := am (below_step (by repeat (first | (with_reducible first | exact HB.out | apply below_alloc | apply pw_below_drewN | apply below_drew1 | refine below_set ?_ (Aside0.out (by assumption))) | exact HB.out)) hb); (try clear hb); (try clear hb2); (try clear hk); (try clear hi)))
   go_meet
   case rel => exact ⟨_, (true), (by first | rfl | (simp; done) | (simp [*]; done)), H', ⟨by first | omega | exact Nat.le_refl _⟩, ⟨bu BK404.out⟩, ⟨bu BK405.out⟩, ⟨by repeat (first | (with_reducible first | exact HB.out | apply below_alloc | apply pw_below_drewN | apply below_drew1 | refine below_set ?_ (Aside0.out (by assumption))) | exact HB.out)⟩⟩
 case rest =>
  clear HC3
  try clear c1; try clear p2; try clear c3; try clear c4; try clear c7; try clear c7b0; try clear c7b1; try clear c8; try clear c8b0; try clear c9; try clear c12; try clear c16; try clear hcz10_0; try clear hcz10_1; try clear hcz13_0; try clear hcz13_1; try clear hcz15_0; try clear hcz15_1; try clear hcz17_0; try clear hcz17_1; try clear hfz10_0; try clear hfz10_1; try clear hfz13_0; try clear hfz13_1; try clear hfz15_0; try clear hfz15_1; try clear hfz17_0; try clear hfz17_1
  obtain ⟨kq, x24_2, rfl, HA, HJ2, BK404, BK405, HB⟩ := hcut
  cases kq with
  | zero => exact absurd HA.out (by simp [hll_Fold.j0])
  | succ kj2 =>
   have H := HA.out
   clear HA
   simp only [hll_Fold.j0] at H
   by_cases c19 : x24_2 = true
   ·
    subst c19
    have H1 : (some (0, ([] : List (S32)), 2)) = some (r1, r2, r3) := by rw [if_pos rfl] at H; exact H
    clear H
    have H := H1
    clear H1
    simp only [Option.some.injEq, Prod.mk.injEq] at H
    obtain ⟨rfl, rfl, rfl⟩ := H
    have hnb20 := NB405_404.out
    have hnc20 := NB404_405.out
    have hcz21_0 := ca BK405.out
    have hcz21_1 := cb BK405.out
    have hfz21_0 := blk_frozen BK405.out 0
    have hfz21_1 := blk_frozen BK405.out 1
    go_wp2
    refine bodyPost_ret (results_ct rfl _ _ gb405 30 #[.int .i64 0, .slice none 0 0] (0, 0) _ rfl (by (with_reducible repeat (first | refine blk_drewN ?_ _ | refine blk_drew ?_ | refine blk_alloc ?_ _)); refine blk_put (cs := #[.int .i64 0, .slice none 0 0]) ?_ 1 _ rfl; (with_reducible repeat (first | refine blk_drewN ?_ _ | refine blk_drew ?_ | refine blk_alloc ?_ _)); refine blk_put (cs := #[.int .i64 0, .slice none 0 0]) ?_ 0 _ rfl; (with_reducible repeat (first | refine blk_drewN ?_ _ | refine blk_drew ?_ | refine blk_alloc ?_ _)); exact BK405.out) Try.underlying30 rfl (by kernel_rfl)) rfl ?_
    exact ⟨_, by first | rfl | (simp [errW_none, errW_some] <;> rfl) | (simp [*, errW_none, errW_some] <;> rfl), by first | exact Kd.R_nil _ _ _ _ _ | exact Kd.N_nil _ _ _ _ _ | exact Kd.V_nil _ _ _ _ _ | exact Kd.Q_nil _ _ _ _ _ | exact Kd.S_nil _ _ _ _ _, by repeat (first | (with_reducible first | exact HB.out | apply below_alloc | apply pw_below_drewN | apply below_drew1 | refine below_set ?_ (Aside0.out (by assumption))) | exact HB.out)⟩
   ·
    replace c19 := Bool.eq_false_iff.mpr c19
    subst c19
    have H1 : (hll_Fold.l0 kj2 a1 (wrap64 (a0_0 - a1)) ([] : List (S32)) l0_1 (l0_1.length : Int) 0) = some (r1, r2, r3) := by rw [if_neg (show ¬ (false = true) by decide)] at H; exact H
    clear H
    have H := H1
    clear H1
    have H' := Aside0.mk H
    clear H
    have hnb22 := NB404_405.out
    have hnc22 := NB405_404.out
    have hcz23_0 := ca BK404.out
    have hcz23_1 := cb BK404.out
    have hfz23_0 := blk_frozen BK404.out 0
    have hfz23_1 := blk_frozen BK404.out 1
    go_wp2
    go_loopg [7, 33] kj2 (fun kq v7 v33 w' => ∃ (x7_2 : List (S32)) (x33_2 : Int), v33 = .int .i64 x33_2 ∧ Aside0 (hll_Fold.l0 kq a1 (wrap64 (a0_0 - a1)) x7_2 l0_1 (l0_1.length : Int) x33_2 = some (r1, r2, r3)) ∧ Aside0 (kq ≤ kj2) ∧ Aside0 (Kd.R k32 32 w' w.heap.size (fun _ => True) v7 x7_2) ∧ Aside0 (w'.heap[gb404]? = some (.cells #[.int .i64 a0_0, (.slice A0_1 l0_1.length c0_1)] 30 (0, 0))) ∧ Aside0 (w'.heap[gb405]? = some (.cells #[.int .i64 0, (.slice none 0 0)] 30 (0, 0))) ∧ Aside0 (Below w.heap.size w w'))
    case atStart => exact ⟨(([] : List (S32))), (0), (by first | rfl | (simp; done) | (simp [*]; done)), H', ⟨Nat.le_refl _⟩, ⟨by first | exact Kd.R_nil _ _ _ _ _ | exact Kd.N_nil _ _ _ _ _ | exact Kd.V_nil _ _ _ _ _ | exact Kd.Q_nil _ _ _ _ _ | exact Kd.S_nil _ _ _ _ _⟩, ⟨bu BK404.out⟩, ⟨bu BK405.out⟩, ⟨by repeat (first | (with_reducible first | exact HB.out | apply below_alloc | apply pw_below_drewN | apply below_drew1 | refine below_set ?_ (Aside0.out (by assumption))) | exact HB.out)⟩⟩
    case round =>
     clear H'
     try clear c1; try clear c2; try clear p2; try clear c3; try clear c4; try clear p6; try clear c7; try clear c7b0; try clear c7b1; try clear c8; try clear c8b0; try clear c9; try clear c12; try clear c16; try clear c19; try clear c20; try clear c22; try clear hcz10_0; try clear hcz10_1; try clear hcz13_0; try clear hcz13_1; try clear hcz15_0; try clear hcz15_1; try clear hcz17_0; try clear hcz17_1; try clear hcz21_0; try clear hcz21_1; try clear hcz23_0; try clear hcz23_1; try clear hfz10_0; try clear hfz10_1; try clear hfz13_0; try clear hfz13_1; try clear hfz15_0; try clear hfz15_1; try clear hfz17_0; try clear hfz17_1; try clear hfz21_0; try clear hfz21_1; try clear hfz23_0; try clear hfz23_1; try clear p2
     obtain ⟨x7_2, x33_2, rfl, HA, HK2, HO_7, BK404, BK405, HB⟩ := hrel
     cases gk with
     | zero => exact absurd HA.out (by simp [hll_Fold.l0])
     | succ k2 =>
      have H := HA.out
      clear HA
      simp only [hll_Fold.l0] at H
      by_cases c24 : x33_2 < (l0_1.length : Int)
      ·
       rw [if_pos c24] at H
       have c24b0 : decide (x33_2 < (l0_1.length : Int)) = true := decide_eq_true c24
       clear c24
       by_cases c25 : 0 ≤ x33_2
       ·
        rw [if_pos c25] at H
        have c25b0 : decide (0 ≤ x33_2) = true := decide_eq_true c25
        clear c25
        by_cases c26 : x33_2 < (l0_1.length : Int)
        ·
         rw [if_pos c26] at H
         have c26b0 : decide (x33_2 < (l0_1.length : Int)) = true := decide_eq_true c26
         clear c26
         obtain ⟨ji27, hji27⟩ : ∃ j_ : Int, (wrap64 (a0_0 - a1)) = j_ := ⟨_, rfl⟩
         replace H : (if 0 ≤ (ji27) then (if (Go.bits .and .u64 (IntKind.u64.wrap ((rd_T32 l0_1 x33_2).f0)) (IntKind.u64.wrap ((shl .u64 1 (ji27)) - 1))) = 0 then ((hll_put.f k2 x7_2 (shr .i64 ((rd_T32 l0_1 x33_2).f0) (ji27)) (wrap64 (((rd_T32 l0_1 x33_2).f1) + (ji27)))).bind fun t410 => (hll_Fold.l0 k2 a1 (ji27) t410 l0_1 (l0_1.length : Int) (wrap64 (x33_2 + 1)))) else ((bits_Len.f (Go.bits .and .u64 (IntKind.u64.wrap ((rd_T32 l0_1 x33_2).f0)) (IntKind.u64.wrap ((shl .u64 1 (ji27)) - 1)))).bind fun t413 => ((hll_put.f k2 x7_2 (shr .i64 ((rd_T32 l0_1 x33_2).f0) (ji27)) (wrap64 ((wrap64 (1 + (ji27))) - t413))).bind fun t414 => (hll_Fold.l0 k2 a1 (ji27) t414 l0_1 (l0_1.length : Int) (wrap64 (x33_2 + 1)))))) else (none)) = some (r1, r2, r3) := by first | (rw [hji27] at H; exact H) | (simp only [hji27] at H ⊢; exact H)
         have hji27w : (IntKind.i64.wrap (a0_0 - a1)) = ji27 := (i64_w _).trans hji27
         by_cases c28 : 0 ≤ (ji27)
         ·
          rw [if_pos c28] at H
          have c28b0 := eq_true c28
          have c28b1 : decide (0 ≤ (ji27)) = true := decide_eq_true c28
          clear c28
          obtain ⟨ji29, hji29⟩ : ∃ j_ : Int, (shl .u64 1 (ji27)) = j_ := ⟨_, rfl⟩
          replace H : (if (Go.bits .and .u64 (IntKind.u64.wrap ((rd_T32 l0_1 x33_2).f0)) (IntKind.u64.wrap ((ji29) - 1))) = 0 then ((hll_put.f k2 x7_2 (shr .i64 ((rd_T32 l0_1 x33_2).f0) (ji27)) (wrap64 (((rd_T32 l0_1 x33_2).f1) + (ji27)))).bind fun t410 => (hll_Fold.l0 k2 a1 (ji27) t410 l0_1 (l0_1.length : Int) (wrap64 (x33_2 + 1)))) else ((bits_Len.f (Go.bits .and .u64 (IntKind.u64.wrap ((rd_T32 l0_1 x33_2).f0)) (IntKind.u64.wrap ((ji29) - 1)))).bind fun t413 => ((hll_put.f k2 x7_2 (shr .i64 ((rd_T32 l0_1 x33_2).f0) (ji27)) (wrap64 ((wrap64 (1 + (ji27))) - t413))).bind fun t414 => (hll_Fold.l0 k2 a1 (ji27) t414 l0_1 (l0_1.length : Int) (wrap64 (x33_2 + 1)))))) = some (r1, r2, r3) := by first | (rw [hji29] at H; exact H) | (simp only [hji29] at H ⊢; exact H)
          have hji29_ : (IntKind.u64.wrap (1 * 2 ^ min (ji27).toNat 64)) = ji29 := hji29
          have hji29z : (ji27) ≤ 64 → (IntKind.u64.wrap (1 * 2 ^ (ji27).toNat)) = ji29 := shl_small hji29
          have hji29u : (IntKind.u64.wrap (2 ^ min (ji27).toNat 64)) = ji29 := by have h_ := hji29_; rw [Int.one_mul] at h_; exact h_
          have hji29v : (ji27) ≤ 64 → (IntKind.u64.wrap (2 ^ (ji27).toNat)) = ji29 := fun hle_ => by have h_ := hji29z hle_; rw [Int.one_mul] at h_; exact h_
          have c30b0 := eq_true (of_decide_eq_true (by first | (with_reducible assumption) | assumption) : 0 ≤ (ji27))
          obtain ⟨ji31, hji31⟩ : ∃ j_ : Int, (shr .i64 ((rd_T32 l0_1 x33_2).f0) (ji27)) = j_ := ⟨_, rfl⟩
          replace H : (if (Go.bits .and .u64 (IntKind.u64.wrap ((rd_T32 l0_1 x33_2).f0)) (IntKind.u64.wrap ((ji29) - 1))) = 0 then ((hll_put.f k2 x7_2 (ji31) (wrap64 (((rd_T32 l0_1 x33_2).f1) + (ji27)))).bind fun t410 => (hll_Fold.l0 k2 a1 (ji27) t410 l0_1 (l0_1.length : Int) (wrap64 (x33_2 + 1)))) else ((bits_Len.f (Go.bits .and .u64 (IntKind.u64.wrap ((rd_T32 l0_1 x33_2).f0)) (IntKind.u64.wrap ((ji29) - 1)))).bind fun t413 => ((hll_put.f k2 x7_2 (ji31) (wrap64 ((wrap64 (1 + (ji27))) - t413))).bind fun t414 => (hll_Fold.l0 k2 a1 (ji27) t414 l0_1 (l0_1.length : Int) (wrap64 (x33_2 + 1)))))) = some (r1, r2, r3) := by first | (rw [hji31] at H; exact H) | (simp only [hji31] at H ⊢; exact H)
          have hji31_ : (((rd_T32 l0_1 x33_2).f0) / 2 ^ min (ji27).toNat 64) = ji31 := hji31
          have hji31z : (ji27) ≤ 64 → (((rd_T32 l0_1 x33_2).f0) / 2 ^ (ji27).toNat) = ji31 := shr_small hji31
          by_cases c32 : (Go.bits .and .u64 (IntKind.u64.wrap ((rd_T32 l0_1 x33_2).f0)) (IntKind.u64.wrap ((ji29) - 1))) = 0
          ·
           rw [if_pos c32] at H
           have c32b0 : ((Go.bits .and .u64 (IntKind.u64.wrap ((rd_T32 l0_1 x33_2).f0)) (IntKind.u64.wrap ((ji29) - 1))) == 0) = true := beq_iff_eq.mpr c32
           have c32b1 : ((Go.bits .and .u64 (IntKind.u64.wrap ((rd_T32 l0_1 x33_2).f0)) (IntKind.u64.wrap ((ji29) - 1))) != 0) = false := bne_eq_false_iff_eq.mpr c32
           clear c32
           replace H := Option.bind_eq_some_iff.mp H
           obtain ⟨t410, A330, H⟩ := H
           replace H : (hll_Fold.l0 k2 a1 (ji27) t410 l0_1 (l0_1.length : Int) (wrap64 (x33_2 + 1))) = some (r1, r2, r3) := H
           have A33 := Aside0.mk A330
           clear A330
           have H' := Aside0.mk H
           clear H
           have p407 : 0 ≤ (x33_2 : Int) := of_decide_eq_true (by first | (with_reducible assumption) | assumption)
           have q407 : x33_2 < (l0_1.length : Int) := of_decide_eq_true (by first | (with_reducible assumption) | assumption)
           obtain ⟨ad407, e407, hx407_0, hx407_1⟩ := at_T32 HR0_1.out x33_2 p407 q407
           cases e407
           replace hx407_0 := (HB.out.cell (World.block_lt_of_cell? w _ hx407_0)).trans hx407_0
           replace hx407_1 := (HB.out.cell (World.block_lt_of_cell? w _ hx407_1)).trans hx407_1
           replace p407 := eq_true p407
           replace q407 := eq_true q407
           try go_wp2_with (first | ((with_reducible refine gate_dst (N := 9) rfl ?_); refine box_event ?hg (N := 9) ?hd (cs := #[.int .i64 0, .int .i64 0]) (t := 32) ?hr ?_; (case hd => rfl); (case hg => rfl); (case hr => first | (go_simp; done) | (go_simp; rfl)); intro gb408 hg w34 hbox hb; obtain ⟨HBn, GW408⟩ := tri hg hb (by repeat (first | (with_reducible first | exact HB.out | apply below_alloc | apply pw_below_drewN | apply below_drew1 | refine below_set ?_ (Aside0.out (by assumption))) | exact HB.out)); have GE408 := GW408; have BK408 := am (hbox); have NB404_408 := nl hg (bu BK404.out); have NB408_404 := nr hg (bu BK404.out); have NB405_408 := nl hg (bu BK405.out); have NB408_405 := nr hg (bu BK405.out); replace HO_7 := am (Kd.R_below (Kd.R_elderB (ru (HO_7.out)) gb408 (Nat.le_of_eq hg.symm)) hb); replace BK404 := bb BK404 hb; replace BK405 := bb BK405 hb; clear HB; have HB := HBn; clear HBn; clear hb hbox hg; have hnb35 := NB408_404.out; have hnc35 := NB404_408.out; have hnb36 := NB408_405.out; have hnc36 := NB405_408.out; have hcz37_0 := ca BK408.out; have hcz37_1 := cb BK408.out; have hfz37_0 := blk_frozen BK408.out 0; have hfz37_1 := blk_frozen BK408.out 1))
           have n0_ : Aside0 (Kd.R k32 32 ((w34.setCell ⟨gb408, 0, none⟩ (.int .i64 ((rd_T32 l0_1 x33_2).f0))).setCell ⟨gb408, 1, none⟩ (.int .i64 ((rd_T32 l0_1 x33_2).f1))) w.heap.size (fun k_ => k_ ≠ gb408) u7 x7_2) := ⟨by (with_reducible repeat (first | apply Kd.R_alloc | apply Kd.R_drewN | apply Kd.R_drew)); exact Kd.R_mono (Kd.R_far (p := ⟨gb408, 1, none⟩) (Kd.R_far (p := ⟨gb408, 0, none⟩) (Kd.R_mono HO_7.out (fun k_ hk => (⟨hk, hk.2⟩ : _ ∧ k_ ≠ gb408))) (fun _ hk => hk.2) (.int .i64 ((rd_T32 l0_1 x33_2).f0))) (fun _ hk => hk.2) (.int .i64 ((rd_T32 l0_1 x33_2).f1))) (fun _ hk => hk.1.2)⟩
           have n1_ : Aside0 (((w34.setCell ⟨gb408, 0, none⟩ (.int .i64 ((rd_T32 l0_1 x33_2).f0))).setCell ⟨gb408, 1, none⟩ (.int .i64 ((rd_T32 l0_1 x33_2).f1))).heap[gb404]? = some (.cells #[.int .i64 a0_0, .slice (some ad407) l0_1.length c0_1] 30 (0, 0))) := ⟨bf NB404_408.out BK404.out⟩
           have n2_ : Aside0 (((w34.setCell ⟨gb408, 0, none⟩ (.int .i64 ((rd_T32 l0_1 x33_2).f0))).setCell ⟨gb408, 1, none⟩ (.int .i64 ((rd_T32 l0_1 x33_2).f1))).heap[gb405]? = some (.cells #[.int .i64 0, .slice none 0 0] 30 (0, 0))) := ⟨bf NB405_408.out BK405.out⟩
           have n3_ : Aside0 (((w34.setCell ⟨gb408, 0, none⟩ (.int .i64 ((rd_T32 l0_1 x33_2).f0))).setCell ⟨gb408, 1, none⟩ (.int .i64 ((rd_T32 l0_1 x33_2).f1))).heap[gb408]? = some (.cells #[.int .i64 ((rd_T32 l0_1 x33_2).f0), .int .i64 ((rd_T32 l0_1 x33_2).f1)] 32 (0, 0))) := ⟨by (with_reducible repeat (first | refine blk_drewN ?_ _ | refine blk_drew ?_ | refine blk_alloc ?_ _)); refine blk_put (cs := #[.int .i64 ((rd_T32 l0_1 x33_2).f0), .int .i64 0]) ?_ 1 _ rfl; (with_reducible repeat (first | refine blk_drewN ?_ _ | refine blk_drew ?_ | refine blk_alloc ?_ _)); refine blk_put (cs := #[.int .i64 0, .int .i64 0]) ?_ 0 _ rfl; (with_reducible repeat (first | refine blk_drewN ?_ _ | refine blk_drew ?_ | refine blk_alloc ?_ _)); exact BK408.out⟩
           have n4_ : Aside0 (Below w.heap.size w ((w34.setCell ⟨gb408, 0, none⟩ (.int .i64 ((rd_T32 l0_1 x33_2).f0))).setCell ⟨gb408, 1, none⟩ (.int .i64 ((rd_T32 l0_1 x33_2).f1)))) := ⟨by repeat (first | (with_reducible first | exact HB.out | apply below_alloc | apply pw_below_drewN | apply below_drew1 | refine below_set ?_ (Aside0.out (by assumption))) | exact HB.out)⟩
           (try clear HO_7)
           (try clear BK404)
           (try clear BK405)
           (try clear BK408)
           (try clear HB)
           generalize ((w34.setCell ⟨gb408, 0, none⟩ (.int .i64 ((rd_T32 l0_1 x33_2).f0))).setCell ⟨gb408, 1, none⟩ (.int .i64 ((rd_T32 l0_1 x33_2).f1))) = w38 at n0_ n1_ n2_ n3_ n4_ ⊢
           have HO_7 := n0_; have BK404 := n1_; have BK405 := n2_; have BK408 := n3_; have HB := n4_
           clear n0_ n1_ n2_ n3_ n4_
           replace HO_7 := am (Kd.R_drew HO_7.out); replace BK404 := am (blk_drew BK404.out); replace BK405 := am (blk_drew BK405.out); replace BK408 := am (blk_drew BK408.out); replace HB := am (below_drew1 HB.out)
           refine start_ (n := 8) (S := fun w' => w'.cell? ⟨gb408, 0, none⟩ = some (.int .i64 ((rd_T32 l0_1 x33_2).f0)) ∧ w'.cell? ⟨gb408, 1, none⟩ = some (.int .i64 ((rd_T32 l0_1 x33_2).f1))) (ds := []) (tb 0 8) (by kernel_rfl) rfl rfl ⟨(blk_cell BK408.out 0).trans rfl, (blk_cell BK408.out 1).trans rfl⟩ (fun hHeld => ?_); refine with_tabW hll_Fold.tab8 hll_Fold.bits8 (fun HT_ HW_ => ?_)
           generalize w38.drew = w39 at HO_7 BK404 BK405 BK408 HB hHeld ⊢
           refine pure_ (i := 0) (N := some 37) (v := ?_) (a' := ?_) (tb 1 8) rfl rfl (any_of HT_.out (by kernel_rfl)) (fun _ _ _ h => h) (Or.inl ⟨by rfl, ?_⟩) ?_ ?_
           rotate_left
           ·
            intro w'
            go_simp
            with_reducible rfl
           rotate_left
           ·
            simp only [Act.put, List.setIfInBounds_toArray, List.set_cons_zero, List.set_cons_succ, i64_w, i32_w]
            rfl
           refine pure_ (i := 3) (N := some 40) (v := ?_) (a' := ?_) #[true, false, false, true, false, false, false, false] rfl rfl (any_of HT_.out (by kernel_rfl)) (fun _ _ _ h => h) (Or.inl ⟨by rfl, ?_⟩) ?_ ?_
           rotate_left
           ·
            intro w'
            go_simp
            with_reducible rfl
           rotate_left
           ·
            simp only [Act.put, List.setIfInBounds_toArray, List.set_cons_zero, List.set_cons_succ, i64_w, i32_w]
            rfl
           refine pure_ (i := 4) (N := some 41) (v := ?_) (a' := ?_) #[true, false, false, true, true, false, false, false] rfl rfl (any_of HT_.out (by kernel_rfl)) (fun _ _ _ h => h) (Or.inl ⟨by rfl, ?_⟩) ?_ ?_
           rotate_left
           ·
            intro w'
            go_simp
            with_reducible rfl
           rotate_left
           ·
            simp only [Act.put, List.setIfInBounds_toArray, List.set_cons_zero, List.set_cons_succ, i64_w, i32_w]
            rfl
           refine pure_ (i := 5) (N := some 42) (v := ?_) (a' := ?_) #[true, false, false, true, true, true, false, false] rfl rfl (any_of HT_.out (by kernel_rfl)) (fun _ _ _ h => h) (Or.inl ⟨by rfl, ?_⟩) ?_ ?_
           rotate_left
           ·
            intro w'
            go_simp
            with_reducible rfl
           rotate_left
           ·
            simp only [Act.put, List.setIfInBounds_toArray, List.set_cons_zero, List.set_cons_succ, i64_w, i32_w]
            rfl
           refine take_ (i := 1) (N := some 38) (v := ?_) (a' := ?_) #[true, true, false, true, true, true, false, false] rfl rfl (take_ofW HT_.out HW_.out (by kernel_rfl)) (fun _ _ _ h => h) (Or.inl ⟨by rfl, ?_⟩) hHeld ?_ ?_
           rotate_left
           ·
            rintro w' ⟨s0, s1⟩
            go_simp
            with_reducible rfl
           rotate_left
           ·
            simp only [Act.put, List.setIfInBounds_toArray, List.set_cons_zero, List.set_cons_succ, i64_w, i32_w]
            rfl
           refine pure_ (i := 2) (N := some 39) (v := ?_) (a' := ?_) (tb 6 8) rfl rfl (any_of HT_.out (by kernel_rfl)) (fun _ _ _ h => h) (Or.inl ⟨by rfl, ?_⟩) ?_ ?_
           rotate_left
           ·
            intro w'
            go_simp
            with_reducible rfl
           rotate_left
           ·
            simp only [Act.put, List.setIfInBounds_toArray, List.set_cons_zero, List.set_cons_succ, i64_w, i32_w]
            rfl
           refine pure_ (i := 6) (N := some 43) (v := ?_) (a' := ?_) (tb 7 8) rfl rfl (any_of HT_.out (by kernel_rfl)) (fun _ _ _ h => h) (Or.inl ⟨by rfl, ?_⟩) ?_ ?_
           rotate_left
           ·
            intro w'
            go_simp
            with_reducible rfl
           rotate_left
           ·
            simp only [Act.put, List.setIfInBounds_toArray, List.set_cons_zero, List.set_cons_succ, i64_w, i32_w]
            rfl
           refine pure_ (i := 7) (N := some 10) (v := ?_) (a' := ?_) (tb 8 8) rfl rfl (any_of HT_.out (by kernel_rfl)) (fun _ _ _ h => h) (Or.inl ⟨by rfl, ?_⟩) ?_ ?_
           rotate_left
           ·
            intro w'
            go_simp
            with_reducible rfl
           rotate_left
           ·
            simp only [Act.put, List.setIfInBounds_toArray, List.set_cons_zero, List.set_cons_succ, i64_w, i32_w]
            rfl
           refine done_ (done_of HT_.out (by kernel_rfl)) ?_
           try go_wp2
           replace HO_7 := am (Kd.R_drew HO_7.out); replace BK404 := am (blk_drew BK404.out); replace BK405 := am (blk_drew BK405.out); replace BK408 := am (blk_drew BK408.out); replace HB := am (below_drew1 HB.out)
           refine start_ (n := 11) (S := fun w' => w'.cell? ⟨gb408, 0, none⟩ = some (.int .i64 ((rd_T32 l0_1 x33_2).f0)) ∧ w'.cell? ⟨gb408, 1, none⟩ = some (.int .i64 ((rd_T32 l0_1 x33_2).f1))) (ds := []) (tb 0 11) (by kernel_rfl) rfl rfl ⟨(blk_cell BK408.out 0).trans rfl, (blk_cell BK408.out 1).trans rfl⟩ (fun hHeld => ?_); refine with_tabW hll_Fold.tab9 hll_Fold.bits9 (fun HT_ HW_ => ?_)
           generalize w39.drew = w40 at HO_7 BK404 BK405 BK408 HB hHeld ⊢
           refine pure_ (i := 0) (N := some 44) (v := ?_) (a' := ?_) (tb 1 11) rfl rfl (any_of HT_.out (by kernel_rfl)) (fun _ _ _ h => h) (Or.inl ⟨by rfl, ?_⟩) ?_ ?_
           rotate_left
           ·
            intro w'
            go_simp
            with_reducible rfl
           rotate_left
           ·
            simp only [Act.put, List.setIfInBounds_toArray, List.set_cons_zero, List.set_cons_succ, i64_w, i32_w]
            rfl
           refine pure_ (i := 2) (N := some 46) (v := ?_) (a' := ?_) #[true, false, true, false, false, false, false, false, false, false, false] rfl rfl (any_of HT_.out (by kernel_rfl)) (fun _ _ _ h => h) (Or.inl ⟨by rfl, ?_⟩) ?_ ?_
           rotate_left
           ·
            intro w'
            go_simp
            with_reducible rfl
           rotate_left
           ·
            simp only [Act.put, List.setIfInBounds_toArray, List.set_cons_zero, List.set_cons_succ, i64_w, i32_w]
            rfl
           refine pure_ (i := 4) (N := some 48) (v := ?_) (a' := ?_) #[true, false, true, false, true, false, false, false, false, false, false] rfl rfl (any_of HT_.out (by kernel_rfl)) (fun _ _ _ h => h) (Or.inl ⟨by rfl, ?_⟩) ?_ ?_
           rotate_left
           ·
            intro w'
            go_simp
            with_reducible rfl
           rotate_left
           ·
            simp only [Act.put, List.setIfInBounds_toArray, List.set_cons_zero, List.set_cons_succ, i64_w, i32_w]
            rfl
           refine pure_ (i := 6) (N := some 50) (v := ?_) (a' := ?_) #[true, false, true, false, true, false, true, false, false, false, false] rfl rfl (any_of HT_.out (by kernel_rfl)) (fun _ _ _ h => h) (Or.inl ⟨by rfl, ?_⟩) ?_ ?_
           rotate_left
           ·
            intro w'
            go_simp
            with_reducible rfl
           rotate_left
           ·
            simp only [Act.put, List.setIfInBounds_toArray, List.set_cons_zero, List.set_cons_succ, i64_w, i32_w]
            rfl
           refine take_ (i := 1) (N := some 45) (v := ?_) (a' := ?_) #[true, true, true, false, true, false, true, false, false, false, false] rfl rfl (take_ofW HT_.out HW_.out (by kernel_rfl)) (fun _ _ _ h => h) (Or.inl ⟨by rfl, ?_⟩) hHeld ?_ ?_
           rotate_left
           ·
            rintro w' ⟨s0, s1⟩
            go_simp
            with_reducible rfl
           rotate_left
           ·
            simp only [Act.put, List.setIfInBounds_toArray, List.set_cons_zero, List.set_cons_succ, i64_w, i32_w]
            rfl
           refine pure_ (i := 3) (N := some 47) (v := ?_) (a' := ?_) #[true, true, true, true, true, false, true, false, false, false, false] rfl rfl (any_of HT_.out (by kernel_rfl)) (fun _ _ _ h => h) (Or.inl ⟨by rfl, ?_⟩) ?_ ?_
           rotate_left
           ·
            intro w'
            go_simp
            with_reducible rfl
           rotate_left
           ·
            simp only [Act.put, List.setIfInBounds_toArray, List.set_cons_zero, List.set_cons_succ, i64_w, i32_w]
            rfl
           refine take_ (i := 5) (N := some 49) (v := ?_) (a' := ?_) (tb 7 11) rfl rfl (take_ofW HT_.out HW_.out (by kernel_rfl)) (fun _ _ _ h => h) (Or.inl ⟨by rfl, ?_⟩) hHeld ?_ ?_
           rotate_left
           ·
            rintro w' ⟨s0, s1⟩
            go_simp
            with_reducible rfl
           rotate_left
           ·
            simp only [Act.put, List.setIfInBounds_toArray, List.set_cons_zero, List.set_cons_succ, i64_w, i32_w]
            rfl
           refine pure_ (i := 7) (N := some 51) (v := ?_) (a' := ?_) (tb 8 11) rfl rfl (any_of HT_.out (by kernel_rfl)) (fun _ _ _ h => h) (Or.inl ⟨by rfl, ?_⟩) ?_ ?_
           rotate_left
           ·
            intro w'
            go_simp
            with_reducible rfl
           rotate_left
           ·
            simp only [Act.put, List.setIfInBounds_toArray, List.set_cons_zero, List.set_cons_succ, i64_w, i32_w]
            rfl
           refine pure_ (i := 8) (N := some 52) (v := ?_) (a' := ?_) (tb 9 11) rfl rfl (any_of HT_.out (by kernel_rfl)) (fun _ _ _ h => h) (Or.inl ⟨by rfl, ?_⟩) ?_ ?_
           rotate_left
           ·
            intro w'
            go_simp
            with_reducible rfl
           rotate_left
           ·
            simp only [Act.put, List.setIfInBounds_toArray, List.set_cons_zero, List.set_cons_succ, i64_w, i32_w]
            rfl
           refine one_ (i := 9) (N := some 11) (tb 10 11) rfl rfl (one_of HT_.out (by kernel_rfl)) (by decide) (fun K hK => ?_)
           refine box_step ?hg (N := 11) ?hd (cs := #[.int .i64 0, .int .i64 0]) (t := 32) ?hr ?_; (case hd => rfl); (case hg => rfl); (case hr => first | (go_simp; done) | (go_simp; rfl))
           intro gb409 hg w41 hbox hb
           obtain ⟨HBn, GW409⟩ := tri hg hb (by repeat (first | (with_reducible first | exact HB.out | apply below_alloc | apply pw_below_drewN | apply below_drew1 | refine below_set ?_ (Aside0.out (by assumption))) | exact HB.out)); have GE409 := GW409; have BK409 := am (hbox); have NB404_409 := nl hg (bu BK404.out); have NB409_404 := nr hg (bu BK404.out); have NB405_409 := nl hg (bu BK405.out); have NB409_405 := nr hg (bu BK405.out); have NB408_409 := nl hg (bu BK408.out); have NB409_408 := nr hg (bu BK408.out); replace HO_7 := am (Kd.R_below (Kd.R_elderB (ru (HO_7.out)) gb409 (Nat.le_of_eq hg.symm)) hb); replace BK404 := bb BK404 hb; replace BK405 := bb BK405 hb; replace BK408 := bb BK408 hb; clear HB; have HB := HBn; clear HBn
           clear hb hbox hg
           refine hK.out _ _ ⟨(blk_cell BK408.out 0).trans rfl, (blk_cell BK408.out 1).trans rfl⟩ (fun hHeld => ?_)
           clear hK K
           refine norm_ (a' := ?_) ?_ ?_
           rotate_left
           ·
            show Act.put _ (some 11) _ = _
            simp only [Act.put, List.setIfInBounds_toArray, List.set_cons_zero, List.set_cons_succ, i64_w, i32_w]
            rfl
           refine one_ (i := 10) (N := none) (tb 11 11) rfl rfl (one_of HT_.out (by kernel_rfl)) (by decide) (fun K hK => ?_)
           have hs42 : w41.cell? ⟨gb409, 0, none⟩ = some (.int .i64 0) := (blk_cell BK409.out 0).trans rfl
           have hfs42 := blk_frozen BK409.out 0; have hns42_0 := NB404_409.out; have hns42_1 := NB405_409.out; have hns42_2 := NB408_409.out; have hms42_0 := NB409_404.out; have hms42_1 := NB409_405.out; have hms42_2 := NB409_408.out
           have hs43 : w41.cell? ⟨gb409, 1, none⟩ = some (.int .i64 0) := (blk_cell BK409.out 1).trans rfl
           have hfs43 := blk_frozen BK409.out 1; have hns43_0 := NB404_409.out; have hns43_1 := NB405_409.out; have hns43_2 := NB408_409.out; have hms43_0 := NB409_404.out; have hms43_1 := NB409_405.out; have hms43_2 := NB409_408.out
           refine skip_ (w1 := ?_) (by rfl) rfl ?_ ?_
           rotate_left
           ·
            go_simp
            rfl
           refine hK.out _ _ ⟨((cell_far (p := ⟨gb409, _, none⟩) NB408_409.out _).trans (((cell_far (p := ⟨gb409, _, none⟩) NB408_409.out _).trans (hHeld.1)))), ((cell_far (p := ⟨gb409, _, none⟩) NB408_409.out _).trans (((cell_far (p := ⟨gb409, _, none⟩) NB408_409.out _).trans (hHeld.2))))⟩ (fun hHeld => ?_)
           clear hK K
           refine done_ (done_of HT_.out (by kernel_rfl)) ?_
           have n0_ : Aside0 (Kd.R k32 32 ((w41.setCell ⟨gb409, 0, none⟩ (.int .i64 ji31)).setCell ⟨gb409, 1, none⟩ (.int .i64 (wrap64 (((rd_T32 l0_1 x33_2).f1) + (ji27))))) w.heap.size (fun k_ => k_ ≠ gb408 ∧ k_ ≠ gb409) u7 x7_2) := ⟨by (with_reducible repeat (first | apply Kd.R_alloc | apply Kd.R_drewN | apply Kd.R_drew)); exact Kd.R_mono (Kd.R_far (p := ⟨gb409, 1, none⟩) (Kd.R_far (p := ⟨gb409, 0, none⟩) (Kd.R_mono HO_7.out (fun k_ hk => (⟨hk, hk.2⟩ : _ ∧ k_ ≠ gb409))) (fun _ hk => hk.2) (.int .i64 ji31)) (fun _ hk => hk.2) (.int .i64 (wrap64 (((rd_T32 l0_1 x33_2).f1) + (ji27))))) (fun _ hk => ⟨hk.1.1, hk.1.2⟩)⟩
           have n1_ : Aside0 (((w41.setCell ⟨gb409, 0, none⟩ (.int .i64 ji31)).setCell ⟨gb409, 1, none⟩ (.int .i64 (wrap64 (((rd_T32 l0_1 x33_2).f1) + (ji27))))).heap[gb404]? = some (.cells #[.int .i64 a0_0, .slice (some ad407) l0_1.length c0_1] 30 (0, 0))) := ⟨bf NB404_409.out BK404.out⟩
           have n2_ : Aside0 (((w41.setCell ⟨gb409, 0, none⟩ (.int .i64 ji31)).setCell ⟨gb409, 1, none⟩ (.int .i64 (wrap64 (((rd_T32 l0_1 x33_2).f1) + (ji27))))).heap[gb405]? = some (.cells #[.int .i64 0, .slice none 0 0] 30 (0, 0))) := ⟨bf NB405_409.out BK405.out⟩
           have n3_ : Aside0 (((w41.setCell ⟨gb409, 0, none⟩ (.int .i64 ji31)).setCell ⟨gb409, 1, none⟩ (.int .i64 (wrap64 (((rd_T32 l0_1 x33_2).f1) + (ji27))))).heap[gb408]? = some (.cells #[.int .i64 ((rd_T32 l0_1 x33_2).f0), .int .i64 ((rd_T32 l0_1 x33_2).f1)] 32 (0, 0))) := ⟨bf NB408_409.out BK408.out⟩
           have n4_ : Aside0 (((w41.setCell ⟨gb409, 0, none⟩ (.int .i64 ji31)).setCell ⟨gb409, 1, none⟩ (.int .i64 (wrap64 (((rd_T32 l0_1 x33_2).f1) + (ji27))))).heap[gb409]? = some (.cells #[.int .i64 ji31, .int .i64 (wrap64 (((rd_T32 l0_1 x33_2).f1) + (ji27)))] 32 (0, 0))) := ⟨by (with_reducible repeat (first | refine blk_drewN ?_ _ | refine blk_drew ?_ | refine blk_alloc ?_ _)); refine blk_put (cs := #[.int .i64 ji31, .int .i64 0]) ?_ 1 _ rfl; (with_reducible repeat (first | refine blk_drewN ?_ _ | refine blk_drew ?_ | refine blk_alloc ?_ _)); refine blk_put (cs := #[.int .i64 0, .int .i64 0]) ?_ 0 _ rfl; (with_reducible repeat (first | refine blk_drewN ?_ _ | refine blk_drew ?_ | refine blk_alloc ?_ _)); exact BK409.out⟩
           have n5_ : Aside0 (Below w.heap.size w ((w41.setCell ⟨gb409, 0, none⟩ (.int .i64 ji31)).setCell ⟨gb409, 1, none⟩ (.int .i64 (wrap64 (((rd_T32 l0_1 x33_2).f1) + (ji27)))))) := ⟨by repeat (first | (with_reducible first | exact HB.out | apply below_alloc | apply pw_below_drewN | apply below_drew1 | refine below_set ?_ (Aside0.out (by assumption))) | exact HB.out)⟩
           (try clear HO_7)
           (try clear BK404)
           (try clear BK405)
           (try clear BK408)
           (try clear BK409)
           (try clear HB)
           generalize ((w41.setCell ⟨gb409, 0, none⟩ (.int .i64 ji31)).setCell ⟨gb409, 1, none⟩ (.int .i64 (wrap64 (((rd_T32 l0_1 x33_2).f1) + (ji27))))) = w44 at n0_ n1_ n2_ n3_ n4_ n5_ ⊢
           have HO_7 := n0_; have BK404 := n1_; have BK405 := n2_; have BK408 := n3_; have BK409 := n4_; have HB := n5_
           clear n0_ n1_ n2_ n3_ n4_ n5_
           have hnb45 := NB409_404.out; have hnc45 := NB404_409.out; have hnb46 := NB409_405.out; have hnc46 := NB405_409.out; have hnb47 := NB409_408.out; have hnc47 := NB408_409.out; have hcz48_0 := ca BK409.out; have hcz48_1 := cb BK409.out; have hfz48_0 := blk_frozen BK409.out 0; have hfz48_1 := blk_frozen BK409.out 1
           obtain ⟨Ao49, co49, eo49⟩ := Kd.R_slice HO_7.out
           subst eo49
           try go_wp2_with (first | ((with_reducible refine gate_callee (f := 64) rfl ?_); refine goesL_ (some 63) rfl rfl Try.func64 (by kernel_rfl) rfl #[.slice Ao49 x7_2.length co49, .agg #[.int .i64 ji31, .int .i64 (wrap64 (((rd_T32 l0_1 x33_2).f1) + (ji27)))]] rfl (by (try simp only [List.map_toArray, List.map_cons, List.map_nil]); first | done | (simp only [hji27, hji31]; rfl) | rfl | (simp only [List.length_drop, List.length_take]; rfl)) ?_; (with_reducible refine (hll_put.calls k2 (fun k_ => some k_ = (.slice Ao49 x7_2.length co49 : Value).ownBlock) (.slice Ao49 x7_2.length co49) x7_2 ji31 (wrap64 (((rd_T32 l0_1 x33_2).f1) + (ji27))) t410 w _ ?side1 ?side2 A33.out).mono ?_); (case side1 => repeat (first | (with_reducible first | exact HB.out | apply below_alloc | apply pw_below_drewN | apply below_drew1 | refine below_set ?_ (Aside0.out (by assumption))) | exact HB.out)); (case side2 => exact Kd.R_tight rfl HO_7.out); rintro e w50 ⟨v411, rfl, ho0, hb, hkp⟩; refine ⟨_, rfl, ?_⟩; have HO412 := am (Kd.R_mono (ok' := fun k_ => k_ ≠ gb408 ∧ k_ ≠ gb409) ho0 (fun k_ hk_ => ⟨Or.elim hk_ (fun hs_ => fun e_ => (Kd.R_away HO_7.out (fun _ hk => hk.1)) (by rw [← e_]; exact hs_)) (fun hn_ => (Kd.freshB (g := gb408) (o := .cells #[.int .i64 ((rd_T32 l0_1 x33_2).f0), .int .i64 ((rd_T32 l0_1 x33_2).f1)] 32 (0, 0)) (bu BK408.out) k_ hn_)), Or.elim hk_ (fun hs_ => fun e_ => (Kd.R_away HO_7.out (fun _ hk => hk.2)) (by rw [← e_]; exact hs_)) (fun hn_ => (Kd.freshB (g := gb409) (o := .cells #[.int .i64 ji31, .int .i64 (wrap64 (((rd_T32 l0_1 x33_2).f1) + (ji27)))] 32 (0, 0)) (bu BK409.out) k_ hn_))⟩)); replace BK404 := am (blk_kept (bu BK404.out) hkp (fun hs_ => (fun e_ => (Kd.R_ne HO_7.out BK404.out (by decide)) e_) hs_)); replace BK405 := am (blk_kept (bu BK405.out) hkp (fun hs_ => (fun e_ => (Kd.R_ne HO_7.out BK405.out (by decide)) e_) hs_)); replace BK408 := am (blk_kept (bu BK408.out) hkp (fun hs_ => (fun e_ => (Kd.R_away HO_7.out (fun _ hk => hk.1)) e_) hs_)); replace BK409 := am (blk_kept (bu BK409.out) hkp (fun hs_ => (fun e_ => (Kd.R_away HO_7.out (fun _ hk => hk.2)) e_) hs_)); replace HB := am (hb); clear HO_7; (try clear hb); (try clear hkp); (try clear ho0)))
           subst hji27
           go_roundg k2
           case measure => have := HJ2.out; have := HK2.out; omega
           case rel => exact ⟨(t410), (wrap64 (x33_2 + 1)), (by first | rfl | (simp; done) | (simp [*]; done)), H', ⟨by have := HJ2.out; have := HK2.out; omega⟩, ⟨by (with_reducible repeat (first | apply Kd.R_alloc | apply Kd.R_drewN | apply Kd.R_drew)); exact Kd.R_mono HO412.out (fun _ hk => trivial)⟩, ⟨bu BK404.out⟩, ⟨bu BK405.out⟩, ⟨by repeat (first | (with_reducible first | exact HB.out | apply below_alloc | apply pw_below_drewN | apply below_drew1 | refine below_set ?_ (Aside0.out (by assumption))) | exact HB.out)⟩⟩
          ·
           rw [if_neg c32] at H
           have c32b0 : ((Go.bits .and .u64 (IntKind.u64.wrap ((rd_T32 l0_1 x33_2).f0)) (IntKind.u64.wrap ((ji29) - 1))) == 0) = false := beq_eq_false_iff_ne.mpr c32
           have c32b1 : ((Go.bits .and .u64 (IntKind.u64.wrap ((rd_T32 l0_1 x33_2).f0)) (IntKind.u64.wrap ((ji29) - 1))) != 0) = true := bne_iff_ne.mpr c32
           replace H := Option.bind_eq_some_iff.mp H
           obtain ⟨t413, A510, H⟩ := H
           replace H : ((hll_put.f k2 x7_2 (ji31) (wrap64 ((wrap64 (1 + (ji27))) - t413))).bind fun t414 => (hll_Fold.l0 k2 a1 (ji27) t414 l0_1 (l0_1.length : Int) (wrap64 (x33_2 + 1)))) = some (r1, r2, r3) := H
           have A51 := Aside0.mk A510
           clear A510
           replace H := Option.bind_eq_some_iff.mp H
           obtain ⟨t414, A520, H⟩ := H
           replace H : (hll_Fold.l0 k2 a1 (ji27) t414 l0_1 (l0_1.length : Int) (wrap64 (x33_2 + 1))) = some (r1, r2, r3) := H
           have A52 := Aside0.mk A520
           clear A520
           have H' := Aside0.mk H
           clear H
           have p407 : 0 ≤ (x33_2 : Int) := of_decide_eq_true (by first | (with_reducible assumption) | assumption)
           have q407 : x33_2 < (l0_1.length : Int) := of_decide_eq_true (by first | (with_reducible assumption) | assumption)
           obtain ⟨ad407, e407, hx407_0, hx407_1⟩ := at_T32 HR0_1.out x33_2 p407 q407
           cases e407
           replace hx407_0 := (HB.out.cell (World.block_lt_of_cell? w _ hx407_0)).trans hx407_0
           replace hx407_1 := (HB.out.cell (World.block_lt_of_cell? w _ hx407_1)).trans hx407_1
           replace p407 := eq_true p407
           replace q407 := eq_true q407
           try go_wp2_with (first | ((with_reducible refine gate_dst (N := 9) rfl ?_); refine box_event ?hg (N := 9) ?hd (cs := #[.int .i64 0, .int .i64 0]) (t := 32) ?hr ?_; (case hd => rfl); (case hg => rfl); (case hr => first | (go_simp; done) | (go_simp; rfl)); intro gb408 hg w53 hbox hb; obtain ⟨HBn, GW408⟩ := tri hg hb (by repeat (first | (with_reducible first | exact HB.out | apply below_alloc | apply pw_below_drewN | apply below_drew1 | refine below_set ?_ (Aside0.out (by assumption))) | exact HB.out)); have GE408 := GW408; have BK408 := am (hbox); have NB404_408 := nl hg (bu BK404.out); have NB408_404 := nr hg (bu BK404.out); have NB405_408 := nl hg (bu BK405.out); have NB408_405 := nr hg (bu BK405.out); replace HO_7 := am (Kd.R_below (Kd.R_elderB (ru (HO_7.out)) gb408 (Nat.le_of_eq hg.symm)) hb); replace BK404 := bb BK404 hb; replace BK405 := bb BK405 hb; clear HB; have HB := HBn; clear HBn; clear hb hbox hg; have hnb54 := NB408_404.out; have hnc54 := NB404_408.out; have hnb55 := NB408_405.out; have hnc55 := NB405_408.out; have hcz56_0 := ca BK408.out; have hcz56_1 := cb BK408.out; have hfz56_0 := blk_frozen BK408.out 0; have hfz56_1 := blk_frozen BK408.out 1))
           have n0_ : Aside0 (Kd.R k32 32 ((w53.setCell ⟨gb408, 0, none⟩ (.int .i64 ((rd_T32 l0_1 x33_2).f0))).setCell ⟨gb408, 1, none⟩ (.int .i64 ((rd_T32 l0_1 x33_2).f1))) w.heap.size (fun k_ => k_ ≠ gb408) u7 x7_2) := ⟨by (with_reducible repeat (first | apply Kd.R_alloc | apply Kd.R_drewN | apply Kd.R_drew)); exact Kd.R_mono (Kd.R_far (p := ⟨gb408, 1, none⟩) (Kd.R_far (p := ⟨gb408, 0, none⟩) (Kd.R_mono HO_7.out (fun k_ hk => (⟨hk, hk.2⟩ : _ ∧ k_ ≠ gb408))) (fun _ hk => hk.2) (.int .i64 ((rd_T32 l0_1 x33_2).f0))) (fun _ hk => hk.2) (.int .i64 ((rd_T32 l0_1 x33_2).f1))) (fun _ hk => hk.1.2)⟩
           have n1_ : Aside0 (((w53.setCell ⟨gb408, 0, none⟩ (.int .i64 ((rd_T32 l0_1 x33_2).f0))).setCell ⟨gb408, 1, none⟩ (.int .i64 ((rd_T32 l0_1 x33_2).f1))).heap[gb404]? = some (.cells #[.int .i64 a0_0, .slice (some ad407) l0_1.length c0_1] 30 (0, 0))) := ⟨bf NB404_408.out BK404.out⟩
           have n2_ : Aside0 (((w53.setCell ⟨gb408, 0, none⟩ (.int .i64 ((rd_T32 l0_1 x33_2).f0))).setCell ⟨gb408, 1, none⟩ (.int .i64 ((rd_T32 l0_1 x33_2).f1))).heap[gb405]? = some (.cells #[.int .i64 0, .slice none 0 0] 30 (0, 0))) := ⟨bf NB405_408.out BK405.out⟩
           have n3_ : Aside0 (((w53.setCell ⟨gb408, 0, none⟩ (.int .i64 ((rd_T32 l0_1 x33_2).f0))).setCell ⟨gb408, 1, none⟩ (.int .i64 ((rd_T32 l0_1 x33_2).f1))).heap[gb408]? = some (.cells #[.int .i64 ((rd_T32 l0_1 x33_2).f0), .int .i64 ((rd_T32 l0_1 x33_2).f1)] 32 (0, 0))) := ⟨by (with_reducible repeat (first | refine blk_drewN ?_ _ | refine blk_drew ?_ | refine blk_alloc ?_ _)); refine blk_put (cs := #[.int .i64 ((rd_T32 l0_1 x33_2).f0), .int .i64 0]) ?_ 1 _ rfl; (with_reducible repeat (first | refine blk_drewN ?_ _ | refine blk_drew ?_ | refine blk_alloc ?_ _)); refine blk_put (cs := #[.int .i64 0, .int .i64 0]) ?_ 0 _ rfl; (with_reducible repeat (first | refine blk_drewN ?_ _ | refine blk_drew ?_ | refine blk_alloc ?_ _)); exact BK408.out⟩
           have n4_ : Aside0 (Below w.heap.size w ((w53.setCell ⟨gb408, 0, none⟩ (.int .i64 ((rd_T32 l0_1 x33_2).f0))).setCell ⟨gb408, 1, none⟩ (.int .i64 ((rd_T32 l0_1 x33_2).f1)))) := ⟨by repeat (first | (with_reducible first | exact HB.out | apply below_alloc | apply pw_below_drewN | apply below_drew1 | refine below_set ?_ (Aside0.out (by assumption))) | exact HB.out)⟩
           (try clear HO_7)
           (try clear BK404)
           (try clear BK405)
           (try clear BK408)
           (try clear HB)
           generalize ((w53.setCell ⟨gb408, 0, none⟩ (.int .i64 ((rd_T32 l0_1 x33_2).f0))).setCell ⟨gb408, 1, none⟩ (.int .i64 ((rd_T32 l0_1 x33_2).f1))) = w57 at n0_ n1_ n2_ n3_ n4_ ⊢
           have HO_7 := n0_; have BK404 := n1_; have BK405 := n2_; have BK408 := n3_; have HB := n4_
           clear n0_ n1_ n2_ n3_ n4_
           replace HO_7 := am (Kd.R_drew HO_7.out); replace BK404 := am (blk_drew BK404.out); replace BK405 := am (blk_drew BK405.out); replace BK408 := am (blk_drew BK408.out); replace HB := am (below_drew1 HB.out)
           refine start_ (n := 8) (S := fun w' => w'.cell? ⟨gb408, 0, none⟩ = some (.int .i64 ((rd_T32 l0_1 x33_2).f0)) ∧ w'.cell? ⟨gb408, 1, none⟩ = some (.int .i64 ((rd_T32 l0_1 x33_2).f1))) (ds := []) (tb 0 8) (by kernel_rfl) rfl rfl ⟨(blk_cell BK408.out 0).trans rfl, (blk_cell BK408.out 1).trans rfl⟩ (fun hHeld => ?_); refine with_tabW hll_Fold.tab8 hll_Fold.bits8 (fun HT_ HW_ => ?_)
           generalize w57.drew = w58 at HO_7 BK404 BK405 BK408 HB hHeld ⊢
           refine pure_ (i := 0) (N := some 37) (v := ?_) (a' := ?_) (tb 1 8) rfl rfl (any_of HT_.out (by kernel_rfl)) (fun _ _ _ h => h) (Or.inl ⟨by rfl, ?_⟩) ?_ ?_
           rotate_left
           ·
            intro w'
            go_simp
            with_reducible rfl
           rotate_left
           ·
            simp only [Act.put, List.setIfInBounds_toArray, List.set_cons_zero, List.set_cons_succ, i64_w, i32_w]
            rfl
           refine pure_ (i := 3) (N := some 40) (v := ?_) (a' := ?_) #[true, false, false, true, false, false, false, false] rfl rfl (any_of HT_.out (by kernel_rfl)) (fun _ _ _ h => h) (Or.inl ⟨by rfl, ?_⟩) ?_ ?_
           rotate_left
           ·
            intro w'
            go_simp
            with_reducible rfl
           rotate_left
           ·
            simp only [Act.put, List.setIfInBounds_toArray, List.set_cons_zero, List.set_cons_succ, i64_w, i32_w]
            rfl
           refine pure_ (i := 4) (N := some 41) (v := ?_) (a' := ?_) #[true, false, false, true, true, false, false, false] rfl rfl (any_of HT_.out (by kernel_rfl)) (fun _ _ _ h => h) (Or.inl ⟨by rfl, ?_⟩) ?_ ?_
           rotate_left
           ·
            intro w'
            go_simp
            with_reducible rfl
           rotate_left
           ·
            simp only [Act.put, List.setIfInBounds_toArray, List.set_cons_zero, List.set_cons_succ, i64_w, i32_w]
            rfl
           refine pure_ (i := 5) (N := some 42) (v := ?_) (a' := ?_) #[true, false, false, true, true, true, false, false] rfl rfl (any_of HT_.out (by kernel_rfl)) (fun _ _ _ h => h) (Or.inl ⟨by rfl, ?_⟩) ?_ ?_
           rotate_left
           ·
            intro w'
            go_simp
            with_reducible rfl
           rotate_left
           ·
            simp only [Act.put, List.setIfInBounds_toArray, List.set_cons_zero, List.set_cons_succ, i64_w, i32_w]
            rfl
           refine take_ (i := 1) (N := some 38) (v := ?_) (a' := ?_) #[true, true, false, true, true, true, false, false] rfl rfl (take_ofW HT_.out HW_.out (by kernel_rfl)) (fun _ _ _ h => h) (Or.inl ⟨by rfl, ?_⟩) hHeld ?_ ?_
           rotate_left
           ·
            rintro w' ⟨s0, s1⟩
            go_simp
            with_reducible rfl
           rotate_left
           ·
            simp only [Act.put, List.setIfInBounds_toArray, List.set_cons_zero, List.set_cons_succ, i64_w, i32_w]
            rfl
           refine pure_ (i := 2) (N := some 39) (v := ?_) (a' := ?_) (tb 6 8) rfl rfl (any_of HT_.out (by kernel_rfl)) (fun _ _ _ h => h) (Or.inl ⟨by rfl, ?_⟩) ?_ ?_
           rotate_left
           ·
            intro w'
            go_simp
            with_reducible rfl
           rotate_left
           ·
            simp only [Act.put, List.setIfInBounds_toArray, List.set_cons_zero, List.set_cons_succ, i64_w, i32_w]
            rfl
           refine pure_ (i := 6) (N := some 43) (v := ?_) (a' := ?_) (tb 7 8) rfl rfl (any_of HT_.out (by kernel_rfl)) (fun _ _ _ h => h) (Or.inl ⟨by rfl, ?_⟩) ?_ ?_
           rotate_left
           ·
            intro w'
            go_simp
            with_reducible rfl
           rotate_left
           ·
            simp only [Act.put, List.setIfInBounds_toArray, List.set_cons_zero, List.set_cons_succ, i64_w, i32_w]
            rfl
           refine pure_ (i := 7) (N := some 10) (v := ?_) (a' := ?_) (tb 8 8) rfl rfl (any_of HT_.out (by kernel_rfl)) (fun _ _ _ h => h) (Or.inl ⟨by rfl, ?_⟩) ?_ ?_
           rotate_left
           ·
            intro w'
            go_simp
            with_reducible rfl
           rotate_left
           ·
            simp only [Act.put, List.setIfInBounds_toArray, List.set_cons_zero, List.set_cons_succ, i64_w, i32_w]
            rfl
           refine done_ (done_of HT_.out (by kernel_rfl)) ?_
           try go_wp2
           replace HO_7 := am (Kd.R_drew HO_7.out); replace BK404 := am (blk_drew BK404.out); replace BK405 := am (blk_drew BK405.out); replace BK408 := am (blk_drew BK408.out); replace HB := am (below_drew1 HB.out)
           refine start_ (n := 11) (S := fun w' => w'.cell? ⟨gb408, 0, none⟩ = some (.int .i64 ((rd_T32 l0_1 x33_2).f0)) ∧ w'.cell? ⟨gb408, 1, none⟩ = some (.int .i64 ((rd_T32 l0_1 x33_2).f1))) (ds := []) (tb 0 11) (by kernel_rfl) rfl rfl ⟨(blk_cell BK408.out 0).trans rfl, (blk_cell BK408.out 1).trans rfl⟩ (fun hHeld => ?_); refine with_tabW hll_Fold.tab9 hll_Fold.bits9 (fun HT_ HW_ => ?_)
           generalize w58.drew = w59 at HO_7 BK404 BK405 BK408 HB hHeld ⊢
           refine pure_ (i := 0) (N := some 44) (v := ?_) (a' := ?_) (tb 1 11) rfl rfl (any_of HT_.out (by kernel_rfl)) (fun _ _ _ h => h) (Or.inl ⟨by rfl, ?_⟩) ?_ ?_
           rotate_left
           ·
            intro w'
            go_simp
            with_reducible rfl
           rotate_left
           ·
            simp only [Act.put, List.setIfInBounds_toArray, List.set_cons_zero, List.set_cons_succ, i64_w, i32_w]
            rfl
           refine pure_ (i := 2) (N := some 46) (v := ?_) (a' := ?_) #[true, false, true, false, false, false, false, false, false, false, false] rfl rfl (any_of HT_.out (by kernel_rfl)) (fun _ _ _ h => h) (Or.inl ⟨by rfl, ?_⟩) ?_ ?_
           rotate_left
           ·
            intro w'
            go_simp
            with_reducible rfl
           rotate_left
           ·
            simp only [Act.put, List.setIfInBounds_toArray, List.set_cons_zero, List.set_cons_succ, i64_w, i32_w]
            rfl
           refine pure_ (i := 4) (N := some 48) (v := ?_) (a' := ?_) #[true, false, true, false, true, false, false, false, false, false, false] rfl rfl (any_of HT_.out (by kernel_rfl)) (fun _ _ _ h => h) (Or.inl ⟨by rfl, ?_⟩) ?_ ?_
           rotate_left
           ·
            intro w'
            go_simp
            with_reducible rfl
           rotate_left
           ·
            simp only [Act.put, List.setIfInBounds_toArray, List.set_cons_zero, List.set_cons_succ, i64_w, i32_w]
            rfl
           refine pure_ (i := 6) (N := some 50) (v := ?_) (a' := ?_) #[true, false, true, false, true, false, true, false, false, false, false] rfl rfl (any_of HT_.out (by kernel_rfl)) (fun _ _ _ h => h) (Or.inl ⟨by rfl, ?_⟩) ?_ ?_
           rotate_left
           ·
            intro w'
            go_simp
            with_reducible rfl
           rotate_left
           ·
            simp only [Act.put, List.setIfInBounds_toArray, List.set_cons_zero, List.set_cons_succ, i64_w, i32_w]
            rfl
           refine take_ (i := 1) (N := some 45) (v := ?_) (a' := ?_) #[true, true, true, false, true, false, true, false, false, false, false] rfl rfl (take_ofW HT_.out HW_.out (by kernel_rfl)) (fun _ _ _ h => h) (Or.inl ⟨by rfl, ?_⟩) hHeld ?_ ?_
           rotate_left
           ·
            rintro w' ⟨s0, s1⟩
            go_simp
            with_reducible rfl
           rotate_left
           ·
            simp only [Act.put, List.setIfInBounds_toArray, List.set_cons_zero, List.set_cons_succ, i64_w, i32_w]
            rfl
           refine pure_ (i := 3) (N := some 47) (v := ?_) (a' := ?_) #[true, true, true, true, true, false, true, false, false, false, false] rfl rfl (any_of HT_.out (by kernel_rfl)) (fun _ _ _ h => h) (Or.inl ⟨by rfl, ?_⟩) ?_ ?_
           rotate_left
           ·
            intro w'
            go_simp
            with_reducible rfl
           rotate_left
           ·
            simp only [Act.put, List.setIfInBounds_toArray, List.set_cons_zero, List.set_cons_succ, i64_w, i32_w]
            rfl
           refine take_ (i := 5) (N := some 49) (v := ?_) (a' := ?_) (tb 7 11) rfl rfl (take_ofW HT_.out HW_.out (by kernel_rfl)) (fun _ _ _ h => h) (Or.inl ⟨by rfl, ?_⟩) hHeld ?_ ?_
           rotate_left
           ·
            rintro w' ⟨s0, s1⟩
            go_simp
            with_reducible rfl
           rotate_left
           ·
            simp only [Act.put, List.setIfInBounds_toArray, List.set_cons_zero, List.set_cons_succ, i64_w, i32_w]
            rfl
           refine pure_ (i := 7) (N := some 51) (v := ?_) (a' := ?_) (tb 8 11) rfl rfl (any_of HT_.out (by kernel_rfl)) (fun _ _ _ h => h) (Or.inl ⟨by rfl, ?_⟩) ?_ ?_
           rotate_left
           ·
            intro w'
            go_simp
            with_reducible rfl
           rotate_left
           ·
            simp only [Act.put, List.setIfInBounds_toArray, List.set_cons_zero, List.set_cons_succ, i64_w, i32_w]
            rfl
           refine pure_ (i := 8) (N := some 52) (v := ?_) (a' := ?_) (tb 9 11) rfl rfl (any_of HT_.out (by kernel_rfl)) (fun _ _ _ h => h) (Or.inl ⟨by rfl, ?_⟩) ?_ ?_
           rotate_left
           ·
            intro w'
            go_simp
            with_reducible rfl
           rotate_left
           ·
            simp only [Act.put, List.setIfInBounds_toArray, List.set_cons_zero, List.set_cons_succ, i64_w, i32_w]
            rfl
           refine one_ (i := 9) (N := some 11) (tb 10 11) rfl rfl (one_of HT_.out (by kernel_rfl)) (by decide) (fun K hK => ?_)
           refine box_step ?hg (N := 11) ?hd (cs := #[.int .i64 0, .int .i64 0]) (t := 32) ?hr ?_; (case hd => rfl); (case hg => rfl); (case hr => first | (go_simp; done) | (go_simp; rfl))
           intro gb409 hg w60 hbox hb
           obtain ⟨HBn, GW409⟩ := tri hg hb (by repeat (first | (with_reducible first | exact HB.out | apply below_alloc | apply pw_below_drewN | apply below_drew1 | refine below_set ?_ (Aside0.out (by assumption))) | exact HB.out)); have GE409 := GW409; have BK409 := am (hbox); have NB404_409 := nl hg (bu BK404.out); have NB409_404 := nr hg (bu BK404.out); have NB405_409 := nl hg (bu BK405.out); have NB409_405 := nr hg (bu BK405.out); have NB408_409 := nl hg (bu BK408.out); have NB409_408 := nr hg (bu BK408.out); replace HO_7 := am (Kd.R_below (Kd.R_elderB (ru (HO_7.out)) gb409 (Nat.le_of_eq hg.symm)) hb); replace BK404 := bb BK404 hb; replace BK405 := bb BK405 hb; replace BK408 := bb BK408 hb; clear HB; have HB := HBn; clear HBn
           clear hb hbox hg
           refine hK.out _ _ ⟨(blk_cell BK408.out 0).trans rfl, (blk_cell BK408.out 1).trans rfl⟩ (fun hHeld => ?_)
           clear hK K
           refine norm_ (a' := ?_) ?_ ?_
           rotate_left
           ·
            show Act.put _ (some 11) _ = _
            simp only [Act.put, List.setIfInBounds_toArray, List.set_cons_zero, List.set_cons_succ, i64_w, i32_w]
            rfl
           refine one_ (i := 10) (N := none) (tb 11 11) rfl rfl (one_of HT_.out (by kernel_rfl)) (by decide) (fun K hK => ?_)
           have hs61 : w60.cell? ⟨gb409, 0, none⟩ = some (.int .i64 0) := (blk_cell BK409.out 0).trans rfl
           have hfs61 := blk_frozen BK409.out 0; have hns61_0 := NB404_409.out; have hns61_1 := NB405_409.out; have hns61_2 := NB408_409.out; have hms61_0 := NB409_404.out; have hms61_1 := NB409_405.out; have hms61_2 := NB409_408.out
           have hs62 : w60.cell? ⟨gb409, 1, none⟩ = some (.int .i64 0) := (blk_cell BK409.out 1).trans rfl
           have hfs62 := blk_frozen BK409.out 1; have hns62_0 := NB404_409.out; have hns62_1 := NB405_409.out; have hns62_2 := NB408_409.out; have hms62_0 := NB409_404.out; have hms62_1 := NB409_405.out; have hms62_2 := NB409_408.out
           refine skip_ (w1 := ?_) (by rfl) rfl ?_ ?_
           rotate_left
           ·
            go_simp
            rfl
           refine hK.out _ _ ⟨((cell_far (p := ⟨gb409, _, none⟩) NB408_409.out _).trans (((cell_far (p := ⟨gb409, _, none⟩) NB408_409.out _).trans (hHeld.1)))), ((cell_far (p := ⟨gb409, _, none⟩) NB408_409.out _).trans (((cell_far (p := ⟨gb409, _, none⟩) NB408_409.out _).trans (hHeld.2))))⟩ (fun hHeld => ?_)
           clear hK K
           refine done_ (done_of HT_.out (by kernel_rfl)) ?_
           have n0_ : Aside0 (Kd.R k32 32 ((w60.setCell ⟨gb409, 0, none⟩ (.int .i64 ji31)).setCell ⟨gb409, 1, none⟩ (.int .i64 (wrap64 (((rd_T32 l0_1 x33_2).f1) + (ji27))))) w.heap.size (fun k_ => k_ ≠ gb408 ∧ k_ ≠ gb409) u7 x7_2) := ⟨by (with_reducible repeat (first | apply Kd.R_alloc | apply Kd.R_drewN | apply Kd.R_drew)); exact Kd.R_mono (Kd.R_far (p := ⟨gb409, 1, none⟩) (Kd.R_far (p := ⟨gb409, 0, none⟩) (Kd.R_mono HO_7.out (fun k_ hk => (⟨hk, hk.2⟩ : _ ∧ k_ ≠ gb409))) (fun _ hk => hk.2) (.int .i64 ji31)) (fun _ hk => hk.2) (.int .i64 (wrap64 (((rd_T32 l0_1 x33_2).f1) + (ji27))))) (fun _ hk => ⟨hk.1.1, hk.1.2⟩)⟩
           have n1_ : Aside0 (((w60.setCell ⟨gb409, 0, none⟩ (.int .i64 ji31)).setCell ⟨gb409, 1, none⟩ (.int .i64 (wrap64 (((rd_T32 l0_1 x33_2).f1) + (ji27))))).heap[gb404]? = some (.cells #[.int .i64 a0_0, .slice (some ad407) l0_1.length c0_1] 30 (0, 0))) := ⟨bf NB404_409.out BK404.out⟩
           have n2_ : Aside0 (((w60.setCell ⟨gb409, 0, none⟩ (.int .i64 ji31)).setCell ⟨gb409, 1, none⟩ (.int .i64 (wrap64 (((rd_T32 l0_1 x33_2).f1) + (ji27))))).heap[gb405]? = some (.cells #[.int .i64 0, .slice none 0 0] 30 (0, 0))) := ⟨bf NB405_409.out BK405.out⟩
           have n3_ : Aside0 (((w60.setCell ⟨gb409, 0, none⟩ (.int .i64 ji31)).setCell ⟨gb409, 1, none⟩ (.int .i64 (wrap64 (((rd_T32 l0_1 x33_2).f1) + (ji27))))).heap[gb408]? = some (.cells #[.int .i64 ((rd_T32 l0_1 x33_2).f0), .int .i64 ((rd_T32 l0_1 x33_2).f1)] 32 (0, 0))) := ⟨bf NB408_409.out BK408.out⟩
           have n4_ : Aside0 (((w60.setCell ⟨gb409, 0, none⟩ (.int .i64 ji31)).setCell ⟨gb409, 1, none⟩ (.int .i64 (wrap64 (((rd_T32 l0_1 x33_2).f1) + (ji27))))).heap[gb409]? = some (.cells #[.int .i64 ji31, .int .i64 (wrap64 (((rd_T32 l0_1 x33_2).f1) + (ji27)))] 32 (0, 0))) := ⟨by (with_reducible repeat (first | refine blk_drewN ?_ _ | refine blk_drew ?_ | refine blk_alloc ?_ _)); refine blk_put (cs := #[.int .i64 ji31, .int .i64 0]) ?_ 1 _ rfl; (with_reducible repeat (first | refine blk_drewN ?_ _ | refine blk_drew ?_ | refine blk_alloc ?_ _)); refine blk_put (cs := #[.int .i64 0, .int .i64 0]) ?_ 0 _ rfl; (with_reducible repeat (first | refine blk_drewN ?_ _ | refine blk_drew ?_ | refine blk_alloc ?_ _)); exact BK409.out⟩
           have n5_ : Aside0 (Below w.heap.size w ((w60.setCell ⟨gb409, 0, none⟩ (.int .i64 ji31)).setCell ⟨gb409, 1, none⟩ (.int .i64 (wrap64 (((rd_T32 l0_1 x33_2).f1) + (ji27)))))) := ⟨by repeat (first | (with_reducible first | exact HB.out | apply below_alloc | apply pw_below_drewN | apply below_drew1 | refine below_set ?_ (Aside0.out (by assumption))) | exact HB.out)⟩
           (try clear HO_7)
           (try clear BK404)
           (try clear BK405)
           (try clear BK408)
           (try clear BK409)
           (try clear HB)
           generalize ((w60.setCell ⟨gb409, 0, none⟩ (.int .i64 ji31)).setCell ⟨gb409, 1, none⟩ (.int .i64 (wrap64 (((rd_T32 l0_1 x33_2).f1) + (ji27))))) = w63 at n0_ n1_ n2_ n3_ n4_ n5_ ⊢
           have HO_7 := n0_; have BK404 := n1_; have BK405 := n2_; have BK408 := n3_; have BK409 := n4_; have HB := n5_
           clear n0_ n1_ n2_ n3_ n4_ n5_
           try go_wp2_with (first | ((with_reducible refine gate_callee (f := 78) rfl ?_); refine goesL_ (some 58) rfl rfl Try.func78 (by kernel_rfl) rfl #[.int .u64 (Go.bits .and .u64 (IntKind.u64.wrap ((rd_T32 l0_1 x33_2).f0)) (IntKind.u64.wrap ((ji29) - 1)))] rfl (by (try simp only [List.map_toArray, List.map_cons, List.map_nil]); first | done | (simp only [hji29]; rfl) | rfl | (simp only [List.length_drop, List.length_take]; rfl)) ?_; (with_reducible refine (bits_Len.calls (Go.bits .and .u64 (IntKind.u64.wrap ((rd_T32 l0_1 x33_2).f0)) (IntKind.u64.wrap ((ji29) - 1))) t413 _ A51.out).mono ?_); rintro e w' ⟨rfl, ⟨nd, rfl⟩⟩; refine ⟨_, rfl, ?_⟩; (try (rw [drewN_self w63]; generalize hq_ : World.drewN w63 _ = w63; have n0_ : Aside0 (Kd.R k32 32 w63 w.heap.size (fun k_ => k_ ≠ gb408 ∧ k_ ≠ gb409) u7 x7_2) := ⟨by rw [← hq_]; exact (ru (HO_7.out))⟩; have n1_ : Aside0 (w63.heap[gb404]? = some (.cells #[.int .i64 a0_0, .slice (some ad407) l0_1.length c0_1] 30 (0, 0))) := ⟨by rw [← hq_]; exact (bu BK404.out)⟩; have n2_ : Aside0 (w63.heap[gb405]? = some (.cells #[.int .i64 0, .slice none 0 0] 30 (0, 0))) := ⟨by rw [← hq_]; exact (bu BK405.out)⟩; have n3_ : Aside0 (w63.heap[gb408]? = some (.cells #[.int .i64 ((rd_T32 l0_1 x33_2).f0), .int .i64 ((rd_T32 l0_1 x33_2).f1)] 32 (0, 0))) := ⟨by rw [← hq_]; exact (bu BK408.out)⟩; have n4_ : Aside0 (w63.heap[gb409]? = some (.cells #[.int .i64 ji31, .int .i64 (wrap64 (((rd_T32 l0_1 x33_2).f1) + (ji27)))] 32 (0, 0))) := ⟨by rw [← hq_]; exact (bu BK409.out)⟩; have n5_ : Aside0 (Below w.heap.size w w63) := ⟨by rw [← hq_]; exact (by repeat (first | (with_reducible first | exact HB.out | apply below_alloc | apply pw_below_drewN | apply below_drew1 | refine below_set ?_ (Aside0.out (by assumption))) | exact HB.out))⟩; clear HO_7 BK404 BK405 BK408 BK409 HB hq_; have HO_7 := n0_; have BK404 := n1_; have BK405 := n2_; have BK408 := n3_; have BK409 := n4_; have HB := n5_; clear n0_ n1_ n2_ n3_ n4_ n5_)); have hnb64 := NB409_404.out; have hnc64 := NB404_409.out; have hnb65 := NB409_405.out; have hnc65 := NB405_409.out; have hnb66 := NB409_408.out; have hnc66 := NB408_409.out; have hcz67_0 := ca BK409.out; have hcz67_1 := cb BK409.out; have hfz67_0 := blk_frozen BK409.out 0; have hfz67_1 := blk_frozen BK409.out 1) | ((with_reducible refine gate_store (t := 3) (p := 60) rfl ?_); refine store_event (t := 3) (p := 60) (v := ?vo_w68) (w1 := (w63.setCell ⟨gb409, 1, none⟩ (.int .i64 (wrap64 ((wrap64 (1 + (ji27))) - t413))))) ?hg ?ho ?hn ?hr ?_; (case ho => rfl); (case hg => rfl); (case hn => rfl); (case hr => first | (go_simp; done) | (go_simp; rfl)); intro w68 hw; have n0_ : Aside0 (Kd.R k32 32 w68 w.heap.size (fun k_ => k_ ≠ gb408 ∧ k_ ≠ gb409) u7 x7_2) := ⟨(by rw [hw]; exact (ru (Kd.R_mono (Kd.R_far (p := ⟨gb409, 1, none⟩) (Kd.R_mono HO_7.out (fun k_ hk => (⟨hk, hk.2⟩ : _ ∧ k_ ≠ gb409))) (fun _ hk => hk.2) (.int .i64 (wrap64 ((wrap64 (1 + (ji27))) - t413)))) (fun _ hk => ⟨hk.1.1, hk.1.2⟩))))⟩; have n1_ : Aside0 (w68.heap[gb404]? = some (.cells #[.int .i64 a0_0, .slice (some ad407) l0_1.length c0_1] 30 (0, 0))) := ⟨(by rw [hw]; exact (bf NB404_409.out BK404.out))⟩; have n2_ : Aside0 (w68.heap[gb405]? = some (.cells #[.int .i64 0, .slice none 0 0] 30 (0, 0))) := ⟨(by rw [hw]; exact (bf NB405_409.out BK405.out))⟩; have n3_ : Aside0 (w68.heap[gb408]? = some (.cells #[.int .i64 ((rd_T32 l0_1 x33_2).f0), .int .i64 ((rd_T32 l0_1 x33_2).f1)] 32 (0, 0))) := ⟨(by rw [hw]; exact (bf NB408_409.out BK408.out))⟩; have n4_ : Aside0 (w68.heap[gb409]? = some (.cells #[.int .i64 ji31, .int .i64 (wrap64 ((wrap64 (1 + (ji27))) - t413))] 32 (0, 0))) := ⟨(by rw [hw]; exact (by (with_reducible repeat (first | refine blk_drewN ?_ _ | refine blk_drew ?_ | refine blk_alloc ?_ _)); refine blk_put (cs := #[.int .i64 ji31, .int .i64 (wrap64 (((rd_T32 l0_1 x33_2).f1) + (ji27)))]) ?_ 1 _ rfl; (with_reducible repeat (first | refine blk_drewN ?_ _ | refine blk_drew ?_ | refine blk_alloc ?_ _)); exact BK409.out))⟩; have n5_ : Aside0 (Below w.heap.size w w68) := ⟨(by rw [hw]; exact (by repeat (first | (with_reducible first | exact HB.out | apply below_alloc | apply pw_below_drewN | apply below_drew1 | refine below_set ?_ (Aside0.out (by assumption))) | exact HB.out)))⟩; clear hw; clear HO_7; clear BK404; clear BK405; clear BK408; clear BK409; clear HB; have HO_7 := n0_; have BK404 := n1_; have BK405 := n2_; have BK408 := n3_; have BK409 := n4_; have HB := n5_; clear n0_ n1_ n2_ n3_ n4_ n5_; have hcz69_0 := ca BK409.out; have hcz69_1 := cb BK409.out; have hfz69_0 := blk_frozen BK409.out 0; have hfz69_1 := blk_frozen BK409.out 1; obtain ⟨Ao70, co70, eo70⟩ := Kd.R_slice HO_7.out; subst eo70) | ((with_reducible refine gate_callee (f := 64) rfl ?_); refine goesL_ (some 63) rfl rfl Try.func64 (by kernel_rfl) rfl #[.slice Ao70 x7_2.length co70, .agg #[.int .i64 ji31, .int .i64 (wrap64 ((wrap64 (1 + (ji27))) - t413))]] rfl (by (try simp only [List.map_toArray, List.map_cons, List.map_nil]); first | done | (simp only [hji27, hji31]; rfl) | rfl | (simp only [List.length_drop, List.length_take]; rfl)) ?_; (with_reducible refine (hll_put.calls k2 (fun k_ => some k_ = (.slice Ao70 x7_2.length co70 : Value).ownBlock) (.slice Ao70 x7_2.length co70) x7_2 ji31 (wrap64 ((wrap64 (1 + (ji27))) - t413)) t414 w _ ?side1 ?side2 A52.out).mono ?_); (case side1 => repeat (first | (with_reducible first | exact HB.out | apply below_alloc | apply pw_below_drewN | apply below_drew1 | refine below_set ?_ (Aside0.out (by assumption))) | exact HB.out)); (case side2 => exact Kd.R_tight rfl HO_7.out); rintro e w71 ⟨v415, rfl, ho0, hb, hkp⟩; refine ⟨_, rfl, ?_⟩; have HO416 := am (Kd.R_mono (ok' := fun k_ => k_ ≠ gb408 ∧ k_ ≠ gb409) ho0 (fun k_ hk_ => ⟨Or.elim hk_ (fun hs_ => fun e_ => (Kd.R_away HO_7.out (fun _ hk => hk.1)) (by rw [← e_]; exact hs_)) (fun hn_ => (Kd.freshB (g := gb408) (o := .cells #[.int .i64 ((rd_T32 l0_1 x33_2).f0), .int .i64 ((rd_T32 l0_1 x33_2).f1)] 32 (0, 0)) (bu BK408.out) k_ hn_)), Or.elim hk_ (fun hs_ => fun e_ => (Kd.R_away HO_7.out (fun _ hk => hk.2)) (by rw [← e_]; exact hs_)) (fun hn_ => (Kd.freshB (g := gb409) (o := .cells #[.int .i64 ji31, .int .i64 (wrap64 ((wrap64 (1 + (ji27))) - t413))] 32 (0, 0)) (bu BK409.out) k_ hn_))⟩)); replace BK404 := am (blk_kept (bu BK404.out) hkp (fun hs_ => (fun e_ => (Kd.R_ne HO_7.out BK404.out (by decide)) e_) hs_)); replace BK405 := am (blk_kept (bu BK405.out) hkp (fun hs_ => (fun e_ => (Kd.R_ne HO_7.out BK405.out (by decide)) e_) hs_)); replace BK408 := am (blk_kept (bu BK408.out) hkp (fun hs_ => (fun e_ => (Kd.R_away HO_7.out (fun _ hk => hk.1)) e_) hs_)); replace BK409 := am (blk_kept (bu BK409.out) hkp (fun hs_ => (fun e_ => (Kd.R_away HO_7.out (fun _ hk => hk.2)) e_) hs_)); replace HB := am (hb); clear HO_7; (try clear hb); (try clear hkp); (try clear ho0)))
           subst hji27
           go_roundg k2
           case measure => have := HJ2.out; have := HK2.out; omega
           case rel => exact ⟨(t414), (wrap64 (x33_2 + 1)), (by first | rfl | (simp; done) | (simp [*]; done)), H', ⟨by have := HJ2.out; have := HK2.out; omega⟩, ⟨by (with_reducible repeat (first | apply Kd.R_alloc | apply Kd.R_drewN | apply Kd.R_drew)); exact Kd.R_mono HO416.out (fun _ hk => trivial)⟩, ⟨bu BK404.out⟩, ⟨bu BK405.out⟩, ⟨by repeat (first | (with_reducible first | exact HB.out | apply below_alloc | apply pw_below_drewN | apply below_drew1 | refine below_set ?_ (Aside0.out (by assumption))) | exact HB.out)⟩⟩
         ·
          rw [if_neg c28] at H
          exact absurd H (by simp)
        ·
         rw [if_neg c26] at H
         exact absurd H (by simp)
       ·
        rw [if_neg c25] at H
        exact absurd H (by simp)
      ·
       rw [if_neg c24] at H
       have c24b0 : decide (x33_2 < (l0_1.length : Int)) = false := decide_eq_false c24
       clear c24
       simp only [Option.some.injEq, Prod.mk.injEq] at H
       obtain ⟨rfl, rfl, rfl⟩ := H
       obtain ⟨Ao72, co72, eo72⟩ := Kd.R_slice HO_7.out
       subst eo72
       have hnb73 := NB405_404.out; have hnc73 := NB404_405.out; have hcz74_0 := ca BK405.out; have hcz74_1 := cb BK405.out; have hfz74_0 := blk_frozen BK405.out 0; have hfz74_1 := blk_frozen BK405.out 1
       go_wp2
       refine bodyPost_ret (results_ct rfl _ _ gb405 30 #[.int .i64 a1, .slice Ao72 x7_2.length co72] (0, 0) _ rfl (by (with_reducible repeat (first | refine blk_drewN ?_ _ | refine blk_drew ?_ | refine blk_alloc ?_ _)); refine blk_put (cs := #[.int .i64 a1, .slice none 0 0]) ?_ 1 _ rfl; (with_reducible repeat (first | refine blk_drewN ?_ _ | refine blk_drew ?_ | refine blk_alloc ?_ _)); refine blk_put (cs := #[.int .i64 0, .slice none 0 0]) ?_ 0 _ rfl; (with_reducible repeat (first | refine blk_drewN ?_ _ | refine blk_drew ?_ | refine blk_alloc ?_ _)); exact BK405.out) Try.underlying30 rfl (by kernel_rfl)) rfl ?_
       exact ⟨_, by first | rfl | (simp [errW_none, errW_some] <;> rfl) | (simp [*, errW_none, errW_some] <;> rfl), by (with_reducible repeat (first | apply Kd.R_alloc | apply Kd.R_drewN | apply Kd.R_drew)); exact Kd.R_mono (Kd.R_far (p := ⟨gb405, 1, none⟩) (Kd.R_far (p := ⟨gb405, 0, none⟩) (Kd.R_types HO_7.out BK405.out (by decide)) (fun _ hk => hk.2) (.int .i64 a1)) (fun _ hk => hk.2) (.slice Ao72 x7_2.length co72)) (fun _ hk => trivial), by repeat (first | (with_reducible first | exact HB.out | apply below_alloc | apply pw_below_drewN | apply below_drew1 | refine below_set ?_ (Aside0.out (by assumption))) | exact HB.out)⟩

end Go.Proofs.Ytbclnjinpcfpjaa.H
