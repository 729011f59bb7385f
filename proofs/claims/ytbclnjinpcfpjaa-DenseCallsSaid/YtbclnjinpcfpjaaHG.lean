-- Made by this session's own call of the printer (functions that are proved by hand are taken from a text beside it).
import Derived.Test.YtbclnjinpcfpjaaZ4
import Derived.Test.YtbclnjinpcfpjaaH0
import Derived.Test.YtbclnjinpcfpjaaH2
import Derived.Test.YtbclnjinpcfpjaaH3
import Derived.Test.YtbclnjinpcfpjaaH4
import Derived.Test.YtbclnjinpcfpjaaH5
import Derived.Test.YtbclnjinpcfpjaaH7
import Derived.Test.YtbclnjinpcfpjaaH8
import Derived.Test.YtbclnjinpcfpjaaH9
import Derived.Test.YtbclnjinpcfpjaaH11
import Derived.Test.YtbclnjinpcfpjaaHA
import Derived.Test.YtbclnjinpcfpjaaHB
import Derived.Test.YtbclnjinpcfpjaaHC
import Derived.Test.YtbclnjinpcfpjaaHD
import Derived.Test.YtbclnjinpcfpjaaHE
import Derived.Test.YtbclnjinpcfpjaaHF
namespace Go.Proofs.Ytbclnjinpcfpjaa.H
open Go.RowKit Go.Proofs.YtbclnjinpcfpjaaW.PrintWords Go.Proofs.YtbclnjinpcfpjaaW.PrintLast Go.Proofs.YtbclnjinpcfpjaaW.PrintMore
attribute [local go_sem] max2_int min2_int max_two min_two max_three min_three max_four min_four   -- for this text's walks alone
set_option linter.unusedVariables false
set_option linter.unusedSimpArgs false

/-! ### tallymanlaw15_DenseCalls: function 14 -/
mutual
def tallymanlaw15_DenseCalls.j0 : Nat → List Int → List Int → Int → Bool → Int → List (S32) → Option (Bool)
 | 0, _, _, _, _, _, _ => none
 | k + 1, x1, x2, x3, x39, x603000, x603001 => if x39 = true then (some true) else ((dense_Sparse.f k x603000 x603001).bind fun bt604 => ((tallymanref15_Sparse.f k x603000 x603001).bind fun bt608 => ((dense_Dense.f k x603000 x603001).bind fun bt612 => ((tallymanref15_Dense.f k x603000 x603001).bind fun bt616 => (if (strOfNums bt604.1).toList = (strOfNums bt608.1).toList then (if bt604.2 = bt608.2 then (if (strOfNums bt612.1).toList = (strOfNums bt616.1).toList then (tallymanlaw15_DenseCalls.j1 k x1 x2 x3 (bt612.2 != bt616.2) x603000 x603001) else (tallymanlaw15_DenseCalls.j1 k x1 x2 x3 true x603000 x603001)) else (tallymanlaw15_DenseCalls.j1 k x1 x2 x3 true x603000 x603001)) else (tallymanlaw15_DenseCalls.j1 k x1 x2 x3 true x603000 x603001))))))
def tallymanlaw15_DenseCalls.j1 : Nat → List Int → List Int → Int → Bool → Int → List (S32) → Option (Bool)
 | 0, _, _, _, _, _, _ => none
 | k + 1, x1, x2, x3, x81, x603000, x603001 => if x81 = true then (none) else ((dense_Bytes.f k x603000 x603001).bind fun bt620 => ((tallymanref15_Bytes.f k x603000 x603001).bind fun bt624 => ((tallymankit_Own.f x1).bind fun t628 => ((dense_Read.f k t628).bind fun bt631 => ((tallymanref15_Read.f k x1).bind fun bt637 => (if (strOfNums bt620.1).toList = (strOfNums bt624.1).toList then (if bt620.2 = bt624.2 then ((tallymankit_Hll.f k bt631.1 bt631.2.1 bt637.1 bt637.2.1).bind fun t643 => (if t643 = true then (tallymanlaw15_DenseCalls.j2 k x1 x2 x3 (bt631.2.2 != bt637.2.2) x603000 x603001) else (tallymanlaw15_DenseCalls.j2 k x1 x2 x3 true x603000 x603001))) else (tallymanlaw15_DenseCalls.j2 k x1 x2 x3 true x603000 x603001)) else (tallymanlaw15_DenseCalls.j2 k x1 x2 x3 true x603000 x603001)))))))
def tallymanlaw15_DenseCalls.j2 : Nat → List Int → List Int → Int → Bool → Int → List (S32) → Option (Bool)
 | 0, _, _, _, _, _, _ => none
 | k + 1, x1, x2, x3, x123, x603000, x603001 => if x123 = true then (none) else ((some (([] : List Int) : List Int)).bind fun y644 => (if y644.length + x2.length < 17592186044416 then ((dense_Pack.f k (y644 ++ x2)).bind fun bt650 => ((tallymanref15_Pack.f k x2).bind fun bt654 => (if (strOfNums bt650.1).toList = (strOfNums bt654.1).toList then (if bt650.2 = bt654.2 then ((dense_Unpack.f k x1).bind fun t658 => ((tallymanref15_Unpack.f k x1).bind fun t661 => ((tallymankit_Ints.f k t658 t661).bind fun t664 => (if t664 = true then ((dense_Log2.f k x3).bind fun t665 => ((tallymanref15_Log2.f k x3).bind fun t666 => (if t665 = t666 then ((dense_Estimate.f k x603000 x603001).bind fun t667 => ((tallymanref15_Estimate.f k x603000 x603001).bind fun t668 => (some (t667 == t668)))) else (none)))) else (none))))) else (none)) else (none)))) else (none)))
end
def tallymanlaw15_DenseCalls.f (k : Nat) (a0_0 : Int) (l0_1 : List (S32)) (l1 : List Int) (l2 : List Int) (a3 : Int) : Option (Bool) := (tallymanlaw15_lives.f k).bind fun t603 => (if t603 = true then (if (l0_1.length : Int) > 300 then (tallymanlaw15_DenseCalls.j0 k l1 l2 a3 true a0_0 l0_1) else (if (l1.length : Int) > 2000 then (tallymanlaw15_DenseCalls.j0 k l1 l2 a3 true a0_0 l0_1) else (if (l2.length : Int) > 2000 then (tallymanlaw15_DenseCalls.j0 k l1 l2 a3 true a0_0 l0_1) else (tallymanlaw15_DenseCalls.j0 k l1 l2 a3 (decide (a0_0 > 10)) a0_0 l0_1)))) else (none))
theorem tallymanlaw15_DenseCalls.mono_l : ∀ k, (∀ y0 y1 y2 y3 y4 y5, LeO (tallymanlaw15_DenseCalls.j0 k y0 y1 y2 y3 y4 y5) (tallymanlaw15_DenseCalls.j0 (k + 1) y0 y1 y2 y3 y4 y5)) ∧ (∀ y0 y1 y2 y3 y4 y5, LeO (tallymanlaw15_DenseCalls.j1 k y0 y1 y2 y3 y4 y5) (tallymanlaw15_DenseCalls.j1 (k + 1) y0 y1 y2 y3 y4 y5)) ∧ (∀ y0 y1 y2 y3 y4 y5, LeO (tallymanlaw15_DenseCalls.j2 k y0 y1 y2 y3 y4 y5) (tallymanlaw15_DenseCalls.j2 (k + 1) y0 y1 y2 y3 y4 y5))
 | 0 => ⟨fun _ _ _ _ _ _ r h => by simp [tallymanlaw15_DenseCalls.j0] at h, fun _ _ _ _ _ _ r h => by simp [tallymanlaw15_DenseCalls.j1] at h, fun _ _ _ _ _ _ r h => by simp [tallymanlaw15_DenseCalls.j2] at h⟩
 | k + 1 => by
  obtain ⟨ih0, ih1, ih2⟩ := tallymanlaw15_DenseCalls.mono_l k
  refine ⟨?_, ?_, ?_⟩
  ·
   intro y0 y1 y2 y3 y4 y5
   unfold tallymanlaw15_DenseCalls.j0
   repeat' first
   | (with_reducible exact ih0 _ _ _ _ _ _)
   | (with_reducible exact ih1 _ _ _ _ _ _)
   | (with_reducible exact ih2 _ _ _ _ _ _)
   | (with_reducible exact dense_Bytes.mono _ _ _)
   | (with_reducible exact dense_Dense.mono _ _ _)
   | (with_reducible exact dense_Estimate.mono _ _ _)
   | (with_reducible exact dense_Log2.mono _ _)
   | (with_reducible exact dense_Pack.mono _ _)
   | (with_reducible exact dense_Read.mono _ _)
   | (with_reducible exact dense_Sparse.mono _ _ _)
   | (with_reducible exact dense_Unpack.mono _ _)
   | (with_reducible exact tallymankit_Hll.mono _ _ _ _ _)
   | (with_reducible exact tallymankit_Ints.mono _ _ _)
   | (with_reducible exact tallymanlaw15_lives.mono _)
   | (with_reducible exact tallymanref15_Bytes.mono _ _ _)
   | (with_reducible exact tallymanref15_Dense.mono _ _ _)
   | (with_reducible exact tallymanref15_Estimate.mono _ _ _)
   | (with_reducible exact tallymanref15_Log2.mono _ _)
   | (with_reducible exact tallymanref15_Pack.mono _ _)
   | (with_reducible exact tallymanref15_Read.mono _ _)
   | (with_reducible exact tallymanref15_Sparse.mono _ _ _)
   | (with_reducible exact tallymanref15_Unpack.mono _ _)
   | (with_reducible exact LeO.refl _)
   | (with_reducible exact LeO.none _)
   | (with_reducible refine LeO.ite ?_ ?_)
   | (with_reducible refine LeO.bind ?_ (fun _ => ?_))
  ·
   intro y0 y1 y2 y3 y4 y5
   unfold tallymanlaw15_DenseCalls.j1
   repeat' first
   | (with_reducible exact ih0 _ _ _ _ _ _)
   | (with_reducible exact ih1 _ _ _ _ _ _)
   | (with_reducible exact ih2 _ _ _ _ _ _)
   | (with_reducible exact dense_Bytes.mono _ _ _)
   | (with_reducible exact dense_Dense.mono _ _ _)
   | (with_reducible exact dense_Estimate.mono _ _ _)
   | (with_reducible exact dense_Log2.mono _ _)
   | (with_reducible exact dense_Pack.mono _ _)
   | (with_reducible exact dense_Read.mono _ _)
   | (with_reducible exact dense_Sparse.mono _ _ _)
   | (with_reducible exact dense_Unpack.mono _ _)
   | (with_reducible exact tallymankit_Hll.mono _ _ _ _ _)
   | (with_reducible exact tallymankit_Ints.mono _ _ _)
   | (with_reducible exact tallymanlaw15_lives.mono _)
   | (with_reducible exact tallymanref15_Bytes.mono _ _ _)
   | (with_reducible exact tallymanref15_Dense.mono _ _ _)
   | (with_reducible exact tallymanref15_Estimate.mono _ _ _)
   | (with_reducible exact tallymanref15_Log2.mono _ _)
   | (with_reducible exact tallymanref15_Pack.mono _ _)
   | (with_reducible exact tallymanref15_Read.mono _ _)
   | (with_reducible exact tallymanref15_Sparse.mono _ _ _)
   | (with_reducible exact tallymanref15_Unpack.mono _ _)
   | (with_reducible exact LeO.refl _)
   | (with_reducible exact LeO.none _)
   | (with_reducible refine LeO.ite ?_ ?_)
   | (with_reducible refine LeO.bind ?_ (fun _ => ?_))
  ·
   intro y0 y1 y2 y3 y4 y5
   unfold tallymanlaw15_DenseCalls.j2
   repeat' first
   | (with_reducible exact ih0 _ _ _ _ _ _)
   | (with_reducible exact ih1 _ _ _ _ _ _)
   | (with_reducible exact ih2 _ _ _ _ _ _)
   | (with_reducible exact dense_Bytes.mono _ _ _)
   | (with_reducible exact dense_Dense.mono _ _ _)
   | (with_reducible exact dense_Estimate.mono _ _ _)
   | (with_reducible exact dense_Log2.mono _ _)
   | (with_reducible exact dense_Pack.mono _ _)
   | (with_reducible exact dense_Read.mono _ _)
   | (with_reducible exact dense_Sparse.mono _ _ _)
   | (with_reducible exact dense_Unpack.mono _ _)
   | (with_reducible exact tallymankit_Hll.mono _ _ _ _ _)
   | (with_reducible exact tallymankit_Ints.mono _ _ _)
   | (with_reducible exact tallymanlaw15_lives.mono _)
   | (with_reducible exact tallymanref15_Bytes.mono _ _ _)
   | (with_reducible exact tallymanref15_Dense.mono _ _ _)
   | (with_reducible exact tallymanref15_Estimate.mono _ _ _)
   | (with_reducible exact tallymanref15_Log2.mono _ _)
   | (with_reducible exact tallymanref15_Pack.mono _ _)
   | (with_reducible exact tallymanref15_Read.mono _ _)
   | (with_reducible exact tallymanref15_Sparse.mono _ _ _)
   | (with_reducible exact tallymanref15_Unpack.mono _ _)
   | (with_reducible exact LeO.refl _)
   | (with_reducible exact LeO.none _)
   | (with_reducible refine LeO.ite ?_ ?_)
   | (with_reducible refine LeO.bind ?_ (fun _ => ?_))
theorem tallymanlaw15_DenseCalls.mono : ∀ a0 a1 a2 a3 a4 k, LeO (tallymanlaw15_DenseCalls.f k a0 a1 a2 a3 a4) (tallymanlaw15_DenseCalls.f (k + 1) a0 a1 a2 a3 a4) := by
 intro a0 a1 a2 a3 a4 k
 obtain ⟨ih0, ih1, ih2⟩ := tallymanlaw15_DenseCalls.mono_l k
 unfold tallymanlaw15_DenseCalls.f
 repeat' first
   | (with_reducible exact ih0 _ _ _ _ _ _)
   | (with_reducible exact ih1 _ _ _ _ _ _)
   | (with_reducible exact ih2 _ _ _ _ _ _)
   | (with_reducible exact dense_Bytes.mono _ _ _)
   | (with_reducible exact dense_Dense.mono _ _ _)
   | (with_reducible exact dense_Estimate.mono _ _ _)
   | (with_reducible exact dense_Log2.mono _ _)
   | (with_reducible exact dense_Pack.mono _ _)
   | (with_reducible exact dense_Read.mono _ _)
   | (with_reducible exact dense_Sparse.mono _ _ _)
   | (with_reducible exact dense_Unpack.mono _ _)
   | (with_reducible exact tallymankit_Hll.mono _ _ _ _ _)
   | (with_reducible exact tallymankit_Ints.mono _ _ _)
   | (with_reducible exact tallymanlaw15_lives.mono _)
   | (with_reducible exact tallymanref15_Bytes.mono _ _ _)
   | (with_reducible exact tallymanref15_Dense.mono _ _ _)
   | (with_reducible exact tallymanref15_Estimate.mono _ _ _)
   | (with_reducible exact tallymanref15_Log2.mono _ _)
   | (with_reducible exact tallymanref15_Pack.mono _ _)
   | (with_reducible exact tallymanref15_Read.mono _ _)
   | (with_reducible exact tallymanref15_Sparse.mono _ _ _)
   | (with_reducible exact tallymanref15_Unpack.mono _ _)
   | (with_reducible exact LeO.refl _)
   | (with_reducible exact LeO.none _)
   | (with_reducible refine LeO.ite ?_ ?_)
   | (with_reducible refine LeO.bind ?_ (fun _ => ?_))
def tallymanlaw15_DenseCalls.T19 : Bool × List (List Nat × List Nat) := (true, [([], []), ([0], [0]), ([], []), ([2], [2]), ([1, 3], [1, 3]), ([4], [4]), ([5], [5]), ([5], [5]), ([6, 7, 5], [5, 6, 7]), ([5, 8], [5, 8]), ([9, 5], [9]), ([10], [10]), ([11, 10, 10], [10, 11]), ([10], [10]), ([13, 12, 10], [10, 13]), ([12, 14, 14, 10], [10, 12, 14]), ([10, 15], [10, 15]), ([16, 15], [16]), ([17], [17]), ([18, 17, 17], [17, 18]), ([17], [17]), ([20, 19, 17], [17, 20]), ([19, 21, 17], [17, 19, 21]), ([17, 22], [17, 22]), ([23, 21], [23]), ([24], [24]), ([25, 24, 24], [24, 25]), ([24], [24]), ([27, 26, 24], [24, 27]), ([26, 28, 24], [24, 26, 28]), ([24, 29], [24, 29]), ([30, 28, 0, 1, 2, 3, 4, 5, 6, 7, 8, 9, 10, 11, 12, 13, 14, 15, 16, 17, 18, 19, 20, 21, 22, 23, 24, 25, 26, 27, 28, 29, 30], [30])])
def tallymanlaw15_DenseCalls.B19 : List Nat := [0, 1, 0, 4, 15, 31, 63, 63, 255, 511, 1023, 2047, 4095, 2047, 16383, 32767, 65535, 131071, 262143, 524287, 262143, 2097151, 4194303, 8388607, 16777215, 33554431, 67108863, 33554431, 268435455, 536870911, 1073741823, 2147483647]
theorem tallymanlaw15_DenseCalls.tab19 : rtab .any (opsOf Try.f14 19) = tallymanlaw15_DenseCalls.T19 := by kernel_rfl
theorem tallymanlaw15_DenseCalls.bits19 : waitsOk tallymanlaw15_DenseCalls.T19.2 tallymanlaw15_DenseCalls.B19 = true := by kernel_rfl
theorem no_1 {k : Nat} {x0 : List Int} {x1 : List Int} {x2 : Int} {x4 : Int} {x5 : List (S32)} {r : Bool} (H : tallymanlaw15_DenseCalls.j1 k x0 x1 x2 true x4 x5 = some r) : False := by
 cases k with
 | zero => simp [tallymanlaw15_DenseCalls.j1] at H
 | succ k => simp [tallymanlaw15_DenseCalls.j1] at H
theorem no_2 {k : Nat} {x0 : List Int} {x1 : List Int} {x2 : Int} {x4 : Int} {x5 : List (S32)} {r : Bool} (H : tallymanlaw15_DenseCalls.j2 k x0 x1 x2 true x4 x5 = some r) : False := by
 cases k with
 | zero => simp [tallymanlaw15_DenseCalls.j2] at H
 | succ k => simp [tallymanlaw15_DenseCalls.j2] at H
set_option maxHeartbeats 8000000 in
set_option maxRecDepth 100000 in
theorem tallymanlaw15_DenseCalls.calls (k : Nat) (a0_0 : Int) (A0_1 : Option Addr) (c0_1 : Nat) (l0_1 : List (S32)) (A1 : Option Addr) (c1 : Nat) (l1 : List Int) (A2 : Option Addr) (c2 : Nat) (l2 : List Int) (a3 : Int) (r : Bool) (w : World) (hr0_1 : Kd.C k32 w A0_1 l0_1.length l0_1) (hc0_1 : l0_1.length ≤ c0_1) (hr1 : Kd.C (Kd.int .u8) w A1 l1.length l1) (hc1 : l1.length ≤ c1) (hr2 : Kd.C (Kd.int .i64) w A2 l2.length l2) (hc2 : l2.length ≤ c2) (h : tallymanlaw15_DenseCalls.f k a0_0 l0_1 l1 l2 a3 = some r) :
  Calls Try.prog 14 #[.agg #[.int .i64 a0_0, .slice A0_1 l0_1.length c0_1], .slice A1 l1.length c1, .slice A2 l2.length c2, .int .u64 a3] w fun e w' => e = .returned (.bool r) ∧ Below w.heap.size w w' := by
 have hu30 := Try.underlying30
 have HR0_1 := Aside0.mk hr0_1
 have HC0_1 := Aside0.mk hc0_1
 clear hr0_1 hc0_1
 have HR1 := Aside0.mk hr1
 have HC1 := Aside0.mk hc1
 clear hr1 hc1
 have HR2 := Aside0.mk hr2
 have HC2 := Aside0.mk hc2
 clear hr2 hc2
 have HB := am (Below.refl w.heap.size w)
 have H : ((tallymanlaw15_lives.f k).bind fun t603 => (if t603 = true then (if (l0_1.length : Int) > 300 then (tallymanlaw15_DenseCalls.j0 k l1 l2 a3 true a0_0 l0_1) else (if (l1.length : Int) > 2000 then (tallymanlaw15_DenseCalls.j0 k l1 l2 a3 true a0_0 l0_1) else (if (l2.length : Int) > 2000 then (tallymanlaw15_DenseCalls.j0 k l1 l2 a3 true a0_0 l0_1) else (tallymanlaw15_DenseCalls.j0 k l1 l2 a3 (decide (a0_0 > 10)) a0_0 l0_1)))) else (none))) = some r := h
 clear h
 replace H := Option.bind_eq_some_iff.mp H
 obtain ⟨t603, A50, H⟩ := H
 try dsimp only at H
 have A5 := Aside0.mk A50
 clear A50
 by_cases c6 : t603 = true
 ·
  subst c6
  rw [if_pos rfl] at H
  have HC7 := Aside0.mk H
  clear H
  go_enter Try.func14, Try.ntmps14
  go_upto_region 3 with (first | ((with_reducible refine gate_dst (N := 4) rfl ?_); (try (refine gate_guard (by rfl) ?_; dsimp only)); refine box_event ?hg (N := 4) ?hd (cs := #[.int .i64 a0_0, .slice A0_1 l0_1.length c0_1]) (t := 30) ?hr ?_; (case hd => rfl); (case hg => rfl); (case hr => go_simp; try rfl); intro gb602 hg w8 hbox hb; obtain ⟨HBn, GW602⟩ := tri hg hb (hu HB.out); have GE602 := GW602; have BK602 := am (hbox); clear HB; have HB := HBn; clear HBn; clear hb hbox hg) | ((with_reducible refine gate_callee (f := 15) rfl ?_); refine goesL_ (some 19) rfl rfl Try.func15 (by kernel_rfl) rfl #[] rfl (by (try simp only [List.map_toArray, List.map_cons, List.map_nil]); first | done | rfl) ?_; (with_reducible refine (tallymanlaw15_lives.calls k  true _ A5.out).mono ?_); rintro e w9 ⟨rfl, hb⟩; refine ⟨_, rfl, ?_⟩; replace BK602 := bb BK602 hb; replace HB := am (below_step (by repeat (with_reducible first | exact HB.out | apply bA | apply bN | apply bD | refine bS ?_ ao)) hb); (try clear hb)))
  (try simp only [Act.put, List.setIfInBounds_toArray, List.set_cons_zero, List.set_cons_succ])
  go_cut [39] (fun v39 wc => ∃ (kq : Nat) (x39_6 : Bool), v39 = .bool x39_6 ∧ Aside0 (tallymanlaw15_DenseCalls.j0 kq l1 l2 a3 x39_6 a0_0 l0_1 = some r) ∧ Aside0 (kq ≤ k) ∧ Aside0 (wc.heap[gb602]? = some (.cells #[.int .i64 a0_0, (.slice A0_1 l0_1.length c0_1)] 30 (0, 0))) ∧ Aside0 (Below w.heap.size w wc))
  case first =>
   have H := HC7.out
   clear HC7
   by_cases c10 : (l0_1.length : Int) > 300
   ·
    rw [if_pos c10] at H
    have c10b0 : decide (300 < (l0_1.length : Int)) = true := decide_eq_true c10
    have c10b1 : decide (300 < l0_1.length) = true := decide_eq_true (by omega)
    clear c10
    (first | rw [c10b0] | (simp only [i64_w, i32_w]; rw [c10b0]) | skip)
    have H' := Aside0.mk H
    clear H
    obtain ⟨hcz11_0, hcz11_1, hfz11_0, hfz11_1⟩ := cf BK602.out
    go_wp2
    go_meet
    case rel => exact ⟨_, (true), (by first | rfl | (simp; done) | (simp [*]; done)), H', ⟨by first | omega | exact Nat.le_refl _⟩, ⟨bu BK602.out⟩, ⟨by repeat (with_reducible first | exact HB.out | apply bA | apply bN | apply bD | refine bS ?_ ao)⟩⟩
   ·
    rw [if_neg c10] at H
    have c10b0 : decide (300 < (l0_1.length : Int)) = false := decide_eq_false c10
    have c10b1 : decide (300 < l0_1.length) = false := decide_eq_false (by omega)
    clear c10
    (first | rw [c10b0] | (simp only [i64_w, i32_w]; rw [c10b0]) | skip)
    by_cases c12 : (l1.length : Int) > 2000
    ·
     rw [if_pos c12] at H
     have c12b0 : decide (2000 < (l1.length : Int)) = true := decide_eq_true c12
     have c12b1 : decide (2000 < l1.length) = true := decide_eq_true (by omega)
     clear c12
     have H' := Aside0.mk H
     clear H
     obtain ⟨hcz13_0, hcz13_1, hfz13_0, hfz13_1⟩ := cf BK602.out
     go_wp2
     go_meet
     case rel => exact ⟨_, (true), (by first | rfl | (simp; done) | (simp [*]; done)), H', ⟨by first | omega | exact Nat.le_refl _⟩, ⟨bu BK602.out⟩, ⟨by repeat (with_reducible first | exact HB.out | apply bA | apply bN | apply bD | refine bS ?_ ao)⟩⟩
    ·
     rw [if_neg c12] at H
     have c12b0 : decide (2000 < (l1.length : Int)) = false := decide_eq_false c12
     have c12b1 : decide (2000 < l1.length) = false := decide_eq_false (by omega)
     clear c12
     by_cases c14 : (l2.length : Int) > 2000
     ·
      rw [if_pos c14] at H
      have c14b0 : decide (2000 < (l2.length : Int)) = true := decide_eq_true c14
      have c14b1 : decide (2000 < l2.length) = true := decide_eq_true (by omega)
      clear c14
      have H' := Aside0.mk H
      clear H
      obtain ⟨hcz15_0, hcz15_1, hfz15_0, hfz15_1⟩ := cf BK602.out
      go_wp2
      go_meet
      case rel => exact ⟨_, (true), (by first | rfl | (simp; done) | (simp [*]; done)), H', ⟨by first | omega | exact Nat.le_refl _⟩, ⟨bu BK602.out⟩, ⟨by repeat (with_reducible first | exact HB.out | apply bA | apply bN | apply bD | refine bS ?_ ao)⟩⟩
     ·
      rw [if_neg c14] at H
      have c14b0 : decide (2000 < (l2.length : Int)) = false := decide_eq_false c14
      have c14b1 : decide (2000 < l2.length) = false := decide_eq_false (by omega)
      clear c14
      have H' := Aside0.mk H
      clear H
      obtain ⟨hcz16_0, hcz16_1, hfz16_0, hfz16_1⟩ := cf BK602.out
      go_wp2
      go_meet
      case rel => exact ⟨_, (decide (a0_0 > 10)), (by first | rfl | (simp; done) | (simp [*]; done)), H', ⟨by first | omega | exact Nat.le_refl _⟩, ⟨bu BK602.out⟩, ⟨by repeat (with_reducible first | exact HB.out | apply bA | apply bN | apply bD | refine bS ?_ ao)⟩⟩
  case rest =>
   clear HC7
   obtain ⟨kq, x39_6, rfl, HA, HJ6, BK602, HB⟩ := hcut
   cases kq with
   | zero => exact absurd HA.out (by simp [tallymanlaw15_DenseCalls.j0])
   | succ kj6 =>
    have H := HA.out
    clear HA
    simp only [tallymanlaw15_DenseCalls.j0] at H
    by_cases c17 : x39_6 = true
    ·
     subst c17
     rw [if_pos rfl] at H
     obtain rfl := Option.some.inj H
     go_wp2
     go_ret
     exact ⟨by first | rfl | (simp [errW_none, errW_some] <;> rfl) | (simp [*, errW_none, errW_some] <;> rfl), by repeat (with_reducible first | exact HB.out | apply bA | apply bN | apply bD | refine bS ?_ ao)⟩
    ·
     replace c17 := Bool.eq_false_iff.mpr c17
     subst c17
     rw [if_neg Bool.false_ne_true] at H
     replace H := Option.bind_eq_some_iff.mp H
     obtain ⟨⟨t604, t607⟩, A180, H⟩ := H
     try dsimp only at H
     have A18 := Aside0.mk A180
     clear A180
     replace H := Option.bind_eq_some_iff.mp H
     obtain ⟨⟨t608, t611⟩, A190, H⟩ := H
     try dsimp only at H
     have A19 := Aside0.mk A190
     clear A190
     replace H := Option.bind_eq_some_iff.mp H
     obtain ⟨⟨t612, t615⟩, A200, H⟩ := H
     try dsimp only at H
     have A20 := Aside0.mk A200
     clear A200
     replace H := Option.bind_eq_some_iff.mp H
     obtain ⟨⟨t616, t619⟩, A210, H⟩ := H
     try dsimp only at H
     have A21 := Aside0.mk A210
     clear A210
     have HC22 := Aside0.mk H
     clear H
     obtain ⟨hcz23_0, hcz23_1, hfz23_0, hfz23_1⟩ := cf BK602.out
     go_upto_region 9 with (first | ((with_reducible refine gate_callee (f := 18) rfl ?_); refine goesL_ (some 42) rfl rfl Try.func18 (by kernel_rfl) rfl #[.agg #[.int .i64 a0_0, .slice A0_1 l0_1.length c0_1]] rfl (by (try simp only [List.map_toArray, List.map_cons, List.map_nil]); first | done | rfl) ?_; (with_reducible refine (dense_Sparse.calls kj6 a0_0 _ _ l0_1 t604 t607 _ ?side1 ?side2 A18.out).mono ?_); (case side1 => exact cu (Kd.C_below HR0_1.out HB.out)); (case side2 => exact HC0_1.out); rintro e w24 ⟨v605, rfl, ho0, hb⟩; refine ⟨_, rfl, ?_⟩; have HO606 := am (Kd.R_lower ho0 (below_size (by repeat (with_reducible first | exact HB.out | apply bA | apply bN | apply bD | refine bS ?_ ao)))); replace BK602 := bb BK602 hb; replace HB := am (below_step (by repeat (with_reducible first | exact HB.out | apply bA | apply bN | apply bD | refine bS ?_ ao)) hb); (try clear hb); (try clear ho0); obtain ⟨hcz25_0, hcz25_1, hfz25_0, hfz25_1⟩ := cf BK602.out) | ((with_reducible refine gate_callee (f := 50) rfl ?_); refine goesL_ (some 47) rfl rfl Try.func50 (by kernel_rfl) rfl #[.agg #[.int .i64 a0_0, .slice A0_1 l0_1.length c0_1]] rfl (by (try simp only [List.map_toArray, List.map_cons, List.map_nil]); first | done | rfl) ?_; (with_reducible refine (tallymanref15_Sparse.calls kj6 a0_0 _ _ l0_1 t608 t611 _ ?side1 ?side2 A19.out).mono ?_); (case side1 => exact cu (Kd.C_below HR0_1.out HB.out)); (case side2 => exact HC0_1.out); rintro e w26 ⟨v609, rfl, ho0, hb⟩; refine ⟨_, rfl, ?_⟩; have HO610 := am (Kd.R_lower (Kd.R_new' ho0 (Kd.R_lt (ru (HO606.out)))) (below_size (by repeat (with_reducible first | exact HB.out | apply bA | apply bN | apply bD | refine bS ?_ ao)))); replace HO606 := am (Kd.R_elder' (ru (HO606.out)) (Kd.R_base ho0) hb); replace BK602 := bb BK602 hb; replace HB := am (below_step (by repeat (with_reducible first | exact HB.out | apply bA | apply bN | apply bD | refine bS ?_ ao)) hb); (try clear hb); (try clear ho0); obtain ⟨hcz27_0, hcz27_1, hfz27_0, hfz27_1⟩ := cf BK602.out) | ((with_reducible refine gate_callee (f := 19) rfl ?_); refine goesL_ (some 52) rfl rfl Try.func19 (by kernel_rfl) rfl #[.agg #[.int .i64 a0_0, .slice A0_1 l0_1.length c0_1]] rfl (by (try simp only [List.map_toArray, List.map_cons, List.map_nil]); first | done | rfl) ?_; (with_reducible refine (dense_Dense.calls kj6 a0_0 _ _ l0_1 t612 t615 _ ?side1 ?side2 A20.out).mono ?_); (case side1 => exact cu (Kd.C_below HR0_1.out HB.out)); (case side2 => exact HC0_1.out); rintro e w28 ⟨v613, rfl, ho0, hb⟩; refine ⟨_, rfl, ?_⟩; have HO614 := am (Kd.R_lower (Kd.R_new' (Kd.R_new' ho0 (Kd.R_lt (ru (HO606.out)))) (Kd.R_lt (ru (HO610.out)))) (below_size (by repeat (with_reducible first | exact HB.out | apply bA | apply bN | apply bD | refine bS ?_ ao)))); replace HO606 := am (Kd.R_elder' (ru (HO606.out)) (Kd.R_base ho0) hb); replace HO610 := am (Kd.R_elder' (ru (HO610.out)) (Kd.R_base ho0) hb); replace BK602 := bb BK602 hb; replace HB := am (below_step (by repeat (with_reducible first | exact HB.out | apply bA | apply bN | apply bD | refine bS ?_ ao)) hb); (try clear hb); (try clear ho0); obtain ⟨hcz29_0, hcz29_1, hfz29_0, hfz29_1⟩ := cf BK602.out) | ((with_reducible refine gate_callee (f := 51) rfl ?_); refine goesL_ (some 57) rfl rfl Try.func51 (by kernel_rfl) rfl #[.agg #[.int .i64 a0_0, .slice A0_1 l0_1.length c0_1]] rfl (by (try simp only [List.map_toArray, List.map_cons, List.map_nil]); first | done | rfl) ?_; (with_reducible refine (tallymanref15_Dense.calls kj6 a0_0 _ _ l0_1 t616 t619 _ ?side1 ?side2 A21.out).mono ?_); (case side1 => exact cu (Kd.C_below HR0_1.out HB.out)); (case side2 => exact HC0_1.out); rintro e w30 ⟨v617, rfl, ho0, hb⟩; refine ⟨_, rfl, ?_⟩; have HO618 := am (Kd.R_lower (Kd.R_new' (Kd.R_new' (Kd.R_new' ho0 (Kd.R_lt (ru (HO606.out)))) (Kd.R_lt (ru (HO610.out)))) (Kd.R_lt (ru (HO614.out)))) (below_size (by repeat (with_reducible first | exact HB.out | apply bA | apply bN | apply bD | refine bS ?_ ao)))); replace HO606 := am (Kd.R_elder' (ru (HO606.out)) (Kd.R_base ho0) hb); replace HO610 := am (Kd.R_elder' (ru (HO610.out)) (Kd.R_base ho0) hb); replace HO614 := am (Kd.R_elder' (ru (HO614.out)) (Kd.R_base ho0) hb); replace BK602 := bb BK602 hb; replace HB := am (below_step (by repeat (with_reducible first | exact HB.out | apply bA | apply bN | apply bD | refine bS ?_ ao)) hb); (try clear hb); (try clear ho0)))
     (try simp only [Act.put, List.setIfInBounds_toArray, List.set_cons_zero, List.set_cons_succ])
     go_cut [81] (fun v81 wc => ∃ (kq : Nat) (x81_21 : Bool), v81 = .bool x81_21 ∧ Aside0 (tallymanlaw15_DenseCalls.j1 kq l1 l2 a3 x81_21 a0_0 l0_1 = some r) ∧ Aside0 (kq ≤ kj6) ∧ Aside0 (wc.heap[gb602]? = some (.cells #[.int .i64 a0_0, (.slice A0_1 l0_1.length c0_1)] 30 (0, 0))) ∧ Aside0 (Below w.heap.size w wc))
     case first =>
      have H := HC22.out
      clear HC22
      by_cases c31 : (strOfNums t604).toList = (strOfNums t608).toList
      ·
       rw [if_pos c31] at H
       have c31b0 : ((strOfNums t604).toList == (strOfNums t608).toList) = true := beq_iff_eq.mpr c31
       have c31b1 : ((strOfNums t604).toList != (strOfNums t608).toList) = false := bne_eq_false_iff_eq.mpr c31
       clear c31
       (first | rw [c31b0] | (simp only [i64_w, i32_w]; rw [c31b0]) | skip)
       by_cases c32 : t607 = t611
       ·
        rw [if_pos c32] at H
        have c32b0 : (t607 == t611) = true := beq_iff_eq.mpr c32
        have c32b1 : (t607 != t611) = false := bne_eq_false_iff_eq.mpr c32
        clear c32
        by_cases c33 : (strOfNums t612).toList = (strOfNums t616).toList
        ·
         rw [if_pos c33] at H
         have c33b0 : ((strOfNums t612).toList == (strOfNums t616).toList) = true := beq_iff_eq.mpr c33
         have c33b1 : ((strOfNums t612).toList != (strOfNums t616).toList) = false := bne_eq_false_iff_eq.mpr c33
         clear c33
         have H' := Aside0.mk H
         clear H
         have hcv34 := own_string (P := Try.prog) Try.underlying33 Try.underlying5 Try.underlying9 (Kd.own_of_R HO606.out)
         try have hcs34 := fun (u1_ u2_ : Value) => own_string (P := Try.prog) Try.underlying33 Try.underlying5 Try.underlying9 (Kd.own_of_R (Kd.R_far (p := ⟨gb642, 1, none⟩) (Kd.R_far (p := ⟨gb642, 0, none⟩) (Kd.R_types HO606.out BK642.out (by decide)) (fun k hk => hk.2) u1_) (fun k hk => hk.2) u2_))
         have hcv35 := fun nq_ : Nat => own_string (P := Try.prog) Try.underlying33 Try.underlying5 Try.underlying9 (pw_own_drewN (Kd.own_of_R HO606.out) nq_)
         have hcv36 := own_string (P := Try.prog) Try.underlying33 Try.underlying5 Try.underlying9 (Kd.own_of_R HO610.out)
         try have hcs36 := fun (u1_ u2_ : Value) => own_string (P := Try.prog) Try.underlying33 Try.underlying5 Try.underlying9 (Kd.own_of_R (Kd.R_far (p := ⟨gb642, 1, none⟩) (Kd.R_far (p := ⟨gb642, 0, none⟩) (Kd.R_types HO610.out BK642.out (by decide)) (fun k hk => hk.2) u1_) (fun k hk => hk.2) u2_))
         have hcv37 := fun nq_ : Nat => own_string (P := Try.prog) Try.underlying33 Try.underlying5 Try.underlying9 (pw_own_drewN (Kd.own_of_R HO610.out) nq_)
         have hcv38 := own_string (P := Try.prog) Try.underlying33 Try.underlying5 Try.underlying9 (Kd.own_of_R HO614.out)
         try have hcs38 := fun (u1_ u2_ : Value) => own_string (P := Try.prog) Try.underlying33 Try.underlying5 Try.underlying9 (Kd.own_of_R (Kd.R_far (p := ⟨gb642, 1, none⟩) (Kd.R_far (p := ⟨gb642, 0, none⟩) (Kd.R_types HO614.out BK642.out (by decide)) (fun k hk => hk.2) u1_) (fun k hk => hk.2) u2_))
         have hcv39 := fun nq_ : Nat => own_string (P := Try.prog) Try.underlying33 Try.underlying5 Try.underlying9 (pw_own_drewN (Kd.own_of_R HO614.out) nq_)
         have hcv40 := own_string (P := Try.prog) Try.underlying33 Try.underlying5 Try.underlying9 (Kd.own_of_R HO618.out)
         try have hcs40 := fun (u1_ u2_ : Value) => own_string (P := Try.prog) Try.underlying33 Try.underlying5 Try.underlying9 (Kd.own_of_R (Kd.R_far (p := ⟨gb642, 1, none⟩) (Kd.R_far (p := ⟨gb642, 0, none⟩) (Kd.R_types HO618.out BK642.out (by decide)) (fun k hk => hk.2) u1_) (fun k hk => hk.2) u2_))
         have hcv41 := fun nq_ : Nat => own_string (P := Try.prog) Try.underlying33 Try.underlying5 Try.underlying9 (pw_own_drewN (Kd.own_of_R HO618.out) nq_)
         go_wp2
         go_meet
         case rel => exact ⟨_, ((t615 != t619)), (by first | rfl | (simp; done) | (simp [*]; done)), H', ⟨by have := HJ6.out; first | omega | exact Nat.le_refl _⟩, ⟨bu BK602.out⟩, ⟨by repeat (with_reducible first | exact HB.out | apply bA | apply bN | apply bD | refine bS ?_ ao)⟩⟩
        ·
         rw [if_neg c33] at H
         have c33b0 : ((strOfNums t612).toList == (strOfNums t616).toList) = false := beq_eq_false_iff_ne.mpr c33
         have c33b1 : ((strOfNums t612).toList != (strOfNums t616).toList) = true := bne_iff_ne.mpr c33
         exact (no_1 H).elim
       ·
        rw [if_neg c32] at H
        have c32b0 : (t607 == t611) = false := beq_eq_false_iff_ne.mpr c32
        have c32b1 : (t607 != t611) = true := bne_iff_ne.mpr c32
        exact (no_1 H).elim
      ·
       rw [if_neg c31] at H
       have c31b0 : ((strOfNums t604).toList == (strOfNums t608).toList) = false := beq_eq_false_iff_ne.mpr c31
       have c31b1 : ((strOfNums t604).toList != (strOfNums t608).toList) = true := bne_iff_ne.mpr c31
       (first | rw [c31b0] | (simp only [i64_w, i32_w]; rw [c31b0]) | skip)
       exact (no_1 H).elim
     case rest =>
      clear HC22
      obtain ⟨kq, x81_21, rfl, HA, HJ21, BK602, HB⟩ := hcut
      cases kq with
      | zero => exact absurd HA.out (by simp [tallymanlaw15_DenseCalls.j1])
      | succ kj21 =>
       have H := HA.out
       clear HA
       simp only [tallymanlaw15_DenseCalls.j1] at H
       by_cases c58 : x81_21 = true
       ·
        subst c58
        rw [if_pos rfl] at H
        exact absurd H (by simp)
       ·
        replace c58 := Bool.eq_false_iff.mpr c58
        subst c58
        rw [if_neg Bool.false_ne_true] at H
        replace H := Option.bind_eq_some_iff.mp H
        obtain ⟨⟨t620, t623⟩, A590, H⟩ := H
        try dsimp only at H
        have A59 := Aside0.mk A590
        clear A590
        replace H := Option.bind_eq_some_iff.mp H
        obtain ⟨⟨t624, t627⟩, A600, H⟩ := H
        try dsimp only at H
        have A60 := Aside0.mk A600
        clear A600
        replace H := Option.bind_eq_some_iff.mp H
        obtain ⟨t628, A610, H⟩ := H
        try dsimp only at H
        have A61 := Aside0.mk A610
        clear A610
        replace H := Option.bind_eq_some_iff.mp H
        obtain ⟨⟨t631, t632, t635⟩, A620, H⟩ := H
        try dsimp only at H
        have A62 := Aside0.mk A620
        clear A620
        replace H := Option.bind_eq_some_iff.mp H
        obtain ⟨⟨t637, t638, t641⟩, A630, H⟩ := H
        try dsimp only at H
        have A63 := Aside0.mk A630
        clear A630
        have HC64 := Aside0.mk H
        clear H
        obtain ⟨hcz65_0, hcz65_1, hfz65_0, hfz65_1⟩ := cf BK602.out
        go_upto_region 15 with (first | ((with_reducible refine gate_callee (f := 20) rfl ?_); refine goesL_ (some 84) rfl rfl Try.func20 (by kernel_rfl) rfl #[.agg #[.int .i64 a0_0, .slice A0_1 l0_1.length c0_1]] rfl (by (try simp only [List.map_toArray, List.map_cons, List.map_nil]); first | done | rfl) ?_; (with_reducible refine (dense_Bytes.calls kj21 a0_0 _ _ l0_1 t620 t623 _ ?side1 ?side2 A59.out).mono ?_); (case side1 => exact cu (Kd.C_below HR0_1.out HB.out)); (case side2 => exact HC0_1.out); rintro e w66 ⟨v621, rfl, ho0, hb⟩; refine ⟨_, rfl, ?_⟩; have HO622 := am (Kd.R_lower ho0 (below_size (by repeat (with_reducible first | exact HB.out | apply bA | apply bN | apply bD | refine bS ?_ ao)))); replace BK602 := bb BK602 hb; replace HB := am (below_step (by repeat (with_reducible first | exact HB.out | apply bA | apply bN | apply bD | refine bS ?_ ao)) hb); (try clear hb); (try clear ho0); obtain ⟨hcz67_0, hcz67_1, hfz67_0, hfz67_1⟩ := cf BK602.out) | ((with_reducible refine gate_callee (f := 52) rfl ?_); refine goesL_ (some 89) rfl rfl Try.func52 (by kernel_rfl) rfl #[.agg #[.int .i64 a0_0, .slice A0_1 l0_1.length c0_1]] rfl (by (try simp only [List.map_toArray, List.map_cons, List.map_nil]); first | done | rfl) ?_; (with_reducible refine (tallymanref15_Bytes.calls kj21 a0_0 _ _ l0_1 t624 t627 _ ?side1 ?side2 A60.out).mono ?_); (case side1 => exact cu (Kd.C_below HR0_1.out HB.out)); (case side2 => exact HC0_1.out); rintro e w68 ⟨v625, rfl, ho0, hb⟩; refine ⟨_, rfl, ?_⟩; have HO626 := am (Kd.R_lower (Kd.R_new' ho0 (Kd.R_lt (ru (HO622.out)))) (below_size (by repeat (with_reducible first | exact HB.out | apply bA | apply bN | apply bD | refine bS ?_ ao)))); replace HO622 := am (Kd.R_elder' (ru (HO622.out)) (Kd.R_base ho0) hb); replace BK602 := bb BK602 hb; replace HB := am (below_step (by repeat (with_reducible first | exact HB.out | apply bA | apply bN | apply bD | refine bS ?_ ao)) hb); (try clear hb); (try clear ho0)) | ((with_reducible refine gate_callee (f := 35) rfl ?_); refine goesL_ (some 94) rfl rfl Try.func35 (by kernel_rfl) rfl #[.slice A1 l1.length c1] rfl (by (try simp only [List.map_toArray, List.map_cons, List.map_nil]); first | done | rfl) ?_; (with_reducible refine (tallymankit_Own.calls _ _ l1 t628 _ ?side1 ?side2 A61.out).mono ?_); (case side1 => exact cu (Kd.C_below HR1.out HB.out)); (case side2 => exact HC1.out); rintro e w69 ⟨v629, rfl, ho0, hb⟩; refine ⟨_, rfl, ?_⟩; have HO630 := am (Kd.R_lower (Kd.R_new' (Kd.R_new' ho0 (Kd.R_lt (ru (HO622.out)))) (Kd.R_lt (ru (HO626.out)))) (below_size (by repeat (with_reducible first | exact HB.out | apply bA | apply bN | apply bD | refine bS ?_ ao)))); replace HO622 := am (Kd.R_elder' (ru (HO622.out)) (Kd.R_base ho0) hb); replace HO626 := am (Kd.R_elder' (ru (HO626.out)) (Kd.R_base ho0) hb); replace BK602 := bb BK602 hb; replace HB := am (below_step (by repeat (with_reducible first | exact HB.out | apply bA | apply bN | apply bD | refine bS ?_ ao)) hb); (try clear hb); (try clear ho0); obtain ⟨Ao70, co70, eo70⟩ := Kd.R_slice HO630.out; subst eo70) | ((with_reducible refine gate_callee (f := 34) rfl ?_); refine goesL_ (some 95) rfl rfl Try.func34 (by kernel_rfl) rfl #[.slice Ao70 t628.length co70] rfl (by (try simp only [List.map_toArray, List.map_cons, List.map_nil]); first | done | rfl) ?_; (with_reducible refine (dense_Read.calls kj21 _ _ t628 t631 t632 t635 _ ?side1 ?side2 A62.out).mono ?_); (case side1 => repeat (first | exact (Kd.R_reads' HO630.out).2.2 | (with_reducible refine Kd.C_alloc ?_ _) | (with_reducible refine Kd.C_drewN ?_ _) | (with_reducible refine Kd.C_drew ?_))); (case side2 => exact (Kd.R_reads' HO630.out).2.1); rintro e w71 ⟨v633, rfl, ho0, hb⟩; refine ⟨_, rfl, ?_⟩; have HO634 := am (Kd.R_lower ho0 (below_size (by repeat (with_reducible first | exact HB.out | apply bA | apply bN | apply bD | refine bS ?_ ao)))); replace HO622 := rb HO622 hb; replace HO626 := rb HO626 hb; replace HO630 := rb HO630 hb; replace BK602 := bb BK602 hb; replace HB := am (below_step (by repeat (with_reducible first | exact HB.out | apply bA | apply bN | apply bD | refine bS ?_ ao)) hb); (try clear hb); (try clear ho0)) | ((with_reducible refine gate_dst (N := 17) rfl ?_); (try (refine gate_guard (by rfl) ?_; dsimp only)); refine box_event ?hg (N := 17) ?hd (cs := #[.int .i64 0, .slice none 0 0]) (t := 30) ?hr ?_; (case hd => rfl); (case hg => rfl); (case hr => go_simp; try rfl); intro gb636 hg w72 hbox hb; obtain ⟨HBn, GW636⟩ := tri hg hb (by repeat (with_reducible first | exact HB.out | apply bA | apply bN | apply bD | refine bS ?_ ao)); have GE636 := GW636; have BK636 := am (hbox); have NB602_636 := nl hg (bu BK602.out); have NB636_602 := nr hg (bu BK602.out); replace HO622 := rb HO622 hb; replace HO626 := rb HO626 hb; replace HO630 := rb HO630 hb; replace HO634 := rb HO634 hb; replace BK602 := bb BK602 hb; clear HB; have HB := HBn; clear HBn; clear hb hbox hg; have hnb73 := NB636_602.out; have hnc73 := NB602_636.out; obtain ⟨hcz74_0, hcz74_1, hfz74_0, hfz74_1⟩ := cf BK636.out; obtain ⟨Ao75, co75, eo75⟩ := Kd.R_slice HO634.out; subst eo75) | ((with_reducible refine gate_callee (f := 53) rfl ?_); refine goesL_ (some 100) rfl rfl Try.func53 (by kernel_rfl) rfl #[.slice A1 l1.length c1] rfl (by (try simp only [List.map_toArray, List.map_cons, List.map_nil]); first | done | rfl) ?_; (with_reducible refine (tallymanref15_Read.calls kj21 _ _ l1 t637 t638 t641 _ ?side1 ?side2 A63.out).mono ?_); (case side1 => exact Kd.C_below HR1.out (by repeat (with_reducible first | exact HB.out | apply bA | apply bN | apply bD | refine bS ?_ ao))); (case side2 => exact HC1.out); rintro e w76 ⟨v639, rfl, ho0, hb⟩; refine ⟨_, rfl, ?_⟩; have HO640 := am (Kd.R_lower (Kd.R_new' ho0 (Kd.R_lt (rf HO634.out BK636.out (by decide)))) (below_size (by repeat (with_reducible first | exact HB.out | apply bA | apply bN | apply bD | refine bS ?_ ao)))); replace HO622 := am (Kd.R_below (rf HO622.out BK636.out (by decide)) hb); replace HO626 := am (Kd.R_below (rf HO626.out BK636.out (by decide)) hb); replace HO630 := am (Kd.R_below (rf HO630.out BK636.out (by decide)) hb); replace HO634 := am (Kd.R_elder' (rf HO634.out BK636.out (by decide)) (Kd.R_base ho0) hb); replace BK602 := am (blk_below (bf NB602_636.out BK602.out) hb); replace BK636 := am (blk_below (g := gb636) (o := .cells #[.int .i64 t631, .slice Ao75 t632.length co75] 30 (0, 0)) (by (with_reducible repeat (first | refine blk_drewN ?_ _ | refine blk_drew ?_ | refine blk_alloc ?_ _)); refine blk_put (cs := #[.int .i64 t631, .slice none 0 0]) ?_ 1 _ rfl; (with_reducible repeat (first | refine blk_drewN ?_ _ | refine blk_drew ?_ | refine blk_alloc ?_ _)); refine blk_put (cs := #[.int .i64 0, .slice none 0 0]) ?_ 0 _ rfl; exact bu BK636.out) hb); replace HB := am (below_step (by repeat (with_reducible first | exact HB.out | apply bA | apply bN | apply bD | refine bS ?_ ao)) hb); (try clear hb); (try clear ho0)) | ((with_reducible refine gate_dst (N := 18) rfl ?_); (try (refine gate_guard (by rfl) ?_; dsimp only)); refine box_event ?hg (N := 18) ?hd (cs := #[.int .i64 0, .slice none 0 0]) (t := 30) ?hr ?_; (case hd => rfl); (case hg => rfl); (case hr => go_simp; try rfl); intro gb642 hg w77 hbox hb; obtain ⟨HBn, GW642⟩ := tri hg hb (by repeat (with_reducible first | exact HB.out | apply bA | apply bN | apply bD | refine bS ?_ ao)); have GE642 := GW642; have BK642 := am (hbox); have NB602_642 := nl hg (bu BK602.out); have NB642_602 := nr hg (bu BK602.out); have NB636_642 := nl hg (bu BK636.out); have NB642_636 := nr hg (bu BK636.out); replace HO622 := rb HO622 hb; replace HO626 := rb HO626 hb; replace HO630 := rb HO630 hb; replace HO634 := rb HO634 hb; replace HO640 := rb HO640 hb; replace BK602 := bb BK602 hb; replace BK636 := bb BK636 hb; clear HB; have HB := HBn; clear HBn; clear hb hbox hg; have hnb78 := NB642_602.out; have hnc78 := NB602_642.out; have hnb79 := NB642_636.out; have hnc79 := NB636_642.out; obtain ⟨hcz80_0, hcz80_1, hfz80_0, hfz80_1⟩ := cf BK642.out; obtain ⟨Ao81, co81, eo81⟩ := Kd.R_slice HO640.out; subst eo81))
        (try simp only [Act.put, List.setIfInBounds_toArray, List.set_cons_zero, List.set_cons_succ])
        go_cut [123] (fun v123 wc => ∃ (kq : Nat) (x123_63 : Bool), v123 = .bool x123_63 ∧ Aside0 (tallymanlaw15_DenseCalls.j2 kq l1 l2 a3 x123_63 a0_0 l0_1 = some r) ∧ Aside0 (kq ≤ kj21) ∧ Aside0 (Kd.R k32 32 wc w.heap.size (fun k_ => some k_ ≠ ((.slice Ao81 t638.length co81) : Value).ownBlock) (.slice Ao75 t632.length co75) t632) ∧ Aside0 (Kd.R k32 32 wc w.heap.size (fun k_ => some k_ ≠ ((.slice Ao75 t632.length co75) : Value).ownBlock) (.slice Ao81 t638.length co81) t638) ∧ Aside0 (wc.heap[gb602]? = some (.cells #[.int .i64 a0_0, (.slice A0_1 l0_1.length c0_1)] 30 (0, 0))) ∧ Aside0 (wc.heap[gb636]? = some (.cells #[.int .i64 t631, (.slice Ao75 t632.length co75)] 30 (0, 0))) ∧ Aside0 (wc.heap[gb642]? = some (.cells #[.int .i64 t637, (.slice Ao81 t638.length co81)] 30 (0, 0))) ∧ Aside0 (Below w.heap.size w wc))
        case first =>
         have H := HC64.out
         clear HC64
         by_cases c82 : (strOfNums t620).toList = (strOfNums t624).toList
         ·
          rw [if_pos c82] at H
          have c82b0 : ((strOfNums t620).toList == (strOfNums t624).toList) = true := beq_iff_eq.mpr c82
          have c82b1 : ((strOfNums t620).toList != (strOfNums t624).toList) = false := bne_eq_false_iff_eq.mpr c82
          clear c82
          (first | rw [c82b0] | (simp only [i64_w, i32_w]; rw [c82b0]) | skip)
          by_cases c83 : t623 = t627
          ·
           rw [if_pos c83] at H
           have c83b0 : (t623 == t627) = true := beq_iff_eq.mpr c83
           have c83b1 : (t623 != t627) = false := bne_eq_false_iff_eq.mpr c83
           clear c83
           replace H := Option.bind_eq_some_iff.mp H
           obtain ⟨t643, A840, H⟩ := H
           try dsimp only at H
           have A84 := Aside0.mk A840
           clear A840
           by_cases c85 : t643 = true
           ·
            subst c85
            rw [if_pos rfl] at H
            have H' := Aside0.mk H
            clear H
            have hcv86 := own_string (P := Try.prog) Try.underlying33 Try.underlying5 Try.underlying9 (Kd.own_of_R HO622.out)
            try have hcs86 := fun (u1_ u2_ : Value) => own_string (P := Try.prog) Try.underlying33 Try.underlying5 Try.underlying9 (Kd.own_of_R (Kd.R_far (p := ⟨gb642, 1, none⟩) (Kd.R_far (p := ⟨gb642, 0, none⟩) (Kd.R_types HO622.out BK642.out (by decide)) (fun k hk => hk.2) u1_) (fun k hk => hk.2) u2_))
            have hcv87 := fun nq_ : Nat => own_string (P := Try.prog) Try.underlying33 Try.underlying5 Try.underlying9 (pw_own_drewN (Kd.own_of_R HO622.out) nq_)
            have hcv88 := own_string (P := Try.prog) Try.underlying33 Try.underlying5 Try.underlying9 (Kd.own_of_R HO626.out)
            try have hcs88 := fun (u1_ u2_ : Value) => own_string (P := Try.prog) Try.underlying33 Try.underlying5 Try.underlying9 (Kd.own_of_R (Kd.R_far (p := ⟨gb642, 1, none⟩) (Kd.R_far (p := ⟨gb642, 0, none⟩) (Kd.R_types HO626.out BK642.out (by decide)) (fun k hk => hk.2) u1_) (fun k hk => hk.2) u2_))
            have hcv89 := fun nq_ : Nat => own_string (P := Try.prog) Try.underlying33 Try.underlying5 Try.underlying9 (pw_own_drewN (Kd.own_of_R HO626.out) nq_)
            have hnb90 := NB636_602.out; have hnc90 := NB602_636.out; have hnb91 := NB636_642.out; have hnc91 := NB642_636.out; obtain ⟨hcz92_0, hcz92_1, hfz92_0, hfz92_1⟩ := cf BK636.out; have hnb93 := NB642_602.out; have hnc93 := NB602_642.out; obtain ⟨hcz94_0, hcz94_1, hfz94_0, hfz94_1⟩ := cf BK642.out
            go_wp2_with (first | (go_at_call 40; (with_reducible refine (tallymankit_Hll.calls kj21 t631 _ _ t632 t637 _ _ t638 true _ ?side1 ?side2 ?side3 ?side4 A84.out).mono ?_); (case side1 => refine (Kd.R_reads' (e := 32) (base := w.heap.size) (ok := fun k_ => (True ∧ nb Ao81 t638.length co81 k_)) (n := t632.length) (c := co75) ?_).2.2; exact (rf HO634.out BK642.out (by decide))); (case side2 => exact (Kd.R_reads' HO634.out).2.1); (case side3 => refine (Kd.R_reads' (e := 32) (base := w.heap.size) (ok := fun k_ => (True ∧ nb Ao75 t632.length co75 k_)) (n := t638.length) (c := co81) ?_).2.2; exact (rf HO640.out BK642.out (by decide))); (case side4 => exact (Kd.R_reads' HO640.out).2.1); rintro e w95 ⟨rfl, hb⟩; replace HO622 := am (Kd.R_below (rf HO622.out BK642.out (by decide)) hb); replace HO626 := am (Kd.R_below (rf HO626.out BK642.out (by decide)) hb); replace HO630 := am (Kd.R_below (rf HO630.out BK642.out (by decide)) hb); replace HO634 := am (Kd.R_below (rf HO634.out BK642.out (by decide)) hb); replace HO640 := am (Kd.R_below (rf HO640.out BK642.out (by decide)) hb); replace BK602 := am (blk_below (bf NB602_642.out BK602.out) hb); replace BK636 := am (blk_below (bf NB636_642.out BK636.out) hb); replace BK642 := am (blk_below (g := gb642) (o := .cells #[.int .i64 t637, .slice Ao81 t638.length co81] 30 (0, 0)) (by (with_reducible repeat (first | refine blk_drewN ?_ _ | refine blk_drew ?_ | refine blk_alloc ?_ _)); refine blk_put (cs := #[.int .i64 t637, .slice none 0 0]) ?_ 1 _ rfl; (with_reducible repeat (first | refine blk_drewN ?_ _ | refine blk_drew ?_ | refine blk_alloc ?_ _)); refine blk_put (cs := #[.int .i64 0, .slice none 0 0]) ?_ 0 _ rfl; exact bu BK642.out) hb); replace HB := am (below_step (by repeat (with_reducible first | exact HB.out | apply bA | apply bN | apply bD | refine bS ?_ ao)) hb); (try clear hb)))
            go_meet
            case rel => exact ⟨_, ((t635 != t641)), (by first | rfl | (simp; done) | (simp [*]; done)), H', ⟨by have := HJ6.out; have := HJ21.out; first | omega | exact Nat.le_refl _⟩, ⟨by (with_reducible repeat (first | apply Kd.R_alloc | apply Kd.R_drewN | apply Kd.R_drew)); exact Kd.R_mono HO634.out (fun _ hk => hk.2)⟩, ⟨by (with_reducible repeat (first | apply Kd.R_alloc | apply Kd.R_drewN | apply Kd.R_drew)); exact Kd.R_mono HO640.out (fun _ hk => hk.2)⟩, ⟨bu BK602.out⟩, ⟨bu BK636.out⟩, ⟨bu BK642.out⟩, ⟨by repeat (with_reducible first | exact HB.out | apply bA | apply bN | apply bD | refine bS ?_ ao)⟩⟩
           ·
            replace c85 := Bool.eq_false_iff.mpr c85
            subst c85
            rw [if_neg Bool.false_ne_true] at H
            exact (no_2 H).elim
          ·
           rw [if_neg c83] at H
           have c83b0 : (t623 == t627) = false := beq_eq_false_iff_ne.mpr c83
           have c83b1 : (t623 != t627) = true := bne_iff_ne.mpr c83
           exact (no_2 H).elim
         ·
          rw [if_neg c82] at H
          have c82b0 : ((strOfNums t620).toList == (strOfNums t624).toList) = false := beq_eq_false_iff_ne.mpr c82
          have c82b1 : ((strOfNums t620).toList != (strOfNums t624).toList) = true := bne_iff_ne.mpr c82
          (first | rw [c82b0] | (simp only [i64_w, i32_w]; rw [c82b0]) | skip)
          exact (no_2 H).elim
        case rest =>
         clear HC64
         obtain ⟨kq, x123_63, rfl, HA, HJ63, HO_637001, HO_643001, BK602, BK636, BK642, HB⟩ := hcut
         cases kq with
         | zero => exact absurd HA.out (by simp [tallymanlaw15_DenseCalls.j2])
         | succ kj63 =>
          have H := HA.out
          clear HA
          simp only [tallymanlaw15_DenseCalls.j2] at H
          by_cases c114 : x123_63 = true
          ·
           subst c114
           rw [if_pos rfl] at H
           exact absurd H (by simp)
          ·
           replace c114 := Bool.eq_false_iff.mpr c114
           subst c114
           rw [if_neg Bool.false_ne_true] at H
           obtain ⟨y644, hy644⟩ : ∃ y_ : List Int, y_ = (([] : List Int)) := ⟨_, rfl⟩
           replace H : (if y644.length + l2.length < 17592186044416 then ((dense_Pack.f kj63 (y644 ++ l2)).bind fun bt650 => ((tallymanref15_Pack.f kj63 l2).bind fun bt654 => (if (strOfNums bt650.1).toList = (strOfNums bt654.1).toList then (if bt650.2 = bt654.2 then ((dense_Unpack.f kj63 l1).bind fun t658 => ((tallymanref15_Unpack.f kj63 l1).bind fun t661 => ((tallymankit_Ints.f kj63 t658 t661).bind fun t664 => (if t664 = true then ((dense_Log2.f kj63 a3).bind fun t665 => ((tallymanref15_Log2.f kj63 a3).bind fun t666 => (if t665 = t666 then ((dense_Estimate.f kj63 a0_0 l0_1).bind fun t667 => ((tallymanref15_Estimate.f kj63 a0_0 l0_1).bind fun t668 => (some (t667 == t668)))) else (none)))) else (none))))) else (none)) else (none)))) else (none)) = some r := by first | (rw [hy644]; with_reducible exact H) | (have H2_ := (Option.bind_some _ _).symm.trans H; rw [hy644]; with_reducible exact H2_) | (have H2_ := (Option.bind_some _ _).symm.trans H; with_reducible exact H2_) | with_reducible exact H | (rw [hy644]; exact H) | exact H
           have Ny644 := Aside0.mk hy644
           clear hy644
           by_cases c115 : y644.length + l2.length < 17592186044416
           ·
            rw [if_pos c115] at H
            have LMc115 := Aside0.mk c115
            clear c115
            obtain ⟨y647, hy647⟩ : ∃ y_ : List Int, y_ = (y644 ++ l2) := ⟨_, rfl⟩
            replace H : ((dense_Pack.f kj63 y647).bind fun bt650 => ((tallymanref15_Pack.f kj63 l2).bind fun bt654 => (if (strOfNums bt650.1).toList = (strOfNums bt654.1).toList then (if bt650.2 = bt654.2 then ((dense_Unpack.f kj63 l1).bind fun t658 => ((tallymanref15_Unpack.f kj63 l1).bind fun t661 => ((tallymankit_Ints.f kj63 t658 t661).bind fun t664 => (if t664 = true then ((dense_Log2.f kj63 a3).bind fun t665 => ((tallymanref15_Log2.f kj63 a3).bind fun t666 => (if t665 = t666 then ((dense_Estimate.f kj63 a0_0 l0_1).bind fun t667 => ((tallymanref15_Estimate.f kj63 a0_0 l0_1).bind fun t668 => (some (t667 == t668)))) else (none)))) else (none))))) else (none)) else (none)))) = some r := by first | (rw [hy647]; with_reducible exact H) | (have H2_ := (Option.bind_some _ _).symm.trans H; rw [hy647]; with_reducible exact H2_) | (have H2_ := (Option.bind_some _ _).symm.trans H; with_reducible exact H2_) | with_reducible exact H | (rw [hy647]; exact H) | exact H
            have Ny647 := Aside0.mk hy647
            clear hy647
            replace H := Option.bind_eq_some_iff.mp H
            obtain ⟨⟨t650, t653⟩, A1160, H⟩ := H
            try dsimp only at H
            have A116 := Aside0.mk A1160
            clear A1160
            replace H := Option.bind_eq_some_iff.mp H
            obtain ⟨⟨t654, t655⟩, A1170, H⟩ := H
            try dsimp only at H
            have A117 := Aside0.mk A1170
            clear A1170
            by_cases c118 : (strOfNums t650).toList = (strOfNums t654).toList
            ·
             rw [if_pos c118] at H
             have c118b0 : ((strOfNums t650).toList == (strOfNums t654).toList) = true := beq_iff_eq.mpr c118
             have c118b1 : ((strOfNums t650).toList != (strOfNums t654).toList) = false := bne_eq_false_iff_eq.mpr c118
             clear c118
             by_cases c119 : t653 = t655
             ·
              rw [if_pos c119] at H
              have c119b0 : (t653 == t655) = true := beq_iff_eq.mpr c119
              have c119b1 : (t653 != t655) = false := bne_eq_false_iff_eq.mpr c119
              clear c119
              replace H := Option.bind_eq_some_iff.mp H
              obtain ⟨t658, A1200, H⟩ := H
              try dsimp only at H
              have A120 := Aside0.mk A1200
              clear A1200
              replace H := Option.bind_eq_some_iff.mp H
              obtain ⟨t661, A1210, H⟩ := H
              try dsimp only at H
              have A121 := Aside0.mk A1210
              clear A1210
              replace H := Option.bind_eq_some_iff.mp H
              obtain ⟨t664, A1220, H⟩ := H
              try dsimp only at H
              have A122 := Aside0.mk A1220
              clear A1220
              by_cases c123 : t664 = true
              ·
               subst c123
               rw [if_pos rfl] at H
               replace H := Option.bind_eq_some_iff.mp H
               obtain ⟨t665, A1240, H⟩ := H
               try dsimp only at H
               have A124 := Aside0.mk A1240
               clear A1240
               replace H := Option.bind_eq_some_iff.mp H
               obtain ⟨t666, A1250, H⟩ := H
               try dsimp only at H
               have A125 := Aside0.mk A1250
               clear A1250
               by_cases c126 : t665 = t666
               ·
                rw [if_pos c126] at H
                have c126b0 : (t665 == t666) = true := beq_iff_eq.mpr c126
                have c126b1 : (t665 != t666) = false := bne_eq_false_iff_eq.mpr c126
                clear c126
                replace H := Option.bind_eq_some_iff.mp H
                obtain ⟨t667, A1270, H⟩ := H
                try dsimp only at H
                have A127 := Aside0.mk A1270
                clear A1270
                replace H := Option.bind_eq_some_iff.mp H
                obtain ⟨t668, A1280, H⟩ := H
                replace H : (some (t667 == t668)) = some r := H
                have A128 := Aside0.mk A1280
                clear A1280
                obtain rfl := Option.some.inj H
                try go_wp2_with (first | ((with_reducible refine gate_dst (N := 125) rfl ?_); (try (refine gate_guard (by rfl) ?_; dsimp only)); refine Kd.R_lit (Kd.int .i64) _ 3 ?hg (N := 125) ?hd (xs := ([] : List Int)) (inner := []) (ok := fun _ => True) (okp := fun _ => True) ?hr ?hp (fun _ hk => hk) trivial (Below.refl _ _) (Nat.le_refl _) (by simp) ?_; (case hd => rfl); (case hg => rfl); (case hr => go_simp; try rfl); (case hp => exact (Reps.none _ _)); intro v645 w129 ho130 hb hg_ hnew_; clear hg_ hnew_; (first | rw [← Ny644.out] at ho130 | (simp only [Int.reduceToNat] at ho130; rw [← Ny644.out] at ho130)); have HO646 := am (Kd.R_lower ho130 (below_size (by repeat (with_reducible first | exact HB.out | apply bA | apply bN | apply bD | refine bS ?_ ao)))); replace HO_637001 := rb HO_637001 hb; replace HO_643001 := rb HO_643001 hb; replace BK602 := bb BK602 hb; replace BK636 := bb BK636 hb; replace BK642 := bb BK642 hb; replace HB := am (below_step (by repeat (with_reducible first | exact HB.out | apply bA | apply bN | apply bD | refine bS ?_ ao)) hb); clear hb ho130) | ((with_reducible refine gate_builtin (b := .append) (xs := #[.tmp 125, .tmp 126]) rfl ?_); (try (refine gate_guard (by rfl) ?_; dsimp only)); at_builtin; refine Kd.R_append_rows (Kd.int .i64) (w0 := w) w.heap.size rfl (.tmp 125) (.tmp 126) 58 3 (.int .i64 0) 8 rfl Try.underlying58 info3 rfl (by decide) (by omega) v645 y644 l2 _ _ _ (fun _ => True) (fun _ => False) rfl rfl ?aO ?aR (fun _ _ h => h) (fun _ h => h.elim) ?aF ?aB ?aS ?aL ?_; (case aR => exact cu (Kd.C_below HR2.out HB.out)); (case aB => exact (by repeat (with_reducible first | exact HB.out | apply bA | apply bN | apply bD | refine bS ?_ ao))); (case aF => exact (fun _ _ => trivial)); (case aO => exact (ru (HO646.out))); (case aS => exact (below_size (by repeat (with_reducible first | exact HB.out | apply bA | apply bN | apply bD | refine bS ?_ ao)))); (case aL => have := LMc115.out; omega); intro v648 w131 ho hb hg hat; rw [← Ny647.out] at ho; have HO649 := am (ho); replace HO_637001 := am (Kd.R_over' (ru (HO_637001.out)) (Kd.R_typed (ru (HO646.out))) (by decide) hg); replace HO_643001 := am (Kd.R_over' (ru (HO_643001.out)) (Kd.R_typed (ru (HO646.out))) (by decide) hg); replace BK602 := am (blk_grown (g := gb602) (o := .cells #[.int .i64 a0_0, .slice A0_1 l0_1.length c0_1] 30 (0, 0)) (bu BK602.out) hg (Kd.R_ne HO646.out BK602.out (by decide))); replace BK636 := am (blk_grown (g := gb636) (o := .cells #[.int .i64 t631, .slice Ao75 t632.length co75] 30 (0, 0)) (bu BK636.out) hg (Kd.R_ne HO646.out BK636.out (by decide))); replace BK642 := am (blk_grown (g := gb642) (o := .cells #[.int .i64 t637, .slice Ao81 t638.length co81] 30 (0, 0)) (bu BK642.out) hg (Kd.R_ne HO646.out BK642.out (by decide))); replace HB := am (hb); clear HO646; clear ho hb hg hat; obtain ⟨Ao132, co132, eo132⟩ := Kd.R_slice HO649.out; subst eo132) | ((with_reducible refine gate_callee (f := 37) rfl ?_); refine goesL_ (some 128) rfl rfl Try.func37 (by kernel_rfl) rfl #[.slice Ao132 y647.length co132] rfl (by (try simp only [List.map_toArray, List.map_cons, List.map_nil]); first | done | rfl) ?_; (with_reducible refine (dense_Pack.calls kj63 (fun k_ => some k_ = (.slice Ao132 y647.length co132 : Value).ownBlock) _ _ y647 t650 t653 _ ?side1 A116.out).mono ?_); (case side1 => exact Kd.R_V (Kd.R_tight rfl (Kd.R_types (Kd.R_types (Kd.R_types (Kd.R_apart' (Kd.R_apart' (HO649.out) (Kd.R_typed HO_637001.out) (by decide)) (Kd.R_typed HO_643001.out) (by decide)) BK602.out (by decide)) BK636.out (by decide)) BK642.out (by decide)))); rintro e w133 ⟨v651, rfl, ho0, hb⟩; refine ⟨_, rfl, ?_⟩; have HO652 := am (Kd.R_lower (Kd.R_mono (ok' := fun k_ => True) ho0 (fun _ hk_ => trivial)) (below_size (by repeat (with_reducible first | exact HB.out | apply bA | apply bN | apply bD | refine bS ?_ ao)))); replace HO_637001 := rb HO_637001 hb; replace HO_643001 := rb HO_643001 hb; replace HO649 := rb HO649 hb; replace BK602 := bb BK602 hb; replace BK636 := bb BK636 hb; replace BK642 := bb BK642 hb; replace HB := am (below_step (by repeat (with_reducible first | exact HB.out | apply bA | apply bN | apply bD | refine bS ?_ ao)) hb); (try clear hb); (try clear ho0)) | ((with_reducible refine gate_callee (f := 54) rfl ?_); refine goesL_ (some 133) rfl rfl Try.func54 (by kernel_rfl) rfl #[.slice A2 l2.length c2] rfl (by (try simp only [List.map_toArray, List.map_cons, List.map_nil]); first | done | rfl) ?_; (with_reducible refine (tallymanref15_Pack.calls kj63 _ _ l2 t654 t655 _ ?side1 ?side2 A117.out).mono ?_); (case side1 => exact cu (Kd.C_below HR2.out HB.out)); (case side2 => exact HC2.out); rintro e w134 ⟨v656, rfl, ho0, hb⟩; refine ⟨_, rfl, ?_⟩; have HO657 := am (Kd.R_lower (Kd.R_new' ho0 (Kd.R_lt (ru (HO652.out)))) (below_size (by repeat (with_reducible first | exact HB.out | apply bA | apply bN | apply bD | refine bS ?_ ao)))); replace HO_637001 := rb HO_637001 hb; replace HO_643001 := rb HO_643001 hb; replace HO649 := rb HO649 hb; replace HO652 := am (Kd.R_elder' (ru (HO652.out)) (Kd.R_base ho0) hb); replace BK602 := bb BK602 hb; replace BK636 := bb BK636 hb; replace BK642 := bb BK642 hb; replace HB := am (below_step (by repeat (with_reducible first | exact HB.out | apply bA | apply bN | apply bD | refine bS ?_ ao)) hb); (try clear hb); (try clear ho0)))
                replace HO_637001 := am (Kd.R_drew HO_637001.out); replace HO_643001 := am (Kd.R_drew HO_643001.out); replace HO649 := am (Kd.R_drew HO649.out); replace HO652 := am (Kd.R_drew HO652.out); replace HO657 := am (Kd.R_drew HO657.out); replace BK602 := am (blk_drew BK602.out); replace BK636 := am (blk_drew BK636.out); replace BK642 := am (blk_drew BK642.out); replace HB := am (below_drew1 HB.out)
                refine start_ (n := 32) (S := fun w' => w'.cell? ⟨gb602, 0, none⟩ = some (.int .i64 a0_0) ∧ w'.cell? ⟨gb602, 1, none⟩ = some (.slice A0_1 l0_1.length c0_1)) (ds := []) (tb 0 32) (by kernel_rfl) rfl rfl ⟨(blk_cell BK602.out 0).trans rfl, (blk_cell BK602.out 1).trans rfl⟩ (fun hHeld => ?_); refine with_tabW tallymanlaw15_DenseCalls.tab19 tallymanlaw15_DenseCalls.bits19 (fun HT_ HW_ => ?_)
                generalize w134.drew = w135 at HO_637001 HO_643001 HO649 HO652 HO657 BK602 BK636 BK642 HB hHeld ⊢
                refine pu 0 (some 136) (v := ?_) (a' := ?_) (tb 1 32) rfl rfl (any_of HT_.out (by kernel_rfl)) (fun _ _ _ h => h) ⟨by rfl, ?_⟩ ?_ ?_; rotate_left; · (intro w'; go_simp; with_reducible rfl)
                rotate_left; · (simp only [Act.put, sa_, sb_, sc_, i64_w, i32_w]; rfl)
                refine pu 2 (some 138) (v := ?_) (a' := ?_) #[true, false, true, false, false, false, false, false, false, false, false, false, false, false, false, false, false, false, false, false, false, false, false, false, false, false, false, false, false, false, false, false] rfl rfl (any_of HT_.out (by kernel_rfl)) (fun _ _ _ h => h) ⟨by rfl, ?_⟩ ?_ ?_; rotate_left; · (intro w'; go_simp; with_reducible rfl)
                rotate_left; · (simp only [Act.put, sa_, sb_, sc_, i64_w, i32_w]; rfl)
                refine join_ (σ := Unit) 28 (tb 4 32) (fun s_ => [(137, .string (strOfNums t650)), (139, .string (strOfNums t654))]) (fun s_ w' => (w'.cell? ⟨gb602, 0, none⟩ = some (.int .i64 a0_0) ∧ w'.cell? ⟨gb602, 1, none⟩ = some (.slice A0_1 l0_1.length c0_1)) ∧ (Kd.R (Kd.int .i64) 3 w' w.heap.size (fun _ => True) (.slice Ao132 y647.length co132) y647) ∧ (Kd.R (Kd.int .u8) 5 w' w.heap.size (fun k_ => some k_ ≠ (v656 : Value).ownBlock) v651 t650) ∧ (Kd.R (Kd.int .u8) 5 w' w.heap.size (fun k_ => some k_ ≠ (v651 : Value).ownBlock) v656 t654) ∧ (Kd.R k32 32 w' w.heap.size (fun k_ => nb Ao81 t638.length co81 k_) (.slice Ao75 t632.length co75) t632) ∧ (Kd.R k32 32 w' w.heap.size (fun k_ => nb Ao75 t632.length co75 k_) (.slice Ao81 t638.length co81) t638) ∧ (w'.heap[gb602]? = some (.cells #[.int .i64 a0_0, .slice A0_1 l0_1.length c0_1] 30 (0, 0))) ∧ (w'.heap[gb636]? = some (.cells #[.int .i64 t631, .slice Ao75 t632.length co75] 30 (0, 0))) ∧ (w'.heap[gb642]? = some (.cells #[.int .i64 t637, .slice Ao81 t638.length co81] 30 (0, 0))) ∧ (Below w.heap.size w w')) ?_ ?_
                rotate_left
                ·
                 intro hCont
                 refine two_ (i := 1) (j := 3) (Ni := some 137) (Nj := some 139) (tb 3 32) #[true, false, true, true, false, false, false, false, false, false, false, false, false, false, false, false, false, false, false, false, false, false, false, false, false, false, false, false, false, false, false, false] rfl rfl rfl rfl (two_of HT_.out (by kernel_rfl)) (by decide) (by decide) (fun K hK => ?_) (fun K hK => ?_)
                 ·
                  skip
                  have hcv136 := own_string (P := Try.prog) Try.underlying33 Try.underlying5 Try.underlying9 (Kd.own_of_R HO652.out)
                  try have hcs136 := fun (u1_ u2_ : Value) => own_string (P := Try.prog) Try.underlying33 Try.underlying5 Try.underlying9 (Kd.own_of_R (Kd.R_far (p := ⟨gb642, 1, none⟩) (Kd.R_far (p := ⟨gb642, 0, none⟩) (Kd.R_types HO652.out BK642.out (by decide)) (fun k hk => hk.2) u1_) (fun k hk => hk.2) u2_))
                  refine value_ (w1 := ?_) (v := ?_) (by rfl) rfl ?_ ?_
                  rotate_left 2
                  ·
                   go_simp
                   constructor
                   ·
                    rfl
                   ·
                    rfl
                  clear hcv136
                  refine hK.out _ _ ⟨(blk_cell BK602.out 0).trans rfl, (blk_cell BK602.out 1).trans rfl⟩ (fun hHeld => ?_)
                  clear hK K
                  refine norm_ (a' := ?_) ?_ ?_
                  rotate_left
                  ·
                   show Act.put _ (some 137) _ = _
                   simp only [Act.put, List.setIfInBounds_toArray, List.set_cons_zero, List.set_cons_succ, i64_w, i32_w]
                   rfl
                  refine one_ (i := 3) (N := some 139) (tb 4 32) rfl rfl (one_of HT_.out (by kernel_rfl)) (by decide) (fun K hK => ?_)
                  have hcv137 := own_string (P := Try.prog) Try.underlying33 Try.underlying5 Try.underlying9 (Kd.own_of_R HO657.out)
                  try have hcs137 := fun (u1_ u2_ : Value) => own_string (P := Try.prog) Try.underlying33 Try.underlying5 Try.underlying9 (Kd.own_of_R (Kd.R_far (p := ⟨gb642, 1, none⟩) (Kd.R_far (p := ⟨gb642, 0, none⟩) (Kd.R_types HO657.out BK642.out (by decide)) (fun k hk => hk.2) u1_) (fun k hk => hk.2) u2_))
                  refine value_ (w1 := ?_) (v := ?_) (by rfl) rfl ?_ ?_
                  rotate_left 2
                  ·
                   go_simp
                   constructor
                   ·
                    rfl
                   ·
                    rfl
                  clear hcv137
                  refine hK.out _ _ ⟨(blk_cell BK602.out 0).trans rfl, (blk_cell BK602.out 1).trans rfl⟩ (fun hHeld => ?_)
                  clear hK K
                  refine norm_ (a' := ?_) ?_ ?_
                  rotate_left
                  ·
                   show Act.put _ (some 139) _ = _
                   simp only [Act.put, List.setIfInBounds_toArray, List.set_cons_zero, List.set_cons_succ, i64_w, i32_w]
                   rfl
                  exact norm_ (by simp only [putAll, Act.put, List.setIfInBounds_toArray, List.set_cons_zero, List.set_cons_succ]) (hCont () _ ⟨hHeld, (ru (HO649.out)), (ru (Kd.R_mono HO652.out (fun _ hk => hk.2))), (ru (Kd.R_mono HO657.out (fun _ hk => hk.2))), (ru (HO_637001.out)), (ru (HO_643001.out)), (bu BK602.out), (bu BK636.out), (bu BK642.out), (by repeat (with_reducible first | exact HB.out | apply bA | apply bN | apply bD | refine bS ?_ ao))⟩)
                 ·
                  skip
                  have hcv136 := own_string (P := Try.prog) Try.underlying33 Try.underlying5 Try.underlying9 (Kd.own_of_R HO657.out)
                  try have hcs136 := fun (u1_ u2_ : Value) => own_string (P := Try.prog) Try.underlying33 Try.underlying5 Try.underlying9 (Kd.own_of_R (Kd.R_far (p := ⟨gb642, 1, none⟩) (Kd.R_far (p := ⟨gb642, 0, none⟩) (Kd.R_types HO657.out BK642.out (by decide)) (fun k hk => hk.2) u1_) (fun k hk => hk.2) u2_))
                  refine value_ (w1 := ?_) (v := ?_) (by rfl) rfl ?_ ?_
                  rotate_left 2
                  ·
                   go_simp
                   constructor
                   ·
                    rfl
                   ·
                    rfl
                  clear hcv136
                  refine hK.out _ _ ⟨(blk_cell BK602.out 0).trans rfl, (blk_cell BK602.out 1).trans rfl⟩ (fun hHeld => ?_)
                  clear hK K
                  refine norm_ (a' := ?_) ?_ ?_
                  rotate_left
                  ·
                   show Act.put _ (some 139) _ = _
                   simp only [Act.put, List.setIfInBounds_toArray, List.set_cons_zero, List.set_cons_succ, i64_w, i32_w]
                   rfl
                  refine one_ (i := 1) (N := some 137) (tb 4 32) rfl rfl (one_of HT_.out (by kernel_rfl)) (by decide) (fun K hK => ?_)
                  have hcv137 := own_string (P := Try.prog) Try.underlying33 Try.underlying5 Try.underlying9 (Kd.own_of_R HO652.out)
                  try have hcs137 := fun (u1_ u2_ : Value) => own_string (P := Try.prog) Try.underlying33 Try.underlying5 Try.underlying9 (Kd.own_of_R (Kd.R_far (p := ⟨gb642, 1, none⟩) (Kd.R_far (p := ⟨gb642, 0, none⟩) (Kd.R_types HO652.out BK642.out (by decide)) (fun k hk => hk.2) u1_) (fun k hk => hk.2) u2_))
                  refine value_ (w1 := ?_) (v := ?_) (by rfl) rfl ?_ ?_
                  rotate_left 2
                  ·
                   go_simp
                   constructor
                   ·
                    rfl
                   ·
                    rfl
                  clear hcv137
                  refine hK.out _ _ ⟨(blk_cell BK602.out 0).trans rfl, (blk_cell BK602.out 1).trans rfl⟩ (fun hHeld => ?_)
                  clear hK K
                  refine norm_ (a' := ?_) ?_ ?_
                  rotate_left
                  ·
                   show Act.put _ (some 137) _ = _
                   simp only [Act.put, List.setIfInBounds_toArray, List.set_cons_zero, List.set_cons_succ, i64_w, i32_w]
                   rfl
                  exact norm_ (by simp only [putAll, Act.put, List.setIfInBounds_toArray, List.set_cons_zero, List.set_cons_succ]) (hCont () _ ⟨hHeld, (ru (HO649.out)), (ru (Kd.R_mono HO652.out (fun _ hk => hk.2))), (ru (Kd.R_mono HO657.out (fun _ hk => hk.2))), (ru (HO_637001.out)), (ru (HO_643001.out)), (bu BK602.out), (bu BK636.out), (bu BK642.out), (by repeat (with_reducible first | exact HB.out | apply bA | apply bN | apply bD | refine bS ?_ ao))⟩)
                rintro _ w138 ⟨hS_, h0_, h1_, h2_, h3_, h4_, h5_, h6_, h7_, h8_⟩
                have n0_ : Aside0 (Kd.R (Kd.int .i64) 3 w138 w.heap.size (fun _ => True) (.slice Ao132 y647.length co132) y647) := ⟨h0_⟩
                have n1_ : Aside0 (Kd.R (Kd.int .u8) 5 w138 w.heap.size (fun k_ => some k_ ≠ (v656 : Value).ownBlock) v651 t650) := ⟨h1_⟩
                have n2_ : Aside0 (Kd.R (Kd.int .u8) 5 w138 w.heap.size (fun k_ => some k_ ≠ (v651 : Value).ownBlock) v656 t654) := ⟨h2_⟩
                have n3_ : Aside0 (Kd.R k32 32 w138 w.heap.size (fun k_ => nb Ao81 t638.length co81 k_) (.slice Ao75 t632.length co75) t632) := ⟨h3_⟩
                have n4_ : Aside0 (Kd.R k32 32 w138 w.heap.size (fun k_ => nb Ao75 t632.length co75 k_) (.slice Ao81 t638.length co81) t638) := ⟨h4_⟩
                have n5_ : Aside0 (w138.heap[gb602]? = some (.cells #[.int .i64 a0_0, .slice A0_1 l0_1.length c0_1] 30 (0, 0))) := ⟨h5_⟩
                have n6_ : Aside0 (w138.heap[gb636]? = some (.cells #[.int .i64 t631, .slice Ao75 t632.length co75] 30 (0, 0))) := ⟨h6_⟩
                have n7_ : Aside0 (w138.heap[gb642]? = some (.cells #[.int .i64 t637, .slice Ao81 t638.length co81] 30 (0, 0))) := ⟨h7_⟩
                have n8_ : Aside0 (Below w.heap.size w w138) := ⟨h8_⟩
                clear HO_637001
                clear HO_643001
                clear HO649
                clear HO652
                clear HO657
                clear BK602
                clear BK636
                clear BK642
                clear HB
                clear h0_ h1_ h2_ h3_ h4_ h5_ h6_ h7_ h8_
                have HO649 := n0_; have HO652 := n1_; have HO657 := n2_; have HO_637001 := n3_; have HO_643001 := n4_; have BK602 := n5_; have BK636 := n6_; have BK642 := n7_; have HB := n8_
                clear n0_ n1_ n2_ n3_ n4_ n5_ n6_ n7_ n8_
                have hHeld : w138.cell? ⟨gb602, 0, none⟩ = some (.int .i64 a0_0) ∧ w138.cell? ⟨gb602, 1, none⟩ = some (.slice A0_1 l0_1.length c0_1) := hS_
                refine norm_ (a' := ?_) ?_ ?_
                rotate_left
                ·
                 simp only [putAll, Act.put, List.setIfInBounds_toArray, List.set_cons_zero, List.set_cons_succ]
                 rfl
                refine pu 4 (some 140) (v := ?_) (a' := ?_) (tb 5 32) rfl rfl (any_of HT_.out (by kernel_rfl)) (fun _ _ _ h => h) ⟨by rfl, ?_⟩ ?_ ?_; rotate_left; · (intro w'; go_simp; with_reducible rfl)
                rotate_left; · (simp only [Act.put, sa_, sb_, sc_, i64_w, i32_w]; rfl)
                refine pu 5 (some 141) (v := ?_) (a' := ?_) (tb 6 32) rfl rfl (any_of HT_.out (by kernel_rfl)) (fun _ _ _ h => h) ⟨by rfl, ?_⟩ ?_ ?_; rotate_left; · (intro w'; go_simp; with_reducible rfl)
                rotate_left; · (simp only [Act.put, sa_, sb_, sc_, i64_w, i32_w]; rfl)
                refine pu 6 (some 142) (v := ?_) (a' := ?_) (tb 7 32) rfl rfl (any_of HT_.out (by kernel_rfl)) (fun _ _ _ h => h) ⟨by rfl, ?_⟩ ?_ ?_; rotate_left; · (intro w'; go_simp; with_reducible rfl)
                rotate_left; · (simp only [Act.put, sa_, sb_, sc_, i64_w, i32_w]; rfl)
                refine pu 7 (some 143) (v := ?_) (a' := ?_) (tb 8 32) rfl rfl (any_of HT_.out (by kernel_rfl)) (fun _ _ _ h => h) ⟨by rfl, ?_⟩ ?_ ?_; rotate_left; · (intro w'; go_simp; with_reducible rfl)
                rotate_left; · (simp only [Act.put, sa_, sb_, sc_, i64_w, i32_w]; rfl)
                refine pu 8 (some 144) (v := ?_) (a' := ?_) (tb 9 32) rfl rfl (any_of HT_.out (by kernel_rfl)) (fun _ _ _ h => h) ⟨by rfl, ?_⟩ ?_ ?_; rotate_left; · (intro w'; go_simp; with_reducible rfl)
                rotate_left; · (simp only [Act.put, sa_, sb_, sc_, i64_w, i32_w]; rfl)
                refine pu 9 (some 145) (v := ?_) (a' := ?_) (tb 10 32) rfl rfl (any_of HT_.out (by kernel_rfl)) (fun _ _ _ h => h) ⟨by rfl, ?_⟩ ?_ ?_; rotate_left; · (intro w'; go_simp; with_reducible rfl)
                rotate_left; · (simp only [Act.put, sa_, sb_, sc_, i64_w, i32_w]; rfl)
                refine pu 10 (some 146) (v := ?_) (a' := ?_) (tb 11 32) rfl rfl (any_of HT_.out (by kernel_rfl)) (fun _ _ _ h => h) ⟨by rfl, ?_⟩ ?_ ?_; rotate_left; · (intro w'; go_simp; with_reducible rfl)
                rotate_left; · (simp only [Act.put, sa_, sb_, sc_, i64_w, i32_w]; rfl)
                refine pu 11 (some 147) (v := ?_) (a' := ?_) (tb 12 32) rfl rfl (any_of HT_.out (by kernel_rfl)) (fun _ _ _ h => h) ⟨by rfl, ?_⟩ ?_ ?_; rotate_left; · (intro w'; go_simp; with_reducible rfl)
                rotate_left; · (simp only [Act.put, sa_, sb_, sc_, i64_w, i32_w]; rfl)
                refine pu 13 (some 149) (v := ?_) (a' := ?_) #[true, true, true, true, true, true, true, true, true, true, true, true, false, true, false, false, false, false, false, false, false, false, false, false, false, false, false, false, false, false, false, false] rfl rfl (any_of HT_.out (by kernel_rfl)) (fun _ _ _ h => h) ⟨by rfl, ?_⟩ ?_ ?_; rotate_left; · (intro w'; go_simp; with_reducible rfl)
                rotate_left; · (simp only [Act.put, sa_, sb_, sc_, i64_w, i32_w]; rfl)
                refine one_ (i := 12) (N := some 148) (tb 14 32) rfl rfl (one_of HT_.out (by kernel_rfl)) (by decide) (fun K hK => ?_)
                refine goes_ Try.func39 (by kernel_rfl) rfl #[.slice A1 l1.length c1] (by rfl) rfl rfl (by (try simp only [List.map_toArray, List.map_cons, List.map_nil]); first | done | rfl) ?_
                with_reducible refine (dense_Unpack.calls kj63 (fun k_ => k_ < w.heap.size) _ _ l1 t658 _ ?side1 A120.out).mono ?_
                (case side1 => exact Kd.V_mk HC1.out (Kd.F_below (Kd.C_F (Kd.heap_int .u8) HR1.out) (by repeat (with_reducible first | exact HB.out | apply bA | apply bN | apply bD | refine bS ?_ ao))))
                rintro e w139 ⟨v659, rfl, ho0, hb⟩
                refine ⟨_, rfl, ?_⟩
                have HO660 := am (Kd.R_lower (Kd.R_new' (Kd.R_mono (ok' := fun k_ => True) ho0 (fun _ hk_ => trivial)) (Kd.R_lt (ru (HO649.out)))) (below_size (by repeat (with_reducible first | exact HB.out | apply bA | apply bN | apply bD | refine bS ?_ ao)))); replace HO_637001 := rb HO_637001 hb; replace HO_643001 := rb HO_643001 hb; replace HO649 := am (Kd.R_elder' (ru (HO649.out)) (Kd.R_base ho0) hb); replace HO652 := rb HO652 hb; replace HO657 := rb HO657 hb; replace BK602 := bb BK602 hb; replace BK636 := bb BK636 hb; replace BK642 := bb BK642 hb; replace HB := am (below_step (by repeat (with_reducible first | exact HB.out | apply bA | apply bN | apply bD | refine bS ?_ ao)) hb)
                (try clear hb)
                (try clear hb2)
                (try clear hk)
                (try clear hi)
                (try clear ho0)
                refine hK.out _ _ ⟨(blk_cell BK602.out 0).trans rfl, (blk_cell BK602.out 1).trans rfl⟩ (fun hHeld => ?_)
                clear hK K
                refine norm_ (a' := ?_) ?_ ?_
                rotate_left
                ·
                 show Act.put _ (some 148) _ = _
                 simp only [Act.put, List.setIfInBounds_toArray, List.set_cons_zero, List.set_cons_succ, i64_w, i32_w]
                 rfl
                refine one_ (i := 14) (N := some 150) (tb 15 32) rfl rfl (one_of HT_.out (by kernel_rfl)) (by decide) (fun K hK => ?_)
                refine goes_ Try.func55 (by kernel_rfl) rfl #[.slice A1 l1.length c1] (by rfl) rfl rfl (by (try simp only [List.map_toArray, List.map_cons, List.map_nil]); first | done | rfl) ?_
                with_reducible refine (tallymanref15_Unpack.calls kj63 _ _ l1 t661 _ ?side1 ?side2 A121.out).mono ?_
                (case side1 => exact cu (Kd.C_below HR1.out HB.out))
                (case side2 => exact HC1.out)
                rintro e w140 ⟨v662, rfl, ho0, hb⟩
                refine ⟨_, rfl, ?_⟩
                have HO663 := am (Kd.R_lower (Kd.R_new' (Kd.R_new' ho0 (Kd.R_lt (ru (HO649.out)))) (Kd.R_lt (ru (HO660.out)))) (below_size (by repeat (with_reducible first | exact HB.out | apply bA | apply bN | apply bD | refine bS ?_ ao)))); replace HO_637001 := rb HO_637001 hb; replace HO_643001 := rb HO_643001 hb; replace HO649 := am (Kd.R_elder' (ru (HO649.out)) (Kd.R_base ho0) hb); replace HO652 := rb HO652 hb; replace HO657 := rb HO657 hb; replace HO660 := am (Kd.R_elder' (ru (HO660.out)) (Kd.R_base ho0) hb); replace BK602 := bb BK602 hb; replace BK636 := bb BK636 hb; replace BK642 := bb BK642 hb; replace HB := am (below_step (by repeat (with_reducible first | exact HB.out | apply bA | apply bN | apply bD | refine bS ?_ ao)) hb)
                (try clear hb)
                (try clear hb2)
                (try clear hk)
                (try clear hi)
                (try clear ho0)
                obtain ⟨Ao141, co141, eo141⟩ := Kd.R_slice HO660.out
                (first | subst eo141 | (injection eo141 with f1_ f2_ f3_; have f4_ := f1_.symm; have f5_ := f3_.symm; clear f1_ f2_ f3_; subst f4_; subst f5_))
                obtain ⟨Ao142, co142, eo142⟩ := Kd.R_slice HO663.out
                (first | subst eo142 | (injection eo142 with f1_ f2_ f3_; have f4_ := f1_.symm; have f5_ := f3_.symm; clear f1_ f2_ f3_; subst f4_; subst f5_))
                refine hK.out _ _ ⟨(blk_cell BK602.out 0).trans rfl, (blk_cell BK602.out 1).trans rfl⟩ (fun hHeld => ?_)
                clear hK K
                refine norm_ (a' := ?_) ?_ ?_
                rotate_left
                ·
                 show Act.put _ (some 150) _ = _
                 simp only [Act.put, List.setIfInBounds_toArray, List.set_cons_zero, List.set_cons_succ, i64_w, i32_w]
                 rfl
                refine one_ (i := 15) (N := some 151) (tb 16 32) rfl rfl (one_of HT_.out (by kernel_rfl)) (by decide) (fun K hK => ?_)
                refine goes_ Try.func38 (by kernel_rfl) rfl #[.slice Ao141 t658.length co141, .slice Ao142 t661.length co142] (by rfl) rfl rfl (by (try simp only [List.map_toArray, List.map_cons, List.map_nil]); first | done | rfl) ?_
                with_reducible refine (tallymankit_Ints.calls kj63 _ _ t658 _ _ t661 true _ ?side1 ?side2 ?side3 ?side4 A122.out).mono ?_
                (case side1 => repeat (first | exact (Kd.R_reads' HO660.out).2.2 | (with_reducible refine Kd.C_alloc ?_ _) | (with_reducible refine Kd.C_drewN ?_ _) | (with_reducible refine Kd.C_drew ?_)))
                (case side2 => exact (Kd.R_reads' HO660.out).2.1)
                (case side3 => repeat (first | exact (Kd.R_reads' HO663.out).2.2 | (with_reducible refine Kd.C_alloc ?_ _) | (with_reducible refine Kd.C_drewN ?_ _) | (with_reducible refine Kd.C_drew ?_)))
                (case side4 => exact (Kd.R_reads' HO663.out).2.1)
                rintro e w' ⟨rfl, ⟨nd, rfl⟩⟩
                refine ⟨_, rfl, ?_⟩
                refine hK.out _ _ ⟨(blk_cell BK602.out 0).trans rfl, (blk_cell BK602.out 1).trans rfl⟩ (fun hHeld => ?_)
                clear hK K
                refine norm_ (a' := ?_) ?_ ?_
                rotate_left
                ·
                 show Act.put _ (some 151) _ = _
                 simp only [Act.put, List.setIfInBounds_toArray, List.set_cons_zero, List.set_cons_succ, i64_w, i32_w]
                 rfl
                refine pu 16 (some 152) (v := ?_) (a' := ?_) (tb 17 32) rfl rfl (any_of HT_.out (by kernel_rfl)) (fun _ _ _ h => h) ⟨by rfl, ?_⟩ ?_ ?_; rotate_left; · (intro w'; go_simp; with_reducible rfl)
                rotate_left; · (simp only [Act.put, sa_, sb_, sc_, i64_w, i32_w]; rfl)
                refine pu 17 (some 153) (v := ?_) (a' := ?_) (tb 18 32) rfl rfl (any_of HT_.out (by kernel_rfl)) (fun _ _ _ h => h) ⟨by rfl, ?_⟩ ?_ ?_; rotate_left; · (intro w'; go_simp; with_reducible rfl)
                rotate_left; · (simp only [Act.put, sa_, sb_, sc_, i64_w, i32_w]; rfl)
                refine pu 18 (some 154) (v := ?_) (a' := ?_) (tb 19 32) rfl rfl (any_of HT_.out (by kernel_rfl)) (fun _ _ _ h => h) ⟨by rfl, ?_⟩ ?_ ?_; rotate_left; · (intro w'; go_simp; with_reducible rfl)
                rotate_left; · (simp only [Act.put, sa_, sb_, sc_, i64_w, i32_w]; rfl)
                refine pu 20 (some 156) (v := ?_) (a' := ?_) #[true, true, true, true, true, true, true, true, true, true, true, true, true, true, true, true, true, true, true, false, true, false, false, false, false, false, false, false, false, false, false, false] rfl rfl (any_of HT_.out (by kernel_rfl)) (fun _ _ _ h => h) ⟨by rfl, ?_⟩ ?_ ?_; rotate_left; · (intro w'; go_simp; with_reducible rfl)
                rotate_left; · (simp only [Act.put, sa_, sb_, sc_, i64_w, i32_w]; rfl)
                refine one_ (i := 19) (N := some 155) (tb 21 32) rfl rfl (one_of HT_.out (by kernel_rfl)) (by decide) (fun K hK => ?_)
                refine goes_ Try.func16 (by kernel_rfl) rfl #[.int .u64 a3] (by rfl) rfl rfl (by (try simp only [List.map_toArray, List.map_cons, List.map_nil]); first | done | rfl) ?_
                with_reducible refine (dense_Log2.calls kj63 a3 t665 _ A124.out).mono ?_
                rintro e w' ⟨rfl, ⟨nd, rfl⟩⟩
                refine ⟨_, rfl, ?_⟩
                refine hK.out _ _ ⟨(blk_cell BK602.out 0).trans rfl, (blk_cell BK602.out 1).trans rfl⟩ (fun hHeld => ?_)
                clear hK K
                refine norm_ (a' := ?_) ?_ ?_
                rotate_left
                ·
                 show Act.put _ (some 155) _ = _
                 simp only [Act.put, List.setIfInBounds_toArray, List.set_cons_zero, List.set_cons_succ, i64_w, i32_w]
                 rfl
                refine one_ (i := 21) (N := some 157) (tb 22 32) rfl rfl (one_of HT_.out (by kernel_rfl)) (by decide) (fun K hK => ?_)
                refine goes_ Try.func56 (by kernel_rfl) rfl #[.int .u64 a3] (by rfl) rfl rfl (by (try simp only [List.map_toArray, List.map_cons, List.map_nil]); first | done | rfl) ?_
                with_reducible refine (tallymanref15_Log2.calls kj63 a3 t666 _ A125.out).mono ?_
                rintro e w' ⟨rfl, ⟨nd, rfl⟩⟩
                refine ⟨_, rfl, ?_⟩
                refine hK.out _ _ ⟨(blk_cell BK602.out 0).trans rfl, (blk_cell BK602.out 1).trans rfl⟩ (fun hHeld => ?_)
                clear hK K
                refine norm_ (a' := ?_) ?_ ?_
                rotate_left
                ·
                 show Act.put _ (some 157) _ = _
                 simp only [Act.put, List.setIfInBounds_toArray, List.set_cons_zero, List.set_cons_succ, i64_w, i32_w]
                 rfl
                refine pu 22 (some 158) (v := ?_) (a' := ?_) (tb 23 32) rfl rfl (any_of HT_.out (by kernel_rfl)) (fun _ _ _ h => h) ⟨by rfl, ?_⟩ ?_ ?_; rotate_left; · (intro w'; go_simp; with_reducible rfl)
                rotate_left; · (simp only [Act.put, sa_, sb_, sc_, i64_w, i32_w]; rfl)
                refine pu 23 (some 159) (v := ?_) (a' := ?_) (tb 24 32) rfl rfl (any_of HT_.out (by kernel_rfl)) (fun _ _ _ h => h) ⟨by rfl, ?_⟩ ?_ ?_; rotate_left; · (intro w'; go_simp; with_reducible rfl)
                rotate_left; · (simp only [Act.put, sa_, sb_, sc_, i64_w, i32_w]; rfl)
                refine pu 24 (some 160) (v := ?_) (a' := ?_) (tb 25 32) rfl rfl (any_of HT_.out (by kernel_rfl)) (fun _ _ _ h => h) ⟨by rfl, ?_⟩ ?_ ?_; rotate_left; · (intro w'; go_simp; with_reducible rfl)
                rotate_left; · (simp only [Act.put, sa_, sb_, sc_, i64_w, i32_w]; rfl)
                refine tk 25 (some 161) (v := ?_) (a' := ?_) (tb 26 32) rfl rfl (take_ofW HT_.out HW_.out (by kernel_rfl)) (fun _ _ _ h => h) ⟨by rfl, ?_⟩ hHeld ?_ ?_; rotate_left; · (rintro w' ⟨s0, s1⟩; go_simp; with_reducible rfl)
                rotate_left; · (simp only [Act.put, sa_, sb_, sc_, i64_w, i32_w]; rfl)
                refine tk 27 (some 163) (v := ?_) (a' := ?_) #[true, true, true, true, true, true, true, true, true, true, true, true, true, true, true, true, true, true, true, true, true, true, true, true, true, true, false, true, false, false, false, false] rfl rfl (take_ofW HT_.out HW_.out (by kernel_rfl)) (fun _ _ _ h => h) ⟨by rfl, ?_⟩ hHeld ?_ ?_; rotate_left; · (rintro w' ⟨s0, s1⟩; go_simp; with_reducible rfl)
                rotate_left; · (simp only [Act.put, sa_, sb_, sc_, i64_w, i32_w]; rfl)
                refine one_ (i := 26) (N := some 162) (tb 28 32) rfl rfl (one_of HT_.out (by kernel_rfl)) (by decide) (fun K hK => ?_)
                refine goes_ Try.func22 (by kernel_rfl) rfl #[.agg #[.int .i64 a0_0, .slice A0_1 l0_1.length c0_1]] (by rfl) rfl rfl (by (try simp only [List.map_toArray, List.map_cons, List.map_nil]); first | done | rfl) ?_
                with_reducible refine (dense_Estimate.calls kj63 a0_0 _ _ l0_1 t667 _ ?side1 ?side2 A127.out).mono ?_
                (case side1 => repeat (first | exact (Kd.C_below HR0_1.out (by repeat (with_reducible first | exact HB.out | apply bA | apply bN | apply bD | refine bS ?_ ao))) | (with_reducible refine Kd.C_alloc ?_ _) | (with_reducible refine Kd.C_drewN ?_ _) | (with_reducible refine Kd.C_drew ?_)))
                (case side2 => exact HC0_1.out)
                rintro e w143 ⟨rfl, hb⟩
                refine ⟨_, rfl, ?_⟩
                replace HO_637001 := rb HO_637001 hb; replace HO_643001 := rb HO_643001 hb; replace HO649 := rb HO649 hb; replace HO652 := rb HO652 hb; replace HO657 := rb HO657 hb; replace HO660 := rb HO660 hb; replace HO663 := rb HO663 hb; replace BK602 := bb BK602 hb; replace BK636 := bb BK636 hb; replace BK642 := bb BK642 hb; replace HB := am (below_step (by repeat (with_reducible first | exact HB.out | apply bA | apply bN | apply bD | refine bS ?_ ao)) hb)
                (try clear hb)
                (try clear hb2)
                (try clear hk)
                (try clear hi)
                refine hK.out _ _ ⟨(blk_cell BK602.out 0).trans rfl, (blk_cell BK602.out 1).trans rfl⟩ (fun hHeld => ?_)
                clear hK K
                refine norm_ (a' := ?_) ?_ ?_
                rotate_left
                ·
                 show Act.put _ (some 162) _ = _
                 simp only [Act.put, List.setIfInBounds_toArray, List.set_cons_zero, List.set_cons_succ, i64_w, i32_w]
                 rfl
                refine one_ (i := 28) (N := some 164) (tb 29 32) rfl rfl (one_of HT_.out (by kernel_rfl)) (by decide) (fun K hK => ?_)
                refine goes_ Try.func57 (by kernel_rfl) rfl #[.agg #[.int .i64 a0_0, .slice A0_1 l0_1.length c0_1]] (by rfl) rfl rfl (by (try simp only [List.map_toArray, List.map_cons, List.map_nil]); first | done | rfl) ?_
                with_reducible refine (tallymanref15_Estimate.calls kj63 a0_0 _ _ l0_1 t668 _ ?side1 ?side2 A128.out).mono ?_
                (case side1 => exact cu (Kd.C_below HR0_1.out HB.out))
                (case side2 => exact HC0_1.out)
                rintro e w144 ⟨rfl, hb⟩
                refine ⟨_, rfl, ?_⟩
                replace HO_637001 := rb HO_637001 hb; replace HO_643001 := rb HO_643001 hb; replace HO649 := rb HO649 hb; replace HO652 := rb HO652 hb; replace HO657 := rb HO657 hb; replace HO660 := rb HO660 hb; replace HO663 := rb HO663 hb; replace BK602 := bb BK602 hb; replace BK636 := bb BK636 hb; replace BK642 := bb BK642 hb; replace HB := am (below_step (by repeat (with_reducible first | exact HB.out | apply bA | apply bN | apply bD | refine bS ?_ ao)) hb)
                (try clear hb)
                (try clear hb2)
                (try clear hk)
                (try clear hi)
                refine hK.out _ _ ⟨(blk_cell BK602.out 0).trans rfl, (blk_cell BK602.out 1).trans rfl⟩ (fun hHeld => ?_)
                clear hK K
                refine norm_ (a' := ?_) ?_ ?_
                rotate_left
                ·
                 show Act.put _ (some 164) _ = _
                 simp only [Act.put, List.setIfInBounds_toArray, List.set_cons_zero, List.set_cons_succ, i64_w, i32_w]
                 rfl
                refine pu 29 (some 165) (v := ?_) (a' := ?_) (tb 30 32) rfl rfl (any_of HT_.out (by kernel_rfl)) (fun _ _ _ h => h) ⟨by rfl, ?_⟩ ?_ ?_; rotate_left; · (intro w'; go_simp; with_reducible rfl)
                rotate_left; · (simp only [Act.put, sa_, sb_, sc_, i64_w, i32_w]; rfl)
                refine pu 30 (some 166) (v := ?_) (a' := ?_) (tb 31 32) rfl rfl (any_of HT_.out (by kernel_rfl)) (fun _ _ _ h => h) ⟨by rfl, ?_⟩ ?_ ?_; rotate_left; · (intro w'; go_simp; with_reducible rfl)
                rotate_left; · (simp only [Act.put, sa_, sb_, sc_, i64_w, i32_w]; rfl)
                refine pu 31 (some 8) (v := ?_) (a' := ?_) (tb 32 32) rfl rfl (any_of HT_.out (by kernel_rfl)) (fun _ _ _ h => h) ⟨by rfl, ?_⟩ ?_ ?_; rotate_left; · (intro w'; go_simp; with_reducible rfl)
                rotate_left; · (simp only [Act.put, sa_, sb_, sc_, i64_w, i32_w]; rfl)
                refine done_ (done_of HT_.out (by kernel_rfl)) ?_
                try go_wp2
                go_ret
                exact ⟨by first | rfl | (simp [errW_none, errW_some] <;> rfl) | (simp [*, errW_none, errW_some] <;> rfl), by repeat (with_reducible first | exact HB.out | apply bA | apply bN | apply bD | refine bS ?_ ao)⟩
               ·
                rw [if_neg c126] at H
                have c126b0 : (t665 == t666) = false := beq_eq_false_iff_ne.mpr c126
                have c126b1 : (t665 != t666) = true := bne_iff_ne.mpr c126
                exact absurd H (by simp)
              ·
               replace c123 := Bool.eq_false_iff.mpr c123
               subst c123
               rw [if_neg Bool.false_ne_true] at H
               exact absurd H (by simp)
             ·
              rw [if_neg c119] at H
              have c119b0 : (t653 == t655) = false := beq_eq_false_iff_ne.mpr c119
              have c119b1 : (t653 != t655) = true := bne_iff_ne.mpr c119
              exact absurd H (by simp)
            ·
             rw [if_neg c118] at H
             have c118b0 : ((strOfNums t650).toList == (strOfNums t654).toList) = false := beq_eq_false_iff_ne.mpr c118
             have c118b1 : ((strOfNums t650).toList != (strOfNums t654).toList) = true := bne_iff_ne.mpr c118
             exact absurd H (by simp)
           ·
            rw [if_neg c115] at H
            exact absurd H (by simp)
 ·
  replace c6 := Bool.eq_false_iff.mpr c6
  subst c6
  rw [if_neg Bool.false_ne_true] at H
  exact absurd H (by simp)

end Go.Proofs.Ytbclnjinpcfpjaa.H
