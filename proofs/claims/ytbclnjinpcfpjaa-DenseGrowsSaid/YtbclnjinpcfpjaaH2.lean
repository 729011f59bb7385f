-- Made by this session's own call of the printer (functions that are proved by hand are taken from a text beside it).
import Derived.Test.YtbclnjinpcfpjaaZ4
import Derived.Test.YtbclnjinpcfpjaaH0
namespace Go.Proofs.Ytbclnjinpcfpjaa.H
open Go.RowKit Go.Proofs.YtbclnjinpcfpjaaW.PrintWords Go.Proofs.YtbclnjinpcfpjaaW.PrintLast Go.Proofs.YtbclnjinpcfpjaaW.PrintMore
attribute [local go_sem] max2_int min2_int max_two min_two max_three min_three max_four min_four   -- for this text's walks alone
set_option linter.unusedVariables false
set_option linter.unusedSimpArgs false

-- BY HAND: function 58 (bits_Len64)

/-! ### dense_Log2: function 16 -/
mutual
def dense_Log2.j0 : Nat → Int → Int → Option (Int)
 | 0, _, _ => none
 | k + 1, x3, x4 => dense_Log2.l0 k x3 x4 0
def dense_Log2.l0 : Nat → Int → Int → Int → Option (Int)
 | 0, _, _, _ => none
 | k + 1, x3, x4, x21 => if x21 < 16 then (if ((IntKind.u64.wrap (x4 * x4)) / 2147483648) ≥ 4294967296 then (dense_Log2.l0 k (Go.bits .or .i64 (wrap64 (x3 * 2)) 1) (((IntKind.u64.wrap (x4 * x4)) / 2147483648) / 2) (wrap64 (x21 + 1))) else (dense_Log2.l0 k (wrap64 (x3 * 2)) ((IntKind.u64.wrap (x4 * x4)) / 2147483648) (wrap64 (x21 + 1)))) else (some x3)
end
def dense_Log2.f (k : Nat) (a0 : Int) : Option (Int) := if a0 = 0 then (some 0) else ((bits_Len64.f a0).bind fun t101 => (if (wrap64 (t101 - 1)) > 31 then (if 0 ≤ (wrap64 ((wrap64 (t101 - 1)) - 31)) then (dense_Log2.j0 k (wrap64 (t101 - 1)) (shr .u64 a0 (wrap64 ((wrap64 (t101 - 1)) - 31)))) else (none)) else (if 0 ≤ (wrap64 (31 - (wrap64 (t101 - 1)))) then (dense_Log2.j0 k (wrap64 (t101 - 1)) (shl .u64 a0 (wrap64 (31 - (wrap64 (t101 - 1)))))) else (none))))
theorem dense_Log2.mono_l : ∀ k, (∀ y0 y1, LeO (dense_Log2.j0 k y0 y1) (dense_Log2.j0 (k + 1) y0 y1)) ∧ (∀ y0 y1 y2, LeO (dense_Log2.l0 k y0 y1 y2) (dense_Log2.l0 (k + 1) y0 y1 y2))
 | 0 => ⟨fun _ _ r h => by simp [dense_Log2.j0] at h, fun _ _ _ r h => by simp [dense_Log2.l0] at h⟩
 | k + 1 => by
  obtain ⟨ih0, ih1⟩ := dense_Log2.mono_l k
  refine ⟨?_, ?_⟩
  ·
   intro y0 y1
   unfold dense_Log2.j0
   repeat' first
   | (with_reducible exact ih0 _ _)
   | (with_reducible exact ih1 _ _ _)
   | (with_reducible exact LeO.refl _)
   | (with_reducible exact LeO.none _)
   | (with_reducible refine LeO.ite ?_ ?_)
   | (with_reducible refine LeO.bind ?_ (fun _ => ?_))
  ·
   intro y0 y1 y2
   unfold dense_Log2.l0
   repeat' first
   | (with_reducible exact ih0 _ _)
   | (with_reducible exact ih1 _ _ _)
   | (with_reducible exact LeO.refl _)
   | (with_reducible exact LeO.none _)
   | (with_reducible refine LeO.ite ?_ ?_)
   | (with_reducible refine LeO.bind ?_ (fun _ => ?_))
theorem dense_Log2.mono : ∀ a0 k, LeO (dense_Log2.f k a0) (dense_Log2.f (k + 1) a0) := by
 intro a0 k
 obtain ⟨ih0, ih1⟩ := dense_Log2.mono_l k
 unfold dense_Log2.f
 repeat' first
   | (with_reducible exact ih0 _ _)
   | (with_reducible exact ih1 _ _ _)
   | (with_reducible exact LeO.refl _)
   | (with_reducible exact LeO.none _)
   | (with_reducible refine LeO.ite ?_ ?_)
   | (with_reducible refine LeO.bind ?_ (fun _ => ?_))
set_option maxHeartbeats 8000000 in
set_option maxRecDepth 100000 in
theorem dense_Log2.calls (k : Nat) (a0 : Int) (r : Int) (w : World) (h : dense_Log2.f k a0 = some r) :
  Calls Try.prog 16 #[.int .u64 a0] w fun e w' => e = .returned (.int .i64 r) ∧ Drawn0 w w' := by
 have H : (if a0 = 0 then (some 0) else ((bits_Len64.f a0).bind fun t101 => (if (wrap64 (t101 - 1)) > 31 then (if 0 ≤ (wrap64 ((wrap64 (t101 - 1)) - 31)) then (dense_Log2.j0 k (wrap64 (t101 - 1)) (shr .u64 a0 (wrap64 ((wrap64 (t101 - 1)) - 31)))) else (none)) else (if 0 ≤ (wrap64 (31 - (wrap64 (t101 - 1)))) then (dense_Log2.j0 k (wrap64 (t101 - 1)) (shl .u64 a0 (wrap64 (31 - (wrap64 (t101 - 1)))))) else (none))))) = some r := h
 clear h
 by_cases c2 : a0 = 0
 ·
  rw [if_pos c2] at H
  have c2b0 : (a0 == 0) = true := beq_iff_eq.mpr c2
  have c2b1 : (a0 != 0) = false := bne_eq_false_iff_eq.mpr c2
  clear c2
  obtain rfl := Option.some.inj H
  go_enter Try.func16, Try.ntmps16
  go_wp2
  go_ret
  exact ⟨by first | rfl | (simp; done) | (simp [*]; done), by repeat (first | exact Drawn0.refl _ | apply Drawn0.step)⟩
 ·
  rw [if_neg c2] at H
  have c2b0 : (a0 == 0) = false := beq_eq_false_iff_ne.mpr c2
  have c2b1 : (a0 != 0) = true := bne_iff_ne.mpr c2
  replace H := Option.bind_eq_some_iff.mp H
  obtain ⟨t101, A30, H⟩ := H
  try dsimp only at H
  have A3 := Aside0.mk A30
  clear A30
  have HC4 := Aside0.mk H
  clear H
  go_enter Try.func16, Try.ntmps16
  go_upto_if 12 with (first | ((with_reducible refine gate_callee (f := 58) rfl ?_); refine goesL_ (some 8) rfl rfl Try.func58 (by kernel_rfl) rfl #[.int .u64 a0] rfl (by (try simp only [List.map_toArray, List.map_cons, List.map_nil]); first | done | rfl) ?_; (with_reducible refine (bits_Len64.calls a0 t101 _ A3.out).mono ?_); rintro e w' ⟨rfl, ⟨nd, rfl⟩⟩; refine ⟨_, rfl, ?_⟩))
  (try simp only [Act.put, List.setIfInBounds_toArray, List.set_cons_zero, List.set_cons_succ])
  go_cut [4] (fun v4 wc => ∃ (kq : Nat) (x4_3 : Int), v4 = .int .u64 x4_3 ∧ Aside0 (dense_Log2.j0 kq (wrap64 (t101 - 1)) x4_3 = some r) ∧ Aside0 (kq ≤ k) ∧ Drawn0 w wc)
  case first =>
   have H := HC4.out
   clear HC4
   by_cases c5 : (wrap64 (t101 - 1)) > 31
   ·
    rw [if_pos c5] at H
    have c5b0 : decide (31 < (wrap64 (t101 - 1))) = true := decide_eq_true c5
    clear c5
    (first | rw [c5b0] | (simp only [i64_w, i32_w]; rw [c5b0]) | skip)
    obtain ⟨ji6, hji6⟩ : ∃ j_ : Int, (wrap64 ((wrap64 (t101 - 1)) - 31)) = j_ := ⟨_, rfl⟩
    first | rw [hji6] at H | simp only [hji6] at H
    have hji6w : (IntKind.i64.wrap ((wrap64 (t101 - 1)) - 31)) = ji6 := (i64_w _).trans hji6
    by_cases c7 : 0 ≤ (ji6)
    ·
     rw [if_pos c7] at H
     have c7b0 := eq_true c7
     have c7b1 : decide (0 ≤ (ji6)) = true := decide_eq_true c7
     clear c7
     obtain ⟨ji8, hji8⟩ : ∃ j_ : Int, (shr .u64 a0 (ji6)) = j_ := ⟨_, rfl⟩
     first | rw [hji8] at H | simp only [hji8] at H
     have hji8_ : (a0 / 2 ^ min (ji6).toNat 64) = ji8 := hji8
     have hji8z : (ji6) ≤ 64 → (a0 / 2 ^ (ji6).toNat) = ji8 := shr_small hji8
     have H' := Aside0.mk H
     clear H
     go_wp2
     go_meet
     case rel => exact ⟨_, (ji8), (by first | rfl | (simp; done) | (simp only [← hji8] <;> (first | rfl | simp)) | (simp [*]; done)), H', ⟨by first | omega | exact Nat.le_refl _⟩, by repeat (first | exact Drawn0.refl _ | apply Drawn0.step)⟩
    ·
     rw [if_neg c7] at H
     exact absurd H (by simp)
   ·
    rw [if_neg c5] at H
    have c5b0 : decide (31 < (wrap64 (t101 - 1))) = false := decide_eq_false c5
    clear c5
    (first | rw [c5b0] | (simp only [i64_w, i32_w]; rw [c5b0]) | skip)
    obtain ⟨ji9, hji9⟩ : ∃ j_ : Int, (wrap64 (31 - (wrap64 (t101 - 1)))) = j_ := ⟨_, rfl⟩
    first | rw [hji9] at H | simp only [hji9] at H
    have hji9w : (IntKind.i64.wrap (31 - (wrap64 (t101 - 1)))) = ji9 := (i64_w _).trans hji9
    by_cases c10 : 0 ≤ (ji9)
    ·
     rw [if_pos c10] at H
     have c10b0 := eq_true c10
     have c10b1 : decide (0 ≤ (ji9)) = true := decide_eq_true c10
     clear c10
     obtain ⟨ji11, hji11⟩ : ∃ j_ : Int, (shl .u64 a0 (ji9)) = j_ := ⟨_, rfl⟩
     first | rw [hji11] at H | simp only [hji11] at H
     have hji11_ : (IntKind.u64.wrap (a0 * 2 ^ min (ji9).toNat 64)) = ji11 := hji11
     have hji11z : (ji9) ≤ 64 → (IntKind.u64.wrap (a0 * 2 ^ (ji9).toNat)) = ji11 := shl_small hji11
     have H' := Aside0.mk H
     clear H
     go_wp2
     go_meet
     case rel => exact ⟨_, (ji11), (by first | rfl | (simp; done) | (simp only [← hji11] <;> (first | rfl | simp)) | (simp [*]; done)), H', ⟨by first | omega | exact Nat.le_refl _⟩, by repeat (first | exact Drawn0.refl _ | apply Drawn0.step)⟩
    ·
     rw [if_neg c10] at H
     exact absurd H (by simp)
  case rest =>
   clear HC4
   obtain ⟨kq, x4_3, rfl, HA, HJ3, ⟨mc3, rfl⟩⟩ := hcut
   cases kq with
   | zero => exact absurd HA.out (by simp [dense_Log2.j0])
   | succ kj3 =>
    have H := HA.out
    clear HA
    simp only [dense_Log2.j0] at H
    have H' := Aside0.mk H
    clear H
    go_wp2
    go_loopg [3, 4, 21] kj3 (fun kq v3 v4 v21 w' => ∃ (x3_2 : Int) (x4_2 : Int) (x21_2 : Int), v3 = .int .i64 x3_2 ∧ v4 = .int .u64 x4_2 ∧ v21 = .int .i64 x21_2 ∧ Aside0 (dense_Log2.l0 kq x3_2 x4_2 x21_2 = some r) ∧ Aside0 (kq ≤ kj3) ∧ Drawn0 w w')
    case atStart => exact ⟨((wrap64 (t101 - 1))), (x4_3), (0), (by first | rfl | (simp; done) | (simp [*]; done)), (by first | rfl | (simp; done) | (simp [*]; done)), (by first | rfl | (simp; done) | (simp [*]; done)), H', ⟨Nat.le_refl _⟩, by repeat (first | exact Drawn0.refl _ | apply Drawn0.step)⟩
    case round =>
     clear H'
     obtain ⟨x3_2, x4_2, x21_2, rfl, rfl, rfl, HA, HK2, ⟨m2, rfl⟩⟩ := hrel
     cases gk with
     | zero => exact absurd HA.out (by simp [dense_Log2.l0])
     | succ k2 =>
      have H := HA.out
      clear HA
      simp only [dense_Log2.l0] at H
      by_cases c12 : x21_2 < 16
      ·
       rw [if_pos c12] at H
       have c12b0 : decide (x21_2 < 16) = true := decide_eq_true c12
       clear c12
       by_cases c13 : ((IntKind.u64.wrap (x4_2 * x4_2)) / 2147483648) ≥ 4294967296
       ·
        rw [if_pos c13] at H
        have c13b0 : decide (4294967296 ≤ ((IntKind.u64.wrap (x4_2 * x4_2)) / 2147483648)) = true := decide_eq_true c13
        clear c13
        have H' := Aside0.mk H
        clear H
        go_wp2
        go_roundg k2
        case measure => have := HJ3.out; have := HK2.out; omega
        case rel => exact ⟨(Go.bits .or .i64 (wrap64 (x3_2 * 2)) 1), (((IntKind.u64.wrap (x4_2 * x4_2)) / 2147483648) / 2), (wrap64 (x21_2 + 1)), (by first | rfl | (simp; done) | (simp [*]; done)), (by first | rfl | (simp; done) | (simp [*]; done)), (by first | rfl | (simp; done) | (simp [*]; done)), H', ⟨by have := HJ3.out; have := HK2.out; omega⟩, by repeat (first | exact Drawn0.refl _ | apply Drawn0.step)⟩
       ·
        rw [if_neg c13] at H
        have c13b0 : decide (4294967296 ≤ ((IntKind.u64.wrap (x4_2 * x4_2)) / 2147483648)) = false := decide_eq_false c13
        clear c13
        have H' := Aside0.mk H
        clear H
        go_wp2
        go_roundg k2
        case measure => have := HJ3.out; have := HK2.out; omega
        case rel => exact ⟨(wrap64 (x3_2 * 2)), ((IntKind.u64.wrap (x4_2 * x4_2)) / 2147483648), (wrap64 (x21_2 + 1)), (by first | rfl | (simp; done) | (simp [*]; done)), (by first | rfl | (simp; done) | (simp [*]; done)), (by first | rfl | (simp; done) | (simp [*]; done)), H', ⟨by have := HJ3.out; have := HK2.out; omega⟩, by repeat (first | exact Drawn0.refl _ | apply Drawn0.step)⟩
      ·
       rw [if_neg c12] at H
       have c12b0 : decide (x21_2 < 16) = false := decide_eq_false c12
       clear c12
       obtain rfl := Option.some.inj H
       go_wp2
       go_ret
       exact ⟨by first | rfl | (simp; done) | (simp [*]; done), by repeat (first | exact Drawn0.refl _ | apply Drawn0.step)⟩

/-! ### hll_Check: function 33 -/
mutual
def hll_Check.j0 : Nat → Bool → Int → List (S32) → Option (Int)
 | 0, _, _, _ => none
 | k + 1, x13, x103000, x103001 => if x13 = true then (some 2) else (hll_Check.l0 k (-1) x103001 (x103001.length : Int) 0 x103000 x103001)
def hll_Check.l0 : Nat → Int → List (S32) → Int → Int → Int → List (S32) → Option (Int)
 | 0, _, _, _, _, _, _ => none
 | k + 1, x3, x15, x16, x17, x103000, x103001 => if x17 < x16 then (if 0 ≤ x17 then (if x17 < (x15.length : Int) then (if ((rd_T32 x15 x17).f0) ≤ x3 then (some 2) else (if 0 ≤ x103000 then (if ((rd_T32 x15 x17).f0) ≥ (shl .i64 1 x103000) then (some 2) else (if ((rd_T32 x15 x17).f1) < 1 then (some 2) else (if ((rd_T32 x15 x17).f1) > (wrap64 (65 - x103000)) then (some 2) else (hll_Check.l0 k ((rd_T32 x15 x17).f0) x15 x16 (wrap64 (x17 + 1)) x103000 x103001)))) else (none))) else (none)) else (none)) else (some 0)
end
def hll_Check.f (k : Nat) (a0_0 : Int) (l0_1 : List (S32)) : Option (Int) := if a0_0 < 4 then (hll_Check.j0 k true a0_0 l0_1) else (hll_Check.j0 k (decide (a0_0 > 16)) a0_0 l0_1)
theorem hll_Check.mono_l : ∀ k, (∀ y0 y1 y2, LeO (hll_Check.j0 k y0 y1 y2) (hll_Check.j0 (k + 1) y0 y1 y2)) ∧ (∀ y0 y1 y2 y3 y4 y5, LeO (hll_Check.l0 k y0 y1 y2 y3 y4 y5) (hll_Check.l0 (k + 1) y0 y1 y2 y3 y4 y5))
 | 0 => ⟨fun _ _ _ r h => by simp [hll_Check.j0] at h, fun _ _ _ _ _ _ r h => by simp [hll_Check.l0] at h⟩
 | k + 1 => by
  obtain ⟨ih0, ih1⟩ := hll_Check.mono_l k
  refine ⟨?_, ?_⟩
  ·
   intro y0 y1 y2
   unfold hll_Check.j0
   repeat' first
   | (with_reducible exact ih0 _ _ _)
   | (with_reducible exact ih1 _ _ _ _ _ _)
   | (with_reducible exact LeO.refl _)
   | (with_reducible exact LeO.none _)
   | (with_reducible refine LeO.ite ?_ ?_)
   | (with_reducible refine LeO.bind ?_ (fun _ => ?_))
  ·
   intro y0 y1 y2 y3 y4 y5
   unfold hll_Check.l0
   repeat' first
   | (with_reducible exact ih0 _ _ _)
   | (with_reducible exact ih1 _ _ _ _ _ _)
   | (with_reducible exact LeO.refl _)
   | (with_reducible exact LeO.none _)
   | (with_reducible refine LeO.ite ?_ ?_)
   | (with_reducible refine LeO.bind ?_ (fun _ => ?_))
theorem hll_Check.mono : ∀ a0 a1 k, LeO (hll_Check.f k a0 a1) (hll_Check.f (k + 1) a0 a1) := by
 intro a0 a1 k
 obtain ⟨ih0, ih1⟩ := hll_Check.mono_l k
 unfold hll_Check.f
 repeat' first
   | (with_reducible exact ih0 _ _ _)
   | (with_reducible exact ih1 _ _ _ _ _ _)
   | (with_reducible exact LeO.refl _)
   | (with_reducible exact LeO.none _)
   | (with_reducible refine LeO.ite ?_ ?_)
   | (with_reducible refine LeO.bind ?_ (fun _ => ?_))
set_option maxHeartbeats 8000000 in
set_option maxRecDepth 100000 in
theorem hll_Check.calls (k : Nat) (a0_0 : Int) (A0_1 : Option Addr) (c0_1 : Nat) (l0_1 : List (S32)) (r : Int) (w : World) (hr0_1 : Kd.C k32 w A0_1 l0_1.length l0_1) (hc0_1 : l0_1.length ≤ c0_1) (h : hll_Check.f k a0_0 l0_1 = some r) :
  Calls Try.prog 33 #[.agg #[.int .i64 a0_0, .slice A0_1 l0_1.length c0_1]] w fun e w' => e = .returned (.int .i64 r) ∧ Below w.heap.size w w' := by
 have hu30 := Try.underlying30
 have hu32 := Try.underlying32
 have HR0_1 := Aside0.mk hr0_1
 have HC0_1 := Aside0.mk hc0_1
 clear hr0_1 hc0_1
 have HB := am (Below.refl w.heap.size w)
 have H : (if a0_0 < 4 then (hll_Check.j0 k true a0_0 l0_1) else (hll_Check.j0 k (decide (a0_0 > 16)) a0_0 l0_1)) = some r := h
 clear h
 have HC2 := Aside0.mk H
 clear H
 go_enter Try.func33, Try.ntmps33
 go_upto_region 1 with (first | ((with_reducible refine gate_dst (N := 1) rfl ?_); refine box_event ?hg (N := 1) ?hd (cs := #[.int .i64 a0_0, .slice A0_1 l0_1.length c0_1]) (t := 30) ?hr ?_; (case hd => rfl); (case hg => rfl); (case hr => go_simp; try rfl); intro gb102 hg w3 hbox hb; obtain ⟨HBn, GW102⟩ := tri hg hb (hu HB.out); have GE102 := GW102; have BK102 := am (hbox); clear HB; have HB := HBn; clear HBn; clear hb hbox hg))
 repeat (go_quiet (first | ((with_reducible refine gate_dst (N := 1) rfl ?_); refine box_event ?hg (N := 1) ?hd (cs := #[.int .i64 a0_0, .slice A0_1 l0_1.length c0_1]) (t := 30) ?hr ?_; (case hd => rfl); (case hg => rfl); (case hr => go_simp; try rfl); intro gb102 hg w3 hbox hb; obtain ⟨HBn, GW102⟩ := tri hg hb (hu HB.out); have GE102 := GW102; have BK102 := am (hbox); clear HB; have HB := HBn; clear HBn; clear hb hbox hg)); go_upto_region 1 with (first | ((with_reducible refine gate_dst (N := 1) rfl ?_); refine box_event ?hg (N := 1) ?hd (cs := #[.int .i64 a0_0, .slice A0_1 l0_1.length c0_1]) (t := 30) ?hr ?_; (case hd => rfl); (case hg => rfl); (case hr => go_simp; try rfl); intro gb102 hg w3 hbox hb; obtain ⟨HBn, GW102⟩ := tri hg hb (hu HB.out); have GE102 := GW102; have BK102 := am (hbox); clear HB; have HB := HBn; clear HBn; clear hb hbox hg)))
 (try simp only [Act.put, List.setIfInBounds_toArray, List.set_cons_zero, List.set_cons_succ])
 go_cut [13] (fun v13 wc => ∃ (kq : Nat) (x13_1 : Bool), v13 = .bool x13_1 ∧ Aside0 (hll_Check.j0 kq x13_1 a0_0 l0_1 = some r) ∧ Aside0 (kq ≤ k) ∧ Aside0 (wc.heap[gb102]? = some (.cells #[.int .i64 a0_0, (.slice A0_1 l0_1.length c0_1)] 30 (0, 0))) ∧ Aside0 (Below w.heap.size w wc))
 case first =>
  have H := HC2.out
  clear HC2
  by_cases c4 : a0_0 < 4
  ·
   rw [if_pos c4] at H
   have c4b0 : decide (a0_0 < 4) = true := decide_eq_true c4
   clear c4
   (first | rw [c4b0] | (simp only [i64_w, i32_w]; rw [c4b0]) | skip)
   have H' := Aside0.mk H
   clear H
   obtain ⟨hcz5_0, hcz5_1, hfz5_0, hfz5_1⟩ := cf BK102.out
   go_wp2
   repeat (go_quiet (fail); try go_wp2)
   go_meet
   case rel => exact ⟨_, (true), (by first | rfl | (simp; done) | (simp [*]; done)), H', ⟨by first | omega | exact Nat.le_refl _⟩, ⟨bu BK102.out⟩, ⟨by repeat (with_reducible first | exact HB.out | apply bA | apply bN | apply bD | refine bS ?_ ao)⟩⟩
  ·
   rw [if_neg c4] at H
   have c4b0 : decide (a0_0 < 4) = false := decide_eq_false c4
   clear c4
   (first | rw [c4b0] | (simp only [i64_w, i32_w]; rw [c4b0]) | skip)
   have H' := Aside0.mk H
   clear H
   obtain ⟨hcz6_0, hcz6_1, hfz6_0, hfz6_1⟩ := cf BK102.out
   go_wp2
   repeat (go_quiet (fail); try go_wp2)
   go_meet
   case rel => exact ⟨_, (decide (a0_0 > 16)), (by first | rfl | (simp; done) | (simp [*]; done)), H', ⟨by first | omega | exact Nat.le_refl _⟩, ⟨bu BK102.out⟩, ⟨by repeat (with_reducible first | exact HB.out | apply bA | apply bN | apply bD | refine bS ?_ ao)⟩⟩
 case rest =>
  clear HC2
  obtain ⟨kq, x13_1, rfl, HA, HJ1, BK102, HB⟩ := hcut
  cases kq with
  | zero => exact absurd HA.out (by simp [hll_Check.j0])
  | succ kj1 =>
   have H := HA.out
   clear HA
   simp only [hll_Check.j0] at H
   by_cases c7 : x13_1 = true
   ·
    subst c7
    rw [if_pos rfl] at H
    obtain rfl := Option.some.inj H
    go_wp2
    repeat (go_quiet (fail); try go_wp2)
    go_ret
    exact ⟨by first | rfl | (simp [errW_none, errW_some] <;> rfl) | (simp [*, errW_none, errW_some] <;> rfl), by repeat (with_reducible first | exact HB.out | apply bA | apply bN | apply bD | refine bS ?_ ao)⟩
   ·
    replace c7 := Bool.eq_false_iff.mpr c7
    subst c7
    rw [if_neg Bool.false_ne_true] at H
    have H' := Aside0.mk H
    clear H
    obtain ⟨hcz8_0, hcz8_1, hfz8_0, hfz8_1⟩ := cf BK102.out
    go_wp2
    repeat (go_quiet (fail); try go_wp2)
    go_loopg [3, 17] kj1 (fun kq v3 v17 w' => ∃ (x3_2 : Int) (x17_2 : Int), v3 = .int .i64 x3_2 ∧ v17 = .int .i64 x17_2 ∧ Aside0 (hll_Check.l0 kq x3_2 l0_1 (l0_1.length : Int) x17_2 a0_0 l0_1 = some r) ∧ Aside0 (kq ≤ kj1) ∧ Aside0 (w'.heap[gb102]? = some (.cells #[.int .i64 a0_0, (.slice A0_1 l0_1.length c0_1)] 30 (0, 0))) ∧ Aside0 (Below w.heap.size w w'))
    case atStart => exact ⟨((-1)), (0), (by first | rfl | (simp; done) | (simp [*]; done)), (by first | rfl | (simp; done) | (simp [*]; done)), H', ⟨Nat.le_refl _⟩, ⟨bu BK102.out⟩, ⟨by repeat (with_reducible first | exact HB.out | apply bA | apply bN | apply bD | refine bS ?_ ao)⟩⟩
    case round =>
     clear H'
     obtain ⟨x3_2, x17_2, rfl, rfl, HA, HK2, BK102, HB⟩ := hrel
     cases gk with
     | zero => exact absurd HA.out (by simp [hll_Check.l0])
     | succ k2 =>
      have H := HA.out
      clear HA
      simp only [hll_Check.l0] at H
      by_cases c9 : x17_2 < (l0_1.length : Int)
      ·
       rw [if_pos c9] at H
       have c9b0 : decide (x17_2 < (l0_1.length : Int)) = true := decide_eq_true c9
       clear c9
       by_cases c10 : 0 ≤ x17_2
       ·
        rw [if_pos c10] at H
        have c10b0 : decide (0 ≤ x17_2) = true := decide_eq_true c10
        clear c10
        by_cases c11 : x17_2 < (l0_1.length : Int)
        ·
         rw [if_pos c11] at H
         have c11b0 : decide (x17_2 < (l0_1.length : Int)) = true := decide_eq_true c11
         clear c11
         by_cases c12 : ((rd_T32 l0_1 x17_2).f0) ≤ x3_2
         ·
          rw [if_pos c12] at H
          have c12b0 : decide (((rd_T32 l0_1 x17_2).f0) ≤ x3_2) = true := decide_eq_true c12
          clear c12
          obtain rfl := Option.some.inj H
          have p103 : 0 ≤ (x17_2 : Int) := of_decide_eq_true (by first | (with_reducible assumption) | assumption)
          have q103 : x17_2 < (l0_1.length : Int) := of_decide_eq_true (by first | (with_reducible assumption) | assumption)
          obtain ⟨ad103, e103, hx103_0, hx103_1⟩ := at_T32 HR0_1.out x17_2 p103 q103
          cases e103
          replace hx103_0 := (HB.out.cell (World.block_lt_of_cell? w _ hx103_0)).trans hx103_0
          replace hx103_1 := (HB.out.cell (World.block_lt_of_cell? w _ hx103_1)).trans hx103_1
          replace p103 := eq_true p103
          replace q103 := eq_true q103
          go_wp2_with (first | ((with_reducible refine gate_dst (N := 5) rfl ?_); refine box_event ?hg (N := 5) ?hd (cs := #[.int .i64 0, .int .i64 0]) (t := 32) ?hr ?_; (case hd => rfl); (case hg => rfl); (case hr => go_simp; try rfl); intro gb104 hg w13 hbox hb; obtain ⟨HBn, GW104⟩ := tri hg hb (by repeat (with_reducible first | exact HB.out | apply bA | apply bN | apply bD | refine bS ?_ ao)); have GE104 := GW104; have BK104 := am (hbox); have NB102_104 := nl hg (bu BK102.out); have NB104_102 := nr hg (bu BK102.out); replace BK102 := bb BK102 hb; clear HB; have HB := HBn; clear HBn; clear hb hbox hg; have hnb14 := NB104_102.out; have hnc14 := NB102_104.out; obtain ⟨hcz15_0, hcz15_1, hfz15_0, hfz15_1⟩ := cf BK104.out))
          repeat (go_quiet (first | ((with_reducible refine gate_dst (N := 5) rfl ?_); refine box_event ?hg (N := 5) ?hd (cs := #[.int .i64 0, .int .i64 0]) (t := 32) ?hr ?_; (case hd => rfl); (case hg => rfl); (case hr => go_simp; try rfl); intro gb104 hg w13 hbox hb; obtain ⟨HBn, GW104⟩ := tri hg hb (by repeat (with_reducible first | exact HB.out | apply bA | apply bN | apply bD | refine bS ?_ ao)); have GE104 := GW104; have BK104 := am (hbox); have NB102_104 := nl hg (bu BK102.out); have NB104_102 := nr hg (bu BK102.out); replace BK102 := bb BK102 hb; clear HB; have HB := HBn; clear HBn; clear hb hbox hg; have hnb14 := NB104_102.out; have hnc14 := NB102_104.out; obtain ⟨hcz15_0, hcz15_1, hfz15_0, hfz15_1⟩ := cf BK104.out)); try go_wp2_with (first | ((with_reducible refine gate_dst (N := 5) rfl ?_); refine box_event ?hg (N := 5) ?hd (cs := #[.int .i64 0, .int .i64 0]) (t := 32) ?hr ?_; (case hd => rfl); (case hg => rfl); (case hr => go_simp; try rfl); intro gb104 hg w13 hbox hb; obtain ⟨HBn, GW104⟩ := tri hg hb (by repeat (with_reducible first | exact HB.out | apply bA | apply bN | apply bD | refine bS ?_ ao)); have GE104 := GW104; have BK104 := am (hbox); have NB102_104 := nl hg (bu BK102.out); have NB104_102 := nr hg (bu BK102.out); replace BK102 := bb BK102 hb; clear HB; have HB := HBn; clear HBn; clear hb hbox hg; have hnb14 := NB104_102.out; have hnc14 := NB102_104.out; obtain ⟨hcz15_0, hcz15_1, hfz15_0, hfz15_1⟩ := cf BK104.out)))
          go_ret
          exact ⟨by first | rfl | (simp [errW_none, errW_some] <;> rfl) | (simp [*, errW_none, errW_some] <;> rfl), by repeat (with_reducible first | exact HB.out | apply bA | apply bN | apply bD | refine bS ?_ ao)⟩
         ·
          rw [if_neg c12] at H
          have c12b0 : decide (((rd_T32 l0_1 x17_2).f0) ≤ x3_2) = false := decide_eq_false c12
          clear c12
          by_cases c16 : 0 ≤ a0_0
          ·
           rw [if_pos c16] at H
           have c16b0 := eq_true c16
           have c16b1 : decide (0 ≤ a0_0) = true := decide_eq_true c16
           clear c16
           obtain ⟨ji17, hji17⟩ : ∃ j_ : Int, (shl .i64 1 a0_0) = j_ := ⟨_, rfl⟩
           first | rw [hji17] at H | simp only [hji17] at H
           have hji17_ : (IntKind.i64.wrap (1 * 2 ^ min a0_0.toNat 64)) = ji17 := hji17
           have hji17z : a0_0 ≤ 64 → (IntKind.i64.wrap (1 * 2 ^ a0_0.toNat)) = ji17 := shl_small hji17
           have hji17u : (IntKind.i64.wrap (2 ^ min a0_0.toNat 64)) = ji17 := by have h_ := hji17_; rw [Int.one_mul] at h_; exact h_
           have hji17v : a0_0 ≤ 64 → (IntKind.i64.wrap (2 ^ a0_0.toNat)) = ji17 := fun hle_ => by have h_ := hji17z hle_; rw [Int.one_mul] at h_; exact h_
           have hji17y : (wrap64 (1 * 2 ^ min a0_0.toNat 64)) = ji17 := (i64_w _).symm.trans hji17_
           have hji17x : a0_0 ≤ 64 → (wrap64 (1 * 2 ^ a0_0.toNat)) = ji17 := fun h_ => (i64_w _).symm.trans (hji17z h_)
           by_cases c18 : ((rd_T32 l0_1 x17_2).f0) ≥ (ji17)
           ·
            rw [if_pos c18] at H
            have c18b0 : decide ((ji17) ≤ ((rd_T32 l0_1 x17_2).f0)) = true := decide_eq_true c18
            clear c18
            obtain rfl := Option.some.inj H
            have p103 : 0 ≤ (x17_2 : Int) := of_decide_eq_true (by first | (with_reducible assumption) | assumption)
            have q103 : x17_2 < (l0_1.length : Int) := of_decide_eq_true (by first | (with_reducible assumption) | assumption)
            obtain ⟨ad103, e103, hx103_0, hx103_1⟩ := at_T32 HR0_1.out x17_2 p103 q103
            cases e103
            replace hx103_0 := (HB.out.cell (World.block_lt_of_cell? w _ hx103_0)).trans hx103_0
            replace hx103_1 := (HB.out.cell (World.block_lt_of_cell? w _ hx103_1)).trans hx103_1
            replace p103 := eq_true p103
            replace q103 := eq_true q103
            go_wp2_with (first | ((with_reducible refine gate_dst (N := 5) rfl ?_); refine box_event ?hg (N := 5) ?hd (cs := #[.int .i64 0, .int .i64 0]) (t := 32) ?hr ?_; (case hd => rfl); (case hg => rfl); (case hr => go_simp; try rfl); intro gb104 hg w19 hbox hb; obtain ⟨HBn, GW104⟩ := tri hg hb (by repeat (with_reducible first | exact HB.out | apply bA | apply bN | apply bD | refine bS ?_ ao)); have GE104 := GW104; have BK104 := am (hbox); have NB102_104 := nl hg (bu BK102.out); have NB104_102 := nr hg (bu BK102.out); replace BK102 := bb BK102 hb; clear HB; have HB := HBn; clear HBn; clear hb hbox hg; have hnb20 := NB104_102.out; have hnc20 := NB102_104.out; obtain ⟨hcz21_0, hcz21_1, hfz21_0, hfz21_1⟩ := cf BK104.out; obtain ⟨hcz22_0, hcz22_1, hfz22_0, hfz22_1⟩ := cf BK102.out))
            repeat (go_quiet (first | ((with_reducible refine gate_dst (N := 5) rfl ?_); refine box_event ?hg (N := 5) ?hd (cs := #[.int .i64 0, .int .i64 0]) (t := 32) ?hr ?_; (case hd => rfl); (case hg => rfl); (case hr => go_simp; try rfl); intro gb104 hg w19 hbox hb; obtain ⟨HBn, GW104⟩ := tri hg hb (by repeat (with_reducible first | exact HB.out | apply bA | apply bN | apply bD | refine bS ?_ ao)); have GE104 := GW104; have BK104 := am (hbox); have NB102_104 := nl hg (bu BK102.out); have NB104_102 := nr hg (bu BK102.out); replace BK102 := bb BK102 hb; clear HB; have HB := HBn; clear HBn; clear hb hbox hg; have hnb20 := NB104_102.out; have hnc20 := NB102_104.out; obtain ⟨hcz21_0, hcz21_1, hfz21_0, hfz21_1⟩ := cf BK104.out; obtain ⟨hcz22_0, hcz22_1, hfz22_0, hfz22_1⟩ := cf BK102.out)); try go_wp2_with (first | ((with_reducible refine gate_dst (N := 5) rfl ?_); refine box_event ?hg (N := 5) ?hd (cs := #[.int .i64 0, .int .i64 0]) (t := 32) ?hr ?_; (case hd => rfl); (case hg => rfl); (case hr => go_simp; try rfl); intro gb104 hg w19 hbox hb; obtain ⟨HBn, GW104⟩ := tri hg hb (by repeat (with_reducible first | exact HB.out | apply bA | apply bN | apply bD | refine bS ?_ ao)); have GE104 := GW104; have BK104 := am (hbox); have NB102_104 := nl hg (bu BK102.out); have NB104_102 := nr hg (bu BK102.out); replace BK102 := bb BK102 hb; clear HB; have HB := HBn; clear HBn; clear hb hbox hg; have hnb20 := NB104_102.out; have hnc20 := NB102_104.out; obtain ⟨hcz21_0, hcz21_1, hfz21_0, hfz21_1⟩ := cf BK104.out; obtain ⟨hcz22_0, hcz22_1, hfz22_0, hfz22_1⟩ := cf BK102.out)))
            go_ret
            exact ⟨by first | rfl | (simp [errW_none, errW_some] <;> rfl) | (simp only [← hji17]; first | rfl | (simp [errW_none, errW_some] <;> rfl)) | (simp [*, errW_none, errW_some] <;> rfl), by repeat (with_reducible first | exact HB.out | apply bA | apply bN | apply bD | refine bS ?_ ao)⟩
           ·
            rw [if_neg c18] at H
            have c18b0 : decide ((ji17) ≤ ((rd_T32 l0_1 x17_2).f0)) = false := decide_eq_false c18
            clear c18
            by_cases c23 : ((rd_T32 l0_1 x17_2).f1) < 1
            ·
             rw [if_pos c23] at H
             have c23b0 : decide (((rd_T32 l0_1 x17_2).f1) < 1) = true := decide_eq_true c23
             clear c23
             obtain rfl := Option.some.inj H
             have p103 : 0 ≤ (x17_2 : Int) := of_decide_eq_true (by first | (with_reducible assumption) | assumption)
             have q103 : x17_2 < (l0_1.length : Int) := of_decide_eq_true (by first | (with_reducible assumption) | assumption)
             obtain ⟨ad103, e103, hx103_0, hx103_1⟩ := at_T32 HR0_1.out x17_2 p103 q103
             cases e103
             replace hx103_0 := (HB.out.cell (World.block_lt_of_cell? w _ hx103_0)).trans hx103_0
             replace hx103_1 := (HB.out.cell (World.block_lt_of_cell? w _ hx103_1)).trans hx103_1
             replace p103 := eq_true p103
             replace q103 := eq_true q103
             go_wp2_with (first | ((with_reducible refine gate_dst (N := 5) rfl ?_); refine box_event ?hg (N := 5) ?hd (cs := #[.int .i64 0, .int .i64 0]) (t := 32) ?hr ?_; (case hd => rfl); (case hg => rfl); (case hr => go_simp; try rfl); intro gb104 hg w24 hbox hb; obtain ⟨HBn, GW104⟩ := tri hg hb (by repeat (with_reducible first | exact HB.out | apply bA | apply bN | apply bD | refine bS ?_ ao)); have GE104 := GW104; have BK104 := am (hbox); have NB102_104 := nl hg (bu BK102.out); have NB104_102 := nr hg (bu BK102.out); replace BK102 := bb BK102 hb; clear HB; have HB := HBn; clear HBn; clear hb hbox hg; have hnb25 := NB104_102.out; have hnc25 := NB102_104.out; obtain ⟨hcz26_0, hcz26_1, hfz26_0, hfz26_1⟩ := cf BK104.out; obtain ⟨hcz27_0, hcz27_1, hfz27_0, hfz27_1⟩ := cf BK102.out))
             repeat (go_quiet (first | ((with_reducible refine gate_dst (N := 5) rfl ?_); refine box_event ?hg (N := 5) ?hd (cs := #[.int .i64 0, .int .i64 0]) (t := 32) ?hr ?_; (case hd => rfl); (case hg => rfl); (case hr => go_simp; try rfl); intro gb104 hg w24 hbox hb; obtain ⟨HBn, GW104⟩ := tri hg hb (by repeat (with_reducible first | exact HB.out | apply bA | apply bN | apply bD | refine bS ?_ ao)); have GE104 := GW104; have BK104 := am (hbox); have NB102_104 := nl hg (bu BK102.out); have NB104_102 := nr hg (bu BK102.out); replace BK102 := bb BK102 hb; clear HB; have HB := HBn; clear HBn; clear hb hbox hg; have hnb25 := NB104_102.out; have hnc25 := NB102_104.out; obtain ⟨hcz26_0, hcz26_1, hfz26_0, hfz26_1⟩ := cf BK104.out; obtain ⟨hcz27_0, hcz27_1, hfz27_0, hfz27_1⟩ := cf BK102.out)); try go_wp2_with (first | ((with_reducible refine gate_dst (N := 5) rfl ?_); refine box_event ?hg (N := 5) ?hd (cs := #[.int .i64 0, .int .i64 0]) (t := 32) ?hr ?_; (case hd => rfl); (case hg => rfl); (case hr => go_simp; try rfl); intro gb104 hg w24 hbox hb; obtain ⟨HBn, GW104⟩ := tri hg hb (by repeat (with_reducible first | exact HB.out | apply bA | apply bN | apply bD | refine bS ?_ ao)); have GE104 := GW104; have BK104 := am (hbox); have NB102_104 := nl hg (bu BK102.out); have NB104_102 := nr hg (bu BK102.out); replace BK102 := bb BK102 hb; clear HB; have HB := HBn; clear HBn; clear hb hbox hg; have hnb25 := NB104_102.out; have hnc25 := NB102_104.out; obtain ⟨hcz26_0, hcz26_1, hfz26_0, hfz26_1⟩ := cf BK104.out; obtain ⟨hcz27_0, hcz27_1, hfz27_0, hfz27_1⟩ := cf BK102.out)))
             go_ret
             exact ⟨by first | rfl | (simp [errW_none, errW_some] <;> rfl) | (simp only [← hji17]; first | rfl | (simp [errW_none, errW_some] <;> rfl)) | (simp [*, errW_none, errW_some] <;> rfl), by repeat (with_reducible first | exact HB.out | apply bA | apply bN | apply bD | refine bS ?_ ao)⟩
            ·
             rw [if_neg c23] at H
             have c23b0 : decide (((rd_T32 l0_1 x17_2).f1) < 1) = false := decide_eq_false c23
             clear c23
             by_cases c28 : ((rd_T32 l0_1 x17_2).f1) > (wrap64 (65 - a0_0))
             ·
              rw [if_pos c28] at H
              have c28b0 : decide ((wrap64 (65 - a0_0)) < ((rd_T32 l0_1 x17_2).f1)) = true := decide_eq_true c28
              clear c28
              obtain rfl := Option.some.inj H
              have p103 : 0 ≤ (x17_2 : Int) := of_decide_eq_true (by first | (with_reducible assumption) | assumption)
              have q103 : x17_2 < (l0_1.length : Int) := of_decide_eq_true (by first | (with_reducible assumption) | assumption)
              obtain ⟨ad103, e103, hx103_0, hx103_1⟩ := at_T32 HR0_1.out x17_2 p103 q103
              cases e103
              replace hx103_0 := (HB.out.cell (World.block_lt_of_cell? w _ hx103_0)).trans hx103_0
              replace hx103_1 := (HB.out.cell (World.block_lt_of_cell? w _ hx103_1)).trans hx103_1
              replace p103 := eq_true p103
              replace q103 := eq_true q103
              go_wp2_with (first | ((with_reducible refine gate_dst (N := 5) rfl ?_); refine box_event ?hg (N := 5) ?hd (cs := #[.int .i64 0, .int .i64 0]) (t := 32) ?hr ?_; (case hd => rfl); (case hg => rfl); (case hr => go_simp; try rfl); intro gb104 hg w29 hbox hb; obtain ⟨HBn, GW104⟩ := tri hg hb (by repeat (with_reducible first | exact HB.out | apply bA | apply bN | apply bD | refine bS ?_ ao)); have GE104 := GW104; have BK104 := am (hbox); have NB102_104 := nl hg (bu BK102.out); have NB104_102 := nr hg (bu BK102.out); replace BK102 := bb BK102 hb; clear HB; have HB := HBn; clear HBn; clear hb hbox hg; have hnb30 := NB104_102.out; have hnc30 := NB102_104.out; obtain ⟨hcz31_0, hcz31_1, hfz31_0, hfz31_1⟩ := cf BK104.out; obtain ⟨hcz32_0, hcz32_1, hfz32_0, hfz32_1⟩ := cf BK102.out))
              repeat (go_quiet (first | ((with_reducible refine gate_dst (N := 5) rfl ?_); refine box_event ?hg (N := 5) ?hd (cs := #[.int .i64 0, .int .i64 0]) (t := 32) ?hr ?_; (case hd => rfl); (case hg => rfl); (case hr => go_simp; try rfl); intro gb104 hg w29 hbox hb; obtain ⟨HBn, GW104⟩ := tri hg hb (by repeat (with_reducible first | exact HB.out | apply bA | apply bN | apply bD | refine bS ?_ ao)); have GE104 := GW104; have BK104 := am (hbox); have NB102_104 := nl hg (bu BK102.out); have NB104_102 := nr hg (bu BK102.out); replace BK102 := bb BK102 hb; clear HB; have HB := HBn; clear HBn; clear hb hbox hg; have hnb30 := NB104_102.out; have hnc30 := NB102_104.out; obtain ⟨hcz31_0, hcz31_1, hfz31_0, hfz31_1⟩ := cf BK104.out; obtain ⟨hcz32_0, hcz32_1, hfz32_0, hfz32_1⟩ := cf BK102.out)); try go_wp2_with (first | ((with_reducible refine gate_dst (N := 5) rfl ?_); refine box_event ?hg (N := 5) ?hd (cs := #[.int .i64 0, .int .i64 0]) (t := 32) ?hr ?_; (case hd => rfl); (case hg => rfl); (case hr => go_simp; try rfl); intro gb104 hg w29 hbox hb; obtain ⟨HBn, GW104⟩ := tri hg hb (by repeat (with_reducible first | exact HB.out | apply bA | apply bN | apply bD | refine bS ?_ ao)); have GE104 := GW104; have BK104 := am (hbox); have NB102_104 := nl hg (bu BK102.out); have NB104_102 := nr hg (bu BK102.out); replace BK102 := bb BK102 hb; clear HB; have HB := HBn; clear HBn; clear hb hbox hg; have hnb30 := NB104_102.out; have hnc30 := NB102_104.out; obtain ⟨hcz31_0, hcz31_1, hfz31_0, hfz31_1⟩ := cf BK104.out; obtain ⟨hcz32_0, hcz32_1, hfz32_0, hfz32_1⟩ := cf BK102.out)))
              go_ret
              exact ⟨by first | rfl | (simp [errW_none, errW_some] <;> rfl) | (simp only [← hji17]; first | rfl | (simp [errW_none, errW_some] <;> rfl)) | (simp [*, errW_none, errW_some] <;> rfl), by repeat (with_reducible first | exact HB.out | apply bA | apply bN | apply bD | refine bS ?_ ao)⟩
             ·
              rw [if_neg c28] at H
              have c28b0 : decide ((wrap64 (65 - a0_0)) < ((rd_T32 l0_1 x17_2).f1)) = false := decide_eq_false c28
              clear c28
              have H' := Aside0.mk H
              clear H
              have p103 : 0 ≤ (x17_2 : Int) := of_decide_eq_true (by first | (with_reducible assumption) | assumption)
              have q103 : x17_2 < (l0_1.length : Int) := of_decide_eq_true (by first | (with_reducible assumption) | assumption)
              obtain ⟨ad103, e103, hx103_0, hx103_1⟩ := at_T32 HR0_1.out x17_2 p103 q103
              cases e103
              replace hx103_0 := (HB.out.cell (World.block_lt_of_cell? w _ hx103_0)).trans hx103_0
              replace hx103_1 := (HB.out.cell (World.block_lt_of_cell? w _ hx103_1)).trans hx103_1
              replace p103 := eq_true p103
              replace q103 := eq_true q103
              go_wp2_with (first | ((with_reducible refine gate_dst (N := 5) rfl ?_); refine box_event ?hg (N := 5) ?hd (cs := #[.int .i64 0, .int .i64 0]) (t := 32) ?hr ?_; (case hd => rfl); (case hg => rfl); (case hr => go_simp; try rfl); intro gb104 hg w33 hbox hb; obtain ⟨HBn, GW104⟩ := tri hg hb (by repeat (with_reducible first | exact HB.out | apply bA | apply bN | apply bD | refine bS ?_ ao)); have GE104 := GW104; have BK104 := am (hbox); have NB102_104 := nl hg (bu BK102.out); have NB104_102 := nr hg (bu BK102.out); replace BK102 := bb BK102 hb; clear HB; have HB := HBn; clear HBn; clear hb hbox hg; have hnb34 := NB104_102.out; have hnc34 := NB102_104.out; obtain ⟨hcz35_0, hcz35_1, hfz35_0, hfz35_1⟩ := cf BK104.out; obtain ⟨hcz36_0, hcz36_1, hfz36_0, hfz36_1⟩ := cf BK102.out))
              repeat (go_quiet (first | ((with_reducible refine gate_dst (N := 5) rfl ?_); refine box_event ?hg (N := 5) ?hd (cs := #[.int .i64 0, .int .i64 0]) (t := 32) ?hr ?_; (case hd => rfl); (case hg => rfl); (case hr => go_simp; try rfl); intro gb104 hg w33 hbox hb; obtain ⟨HBn, GW104⟩ := tri hg hb (by repeat (with_reducible first | exact HB.out | apply bA | apply bN | apply bD | refine bS ?_ ao)); have GE104 := GW104; have BK104 := am (hbox); have NB102_104 := nl hg (bu BK102.out); have NB104_102 := nr hg (bu BK102.out); replace BK102 := bb BK102 hb; clear HB; have HB := HBn; clear HBn; clear hb hbox hg; have hnb34 := NB104_102.out; have hnc34 := NB102_104.out; obtain ⟨hcz35_0, hcz35_1, hfz35_0, hfz35_1⟩ := cf BK104.out; obtain ⟨hcz36_0, hcz36_1, hfz36_0, hfz36_1⟩ := cf BK102.out)); try go_wp2_with (first | ((with_reducible refine gate_dst (N := 5) rfl ?_); refine box_event ?hg (N := 5) ?hd (cs := #[.int .i64 0, .int .i64 0]) (t := 32) ?hr ?_; (case hd => rfl); (case hg => rfl); (case hr => go_simp; try rfl); intro gb104 hg w33 hbox hb; obtain ⟨HBn, GW104⟩ := tri hg hb (by repeat (with_reducible first | exact HB.out | apply bA | apply bN | apply bD | refine bS ?_ ao)); have GE104 := GW104; have BK104 := am (hbox); have NB102_104 := nl hg (bu BK102.out); have NB104_102 := nr hg (bu BK102.out); replace BK102 := bb BK102 hb; clear HB; have HB := HBn; clear HBn; clear hb hbox hg; have hnb34 := NB104_102.out; have hnc34 := NB102_104.out; obtain ⟨hcz35_0, hcz35_1, hfz35_0, hfz35_1⟩ := cf BK104.out; obtain ⟨hcz36_0, hcz36_1, hfz36_0, hfz36_1⟩ := cf BK102.out)))
              go_roundg k2
              case measure => have := HJ1.out; have := HK2.out; omega
              case rel => exact ⟨((rd_T32 l0_1 x17_2).f0), (wrap64 (x17_2 + 1)), (by first | rfl | (simp; done) | (simp [*]; done)), (by first | rfl | (simp; done) | (simp [*]; done)), H', ⟨by have := HJ1.out; have := HK2.out; omega⟩, ⟨bf NB102_104.out BK102.out⟩, ⟨by repeat (with_reducible first | exact HB.out | apply bA | apply bN | apply bD | refine bS ?_ ao)⟩⟩
          ·
           rw [if_neg c16] at H
           exact absurd H (by simp)
        ·
         rw [if_neg c11] at H
         exact absurd H (by simp)
       ·
        rw [if_neg c10] at H
        exact absurd H (by simp)
      ·
       rw [if_neg c9] at H
       have c9b0 : decide (x17_2 < (l0_1.length : Int)) = false := decide_eq_false c9
       clear c9
       obtain rfl := Option.some.inj H
       go_wp2
       repeat (go_quiet (fail); try go_wp2)
       go_ret
       exact ⟨by first | rfl | (simp [errW_none, errW_some] <;> rfl) | (simp [*, errW_none, errW_some] <;> rfl), by repeat (with_reducible first | exact HB.out | apply bA | apply bN | apply bD | refine bS ?_ ao)⟩

-- BY HAND: function 89 (slices_Clone_byte_byte)

/-! ### octet_Number: function 59 -/
def octet_Number.l0 : Nat → List Int → Int → Option (List Int)
 | 0, _, _ => none
 | k + 1, x0, x1 => if x1 ≥ 128 then (if x0.length < 140737488355328 then (octet_Number.l0 k (x0 ++ [Go.bits .or .u8 ((x1) % 256) 128]) (x1 / 128)) else (none)) else (if x0.length < 140737488355328 then (some (x0 ++ [(x1) % 256])) else (none))
def octet_Number.f (k : Nat) (l0 : List Int) (a1 : Int) : Option (List Int) := (slices_Clone_byte_byte.f l0).bind fun t105 => (octet_Number.l0 k t105 a1)
theorem octet_Number.mono_l : ∀ k, (∀ y0 y1, LeO (octet_Number.l0 k y0 y1) (octet_Number.l0 (k + 1) y0 y1))
 | 0 => fun _ _ r h => by simp [octet_Number.l0] at h
 | k + 1 => by
  have ih0 := octet_Number.mono_l k
  ·
   intro y0 y1
   unfold octet_Number.l0
   repeat' first
   | (with_reducible exact ih0 _ _)
   | (with_reducible exact LeO.refl _)
   | (with_reducible exact LeO.none _)
   | (with_reducible refine LeO.ite ?_ ?_)
   | (with_reducible refine LeO.bind ?_ (fun _ => ?_))
theorem octet_Number.mono : ∀ a0 a1 k, LeO (octet_Number.f k a0 a1) (octet_Number.f (k + 1) a0 a1) := by
 intro a0 a1 k
 have ih0 := octet_Number.mono_l k
 unfold octet_Number.f
 repeat' first
   | (with_reducible exact ih0 _ _)
   | (with_reducible exact LeO.refl _)
   | (with_reducible exact LeO.none _)
   | (with_reducible refine LeO.ite ?_ ?_)
   | (with_reducible refine LeO.bind ?_ (fun _ => ?_))
set_option maxHeartbeats 8000000 in
set_option maxRecDepth 100000 in
theorem octet_Number.calls (k : Nat) (A0 : Option Addr) (c0 : Nat) (l0 : List Int) (a1 : Int) (r : List Int) (w : World) (hr0 : Kd.C (Kd.int .u8) w A0 l0.length l0) (hc0 : l0.length ≤ c0) (h : octet_Number.f k l0 a1 = some r) :
  Calls Try.prog 59 #[.slice A0 l0.length c0, .int .u64 a1] w fun e w' => ∃ v0_ : Value, e = .returned (v0_) ∧ Kd.R (Kd.int .u8) 5 w' w.heap.size (fun _ => True) v0_ r ∧ Below w.heap.size w w' := by
 have HR0 := Aside0.mk hr0
 have HC0 := Aside0.mk hc0
 clear hr0 hc0
 have HB := am (Below.refl w.heap.size w)
 have H : ((slices_Clone_byte_byte.f l0).bind fun t105 => (octet_Number.l0 k t105 a1)) = some r := h
 clear h
 replace H := Option.bind_eq_some_iff.mp H
 obtain ⟨t105, A30, H⟩ := H
 try dsimp only at H
 have A3 := Aside0.mk A30
 clear A30
 have H' := Aside0.mk H
 clear H
 go_enter Try.func59, Try.ntmps59
 go_wp2_with (first | ((with_reducible refine gate_callee (f := 89) rfl ?_); refine goesL_ (some 6) rfl rfl Try.func89 (by kernel_rfl) rfl #[.slice A0 l0.length c0] rfl (by (try simp only [List.map_toArray, List.map_cons, List.map_nil]); first | done | rfl) ?_; (with_reducible refine (slices_Clone_byte_byte.calls _ _ l0 t105 _ ?side1 ?side2 A3.out).mono ?_); (case side1 => repeat (first | exact HR0.out | (with_reducible refine Kd.C_alloc ?_ _) | (with_reducible refine Kd.C_drewN ?_ _) | (with_reducible refine Kd.C_drew ?_))); (case side2 => exact HC0.out); rintro e w4 ⟨v106, rfl, ho0, hb⟩; refine ⟨_, rfl, ?_⟩; have HO107 := am (Kd.R_lower ho0 (below_size (hu HB.out))); replace HB := am (below_step (hu HB.out) hb); (try clear hb); (try clear ho0)))
 go_loopg [0, 1] k (fun kq v0 v1 w' => ∃ (x0_1 : List Int) (x1_1 : Int), v1 = .int .u64 x1_1 ∧ Aside0 (octet_Number.l0 kq x0_1 x1_1 = some r) ∧ Aside0 (kq ≤ k) ∧ Aside0 (Kd.R (Kd.int .u8) 5 w' w.heap.size (fun _ => True) v0 x0_1) ∧ Aside0 (Below w.heap.size w w'))
 case atStart => exact ⟨(t105), (a1), (by first | rfl | (simp; done) | (simp [*]; done)), H', ⟨Nat.le_refl _⟩, ⟨ru HO107.out⟩, ⟨by repeat (with_reducible first | exact HB.out | apply bA | apply bN | apply bD)⟩⟩
 case round =>
  clear H'
  obtain ⟨x0_1, x1_1, rfl, HA, HK1, HO_0, HB⟩ := hrel
  cases gk with
  | zero => exact absurd HA.out (by simp [octet_Number.l0])
  | succ k1 =>
   have H := HA.out
   clear HA
   simp only [octet_Number.l0] at H
   by_cases c5 : x1_1 ≥ 128
   ·
    rw [if_pos c5] at H
    have c5b0 : decide (128 ≤ x1_1) = true := decide_eq_true c5
    clear c5
    by_cases c6 : x0_1.length < 140737488355328
    ·
     rw [if_pos c6] at H
     have LMc6 := Aside0.mk c6
     clear c6
     obtain ⟨y108, hy108⟩ : ∃ y_ : List Int, y_ = (x0_1 ++ [Go.bits .or .u8 ((x1_1) % 256) 128]) := ⟨_, rfl⟩
     replace H : (octet_Number.l0 k1 y108 (x1_1 / 128)) = some r := by first | (rw [hy108]; with_reducible exact H) | (have H2_ := (Option.bind_some _ _).symm.trans H; rw [hy108]; with_reducible exact H2_) | (have H2_ := (Option.bind_some _ _).symm.trans H; with_reducible exact H2_) | with_reducible exact H | (rw [hy108]; exact H) | exact H
     have Ny108 := Aside0.mk hy108
     clear hy108
     have H' := Aside0.mk H
     clear H
     go_wp2_with (first | ((with_reducible refine gate_builtin (b := .append) (xs := #[.tmp 11, .tmp 15]) rfl ?_); at_builtin; refine Kd.R_append (Kd.int .u8) (w0 := w) w.heap.size rfl (.tmp 11) (.tmp 15) 33 5 (.int .u8 0) 1 rfl Try.underlying33 info5 rfl (by decide) (by omega) u0 x0_1 (Go.bits .or .u8 ((x1_1) % 256) 128) [.int .u8 (Go.bits .or .u8 ((x1_1) % 256) 128)] (fun _ => True) (fun _ => False) rfl rfl ?aP (fun _ hk => hk.elim) ?aF ?aO ?aB ?aS ?aL ?_; (case aP => exact rfl); (case aB => exact (hu HB.out)); (case aF => exact (fun _ _ => trivial)); (case aO => exact (ru (HO_0.out))); (case aS => exact (below_size (hu HB.out))); (case aL => have := LMc6.out; omega); intro v109 w7 ho hb hg hat; rw [← Ny108.out] at ho; have HO110 := am (ho); replace HB := am (hb); clear HO_0; clear ho hb hg hat))
     go_roundg k1
     case measure => have := HK1.out; omega
     case rel => exact ⟨(y108), (x1_1 / 128), (by first | rfl | (simp; done) | (simp [*]; done)), H', ⟨by have := HK1.out; omega⟩, ⟨ru HO110.out⟩, ⟨by repeat (with_reducible first | exact HB.out | apply bA | apply bN | apply bD)⟩⟩
    ·
     rw [if_neg c6] at H
     exact absurd H (by simp)
   ·
    rw [if_neg c5] at H
    have c5b0 : decide (128 ≤ x1_1) = false := decide_eq_false c5
    clear c5
    by_cases c8 : x0_1.length < 140737488355328
    ·
     rw [if_pos c8] at H
     have LMc8 := Aside0.mk c8
     clear c8
     obtain ⟨y111, hy111⟩ : ∃ y_ : List Int, y_ = (x0_1 ++ [(x1_1) % 256]) := ⟨_, rfl⟩
     replace H : (some y111) = some r := by first | (rw [hy111]; with_reducible exact H) | (have H2_ := (Option.bind_some _ _).symm.trans H; rw [hy111]; with_reducible exact H2_) | (have H2_ := (Option.bind_some _ _).symm.trans H; with_reducible exact H2_) | with_reducible exact H | (rw [hy111]; exact H) | exact H
     have Ny111 := Aside0.mk hy111
     clear hy111
     obtain rfl := Option.some.inj H
     go_wp2_with (first | ((with_reducible refine gate_builtin (b := .append) (xs := #[.tmp 17, .tmp 20]) rfl ?_); at_builtin; refine Kd.R_append (Kd.int .u8) (w0 := w) w.heap.size rfl (.tmp 17) (.tmp 20) 33 5 (.int .u8 0) 1 rfl Try.underlying33 info5 rfl (by decide) (by omega) u0 x0_1 ((x1_1) % 256) [.int .u8 ((x1_1) % 256)] (fun _ => True) (fun _ => False) rfl rfl ?aP (fun _ hk => hk.elim) ?aF ?aO ?aB ?aS ?aL ?_; (case aP => exact rfl); (case aB => exact (hu HB.out)); (case aF => exact (fun _ _ => trivial)); (case aO => exact (ru (HO_0.out))); (case aS => exact (below_size (hu HB.out))); (case aL => have := LMc8.out; omega); intro v112 w9 ho hb hg hat; rw [← Ny111.out] at ho; have HO113 := am (ho); replace HB := am (hb); clear HO_0; clear ho hb hg hat))
     go_ret
     exact ⟨_, by first | rfl | (simp [errW_none, errW_some] <;> rfl) | (simp [*, errW_none, errW_some] <;> rfl), by (with_reducible repeat (first | apply Kd.R_alloc | apply Kd.R_drewN | apply Kd.R_drew)); exact HO113.out, by repeat (with_reducible first | exact HB.out | apply bA | apply bN | apply bD)⟩
    ·
     rw [if_neg c8] at H
     exact absurd H (by simp)

end Go.Proofs.Ytbclnjinpcfpjaa.H
