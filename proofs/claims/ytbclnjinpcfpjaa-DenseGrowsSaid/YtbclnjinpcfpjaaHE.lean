-- Made by this session's own call of the printer (functions that are proved by hand are taken from a text beside it).
import Derived.Test.YtbclnjinpcfpjaaZ4
import Derived.Test.YtbclnjinpcfpjaaM7
import Derived.Test.YtbclnjinpcfpjaaH0
import Derived.Test.YtbclnjinpcfpjaaH8
namespace Go.Proofs.Ytbclnjinpcfpjaa.H
open Go.RowKit Go.Proofs.YtbclnjinpcfpjaaW.PrintWords Go.Proofs.YtbclnjinpcfpjaaW.PrintLast Go.Proofs.YtbclnjinpcfpjaaW.PrintMore
attribute [local go_sem] max2_int min2_int max_two min_two max_three min_three max_four min_four   -- for this text's walks alone
set_option linter.unusedVariables false
set_option linter.unusedSimpArgs false

/-! ### tallymanref15_Log2: function 56 -/
mutual
def tallymanref15_Log2.l0 : Nat → Int → Int → Option (Int)
 | 0, _, _ => none
 | k + 1, x0, x3 => if 0 ≤ (IntKind.u64.wrap (x3)) then (if (shr .u64 x0 (IntKind.u64.wrap (x3))) = 0 then (tallymanref15_Log2.l0 k x0 (wrap64 (x3 - 1))) else (if 0 ≤ (IntKind.u64.wrap (wrap64 (63 - x3))) then (tallymanref15_Log2.l1 k ((shl .u64 x0 (IntKind.u64.wrap (wrap64 (63 - x3)))) / 4294967296) x3 0) else (none))) else (none)
def tallymanref15_Log2.l1 : Nat → Int → Int → Int → Option (Int)
 | 0, _, _, _ => none
 | k + 1, x4, x5, x6 => if x6 < 16 then (if ((IntKind.u64.wrap (x4 * x4)) / 2147483648) ≥ 4294967296 then (tallymanref15_Log2.l1 k (((IntKind.u64.wrap (x4 * x4)) / 2147483648) / 2) (wrap64 ((wrap64 (2 * x5)) + 1)) (wrap64 (x6 + 1))) else (tallymanref15_Log2.l1 k ((IntKind.u64.wrap (x4 * x4)) / 2147483648) (wrap64 (2 * x5)) (wrap64 (x6 + 1)))) else (some x5)
end
def tallymanref15_Log2.f (k : Nat) (a0 : Int) : Option (Int) := if a0 = 0 then (some 0) else (tallymanref15_Log2.l0 k a0 63)
theorem tallymanref15_Log2.mono_l : ∀ k, (∀ y0 y1, LeO (tallymanref15_Log2.l0 k y0 y1) (tallymanref15_Log2.l0 (k + 1) y0 y1)) ∧ (∀ y0 y1 y2, LeO (tallymanref15_Log2.l1 k y0 y1 y2) (tallymanref15_Log2.l1 (k + 1) y0 y1 y2))
 | 0 => ⟨fun _ _ r h => by simp [tallymanref15_Log2.l0] at h, fun _ _ _ r h => by simp [tallymanref15_Log2.l1] at h⟩
 | k + 1 => by
  obtain ⟨ih0, ih1⟩ := tallymanref15_Log2.mono_l k
  refine ⟨?_, ?_⟩
  ·
   intro y0 y1
   unfold tallymanref15_Log2.l0
   repeat' first
   | (with_reducible exact ih0 _ _)
   | (with_reducible exact ih1 _ _ _)
   | (with_reducible exact LeO.refl _)
   | (with_reducible exact LeO.none _)
   | (with_reducible refine LeO.ite ?_ ?_)
   | (with_reducible refine LeO.bind ?_ (fun _ => ?_))
  ·
   intro y0 y1 y2
   unfold tallymanref15_Log2.l1
   repeat' first
   | (with_reducible exact ih0 _ _)
   | (with_reducible exact ih1 _ _ _)
   | (with_reducible exact LeO.refl _)
   | (with_reducible exact LeO.none _)
   | (with_reducible refine LeO.ite ?_ ?_)
   | (with_reducible refine LeO.bind ?_ (fun _ => ?_))
theorem tallymanref15_Log2.mono : ∀ a0 k, LeO (tallymanref15_Log2.f k a0) (tallymanref15_Log2.f (k + 1) a0) := by
 intro a0 k
 obtain ⟨ih0, ih1⟩ := tallymanref15_Log2.mono_l k
 unfold tallymanref15_Log2.f
 repeat' first
   | (with_reducible exact ih0 _ _)
   | (with_reducible exact ih1 _ _ _)
   | (with_reducible exact LeO.refl _)
   | (with_reducible exact LeO.none _)
   | (with_reducible refine LeO.ite ?_ ?_)
   | (with_reducible refine LeO.bind ?_ (fun _ => ?_))
set_option maxHeartbeats 8000000 in
set_option maxRecDepth 100000 in
theorem tallymanref15_Log2.calls (k : Nat) (a0 : Int) (r : Int) (w : World) (h : tallymanref15_Log2.f k a0 = some r) :
  Calls Try.prog 56 #[.int .u64 a0] w fun e w' => e = .returned (.int .i64 r) ∧ Drawn0 w w' := by
 have H : (if a0 = 0 then (some 0) else (tallymanref15_Log2.l0 k a0 63)) = some r := h
 clear h
 by_cases c2 : a0 = 0
 ·
  rw [if_pos c2] at H
  have c2b0 : (a0 == 0) = true := beq_iff_eq.mpr c2
  have c2b1 : (a0 != 0) = false := bne_eq_false_iff_eq.mpr c2
  clear c2
  obtain rfl := Option.some.inj H
  go_enter Try.func56, Try.ntmps56
  go_wp2
  go_ret
  exact ⟨by first | rfl | (simp; done) | (simp [*]; done), by repeat (first | exact Drawn0.refl _ | apply Drawn0.step)⟩
 ·
  rw [if_neg c2] at H
  have c2b0 : (a0 == 0) = false := beq_eq_false_iff_ne.mpr c2
  have c2b1 : (a0 != 0) = true := bne_iff_ne.mpr c2
  have H' := Aside0.mk H
  clear H
  go_enter Try.func56, Try.ntmps56
  go_wp2
  go_loopg [3] k (fun kq v3 w' => ∃ (x3_1 : Int), v3 = .int .i64 x3_1 ∧ Aside0 (tallymanref15_Log2.l0 kq a0 x3_1 = some r) ∧ Aside0 (kq ≤ k) ∧ Drawn0 w w')
  case atStart => exact ⟨(63), (by first | rfl | (simp; done) | (simp [*]; done)), H', ⟨Nat.le_refl _⟩, by repeat (first | exact Drawn0.refl _ | apply Drawn0.step)⟩
  case round =>
   clear H'
   obtain ⟨x3_1, rfl, HA, HK1, ⟨m1, rfl⟩⟩ := hrel
   cases gk with
   | zero => exact absurd HA.out (by simp [tallymanref15_Log2.l0])
   | succ k1 =>
    have H := HA.out
    clear HA
    simp only [tallymanref15_Log2.l0] at H
    obtain ⟨ji3, hji3⟩ : ∃ j_ : Int, (IntKind.u64.wrap (x3_1)) = j_ := ⟨_, rfl⟩
    first | rw [hji3] at H | simp only [hji3] at H
    by_cases c4 : 0 ≤ (ji3)
    ·
     rw [if_pos c4] at H
     have c4b0 := eq_true c4
     have c4b1 : decide (0 ≤ (ji3)) = true := decide_eq_true c4
     clear c4
     obtain ⟨ji5, hji5⟩ : ∃ j_ : Int, (shr .u64 a0 (ji3)) = j_ := ⟨_, rfl⟩
     first | rw [hji5] at H | simp only [hji5] at H
     have hji5_ : (a0 / 2 ^ min (ji3).toNat 64) = ji5 := hji5
     have hji5z : (ji3) ≤ 64 → (a0 / 2 ^ (ji3).toNat) = ji5 := shr_small hji5
     by_cases c6 : (ji5) = 0
     ·
      rw [if_pos c6] at H
      have c6b0 : ((ji5) == 0) = true := beq_iff_eq.mpr c6
      have c6b1 : ((ji5) != 0) = false := bne_eq_false_iff_eq.mpr c6
      clear c6
      have H' := Aside0.mk H
      clear H
      go_wp2
      go_roundg k1
      case measure => have := HK1.out; omega
      case rel => exact ⟨(wrap64 (x3_1 - 1)), (by first | rfl | (simp; done) | (simp [*]; done)), H', ⟨by have := HK1.out; omega⟩, by repeat (first | exact Drawn0.refl _ | apply Drawn0.step)⟩
     ·
      rw [if_neg c6] at H
      have c6b0 : ((ji5) == 0) = false := beq_eq_false_iff_ne.mpr c6
      have c6b1 : ((ji5) != 0) = true := bne_iff_ne.mpr c6
      obtain ⟨ji7, hji7⟩ : ∃ j_ : Int, (IntKind.u64.wrap (wrap64 (63 - x3_1))) = j_ := ⟨_, rfl⟩
      first | rw [hji7] at H | simp only [hji7] at H
      by_cases c8 : 0 ≤ (ji7)
      ·
       rw [if_pos c8] at H
       have c8b0 := eq_true c8
       have c8b1 : decide (0 ≤ (ji7)) = true := decide_eq_true c8
       clear c8
       obtain ⟨ji9, hji9⟩ : ∃ j_ : Int, (shl .u64 a0 (ji7)) = j_ := ⟨_, rfl⟩
       first | rw [hji9] at H | simp only [hji9] at H
       have hji9_ : (IntKind.u64.wrap (a0 * 2 ^ min (ji7).toNat 64)) = ji9 := hji9
       have hji9z : (ji7) ≤ 64 → (IntKind.u64.wrap (a0 * 2 ^ (ji7).toNat)) = ji9 := shl_small hji9
       have H' := Aside0.mk H
       clear H
       go_wp2
       go_loopg [4, 5, 6] k1 (fun kq v4 v5 v6 w' => ∃ (x4_2 : Int) (x5_2 : Int) (x6_2 : Int), v4 = .int .u64 x4_2 ∧ v5 = .int .i64 x5_2 ∧ v6 = .int .i64 x6_2 ∧ Aside0 (tallymanref15_Log2.l1 kq x4_2 x5_2 x6_2 = some r) ∧ Aside0 (kq ≤ k1) ∧ Drawn0 w w')
       case atStart => exact ⟨((ji9) / 4294967296), (x3_1), (0), (by first | rfl | (simp; done) | (simp only [← hji9] <;> (first | rfl | simp)) | (simp [*]; done)), (by first | rfl | (simp; done) | (simp [*]; done)), (by first | rfl | (simp; done) | (simp [*]; done)), H', ⟨Nat.le_refl _⟩, by repeat (first | exact Drawn0.refl _ | apply Drawn0.step)⟩
       case round =>
        clear H'
        obtain ⟨x4_2, x5_2, x6_2, rfl, rfl, rfl, HA, HK2, ⟨m2, rfl⟩⟩ := hrel
        cases gk with
        | zero => exact absurd HA.out (by simp [tallymanref15_Log2.l1])
        | succ k2 =>
         have H := HA.out
         clear HA
         simp only [tallymanref15_Log2.l1] at H
         by_cases c10 : x6_2 < 16
         ·
          rw [if_pos c10] at H
          have c10b0 : decide (x6_2 < 16) = true := decide_eq_true c10
          clear c10
          by_cases c11 : ((IntKind.u64.wrap (x4_2 * x4_2)) / 2147483648) ≥ 4294967296
          ·
           rw [if_pos c11] at H
           have c11b0 : decide (4294967296 ≤ ((IntKind.u64.wrap (x4_2 * x4_2)) / 2147483648)) = true := decide_eq_true c11
           clear c11
           have H' := Aside0.mk H
           clear H
           go_wp2
           go_roundg k2
           case measure => have := HK1.out; have := HK2.out; omega
           case rel => exact ⟨(((IntKind.u64.wrap (x4_2 * x4_2)) / 2147483648) / 2), (wrap64 ((wrap64 (2 * x5_2)) + 1)), (wrap64 (x6_2 + 1)), (by first | rfl | (simp; done) | (simp [*]; done)), (by first | rfl | (simp; done) | (simp [*]; done)), (by first | rfl | (simp; done) | (simp [*]; done)), H', ⟨by have := HK1.out; have := HK2.out; omega⟩, by repeat (first | exact Drawn0.refl _ | apply Drawn0.step)⟩
          ·
           rw [if_neg c11] at H
           have c11b0 : decide (4294967296 ≤ ((IntKind.u64.wrap (x4_2 * x4_2)) / 2147483648)) = false := decide_eq_false c11
           clear c11
           have H' := Aside0.mk H
           clear H
           go_wp2
           go_roundg k2
           case measure => have := HK1.out; have := HK2.out; omega
           case rel => exact ⟨((IntKind.u64.wrap (x4_2 * x4_2)) / 2147483648), (wrap64 (2 * x5_2)), (wrap64 (x6_2 + 1)), (by first | rfl | (simp; done) | (simp [*]; done)), (by first | rfl | (simp; done) | (simp [*]; done)), (by first | rfl | (simp; done) | (simp [*]; done)), H', ⟨by have := HK1.out; have := HK2.out; omega⟩, by repeat (first | exact Drawn0.refl _ | apply Drawn0.step)⟩
         ·
          rw [if_neg c10] at H
          have c10b0 : decide (x6_2 < 16) = false := decide_eq_false c10
          clear c10
          obtain rfl := Option.some.inj H
          go_wp2
          go_ret
          exact ⟨by first | rfl | (simp; done) | (simp only [← hji3, ← hji5, ← hji7, ← hji9] <;> (first | rfl | simp)) | (simp [*]; done), by repeat (first | exact Drawn0.refl _ | apply Drawn0.step)⟩
      ·
       rw [if_neg c8] at H
       exact absurd H (by simp)
    ·
     rw [if_neg c4] at H
     exact absurd H (by simp)

/-! ### tallymanref14_Zeros: function 44 -/
def tallymanref14_Zeros.f (k : Nat) (a0_0 : Int) (l0_1 : List (S32)) : Option (Int) := (tallymanref14_Check.f k a0_0 l0_1).bind fun t583 => (if t583 = 0 then (if 0 ≤ (IntKind.u64.wrap (a0_0)) then (some (wrap64 ((shl .i64 1 (IntKind.u64.wrap (a0_0))) - (l0_1.length : Int)))) else (none)) else (some 0))
theorem tallymanref14_Zeros.mono : ∀ a0 a1 k, LeO (tallymanref14_Zeros.f k a0 a1) (tallymanref14_Zeros.f (k + 1) a0 a1) := by
 intro a0 a1 k
 unfold tallymanref14_Zeros.f
 repeat' first
   | (with_reducible exact tallymanref14_Check.mono _ _ _)
   | (with_reducible exact LeO.refl _)
   | (with_reducible exact LeO.none _)
   | (with_reducible refine LeO.ite ?_ ?_)
   | (with_reducible refine LeO.bind ?_ (fun _ => ?_))
set_option maxHeartbeats 8000000 in
set_option maxRecDepth 100000 in
theorem tallymanref14_Zeros.calls (k : Nat) (a0_0 : Int) (A0_1 : Option Addr) (c0_1 : Nat) (l0_1 : List (S32)) (r : Int) (w : World) (hr0_1 : Kd.C k32 w A0_1 l0_1.length l0_1) (hc0_1 : l0_1.length ≤ c0_1) (h : tallymanref14_Zeros.f k a0_0 l0_1 = some r) :
  Calls Try.prog 44 #[.agg #[.int .i64 a0_0, .slice A0_1 l0_1.length c0_1]] w fun e w' => e = .returned (.int .i64 r) ∧ Below w.heap.size w w' := by
 have hu30 := Try.underlying30
 have HR0_1 := Aside0.mk hr0_1
 have HC0_1 := Aside0.mk hc0_1
 clear hr0_1 hc0_1
 have HB := am (Below.refl w.heap.size w)
 have H : ((tallymanref14_Check.f k a0_0 l0_1).bind fun t583 => (if t583 = 0 then (if 0 ≤ (IntKind.u64.wrap (a0_0)) then (some (wrap64 ((shl .i64 1 (IntKind.u64.wrap (a0_0))) - (l0_1.length : Int)))) else (none)) else (some 0))) = some r := h
 clear h
 replace H := Option.bind_eq_some_iff.mp H
 obtain ⟨t583, A20, H⟩ := H
 try dsimp only at H
 have A2 := Aside0.mk A20
 clear A20
 by_cases c3 : t583 = 0
 ·
  rw [if_pos c3] at H
  have c3b0 : (t583 == 0) = true := beq_iff_eq.mpr c3
  have c3b1 : (t583 != 0) = false := bne_eq_false_iff_eq.mpr c3
  clear c3
  obtain ⟨ji4, hji4⟩ : ∃ j_ : Int, (IntKind.u64.wrap (a0_0)) = j_ := ⟨_, rfl⟩
  first | rw [hji4] at H | simp only [hji4] at H
  (try rw [hji4] at A2)
  by_cases c5 : 0 ≤ (ji4)
  ·
   rw [if_pos c5] at H
   have c5b0 := eq_true c5
   have c5b1 : decide (0 ≤ (ji4)) = true := decide_eq_true c5
   clear c5
   obtain ⟨ji6, hji6⟩ : ∃ j_ : Int, (shl .i64 1 (ji4)) = j_ := ⟨_, rfl⟩
   first | rw [hji6] at H | simp only [hji6] at H
   (try rw [hji6] at A2)
   have hji6_ : (IntKind.i64.wrap (1 * 2 ^ min (ji4).toNat 64)) = ji6 := hji6
   have hji6z : (ji4) ≤ 64 → (IntKind.i64.wrap (1 * 2 ^ (ji4).toNat)) = ji6 := shl_small hji6
   have hji6u : (IntKind.i64.wrap (2 ^ min (ji4).toNat 64)) = ji6 := by have h_ := hji6_; rw [Int.one_mul] at h_; exact h_
   have hji6v : (ji4) ≤ 64 → (IntKind.i64.wrap (2 ^ (ji4).toNat)) = ji6 := fun hle_ => by have h_ := hji6z hle_; rw [Int.one_mul] at h_; exact h_
   have hji6y : (wrap64 (1 * 2 ^ min (ji4).toNat 64)) = ji6 := (i64_w _).symm.trans hji6_
   have hji6x : (ji4) ≤ 64 → (wrap64 (1 * 2 ^ (ji4).toNat)) = ji6 := fun h_ => (i64_w _).symm.trans (hji6z h_)
   obtain rfl := Option.some.inj H
   go_enter Try.func44, Try.ntmps44
   go_wp2_with (first | ((with_reducible refine gate_dst (N := 1) rfl ?_); refine box_event ?hg (N := 1) ?hd (cs := #[.int .i64 a0_0, .slice A0_1 l0_1.length c0_1]) (t := 30) ?hr ?_; (case hd => rfl); (case hg => rfl); (case hr => go_simp; try rfl); intro gb582 hg w7 hbox hb; obtain ⟨HBn, GW582⟩ := tri hg hb (hu HB.out); have GE582 := GW582; have BK582 := am (hbox); clear HB; have HB := HBn; clear HBn; clear hb hbox hg; obtain ⟨hcz8_0, hcz8_1, hfz8_0, hfz8_1⟩ := cf BK582.out) | ((with_reducible refine gate_callee (f := 36) rfl ?_); refine goesL_ (some 4) rfl rfl Try.func36 (by kernel_rfl) rfl #[.agg #[.int .i64 a0_0, .slice A0_1 l0_1.length c0_1]] rfl (by (try simp only [List.map_toArray, List.map_cons, List.map_nil]); first | done | rfl) ?_; (with_reducible refine (tallymanref14_Check.calls k a0_0 _ _ l0_1 t583 _ ?side1 ?side2 A2.out).mono ?_); (case side1 => exact cu (Kd.C_below HR0_1.out HB.out)); (case side2 => exact HC0_1.out); rintro e w9 ⟨rfl, hb⟩; refine ⟨_, rfl, ?_⟩; replace BK582 := bb BK582 hb; replace HB := am (below_step (by repeat (with_reducible first | exact HB.out | apply bA | apply bN | apply bD | refine bS ?_ ao)) hb); (try clear hb); obtain ⟨hcz10_0, hcz10_1, hfz10_0, hfz10_1⟩ := cf BK582.out))
   go_ret
   exact ⟨by first | rfl | (simp [errW_none, errW_some] <;> rfl) | (simp only [← hji4, ← hji6]; first | rfl | (simp [errW_none, errW_some] <;> rfl)) | (simp [*, errW_none, errW_some] <;> rfl), by repeat (with_reducible first | exact HB.out | apply bA | apply bN | apply bD | refine bS ?_ ao)⟩
  ·
   rw [if_neg c5] at H
   exact absurd H (by simp)
 ·
  rw [if_neg c3] at H
  have c3b0 : (t583 == 0) = false := beq_eq_false_iff_ne.mpr c3
  have c3b1 : (t583 != 0) = true := bne_iff_ne.mpr c3
  obtain rfl := Option.some.inj H
  go_enter Try.func44, Try.ntmps44
  go_wp2_with (first | ((with_reducible refine gate_dst (N := 1) rfl ?_); refine box_event ?hg (N := 1) ?hd (cs := #[.int .i64 a0_0, .slice A0_1 l0_1.length c0_1]) (t := 30) ?hr ?_; (case hd => rfl); (case hg => rfl); (case hr => go_simp; try rfl); intro gb582 hg w11 hbox hb; obtain ⟨HBn, GW582⟩ := tri hg hb (hu HB.out); have GE582 := GW582; have BK582 := am (hbox); clear HB; have HB := HBn; clear HBn; clear hb hbox hg; obtain ⟨hcz12_0, hcz12_1, hfz12_0, hfz12_1⟩ := cf BK582.out) | ((with_reducible refine gate_callee (f := 36) rfl ?_); refine goesL_ (some 4) rfl rfl Try.func36 (by kernel_rfl) rfl #[.agg #[.int .i64 a0_0, .slice A0_1 l0_1.length c0_1]] rfl (by (try simp only [List.map_toArray, List.map_cons, List.map_nil]); first | done | rfl) ?_; (with_reducible refine (tallymanref14_Check.calls k a0_0 _ _ l0_1 t583 _ ?side1 ?side2 A2.out).mono ?_); (case side1 => exact cu (Kd.C_below HR0_1.out HB.out)); (case side2 => exact HC0_1.out); rintro e w13 ⟨rfl, hb⟩; refine ⟨_, rfl, ?_⟩; replace BK582 := bb BK582 hb; replace HB := am (below_step (by repeat (with_reducible first | exact HB.out | apply bA | apply bN | apply bD | refine bS ?_ ao)) hb); (try clear hb)))
  go_ret
  exact ⟨by first | rfl | (simp [errW_none, errW_some] <;> rfl) | (simp [*, errW_none, errW_some] <;> rfl), by repeat (with_reducible first | exact HB.out | apply bA | apply bN | apply bD | refine bS ?_ ao)⟩

/-! ### tallymanref15_quotient: function 88 -/
mutual
def tallymanref15_quotient.l0 : Nat → Int → Int → Int → Int → Int → Bool → Int → Int → Int → Option (Int)
 | 0, _, _, _, _, _, _, _, _, _ => none
 | k + 1, x0, x1, x2, x3, x9, x10, x11, x12, x13 => if x13 ≥ 0 then (if 0 ≤ (IntKind.u64.wrap (Int.tmod x13 64)) then (if x13 ≥ 64 then (if 0 ≤ (IntKind.u64.wrap (wrap64 (x13 - 64))) then (tallymanref15_quotient.j1 k x0 x1 x2 x3 x9 x10 (Go.bits .or .u64 (IntKind.u64.wrap (x11 * 2)) (x12 / 9223372036854775808)) x12 x13 (Int.tmod (shr .u64 x0 (IntKind.u64.wrap (wrap64 (x13 - 64)))) 2)) else (none)) else (tallymanref15_quotient.j1 k x0 x1 x2 x3 x9 x10 (Go.bits .or .u64 (IntKind.u64.wrap (x11 * 2)) (x12 / 9223372036854775808)) x12 x13 (Int.tmod (shr .u64 x1 (IntKind.u64.wrap (Int.tmod x13 64))) 2))) else (none)) else (if x10 = true then (some 9223372036854775807) else (some x9))
def tallymanref15_quotient.j1 : Nat → Int → Int → Int → Int → Int → Bool → Int → Int → Int → Int → Option (Int)
 | 0, _, _, _, _, _, _, _, _, _, _ => none
 | k + 1, x0, x1, x2, x3, x9, x10, x11, x12, x13, x14 => if x10 = true then (tallymanref15_quotient.j2 k x0 x1 x2 x3 x9 true x11 (Go.bits .or .u64 (IntKind.u64.wrap (x12 * 2)) x14) x13) else (tallymanref15_quotient.j2 k x0 x1 x2 x3 x9 (decide (x9 ≥ 4611686018427387904)) x11 (Go.bits .or .u64 (IntKind.u64.wrap (x12 * 2)) x14) x13)
def tallymanref15_quotient.j2 : Nat → Int → Int → Int → Int → Int → Bool → Int → Int → Int → Option (Int)
 | 0, _, _, _, _, _, _, _, _, _ => none
 | k + 1, x0, x1, x2, x3, x9, x10, x11, x12, x13 => if x11 > x2 then (tallymanref15_quotient.j3 k x0 x1 x2 x3 (IntKind.u64.wrap (x9 * 2)) x10 x11 x12 x13 true) else (if x11 = x2 then (tallymanref15_quotient.j3 k x0 x1 x2 x3 (IntKind.u64.wrap (x9 * 2)) x10 x11 x12 x13 (decide (x12 ≥ x3))) else (tallymanref15_quotient.j3 k x0 x1 x2 x3 (IntKind.u64.wrap (x9 * 2)) x10 x11 x12 x13 false))
def tallymanref15_quotient.j3 : Nat → Int → Int → Int → Int → Int → Bool → Int → Int → Int → Bool → Option (Int)
 | 0, _, _, _, _, _, _, _, _, _, _ => none
 | k + 1, x0, x1, x2, x3, x9, x10, x11, x12, x13, x63 => if x63 = true then ((bits_Sub64.f x12 x3 0).bind fun bt584 => ((bits_Sub64.f x11 x2 bt584.2).bind fun bt586 => (tallymanref15_quotient.l0 k x0 x1 x2 x3 (Go.bits .or .u64 x9 1) x10 bt586.1 bt584.1 (wrap64 (x13 - 1))))) else (tallymanref15_quotient.l0 k x0 x1 x2 x3 x9 x10 x11 x12 (wrap64 (x13 - 1)))
end
def tallymanref15_quotient.f (k : Nat) (a0 : Int) (a1 : Int) (a2 : Int) (a3 : Int) : Option (Int) := tallymanref15_quotient.l0 k a0 a1 a2 a3 0 false 0 0 127
theorem tallymanref15_quotient.mono_l : ∀ k, (∀ y0 y1 y2 y3 y4 y5 y6 y7 y8, LeO (tallymanref15_quotient.l0 k y0 y1 y2 y3 y4 y5 y6 y7 y8) (tallymanref15_quotient.l0 (k + 1) y0 y1 y2 y3 y4 y5 y6 y7 y8)) ∧ (∀ y0 y1 y2 y3 y4 y5 y6 y7 y8 y9, LeO (tallymanref15_quotient.j1 k y0 y1 y2 y3 y4 y5 y6 y7 y8 y9) (tallymanref15_quotient.j1 (k + 1) y0 y1 y2 y3 y4 y5 y6 y7 y8 y9)) ∧ (∀ y0 y1 y2 y3 y4 y5 y6 y7 y8, LeO (tallymanref15_quotient.j2 k y0 y1 y2 y3 y4 y5 y6 y7 y8) (tallymanref15_quotient.j2 (k + 1) y0 y1 y2 y3 y4 y5 y6 y7 y8)) ∧ (∀ y0 y1 y2 y3 y4 y5 y6 y7 y8 y9, LeO (tallymanref15_quotient.j3 k y0 y1 y2 y3 y4 y5 y6 y7 y8 y9) (tallymanref15_quotient.j3 (k + 1) y0 y1 y2 y3 y4 y5 y6 y7 y8 y9))
 | 0 => ⟨fun _ _ _ _ _ _ _ _ _ r h => by simp [tallymanref15_quotient.l0] at h, fun _ _ _ _ _ _ _ _ _ _ r h => by simp [tallymanref15_quotient.j1] at h, fun _ _ _ _ _ _ _ _ _ r h => by simp [tallymanref15_quotient.j2] at h, fun _ _ _ _ _ _ _ _ _ _ r h => by simp [tallymanref15_quotient.j3] at h⟩
 | k + 1 => by
  obtain ⟨ih0, ih1, ih2, ih3⟩ := tallymanref15_quotient.mono_l k
  refine ⟨?_, ?_, ?_, ?_⟩
  ·
   intro y0 y1 y2 y3 y4 y5 y6 y7 y8
   unfold tallymanref15_quotient.l0
   repeat' first
   | (with_reducible exact ih0 _ _ _ _ _ _ _ _ _)
   | (with_reducible exact ih1 _ _ _ _ _ _ _ _ _ _)
   | (with_reducible exact ih2 _ _ _ _ _ _ _ _ _)
   | (with_reducible exact ih3 _ _ _ _ _ _ _ _ _ _)
   | (with_reducible exact LeO.refl _)
   | (with_reducible exact LeO.none _)
   | (with_reducible refine LeO.ite ?_ ?_)
   | (with_reducible refine LeO.bind ?_ (fun _ => ?_))
  ·
   intro y0 y1 y2 y3 y4 y5 y6 y7 y8 y9
   unfold tallymanref15_quotient.j1
   repeat' first
   | (with_reducible exact ih0 _ _ _ _ _ _ _ _ _)
   | (with_reducible exact ih1 _ _ _ _ _ _ _ _ _ _)
   | (with_reducible exact ih2 _ _ _ _ _ _ _ _ _)
   | (with_reducible exact ih3 _ _ _ _ _ _ _ _ _ _)
   | (with_reducible exact LeO.refl _)
   | (with_reducible exact LeO.none _)
   | (with_reducible refine LeO.ite ?_ ?_)
   | (with_reducible refine LeO.bind ?_ (fun _ => ?_))
  ·
   intro y0 y1 y2 y3 y4 y5 y6 y7 y8
   unfold tallymanref15_quotient.j2
   repeat' first
   | (with_reducible exact ih0 _ _ _ _ _ _ _ _ _)
   | (with_reducible exact ih1 _ _ _ _ _ _ _ _ _ _)
   | (with_reducible exact ih2 _ _ _ _ _ _ _ _ _)
   | (with_reducible exact ih3 _ _ _ _ _ _ _ _ _ _)
   | (with_reducible exact LeO.refl _)
   | (with_reducible exact LeO.none _)
   | (with_reducible refine LeO.ite ?_ ?_)
   | (with_reducible refine LeO.bind ?_ (fun _ => ?_))
  ·
   intro y0 y1 y2 y3 y4 y5 y6 y7 y8 y9
   unfold tallymanref15_quotient.j3
   repeat' first
   | (with_reducible exact ih0 _ _ _ _ _ _ _ _ _)
   | (with_reducible exact ih1 _ _ _ _ _ _ _ _ _ _)
   | (with_reducible exact ih2 _ _ _ _ _ _ _ _ _)
   | (with_reducible exact ih3 _ _ _ _ _ _ _ _ _ _)
   | (with_reducible exact LeO.refl _)
   | (with_reducible exact LeO.none _)
   | (with_reducible refine LeO.ite ?_ ?_)
   | (with_reducible refine LeO.bind ?_ (fun _ => ?_))
theorem tallymanref15_quotient.mono : ∀ a0 a1 a2 a3 k, LeO (tallymanref15_quotient.f k a0 a1 a2 a3) (tallymanref15_quotient.f (k + 1) a0 a1 a2 a3) := by
 intro a0 a1 a2 a3 k
 obtain ⟨ih0, ih1, ih2, ih3⟩ := tallymanref15_quotient.mono_l k
 unfold tallymanref15_quotient.f
 repeat' first
   | (with_reducible exact ih0 _ _ _ _ _ _ _ _ _)
   | (with_reducible exact ih1 _ _ _ _ _ _ _ _ _ _)
   | (with_reducible exact ih2 _ _ _ _ _ _ _ _ _)
   | (with_reducible exact ih3 _ _ _ _ _ _ _ _ _ _)
   | (with_reducible exact LeO.refl _)
   | (with_reducible exact LeO.none _)
   | (with_reducible refine LeO.ite ?_ ?_)
   | (with_reducible refine LeO.bind ?_ (fun _ => ?_))
set_option maxHeartbeats 8000000 in
set_option maxRecDepth 100000 in
theorem tallymanref15_quotient.calls (k : Nat) (a0 : Int) (a1 : Int) (a2 : Int) (a3 : Int) (r : Int) (w : World) (h : tallymanref15_quotient.f k a0 a1 a2 a3 = some r) :
  Calls Try.prog 88 #[.int .u64 a0, .int .u64 a1, .int .u64 a2, .int .u64 a3] w fun e w' => e = .returned (.int .u64 r) ∧ Drawn0 w w' := by
 have H : (tallymanref15_quotient.l0 k a0 a1 a2 a3 0 false 0 0 127) = some r := h
 clear h
 have H' := Aside0.mk H
 clear H
 go_enter Try.func88, Try.ntmps88
 go_wp2
 go_loopg [9, 10, 11, 12, 13] k (fun kq v9 v10 v11 v12 v13 w' => ∃ (x9_1 : Int) (x10_1 : Bool) (x11_1 : Int) (x12_1 : Int) (x13_1 : Int), v9 = .int .u64 x9_1 ∧ v10 = .bool x10_1 ∧ v11 = .int .u64 x11_1 ∧ v12 = .int .u64 x12_1 ∧ v13 = .int .i64 x13_1 ∧ Aside0 (tallymanref15_quotient.l0 kq a0 a1 a2 a3 x9_1 x10_1 x11_1 x12_1 x13_1 = some r) ∧ Aside0 (kq ≤ k) ∧ Drawn0 w w')
 case atStart => exact ⟨(0), (false), (0), (0), (127), (by first | rfl | (simp; done) | (simp [*]; done)), (by first | rfl | (simp; done) | (simp [*]; done)), (by first | rfl | (simp; done) | (simp [*]; done)), (by first | rfl | (simp; done) | (simp [*]; done)), (by first | rfl | (simp; done) | (simp [*]; done)), H', ⟨Nat.le_refl _⟩, by repeat (first | exact Drawn0.refl _ | apply Drawn0.step)⟩
 case round =>
  clear H'
  obtain ⟨x9_1, x10_1, x11_1, x12_1, x13_1, rfl, rfl, rfl, rfl, rfl, HA, HK1, ⟨m1, rfl⟩⟩ := hrel
  cases gk with
  | zero => exact absurd HA.out (by simp [tallymanref15_quotient.l0])
  | succ k1 =>
   have H := HA.out
   clear HA
   simp only [tallymanref15_quotient.l0] at H
   by_cases c5 : x13_1 ≥ 0
   ·
    rw [if_pos c5] at H
    have c5b0 : decide (0 ≤ x13_1) = true := decide_eq_true c5
    clear c5
    obtain ⟨ji6, hji6⟩ : ∃ j_ : Int, (IntKind.u64.wrap (Int.tmod x13_1 64)) = j_ := ⟨_, rfl⟩
    first | rw [hji6] at H | simp only [hji6] at H
    by_cases c7 : 0 ≤ (ji6)
    ·
     rw [if_pos c7] at H
     have c7b0 := eq_true c7
     have c7b1 : decide (0 ≤ (ji6)) = true := decide_eq_true c7
     clear c7
     obtain ⟨ji8, hji8⟩ : ∃ j_ : Int, (shr .u64 a1 (ji6)) = j_ := ⟨_, rfl⟩
     first | rw [hji8] at H | simp only [hji8] at H
     have hji8_ : (a1 / 2 ^ min (ji6).toNat 64) = ji8 := hji8
     have hji8z : (ji6) ≤ 64 → (a1 / 2 ^ (ji6).toNat) = ji8 := shr_small hji8
     have HC9 := Aside0.mk H
     clear H
     go_upto_if 33 with (fail)
     go_cut [14] (fun v14 wc => ∃ (kq : Nat) (x14_8 : Int), v14 = .int .u64 x14_8 ∧ Aside0 (tallymanref15_quotient.j1 kq a0 a1 a2 a3 x9_1 x10_1 (Go.bits .or .u64 (IntKind.u64.wrap (x11_1 * 2)) (x12_1 / 9223372036854775808)) x12_1 x13_1 x14_8 = some r) ∧ Aside0 (kq ≤ k1) ∧ Drawn0 w wc)
     case first =>
      have H := HC9.out
      clear HC9
      by_cases c10 : x13_1 ≥ 64
      ·
       rw [if_pos c10] at H
       have c10b0 : decide (64 ≤ x13_1) = true := decide_eq_true c10
       clear c10
       (first | rw [c10b0] | (simp only [i64_w, i32_w]; rw [c10b0]) | skip)
       obtain ⟨ji11, hji11⟩ : ∃ j_ : Int, (IntKind.u64.wrap (wrap64 (x13_1 - 64))) = j_ := ⟨_, rfl⟩
       first | rw [hji11] at H | simp only [hji11] at H
       by_cases c12 : 0 ≤ (ji11)
       ·
        rw [if_pos c12] at H
        have c12b0 := eq_true c12
        have c12b1 : decide (0 ≤ (ji11)) = true := decide_eq_true c12
        clear c12
        obtain ⟨ji13, hji13⟩ : ∃ j_ : Int, (shr .u64 a0 (ji11)) = j_ := ⟨_, rfl⟩
        first | rw [hji13] at H | simp only [hji13] at H
        have hji13_ : (a0 / 2 ^ min (ji11).toNat 64) = ji13 := hji13
        have hji13z : (ji11) ≤ 64 → (a0 / 2 ^ (ji11).toNat) = ji13 := shr_small hji13
        have H' := Aside0.mk H
        clear H
        go_wp2
        go_meet
        case rel => exact ⟨_, (Int.tmod (ji13) 2), (by first | rfl | (simp; done) | (simp only [← hji13] <;> (first | rfl | simp)) | (simp [*]; done)), H', ⟨by have := HK1.out; first | omega | exact Nat.le_refl _⟩, by repeat (first | exact Drawn0.refl _ | apply Drawn0.step)⟩
       ·
        rw [if_neg c12] at H
        exact absurd H (by simp)
      ·
       rw [if_neg c10] at H
       have c10b0 : decide (64 ≤ x13_1) = false := decide_eq_false c10
       clear c10
       (first | rw [c10b0] | (simp only [i64_w, i32_w]; rw [c10b0]) | skip)
       have H' := Aside0.mk H
       clear H
       go_wp2
       go_meet
       case rel => exact ⟨_, (Int.tmod (ji8) 2), (by first | rfl | (simp; done) | (simp only [← hji8] <;> (first | rfl | simp)) | (simp [*]; done)), H', ⟨by have := HK1.out; first | omega | exact Nat.le_refl _⟩, by repeat (first | exact Drawn0.refl _ | apply Drawn0.step)⟩
     case rest =>
      clear HC9
      obtain ⟨kq, x14_8, rfl, HA, HJ8, ⟨mc8, rfl⟩⟩ := hcut
      cases kq with
      | zero => exact absurd HA.out (by simp [tallymanref15_quotient.j1])
      | succ kj8 =>
       have H := HA.out
       clear HA
       simp only [tallymanref15_quotient.j1] at H
       have HC14 := Aside0.mk H
       clear H
       go_upto_region 11 with (fail)
       go_cut [10] (fun v10 wc => ∃ (kq : Nat) (x10_13 : Bool), v10 = .bool x10_13 ∧ Aside0 (tallymanref15_quotient.j2 kq a0 a1 a2 a3 x9_1 x10_13 (Go.bits .or .u64 (IntKind.u64.wrap (x11_1 * 2)) (x12_1 / 9223372036854775808)) (Go.bits .or .u64 (IntKind.u64.wrap (x12_1 * 2)) x14_8) x13_1 = some r) ∧ Aside0 (kq ≤ kj8) ∧ Drawn0 w wc)
       case first =>
        have H := HC14.out
        clear HC14
        by_cases c15 : x10_1 = true
        ·
         subst c15
         rw [if_pos rfl] at H
         have H' := Aside0.mk H
         clear H
         go_wp2
         go_meet
         case rel => exact ⟨_, (true), (by first | rfl | (simp; done) | (simp [*]; done)), H', ⟨by have := HK1.out; have := HJ8.out; first | omega | exact Nat.le_refl _⟩, by repeat (first | exact Drawn0.refl _ | apply Drawn0.step)⟩
        ·
         replace c15 := Bool.eq_false_iff.mpr c15
         subst c15
         rw [if_neg Bool.false_ne_true] at H
         have H' := Aside0.mk H
         clear H
         go_wp2
         go_meet
         case rel => exact ⟨_, (decide (x9_1 ≥ 4611686018427387904)), (by first | rfl | (simp; done) | (simp [*]; done)), H', ⟨by have := HK1.out; have := HJ8.out; first | omega | exact Nat.le_refl _⟩, by repeat (first | exact Drawn0.refl _ | apply Drawn0.step)⟩
       case rest =>
        clear HC14
        obtain ⟨kq, x10_13, rfl, HA, HJ13, ⟨mc13, rfl⟩⟩ := hcut
        cases kq with
        | zero => exact absurd HA.out (by simp [tallymanref15_quotient.j2])
        | succ kj13 =>
         have H := HA.out
         clear HA
         simp only [tallymanref15_quotient.j2] at H
         have HC16 := Aside0.mk H
         clear H
         go_upto_region 13 with (fail)
         go_cut [63] (fun v63 wc => ∃ (kq : Nat) (x63_15 : Bool), v63 = .bool x63_15 ∧ Aside0 (tallymanref15_quotient.j3 kq a0 a1 a2 a3 (IntKind.u64.wrap (x9_1 * 2)) x10_13 (Go.bits .or .u64 (IntKind.u64.wrap (x11_1 * 2)) (x12_1 / 9223372036854775808)) (Go.bits .or .u64 (IntKind.u64.wrap (x12_1 * 2)) x14_8) x13_1 x63_15 = some r) ∧ Aside0 (kq ≤ kj13) ∧ Drawn0 w wc)
         case first =>
          have H := HC16.out
          clear HC16
          by_cases c17 : (Go.bits .or .u64 (IntKind.u64.wrap (x11_1 * 2)) (x12_1 / 9223372036854775808)) > a2
          ·
           rw [if_pos c17] at H
           have c17b0 : decide (a2 < (Go.bits .or .u64 (IntKind.u64.wrap (x11_1 * 2)) (x12_1 / 9223372036854775808))) = true := decide_eq_true c17
           clear c17
           (first | rw [c17b0] | (simp only [i64_w, i32_w]; rw [c17b0]) | skip)
           have H' := Aside0.mk H
           clear H
           go_wp2
           go_meet
           case rel => exact ⟨_, (true), (by first | rfl | (simp; done) | (simp [*]; done)), H', ⟨by have := HK1.out; have := HJ8.out; have := HJ13.out; first | omega | exact Nat.le_refl _⟩, by repeat (first | exact Drawn0.refl _ | apply Drawn0.step)⟩
          ·
           rw [if_neg c17] at H
           have c17b0 : decide (a2 < (Go.bits .or .u64 (IntKind.u64.wrap (x11_1 * 2)) (x12_1 / 9223372036854775808))) = false := decide_eq_false c17
           clear c17
           (first | rw [c17b0] | (simp only [i64_w, i32_w]; rw [c17b0]) | skip)
           by_cases c18 : (Go.bits .or .u64 (IntKind.u64.wrap (x11_1 * 2)) (x12_1 / 9223372036854775808)) = a2
           ·
            rw [if_pos c18] at H
            have c18b0 : ((Go.bits .or .u64 (IntKind.u64.wrap (x11_1 * 2)) (x12_1 / 9223372036854775808)) == a2) = true := beq_iff_eq.mpr c18
            have c18b1 : ((Go.bits .or .u64 (IntKind.u64.wrap (x11_1 * 2)) (x12_1 / 9223372036854775808)) != a2) = false := bne_eq_false_iff_eq.mpr c18
            clear c18
            have H' := Aside0.mk H
            clear H
            go_wp2
            go_meet
            case rel => exact ⟨_, (decide ((Go.bits .or .u64 (IntKind.u64.wrap (x12_1 * 2)) x14_8) ≥ a3)), (by first | rfl | (simp; done) | (simp [*]; done)), H', ⟨by have := HK1.out; have := HJ8.out; have := HJ13.out; first | omega | exact Nat.le_refl _⟩, by repeat (first | exact Drawn0.refl _ | apply Drawn0.step)⟩
           ·
            rw [if_neg c18] at H
            have c18b0 : ((Go.bits .or .u64 (IntKind.u64.wrap (x11_1 * 2)) (x12_1 / 9223372036854775808)) == a2) = false := beq_eq_false_iff_ne.mpr c18
            have c18b1 : ((Go.bits .or .u64 (IntKind.u64.wrap (x11_1 * 2)) (x12_1 / 9223372036854775808)) != a2) = true := bne_iff_ne.mpr c18
            have H' := Aside0.mk H
            clear H
            go_wp2
            go_meet
            case rel => exact ⟨_, (false), (by first | rfl | (simp; done) | (simp [*]; done)), H', ⟨by have := HK1.out; have := HJ8.out; have := HJ13.out; first | omega | exact Nat.le_refl _⟩, by repeat (first | exact Drawn0.refl _ | apply Drawn0.step)⟩
         case rest =>
          clear HC16
          obtain ⟨kq, x63_15, rfl, HA, HJ15, ⟨mc15, rfl⟩⟩ := hcut
          cases kq with
          | zero => exact absurd HA.out (by simp [tallymanref15_quotient.j3])
          | succ kj15 =>
           have H := HA.out
           clear HA
           simp only [tallymanref15_quotient.j3] at H
           by_cases c19 : x63_15 = true
           ·
            subst c19
            rw [if_pos rfl] at H
            replace H := Option.bind_eq_some_iff.mp H
            obtain ⟨⟨t584, t585⟩, A200, H⟩ := H
            try dsimp only at H
            have A20 := Aside0.mk A200
            clear A200
            replace H := Option.bind_eq_some_iff.mp H
            obtain ⟨⟨t586, t587⟩, A210, H⟩ := H
            try dsimp only at H
            have A21 := Aside0.mk A210
            clear A210
            have H' := Aside0.mk H
            clear H
            go_wp2_with (first | (rw [bits_Sub64.run A20.out]) | (rw [bits_Sub64.run A21.out]))
            go_roundg kj15
            case measure => have := HK1.out; have := HJ8.out; have := HJ13.out; have := HJ15.out; omega
            case rel => exact ⟨(Go.bits .or .u64 (IntKind.u64.wrap (x9_1 * 2)) 1), (x10_13), (t586), (t584), (wrap64 (x13_1 - 1)), (by first | rfl | (simp; done) | (simp [*]; done)), (by first | rfl | (simp; done) | (simp [*]; done)), (by first | rfl | (simp; done) | (simp [*]; done)), (by first | rfl | (simp; done) | (simp [*]; done)), (by first | rfl | (simp; done) | (simp [*]; done)), H', ⟨by have := HK1.out; have := HJ8.out; have := HJ13.out; have := HJ15.out; omega⟩, by repeat (first | exact Drawn0.refl _ | apply Drawn0.step)⟩
           ·
            replace c19 := Bool.eq_false_iff.mpr c19
            subst c19
            rw [if_neg Bool.false_ne_true] at H
            have H' := Aside0.mk H
            clear H
            go_wp2
            go_roundg kj15
            case measure => have := HK1.out; have := HJ8.out; have := HJ13.out; have := HJ15.out; omega
            case rel => exact ⟨((IntKind.u64.wrap (x9_1 * 2))), (x10_13), ((Go.bits .or .u64 (IntKind.u64.wrap (x11_1 * 2)) (x12_1 / 9223372036854775808))), ((Go.bits .or .u64 (IntKind.u64.wrap (x12_1 * 2)) x14_8)), (wrap64 (x13_1 - 1)), (by first | rfl | (simp; done) | (simp [*]; done)), (by first | rfl | (simp; done) | (simp [*]; done)), (by first | rfl | (simp; done) | (simp [*]; done)), (by first | rfl | (simp; done) | (simp [*]; done)), (by first | rfl | (simp; done) | (simp [*]; done)), H', ⟨by have := HK1.out; have := HJ8.out; have := HJ13.out; have := HJ15.out; omega⟩, by repeat (first | exact Drawn0.refl _ | apply Drawn0.step)⟩
    ·
     rw [if_neg c7] at H
     exact absurd H (by simp)
   ·
    rw [if_neg c5] at H
    have c5b0 : decide (0 ≤ x13_1) = false := decide_eq_false c5
    clear c5
    by_cases c22 : x10_1 = true
    ·
     subst c22
     rw [if_pos rfl] at H
     obtain rfl := Option.some.inj H
     go_wp2
     go_ret
     exact ⟨by first | rfl | (simp; done) | (simp [*]; done), by repeat (first | exact Drawn0.refl _ | apply Drawn0.step)⟩
    ·
     replace c22 := Bool.eq_false_iff.mpr c22
     subst c22
     rw [if_neg Bool.false_ne_true] at H
     obtain rfl := Option.some.inj H
     go_wp2
     go_ret
     exact ⟨by first | rfl | (simp; done) | (simp [*]; done), by repeat (first | exact Drawn0.refl _ | apply Drawn0.step)⟩

end Go.Proofs.Ytbclnjinpcfpjaa.H
