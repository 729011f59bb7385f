-- Made by this session's own call of the printer (functions that are proved by hand are taken from a text beside it).
import Derived.Test.YtbclnjinpcfpjaaZ2
import Derived.Test.YtbclnjinpcfpjaaM6
import Derived.Test.YtbclnjinpcfpjaaH0
import Derived.Test.YtbclnjinpcfpjaaH6
namespace Go.Proofs.Ytbclnjinpcfpjaa.H
open Go.RowKit Go.Proofs.YtbclnjinpcfpjaaW.PrintWords Go.Proofs.YtbclnjinpcfpjaaW.PrintLast Go.Proofs.YtbclnjinpcfpjaaW.PrintMore
attribute [local go_sem] max2_int min2_int max_two min_two max_three min_three max_four min_four   -- for this text's walks alone
set_option linter.unusedVariables false
set_option linter.unusedSimpArgs false

/-! ### api_Reg_69: function 69 -/
mutual
def api_Reg_69.l0 : Nat → List (S32) → List (S32) → List (S32) → Option ((List (S32)))
 | 0, _, _, _ => none
 | k + 1, x0, x1, x8 => if (x0.length : Int) > 0 then (api_Reg_69.j1 k x0 x1 x8 (decide ((x1.length : Int) > 0))) else (api_Reg_69.j1 k x0 x1 x8 false)
def api_Reg_69.j1 : Nat → List (S32) → List (S32) → List (S32) → Bool → Option ((List (S32)))
 | 0, _, _, _, _ => none
 | k + 1, x0, x1, x8, x17 => if x17 = true then (if 0 < (x0.length : Int) then (if 0 < (x1.length : Int) then ((hll_Merge_1.f ((rd_T32 x0 0).f0) ((rd_T32 x0 0).f1) ((rd_T32 x1 0).f0) ((rd_T32 x1 0).f1)).bind fun t230 => (if t230 < 0 then (if x8.length < 8796093022208 then (if 1 ≤ (x0.length : Int) then (api_Reg_69.l0 k (x0.drop 1) x1 (x8 ++ [(⟨(rd_T32 x0 0).f0, (rd_T32 x0 0).f1⟩ : S32)])) else (none)) else (none)) else (if t230 > 0 then (if x8.length < 8796093022208 then (if 1 ≤ (x1.length : Int) then (api_Reg_69.l0 k x0 (x1.drop 1) (x8 ++ [(⟨(rd_T32 x1 0).f0, (rd_T32 x1 0).f1⟩ : S32)])) else (none)) else (none)) else ((hll_Merge_2.f ((rd_T32 x0 0).f0) ((rd_T32 x0 0).f1) ((rd_T32 x1 0).f0) ((rd_T32 x1 0).f1)).bind fun bt251 => (if x8.length < 8796093022208 then (if 1 ≤ (x0.length : Int) then (if 1 ≤ (x1.length : Int) then (api_Reg_69.l0 k (x0.drop 1) (x1.drop 1) (x8 ++ [(⟨bt251.1, bt251.2⟩ : S32)])) else (none)) else (none)) else (none)))))) else (none)) else (none)) else (if x8.length + x0.length < 8796093022208 then ((some (x8 ++ x0 : List (S32))).bind fun y222 => (if y222.length + x1.length < 8796093022208 then (some (y222 ++ x1)) else (none))) else (none))
end
def api_Reg_69.f (k : Nat) (l0 : List (S32)) (l1 : List (S32)) (a2 : Int) (a3 : Int) : Option ((List (S32))) := api_Reg_69.l0 k l0 l1 ([] : List (S32))
theorem api_Reg_69.mono_l : ∀ k, (∀ y0 y1 y2, LeO (api_Reg_69.l0 k y0 y1 y2) (api_Reg_69.l0 (k + 1) y0 y1 y2)) ∧ (∀ y0 y1 y2 y3, LeO (api_Reg_69.j1 k y0 y1 y2 y3) (api_Reg_69.j1 (k + 1) y0 y1 y2 y3))
 | 0 => ⟨fun _ _ _ r h => by simp [api_Reg_69.l0] at h, fun _ _ _ _ r h => by simp [api_Reg_69.j1] at h⟩
 | k + 1 => by
  obtain ⟨ih0, ih1⟩ := api_Reg_69.mono_l k
  refine ⟨?_, ?_⟩
  ·
   intro y0 y1 y2
   unfold api_Reg_69.l0
   repeat' first
   | (with_reducible exact ih0 _ _ _)
   | (with_reducible exact ih1 _ _ _ _)
   | (with_reducible exact LeO.refl _)
   | (with_reducible exact LeO.none _)
   | (with_reducible refine LeO.ite ?_ ?_)
   | (with_reducible refine LeO.bind ?_ (fun _ => ?_))
   | exact ih0 _ _ _
   | exact ih1 _ _ _ _
   | exact LeO.none _
   | refine LeO.ite ?_ ?_
   | refine LeO.bind ?_ (fun _ => ?_)
  ·
   intro y0 y1 y2 y3
   unfold api_Reg_69.j1
   repeat' first
   | (with_reducible exact ih0 _ _ _)
   | (with_reducible exact ih1 _ _ _ _)
   | (with_reducible exact LeO.refl _)
   | (with_reducible exact LeO.none _)
   | (with_reducible refine LeO.ite ?_ ?_)
   | (with_reducible refine LeO.bind ?_ (fun _ => ?_))
   | exact ih0 _ _ _
   | exact ih1 _ _ _ _
   | exact LeO.none _
   | refine LeO.ite ?_ ?_
   | refine LeO.bind ?_ (fun _ => ?_)
theorem api_Reg_69.mono : ∀ a0 a1 a2 a3 k, LeO (api_Reg_69.f k a0 a1 a2 a3) (api_Reg_69.f (k + 1) a0 a1 a2 a3) := by
 intro a0 a1 a2 a3 k
 obtain ⟨ih0, ih1⟩ := api_Reg_69.mono_l k
 unfold api_Reg_69.f
 repeat' first
   | (with_reducible exact ih0 _ _ _)
   | (with_reducible exact ih1 _ _ _ _)
   | (with_reducible exact LeO.refl _)
   | (with_reducible exact LeO.none _)
   | (with_reducible refine LeO.ite ?_ ?_)
   | (with_reducible refine LeO.bind ?_ (fun _ => ?_))
   | exact ih0 _ _ _
   | exact ih1 _ _ _ _
   | exact LeO.none _
   | refine LeO.ite ?_ ?_
   | refine LeO.bind ?_ (fun _ => ?_)
def api_Reg_69.T2 : Bool × List (List Nat × List Nat) := (true, [([], []), ([], []), ([1], [1]), ([2], [2]), ([], []), ([4], [4]), ([5], [5]), ([0, 3, 6], [0, 3, 6]), ([7, 7, 0, 1, 2, 3, 4, 5, 6, 7], [7])])
def api_Reg_69.B2 : List Nat := [0, 0, 2, 6, 0, 16, 48, 127, 255]
theorem api_Reg_69.tab2 : rtab .any (opsOf Try.f69 2) = api_Reg_69.T2 := by kernel_rfl
theorem api_Reg_69.bits2 : waitsOk api_Reg_69.T2.2 api_Reg_69.B2 = true := by kernel_rfl
def api_Reg_69.T3 : Bool × List (List Nat × List Nat) := (true, [([], []), ([], []), ([], []), ([2], [2]), ([3], [3]), ([], []), ([5], [5]), ([6], [6]), ([1, 4, 7], [1, 4, 7]), ([8], [8]), ([0, 9, 8], [0, 9]), ([], []), ([11], [11]), ([], []), ([13], [13]), ([10, 10, 0, 1, 2, 3, 4, 5, 6, 7, 8, 9, 10], [0, 10]), ([12, 15, 0, 1, 2, 3, 4, 5, 6, 7, 8, 9, 10, 11, 12, 15], [2, 11, 12]), ([14, 16, 0, 1, 2, 3, 4, 5, 6, 7, 8, 9, 10, 11, 12, 13, 14, 15, 16], [5, 13, 14])])
def api_Reg_69.B3 : List Nat := [0, 0, 0, 4, 12, 0, 32, 96, 254, 510, 1023, 0, 2048, 0, 8192, 2047, 40959, 131071]
theorem api_Reg_69.tab3 : rtab .any (opsOf Try.f69 3) = api_Reg_69.T3 := by kernel_rfl
theorem api_Reg_69.bits3 : waitsOk api_Reg_69.T3.2 api_Reg_69.B3 = true := by kernel_rfl
def api_Reg_69.T5 : Bool × List (List Nat × List Nat) := (true, [([], []), ([], []), ([1], [1]), ([2], [2]), ([3], [3]), ([0, 4], [0, 4]), ([], []), ([6], [6]), ([5, 5, 0, 1, 2, 3, 4, 5], [0, 5]), ([7, 8, 0, 1, 2, 3, 4, 5, 6, 7, 8], [1, 6, 7])])
def api_Reg_69.B5 : List Nat := [0, 0, 2, 6, 14, 31, 0, 64, 63, 511]
theorem api_Reg_69.tab5 : rtab .any (opsOf Try.f69 5) = api_Reg_69.T5 := by kernel_rfl
theorem api_Reg_69.bits5 : waitsOk api_Reg_69.T5.2 api_Reg_69.B5 = true := by kernel_rfl
def api_Reg_69.T7 : Bool × List (List Nat × List Nat) := (true, [([], []), ([], []), ([1], [1]), ([2], [2]), ([3], [3]), ([0, 4], [0, 4]), ([], []), ([6], [6]), ([5, 5, 0, 1, 2, 3, 4, 5], [0, 5]), ([7, 8, 0, 1, 2, 3, 4, 5, 6, 7, 8], [1, 6, 7])])
def api_Reg_69.B7 : List Nat := [0, 0, 2, 6, 14, 31, 0, 64, 63, 511]
theorem api_Reg_69.tab7 : rtab .any (opsOf Try.f69 7) = api_Reg_69.T7 := by kernel_rfl
theorem api_Reg_69.bits7 : waitsOk api_Reg_69.T7.2 api_Reg_69.B7 = true := by kernel_rfl
set_option maxHeartbeats 8000000 in
set_option maxRecDepth 100000 in
theorem api_Reg_69.calls (k : Nat) (P0_ : Nat → Prop) (A0 : Option Addr) (c0 : Nat) (l0 : List (S32)) (P1_ : Nat → Prop) (A1 : Option Addr) (c1 : Nat) (l1 : List (S32)) (a2 : Int) (a3 : Int) (r : List (S32)) (w : World) (hs0 : Kd.V k32 32 w w.heap.size (fun k_ => P0_ k_) (.slice A0 l0.length c0) l0) (hs1 : Kd.V k32 32 w w.heap.size (fun k_ => P1_ k_) (.slice A1 l1.length c1) l1) (h : api_Reg_69.f k l0 l1 a2 a3 = some r) :
  Calls Try.prog 69 #[.slice A0 l0.length c0, .slice A1 l1.length c1, .func (.func 70) #[] #[], .func (.func 71) #[] #[]] w fun e w' => ∃ v0_ : Value, e = .returned (v0_) ∧ Kd.R k32 32 w' w.heap.size (fun k_ => (w.heap.size ≤ k_)) v0_ r ∧ Below w.heap.size w w' := by
 have hu32 := Try.underlying32
 have HO0 := am (show Kd.V k32 32 w w.heap.size (fun k_ => ((P0_ k_ ∨ P1_ k_) ∨ w.heap.size ≤ k_)) (.slice A0 l0.length c0) l0 from Kd.V_mono hs0 (fun k_ hk => .inl (.inl hk)))
 have HO1 := am (show Kd.V k32 32 w w.heap.size (fun k_ => ((P0_ k_ ∨ P1_ k_) ∨ w.heap.size ≤ k_)) (.slice A1 l1.length c1) l1 from Kd.V_mono hs1 (fun k_ hk => .inl (.inr hk)))
 have HB := am (Below.refl w.heap.size w)
 have H : (api_Reg_69.l0 k l0 l1 ([] : List (S32))) = some r := h
 clear h
 have H' := Aside0.mk H
 clear H
 go_enter Try.func69, Try.ntmps69
 go_wp2
 go_loopg [0, 1, 8] k (fun kq v0 v1 v8 w' => ∃ (x0_1 : List (S32)) (x1_1 : List (S32)) (x8_1 : List (S32)), Aside0 (api_Reg_69.l0 kq x0_1 x1_1 x8_1 = some r) ∧ Aside0 (kq ≤ k) ∧ Aside0 (Kd.V k32 32 w' w.heap.size (fun k_ => ((P0_ k_ ∨ P1_ k_) ∨ w.heap.size ≤ k_) ∧ some k_ ≠ (v8 : Value).ownBlock) v0 x0_1) ∧ Aside0 (Kd.V k32 32 w' w.heap.size (fun k_ => ((P0_ k_ ∨ P1_ k_) ∨ w.heap.size ≤ k_) ∧ some k_ ≠ (v8 : Value).ownBlock) v1 x1_1) ∧ Aside0 (Kd.R k32 32 w' w.heap.size (fun k_ => (w.heap.size ≤ k_)) v8 x8_1) ∧ Aside0 (Below w.heap.size w w'))
 case atStart => exact ⟨(l0), (l1), (([] : List (S32))), H', ⟨Nat.le_refl _⟩, ⟨by (with_reducible repeat (first | apply Kd.V_alloc | apply Kd.V_drewN | apply Kd.V_drew)); exact Kd.V_mono HO0.out (fun _ hk => ⟨hk, (by simp [Value.ownBlock])⟩)⟩, ⟨by (with_reducible repeat (first | apply Kd.V_alloc | apply Kd.V_drewN | apply Kd.V_drew)); exact Kd.V_mono HO1.out (fun _ hk => ⟨hk, (by simp [Value.ownBlock])⟩)⟩, ⟨by first | exact Kd.R_nil _ _ _ _ _ | exact Kd.N_nil _ _ _ _ _ | exact Kd.V_nil _ _ _ _ _ | exact Kd.Q_nil _ _ _ _ _ | exact Kd.S_nil _ _ _ _ _⟩, ⟨by repeat (first | (with_reducible first | exact HB.out | apply below_alloc | apply pw_below_drewN | apply below_drew1) | exact HB.out)⟩⟩
 case round =>
  clear H'
  try clear c1; try clear p2
  obtain ⟨x0_1, x1_1, x8_1, HA, HK1, HO_0, HO_1, HO_8, HB⟩ := hrel
  cases gk with
  | zero => exact absurd HA.out (by simp [api_Reg_69.l0])
  | succ k1 =>
   have H := HA.out
   clear HA
   simp only [api_Reg_69.l0] at H
   have HC5 := Aside0.mk H
   clear H
   go_upto_region 1 with (fail)
   go_cut [17] (fun v17 wc => ∃ (kq : Nat) (x17_4 : Bool), v17 = .bool x17_4 ∧ Aside0 (api_Reg_69.j1 kq x0_1 x1_1 x8_1 x17_4 = some r) ∧ Aside0 (kq ≤ k1) ∧ Aside0 (Kd.V k32 32 wc w.heap.size (fun k_ => ((P0_ k_ ∨ P1_ k_) ∨ w.heap.size ≤ k_) ∧ some k_ ≠ (u8 : Value).ownBlock) u0 x0_1) ∧ Aside0 (Kd.V k32 32 wc w.heap.size (fun k_ => ((P0_ k_ ∨ P1_ k_) ∨ w.heap.size ≤ k_) ∧ some k_ ≠ (u8 : Value).ownBlock) u1 x1_1) ∧ Aside0 (Kd.R k32 32 wc w.heap.size (fun k_ => (w.heap.size ≤ k_)) u8 x8_1) ∧ Aside0 (Below w.heap.size w wc))
   case first =>
    have H := HC5.out
    clear HC5
    by_cases c6 : (x0_1.length : Int) > 0
    ·
     rw [if_pos c6] at H
     have c6b0 : decide (0 < (x0_1.length : Int)) = true := decide_eq_true c6
     have c6b1 : decide (0 < x0_1.length) = true := decide_eq_true (by omega)
     clear c6
     (first | rw [c6b0] | (simp only [i64_w, i32_w]; rw [c6b0]) | skip)
     have H' := Aside0.mk H
     clear H
     obtain ⟨Ao7, co7, eo7⟩ := Kd.V_slice HO_0.out
     subst eo7
     obtain ⟨Ao8, co8, eo8⟩ := Kd.V_slice HO_1.out
     subst eo8
     go_wp2
     go_meet
     case rel => exact ⟨_, (decide ((x1_1.length : Int) > 0)), (by first | rfl | (simp; done) | (simp [*]; done)), H', ⟨by have := HK1.out; first | omega | exact Nat.le_refl _⟩, ⟨by (with_reducible repeat (first | apply Kd.V_alloc | apply Kd.V_drewN | apply Kd.V_drew)); exact HO_0.out⟩, ⟨by (with_reducible repeat (first | apply Kd.V_alloc | apply Kd.V_drewN | apply Kd.V_drew)); exact HO_1.out⟩, ⟨ru HO_8.out⟩, ⟨by repeat (first | (with_reducible first | exact HB.out | apply below_alloc | apply pw_below_drewN | apply below_drew1) | exact HB.out)⟩⟩
    ·
     rw [if_neg c6] at H
     have c6b0 : decide (0 < (x0_1.length : Int)) = false := decide_eq_false c6
     have c6b1 : decide (0 < x0_1.length) = false := decide_eq_false (by omega)
     clear c6
     (first | rw [c6b0] | (simp only [i64_w, i32_w]; rw [c6b0]) | skip)
     have H' := Aside0.mk H
     clear H
     obtain ⟨Ao9, co9, eo9⟩ := Kd.V_slice HO_0.out
     subst eo9
     go_wp2
     go_meet
     case rel => exact ⟨_, (false), (by first | rfl | (simp; done) | (simp [*]; done)), H', ⟨by have := HK1.out; first | omega | exact Nat.le_refl _⟩, ⟨by (with_reducible repeat (first | apply Kd.V_alloc | apply Kd.V_drewN | apply Kd.V_drew)); exact HO_0.out⟩, ⟨by (with_reducible repeat (first | apply Kd.V_alloc | apply Kd.V_drewN | apply Kd.V_drew)); exact HO_1.out⟩, ⟨ru HO_8.out⟩, ⟨by repeat (first | (with_reducible first | exact HB.out | apply below_alloc | apply pw_below_drewN | apply below_drew1) | exact HB.out)⟩⟩
   case rest =>
    clear HC5
    try clear c1; try clear p2; try clear c6; try clear c6b0; try clear c6b1; try clear p2
    obtain ⟨kq, x17_4, rfl, HA, HJ4, HO_0, HO_1, HO_8, HB⟩ := hcut
    cases kq with
    | zero => exact absurd HA.out (by simp [api_Reg_69.j1])
    | succ kj4 =>
     have H := HA.out
     clear HA
     simp only [api_Reg_69.j1] at H
     by_cases c10 : x17_4 = true
     ·
      subst c10
      have H1 : (if 0 < (x0_1.length : Int) then (if 0 < (x1_1.length : Int) then ((hll_Merge_1.f ((rd_T32 x0_1 0).f0) ((rd_T32 x0_1 0).f1) ((rd_T32 x1_1 0).f0) ((rd_T32 x1_1 0).f1)).bind fun t230 => (if t230 < 0 then (if x8_1.length < 8796093022208 then (if 1 ≤ (x0_1.length : Int) then (api_Reg_69.l0 kj4 (x0_1.drop 1) x1_1 (x8_1 ++ [(⟨(rd_T32 x0_1 0).f0, (rd_T32 x0_1 0).f1⟩ : S32)])) else (none)) else (none)) else (if t230 > 0 then (if x8_1.length < 8796093022208 then (if 1 ≤ (x1_1.length : Int) then (api_Reg_69.l0 kj4 x0_1 (x1_1.drop 1) (x8_1 ++ [(⟨(rd_T32 x1_1 0).f0, (rd_T32 x1_1 0).f1⟩ : S32)])) else (none)) else (none)) else ((hll_Merge_2.f ((rd_T32 x0_1 0).f0) ((rd_T32 x0_1 0).f1) ((rd_T32 x1_1 0).f0) ((rd_T32 x1_1 0).f1)).bind fun bt251 => (if x8_1.length < 8796093022208 then (if 1 ≤ (x0_1.length : Int) then (if 1 ≤ (x1_1.length : Int) then (api_Reg_69.l0 kj4 (x0_1.drop 1) (x1_1.drop 1) (x8_1 ++ [(⟨bt251.1, bt251.2⟩ : S32)])) else (none)) else (none)) else (none)))))) else (none)) else (none)) = some r := by rw [if_pos rfl] at H; exact H
      clear H
      have H := H1
      clear H1
      by_cases c11 : 0 < (x0_1.length : Int)
      ·
       rw [if_pos c11] at H
       have c11b0 : decide (0 < (x0_1.length : Int)) = true := decide_eq_true c11
       have c11b1 : decide (0 < x0_1.length) = true := decide_eq_true (by omega)
       clear c11
       by_cases c12 : 0 < (x1_1.length : Int)
       ·
        rw [if_pos c12] at H
        have c12b0 : decide (0 < (x1_1.length : Int)) = true := decide_eq_true c12
        have c12b1 : decide (0 < x1_1.length) = true := decide_eq_true (by omega)
        clear c12
        replace H := Option.bind_eq_some_iff.mp H
        obtain ⟨t230, A130, H⟩ := H
        replace H : (if t230 < 0 then (if x8_1.length < 8796093022208 then (if 1 ≤ (x0_1.length : Int) then (api_Reg_69.l0 kj4 (x0_1.drop 1) x1_1 (x8_1 ++ [(⟨(rd_T32 x0_1 0).f0, (rd_T32 x0_1 0).f1⟩ : S32)])) else (none)) else (none)) else (if t230 > 0 then (if x8_1.length < 8796093022208 then (if 1 ≤ (x1_1.length : Int) then (api_Reg_69.l0 kj4 x0_1 (x1_1.drop 1) (x8_1 ++ [(⟨(rd_T32 x1_1 0).f0, (rd_T32 x1_1 0).f1⟩ : S32)])) else (none)) else (none)) else ((hll_Merge_2.f ((rd_T32 x0_1 0).f0) ((rd_T32 x0_1 0).f1) ((rd_T32 x1_1 0).f0) ((rd_T32 x1_1 0).f1)).bind fun bt251 => (if x8_1.length < 8796093022208 then (if 1 ≤ (x0_1.length : Int) then (if 1 ≤ (x1_1.length : Int) then (api_Reg_69.l0 kj4 (x0_1.drop 1) (x1_1.drop 1) (x8_1 ++ [(⟨bt251.1, bt251.2⟩ : S32)])) else (none)) else (none)) else (none))))) = some r := H
        have A13 := Aside0.mk A130
        clear A130
        by_cases c14 : t230 < 0
        ·
         rw [if_pos c14] at H
         have c14b0 : decide (t230 < 0) = true := decide_eq_true c14
         clear c14
         by_cases c15 : x8_1.length < 8796093022208
         ·
          rw [if_pos c15] at H
          have LMc15 := Aside0.mk c15
          clear c15
          obtain ⟨y232, hy232⟩ : ∃ y_ : List (S32), y_ = (x8_1 ++ [(⟨(rd_T32 x0_1 0).f0, (rd_T32 x0_1 0).f1⟩ : S32)]) := ⟨_, rfl⟩
          replace H : (if 1 ≤ (x0_1.length : Int) then (api_Reg_69.l0 kj4 (x0_1.drop 1) x1_1 y232) else (none)) = some r := by first | (rw [hy232]; with_reducible exact H) | (have H2_ := (Option.bind_some _ _).symm.trans H; rw [hy232]; with_reducible exact H2_) | (have H2_ := (Option.bind_some _ _).symm.trans H; with_reducible exact H2_) | with_reducible exact H | (rw [hy232]; exact H) | exact H
          have Ny232 := Aside0.mk hy232
          clear hy232
          by_cases c16 : 1 ≤ (x0_1.length : Int)
          ·
           rw [if_pos c16] at H
           have c16b0 := eq_true c16
           have c16b1 : decide (1 ≤ (x0_1.length : Int)) = true := decide_eq_true c16
           clear c16
           obtain ⟨y235, hy235⟩ : ∃ y_ : List (S32), y_ = (x0_1.drop 1) := ⟨_, rfl⟩
           replace H : (api_Reg_69.l0 kj4 y235 x1_1 y232) = some r := by first | (rw [hy235]; with_reducible exact H) | (have H2_ := (Option.bind_some _ _).symm.trans H; rw [hy235]; with_reducible exact H2_) | (have H2_ := (Option.bind_some _ _).symm.trans H; with_reducible exact H2_) | with_reducible exact H | (rw [hy235]; exact H) | exact H
           have Ny235 := Aside0.mk hy235
           clear hy235
           have H' := Aside0.mk H
           clear H
           try go_wp2
           replace HO_0 := am (Kd.V_drew HO_0.out); replace HO_1 := am (Kd.V_drew HO_1.out); replace HO_8 := am (Kd.R_drew HO_8.out); replace HB := am (below_drew1 HB.out)
           obtain ⟨Ao18, co18, eo18⟩ := Kd.V_slice HO_0.out
           (first | subst eo18 | (injection eo18 with f1_ f2_ f3_; have f4_ := f1_.symm; have f5_ := f3_.symm; clear f1_ f2_ f3_; subst f4_; subst f5_))
           have p228 : 0 ≤ (0 : Int) := (by omega)
           have q228 : 0 < (x0_1.length : Int) := of_decide_eq_true (by first | (with_reducible assumption) | assumption)
           obtain ⟨ad228, e228, hx228_0, hx228_1⟩ := at_T32 (Kd.V_reads' HO_0.out).2.2 0 p228 q228
           cases e228
           have qi228 : (0 < x0_1.length) = True := eq_true (by omega)
           (try rw [show ((0 : Int)).toNat = 0 from rfl] at hx228_0)
           (try rw [show 0 * 2 = 0 from rfl] at hx228_0)
           (try rw [Addr.add_zero'] at hx228_0)
           (try rw [show ((0 : Int)).toNat = 0 from rfl] at hx228_1)
           (try rw [show 0 * 2 = 0 from rfl] at hx228_1)
           (try rw [Addr.add_zero'] at hx228_1)
           replace p228 := eq_true p228
           replace q228 := eq_true q228
           obtain ⟨Ao19, co19, eo19⟩ := Kd.V_slice HO_1.out
           (first | subst eo19 | (injection eo19 with f1_ f2_ f3_; have f4_ := f1_.symm; have f5_ := f3_.symm; clear f1_ f2_ f3_; subst f4_; subst f5_))
           have p229 : 0 ≤ (0 : Int) := (by omega)
           have q229 : 0 < (x1_1.length : Int) := of_decide_eq_true (by first | (with_reducible assumption) | assumption)
           obtain ⟨ad229, e229, hx229_0, hx229_1⟩ := at_T32 (Kd.V_reads' HO_1.out).2.2 0 p229 q229
           cases e229
           have qi229 : (0 < x1_1.length) = True := eq_true (by omega)
           (try rw [show ((0 : Int)).toNat = 0 from rfl] at hx229_0)
           (try rw [show 0 * 2 = 0 from rfl] at hx229_0)
           (try rw [Addr.add_zero'] at hx229_0)
           (try rw [show ((0 : Int)).toNat = 0 from rfl] at hx229_1)
           (try rw [show 0 * 2 = 0 from rfl] at hx229_1)
           (try rw [Addr.add_zero'] at hx229_1)
           replace p229 := eq_true p229
           replace q229 := eq_true q229
           refine start_ (n := 9) (S := fun w' => w'.cell? ad228 = some (.int .i64 ((rd_T32 x0_1 0).f0)) ∧ w'.cell? ⟨ad228.block, ad228.off + 1, none⟩ = some (.int .i64 ((rd_T32 x0_1 0).f1)) ∧ w'.cell? ad229 = some (.int .i64 ((rd_T32 x1_1 0).f0)) ∧ w'.cell? ⟨ad229.block, ad229.off + 1, none⟩ = some (.int .i64 ((rd_T32 x1_1 0).f1))) (ds := []) (tb 0 9) (by kernel_rfl) rfl rfl ⟨hx228_0, hx228_1, hx229_0, hx229_1⟩ (fun hHeld => ?_); refine with_tabW api_Reg_69.tab2 api_Reg_69.bits2 (fun HT_ HW_ => ?_)
           generalize wc.drew = w17 at HO_0 HO_1 HO_8 HB hx228_0 hx228_1 hx229_0 hx229_1 hHeld ⊢
           refine pure_ (i := 0) (N := some 18) (v := ?_) (a' := ?_) (tb 1 9) rfl rfl (any_of HT_.out (by kernel_rfl)) (fun _ _ _ h => h) (Or.inl ⟨by rfl, ?_⟩) ?_ ?_
           rotate_left
           ·
            intro w'
            go_simp
            with_reducible rfl
           rotate_left
           ·
            simp only [Act.put, List.setIfInBounds_toArray, List.set_cons_zero, List.set_cons_succ, i64_w, i32_w]
            rfl
           refine pure_ (i := 1) (N := some 19) (v := ?_) (a' := ?_) (tb 2 9) rfl rfl (any_of HT_.out (by kernel_rfl)) (fun _ _ _ h => h) (Or.inl ⟨by rfl, ?_⟩) ?_ ?_
           rotate_left
           ·
            intro w'
            go_simp
            with_reducible rfl
           rotate_left
           ·
            simp only [Act.put, List.setIfInBounds_toArray, List.set_cons_zero, List.set_cons_succ, i64_w, i32_w]
            rfl
           refine pure_ (i := 2) (N := some 20) (v := ?_) (a' := ?_) (tb 3 9) rfl rfl (any_of HT_.out (by kernel_rfl)) (fun _ _ _ h => h) (Or.inl ⟨by rfl, ?_⟩) ?_ ?_
           rotate_left
           ·
            intro w'
            go_simp
            with_reducible rfl
           rotate_left
           ·
            simp only [Act.put, List.setIfInBounds_toArray, List.set_cons_zero, List.set_cons_succ, i64_w, i32_w]
            rfl
           refine pure_ (i := 4) (N := some 22) (v := ?_) (a' := ?_) #[true, true, true, false, true, false, false, false, false] rfl rfl (any_of HT_.out (by kernel_rfl)) (fun _ _ _ h => h) (Or.inl ⟨by rfl, ?_⟩) ?_ ?_
           rotate_left
           ·
            intro w'
            go_simp
            with_reducible rfl
           rotate_left
           ·
            simp only [Act.put, List.setIfInBounds_toArray, List.set_cons_zero, List.set_cons_succ, i64_w, i32_w]
            rfl
           refine pure_ (i := 5) (N := some 23) (v := ?_) (a' := ?_) #[true, true, true, false, true, true, false, false, false] rfl rfl (any_of HT_.out (by kernel_rfl)) (fun _ _ _ h => h) (Or.inl ⟨by rfl, ?_⟩) ?_ ?_
           rotate_left
           ·
            intro w'
            go_simp
            with_reducible rfl
           rotate_left
           ·
            simp only [Act.put, List.setIfInBounds_toArray, List.set_cons_zero, List.set_cons_succ, i64_w, i32_w]
            rfl
           refine take_ (i := 3) (N := some 21) (v := ?_) (a' := ?_) (tb 6 9) rfl rfl (take_ofW HT_.out HW_.out (by kernel_rfl)) (fun _ _ _ h => h) (Or.inl ⟨by rfl, ?_⟩) hHeld ?_ ?_
           rotate_left
           ·
            rintro w' ⟨s0, s1, s2, s3⟩
            go_simp
            with_reducible rfl
           rotate_left
           ·
            simp only [Act.put, List.setIfInBounds_toArray, List.set_cons_zero, List.set_cons_succ, i64_w, i32_w]
            rfl
           refine take_ (i := 6) (N := some 24) (v := ?_) (a' := ?_) (tb 7 9) rfl rfl (take_ofW HT_.out HW_.out (by kernel_rfl)) (fun _ _ _ h => h) (Or.inl ⟨by rfl, ?_⟩) hHeld ?_ ?_
           rotate_left
           ·
            rintro w' ⟨s0, s1, s2, s3⟩
            go_simp
            with_reducible rfl
           rotate_left
           ·
            simp only [Act.put, List.setIfInBounds_toArray, List.set_cons_zero, List.set_cons_succ, i64_w, i32_w]
            rfl
           refine one_ (i := 7) (N := some 25) (tb 8 9) rfl rfl (one_of HT_.out (by kernel_rfl)) (by decide) (fun K hK => ?_)
           refine goesV_ (.tmp 18) Try.func70 (by kernel_rfl) rfl #[.agg #[.int .i64 ((rd_T32 x0_1 0).f0), .int .i64 ((rd_T32 x0_1 0).f1)], .agg #[.int .i64 ((rd_T32 x1_1 0).f0), .int .i64 ((rd_T32 x1_1 0).f1)]] (by rfl) rfl rfl (by rfl) (by (try simp only [List.map_toArray, List.map_cons, List.map_nil]); first | done | rfl | (simp only [List.length_drop, List.length_take]; rfl)) ?_
           with_reducible refine (hll_Merge_1.calls ((rd_T32 x0_1 0).f0) ((rd_T32 x0_1 0).f1) ((rd_T32 x1_1 0).f0) ((rd_T32 x1_1 0).f1) t230 _ A13.out).mono ?_
           rintro e w20 ⟨rfl, hb⟩
           have HS0_ := (hb.cell (World.block_lt_of_cell? _ _ (hHeld.1))).trans (hHeld.1)
           have HS1_ := (hb.cell (World.block_lt_of_cell? _ _ (hHeld.2.1))).trans (hHeld.2.1)
           have HS2_ := (hb.cell (World.block_lt_of_cell? _ _ (hHeld.2.2.1))).trans (hHeld.2.2.1)
           have HS3_ := (hb.cell (World.block_lt_of_cell? _ _ (hHeld.2.2.2))).trans (hHeld.2.2.2)
           refine ⟨_, rfl, ?_⟩
           replace HO_0 := am (Kd.V_below (by (with_reducible repeat (first | apply Kd.V_alloc | apply Kd.V_drewN | apply Kd.V_drew)); exact HO_0.out) hb); replace HO_1 := am (Kd.V_below (by (with_reducible repeat (first | apply Kd.V_alloc | apply Kd.V_drewN | apply Kd.V_drew)); exact HO_1.out) hb); replace HO_8 := rb HO_8 hb; replace HB := am (below_step (hu HB.out) hb)
           (try clear hb)
           (try clear hb2)
           (try clear hk)
           (try clear hi)
           refine hK.out _ _ ⟨HS0_, HS1_, HS2_, HS3_⟩ (fun hHeld => ?_)
           clear hK K
           refine norm_ (a' := ?_) ?_ ?_
           rotate_left
           ·
            show Act.put _ (some 25) _ = _
            simp only [Act.put, List.setIfInBounds_toArray, List.set_cons_zero, List.set_cons_succ, i64_w, i32_w]
            rfl
           refine pure_ (i := 8) (N := some 9) (v := ?_) (a' := ?_) (tb 9 9) rfl rfl (any_of HT_.out (by kernel_rfl)) (fun _ _ _ h => h) (Or.inl ⟨by rfl, ?_⟩) ?_ ?_
           rotate_left
           ·
            intro w'
            go_simp
            with_reducible rfl
           rotate_left
           ·
            simp only [Act.put, List.setIfInBounds_toArray, List.set_cons_zero, List.set_cons_succ, i64_w, i32_w]
            rfl
           refine done_ (done_of HT_.out (by kernel_rfl)) ?_
           try go_wp2
           replace HO_0 := am (Kd.V_drew HO_0.out); replace HO_1 := am (Kd.V_drew HO_1.out); replace HO_8 := am (Kd.R_drew HO_8.out); replace HB := am (below_drew1 HB.out)
           have p231 : 0 ≤ (0 : Int) := (by omega)
           have q231 : 0 < (x0_1.length : Int) := of_decide_eq_true (by first | (with_reducible assumption) | assumption)
           obtain ⟨ad231, e231, hx231_0, hx231_1⟩ := at_T32 (Kd.V_reads' HO_0.out).2.2 0 p231 q231
           obtain rfl : ad228 = ad231 := (by injection e231)
           have qi231 : (0 < x0_1.length) = True := eq_true (by omega)
           (try rw [show ((0 : Int)).toNat = 0 from rfl] at hx231_0)
           (try rw [show 0 * 2 = 0 from rfl] at hx231_0)
           (try rw [Addr.add_zero'] at hx231_0)
           (try rw [show ((0 : Int)).toNat = 0 from rfl] at hx231_1)
           (try rw [show 0 * 2 = 0 from rfl] at hx231_1)
           (try rw [Addr.add_zero'] at hx231_1)
           replace p231 := eq_true p231
           replace q231 := eq_true q231
           have q22 : (1 : Int) ≤ ((x0_1.length : Int) : Int) := of_decide_eq_true (by first | (with_reducible assumption) | assumption)
           obtain ⟨i022, hi022, _, hsz22, _⟩ := info_parts info32
           have hroom22 : x0_1.length ≤ co18 := (Kd.V_reads' HO_0.out).2.1
           have hC22 : Kd.F k32 _ _ (some ad228) x0_1.length x0_1 := (Kd.V_at (base := w.heap.size) HO_0.out).2.2
           have hcut22 := cut_from (P := Try.prog) 28 32 .i64 Try.underlying28 hi022 2 hsz22 (some ad228) x0_1.length co18 1 (by omega) q22
           have hr22 := Kd.F_cut (m := (1 : Int).toNat) (c := co18) hC22 (by omega) hroom22
           obtain ⟨A22, hA22⟩ : ∃ A1, A1 = (if co18 = (1 : Int).toNat then (some ad228) else ((some ad228) : Option Addr).map (·.add ((1 : Int).toNat * 2))) := ⟨_, rfl⟩
           obtain ⟨c22, hc22⟩ : ∃ c1, c1 = co18 - (1 : Int).toNat := ⟨_, rfl⟩
           have hy22 : y235.length = x0_1.length - (1 : Int).toNat := (by rw [Ny235.out, List.length_drop] <;> omega)
           rw [show (x0_1).drop (1 : Int).toNat = y235 from Ny235.out.symm] at hr22
           replace hr22 : Kd.F k32 _ _ A22 y235.length y235 := (by rw [hA22]; exact hr22)
           rw [← hy22, ← hA22, ← hc22] at hcut22
           have HO239 := am (show Kd.V k32 32 _ w.heap.size _ (.slice A22 y235.length c22) y235 from Kd.V_mk (by rw [hy22, hc22]; exact Nat.sub_le_sub_right hroom22 _) hr22)
           have HC239 := am (show y235.length ≤ c22 from by rw [hy22, hc22]; exact Nat.sub_le_sub_right hroom22 _)
           clear hr22 hC22 hroom22 hi022 hsz22 hc22
           have KY22 := Aside0.mk hy22; have KA22 := Aside0.mk hA22
           clear hy22 hA22
           replace q22 := eq_true q22
           refine start_ (n := 10) (S := fun w' => w'.cell? ad228 = some (.int .i64 ((rd_T32 x0_1 0).f0)) ∧ w'.cell? ⟨ad228.block, ad228.off + 1, none⟩ = some (.int .i64 ((rd_T32 x0_1 0).f1))) (ds := [4, 5]) (tb 0 10) (by kernel_rfl) rfl rfl ⟨hx231_0, hx231_1⟩ (fun hHeld => ?_); refine with_tabW api_Reg_69.tab5 api_Reg_69.bits5 (fun HT_ HW_ => ?_)
           generalize w20.drew = w21 at HO_0 HO_1 HO_8 HB HO239 hx231_0 hx231_1 hHeld ⊢
           refine pure_ (i := 0) (N := some 44) (v := ?_) (a' := ?_) (tb 1 10) rfl rfl (any_of HT_.out (by kernel_rfl)) (fun _ _ _ h => h) (Or.inl ⟨by rfl, ?_⟩) ?_ ?_
           rotate_left
           ·
            intro w'
            go_simp
            with_reducible rfl
           rotate_left
           ·
            simp only [Act.put, List.setIfInBounds_toArray, List.set_cons_zero, List.set_cons_succ, i64_w, i32_w]
            rfl
           refine pure_ (i := 1) (N := some 45) (v := ?_) (a' := ?_) (tb 2 10) rfl rfl (any_of HT_.out (by kernel_rfl)) (fun _ _ _ h => h) (Or.inl ⟨by rfl, ?_⟩) ?_ ?_
           rotate_left
           ·
            intro w'
            go_simp
            with_reducible rfl
           rotate_left
           ·
            simp only [Act.put, List.setIfInBounds_toArray, List.set_cons_zero, List.set_cons_succ, i64_w, i32_w]
            rfl
           refine pure_ (i := 2) (N := some 46) (v := ?_) (a' := ?_) (tb 3 10) rfl rfl (any_of HT_.out (by kernel_rfl)) (fun _ _ _ h => h) (Or.inl ⟨by rfl, ?_⟩) ?_ ?_
           rotate_left
           ·
            intro w'
            go_simp
            with_reducible rfl
           rotate_left
           ·
            simp only [Act.put, List.setIfInBounds_toArray, List.set_cons_zero, List.set_cons_succ, i64_w, i32_w]
            rfl
           refine pure_ (i := 6) (N := some 50) (v := ?_) (a' := ?_) #[true, true, true, false, false, false, true, false, false, false] rfl rfl (any_of HT_.out (by kernel_rfl)) (fun _ _ _ h => h) (Or.inl ⟨by rfl, ?_⟩) ?_ ?_
           rotate_left
           ·
            intro w'
            go_simp
            with_reducible rfl
           rotate_left
           ·
            simp only [Act.put, List.setIfInBounds_toArray, List.set_cons_zero, List.set_cons_succ, i64_w, i32_w]
            rfl
           refine pure_ (i := 7) (N := some 51) (v := ?_) (a' := ?_) #[true, true, true, false, false, false, true, true, false, false] rfl rfl (any_of HT_.out (by kernel_rfl)) (fun _ _ _ h => h) (Or.inl ⟨by rfl, ?_⟩) ?_ ?_
           rotate_left
           ·
            intro w'
            go_simp
            with_reducible rfl
           rotate_left
           ·
            simp only [Act.put, List.setIfInBounds_toArray, List.set_cons_zero, List.set_cons_succ, i64_w, i32_w]
            rfl
           refine take_ (i := 3) (N := some 47) (v := ?_) (a' := ?_) #[true, true, true, true, false, false, true, true, false, false] rfl rfl (take_ofW HT_.out HW_.out (by kernel_rfl)) (fun _ _ _ h => h) (Or.inl ⟨by rfl, ?_⟩) hHeld ?_ ?_
           rotate_left
           ·
            rintro w' ⟨s0, s1⟩
            go_simp
            with_reducible rfl
           rotate_left
           ·
            simp only [Act.put, List.setIfInBounds_toArray, List.set_cons_zero, List.set_cons_succ, i64_w, i32_w]
            rfl
           refine last_ (i := 4) (N := some 48) #[true, true, true, true, true, false, true, true, false, false] rfl rfl (one_of HT_.out (by kernel_rfl)) (by decide) (fun K hK => ?_)
           refine value_ (w1 := ?_) (v := ?_) (by rfl) rfl ?_ ?_
           rotate_left 2
           ·
            go_simp
            constructor
            ·
             rfl
            ·
             rfl
           refine hK.out _ _ ?_
           clear hK K
           refine norm_ (a' := ?_) ?_ ?_
           rotate_left
           ·
            show Act.put _ (some 48) _ = _
            simp only [Act.put, List.setIfInBounds_toArray, List.set_cons_zero, List.set_cons_succ, i64_w, i32_w]
            rfl
           refine last_ (i := 5) (N := some 49) (tb 8 10) rfl rfl (one_of HT_.out (by kernel_rfl)) (by decide) (fun K hK => ?_)
           refine Kd.R_append_step k32 (w0 := w) w.heap.size (by rfl) (.tmp 44) (.tmp 48) 28 32 (.agg #[(.int .i64 0), (.int .i64 0)]) 16 rfl Try.underlying28 info32 rfl (by decide) (by omega) u8 x8_1 (⟨(rd_T32 x0_1 0).f0, (rd_T32 x0_1 0).f1⟩ : S32) [.int .i64 ((rd_T32 x0_1 0).f0), .int .i64 ((rd_T32 x0_1 0).f1)] (fun k_ => (w.heap.size ≤ k_)) (fun _ => False) rfl rfl ?aP (fun _ hk => hk.elim) ?aF ?aO ?aB ?aS ?aL ?_
           (case aP => exact k32_mkM _ _ _ (⟨(rd_T32 x0_1 0).f0, (rd_T32 x0_1 0).f1⟩ : S32))
           (case aB => exact (hu HB.out))
           (case aF => exact (fun k_ hk => (Nat.le_trans (below_size (hu HB.out)) hk)))
           (case aO => exact (ru (HO_8.out)))
           (case aS => exact (below_size (hu HB.out)))
           (case aL => have := LMc15.out; omega)
           intro v233 w23 ho hb hg hat
           rw [← Ny232.out] at ho
           have HO234 := am (ho); replace HO_0 := am (Kd.V_afterv (ok := (fun k_ => ((P0_ k_ ∨ P1_ k_) ∨ w.heap.size ≤ k_))) (by (with_reducible repeat (first | apply Kd.V_alloc | apply Kd.V_drewN | apply Kd.V_drew)); exact HO_0.out) hg hat); replace HO_1 := am (Kd.V_afterv (ok := (fun k_ => ((P0_ k_ ∨ P1_ k_) ∨ w.heap.size ≤ k_))) (by (with_reducible repeat (first | apply Kd.V_alloc | apply Kd.V_drewN | apply Kd.V_drew)); exact HO_1.out) hg hat); replace HO239 := am (Kd.V_afterv (ok := (fun k_ => ((P0_ k_ ∨ P1_ k_) ∨ w.heap.size ≤ k_))) (by (with_reducible repeat (first | apply Kd.V_alloc | apply Kd.V_drewN | apply Kd.V_drew)); exact HO239.out) hg hat); replace HB := am (hb); clear HO_8
           clear ho hb hg hat
           refine hK.out _ _ ?_
           clear hK K
           refine norm_ (a' := ?_) ?_ ?_
           rotate_left
           ·
            show Act.put _ (some 49) _ = _
            simp only [Act.put, List.setIfInBounds_toArray, List.set_cons_zero, List.set_cons_succ, i64_w, i32_w]
            rfl
           refine pure_ (i := 8) (N := some 8) (v := ?_) (a' := ?_) (tb 9 10) rfl rfl (any_of HT_.out (by kernel_rfl)) (fun _ _ _ h => h) (Or.inl ⟨by rfl, ?_⟩) ?_ ?_
           rotate_left
           ·
            intro w'
            go_simp
            with_reducible rfl
           rotate_left
           ·
            simp only [Act.put, List.setIfInBounds_toArray, List.set_cons_zero, List.set_cons_succ, i64_w, i32_w]
            rfl
           refine pure_ (i := 9) (N := some 0) (v := ?_) (a' := ?_) (tb 10 10) rfl rfl (any_of HT_.out (by kernel_rfl)) (fun _ _ _ h => h) (Or.inl ⟨by rfl, ?_⟩) ?_ ?_
           rotate_left
           ·
            intro w'
            go_simp
            with_reducible rfl
           rotate_left
           ·
            simp only [Act.put, List.setIfInBounds_toArray, List.set_cons_zero, List.set_cons_succ, i64_w, i32_w]
            rfl
           refine done_ (done_of HT_.out (by kernel_rfl)) ?_
           try go_wp2
           go_roundg kj4
           case measure => have := HK1.out; have := HJ4.out; omega
           case rel => exact ⟨(y235), (x1_1), (y232), H', ⟨by have := HK1.out; have := HJ4.out; omega⟩, ⟨by (with_reducible repeat (first | apply Kd.V_alloc | apply Kd.V_drewN | apply Kd.V_drew)); exact HO239.out⟩, ⟨by (with_reducible repeat (first | apply Kd.V_alloc | apply Kd.V_drewN | apply Kd.V_drew)); exact HO_1.out⟩, ⟨ru HO234.out⟩, ⟨by repeat (first | (with_reducible first | exact HB.out | apply below_alloc | apply pw_below_drewN | apply below_drew1) | exact HB.out)⟩⟩
          ·
           rw [if_neg c16] at H
           exact absurd H (by simp)
         ·
          rw [if_neg c15] at H
          exact absurd H (by simp)
        ·
         rw [if_neg c14] at H
         have c14b0 : decide (t230 < 0) = false := decide_eq_false c14
         clear c14
         by_cases c24 : t230 > 0
         ·
          rw [if_pos c24] at H
          have c24b0 : decide (0 < t230) = true := decide_eq_true c24
          clear c24
          by_cases c25 : x8_1.length < 8796093022208
          ·
           rw [if_pos c25] at H
           have LMc25 := Aside0.mk c25
           clear c25
           obtain ⟨y241, hy241⟩ : ∃ y_ : List (S32), y_ = (x8_1 ++ [(⟨(rd_T32 x1_1 0).f0, (rd_T32 x1_1 0).f1⟩ : S32)]) := ⟨_, rfl⟩
           replace H : (if 1 ≤ (x1_1.length : Int) then (api_Reg_69.l0 kj4 x0_1 (x1_1.drop 1) y241) else (none)) = some r := by first | (rw [hy241]; with_reducible exact H) | (have H2_ := (Option.bind_some _ _).symm.trans H; rw [hy241]; with_reducible exact H2_) | (have H2_ := (Option.bind_some _ _).symm.trans H; with_reducible exact H2_) | with_reducible exact H | (rw [hy241]; exact H) | exact H
           have Ny241 := Aside0.mk hy241
           clear hy241
           by_cases c26 : 1 ≤ (x1_1.length : Int)
           ·
            rw [if_pos c26] at H
            have c26b0 := eq_true c26
            have c26b1 : decide (1 ≤ (x1_1.length : Int)) = true := decide_eq_true c26
            clear c26
            obtain ⟨y244, hy244⟩ : ∃ y_ : List (S32), y_ = (x1_1.drop 1) := ⟨_, rfl⟩
            replace H : (api_Reg_69.l0 kj4 x0_1 y244 y241) = some r := by first | (rw [hy244]; with_reducible exact H) | (have H2_ := (Option.bind_some _ _).symm.trans H; rw [hy244]; with_reducible exact H2_) | (have H2_ := (Option.bind_some _ _).symm.trans H; with_reducible exact H2_) | with_reducible exact H | (rw [hy244]; exact H) | exact H
            have Ny244 := Aside0.mk hy244
            clear hy244
            have H' := Aside0.mk H
            clear H
            try go_wp2
            replace HO_0 := am (Kd.V_drew HO_0.out); replace HO_1 := am (Kd.V_drew HO_1.out); replace HO_8 := am (Kd.R_drew HO_8.out); replace HB := am (below_drew1 HB.out)
            obtain ⟨Ao28, co28, eo28⟩ := Kd.V_slice HO_0.out
            (first | subst eo28 | (injection eo28 with f1_ f2_ f3_; have f4_ := f1_.symm; have f5_ := f3_.symm; clear f1_ f2_ f3_; subst f4_; subst f5_))
            have p228 : 0 ≤ (0 : Int) := (by omega)
            have q228 : 0 < (x0_1.length : Int) := of_decide_eq_true (by first | (with_reducible assumption) | assumption)
            obtain ⟨ad228, e228, hx228_0, hx228_1⟩ := at_T32 (Kd.V_reads' HO_0.out).2.2 0 p228 q228
            cases e228
            have qi228 : (0 < x0_1.length) = True := eq_true (by omega)
            (try rw [show ((0 : Int)).toNat = 0 from rfl] at hx228_0)
            (try rw [show 0 * 2 = 0 from rfl] at hx228_0)
            (try rw [Addr.add_zero'] at hx228_0)
            (try rw [show ((0 : Int)).toNat = 0 from rfl] at hx228_1)
            (try rw [show 0 * 2 = 0 from rfl] at hx228_1)
            (try rw [Addr.add_zero'] at hx228_1)
            replace p228 := eq_true p228
            replace q228 := eq_true q228
            obtain ⟨Ao29, co29, eo29⟩ := Kd.V_slice HO_1.out
            (first | subst eo29 | (injection eo29 with f1_ f2_ f3_; have f4_ := f1_.symm; have f5_ := f3_.symm; clear f1_ f2_ f3_; subst f4_; subst f5_))
            have p229 : 0 ≤ (0 : Int) := (by omega)
            have q229 : 0 < (x1_1.length : Int) := of_decide_eq_true (by first | (with_reducible assumption) | assumption)
            obtain ⟨ad229, e229, hx229_0, hx229_1⟩ := at_T32 (Kd.V_reads' HO_1.out).2.2 0 p229 q229
            cases e229
            have qi229 : (0 < x1_1.length) = True := eq_true (by omega)
            (try rw [show ((0 : Int)).toNat = 0 from rfl] at hx229_0)
            (try rw [show 0 * 2 = 0 from rfl] at hx229_0)
            (try rw [Addr.add_zero'] at hx229_0)
            (try rw [show ((0 : Int)).toNat = 0 from rfl] at hx229_1)
            (try rw [show 0 * 2 = 0 from rfl] at hx229_1)
            (try rw [Addr.add_zero'] at hx229_1)
            replace p229 := eq_true p229
            replace q229 := eq_true q229
            refine start_ (n := 9) (S := fun w' => w'.cell? ad228 = some (.int .i64 ((rd_T32 x0_1 0).f0)) ∧ w'.cell? ⟨ad228.block, ad228.off + 1, none⟩ = some (.int .i64 ((rd_T32 x0_1 0).f1)) ∧ w'.cell? ad229 = some (.int .i64 ((rd_T32 x1_1 0).f0)) ∧ w'.cell? ⟨ad229.block, ad229.off + 1, none⟩ = some (.int .i64 ((rd_T32 x1_1 0).f1))) (ds := []) (tb 0 9) (by kernel_rfl) rfl rfl ⟨hx228_0, hx228_1, hx229_0, hx229_1⟩ (fun hHeld => ?_); refine with_tabW api_Reg_69.tab2 api_Reg_69.bits2 (fun HT_ HW_ => ?_)
            generalize wc.drew = w27 at HO_0 HO_1 HO_8 HB hx228_0 hx228_1 hx229_0 hx229_1 hHeld ⊢
            refine pure_ (i := 0) (N := some 18) (v := ?_) (a' := ?_) (tb 1 9) rfl rfl (any_of HT_.out (by kernel_rfl)) (fun _ _ _ h => h) (Or.inl ⟨by rfl, ?_⟩) ?_ ?_
            rotate_left
            ·
             intro w'
             go_simp
             with_reducible rfl
            rotate_left
            ·
             simp only [Act.put, List.setIfInBounds_toArray, List.set_cons_zero, List.set_cons_succ, i64_w, i32_w]
             rfl
            refine pure_ (i := 1) (N := some 19) (v := ?_) (a' := ?_) (tb 2 9) rfl rfl (any_of HT_.out (by kernel_rfl)) (fun _ _ _ h => h) (Or.inl ⟨by rfl, ?_⟩) ?_ ?_
            rotate_left
            ·
             intro w'
             go_simp
             with_reducible rfl
            rotate_left
            ·
             simp only [Act.put, List.setIfInBounds_toArray, List.set_cons_zero, List.set_cons_succ, i64_w, i32_w]
             rfl
            refine pure_ (i := 2) (N := some 20) (v := ?_) (a' := ?_) (tb 3 9) rfl rfl (any_of HT_.out (by kernel_rfl)) (fun _ _ _ h => h) (Or.inl ⟨by rfl, ?_⟩) ?_ ?_
            rotate_left
            ·
             intro w'
             go_simp
             with_reducible rfl
            rotate_left
            ·
             simp only [Act.put, List.setIfInBounds_toArray, List.set_cons_zero, List.set_cons_succ, i64_w, i32_w]
             rfl
            refine pure_ (i := 4) (N := some 22) (v := ?_) (a' := ?_) #[true, true, true, false, true, false, false, false, false] rfl rfl (any_of HT_.out (by kernel_rfl)) (fun _ _ _ h => h) (Or.inl ⟨by rfl, ?_⟩) ?_ ?_
            rotate_left
            ·
             intro w'
             go_simp
             with_reducible rfl
            rotate_left
            ·
             simp only [Act.put, List.setIfInBounds_toArray, List.set_cons_zero, List.set_cons_succ, i64_w, i32_w]
             rfl
            refine pure_ (i := 5) (N := some 23) (v := ?_) (a' := ?_) #[true, true, true, false, true, true, false, false, false] rfl rfl (any_of HT_.out (by kernel_rfl)) (fun _ _ _ h => h) (Or.inl ⟨by rfl, ?_⟩) ?_ ?_
            rotate_left
            ·
             intro w'
             go_simp
             with_reducible rfl
            rotate_left
            ·
             simp only [Act.put, List.setIfInBounds_toArray, List.set_cons_zero, List.set_cons_succ, i64_w, i32_w]
             rfl
            refine take_ (i := 3) (N := some 21) (v := ?_) (a' := ?_) (tb 6 9) rfl rfl (take_ofW HT_.out HW_.out (by kernel_rfl)) (fun _ _ _ h => h) (Or.inl ⟨by rfl, ?_⟩) hHeld ?_ ?_
            rotate_left
            ·
             rintro w' ⟨s0, s1, s2, s3⟩
             go_simp
             with_reducible rfl
            rotate_left
            ·
             simp only [Act.put, List.setIfInBounds_toArray, List.set_cons_zero, List.set_cons_succ, i64_w, i32_w]
             rfl
            refine take_ (i := 6) (N := some 24) (v := ?_) (a' := ?_) (tb 7 9) rfl rfl (take_ofW HT_.out HW_.out (by kernel_rfl)) (fun _ _ _ h => h) (Or.inl ⟨by rfl, ?_⟩) hHeld ?_ ?_
            rotate_left
            ·
             rintro w' ⟨s0, s1, s2, s3⟩
             go_simp
             with_reducible rfl
            rotate_left
            ·
             simp only [Act.put, List.setIfInBounds_toArray, List.set_cons_zero, List.set_cons_succ, i64_w, i32_w]
             rfl
            refine one_ (i := 7) (N := some 25) (tb 8 9) rfl rfl (one_of HT_.out (by kernel_rfl)) (by decide) (fun K hK => ?_)
            refine goesV_ (.tmp 18) Try.func70 (by kernel_rfl) rfl #[.agg #[.int .i64 ((rd_T32 x0_1 0).f0), .int .i64 ((rd_T32 x0_1 0).f1)], .agg #[.int .i64 ((rd_T32 x1_1 0).f0), .int .i64 ((rd_T32 x1_1 0).f1)]] (by rfl) rfl rfl (by rfl) (by (try simp only [List.map_toArray, List.map_cons, List.map_nil]); first | done | rfl | (simp only [List.length_drop, List.length_take]; rfl)) ?_
            with_reducible refine (hll_Merge_1.calls ((rd_T32 x0_1 0).f0) ((rd_T32 x0_1 0).f1) ((rd_T32 x1_1 0).f0) ((rd_T32 x1_1 0).f1) t230 _ A13.out).mono ?_
            rintro e w30 ⟨rfl, hb⟩
            have HS0_ := (hb.cell (World.block_lt_of_cell? _ _ (hHeld.1))).trans (hHeld.1)
            have HS1_ := (hb.cell (World.block_lt_of_cell? _ _ (hHeld.2.1))).trans (hHeld.2.1)
            have HS2_ := (hb.cell (World.block_lt_of_cell? _ _ (hHeld.2.2.1))).trans (hHeld.2.2.1)
            have HS3_ := (hb.cell (World.block_lt_of_cell? _ _ (hHeld.2.2.2))).trans (hHeld.2.2.2)
            refine ⟨_, rfl, ?_⟩
            replace HO_0 := am (Kd.V_below (by (with_reducible repeat (first | apply Kd.V_alloc | apply Kd.V_drewN | apply Kd.V_drew)); exact HO_0.out) hb); replace HO_1 := am (Kd.V_below (by (with_reducible repeat (first | apply Kd.V_alloc | apply Kd.V_drewN | apply Kd.V_drew)); exact HO_1.out) hb); replace HO_8 := rb HO_8 hb; replace HB := am (below_step (hu HB.out) hb)
            (try clear hb)
            (try clear hb2)
            (try clear hk)
            (try clear hi)
            refine hK.out _ _ ⟨HS0_, HS1_, HS2_, HS3_⟩ (fun hHeld => ?_)
            clear hK K
            refine norm_ (a' := ?_) ?_ ?_
            rotate_left
            ·
             show Act.put _ (some 25) _ = _
             simp only [Act.put, List.setIfInBounds_toArray, List.set_cons_zero, List.set_cons_succ, i64_w, i32_w]
             rfl
            refine pure_ (i := 8) (N := some 9) (v := ?_) (a' := ?_) (tb 9 9) rfl rfl (any_of HT_.out (by kernel_rfl)) (fun _ _ _ h => h) (Or.inl ⟨by rfl, ?_⟩) ?_ ?_
            rotate_left
            ·
             intro w'
             go_simp
             with_reducible rfl
            rotate_left
            ·
             simp only [Act.put, List.setIfInBounds_toArray, List.set_cons_zero, List.set_cons_succ, i64_w, i32_w]
             rfl
            refine done_ (done_of HT_.out (by kernel_rfl)) ?_
            try go_wp2
            replace HO_0 := am (Kd.V_drew HO_0.out); replace HO_1 := am (Kd.V_drew HO_1.out); replace HO_8 := am (Kd.R_drew HO_8.out); replace HB := am (below_drew1 HB.out)
            have p240 : 0 ≤ (0 : Int) := (by omega)
            have q240 : 0 < (x1_1.length : Int) := of_decide_eq_true (by first | (with_reducible assumption) | assumption)
            obtain ⟨ad240, e240, hx240_0, hx240_1⟩ := at_T32 (Kd.V_reads' HO_1.out).2.2 0 p240 q240
            obtain rfl : ad229 = ad240 := (by injection e240)
            have qi240 : (0 < x1_1.length) = True := eq_true (by omega)
            (try rw [show ((0 : Int)).toNat = 0 from rfl] at hx240_0)
            (try rw [show 0 * 2 = 0 from rfl] at hx240_0)
            (try rw [Addr.add_zero'] at hx240_0)
            (try rw [show ((0 : Int)).toNat = 0 from rfl] at hx240_1)
            (try rw [show 0 * 2 = 0 from rfl] at hx240_1)
            (try rw [Addr.add_zero'] at hx240_1)
            replace p240 := eq_true p240
            replace q240 := eq_true q240
            have q32 : (1 : Int) ≤ ((x1_1.length : Int) : Int) := of_decide_eq_true (by first | (with_reducible assumption) | assumption)
            obtain ⟨i032, hi032, _, hsz32, _⟩ := info_parts info32
            have hroom32 : x1_1.length ≤ co29 := (Kd.V_reads' HO_1.out).2.1
            have hC32 : Kd.F k32 _ _ (some ad229) x1_1.length x1_1 := (Kd.V_at (base := w.heap.size) HO_1.out).2.2
            have hcut32 := cut_from (P := Try.prog) 28 32 .i64 Try.underlying28 hi032 2 hsz32 (some ad229) x1_1.length co29 1 (by omega) q32
            have hr32 := Kd.F_cut (m := (1 : Int).toNat) (c := co29) hC32 (by omega) hroom32
            obtain ⟨A32, hA32⟩ : ∃ A1, A1 = (if co29 = (1 : Int).toNat then (some ad229) else ((some ad229) : Option Addr).map (·.add ((1 : Int).toNat * 2))) := ⟨_, rfl⟩
            obtain ⟨c32, hc32⟩ : ∃ c1, c1 = co29 - (1 : Int).toNat := ⟨_, rfl⟩
            have hy32 : y244.length = x1_1.length - (1 : Int).toNat := (by rw [Ny244.out, List.length_drop] <;> omega)
            rw [show (x1_1).drop (1 : Int).toNat = y244 from Ny244.out.symm] at hr32
            replace hr32 : Kd.F k32 _ _ A32 y244.length y244 := (by rw [hA32]; exact hr32)
            rw [← hy32, ← hA32, ← hc32] at hcut32
            have HO248 := am (show Kd.V k32 32 _ w.heap.size _ (.slice A32 y244.length c32) y244 from Kd.V_mk (by rw [hy32, hc32]; exact Nat.sub_le_sub_right hroom32 _) hr32)
            have HC248 := am (show y244.length ≤ c32 from by rw [hy32, hc32]; exact Nat.sub_le_sub_right hroom32 _)
            clear hr32 hC32 hroom32 hi032 hsz32 hc32
            have KY32 := Aside0.mk hy32; have KA32 := Aside0.mk hA32
            clear hy32 hA32
            replace q32 := eq_true q32
            refine start_ (n := 10) (S := fun w' => w'.cell? ad229 = some (.int .i64 ((rd_T32 x1_1 0).f0)) ∧ w'.cell? ⟨ad229.block, ad229.off + 1, none⟩ = some (.int .i64 ((rd_T32 x1_1 0).f1))) (ds := [4, 5]) (tb 0 10) (by kernel_rfl) rfl rfl ⟨hx240_0, hx240_1⟩ (fun hHeld => ?_); refine with_tabW api_Reg_69.tab7 api_Reg_69.bits7 (fun HT_ HW_ => ?_)
            generalize w30.drew = w31 at HO_0 HO_1 HO_8 HB HO248 hx240_0 hx240_1 hHeld ⊢
            refine pure_ (i := 0) (N := some 55) (v := ?_) (a' := ?_) (tb 1 10) rfl rfl (any_of HT_.out (by kernel_rfl)) (fun _ _ _ h => h) (Or.inl ⟨by rfl, ?_⟩) ?_ ?_
            rotate_left
            ·
             intro w'
             go_simp
             with_reducible rfl
            rotate_left
            ·
             simp only [Act.put, List.setIfInBounds_toArray, List.set_cons_zero, List.set_cons_succ, i64_w, i32_w]
             rfl
            refine pure_ (i := 1) (N := some 56) (v := ?_) (a' := ?_) (tb 2 10) rfl rfl (any_of HT_.out (by kernel_rfl)) (fun _ _ _ h => h) (Or.inl ⟨by rfl, ?_⟩) ?_ ?_
            rotate_left
            ·
             intro w'
             go_simp
             with_reducible rfl
            rotate_left
            ·
             simp only [Act.put, List.setIfInBounds_toArray, List.set_cons_zero, List.set_cons_succ, i64_w, i32_w]
             rfl
            refine pure_ (i := 2) (N := some 57) (v := ?_) (a' := ?_) (tb 3 10) rfl rfl (any_of HT_.out (by kernel_rfl)) (fun _ _ _ h => h) (Or.inl ⟨by rfl, ?_⟩) ?_ ?_
            rotate_left
            ·
             intro w'
             go_simp
             with_reducible rfl
            rotate_left
            ·
             simp only [Act.put, List.setIfInBounds_toArray, List.set_cons_zero, List.set_cons_succ, i64_w, i32_w]
             rfl
            refine pure_ (i := 6) (N := some 61) (v := ?_) (a' := ?_) #[true, true, true, false, false, false, true, false, false, false] rfl rfl (any_of HT_.out (by kernel_rfl)) (fun _ _ _ h => h) (Or.inl ⟨by rfl, ?_⟩) ?_ ?_
            rotate_left
            ·
             intro w'
             go_simp
             with_reducible rfl
            rotate_left
            ·
             simp only [Act.put, List.setIfInBounds_toArray, List.set_cons_zero, List.set_cons_succ, i64_w, i32_w]
             rfl
            refine pure_ (i := 7) (N := some 62) (v := ?_) (a' := ?_) #[true, true, true, false, false, false, true, true, false, false] rfl rfl (any_of HT_.out (by kernel_rfl)) (fun _ _ _ h => h) (Or.inl ⟨by rfl, ?_⟩) ?_ ?_
            rotate_left
            ·
             intro w'
             go_simp
             with_reducible rfl
            rotate_left
            ·
             simp only [Act.put, List.setIfInBounds_toArray, List.set_cons_zero, List.set_cons_succ, i64_w, i32_w]
             rfl
            refine take_ (i := 3) (N := some 58) (v := ?_) (a' := ?_) #[true, true, true, true, false, false, true, true, false, false] rfl rfl (take_ofW HT_.out HW_.out (by kernel_rfl)) (fun _ _ _ h => h) (Or.inl ⟨by rfl, ?_⟩) hHeld ?_ ?_
            rotate_left
            ·
             rintro w' ⟨s0, s1⟩
             go_simp
             with_reducible rfl
            rotate_left
            ·
             simp only [Act.put, List.setIfInBounds_toArray, List.set_cons_zero, List.set_cons_succ, i64_w, i32_w]
             rfl
            refine last_ (i := 4) (N := some 59) #[true, true, true, true, true, false, true, true, false, false] rfl rfl (one_of HT_.out (by kernel_rfl)) (by decide) (fun K hK => ?_)
            refine value_ (w1 := ?_) (v := ?_) (by rfl) rfl ?_ ?_
            rotate_left 2
            ·
             go_simp
             constructor
             ·
              rfl
             ·
              rfl
            refine hK.out _ _ ?_
            clear hK K
            refine norm_ (a' := ?_) ?_ ?_
            rotate_left
            ·
             show Act.put _ (some 59) _ = _
             simp only [Act.put, List.setIfInBounds_toArray, List.set_cons_zero, List.set_cons_succ, i64_w, i32_w]
             rfl
            refine last_ (i := 5) (N := some 60) (tb 8 10) rfl rfl (one_of HT_.out (by kernel_rfl)) (by decide) (fun K hK => ?_)
            refine Kd.R_append_step k32 (w0 := w) w.heap.size (by rfl) (.tmp 55) (.tmp 59) 28 32 (.agg #[(.int .i64 0), (.int .i64 0)]) 16 rfl Try.underlying28 info32 rfl (by decide) (by omega) u8 x8_1 (⟨(rd_T32 x1_1 0).f0, (rd_T32 x1_1 0).f1⟩ : S32) [.int .i64 ((rd_T32 x1_1 0).f0), .int .i64 ((rd_T32 x1_1 0).f1)] (fun k_ => (w.heap.size ≤ k_)) (fun _ => False) rfl rfl ?aP (fun _ hk => hk.elim) ?aF ?aO ?aB ?aS ?aL ?_
            (case aP => exact k32_mkM _ _ _ (⟨(rd_T32 x1_1 0).f0, (rd_T32 x1_1 0).f1⟩ : S32))
            (case aB => exact (hu HB.out))
            (case aF => exact (fun k_ hk => (Nat.le_trans (below_size (hu HB.out)) hk)))
            (case aO => exact (ru (HO_8.out)))
            (case aS => exact (below_size (hu HB.out)))
            (case aL => have := LMc25.out; omega)
            intro v242 w33 ho hb hg hat
            rw [← Ny241.out] at ho
            have HO243 := am (ho); replace HO_0 := am (Kd.V_afterv (ok := (fun k_ => ((P0_ k_ ∨ P1_ k_) ∨ w.heap.size ≤ k_))) (by (with_reducible repeat (first | apply Kd.V_alloc | apply Kd.V_drewN | apply Kd.V_drew)); exact HO_0.out) hg hat); replace HO_1 := am (Kd.V_afterv (ok := (fun k_ => ((P0_ k_ ∨ P1_ k_) ∨ w.heap.size ≤ k_))) (by (with_reducible repeat (first | apply Kd.V_alloc | apply Kd.V_drewN | apply Kd.V_drew)); exact HO_1.out) hg hat); replace HO248 := am (Kd.V_afterv (ok := (fun k_ => ((P0_ k_ ∨ P1_ k_) ∨ w.heap.size ≤ k_))) (by (with_reducible repeat (first | apply Kd.V_alloc | apply Kd.V_drewN | apply Kd.V_drew)); exact HO248.out) hg hat); replace HB := am (hb); clear HO_8
            clear ho hb hg hat
            refine hK.out _ _ ?_
            clear hK K
            refine norm_ (a' := ?_) ?_ ?_
            rotate_left
            ·
             show Act.put _ (some 60) _ = _
             simp only [Act.put, List.setIfInBounds_toArray, List.set_cons_zero, List.set_cons_succ, i64_w, i32_w]
             rfl
            refine pure_ (i := 8) (N := some 8) (v := ?_) (a' := ?_) (tb 9 10) rfl rfl (any_of HT_.out (by kernel_rfl)) (fun _ _ _ h => h) (Or.inl ⟨by rfl, ?_⟩) ?_ ?_
            rotate_left
            ·
             intro w'
             go_simp
             with_reducible rfl
            rotate_left
            ·
             simp only [Act.put, List.setIfInBounds_toArray, List.set_cons_zero, List.set_cons_succ, i64_w, i32_w]
             rfl
            refine pure_ (i := 9) (N := some 1) (v := ?_) (a' := ?_) (tb 10 10) rfl rfl (any_of HT_.out (by kernel_rfl)) (fun _ _ _ h => h) (Or.inl ⟨by rfl, ?_⟩) ?_ ?_
            rotate_left
            ·
             intro w'
             go_simp
             with_reducible rfl
            rotate_left
            ·
             simp only [Act.put, List.setIfInBounds_toArray, List.set_cons_zero, List.set_cons_succ, i64_w, i32_w]
             rfl
            refine done_ (done_of HT_.out (by kernel_rfl)) ?_
            try go_wp2
            go_roundg kj4
            case measure => have := HK1.out; have := HJ4.out; omega
            case rel => exact ⟨(x0_1), (y244), (y241), H', ⟨by have := HK1.out; have := HJ4.out; omega⟩, ⟨by (with_reducible repeat (first | apply Kd.V_alloc | apply Kd.V_drewN | apply Kd.V_drew)); exact HO_0.out⟩, ⟨by (with_reducible repeat (first | apply Kd.V_alloc | apply Kd.V_drewN | apply Kd.V_drew)); exact HO248.out⟩, ⟨ru HO243.out⟩, ⟨by repeat (first | (with_reducible first | exact HB.out | apply below_alloc | apply pw_below_drewN | apply below_drew1) | exact HB.out)⟩⟩
           ·
            rw [if_neg c26] at H
            exact absurd H (by simp)
          ·
           rw [if_neg c25] at H
           exact absurd H (by simp)
         ·
          rw [if_neg c24] at H
          have c24b0 : decide (0 < t230) = false := decide_eq_false c24
          clear c24
          replace H := Option.bind_eq_some_iff.mp H
          obtain ⟨⟨t251, t252⟩, A340, H⟩ := H
          replace H : (if x8_1.length < 8796093022208 then (if 1 ≤ (x0_1.length : Int) then (if 1 ≤ (x1_1.length : Int) then (api_Reg_69.l0 kj4 (x0_1.drop 1) (x1_1.drop 1) (x8_1 ++ [(⟨t251, t252⟩ : S32)])) else (none)) else (none)) else (none)) = some r := H
          have A34 := Aside0.mk A340
          clear A340
          by_cases c35 : x8_1.length < 8796093022208
          ·
           rw [if_pos c35] at H
           have LMc35 := Aside0.mk c35
           clear c35
           obtain ⟨y253, hy253⟩ : ∃ y_ : List (S32), y_ = (x8_1 ++ [(⟨t251, t252⟩ : S32)]) := ⟨_, rfl⟩
           replace H : (if 1 ≤ (x0_1.length : Int) then (if 1 ≤ (x1_1.length : Int) then (api_Reg_69.l0 kj4 (x0_1.drop 1) (x1_1.drop 1) y253) else (none)) else (none)) = some r := by first | (rw [hy253]; with_reducible exact H) | (have H2_ := (Option.bind_some _ _).symm.trans H; rw [hy253]; with_reducible exact H2_) | (have H2_ := (Option.bind_some _ _).symm.trans H; with_reducible exact H2_) | with_reducible exact H | (rw [hy253]; exact H) | exact H
           have Ny253 := Aside0.mk hy253
           clear hy253
           by_cases c36 : 1 ≤ (x0_1.length : Int)
           ·
            rw [if_pos c36] at H
            have c36b0 := eq_true c36
            have c36b1 : decide (1 ≤ (x0_1.length : Int)) = true := decide_eq_true c36
            clear c36
            obtain ⟨y256, hy256⟩ : ∃ y_ : List (S32), y_ = (x0_1.drop 1) := ⟨_, rfl⟩
            replace H : (if 1 ≤ (x1_1.length : Int) then (api_Reg_69.l0 kj4 y256 (x1_1.drop 1) y253) else (none)) = some r := by first | (rw [hy256]; with_reducible exact H) | (have H2_ := (Option.bind_some _ _).symm.trans H; rw [hy256]; with_reducible exact H2_) | (have H2_ := (Option.bind_some _ _).symm.trans H; with_reducible exact H2_) | with_reducible exact H | (rw [hy256]; exact H) | exact H
            have Ny256 := Aside0.mk hy256
            clear hy256
            by_cases c37 : 1 ≤ (x1_1.length : Int)
            ·
             rw [if_pos c37] at H
             have c37b0 := eq_true c37
             have c37b1 : decide (1 ≤ (x1_1.length : Int)) = true := decide_eq_true c37
             clear c37
             obtain ⟨y261, hy261⟩ : ∃ y_ : List (S32), y_ = (x1_1.drop 1) := ⟨_, rfl⟩
             replace H : (api_Reg_69.l0 kj4 y256 y261 y253) = some r := by first | (rw [hy261]; with_reducible exact H) | (have H2_ := (Option.bind_some _ _).symm.trans H; rw [hy261]; with_reducible exact H2_) | (have H2_ := (Option.bind_some _ _).symm.trans H; with_reducible exact H2_) | with_reducible exact H | (rw [hy261]; exact H) | exact H
             have Ny261 := Aside0.mk hy261
             clear hy261
             have H' := Aside0.mk H
             clear H
             try go_wp2
             replace HO_0 := am (Kd.V_drew HO_0.out); replace HO_1 := am (Kd.V_drew HO_1.out); replace HO_8 := am (Kd.R_drew HO_8.out); replace HB := am (below_drew1 HB.out)
             obtain ⟨Ao39, co39, eo39⟩ := Kd.V_slice HO_0.out
             (first | subst eo39 | (injection eo39 with f1_ f2_ f3_; have f4_ := f1_.symm; have f5_ := f3_.symm; clear f1_ f2_ f3_; subst f4_; subst f5_))
             have p228 : 0 ≤ (0 : Int) := (by omega)
             have q228 : 0 < (x0_1.length : Int) := of_decide_eq_true (by first | (with_reducible assumption) | assumption)
             obtain ⟨ad228, e228, hx228_0, hx228_1⟩ := at_T32 (Kd.V_reads' HO_0.out).2.2 0 p228 q228
             cases e228
             have qi228 : (0 < x0_1.length) = True := eq_true (by omega)
             (try rw [show ((0 : Int)).toNat = 0 from rfl] at hx228_0)
             (try rw [show 0 * 2 = 0 from rfl] at hx228_0)
             (try rw [Addr.add_zero'] at hx228_0)
             (try rw [show ((0 : Int)).toNat = 0 from rfl] at hx228_1)
             (try rw [show 0 * 2 = 0 from rfl] at hx228_1)
             (try rw [Addr.add_zero'] at hx228_1)
             replace p228 := eq_true p228
             replace q228 := eq_true q228
             obtain ⟨Ao40, co40, eo40⟩ := Kd.V_slice HO_1.out
             (first | subst eo40 | (injection eo40 with f1_ f2_ f3_; have f4_ := f1_.symm; have f5_ := f3_.symm; clear f1_ f2_ f3_; subst f4_; subst f5_))
             have p229 : 0 ≤ (0 : Int) := (by omega)
             have q229 : 0 < (x1_1.length : Int) := of_decide_eq_true (by first | (with_reducible assumption) | assumption)
             obtain ⟨ad229, e229, hx229_0, hx229_1⟩ := at_T32 (Kd.V_reads' HO_1.out).2.2 0 p229 q229
             cases e229
             have qi229 : (0 < x1_1.length) = True := eq_true (by omega)
             (try rw [show ((0 : Int)).toNat = 0 from rfl] at hx229_0)
             (try rw [show 0 * 2 = 0 from rfl] at hx229_0)
             (try rw [Addr.add_zero'] at hx229_0)
             (try rw [show ((0 : Int)).toNat = 0 from rfl] at hx229_1)
             (try rw [show 0 * 2 = 0 from rfl] at hx229_1)
             (try rw [Addr.add_zero'] at hx229_1)
             replace p229 := eq_true p229
             replace q229 := eq_true q229
             refine start_ (n := 9) (S := fun w' => w'.cell? ad228 = some (.int .i64 ((rd_T32 x0_1 0).f0)) ∧ w'.cell? ⟨ad228.block, ad228.off + 1, none⟩ = some (.int .i64 ((rd_T32 x0_1 0).f1)) ∧ w'.cell? ad229 = some (.int .i64 ((rd_T32 x1_1 0).f0)) ∧ w'.cell? ⟨ad229.block, ad229.off + 1, none⟩ = some (.int .i64 ((rd_T32 x1_1 0).f1))) (ds := []) (tb 0 9) (by kernel_rfl) rfl rfl ⟨hx228_0, hx228_1, hx229_0, hx229_1⟩ (fun hHeld => ?_); refine with_tabW api_Reg_69.tab2 api_Reg_69.bits2 (fun HT_ HW_ => ?_)
             generalize wc.drew = w38 at HO_0 HO_1 HO_8 HB hx228_0 hx228_1 hx229_0 hx229_1 hHeld ⊢
             refine pure_ (i := 0) (N := some 18) (v := ?_) (a' := ?_) (tb 1 9) rfl rfl (any_of HT_.out (by kernel_rfl)) (fun _ _ _ h => h) (Or.inl ⟨by rfl, ?_⟩) ?_ ?_
             rotate_left
             ·
              intro w'
              go_simp
              with_reducible rfl
             rotate_left
             ·
              simp only [Act.put, List.setIfInBounds_toArray, List.set_cons_zero, List.set_cons_succ, i64_w, i32_w]
              rfl
             refine pure_ (i := 1) (N := some 19) (v := ?_) (a' := ?_) (tb 2 9) rfl rfl (any_of HT_.out (by kernel_rfl)) (fun _ _ _ h => h) (Or.inl ⟨by rfl, ?_⟩) ?_ ?_
             rotate_left
             ·
              intro w'
              go_simp
              with_reducible rfl
             rotate_left
             ·
              simp only [Act.put, List.setIfInBounds_toArray, List.set_cons_zero, List.set_cons_succ, i64_w, i32_w]
              rfl
             refine pure_ (i := 2) (N := some 20) (v := ?_) (a' := ?_) (tb 3 9) rfl rfl (any_of HT_.out (by kernel_rfl)) (fun _ _ _ h => h) (Or.inl ⟨by rfl, ?_⟩) ?_ ?_
             rotate_left
             ·
              intro w'
              go_simp
              with_reducible rfl
             rotate_left
             ·
              simp only [Act.put, List.setIfInBounds_toArray, List.set_cons_zero, List.set_cons_succ, i64_w, i32_w]
              rfl
             refine pure_ (i := 4) (N := some 22) (v := ?_) (a' := ?_) #[true, true, true, false, true, false, false, false, false] rfl rfl (any_of HT_.out (by kernel_rfl)) (fun _ _ _ h => h) (Or.inl ⟨by rfl, ?_⟩) ?_ ?_
             rotate_left
             ·
              intro w'
              go_simp
              with_reducible rfl
             rotate_left
             ·
              simp only [Act.put, List.setIfInBounds_toArray, List.set_cons_zero, List.set_cons_succ, i64_w, i32_w]
              rfl
             refine pure_ (i := 5) (N := some 23) (v := ?_) (a' := ?_) #[true, true, true, false, true, true, false, false, false] rfl rfl (any_of HT_.out (by kernel_rfl)) (fun _ _ _ h => h) (Or.inl ⟨by rfl, ?_⟩) ?_ ?_
             rotate_left
             ·
              intro w'
              go_simp
              with_reducible rfl
             rotate_left
             ·
              simp only [Act.put, List.setIfInBounds_toArray, List.set_cons_zero, List.set_cons_succ, i64_w, i32_w]
              rfl
             refine take_ (i := 3) (N := some 21) (v := ?_) (a' := ?_) (tb 6 9) rfl rfl (take_ofW HT_.out HW_.out (by kernel_rfl)) (fun _ _ _ h => h) (Or.inl ⟨by rfl, ?_⟩) hHeld ?_ ?_
             rotate_left
             ·
              rintro w' ⟨s0, s1, s2, s3⟩
              go_simp
              with_reducible rfl
             rotate_left
             ·
              simp only [Act.put, List.setIfInBounds_toArray, List.set_cons_zero, List.set_cons_succ, i64_w, i32_w]
              rfl
             refine take_ (i := 6) (N := some 24) (v := ?_) (a' := ?_) (tb 7 9) rfl rfl (take_ofW HT_.out HW_.out (by kernel_rfl)) (fun _ _ _ h => h) (Or.inl ⟨by rfl, ?_⟩) hHeld ?_ ?_
             rotate_left
             ·
              rintro w' ⟨s0, s1, s2, s3⟩
              go_simp
              with_reducible rfl
             rotate_left
             ·
              simp only [Act.put, List.setIfInBounds_toArray, List.set_cons_zero, List.set_cons_succ, i64_w, i32_w]
              rfl
             refine one_ (i := 7) (N := some 25) (tb 8 9) rfl rfl (one_of HT_.out (by kernel_rfl)) (by decide) (fun K hK => ?_)
             refine goesV_ (.tmp 18) Try.func70 (by kernel_rfl) rfl #[.agg #[.int .i64 ((rd_T32 x0_1 0).f0), .int .i64 ((rd_T32 x0_1 0).f1)], .agg #[.int .i64 ((rd_T32 x1_1 0).f0), .int .i64 ((rd_T32 x1_1 0).f1)]] (by rfl) rfl rfl (by rfl) (by (try simp only [List.map_toArray, List.map_cons, List.map_nil]); first | done | rfl | (simp only [List.length_drop, List.length_take]; rfl)) ?_
             with_reducible refine (hll_Merge_1.calls ((rd_T32 x0_1 0).f0) ((rd_T32 x0_1 0).f1) ((rd_T32 x1_1 0).f0) ((rd_T32 x1_1 0).f1) t230 _ A13.out).mono ?_
             rintro e w41 ⟨rfl, hb⟩
             have HS0_ := (hb.cell (World.block_lt_of_cell? _ _ (hHeld.1))).trans (hHeld.1)
             have HS1_ := (hb.cell (World.block_lt_of_cell? _ _ (hHeld.2.1))).trans (hHeld.2.1)
             have HS2_ := (hb.cell (World.block_lt_of_cell? _ _ (hHeld.2.2.1))).trans (hHeld.2.2.1)
             have HS3_ := (hb.cell (World.block_lt_of_cell? _ _ (hHeld.2.2.2))).trans (hHeld.2.2.2)
             refine ⟨_, rfl, ?_⟩
             replace HO_0 := am (Kd.V_below (by (with_reducible repeat (first | apply Kd.V_alloc | apply Kd.V_drewN | apply Kd.V_drew)); exact HO_0.out) hb); replace HO_1 := am (Kd.V_below (by (with_reducible repeat (first | apply Kd.V_alloc | apply Kd.V_drewN | apply Kd.V_drew)); exact HO_1.out) hb); replace HO_8 := rb HO_8 hb; replace HB := am (below_step (hu HB.out) hb)
             (try clear hb)
             (try clear hb2)
             (try clear hk)
             (try clear hi)
             refine hK.out _ _ ⟨HS0_, HS1_, HS2_, HS3_⟩ (fun hHeld => ?_)
             clear hK K
             refine norm_ (a' := ?_) ?_ ?_
             rotate_left
             ·
              show Act.put _ (some 25) _ = _
              simp only [Act.put, List.setIfInBounds_toArray, List.set_cons_zero, List.set_cons_succ, i64_w, i32_w]
              rfl
             refine pure_ (i := 8) (N := some 9) (v := ?_) (a' := ?_) (tb 9 9) rfl rfl (any_of HT_.out (by kernel_rfl)) (fun _ _ _ h => h) (Or.inl ⟨by rfl, ?_⟩) ?_ ?_
             rotate_left
             ·
              intro w'
              go_simp
              with_reducible rfl
             rotate_left
             ·
              simp only [Act.put, List.setIfInBounds_toArray, List.set_cons_zero, List.set_cons_succ, i64_w, i32_w]
              rfl
             refine done_ (done_of HT_.out (by kernel_rfl)) ?_
             try go_wp2
             replace HO_0 := am (Kd.V_drew HO_0.out); replace HO_1 := am (Kd.V_drew HO_1.out); replace HO_8 := am (Kd.R_drew HO_8.out); replace HB := am (below_drew1 HB.out)
             have p249 : 0 ≤ (0 : Int) := (by omega)
             have q249 : 0 < (x0_1.length : Int) := of_decide_eq_true (by first | (with_reducible assumption) | assumption)
             obtain ⟨ad249, e249, hx249_0, hx249_1⟩ := at_T32 (Kd.V_reads' HO_0.out).2.2 0 p249 q249
             obtain rfl : ad228 = ad249 := (by injection e249)
             have qi249 : (0 < x0_1.length) = True := eq_true (by omega)
             (try rw [show ((0 : Int)).toNat = 0 from rfl] at hx249_0)
             (try rw [show 0 * 2 = 0 from rfl] at hx249_0)
             (try rw [Addr.add_zero'] at hx249_0)
             (try rw [show ((0 : Int)).toNat = 0 from rfl] at hx249_1)
             (try rw [show 0 * 2 = 0 from rfl] at hx249_1)
             (try rw [Addr.add_zero'] at hx249_1)
             replace p249 := eq_true p249
             replace q249 := eq_true q249
             have p250 : 0 ≤ (0 : Int) := (by omega)
             have q250 : 0 < (x1_1.length : Int) := of_decide_eq_true (by first | (with_reducible assumption) | assumption)
             obtain ⟨ad250, e250, hx250_0, hx250_1⟩ := at_T32 (Kd.V_reads' HO_1.out).2.2 0 p250 q250
             obtain rfl : ad229 = ad250 := (by injection e250)
             have qi250 : (0 < x1_1.length) = True := eq_true (by omega)
             (try rw [show ((0 : Int)).toNat = 0 from rfl] at hx250_0)
             (try rw [show 0 * 2 = 0 from rfl] at hx250_0)
             (try rw [Addr.add_zero'] at hx250_0)
             (try rw [show ((0 : Int)).toNat = 0 from rfl] at hx250_1)
             (try rw [show 0 * 2 = 0 from rfl] at hx250_1)
             (try rw [Addr.add_zero'] at hx250_1)
             replace p250 := eq_true p250
             replace q250 := eq_true q250
             have q43 : (1 : Int) ≤ ((x0_1.length : Int) : Int) := of_decide_eq_true (by first | (with_reducible assumption) | assumption)
             obtain ⟨i043, hi043, _, hsz43, _⟩ := info_parts info32
             have hroom43 : x0_1.length ≤ co39 := (Kd.V_reads' HO_0.out).2.1
             have hC43 : Kd.F k32 _ _ (some ad228) x0_1.length x0_1 := (Kd.V_at (base := w.heap.size) HO_0.out).2.2
             have hcut43 := cut_from (P := Try.prog) 28 32 .i64 Try.underlying28 hi043 2 hsz43 (some ad228) x0_1.length co39 1 (by omega) q43
             have hr43 := Kd.F_cut (m := (1 : Int).toNat) (c := co39) hC43 (by omega) hroom43
             obtain ⟨A43, hA43⟩ : ∃ A1, A1 = (if co39 = (1 : Int).toNat then (some ad228) else ((some ad228) : Option Addr).map (·.add ((1 : Int).toNat * 2))) := ⟨_, rfl⟩
             obtain ⟨c43, hc43⟩ : ∃ c1, c1 = co39 - (1 : Int).toNat := ⟨_, rfl⟩
             have hy43 : y256.length = x0_1.length - (1 : Int).toNat := (by rw [Ny256.out, List.length_drop] <;> omega)
             rw [show (x0_1).drop (1 : Int).toNat = y256 from Ny256.out.symm] at hr43
             replace hr43 : Kd.F k32 _ _ A43 y256.length y256 := (by rw [hA43]; exact hr43)
             rw [← hy43, ← hA43, ← hc43] at hcut43
             have HO260 := am (show Kd.V k32 32 _ w.heap.size _ (.slice A43 y256.length c43) y256 from Kd.V_mk (by rw [hy43, hc43]; exact Nat.sub_le_sub_right hroom43 _) hr43)
             have HC260 := am (show y256.length ≤ c43 from by rw [hy43, hc43]; exact Nat.sub_le_sub_right hroom43 _)
             clear hr43 hC43 hroom43 hi043 hsz43 hc43
             have KY43 := Aside0.mk hy43; have KA43 := Aside0.mk hA43
             clear hy43 hA43
             replace q43 := eq_true q43
             have q44 : (1 : Int) ≤ ((x1_1.length : Int) : Int) := of_decide_eq_true (by first | (with_reducible assumption) | assumption)
             obtain ⟨i044, hi044, _, hsz44, _⟩ := info_parts info32
             have hroom44 : x1_1.length ≤ co40 := (Kd.V_reads' HO_1.out).2.1
             have hC44 : Kd.F k32 _ _ (some ad229) x1_1.length x1_1 := (Kd.V_at (base := w.heap.size) HO_1.out).2.2
             have hcut44 := cut_from (P := Try.prog) 28 32 .i64 Try.underlying28 hi044 2 hsz44 (some ad229) x1_1.length co40 1 (by omega) q44
             have hr44 := Kd.F_cut (m := (1 : Int).toNat) (c := co40) hC44 (by omega) hroom44
             obtain ⟨A44, hA44⟩ : ∃ A1, A1 = (if co40 = (1 : Int).toNat then (some ad229) else ((some ad229) : Option Addr).map (·.add ((1 : Int).toNat * 2))) := ⟨_, rfl⟩
             obtain ⟨c44, hc44⟩ : ∃ c1, c1 = co40 - (1 : Int).toNat := ⟨_, rfl⟩
             have hy44 : y261.length = x1_1.length - (1 : Int).toNat := (by rw [Ny261.out, List.length_drop] <;> omega)
             rw [show (x1_1).drop (1 : Int).toNat = y261 from Ny261.out.symm] at hr44
             replace hr44 : Kd.F k32 _ _ A44 y261.length y261 := (by rw [hA44]; exact hr44)
             rw [← hy44, ← hA44, ← hc44] at hcut44
             have HO265 := am (show Kd.V k32 32 _ w.heap.size _ (.slice A44 y261.length c44) y261 from Kd.V_mk (by rw [hy44, hc44]; exact Nat.sub_le_sub_right hroom44 _) hr44)
             have HC265 := am (show y261.length ≤ c44 from by rw [hy44, hc44]; exact Nat.sub_le_sub_right hroom44 _)
             clear hr44 hC44 hroom44 hi044 hsz44 hc44
             have KY44 := Aside0.mk hy44; have KA44 := Aside0.mk hA44
             clear hy44 hA44
             replace q44 := eq_true q44
             refine start_ (n := 18) (S := fun w' => w'.cell? ad228 = some (.int .i64 ((rd_T32 x0_1 0).f0)) ∧ w'.cell? ⟨ad228.block, ad228.off + 1, none⟩ = some (.int .i64 ((rd_T32 x0_1 0).f1)) ∧ w'.cell? ad229 = some (.int .i64 ((rd_T32 x1_1 0).f0)) ∧ w'.cell? ⟨ad229.block, ad229.off + 1, none⟩ = some (.int .i64 ((rd_T32 x1_1 0).f1))) (ds := [9, 10]) (tb 0 18) (by kernel_rfl) rfl rfl ⟨hx249_0, hx249_1, hx250_0, hx250_1⟩ (fun hHeld => ?_); refine with_tabW api_Reg_69.tab3 api_Reg_69.bits3 (fun HT_ HW_ => ?_)
             generalize w41.drew = w42 at HO_0 HO_1 HO_8 HB HO260 HO265 hx249_0 hx249_1 hx250_0 hx250_1 hHeld ⊢
             refine pure_ (i := 0) (N := some 26) (v := ?_) (a' := ?_) (tb 1 18) rfl rfl (any_of HT_.out (by kernel_rfl)) (fun _ _ _ h => h) (Or.inl ⟨by rfl, ?_⟩) ?_ ?_
             rotate_left
             ·
              intro w'
              go_simp
              with_reducible rfl
             rotate_left
             ·
              simp only [Act.put, List.setIfInBounds_toArray, List.set_cons_zero, List.set_cons_succ, i64_w, i32_w]
              rfl
             refine pure_ (i := 1) (N := some 27) (v := ?_) (a' := ?_) (tb 2 18) rfl rfl (any_of HT_.out (by kernel_rfl)) (fun _ _ _ h => h) (Or.inl ⟨by rfl, ?_⟩) ?_ ?_
             rotate_left
             ·
              intro w'
              go_simp
              with_reducible rfl
             rotate_left
             ·
              simp only [Act.put, List.setIfInBounds_toArray, List.set_cons_zero, List.set_cons_succ, i64_w, i32_w]
              rfl
             refine pure_ (i := 2) (N := some 28) (v := ?_) (a' := ?_) (tb 3 18) rfl rfl (any_of HT_.out (by kernel_rfl)) (fun _ _ _ h => h) (Or.inl ⟨by rfl, ?_⟩) ?_ ?_
             rotate_left
             ·
              intro w'
              go_simp
              with_reducible rfl
             rotate_left
             ·
              simp only [Act.put, List.setIfInBounds_toArray, List.set_cons_zero, List.set_cons_succ, i64_w, i32_w]
              rfl
             refine pure_ (i := 3) (N := some 29) (v := ?_) (a' := ?_) (tb 4 18) rfl rfl (any_of HT_.out (by kernel_rfl)) (fun _ _ _ h => h) (Or.inl ⟨by rfl, ?_⟩) ?_ ?_
             rotate_left
             ·
              intro w'
              go_simp
              with_reducible rfl
             rotate_left
             ·
              simp only [Act.put, List.setIfInBounds_toArray, List.set_cons_zero, List.set_cons_succ, i64_w, i32_w]
              rfl
             refine pure_ (i := 5) (N := some 31) (v := ?_) (a' := ?_) #[true, true, true, true, false, true, false, false, false, false, false, false, false, false, false, false, false, false] rfl rfl (any_of HT_.out (by kernel_rfl)) (fun _ _ _ h => h) (Or.inl ⟨by rfl, ?_⟩) ?_ ?_
             rotate_left
             ·
              intro w'
              go_simp
              with_reducible rfl
             rotate_left
             ·
              simp only [Act.put, List.setIfInBounds_toArray, List.set_cons_zero, List.set_cons_succ, i64_w, i32_w]
              rfl
             refine pure_ (i := 6) (N := some 32) (v := ?_) (a' := ?_) #[true, true, true, true, false, true, true, false, false, false, false, false, false, false, false, false, false, false] rfl rfl (any_of HT_.out (by kernel_rfl)) (fun _ _ _ h => h) (Or.inl ⟨by rfl, ?_⟩) ?_ ?_
             rotate_left
             ·
              intro w'
              go_simp
              with_reducible rfl
             rotate_left
             ·
              simp only [Act.put, List.setIfInBounds_toArray, List.set_cons_zero, List.set_cons_succ, i64_w, i32_w]
              rfl
             refine pure_ (i := 11) (N := some 37) (v := ?_) (a' := ?_) #[true, true, true, true, false, true, true, false, false, false, false, true, false, false, false, false, false, false] rfl rfl (any_of HT_.out (by kernel_rfl)) (fun _ _ _ h => h) (Or.inl ⟨by rfl, ?_⟩) ?_ ?_
             rotate_left
             ·
              intro w'
              go_simp
              with_reducible rfl
             rotate_left
             ·
              simp only [Act.put, List.setIfInBounds_toArray, List.set_cons_zero, List.set_cons_succ, i64_w, i32_w]
              rfl
             refine pure_ (i := 12) (N := some 38) (v := ?_) (a' := ?_) #[true, true, true, true, false, true, true, false, false, false, false, true, true, false, false, false, false, false] rfl rfl (any_of HT_.out (by kernel_rfl)) (fun _ _ _ h => h) (Or.inl ⟨by rfl, ?_⟩) ?_ ?_
             rotate_left
             ·
              intro w'
              go_simp
              with_reducible rfl
             rotate_left
             ·
              simp only [Act.put, List.setIfInBounds_toArray, List.set_cons_zero, List.set_cons_succ, i64_w, i32_w]
              rfl
             refine pure_ (i := 13) (N := some 39) (v := ?_) (a' := ?_) #[true, true, true, true, false, true, true, false, false, false, false, true, true, true, false, false, false, false] rfl rfl (any_of HT_.out (by kernel_rfl)) (fun _ _ _ h => h) (Or.inl ⟨by rfl, ?_⟩) ?_ ?_
             rotate_left
             ·
              intro w'
              go_simp
              with_reducible rfl
             rotate_left
             ·
              simp only [Act.put, List.setIfInBounds_toArray, List.set_cons_zero, List.set_cons_succ, i64_w, i32_w]
              rfl
             refine pure_ (i := 14) (N := some 40) (v := ?_) (a' := ?_) #[true, true, true, true, false, true, true, false, false, false, false, true, true, true, true, false, false, false] rfl rfl (any_of HT_.out (by kernel_rfl)) (fun _ _ _ h => h) (Or.inl ⟨by rfl, ?_⟩) ?_ ?_
             rotate_left
             ·
              intro w'
              go_simp
              with_reducible rfl
             rotate_left
             ·
              simp only [Act.put, List.setIfInBounds_toArray, List.set_cons_zero, List.set_cons_succ, i64_w, i32_w]
              rfl
             refine take_ (i := 4) (N := some 30) (v := ?_) (a' := ?_) #[true, true, true, true, true, true, true, false, false, false, false, true, true, true, true, false, false, false] rfl rfl (take_ofW HT_.out HW_.out (by kernel_rfl)) (fun _ _ _ h => h) (Or.inl ⟨by rfl, ?_⟩) hHeld ?_ ?_
             rotate_left
             ·
              rintro w' ⟨s0, s1, s2, s3⟩
              go_simp
              with_reducible rfl
             rotate_left
             ·
              simp only [Act.put, List.setIfInBounds_toArray, List.set_cons_zero, List.set_cons_succ, i64_w, i32_w]
              rfl
             refine take_ (i := 7) (N := some 33) (v := ?_) (a' := ?_) #[true, true, true, true, true, true, true, true, false, false, false, true, true, true, true, false, false, false] rfl rfl (take_ofW HT_.out HW_.out (by kernel_rfl)) (fun _ _ _ h => h) (Or.inl ⟨by rfl, ?_⟩) hHeld ?_ ?_
             rotate_left
             ·
              rintro w' ⟨s0, s1, s2, s3⟩
              go_simp
              with_reducible rfl
             rotate_left
             ·
              simp only [Act.put, List.setIfInBounds_toArray, List.set_cons_zero, List.set_cons_succ, i64_w, i32_w]
              rfl
             refine one_ (i := 8) (N := some 34) #[true, true, true, true, true, true, true, true, true, false, false, true, true, true, true, false, false, false] rfl rfl (one_of HT_.out (by kernel_rfl)) (by decide) (fun K hK => ?_)
             refine goesV_ (.tmp 27) Try.func71 (by kernel_rfl) rfl #[.agg #[.int .i64 ((rd_T32 x0_1 0).f0), .int .i64 ((rd_T32 x0_1 0).f1)], .agg #[.int .i64 ((rd_T32 x1_1 0).f0), .int .i64 ((rd_T32 x1_1 0).f1)]] (by rfl) rfl rfl (by rfl) (by (try simp only [List.map_toArray, List.map_cons, List.map_nil]); first | done | rfl | (simp only [List.length_drop, List.length_take]; rfl)) ?_
             with_reducible refine (hll_Merge_2.calls ((rd_T32 x0_1 0).f0) ((rd_T32 x0_1 0).f1) ((rd_T32 x1_1 0).f0) ((rd_T32 x1_1 0).f1) t251 t252 _ A34.out).mono ?_
             rintro e w45 ⟨rfl, hb⟩
             have HS0_ := (hb.cell (World.block_lt_of_cell? _ _ (hHeld.1))).trans (hHeld.1)
             have HS1_ := (hb.cell (World.block_lt_of_cell? _ _ (hHeld.2.1))).trans (hHeld.2.1)
             have HS2_ := (hb.cell (World.block_lt_of_cell? _ _ (hHeld.2.2.1))).trans (hHeld.2.2.1)
             have HS3_ := (hb.cell (World.block_lt_of_cell? _ _ (hHeld.2.2.2))).trans (hHeld.2.2.2)
             refine ⟨_, rfl, ?_⟩
             replace HO_0 := am (Kd.V_below (by (with_reducible repeat (first | apply Kd.V_alloc | apply Kd.V_drewN | apply Kd.V_drew)); exact HO_0.out) hb); replace HO_1 := am (Kd.V_below (by (with_reducible repeat (first | apply Kd.V_alloc | apply Kd.V_drewN | apply Kd.V_drew)); exact HO_1.out) hb); replace HO_8 := rb HO_8 hb; replace HO260 := am (Kd.V_below (by (with_reducible repeat (first | apply Kd.V_alloc | apply Kd.V_drewN | apply Kd.V_drew)); exact HO260.out) hb); replace HO265 := am (Kd.V_below (by (with_reducible repeat (first | apply Kd.V_alloc | apply Kd.V_drewN | apply Kd.V_drew)); exact HO265.out) hb); replace HB := am (below_step (hu HB.out) hb)
             (try clear hb)
             (try clear hb2)
             (try clear hk)
             (try clear hi)
             refine hK.out _ _ ⟨HS0_, HS1_, HS2_, HS3_⟩ (fun hHeld => ?_)
             clear hK K
             refine norm_ (a' := ?_) ?_ ?_
             rotate_left
             ·
              show Act.put _ (some 34) _ = _
              simp only [Act.put, List.setIfInBounds_toArray, List.set_cons_zero, List.set_cons_succ, i64_w, i32_w]
              rfl
             refine last_ (i := 9) (N := some 35) #[true, true, true, true, true, true, true, true, true, true, false, true, true, true, true, false, false, false] rfl rfl (one_of HT_.out (by kernel_rfl)) (by decide) (fun K hK => ?_)
             refine value_ (w1 := ?_) (v := ?_) (by rfl) rfl ?_ ?_
             rotate_left 2
             ·
              go_simp
              constructor
              ·
               rfl
              ·
               rfl
             refine hK.out _ _ ?_
             clear hK K
             refine norm_ (a' := ?_) ?_ ?_
             rotate_left
             ·
              show Act.put _ (some 35) _ = _
              simp only [Act.put, List.setIfInBounds_toArray, List.set_cons_zero, List.set_cons_succ, i64_w, i32_w]
              rfl
             refine last_ (i := 10) (N := some 36) (tb 15 18) rfl rfl (one_of HT_.out (by kernel_rfl)) (by decide) (fun K hK => ?_)
             refine Kd.R_append_step k32 (w0 := w) w.heap.size (by rfl) (.tmp 26) (.tmp 35) 28 32 (.agg #[(.int .i64 0), (.int .i64 0)]) 16 rfl Try.underlying28 info32 rfl (by decide) (by omega) u8 x8_1 (⟨t251, t252⟩ : S32) [.int .i64 t251, .int .i64 t252] (fun k_ => (w.heap.size ≤ k_)) (fun _ => False) rfl rfl ?aP (fun _ hk => hk.elim) ?aF ?aO ?aB ?aS ?aL ?_
             (case aP => exact k32_mkM _ _ _ (⟨t251, t252⟩ : S32))
             (case aB => exact (hu HB.out))
             (case aF => exact (fun k_ hk => (Nat.le_trans (below_size (hu HB.out)) hk)))
             (case aO => exact (ru (HO_8.out)))
             (case aS => exact (below_size (hu HB.out)))
             (case aL => have := LMc35.out; omega)
             intro v254 w46 ho hb hg hat
             rw [← Ny253.out] at ho
             have HO255 := am (ho); replace HO_0 := am (Kd.V_afterv (ok := (fun k_ => ((P0_ k_ ∨ P1_ k_) ∨ w.heap.size ≤ k_))) (by (with_reducible repeat (first | apply Kd.V_alloc | apply Kd.V_drewN | apply Kd.V_drew)); exact HO_0.out) hg hat); replace HO_1 := am (Kd.V_afterv (ok := (fun k_ => ((P0_ k_ ∨ P1_ k_) ∨ w.heap.size ≤ k_))) (by (with_reducible repeat (first | apply Kd.V_alloc | apply Kd.V_drewN | apply Kd.V_drew)); exact HO_1.out) hg hat); replace HO260 := am (Kd.V_afterv (ok := (fun k_ => ((P0_ k_ ∨ P1_ k_) ∨ w.heap.size ≤ k_))) (by (with_reducible repeat (first | apply Kd.V_alloc | apply Kd.V_drewN | apply Kd.V_drew)); exact HO260.out) hg hat); replace HO265 := am (Kd.V_afterv (ok := (fun k_ => ((P0_ k_ ∨ P1_ k_) ∨ w.heap.size ≤ k_))) (by (with_reducible repeat (first | apply Kd.V_alloc | apply Kd.V_drewN | apply Kd.V_drew)); exact HO265.out) hg hat); replace HB := am (hb); clear HO_8
             clear ho hb hg hat
             refine hK.out _ _ ?_
             clear hK K
             refine norm_ (a' := ?_) ?_ ?_
             rotate_left
             ·
              show Act.put _ (some 36) _ = _
              simp only [Act.put, List.setIfInBounds_toArray, List.set_cons_zero, List.set_cons_succ, i64_w, i32_w]
              rfl
             refine pure_ (i := 15) (N := some 8) (v := ?_) (a' := ?_) (tb 16 18) rfl rfl (any_of HT_.out (by kernel_rfl)) (fun _ _ _ h => h) (Or.inl ⟨by rfl, ?_⟩) ?_ ?_
             rotate_left
             ·
              intro w'
              go_simp
              with_reducible rfl
             rotate_left
             ·
              simp only [Act.put, List.setIfInBounds_toArray, List.set_cons_zero, List.set_cons_succ, i64_w, i32_w]
              rfl
             refine pure_ (i := 16) (N := some 0) (v := ?_) (a' := ?_) (tb 17 18) rfl rfl (any_of HT_.out (by kernel_rfl)) (fun _ _ _ h => h) (Or.inl ⟨by rfl, ?_⟩) ?_ ?_
             rotate_left
             ·
              intro w'
              go_simp
              with_reducible rfl
             rotate_left
             ·
              simp only [Act.put, List.setIfInBounds_toArray, List.set_cons_zero, List.set_cons_succ, i64_w, i32_w]
              rfl
             refine pure_ (i := 17) (N := some 1) (v := ?_) (a' := ?_) (tb 18 18) rfl rfl (any_of HT_.out (by kernel_rfl)) (fun _ _ _ h => h) (Or.inl ⟨by rfl, ?_⟩) ?_ ?_
             rotate_left
             ·
              intro w'
              go_simp
              with_reducible rfl
             rotate_left
             ·
              simp only [Act.put, List.setIfInBounds_toArray, List.set_cons_zero, List.set_cons_succ, i64_w, i32_w]
              rfl
             refine done_ (done_of HT_.out (by kernel_rfl)) ?_
             try go_wp2
             go_roundg kj4
             case measure => have := HK1.out; have := HJ4.out; omega
             case rel => exact ⟨(y256), (y261), (y253), H', ⟨by have := HK1.out; have := HJ4.out; omega⟩, ⟨by (with_reducible repeat (first | apply Kd.V_alloc | apply Kd.V_drewN | apply Kd.V_drew)); exact HO260.out⟩, ⟨by (with_reducible repeat (first | apply Kd.V_alloc | apply Kd.V_drewN | apply Kd.V_drew)); exact HO265.out⟩, ⟨ru HO255.out⟩, ⟨by repeat (first | (with_reducible first | exact HB.out | apply below_alloc | apply pw_below_drewN | apply below_drew1) | exact HB.out)⟩⟩
            ·
             rw [if_neg c37] at H
             exact absurd H (by simp)
           ·
            rw [if_neg c36] at H
            exact absurd H (by simp)
          ·
           rw [if_neg c35] at H
           exact absurd H (by simp)
       ·
        rw [if_neg c12] at H
        exact absurd H (by simp)
      ·
       rw [if_neg c11] at H
       exact absurd H (by simp)
     ·
      replace c10 := Bool.eq_false_iff.mpr c10
      subst c10
      have H1 : (if x8_1.length + x0_1.length < 8796093022208 then ((some (x8_1 ++ x0_1 : List (S32))).bind fun y222 => (if y222.length + x1_1.length < 8796093022208 then (some (y222 ++ x1_1)) else (none))) else (none)) = some r := by rw [if_neg (show ¬ (false = true) by decide)] at H; exact H
      clear H
      have H := H1
      clear H1
      by_cases c47 : x8_1.length + x0_1.length < 8796093022208
      ·
       rw [if_pos c47] at H
       have LMc47 := Aside0.mk c47
       clear c47
       obtain ⟨y222, hy222⟩ : ∃ y_ : List (S32), y_ = (x8_1 ++ x0_1) := ⟨_, rfl⟩
       replace H : (if y222.length + x1_1.length < 8796093022208 then (some (y222 ++ x1_1)) else (none)) = some r := by first | (rw [hy222]; with_reducible exact H) | (have H2_ := (Option.bind_some _ _).symm.trans H; rw [hy222]; with_reducible exact H2_) | (have H2_ := (Option.bind_some _ _).symm.trans H; with_reducible exact H2_) | with_reducible exact H | (rw [hy222]; exact H) | exact H
       have Ny222 := Aside0.mk hy222
       clear hy222
       by_cases c48 : y222.length + x1_1.length < 8796093022208
       ·
        rw [if_pos c48] at H
        have LMc48 := Aside0.mk c48
        clear c48
        obtain ⟨y225, hy225⟩ : ∃ y_ : List (S32), y_ = (y222 ++ x1_1) := ⟨_, rfl⟩
        replace H : (some y225) = some r := by first | (rw [hy225]; with_reducible exact H) | (have H2_ := (Option.bind_some _ _).symm.trans H; rw [hy225]; with_reducible exact H2_) | (have H2_ := (Option.bind_some _ _).symm.trans H; with_reducible exact H2_) | with_reducible exact H | (rw [hy225]; exact H) | exact H
        have Ny225 := Aside0.mk hy225
        clear hy225
        obtain rfl := Option.some.inj H
        obtain ⟨Ao50, co50, eo50⟩ := Kd.V_slice HO_0.out
        subst eo50
        go_wp2_with (first | ((with_reducible refine gate_builtin (b := .append) (xs := #[.tmp 63, .tmp 64]) rfl ?_); (try (refine gate_guard (by rfl) ?_; dsimp only)); at_builtin; refine Kd.R_append_rows k32 (w0 := w) w.heap.size rfl (.tmp 63) (.tmp 64) 28 32 (.agg #[(.int .i64 0), (.int .i64 0)]) 16 rfl Try.underlying28 info32 rfl (by decide) (by omega) u8 x8_1 x0_1 _ _ _ (fun k_ => (w.heap.size ≤ k_)) (fun _ => False) rfl rfl ?aO ?aR (fun _ _ h => h) (fun _ h => h.elim) ?aF ?aB ?aS ?aL ?_; (case aR => repeat (first | exact (Kd.V_reads' HO_0.out).2.2 | (with_reducible refine Kd.C_alloc ?_ _) | (with_reducible refine Kd.C_drewN ?_ _) | (with_reducible refine Kd.C_drew ?_))); (case aB => exact (hu HB.out)); (case aF => exact (fun k_ hk => (Nat.le_trans (below_size (hu HB.out)) hk))); (case aO => exact (ru (HO_8.out))); (case aS => exact (below_size (hu HB.out))); (case aL => have := LMc47.out; omega); intro v223 w49 ho hb hg hat; rw [← Ny222.out] at ho; have HO224 := am (ho); replace HO_0 := am (Kd.V_afterv (ok := (fun k_ => ((P0_ k_ ∨ P1_ k_) ∨ w.heap.size ≤ k_))) (by (with_reducible repeat (first | apply Kd.V_alloc | apply Kd.V_drewN | apply Kd.V_drew)); exact HO_0.out) hg hat); replace HO_1 := am (Kd.V_afterv (ok := (fun k_ => ((P0_ k_ ∨ P1_ k_) ∨ w.heap.size ≤ k_))) (by (with_reducible repeat (first | apply Kd.V_alloc | apply Kd.V_drewN | apply Kd.V_drew)); exact HO_1.out) hg hat); replace HB := am (hb); clear HO_8; clear ho hb hg hat; obtain ⟨Ao52, co52, eo52⟩ := Kd.V_slice HO_1.out; subst eo52) | ((with_reducible refine gate_builtin (b := .append) (xs := #[.tmp 65, .tmp 66]) rfl ?_); (try (refine gate_guard (by rfl) ?_; dsimp only)); at_builtin; refine Kd.R_append_rows k32 (w0 := w) w.heap.size rfl (.tmp 65) (.tmp 66) 28 32 (.agg #[(.int .i64 0), (.int .i64 0)]) 16 rfl Try.underlying28 info32 rfl (by decide) (by omega) v223 y222 x1_1 _ _ _ (fun k_ => (w.heap.size ≤ k_)) (fun _ => False) rfl rfl ?aO ?aR (fun _ _ h => h) (fun _ h => h.elim) ?aF ?aB ?aS ?aL ?_; (case aR => repeat (first | exact (Kd.V_reads' HO_1.out).2.2 | (with_reducible refine Kd.C_alloc ?_ _) | (with_reducible refine Kd.C_drewN ?_ _) | (with_reducible refine Kd.C_drew ?_))); (case aB => exact (hu HB.out)); (case aF => exact (fun k_ hk => (Nat.le_trans (below_size (hu HB.out)) hk))); (case aO => exact (ru (HO224.out))); (case aS => exact (below_size (hu HB.out))); (case aL => have := LMc48.out; omega); intro v226 w51 ho hb hg hat; rw [← Ny225.out] at ho; have HO227 := am (ho); replace HO_0 := am (Kd.V_afterv (ok := (fun k_ => ((P0_ k_ ∨ P1_ k_) ∨ w.heap.size ≤ k_))) (by (with_reducible repeat (first | apply Kd.V_alloc | apply Kd.V_drewN | apply Kd.V_drew)); exact HO_0.out) hg hat); replace HO_1 := am (Kd.V_afterv (ok := (fun k_ => ((P0_ k_ ∨ P1_ k_) ∨ w.heap.size ≤ k_))) (by (with_reducible repeat (first | apply Kd.V_alloc | apply Kd.V_drewN | apply Kd.V_drew)); exact HO_1.out) hg hat); replace HB := am (hb); clear HO224; clear ho hb hg hat))
        go_ret
        exact ⟨_, by first | rfl | (simp [errW_none, errW_some] <;> rfl) | (simp [*, errW_none, errW_some] <;> rfl), by (with_reducible repeat (first | apply Kd.R_alloc | apply Kd.R_drewN | apply Kd.R_drew)); exact HO227.out, by repeat (first | (with_reducible first | exact HB.out | apply below_alloc | apply pw_below_drewN | apply below_drew1) | exact HB.out)⟩
       ·
        rw [if_neg c48] at H
        exact absurd H (by simp)
      ·
       rw [if_neg c47] at H
       exact absurd H (by simp)

end Go.Proofs.Ytbclnjinpcfpjaa.H
