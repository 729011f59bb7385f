-- Made by this session's own call of the printer (functions that are proved by hand are taken from a text beside it).
import Derived.Test.YtbclnjinpcfpjaaZ4
import Derived.Test.YtbclnjinpcfpjaaHA
import Derived.Test.YtbclnjinpcfpjaaHB
import Derived.Test.YtbclnjinpcfpjaaH0
import Derived.Test.YtbclnjinpcfpjaaH8
import Derived.Test.YtbclnjinpcfpjaaHA
import Derived.Test.YtbclnjinpcfpjaaHB
namespace Go.Proofs.Ytbclnjinpcfpjaa.H
open Go.RowKit Go.Proofs.YtbclnjinpcfpjaaW.PrintWords Go.Proofs.YtbclnjinpcfpjaaW.PrintLast Go.Proofs.YtbclnjinpcfpjaaW.PrintMore
attribute [local go_sem] max2_int min2_int max_two min_two max_three min_three max_four min_four   -- for this text's walks alone
set_option linter.unusedVariables false
set_option linter.unusedSimpArgs false

/-! ### tallymanref15_Dense: function 51 -/
def tallymanref15_Dense.l0 : Nat → List Int → Int → Int → List (S32) → Option (List Int × Int)
 | 0, _, _, _, _ => none
 | k + 1, x4, x5, x502000, x502001 => if x5 < (x502001.length : Int) then (if 0 ≤ x5 then (if 0 ≤ ((rd_T32 x502001 x5).f0) then (if ((rd_T32 x502001 x5).f0) < (x4.length : Int) then (tallymanref15_Dense.l0 k (x4.set (((rd_T32 x502001 x5).f0) : Int).toNat ((rd_T32 x502001 x5).f1)) (wrap64 (x5 + 1)) x502000 x502001) else (none)) else (none)) else (none)) else ((tallymanref15_Pack.f k x4).bind fun bt509 => ((some (([(x502000) % 256, 1] : List Int) : List Int)).bind fun y513 => (if y513.length + bt509.1.length < 140737488355328 then (some ((y513 ++ bt509.1), 0)) else (none))))
def tallymanref15_Dense.f (k : Nat) (a0_0 : Int) (l0_1 : List (S32)) : Option (List Int × Int) := (tallymanref14_Check.f k a0_0 l0_1).bind fun t502 => (if t502 = 0 then (if 0 ≤ (IntKind.u64.wrap (a0_0)) then (if 0 ≤ (shl .i64 1 (IntKind.u64.wrap (a0_0))) then (if (shl .i64 1 (IntKind.u64.wrap (a0_0)) : Int).toNat ≤ 35184372088832 then (tallymanref15_Dense.l0 k (List.replicate (shl .i64 1 (IntKind.u64.wrap (a0_0)) : Int).toNat 0) 0 a0_0 l0_1) else (none)) else (none)) else (none)) else (some (([] : List Int), 2)))
theorem tallymanref15_Dense.mono_l : ∀ k, (∀ y0 y1 y2 y3, LeO (tallymanref15_Dense.l0 k y0 y1 y2 y3) (tallymanref15_Dense.l0 (k + 1) y0 y1 y2 y3))
 | 0 => fun _ _ _ _ r h => by simp [tallymanref15_Dense.l0] at h
 | k + 1 => by
  have ih0 := tallymanref15_Dense.mono_l k
  ·
   intro y0 y1 y2 y3
   unfold tallymanref15_Dense.l0
   repeat' first
   | (with_reducible exact ih0 _ _ _ _)
   | (with_reducible exact tallymanref14_Check.mono _ _ _)
   | (with_reducible exact tallymanref15_Pack.mono _ _)
   | (with_reducible exact LeO.refl _)
   | (with_reducible exact LeO.none _)
   | (with_reducible refine LeO.ite ?_ ?_)
   | (with_reducible refine LeO.bind ?_ (fun _ => ?_))
theorem tallymanref15_Dense.mono : ∀ a0 a1 k, LeO (tallymanref15_Dense.f k a0 a1) (tallymanref15_Dense.f (k + 1) a0 a1) := by
 intro a0 a1 k
 have ih0 := tallymanref15_Dense.mono_l k
 unfold tallymanref15_Dense.f
 repeat' first
   | (with_reducible exact ih0 _ _ _ _)
   | (with_reducible exact tallymanref14_Check.mono _ _ _)
   | (with_reducible exact tallymanref15_Pack.mono _ _)
   | (with_reducible exact LeO.refl _)
   | (with_reducible exact LeO.none _)
   | (with_reducible refine LeO.ite ?_ ?_)
   | (with_reducible refine LeO.bind ?_ (fun _ => ?_))
def tallymanref15_Dense.T7 : Bool × List (List Nat × List Nat) := (true, [([], []), ([], []), ([1], [1]), ([], []), ([2, 3], [2, 3]), ([4], [4]), ([5], [5]), ([], []), ([7], [7]), ([], []), ([8, 9], [8, 9]), ([10], [10]), ([11], [11]), ([0, 6, 0, 1, 2, 3, 4, 5, 6, 7, 8, 9, 10, 11, 12], [0, 6]), ([13, 12, 0, 1, 2, 3, 4, 5, 6, 7, 8, 9, 10, 11, 12], [12, 13])])
def tallymanref15_Dense.B7 : List Nat := [0, 0, 2, 0, 14, 30, 62, 0, 128, 0, 896, 1920, 3968, 8191, 16383]
theorem tallymanref15_Dense.tab7 : rtab .any (opsOf Try.f51 7) = tallymanref15_Dense.T7 := by kernel_rfl
theorem tallymanref15_Dense.bits7 : waitsOk tallymanref15_Dense.T7.2 tallymanref15_Dense.B7 = true := by kernel_rfl
set_option maxHeartbeats 8000000 in
set_option maxRecDepth 100000 in
theorem tallymanref15_Dense.calls (k : Nat) (a0_0 : Int) (A0_1 : Option Addr) (c0_1 : Nat) (l0_1 : List (S32)) (r1 : List Int) (r2 : Int) (w : World) (hr0_1 : Kd.C k32 w A0_1 l0_1.length l0_1) (hc0_1 : l0_1.length ≤ c0_1) (h : tallymanref15_Dense.f k a0_0 l0_1 = some (r1, r2)) :
  Calls Try.prog 51 #[.agg #[.int .i64 a0_0, .slice A0_1 l0_1.length c0_1]] w fun e w' => ∃ v0_ : Value, e = .returned (.tuple #[v0_, .int .i64 r2]) ∧ Kd.R (Kd.int .u8) 5 w' w.heap.size (fun _ => True) v0_ r1 ∧ Below w.heap.size w w' := by
 have hu30 := Try.underlying30
 have HR0_1 := Aside0.mk hr0_1
 have HC0_1 := Aside0.mk hc0_1
 clear hr0_1 hc0_1
 have HB := am (Below.refl w.heap.size w)
 have H : ((tallymanref14_Check.f k a0_0 l0_1).bind fun t502 => (if t502 = 0 then (if 0 ≤ (IntKind.u64.wrap (a0_0)) then (if 0 ≤ (shl .i64 1 (IntKind.u64.wrap (a0_0))) then (if (shl .i64 1 (IntKind.u64.wrap (a0_0)) : Int).toNat ≤ 35184372088832 then (tallymanref15_Dense.l0 k (List.replicate (shl .i64 1 (IntKind.u64.wrap (a0_0)) : Int).toNat 0) 0 a0_0 l0_1) else (none)) else (none)) else (none)) else (some (([] : List Int), 2)))) = some (r1, r2) := h
 clear h
 replace H := Option.bind_eq_some_iff.mp H
 obtain ⟨t502, A20, H⟩ := H
 try dsimp only at H
 have A2 := Aside0.mk A20
 clear A20
 by_cases c3 : t502 = 0
 ·
  rw [if_pos c3] at H
  have c3b0 : (t502 == 0) = true := beq_iff_eq.mpr c3
  have c3b1 : (t502 != 0) = false := bne_eq_false_iff_eq.mpr c3
  clear c3
  obtain ⟨ji4, hji4⟩ : ∃ j_ : Int, (IntKind.u64.wrap (a0_0)) = j_ := ⟨_, rfl⟩
  first | rw [hji4] at H | simp only [hji4] at H
  (try rw [hji4] at A2)
  by_cases c5 : 0 ≤ (ji4)
  ·
   rw [if_pos c5] at H
   have c5b0 := eq_true c5
   have c5b1 : decide (0 ≤ (ji4)) = true := decide_eq_true c5
   clear c5
   obtain ⟨ji6, hji6⟩ : ∃ j_ : Int, (shl .i64 1 (ji4)) = j_ := ⟨_, rfl⟩
   first | rw [hji6] at H | simp only [hji6] at H
   (try rw [hji6] at A2)
   have hji6_ : (IntKind.i64.wrap (1 * 2 ^ min (ji4).toNat 64)) = ji6 := hji6
   have hji6z : (ji4) ≤ 64 → (IntKind.i64.wrap (1 * 2 ^ (ji4).toNat)) = ji6 := shl_small hji6
   have hji6u : (IntKind.i64.wrap (2 ^ min (ji4).toNat 64)) = ji6 := by have h_ := hji6_; rw [Int.one_mul] at h_; exact h_
   have hji6v : (ji4) ≤ 64 → (IntKind.i64.wrap (2 ^ (ji4).toNat)) = ji6 := fun hle_ => by have h_ := hji6z hle_; rw [Int.one_mul] at h_; exact h_
   have hji6y : (wrap64 (1 * 2 ^ min (ji4).toNat 64)) = ji6 := (i64_w _).symm.trans hji6_
   have hji6x : (ji4) ≤ 64 → (wrap64 (1 * 2 ^ (ji4).toNat)) = ji6 := fun h_ => (i64_w _).symm.trans (hji6z h_)
   by_cases c7 : 0 ≤ (ji6)
   ·
    rw [if_pos c7] at H
    have c7b0 := eq_true c7
    have c7b1 : decide (0 ≤ (ji6)) = true := decide_eq_true c7
    clear c7
    by_cases c8 : (ji6 : Int).toNat ≤ 35184372088832
    ·
     rw [if_pos c8] at H
     have c8b0 := eq_true c8
     have c8b1 : decide ((ji6 : Int).toNat ≤ 35184372088832) = true := decide_eq_true c8
     clear c8
     obtain ⟨y503, hy503⟩ : ∃ y_ : List Int, y_ = (List.replicate (ji6 : Int).toNat 0) := ⟨_, rfl⟩
     replace H : (tallymanref15_Dense.l0 k y503 0 a0_0 l0_1) = some (r1, r2) := by first | (rw [hy503]; with_reducible exact H) | (have H2_ := (Option.bind_some _ _).symm.trans H; rw [hy503]; with_reducible exact H2_) | (have H2_ := (Option.bind_some _ _).symm.trans H; with_reducible exact H2_) | with_reducible exact H | (rw [hy503]; exact H) | exact H
     have Ny503 := Aside0.mk hy503
     clear hy503
     have H' := Aside0.mk H
     clear H
     go_enter Try.func51, Try.ntmps51
     go_wp2_with (first | ((with_reducible refine gate_dst (N := 1) rfl ?_); refine box_event ?hg (N := 1) ?hd (cs := #[.int .i64 a0_0, .slice A0_1 l0_1.length c0_1]) (t := 30) ?hr ?_; (case hd => rfl); (case hg => rfl); (case hr => go_simp; try rfl); intro gb501 hg w9 hbox hb; obtain ⟨HBn, GW501⟩ := tri hg hb (hu HB.out); have GE501 := GW501; have BK501 := am (hbox); clear HB; have HB := HBn; clear HBn; clear hb hbox hg; obtain ⟨hcz10_0, hcz10_1, hfz10_0, hfz10_1⟩ := cf BK501.out) | ((with_reducible refine gate_callee (f := 36) rfl ?_); refine goesL_ (some 9) rfl rfl Try.func36 (by kernel_rfl) rfl #[.agg #[.int .i64 a0_0, .slice A0_1 l0_1.length c0_1]] rfl (by (try simp only [List.map_toArray, List.map_cons, List.map_nil]); first | done | rfl) ?_; (with_reducible refine (tallymanref14_Check.calls k a0_0 _ _ l0_1 t502 _ ?side1 ?side2 A2.out).mono ?_); (case side1 => exact cu (Kd.C_below HR0_1.out HB.out)); (case side2 => exact HC0_1.out); rintro e w11 ⟨rfl, hb⟩; refine ⟨_, rfl, ?_⟩; replace BK501 := bb BK501 hb; replace HB := am (below_step (by repeat (with_reducible first | exact HB.out | apply bA | apply bN | apply bD | refine bS ?_ ao)) hb); (try clear hb); obtain ⟨hcz12_0, hcz12_1, hfz12_0, hfz12_1⟩ := cf BK501.out) | ((with_reducible refine gate_dst (N := 15) rfl ?_); refine Kd.R_make (Kd.int .i64) _ 3 rfl (N := 15) rfl 58 _ _ rfl ji6 rfl rfl Try.underlying58 (.int .i64 0) 8 info3 rfl (by decide) (by omega) 0 (ok := fun _ => True) (okp := fun _ => True) rfl (fun _ hk => hk) trivial (of_decide_eq_true (by first | (with_reducible assumption) | assumption)) (Nat.le_trans (Nat.mul_le_mul_right _ (of_decide_eq_true (by first | (with_reducible assumption) | assumption) : ji6.toNat ≤ 35184372088832)) (by omega)) (Below.refl _ _) (Nat.le_refl _) ?_; intro v504 w13 ho14 hb hg_ hnew_; clear hg_ hnew_; (first | rw [← Ny503.out] at ho14 | (simp only [Int.reduceToNat] at ho14; rw [← Ny503.out] at ho14)); have HO505 := am (Kd.R_lower ho14 (below_size (by repeat (with_reducible first | exact HB.out | apply bA | apply bN | apply bD | refine bS ?_ ao)))); replace BK501 := bb BK501 hb; replace HB := am (below_step (by repeat (with_reducible first | exact HB.out | apply bA | apply bN | apply bD | refine bS ?_ ao)) hb); clear hb ho14))
     (try simp only [Act.put, List.setIfInBounds_toArray, List.set_cons_zero, List.set_cons_succ])
     go_loopg [5] k (fun kq v5 w' => ∃ (x4_1 : List Int) (x5_1 : Int), v5 = .int .i64 x5_1 ∧ Aside0 (tallymanref15_Dense.l0 kq x4_1 x5_1 a0_0 l0_1 = some (r1, r2)) ∧ Aside0 (kq ≤ k) ∧ Aside0 (Kd.R (Kd.int .i64) 3 w' w.heap.size (fun _ => True) v504 x4_1) ∧ Aside0 (w'.heap[gb501]? = some (.cells #[.int .i64 a0_0, (.slice A0_1 l0_1.length c0_1)] 30 (0, 0))) ∧ Aside0 (Below w.heap.size w w'))
     case atStart => exact ⟨(y503), (0), (by first | rfl | (simp; done) | (simp [*]; done)), H', ⟨Nat.le_refl _⟩, ⟨ru HO505.out⟩, ⟨bu BK501.out⟩, ⟨by repeat (with_reducible first | exact HB.out | apply bA | apply bN | apply bD | refine bS ?_ ao)⟩⟩
     case round =>
      clear H'
      obtain ⟨x4_1, x5_1, rfl, HA, HK1, HO_4, BK501, HB⟩ := hrel
      cases gk with
      | zero => exact absurd HA.out (by simp [tallymanref15_Dense.l0])
      | succ k1 =>
       have H := HA.out
       clear HA
       simp only [tallymanref15_Dense.l0] at H
       by_cases c15 : x5_1 < (l0_1.length : Int)
       ·
        rw [if_pos c15] at H
        have c15b0 : decide (x5_1 < (l0_1.length : Int)) = true := decide_eq_true c15
        clear c15
        by_cases c16 : 0 ≤ x5_1
        ·
         rw [if_pos c16] at H
         have c16b0 : decide (0 ≤ x5_1) = true := decide_eq_true c16
         clear c16
         by_cases c17 : 0 ≤ ((rd_T32 l0_1 x5_1).f0)
         ·
          rw [if_pos c17] at H
          have c17b0 : decide (0 ≤ ((rd_T32 l0_1 x5_1).f0)) = true := decide_eq_true c17
          clear c17
          by_cases c18 : ((rd_T32 l0_1 x5_1).f0) < (x4_1.length : Int)
          ·
           rw [if_pos c18] at H
           have c18b0 : decide (((rd_T32 l0_1 x5_1).f0) < (x4_1.length : Int)) = true := decide_eq_true c18
           clear c18
           obtain ⟨y508, hy508⟩ : ∃ y_ : List Int, y_ = (x4_1.set (((rd_T32 l0_1 x5_1).f0) : Int).toNat ((rd_T32 l0_1 x5_1).f1)) := ⟨_, rfl⟩
           replace H : (tallymanref15_Dense.l0 k1 y508 (wrap64 (x5_1 + 1)) a0_0 l0_1) = some (r1, r2) := by first | (rw [hy508]; with_reducible exact H) | (have H2_ := (Option.bind_some _ _).symm.trans H; rw [hy508]; with_reducible exact H2_) | (have H2_ := (Option.bind_some _ _).symm.trans H; with_reducible exact H2_) | with_reducible exact H | (rw [hy508]; exact H) | exact H
           have Ny508 := Aside0.mk hy508
           clear hy508
           have H' := Aside0.mk H
           clear H
           obtain ⟨hcz20_0, hcz20_1, hfz20_0, hfz20_1⟩ := cf BK501.out
           try go_wp2
           replace HO_4 := am (Kd.R_drew HO_4.out); replace BK501 := am (blk_drew BK501.out); replace HB := am (below_drew1 HB.out)
           have p506 : 0 ≤ (x5_1 : Int) := of_decide_eq_true (by first | (with_reducible assumption) | assumption)
           have q506 : x5_1 < (l0_1.length : Int) := of_decide_eq_true (by first | (with_reducible assumption) | assumption)
           obtain ⟨ad506, e506, hx506_0, hx506_1⟩ := at_T32 HR0_1.out x5_1 p506 q506
           have hw506_1 := hx506_1; have hw506_0 := hx506_0
           cases e506
           replace hx506_0 := (HB.out.cell (World.block_lt_of_cell? w _ hx506_0)).trans hx506_0
           replace hx506_1 := (HB.out.cell (World.block_lt_of_cell? w _ hx506_1)).trans hx506_1
           replace p506 := eq_true p506
           replace q506 := eq_true q506
           have p507 : 0 ≤ (x5_1 : Int) := of_decide_eq_true (by first | (with_reducible assumption) | assumption)
           have q507 : x5_1 < (l0_1.length : Int) := of_decide_eq_true (by first | (with_reducible assumption) | assumption)
           obtain ⟨ad507, e507, hx507_0, hx507_1⟩ := at_T32 HR0_1.out x5_1 p507 q507
           have hw507_1 := hx507_1; have hw507_0 := hx507_0
           obtain rfl : ad506 = ad507 := (by injection e507)
           replace hx507_0 := (HB.out.cell (World.block_lt_of_cell? w _ hx507_0)).trans hx507_0
           replace hx507_1 := (HB.out.cell (World.block_lt_of_cell? w _ hx507_1)).trans hx507_1
           replace p507 := eq_true p507
           replace q507 := eq_true q507
           have p19 : 0 ≤ (((rd_T32 l0_1 x5_1).f0) : Int) := of_decide_eq_true (by first | (with_reducible assumption) | assumption)
           have q19 : (((rd_T32 l0_1 x5_1).f0) : Int) < ((x4_1.length : Int) : Int) := of_decide_eq_true (by first | (with_reducible assumption) | assumption)
           obtain ⟨go19, co19, eo19, gb19, gl19, cl19, HG19⟩ := Kd.R_form HO_4.out (by omega)
           (first | cases eo19 | (injection eo19 with ea_ en_ ec_; (first | subst ea_ | (injection ea_ with ea_; subst ea_)); subst ec_; clear en_))
           have GB19 := Aside0.mk gb19; have GG19 := Aside0.mk HG19
           clear gb19 gl19 HG19
           obtain ⟨hx19_0, hf19_0⟩ := Kd.R_celln 0 HO_4.out (((rd_T32 l0_1 x5_1).f0) : Int) p19 q19
           replace p19 := eq_true p19
           replace q19 := eq_true q19
           have HP22 := Kd.R_putn HO_4.out (((rd_T32 l0_1 x5_1).f0) : Int) ((rd_T32 l0_1 x5_1).f1)
           rw [← Ny508.out] at HP22
           have HQ22 := Aside0.mk HP22
           clear HP22
           refine start_ (n := 15) (S := fun w' => w'.cell? ⟨gb501, 0, none⟩ = some (.int .i64 a0_0) ∧ w'.cell? ⟨gb501, 1, none⟩ = some (.slice (some ad506) l0_1.length c0_1) ∧ w'.cell? (ad506.add ((x5_1).toNat * 2)) = some (.int .i64 ((rd_T32 l0_1 x5_1).f0)) ∧ w'.cell? ⟨(ad506.add ((x5_1).toNat * 2)).block, (ad506.add ((x5_1).toNat * 2)).off + 1, none⟩ = some (.int .i64 ((rd_T32 l0_1 x5_1).f1)) ∧ w'.cell? (ad506.add ((x5_1).toNat * 2)) = some (.int .i64 ((rd_T32 l0_1 x5_1).f0)) ∧ w'.cell? ⟨(ad506.add ((x5_1).toNat * 2)).block, (ad506.add ((x5_1).toNat * 2)).off + 1, none⟩ = some (.int .i64 ((rd_T32 l0_1 x5_1).f1))) (ds := [14]) (tb 0 15) (by kernel_rfl) rfl rfl ⟨(blk_cell BK501.out 0).trans rfl, (blk_cell BK501.out 1).trans rfl, ((HB.out.cell (World.block_lt_of_cell? w _ hw506_0)).trans hw506_0), ((HB.out.cell (World.block_lt_of_cell? w _ hw506_1)).trans hw506_1), ((HB.out.cell (World.block_lt_of_cell? w _ hw507_0)).trans hw507_0), ((HB.out.cell (World.block_lt_of_cell? w _ hw507_1)).trans hw507_1)⟩ (fun hHeld => ?_); refine with_tabW tallymanref15_Dense.tab7 tallymanref15_Dense.bits7 (fun HT_ HW_ => ?_)
           generalize wr.drew = w21 at HO_4 BK501 HB GG19 HQ22 hf19_0 hx19_0 hx506_0 hx506_1 hx507_0 hx507_1 hHeld ⊢
           refine pu 0 (some 23) (v := ?_) (a' := ?_) (tb 1 15) rfl rfl (any_of HT_.out (by kernel_rfl)) (fun _ _ _ h => h) ⟨by rfl, ?_⟩ ?_ ?_; rotate_left; · (intro w'; go_simp; with_reducible rfl)
           rotate_left; · (simp only [Act.put, sa_, sb_, sc_, i64_w, i32_w]; rfl)
           refine pu 1 (some 24) (v := ?_) (a' := ?_) (tb 2 15) rfl rfl (any_of HT_.out (by kernel_rfl)) (fun _ _ _ h => h) ⟨by rfl, ?_⟩ ?_ ?_; rotate_left; · (intro w'; go_simp; with_reducible rfl)
           rotate_left; · (simp only [Act.put, sa_, sb_, sc_, i64_w, i32_w]; rfl)
           refine pu 3 (some 26) (v := ?_) (a' := ?_) #[true, true, false, true, false, false, false, false, false, false, false, false, false, false, false] rfl rfl (any_of HT_.out (by kernel_rfl)) (fun _ _ _ h => h) ⟨by rfl, ?_⟩ ?_ ?_; rotate_left; · (intro w'; go_simp; with_reducible rfl)
           rotate_left; · (simp only [Act.put, sa_, sb_, sc_, i64_w, i32_w]; rfl)
           refine pu 7 (some 30) (v := ?_) (a' := ?_) #[true, true, false, true, false, false, false, true, false, false, false, false, false, false, false] rfl rfl (any_of HT_.out (by kernel_rfl)) (fun _ _ _ h => h) ⟨by rfl, ?_⟩ ?_ ?_; rotate_left; · (intro w'; go_simp; with_reducible rfl)
           rotate_left; · (simp only [Act.put, sa_, sb_, sc_, i64_w, i32_w]; rfl)
           refine pu 9 (some 32) (v := ?_) (a' := ?_) #[true, true, false, true, false, false, false, true, false, true, false, false, false, false, false] rfl rfl (any_of HT_.out (by kernel_rfl)) (fun _ _ _ h => h) ⟨by rfl, ?_⟩ ?_ ?_; rotate_left; · (intro w'; go_simp; with_reducible rfl)
           rotate_left; · (simp only [Act.put, sa_, sb_, sc_, i64_w, i32_w]; rfl)
           refine tk 2 (some 25) (v := ?_) (a' := ?_) #[true, true, true, true, false, false, false, true, false, true, false, false, false, false, false] rfl rfl (take_ofW HT_.out HW_.out (by kernel_rfl)) (fun _ _ _ h => h) ⟨by rfl, ?_⟩ hHeld ?_ ?_; rotate_left; · (rintro w' ⟨s0, s1, s2, s3, s4, s5⟩; go_simp; with_reducible rfl)
           rotate_left; · (simp only [Act.put, sa_, sb_, sc_, i64_w, i32_w]; rfl)
           refine pu 4 (some 27) (v := ?_) (a' := ?_) #[true, true, true, true, true, false, false, true, false, true, false, false, false, false, false] rfl rfl (any_of HT_.out (by kernel_rfl)) (fun _ _ _ h => h) ⟨by rfl, ?_⟩ ?_ ?_; rotate_left; · (intro w'; go_simp; with_reducible rfl)
           rotate_left; · (simp only [Act.put, sa_, sb_, sc_, i64_w, i32_w]; rfl)
           refine pu 5 (some 28) (v := ?_) (a' := ?_) #[true, true, true, true, true, true, false, true, false, true, false, false, false, false, false] rfl rfl (any_of HT_.out (by kernel_rfl)) (fun _ _ _ h => h) ⟨by rfl, ?_⟩ ?_ ?_; rotate_left; · (intro w'; go_simp; with_reducible rfl)
           rotate_left; · (simp only [Act.put, sa_, sb_, sc_, i64_w, i32_w]; rfl)
           refine tk 6 (some 29) (v := ?_) (a' := ?_) #[true, true, true, true, true, true, true, true, false, true, false, false, false, false, false] rfl rfl (take_ofW HT_.out HW_.out (by kernel_rfl)) (fun _ _ _ h => h) ⟨by rfl, ?_⟩ hHeld ?_ ?_; rotate_left; · (rintro w' ⟨s0, s1, s2, s3, s4, s5⟩; go_simp; with_reducible rfl)
           rotate_left; · (simp only [Act.put, sa_, sb_, sc_, i64_w, i32_w]; rfl)
           refine tk 8 (some 31) (v := ?_) (a' := ?_) (tb 10 15) rfl rfl (take_ofW HT_.out HW_.out (by kernel_rfl)) (fun _ _ _ h => h) ⟨by rfl, ?_⟩ hHeld ?_ ?_; rotate_left; · (rintro w' ⟨s0, s1, s2, s3, s4, s5⟩; go_simp; with_reducible rfl)
           rotate_left; · (simp only [Act.put, sa_, sb_, sc_, i64_w, i32_w]; rfl)
           refine pu 10 (some 33) (v := ?_) (a' := ?_) (tb 11 15) rfl rfl (any_of HT_.out (by kernel_rfl)) (fun _ _ _ h => h) ⟨by rfl, ?_⟩ ?_ ?_; rotate_left; · (intro w'; go_simp; with_reducible rfl)
           rotate_left; · (simp only [Act.put, sa_, sb_, sc_, i64_w, i32_w]; rfl)
           refine pu 11 (some 34) (v := ?_) (a' := ?_) (tb 12 15) rfl rfl (any_of HT_.out (by kernel_rfl)) (fun _ _ _ h => h) ⟨by rfl, ?_⟩ ?_ ?_; rotate_left; · (intro w'; go_simp; with_reducible rfl)
           rotate_left; · (simp only [Act.put, sa_, sb_, sc_, i64_w, i32_w]; rfl)
           refine tk 12 (some 35) (v := ?_) (a' := ?_) (tb 13 15) rfl rfl (take_ofW HT_.out HW_.out (by kernel_rfl)) (fun _ _ _ h => h) ⟨by rfl, ?_⟩ hHeld ?_ ?_; rotate_left; · (rintro w' ⟨s0, s1, s2, s3, s4, s5⟩; go_simp; with_reducible rfl)
           rotate_left; · (simp only [Act.put, sa_, sb_, sc_, i64_w, i32_w]; rfl)
           refine pu 13 (some 36) (v := ?_) (a' := ?_) (tb 14 15) rfl rfl (any_of HT_.out (by kernel_rfl)) (fun _ _ _ h => h) ⟨by rfl, ?_⟩ ?_ ?_; rotate_left; · (intro w'; go_simp; with_reducible rfl)
           rotate_left; · (simp only [Act.put, sa_, sb_, sc_, i64_w, i32_w]; rfl)
           refine last_ (i := 14) (N := none) (tb 15 15) rfl rfl (one_of HT_.out (by kernel_rfl)) (by decide) (fun K hK => ?_)
           refine skip_ (w1 := ?_) (by rfl) rfl ?_ ?_
           rotate_left
           ·
            go_simp
            rfl
           refine hK.out _ _ ?_
           clear hK K
           refine done_ (done_of HT_.out (by kernel_rfl)) ?_
           try go_wp2
           go_roundg k1
           case measure => have := HK1.out; omega
           case rel => exact ⟨(y508), (wrap64 (x5_1 + 1)), (by first | rfl | (simp; done) | (simp [*]; done)), H', ⟨by have := HK1.out; omega⟩, ⟨ru HQ22.out⟩, ⟨by (with_reducible repeat (first | refine blk_drewN ?_ _ | refine blk_drew ?_ | refine blk_alloc ?_ _)); refine blk_far ?_ (by have h_ := Kd.R_ne HO_4.out BK501.out (by decide); intro e_; exact h_ (by rw [e_]; rfl)) _; exact bu BK501.out⟩, ⟨by repeat (with_reducible first | exact HB.out | apply bA | apply bN | apply bD | refine bS ?_ ao)⟩⟩
          ·
           rw [if_neg c18] at H
           exact absurd H (by simp)
         ·
          rw [if_neg c17] at H
          exact absurd H (by simp)
        ·
         rw [if_neg c16] at H
         exact absurd H (by simp)
       ·
        rw [if_neg c15] at H
        have c15b0 : decide (x5_1 < (l0_1.length : Int)) = false := decide_eq_false c15
        clear c15
        replace H := Option.bind_eq_some_iff.mp H
        obtain ⟨⟨t509, t510⟩, A230, H⟩ := H
        try dsimp only at H
        have A23 := Aside0.mk A230
        clear A230
        obtain ⟨y513, hy513⟩ : ∃ y_ : List Int, y_ = (([(a0_0) % 256, 1] : List Int)) := ⟨_, rfl⟩
        replace H : (if y513.length + t509.length < 140737488355328 then (some ((y513 ++ t509), 0)) else (none)) = some (r1, r2) := by first | (rw [hy513]; with_reducible exact H) | (have H2_ := (Option.bind_some _ _).symm.trans H; rw [hy513]; with_reducible exact H2_) | (have H2_ := (Option.bind_some _ _).symm.trans H; with_reducible exact H2_) | with_reducible exact H | (rw [hy513]; exact H) | exact H
        have Ny513 := Aside0.mk hy513
        clear hy513
        by_cases c24 : y513.length + t509.length < 140737488355328
        ·
         rw [if_pos c24] at H
         have LMc24 := Aside0.mk c24
         clear c24
         obtain ⟨y516, hy516⟩ : ∃ y_ : List Int, y_ = (y513 ++ t509) := ⟨_, rfl⟩
         replace H : (some (y516, 0)) = some (r1, r2) := by first | (rw [hy516]; with_reducible exact H) | (have H2_ := (Option.bind_some _ _).symm.trans H; rw [hy516]; with_reducible exact H2_) | (have H2_ := (Option.bind_some _ _).symm.trans H; with_reducible exact H2_) | with_reducible exact H | (rw [hy516]; exact H) | exact H
         have Ny516 := Aside0.mk hy516
         clear hy516
         simp only [Option.some.injEq, Prod.mk.injEq] at H
         obtain ⟨rfl, rfl⟩ := H
         obtain ⟨hcz25_0, hcz25_1, hfz25_0, hfz25_1⟩ := cf BK501.out
         obtain ⟨Ao26, co26, eo26⟩ := Kd.R_slice HO_4.out
         subst eo26
         go_wp2_with (first | ((with_reducible refine gate_callee (f := 54) rfl ?_); refine goesL_ (some 39) rfl rfl Try.func54 (by kernel_rfl) rfl #[.slice Ao26 x4_1.length co26] rfl (by (try simp only [List.map_toArray, List.map_cons, List.map_nil]); first | done | rfl) ?_; (with_reducible refine (tallymanref15_Pack.calls k1 _ _ x4_1 t509 t510 _ ?side1 ?side2 A23.out).mono ?_); (case side1 => repeat (first | exact (Kd.R_reads' HO_4.out).2.2 | (with_reducible refine Kd.C_alloc ?_ _) | (with_reducible refine Kd.C_drewN ?_ _) | (with_reducible refine Kd.C_drew ?_))); (case side2 => exact (Kd.R_reads' HO_4.out).2.1); rintro e w27 ⟨v511, rfl, ho0, hb⟩; refine ⟨_, rfl, ?_⟩; have HO512 := am (Kd.R_lower ho0 (below_size (by repeat (with_reducible first | exact HB.out | apply bA | apply bN | apply bD | refine bS ?_ ao)))); replace HO_4 := rb HO_4 hb; replace BK501 := bb BK501 hb; replace HB := am (below_step (by repeat (with_reducible first | exact HB.out | apply bA | apply bN | apply bD | refine bS ?_ ao)) hb); (try clear hb); (try clear ho0); obtain ⟨hcz28_0, hcz28_1, hfz28_0, hfz28_1⟩ := cf BK501.out) | ((with_reducible refine gate_dst (N := 45) rfl ?_); refine Kd.R_lit (Kd.int .u8) _ 5 ?hg (N := 45) ?hd (xs := ([(a0_0) % 256, 1] : List Int)) (inner := [.int .u8 ((a0_0) % 256), .int .u8 1]) (ok := fun _ => True) (okp := fun _ => True) ?hr ?hp (fun _ hk => hk) trivial (Below.refl _ _) (Nat.le_refl _) (by simp) ?_; (case hd => rfl); (case hg => rfl); (case hr => go_simp; try rfl); (case hp => exact (Reps.one (show Kd.M (Kd.int .u8) _ _ _ ((a0_0) % 256) [.int .u8 ((a0_0) % 256)] from rfl) (Reps.one (show Kd.M (Kd.int .u8) _ _ _ 1 [.int .u8 1] from rfl) (Reps.none _ _)))); intro v514 w29 ho30 hb hg_ hnew_; clear hg_ hnew_; (first | rw [← Ny513.out] at ho30 | (simp only [Int.reduceToNat] at ho30; rw [← Ny513.out] at ho30)); have HO515 := am (Kd.R_lower (Kd.R_new' ho30 (Kd.R_lt (ru (HO512.out)))) (below_size (by repeat (with_reducible first | exact HB.out | apply bA | apply bN | apply bD | refine bS ?_ ao)))); replace HO_4 := rb HO_4 hb; replace HO512 := am (Kd.R_elder' (ru (HO512.out)) (Kd.R_base ho30) hb); replace BK501 := bb BK501 hb; replace HB := am (below_step (by repeat (with_reducible first | exact HB.out | apply bA | apply bN | apply bD | refine bS ?_ ao)) hb); clear hb ho30; obtain ⟨Ao32, co32, eo32⟩ := Kd.R_slice HO512.out; subst eo32) | ((with_reducible refine gate_builtin (b := .append) (xs := #[.tmp 45, .tmp 46]) rfl ?_); at_builtin; refine Kd.R_append_rows (Kd.int .u8) (w0 := w) w.heap.size rfl (.tmp 45) (.tmp 46) 33 5 (.int .u8 0) 1 rfl Try.underlying33 info5 rfl (by decide) (by omega) v514 y513 t509 _ _ _ (fun k_ => nb Ao32 t509.length co32 k_) (fun _ => False) rfl rfl ?aO ?aR (fun _ _ h => h) (fun _ h => h.elim) ?aF ?aB ?aS ?aL ?_; (case aR => repeat (first | exact (Kd.R_reads' HO512.out).2.2 | (with_reducible refine Kd.C_alloc ?_ _) | (with_reducible refine Kd.C_drewN ?_ _) | (with_reducible refine Kd.C_drew ?_))); (case aB => exact (by repeat (with_reducible first | exact HB.out | apply bA | apply bN | apply bD | refine bS ?_ ao))); (case aF => exact (fun k_ hk => Kd.fresh' (Kd.R_lt (ru (HO512.out))) k_ hk)); (case aO => exact (ru (Kd.R_mono HO515.out (fun _ hk => hk.2)))); (case aS => exact (below_size (by repeat (with_reducible first | exact HB.out | apply bA | apply bN | apply bD | refine bS ?_ ao)))); (case aL => have := LMc24.out; omega); intro v517 w31 ho hb hg hat; rw [← Ny516.out] at ho; have HO518 := am (ho); replace HO_4 := am (Kd.R_over' (ru (HO_4.out)) (Kd.R_typed (ru (HO515.out))) (by decide) hg); replace BK501 := am (blk_grown (g := gb501) (o := .cells #[.int .i64 a0_0, .slice A0_1 l0_1.length c0_1] 30 (0, 0)) (bu BK501.out) hg (Kd.R_ne HO515.out BK501.out (by decide))); replace HO512 := am (Kd.R_after (ok := (fun _ => True)) (ru (HO512.out)) hg hat); replace HB := am (hb); clear HO515; clear ho hb hg hat))
         go_ret2
         exact ⟨_, by first | rfl | (simp [errW_none, errW_some] <;> rfl) | (simp only [← hji4, ← hji6]; first | rfl | (simp [errW_none, errW_some] <;> rfl)) | (simp [*, errW_none, errW_some] <;> rfl), by (with_reducible repeat (first | apply Kd.R_alloc | apply Kd.R_drewN | apply Kd.R_drew)); exact Kd.R_mono HO518.out (fun _ hk => trivial), by repeat (with_reducible first | exact HB.out | apply bA | apply bN | apply bD | refine bS ?_ ao)⟩
        ·
         rw [if_neg c24] at H
         exact absurd H (by simp)
    ·
     rw [if_neg c8] at H
     exact absurd H (by simp)
   ·
    rw [if_neg c7] at H
    exact absurd H (by simp)
  ·
   rw [if_neg c5] at H
   exact absurd H (by simp)
 ·
  rw [if_neg c3] at H
  have c3b0 : (t502 == 0) = false := beq_eq_false_iff_ne.mpr c3
  have c3b1 : (t502 != 0) = true := bne_iff_ne.mpr c3
  simp only [Option.some.injEq, Prod.mk.injEq] at H
  obtain ⟨rfl, rfl⟩ := H
  go_enter Try.func51, Try.ntmps51
  go_wp2_with (first | ((with_reducible refine gate_dst (N := 1) rfl ?_); refine box_event ?hg (N := 1) ?hd (cs := #[.int .i64 a0_0, .slice A0_1 l0_1.length c0_1]) (t := 30) ?hr ?_; (case hd => rfl); (case hg => rfl); (case hr => go_simp; try rfl); intro gb501 hg w33 hbox hb; obtain ⟨HBn, GW501⟩ := tri hg hb (hu HB.out); have GE501 := GW501; have BK501 := am (hbox); clear HB; have HB := HBn; clear HBn; clear hb hbox hg; obtain ⟨hcz34_0, hcz34_1, hfz34_0, hfz34_1⟩ := cf BK501.out) | ((with_reducible refine gate_callee (f := 36) rfl ?_); refine goesL_ (some 9) rfl rfl Try.func36 (by kernel_rfl) rfl #[.agg #[.int .i64 a0_0, .slice A0_1 l0_1.length c0_1]] rfl (by (try simp only [List.map_toArray, List.map_cons, List.map_nil]); first | done | rfl) ?_; (with_reducible refine (tallymanref14_Check.calls k a0_0 _ _ l0_1 t502 _ ?side1 ?side2 A2.out).mono ?_); (case side1 => exact cu (Kd.C_below HR0_1.out HB.out)); (case side2 => exact HC0_1.out); rintro e w35 ⟨rfl, hb⟩; refine ⟨_, rfl, ?_⟩; replace BK501 := bb BK501 hb; replace HB := am (below_step (by repeat (with_reducible first | exact HB.out | apply bA | apply bN | apply bD | refine bS ?_ ao)) hb); (try clear hb)))
  go_ret2
  exact ⟨_, by first | rfl | (simp [errW_none, errW_some] <;> rfl) | (simp [*, errW_none, errW_some] <;> rfl), by first | exact Kd.R_nil _ _ _ _ _ | exact Kd.V_nil _ _ _ _ _, by repeat (with_reducible first | exact HB.out | apply bA | apply bN | apply bD | refine bS ?_ ao)⟩

/-! ### tallymanref15_Bytes: function 52 -/
def tallymanref15_Bytes.f (k : Nat) (a0_0 : Int) (l0_1 : List (S32)) : Option (List Int × Int) := (tallymanref15_Sparse.f k a0_0 l0_1).bind fun bt520 => ((tallymanref15_Dense.f k a0_0 l0_1).bind fun bt524 => (if bt520.2 = 0 then (if (bt520.1.length : Int) ≥ (bt524.1.length : Int) then (some (bt524.1, 0)) else (some (bt520.1, bt520.2))) else (some (bt520.1, bt520.2))))
theorem tallymanref15_Bytes.mono : ∀ a0 a1 k, LeO (tallymanref15_Bytes.f k a0 a1) (tallymanref15_Bytes.f (k + 1) a0 a1) := by
 intro a0 a1 k
 unfold tallymanref15_Bytes.f
 repeat' first
   | (with_reducible exact tallymanref15_Dense.mono _ _ _)
   | (with_reducible exact tallymanref15_Sparse.mono _ _ _)
   | (with_reducible exact LeO.refl _)
   | (with_reducible exact LeO.none _)
   | (with_reducible refine LeO.ite ?_ ?_)
   | (with_reducible refine LeO.bind ?_ (fun _ => ?_))
set_option maxHeartbeats 8000000 in
set_option maxRecDepth 100000 in
theorem tallymanref15_Bytes.calls (k : Nat) (a0_0 : Int) (A0_1 : Option Addr) (c0_1 : Nat) (l0_1 : List (S32)) (r1 : List Int) (r2 : Int) (w : World) (hr0_1 : Kd.C k32 w A0_1 l0_1.length l0_1) (hc0_1 : l0_1.length ≤ c0_1) (h : tallymanref15_Bytes.f k a0_0 l0_1 = some (r1, r2)) :
  Calls Try.prog 52 #[.agg #[.int .i64 a0_0, .slice A0_1 l0_1.length c0_1]] w fun e w' => ∃ v0_ : Value, e = .returned (.tuple #[v0_, .int .i64 r2]) ∧ Kd.R (Kd.int .u8) 5 w' w.heap.size (fun _ => True) v0_ r1 ∧ Below w.heap.size w w' := by
 have hu30 := Try.underlying30
 have HR0_1 := Aside0.mk hr0_1
 have HC0_1 := Aside0.mk hc0_1
 clear hr0_1 hc0_1
 have HB := am (Below.refl w.heap.size w)
 have H : ((tallymanref15_Sparse.f k a0_0 l0_1).bind fun bt520 => ((tallymanref15_Dense.f k a0_0 l0_1).bind fun bt524 => (if bt520.2 = 0 then (if (bt520.1.length : Int) ≥ (bt524.1.length : Int) then (some (bt524.1, 0)) else (some (bt520.1, bt520.2))) else (some (bt520.1, bt520.2))))) = some (r1, r2) := h
 clear h
 replace H := Option.bind_eq_some_iff.mp H
 obtain ⟨⟨t520, t523⟩, A20, H⟩ := H
 try dsimp only at H
 have A2 := Aside0.mk A20
 clear A20
 replace H := Option.bind_eq_some_iff.mp H
 obtain ⟨⟨t524, t527⟩, A30, H⟩ := H
 try dsimp only at H
 have A3 := Aside0.mk A30
 clear A30
 by_cases c4 : t523 = 0
 ·
  rw [if_pos c4] at H
  have c4b0 : (t523 == 0) = true := beq_iff_eq.mpr c4
  have c4b1 : (t523 != 0) = false := bne_eq_false_iff_eq.mpr c4
  clear c4
  by_cases c5 : (t520.length : Int) ≥ (t524.length : Int)
  ·
   rw [if_pos c5] at H
   have c5b0 : decide ((t524.length : Int) ≤ (t520.length : Int)) = true := decide_eq_true c5
   have c5b1 : decide (t524.length ≤ t520.length) = true := decide_eq_true (Int.ofNat_le.mp c5)
   clear c5
   simp only [Option.some.injEq, Prod.mk.injEq] at H
   obtain ⟨rfl, rfl⟩ := H
   go_enter Try.func52, Try.ntmps52
   go_wp2_with (first | ((with_reducible refine gate_dst (N := 1) rfl ?_); (try (refine gate_guard (by rfl) ?_; dsimp only)); refine box_event ?hg (N := 1) ?hd (cs := #[.int .i64 a0_0, .slice A0_1 l0_1.length c0_1]) (t := 30) ?hr ?_; (case hd => rfl); (case hg => rfl); (case hr => go_simp; try rfl); intro gb519 hg w6 hbox hb; obtain ⟨HBn, GW519⟩ := tri hg hb (hu HB.out); have GE519 := GW519; have BK519 := am (hbox); clear HB; have HB := HBn; clear HBn; clear hb hbox hg; obtain ⟨hcz7_0, hcz7_1, hfz7_0, hfz7_1⟩ := cf BK519.out) | ((with_reducible refine gate_callee (f := 50) rfl ?_); refine goesL_ (some 10) rfl rfl Try.func50 (by kernel_rfl) rfl #[.agg #[.int .i64 a0_0, .slice A0_1 l0_1.length c0_1]] rfl (by (try simp only [List.map_toArray, List.map_cons, List.map_nil]); first | done | rfl) ?_; (with_reducible refine (tallymanref15_Sparse.calls k a0_0 _ _ l0_1 t520 t523 _ ?side1 ?side2 A2.out).mono ?_); (case side1 => exact cu (Kd.C_below HR0_1.out HB.out)); (case side2 => exact HC0_1.out); rintro e w8 ⟨v521, rfl, ho0, hb⟩; refine ⟨_, rfl, ?_⟩; have HO522 := am (Kd.R_lower ho0 (below_size (by repeat (with_reducible first | exact HB.out | apply bA | apply bN | apply bD | refine bS ?_ ao)))); replace BK519 := bb BK519 hb; replace HB := am (below_step (by repeat (with_reducible first | exact HB.out | apply bA | apply bN | apply bD | refine bS ?_ ao)) hb); (try clear hb); (try clear ho0); obtain ⟨hcz9_0, hcz9_1, hfz9_0, hfz9_1⟩ := cf BK519.out) | ((with_reducible refine gate_callee (f := 51) rfl ?_); refine goesL_ (some 15) rfl rfl Try.func51 (by kernel_rfl) rfl #[.agg #[.int .i64 a0_0, .slice A0_1 l0_1.length c0_1]] rfl (by (try simp only [List.map_toArray, List.map_cons, List.map_nil]); first | done | rfl) ?_; (with_reducible refine (tallymanref15_Dense.calls k a0_0 _ _ l0_1 t524 t527 _ ?side1 ?side2 A3.out).mono ?_); (case side1 => exact cu (Kd.C_below HR0_1.out HB.out)); (case side2 => exact HC0_1.out); rintro e w10 ⟨v525, rfl, ho0, hb⟩; refine ⟨_, rfl, ?_⟩; have HO526 := am (Kd.R_lower (Kd.R_new' ho0 (Kd.R_lt (ru (HO522.out)))) (below_size (by repeat (with_reducible first | exact HB.out | apply bA | apply bN | apply bD | refine bS ?_ ao)))); replace HO522 := am (Kd.R_elder' (ru (HO522.out)) (Kd.R_base ho0) hb); replace BK519 := bb BK519 hb; replace HB := am (below_step (by repeat (with_reducible first | exact HB.out | apply bA | apply bN | apply bD | refine bS ?_ ao)) hb); (try clear hb); (try clear ho0); obtain ⟨Ao11, co11, eo11⟩ := Kd.R_slice HO522.out; subst eo11; obtain ⟨Ao12, co12, eo12⟩ := Kd.R_slice HO526.out; subst eo12))
   go_ret2
   exact ⟨_, by first | rfl | (simp [errW_none, errW_some] <;> rfl) | (simp [*, errW_none, errW_some] <;> rfl), by (with_reducible repeat (first | apply Kd.R_alloc | apply Kd.R_drewN | apply Kd.R_drew)); exact Kd.R_mono HO526.out (fun _ hk => trivial), by repeat (with_reducible first | exact HB.out | apply bA | apply bN | apply bD | refine bS ?_ ao)⟩
  ·
   rw [if_neg c5] at H
   have c5b0 : decide ((t524.length : Int) ≤ (t520.length : Int)) = false := decide_eq_false c5
   have c5b1 : decide (t524.length ≤ t520.length) = false := decide_eq_false (fun h => c5 (Int.ofNat_le.mpr h))
   clear c5
   simp only [Option.some.injEq, Prod.mk.injEq] at H
   obtain ⟨rfl, rfl⟩ := H
   go_enter Try.func52, Try.ntmps52
   go_wp2_with (first | ((with_reducible refine gate_dst (N := 1) rfl ?_); (try (refine gate_guard (by rfl) ?_; dsimp only)); refine box_event ?hg (N := 1) ?hd (cs := #[.int .i64 a0_0, .slice A0_1 l0_1.length c0_1]) (t := 30) ?hr ?_; (case hd => rfl); (case hg => rfl); (case hr => go_simp; try rfl); intro gb519 hg w13 hbox hb; obtain ⟨HBn, GW519⟩ := tri hg hb (hu HB.out); have GE519 := GW519; have BK519 := am (hbox); clear HB; have HB := HBn; clear HBn; clear hb hbox hg; obtain ⟨hcz14_0, hcz14_1, hfz14_0, hfz14_1⟩ := cf BK519.out) | ((with_reducible refine gate_callee (f := 50) rfl ?_); refine goesL_ (some 10) rfl rfl Try.func50 (by kernel_rfl) rfl #[.agg #[.int .i64 a0_0, .slice A0_1 l0_1.length c0_1]] rfl (by (try simp only [List.map_toArray, List.map_cons, List.map_nil]); first | done | rfl) ?_; (with_reducible refine (tallymanref15_Sparse.calls k a0_0 _ _ l0_1 t520 t523 _ ?side1 ?side2 A2.out).mono ?_); (case side1 => exact cu (Kd.C_below HR0_1.out HB.out)); (case side2 => exact HC0_1.out); rintro e w15 ⟨v521, rfl, ho0, hb⟩; refine ⟨_, rfl, ?_⟩; have HO522 := am (Kd.R_lower ho0 (below_size (by repeat (with_reducible first | exact HB.out | apply bA | apply bN | apply bD | refine bS ?_ ao)))); replace BK519 := bb BK519 hb; replace HB := am (below_step (by repeat (with_reducible first | exact HB.out | apply bA | apply bN | apply bD | refine bS ?_ ao)) hb); (try clear hb); (try clear ho0); obtain ⟨hcz16_0, hcz16_1, hfz16_0, hfz16_1⟩ := cf BK519.out) | ((with_reducible refine gate_callee (f := 51) rfl ?_); refine goesL_ (some 15) rfl rfl Try.func51 (by kernel_rfl) rfl #[.agg #[.int .i64 a0_0, .slice A0_1 l0_1.length c0_1]] rfl (by (try simp only [List.map_toArray, List.map_cons, List.map_nil]); first | done | rfl) ?_; (with_reducible refine (tallymanref15_Dense.calls k a0_0 _ _ l0_1 t524 t527 _ ?side1 ?side2 A3.out).mono ?_); (case side1 => exact cu (Kd.C_below HR0_1.out HB.out)); (case side2 => exact HC0_1.out); rintro e w17 ⟨v525, rfl, ho0, hb⟩; refine ⟨_, rfl, ?_⟩; have HO526 := am (Kd.R_lower (Kd.R_new' ho0 (Kd.R_lt (ru (HO522.out)))) (below_size (by repeat (with_reducible first | exact HB.out | apply bA | apply bN | apply bD | refine bS ?_ ao)))); replace HO522 := am (Kd.R_elder' (ru (HO522.out)) (Kd.R_base ho0) hb); replace BK519 := bb BK519 hb; replace HB := am (below_step (by repeat (with_reducible first | exact HB.out | apply bA | apply bN | apply bD | refine bS ?_ ao)) hb); (try clear hb); (try clear ho0); obtain ⟨Ao18, co18, eo18⟩ := Kd.R_slice HO522.out; subst eo18; obtain ⟨Ao19, co19, eo19⟩ := Kd.R_slice HO526.out; subst eo19))
   go_ret2
   exact ⟨_, by first | rfl | (simp [errW_none, errW_some] <;> rfl) | (simp [*, errW_none, errW_some] <;> rfl), by (with_reducible repeat (first | apply Kd.R_alloc | apply Kd.R_drewN | apply Kd.R_drew)); exact Kd.R_mono HO522.out (fun _ hk => trivial), by repeat (with_reducible first | exact HB.out | apply bA | apply bN | apply bD | refine bS ?_ ao)⟩
 ·
  rw [if_neg c4] at H
  have c4b0 : (t523 == 0) = false := beq_eq_false_iff_ne.mpr c4
  have c4b1 : (t523 != 0) = true := bne_iff_ne.mpr c4
  simp only [Option.some.injEq, Prod.mk.injEq] at H
  obtain ⟨rfl, rfl⟩ := H
  go_enter Try.func52, Try.ntmps52
  go_wp2_with (first | ((with_reducible refine gate_dst (N := 1) rfl ?_); (try (refine gate_guard (by rfl) ?_; dsimp only)); refine box_event ?hg (N := 1) ?hd (cs := #[.int .i64 a0_0, .slice A0_1 l0_1.length c0_1]) (t := 30) ?hr ?_; (case hd => rfl); (case hg => rfl); (case hr => go_simp; try rfl); intro gb519 hg w20 hbox hb; obtain ⟨HBn, GW519⟩ := tri hg hb (hu HB.out); have GE519 := GW519; have BK519 := am (hbox); clear HB; have HB := HBn; clear HBn; clear hb hbox hg; obtain ⟨hcz21_0, hcz21_1, hfz21_0, hfz21_1⟩ := cf BK519.out) | ((with_reducible refine gate_callee (f := 50) rfl ?_); refine goesL_ (some 10) rfl rfl Try.func50 (by kernel_rfl) rfl #[.agg #[.int .i64 a0_0, .slice A0_1 l0_1.length c0_1]] rfl (by (try simp only [List.map_toArray, List.map_cons, List.map_nil]); first | done | rfl) ?_; (with_reducible refine (tallymanref15_Sparse.calls k a0_0 _ _ l0_1 t520 t523 _ ?side1 ?side2 A2.out).mono ?_); (case side1 => exact cu (Kd.C_below HR0_1.out HB.out)); (case side2 => exact HC0_1.out); rintro e w22 ⟨v521, rfl, ho0, hb⟩; refine ⟨_, rfl, ?_⟩; have HO522 := am (Kd.R_lower ho0 (below_size (by repeat (with_reducible first | exact HB.out | apply bA | apply bN | apply bD | refine bS ?_ ao)))); replace BK519 := bb BK519 hb; replace HB := am (below_step (by repeat (with_reducible first | exact HB.out | apply bA | apply bN | apply bD | refine bS ?_ ao)) hb); (try clear hb); (try clear ho0); obtain ⟨hcz23_0, hcz23_1, hfz23_0, hfz23_1⟩ := cf BK519.out) | ((with_reducible refine gate_callee (f := 51) rfl ?_); refine goesL_ (some 15) rfl rfl Try.func51 (by kernel_rfl) rfl #[.agg #[.int .i64 a0_0, .slice A0_1 l0_1.length c0_1]] rfl (by (try simp only [List.map_toArray, List.map_cons, List.map_nil]); first | done | rfl) ?_; (with_reducible refine (tallymanref15_Dense.calls k a0_0 _ _ l0_1 t524 t527 _ ?side1 ?side2 A3.out).mono ?_); (case side1 => exact cu (Kd.C_below HR0_1.out HB.out)); (case side2 => exact HC0_1.out); rintro e w24 ⟨v525, rfl, ho0, hb⟩; refine ⟨_, rfl, ?_⟩; have HO526 := am (Kd.R_lower (Kd.R_new' ho0 (Kd.R_lt (ru (HO522.out)))) (below_size (by repeat (with_reducible first | exact HB.out | apply bA | apply bN | apply bD | refine bS ?_ ao)))); replace HO522 := am (Kd.R_elder' (ru (HO522.out)) (Kd.R_base ho0) hb); replace BK519 := bb BK519 hb; replace HB := am (below_step (by repeat (with_reducible first | exact HB.out | apply bA | apply bN | apply bD | refine bS ?_ ao)) hb); (try clear hb); (try clear ho0)))
  go_ret2
  exact ⟨_, by first | rfl | (simp [errW_none, errW_some] <;> rfl) | (simp [*, errW_none, errW_some] <;> rfl), by (with_reducible repeat (first | apply Kd.R_alloc | apply Kd.R_drewN | apply Kd.R_drew)); exact Kd.R_mono HO522.out (fun _ hk => trivial), by repeat (with_reducible first | exact HB.out | apply bA | apply bN | apply bD | refine bS ?_ ao)⟩

/-! ### tallymanref15_Unpack: function 55 -/
mutual
def tallymanref15_Unpack.l0 : Nat → List Int → List Int → Int → Option (List Int)
 | 0, _, _, _ => none
 | k + 1, x0, x3, x4 => if x4 < (wrap64 ((wrap64 ((x0.length : Int) / 3)) * 4)) then (tallymanref15_Unpack.l1 k x0 x3 x4 0 0) else (some x3)
def tallymanref15_Unpack.l1 : Nat → List Int → List Int → Int → Int → Int → Option (List Int)
 | 0, _, _, _, _, _ => none
 | k + 1, x0, x3, x4, x5, x6 => if x6 < 6 then (if 0 ≤ (wrap64 (Int.tdiv (wrap64 ((wrap64 (6 * x4)) + x6)) 8)) then (if (wrap64 (Int.tdiv (wrap64 ((wrap64 (6 * x4)) + x6)) 8)) < (x0.length : Int) then (if 0 ≤ (IntKind.u64.wrap (Int.tmod (wrap64 ((wrap64 (6 * x4)) + x6)) 8)) then (if 0 ≤ (IntKind.u64.wrap (x6)) then (tallymanref15_Unpack.l1 k x0 x3 x4 (wrap64 (x5 + (shl .i64 (wrap64 (Int.tmod (shr .u8 (rd x0 (wrap64 (Int.tdiv (wrap64 ((wrap64 (6 * x4)) + x6)) 8))) (IntKind.u64.wrap (Int.tmod (wrap64 ((wrap64 (6 * x4)) + x6)) 8))) 2)) (IntKind.u64.wrap (x6))))) (wrap64 (x6 + 1))) else (none)) else (none)) else (none)) else (none)) else (if x3.length < 17592186044416 then (tallymanref15_Unpack.l0 k x0 (x3 ++ [x5]) (wrap64 (x4 + 1))) else (none))
end
def tallymanref15_Unpack.f (k : Nat) (l0 : List Int) : Option (List Int) := tallymanref15_Unpack.l0 k l0 ([] : List Int) 0
theorem tallymanref15_Unpack.mono_l : ∀ k, (∀ y0 y1 y2, LeO (tallymanref15_Unpack.l0 k y0 y1 y2) (tallymanref15_Unpack.l0 (k + 1) y0 y1 y2)) ∧ (∀ y0 y1 y2 y3 y4, LeO (tallymanref15_Unpack.l1 k y0 y1 y2 y3 y4) (tallymanref15_Unpack.l1 (k + 1) y0 y1 y2 y3 y4))
 | 0 => ⟨fun _ _ _ r h => by simp [tallymanref15_Unpack.l0] at h, fun _ _ _ _ _ r h => by simp [tallymanref15_Unpack.l1] at h⟩
 | k + 1 => by
  obtain ⟨ih0, ih1⟩ := tallymanref15_Unpack.mono_l k
  refine ⟨?_, ?_⟩
  ·
   intro y0 y1 y2
   unfold tallymanref15_Unpack.l0
   repeat' first
   | (with_reducible exact ih0 _ _ _)
   | (with_reducible exact ih1 _ _ _ _ _)
   | (with_reducible exact LeO.refl _)
   | (with_reducible exact LeO.none _)
   | (with_reducible refine LeO.ite ?_ ?_)
   | (with_reducible refine LeO.bind ?_ (fun _ => ?_))
  ·
   intro y0 y1 y2 y3 y4
   unfold tallymanref15_Unpack.l1
   repeat' first
   | (with_reducible exact ih0 _ _ _)
   | (with_reducible exact ih1 _ _ _ _ _)
   | (with_reducible exact LeO.refl _)
   | (with_reducible exact LeO.none _)
   | (with_reducible refine LeO.ite ?_ ?_)
   | (with_reducible refine LeO.bind ?_ (fun _ => ?_))
theorem tallymanref15_Unpack.mono : ∀ a0 k, LeO (tallymanref15_Unpack.f k a0) (tallymanref15_Unpack.f (k + 1) a0) := by
 intro a0 k
 obtain ⟨ih0, ih1⟩ := tallymanref15_Unpack.mono_l k
 unfold tallymanref15_Unpack.f
 repeat' first
   | (with_reducible exact ih0 _ _ _)
   | (with_reducible exact ih1 _ _ _ _ _)
   | (with_reducible exact LeO.refl _)
   | (with_reducible exact LeO.none _)
   | (with_reducible refine LeO.ite ?_ ?_)
   | (with_reducible refine LeO.bind ?_ (fun _ => ?_))
set_option maxHeartbeats 8000000 in
set_option maxRecDepth 100000 in
theorem tallymanref15_Unpack.calls (k : Nat) (A0 : Option Addr) (c0 : Nat) (l0 : List Int) (r : List Int) (w : World) (hr0 : Kd.C (Kd.int .u8) w A0 l0.length l0) (hc0 : l0.length ≤ c0) (h : tallymanref15_Unpack.f k l0 = some r) :
  Calls Try.prog 55 #[.slice A0 l0.length c0] w fun e w' => ∃ v0_ : Value, e = .returned (v0_) ∧ Kd.R (Kd.int .i64) 3 w' w.heap.size (fun _ => True) v0_ r ∧ Below w.heap.size w w' := by
 have HR0 := Aside0.mk hr0
 have HC0 := Aside0.mk hc0
 clear hr0 hc0
 have HB := am (Below.refl w.heap.size w)
 have H : (tallymanref15_Unpack.l0 k l0 ([] : List Int) 0) = some r := h
 clear h
 have H' := Aside0.mk H
 clear H
 go_enter Try.func55, Try.ntmps55
 go_wp2
 go_loopg [3, 4] k (fun kq v3 v4 w' => ∃ (x3_1 : List Int) (x4_1 : Int), v4 = .int .i64 x4_1 ∧ Aside0 (tallymanref15_Unpack.l0 kq l0 x3_1 x4_1 = some r) ∧ Aside0 (kq ≤ k) ∧ Aside0 (Kd.R (Kd.int .i64) 3 w' w.heap.size (fun _ => True) v3 x3_1) ∧ Aside0 (Below w.heap.size w w'))
 case atStart => exact ⟨(([] : List Int)), (0), (by first | rfl | (simp; done) | (simp [*]; done)), H', ⟨Nat.le_refl _⟩, ⟨by first | exact Kd.R_nil _ _ _ _ _ | exact Kd.V_nil _ _ _ _ _⟩, ⟨by repeat (with_reducible first | exact HB.out | apply bA | apply bN | apply bD)⟩⟩
 case round =>
  clear H'
  obtain ⟨x3_1, x4_1, rfl, HA, HK1, HO_3, HB⟩ := hrel
  cases gk with
  | zero => exact absurd HA.out (by simp [tallymanref15_Unpack.l0])
  | succ k1 =>
   have H := HA.out
   clear HA
   simp only [tallymanref15_Unpack.l0] at H
   by_cases c2 : x4_1 < (wrap64 ((wrap64 ((l0.length : Int) / 3)) * 4))
   ·
    rw [if_pos c2] at H
    have c2b0 : decide (x4_1 < (wrap64 ((wrap64 ((l0.length : Int) / 3)) * 4))) = true := decide_eq_true c2
    clear c2
    have H' := Aside0.mk H
    clear H
    go_wp2
    go_loopg [5, 6] k1 (fun kq v5 v6 w' => ∃ (x5_2 : Int) (x6_2 : Int), v5 = .int .i64 x5_2 ∧ v6 = .int .i64 x6_2 ∧ Aside0 (tallymanref15_Unpack.l1 kq l0 x3_1 x4_1 x5_2 x6_2 = some r) ∧ Aside0 (kq ≤ k1) ∧ Aside0 (Kd.R (Kd.int .i64) 3 w' w.heap.size (fun _ => True) u3 x3_1) ∧ Aside0 (Below w.heap.size w w'))
    case atStart => exact ⟨(0), (0), (by first | rfl | (simp; done) | (simp [*]; done)), (by first | rfl | (simp; done) | (simp [*]; done)), H', ⟨Nat.le_refl _⟩, ⟨ru HO_3.out⟩, ⟨by repeat (with_reducible first | exact HB.out | apply bA | apply bN | apply bD)⟩⟩
    case round =>
     clear H'
     obtain ⟨x5_2, x6_2, rfl, rfl, HA, HK2, HO_3, HB⟩ := hrel
     cases gk with
     | zero => exact absurd HA.out (by simp [tallymanref15_Unpack.l1])
     | succ k2 =>
      have H := HA.out
      clear HA
      simp only [tallymanref15_Unpack.l1] at H
      by_cases c3 : x6_2 < 6
      ·
       rw [if_pos c3] at H
       have c3b0 : decide (x6_2 < 6) = true := decide_eq_true c3
       clear c3
       obtain ⟨ji4, hji4⟩ : ∃ j_ : Int, (wrap64 (Int.tdiv (wrap64 ((wrap64 (6 * x4_1)) + x6_2)) 8)) = j_ := ⟨_, rfl⟩
       first | rw [hji4] at H | simp only [hji4] at H
       have hji4w : (IntKind.i64.wrap (Int.tdiv (wrap64 ((wrap64 (6 * x4_1)) + x6_2)) 8)) = ji4 := (i64_w _).trans hji4
       by_cases c5 : 0 ≤ (ji4)
       ·
        rw [if_pos c5] at H
        have c5b0 : decide (0 ≤ (ji4)) = true := decide_eq_true c5
        clear c5
        by_cases c6 : (ji4) < (l0.length : Int)
        ·
         rw [if_pos c6] at H
         have c6b0 : decide ((ji4) < (l0.length : Int)) = true := decide_eq_true c6
         clear c6
         obtain ⟨ji7, hji7⟩ : ∃ j_ : Int, (IntKind.u64.wrap (Int.tmod (wrap64 ((wrap64 (6 * x4_1)) + x6_2)) 8)) = j_ := ⟨_, rfl⟩
         first | rw [hji7] at H | simp only [hji7] at H
         by_cases c8 : 0 ≤ (ji7)
         ·
          rw [if_pos c8] at H
          have c8b0 := eq_true c8
          have c8b1 : decide (0 ≤ (ji7)) = true := decide_eq_true c8
          clear c8
          obtain ⟨ji9, hji9⟩ : ∃ j_ : Int, (shr .u8 (rd l0 (ji4)) (ji7)) = j_ := ⟨_, rfl⟩
          first | rw [hji9] at H | simp only [hji9] at H
          have hji9_ : ((rd l0 (ji4)) / 2 ^ min (ji7).toNat 8) = ji9 := hji9
          have hji9z : (ji7) ≤ 8 → ((rd l0 (ji4)) / 2 ^ (ji7).toNat) = ji9 := shr_small hji9
          obtain ⟨ji10, hji10⟩ : ∃ j_ : Int, (IntKind.u64.wrap (x6_2)) = j_ := ⟨_, rfl⟩
          first | rw [hji10] at H | simp only [hji10] at H
          by_cases c11 : 0 ≤ (ji10)
          ·
           rw [if_pos c11] at H
           have c11b0 := eq_true c11
           have c11b1 : decide (0 ≤ (ji10)) = true := decide_eq_true c11
           clear c11
           obtain ⟨ji12, hji12⟩ : ∃ j_ : Int, (shl .i64 (wrap64 (Int.tmod (ji9) 2)) (ji10)) = j_ := ⟨_, rfl⟩
           first | rw [hji12] at H | simp only [hji12] at H
           have hji12_ : (IntKind.i64.wrap ((wrap64 (Int.tmod (ji9) 2)) * 2 ^ min (ji10).toNat 64)) = ji12 := hji12
           have hji12z : (ji10) ≤ 64 → (IntKind.i64.wrap ((wrap64 (Int.tmod (ji9) 2)) * 2 ^ (ji10).toNat)) = ji12 := shl_small hji12
           have hji12y : (wrap64 ((wrap64 (Int.tmod (ji9) 2)) * 2 ^ min (ji10).toNat 64)) = ji12 := (i64_w _).symm.trans hji12_
           have hji12x : (ji10) ≤ 64 → (wrap64 ((wrap64 (Int.tmod (ji9) 2)) * 2 ^ (ji10).toNat)) = ji12 := fun h_ => (i64_w _).symm.trans (hji12z h_)
           have H' := Aside0.mk H
           clear H
           have p528 : 0 ≤ ((ji4) : Int) := of_decide_eq_true (by first | (with_reducible assumption) | assumption)
           have q528 : (ji4) < (l0.length : Int) := of_decide_eq_true (by first | (with_reducible assumption) | assumption)
           obtain ⟨ad528, e528, hx528_0⟩ := Kd.at_int HR0.out (ji4) p528 q528
           cases e528
           replace hx528_0 := (HB.out.cell (World.block_lt_of_cell? w _ hx528_0)).trans hx528_0
           replace p528 := eq_true p528
           replace q528 := eq_true q528
           go_wp2
           go_roundg k2
           case measure => have := HK1.out; have := HK2.out; omega
           case rel => exact ⟨(wrap64 (x5_2 + (ji12))), (wrap64 (x6_2 + 1)), (by first | rfl | (simp; done) | (simp only [← hji12] <;> (first | rfl | simp)) | (simp [*]; done)), (by first | rfl | (simp; done) | (simp [*]; done)), H', ⟨by have := HK1.out; have := HK2.out; omega⟩, ⟨ru HO_3.out⟩, ⟨by repeat (with_reducible first | exact HB.out | apply bA | apply bN | apply bD)⟩⟩
          ·
           rw [if_neg c11] at H
           exact absurd H (by simp)
         ·
          rw [if_neg c8] at H
          exact absurd H (by simp)
        ·
         rw [if_neg c6] at H
         exact absurd H (by simp)
       ·
        rw [if_neg c5] at H
        exact absurd H (by simp)
      ·
       rw [if_neg c3] at H
       have c3b0 : decide (x6_2 < 6) = false := decide_eq_false c3
       clear c3
       by_cases c13 : x3_1.length < 17592186044416
       ·
        rw [if_pos c13] at H
        have LMc13 := Aside0.mk c13
        clear c13
        obtain ⟨y529, hy529⟩ : ∃ y_ : List Int, y_ = (x3_1 ++ [x5_2]) := ⟨_, rfl⟩
        replace H : (tallymanref15_Unpack.l0 k2 l0 y529 (wrap64 (x4_1 + 1))) = some r := by first | (rw [hy529]; with_reducible exact H) | (have H2_ := (Option.bind_some _ _).symm.trans H; rw [hy529]; with_reducible exact H2_) | (have H2_ := (Option.bind_some _ _).symm.trans H; with_reducible exact H2_) | with_reducible exact H | (rw [hy529]; exact H) | exact H
        have Ny529 := Aside0.mk hy529
        clear hy529
        have H' := Aside0.mk H
        clear H
        go_wp2_with (first | ((with_reducible refine gate_builtin (b := .append) (xs := #[.tmp 40, .tmp 42]) rfl ?_); at_builtin; refine Kd.R_append (Kd.int .i64) (w0 := w) w.heap.size rfl (.tmp 40) (.tmp 42) 58 3 (.int .i64 0) 8 rfl Try.underlying58 info3 rfl (by decide) (by omega) u3 x3_1 x5_2 [.int .i64 x5_2] (fun _ => True) (fun _ => False) rfl rfl ?aP (fun _ hk => hk.elim) ?aF ?aO ?aB ?aS ?aL ?_; (case aP => exact rfl); (case aB => exact (hu HB.out)); (case aF => exact (fun _ _ => trivial)); (case aO => exact (ru (HO_3.out))); (case aS => exact (below_size (hu HB.out))); (case aL => have := LMc13.out; omega); intro v530 w14 ho hb hg hat; rw [← Ny529.out] at ho; have HO531 := am (ho); replace HB := am (hb); clear HO_3; clear ho hb hg hat))
        go_roundg k2
        case measure => have := HK1.out; have := HK2.out; omega
        case rel => exact ⟨(y529), (wrap64 (x4_1 + 1)), (by first | rfl | (simp; done) | (simp [*]; done)), H', ⟨by have := HK1.out; have := HK2.out; omega⟩, ⟨ru HO531.out⟩, ⟨by repeat (with_reducible first | exact HB.out | apply bA | apply bN | apply bD)⟩⟩
       ·
        rw [if_neg c13] at H
        exact absurd H (by simp)
   ·
    rw [if_neg c2] at H
    have c2b0 : decide (x4_1 < (wrap64 ((wrap64 ((l0.length : Int) / 3)) * 4))) = false := decide_eq_false c2
    clear c2
    obtain rfl := Option.some.inj H
    go_wp2
    go_ret
    exact ⟨_, by first | rfl | (simp [errW_none, errW_some] <;> rfl) | (simp [*, errW_none, errW_some] <;> rfl), by (with_reducible repeat (first | apply Kd.R_alloc | apply Kd.R_drewN | apply Kd.R_drew)); exact HO_3.out, by repeat (with_reducible first | exact HB.out | apply bA | apply bN | apply bD)⟩

-- BY HAND: function 83 (tallymanref01_New)

-- BY HAND: function 101 (tallymanref01_Reader_Number)

-- BY HAND: function 84 (tallymanref01_Reader_Upto)

-- BY HAND: function 85 (tallymanref01_Reader_Err)

-- BY HAND: function 102 (tallymanref01_Reader_take)

-- BY HAND: function 86 (tallymanref01_Reader_Fixed)

-- BY HAND: function 87 (tallymanref01_Reader_End)

end Go.Proofs.Ytbclnjinpcfpjaa.H
