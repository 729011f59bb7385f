/- A printed walk, mended. -/
import Derived.Test.YtbclnjinpcfpjaaZ4
import Derived.Test.YtbclnjinpcfpjaaH0
import Derived.Test.YtbclnjinpcfpjaaH2
import Derived.Test.YtbclnjinpcfpjaaM9
namespace Go.Proofs.Ytbclnjinpcfpjaa.H
open Go.RowKit Go.Proofs.YtbclnjinpcfpjaaW.PrintWords Go.Proofs.YtbclnjinpcfpjaaW.PrintLast Go.Proofs.YtbclnjinpcfpjaaW.PrintMore
attribute [local go_sem] max2_int min2_int max_two min_two max_three min_three max_four min_four   -- for this text's walks alone
set_option linter.unusedVariables false
set_option linter.unusedSimpArgs false

/-! ### dense_Estimate: function 22 -/
mutual
def dense_Estimate.l0 : Nat → Int → Int → Int → Int → List (S32) → Int → Int → Int → List (S32) → Option (Int)
 | 0, _, _, _, _, _, _, _, _, _ => none
 | k + 1, x3, x4, x5, x6, x30, x31, x32, x203000, x203001 => if x32 < x31 then (if 0 ≤ x32 then (if x32 < (x30.length : Int) then (if 0 ≤ (wrap64 (62 - ((rd_T32 x30 x32).f1))) then ((bits_Add64.f x6 (shl .u64 1 (wrap64 (62 - ((rd_T32 x30 x32).f1)))) 0).bind fun bt208 => (dense_Estimate.l0 k x3 x4 (IntKind.u64.wrap (x5 + bt208.2)) bt208.1 x30 x31 (wrap64 (x32 + 1)) x203000 x203001)) else (none)) else (none)) else (none)) else (if (IntKind.u64.wrap (x3 + 1)) = 0 then (none) else (if x203000 = 4 then (dense_Estimate.j1 k x3 x4 x5 x6 44105) else (if x203000 = 5 then (dense_Estimate.j1 k x3 x4 x5 x6 45678) else (if x203000 = 6 then (dense_Estimate.j1 k x3 x4 x5 x6 46465) else (dense_Estimate.j1 k x3 x4 x5 x6 (IntKind.u64.wrap (Int.tdiv (IntKind.u64.wrap (47271 * x3)) (IntKind.u64.wrap (x3 + 1)))))))))
def dense_Estimate.j1 : Nat → Int → Int → Int → Int → Int → Option (Int)
 | 0, _, _, _, _, _ => none
 | k + 1, x3, x4, x5, x6, x10 => (dense_by.f k x10 x3 x5 x6).bind fun t210 => (if t210 ≤ (IntKind.u64.wrap (Int.tdiv (IntKind.u64.wrap (5 * x3)) 2)) then (dense_Estimate.j2 k x3 x4 t210 (decide (x4 > 0))) else (dense_Estimate.j2 k x3 x4 t210 false))
def dense_Estimate.j2 : Nat → Int → Int → Int → Bool → Option (Int)
 | 0, _, _, _, _ => none
 | k + 1, x3, x4, x11, x75 => if x75 = true then ((dense_Log2.f k x3).bind fun t211 => ((dense_Log2.f k x4).bind fun t212 => (some (IntKind.u64.wrap (Int.tdiv (IntKind.u64.wrap (Int.tdiv (IntKind.u64.wrap ((IntKind.u64.wrap (45426 * x3)) * (IntKind.u64.wrap (wrap64 (t211 - t212))))) 65536)) 65536))))) else (some x11)
end
def dense_Estimate.f (k : Nat) (a0_0 : Int) (l0_1 : List (S32)) : Option (Int) := (hll_Check.f k a0_0 l0_1).bind fun t203 => (if t203 = 0 then (if 0 ≤ a0_0 then ((bits_Mul64.f (IntKind.u64.wrap ((shl .u64 1 a0_0) - (IntKind.u64.wrap ((l0_1.length : Int))))) 4611686018427387904).bind fun bt204 => (dense_Estimate.l0 k (shl .u64 1 a0_0) (IntKind.u64.wrap ((shl .u64 1 a0_0) - (IntKind.u64.wrap ((l0_1.length : Int))))) bt204.1 bt204.2 l0_1 (l0_1.length : Int) 0 a0_0 l0_1)) else (none)) else (some 0))
theorem dense_Estimate.mono_l : ∀ k, (∀ y0 y1 y2 y3 y4 y5 y6 y7 y8, LeO (dense_Estimate.l0 k y0 y1 y2 y3 y4 y5 y6 y7 y8) (dense_Estimate.l0 (k + 1) y0 y1 y2 y3 y4 y5 y6 y7 y8)) ∧ (∀ y0 y1 y2 y3 y4, LeO (dense_Estimate.j1 k y0 y1 y2 y3 y4) (dense_Estimate.j1 (k + 1) y0 y1 y2 y3 y4)) ∧ (∀ y0 y1 y2 y3, LeO (dense_Estimate.j2 k y0 y1 y2 y3) (dense_Estimate.j2 (k + 1) y0 y1 y2 y3))
 | 0 => ⟨fun _ _ _ _ _ _ _ _ _ r h => by simp [dense_Estimate.l0] at h, fun _ _ _ _ _ r h => by simp [dense_Estimate.j1] at h, fun _ _ _ _ r h => by simp [dense_Estimate.j2] at h⟩
 | k + 1 => by
  obtain ⟨ih0, ih1, ih2⟩ := dense_Estimate.mono_l k
  refine ⟨?_, ?_, ?_⟩
  ·
   intro y0 y1 y2 y3 y4 y5 y6 y7 y8
   unfold dense_Estimate.l0
   repeat' first
   | (with_reducible exact ih0 _ _ _ _ _ _ _ _ _)
   | (with_reducible exact ih1 _ _ _ _ _)
   | (with_reducible exact ih2 _ _ _ _)
   | (with_reducible exact dense_Log2.mono _ _)
   | (with_reducible exact dense_by.mono _ _ _ _ _)
   | (with_reducible exact hll_Check.mono _ _ _)
   | (with_reducible exact LeO.refl _)
   | (with_reducible exact LeO.none _)
   | (with_reducible refine LeO.ite ?_ ?_)
   | (with_reducible refine LeO.bind ?_ (fun _ => ?_))
  ·
   intro y0 y1 y2 y3 y4
   unfold dense_Estimate.j1
   repeat' first
   | (with_reducible exact ih0 _ _ _ _ _ _ _ _ _)
   | (with_reducible exact ih1 _ _ _ _ _)
   | (with_reducible exact ih2 _ _ _ _)
   | (with_reducible exact dense_Log2.mono _ _)
   | (with_reducible exact dense_by.mono _ _ _ _ _)
   | (with_reducible exact hll_Check.mono _ _ _)
   | (with_reducible exact LeO.refl _)
   | (with_reducible exact LeO.none _)
   | (with_reducible refine LeO.ite ?_ ?_)
   | (with_reducible refine LeO.bind ?_ (fun _ => ?_))
  ·
   intro y0 y1 y2 y3
   unfold dense_Estimate.j2
   repeat' first
   | (with_reducible exact ih0 _ _ _ _ _ _ _ _ _)
   | (with_reducible exact ih1 _ _ _ _ _)
   | (with_reducible exact ih2 _ _ _ _)
   | (with_reducible exact dense_Log2.mono _ _)
   | (with_reducible exact dense_by.mono _ _ _ _ _)
   | (with_reducible exact hll_Check.mono _ _ _)
   | (with_reducible exact LeO.refl _)
   | (with_reducible exact LeO.none _)
   | (with_reducible refine LeO.ite ?_ ?_)
   | (with_reducible refine LeO.bind ?_ (fun _ => ?_))
theorem dense_Estimate.mono : ∀ a0 a1 k, LeO (dense_Estimate.f k a0 a1) (dense_Estimate.f (k + 1) a0 a1) := by
 intro a0 a1 k
 obtain ⟨ih0, ih1, ih2⟩ := dense_Estimate.mono_l k
 unfold dense_Estimate.f
 repeat' first
   | (with_reducible exact ih0 _ _ _ _ _ _ _ _ _)
   | (with_reducible exact ih1 _ _ _ _ _)
   | (with_reducible exact ih2 _ _ _ _)
   | (with_reducible exact dense_Log2.mono _ _)
   | (with_reducible exact dense_by.mono _ _ _ _ _)
   | (with_reducible exact hll_Check.mono _ _ _)
   | (with_reducible exact LeO.refl _)
   | (with_reducible exact LeO.none _)
   | (with_reducible refine LeO.ite ?_ ?_)
   | (with_reducible refine LeO.bind ?_ (fun _ => ?_))
set_option maxHeartbeats 8000000 in
set_option maxRecDepth 100000 in
theorem dense_Estimate.calls (k : Nat) (a0_0 : Int) (A0_1 : Option Addr) (c0_1 : Nat) (l0_1 : List (S32)) (r : Int) (w : World) (hr0_1 : Kd.C k32 w A0_1 l0_1.length l0_1) (hc0_1 : l0_1.length ≤ c0_1) (h : dense_Estimate.f k a0_0 l0_1 = some r) :
  Calls Try.prog 22 #[.agg #[.int .i64 a0_0, .slice A0_1 l0_1.length c0_1]] w fun e w' => e = .returned (.int .u64 r) ∧ Below w.heap.size w w' := by
 have hu30 := Try.underlying30
 have hu32 := Try.underlying32
 have HR0_1 := Aside0.mk hr0_1
 have HC0_1 := Aside0.mk hc0_1
 clear hr0_1 hc0_1
 have HB := am (Below.refl w.heap.size w)
 have H : ((hll_Check.f k a0_0 l0_1).bind fun t203 => (if t203 = 0 then (if 0 ≤ a0_0 then ((bits_Mul64.f (IntKind.u64.wrap ((shl .u64 1 a0_0) - (IntKind.u64.wrap ((l0_1.length : Int))))) 4611686018427387904).bind fun bt204 => (dense_Estimate.l0 k (shl .u64 1 a0_0) (IntKind.u64.wrap ((shl .u64 1 a0_0) - (IntKind.u64.wrap ((l0_1.length : Int))))) bt204.1 bt204.2 l0_1 (l0_1.length : Int) 0 a0_0 l0_1)) else (none)) else (some 0))) = some r := h
 clear h
 replace H := Option.bind_eq_some_iff.mp H
 obtain ⟨t203, A20, H⟩ := H
 try dsimp only at H
 have A2 := Aside0.mk A20
 clear A20
 by_cases c3 : t203 = 0
 ·
  rw [if_pos c3] at H
  have c3b0 : (t203 == 0) = true := beq_iff_eq.mpr c3
  have c3b1 : (t203 != 0) = false := bne_eq_false_iff_eq.mpr c3
  clear c3
  by_cases c4 : 0 ≤ a0_0
  ·
   rw [if_pos c4] at H
   have c4b0 := eq_true c4
   have c4b1 : decide (0 ≤ a0_0) = true := decide_eq_true c4
   clear c4
   obtain ⟨ji5, hji5⟩ : ∃ j_ : Int, (shl .u64 1 a0_0) = j_ := ⟨_, rfl⟩
   first | rw [hji5] at H | simp only [hji5] at H
   (try rw [hji5] at A2)
   have hji5_ : (IntKind.u64.wrap (1 * 2 ^ min a0_0.toNat 64)) = ji5 := hji5
   have hji5z : a0_0 ≤ 64 → (IntKind.u64.wrap (1 * 2 ^ a0_0.toNat)) = ji5 := shl_small hji5
   have hji5u : (IntKind.u64.wrap (2 ^ min a0_0.toNat 64)) = ji5 := by have h_ := hji5_; rw [Int.one_mul] at h_; exact h_
   have hji5v : a0_0 ≤ 64 → (IntKind.u64.wrap (2 ^ a0_0.toNat)) = ji5 := fun hle_ => by have h_ := hji5z hle_; rw [Int.one_mul] at h_; exact h_
   replace H := Option.bind_eq_some_iff.mp H
   obtain ⟨⟨t204, t205⟩, A60, H⟩ := H
   try dsimp only at H
   have A6 := Aside0.mk A60
   clear A60
   have H' := Aside0.mk H
   clear H
   go_enter Try.func22, Try.ntmps22
   go_wp2_with (first | ((with_reducible refine gate_dst (N := 1) rfl ?_); refine box_event ?hg (N := 1) ?hd (cs := #[.int .i64 a0_0, .slice A0_1 l0_1.length c0_1]) (t := 30) ?hr ?_; (case hd => rfl); (case hg => rfl); (case hr => go_simp; try rfl); intro gb202 hg w7 hbox hb; obtain ⟨HBn, GW202⟩ := tri hg hb (hu HB.out); have GE202 := GW202; have BK202 := am (hbox); clear HB; have HB := HBn; clear HBn; clear hb hbox hg; obtain ⟨hcz8_0, hcz8_1, hfz8_0, hfz8_1⟩ := cf BK202.out) | ((with_reducible refine gate_callee (f := 33) rfl ?_); refine goesL_ (some 13) rfl rfl Try.func33 (by kernel_rfl) rfl #[.agg #[.int .i64 a0_0, .slice A0_1 l0_1.length c0_1]] rfl (by (try simp only [List.map_toArray, List.map_cons, List.map_nil]); first | done | rfl) ?_; (with_reducible refine (hll_Check.calls k a0_0 _ _ l0_1 t203 _ ?side1 ?side2 A2.out).mono ?_); (case side1 => exact cu (Kd.C_below HR0_1.out HB.out)); (case side2 => exact HC0_1.out); rintro e w9 ⟨rfl, hb⟩; refine ⟨_, rfl, ?_⟩; replace BK202 := bb BK202 hb; replace HB := am (below_step (by repeat (with_reducible first | exact HB.out | apply bA | apply bN | apply bD | refine bS ?_ ao)) hb); (try clear hb); obtain ⟨hcz10_0, hcz10_1, hfz10_0, hfz10_1⟩ := cf BK202.out) | ((with_reducible refine gate_callee (f := 60) rfl ?_); refine goesL_ (some 26) rfl rfl Try.func60 (by kernel_rfl) rfl #[.int .u64 (IntKind.u64.wrap ((ji5) - (IntKind.u64.wrap ((l0_1.length : Int))))), .int .u64 4611686018427387904] rfl (by (try simp only [List.map_toArray, List.map_cons, List.map_nil]); first | done | (simp only [hji5]; rfl) | rfl | (simp only [List.length_drop, List.length_take]; rfl)) ?_; (with_reducible refine (bits_Mul64.calls (IntKind.u64.wrap ((ji5) - (IntKind.u64.wrap ((l0_1.length : Int))))) 4611686018427387904 t204 t205 _ A6.out).mono ?_); rintro e w' ⟨rfl, ⟨nd, rfl⟩⟩; refine ⟨_, rfl, ?_⟩))
   (try simp only [Act.put, List.setIfInBounds_toArray, List.set_cons_zero, List.set_cons_succ])
   go_loopg [5, 6, 32] k (fun kq v5 v6 v32 w' => ∃ (x5_1 : Int) (x6_1 : Int) (x32_1 : Int), v5 = .int .u64 x5_1 ∧ v6 = .int .u64 x6_1 ∧ v32 = .int .i64 x32_1 ∧ Aside0 (dense_Estimate.l0 kq ji5 (IntKind.u64.wrap ((ji5) - (IntKind.u64.wrap ((l0_1.length : Int))))) x5_1 x6_1 l0_1 (l0_1.length : Int) x32_1 a0_0 l0_1 = some r) ∧ Aside0 (kq ≤ k) ∧ Aside0 (w'.heap[gb202]? = some (.cells #[.int .i64 a0_0, (.slice A0_1 l0_1.length c0_1)] 30 (0, 0))) ∧ Aside0 (Below w.heap.size w w'))
   case atStart => exact ⟨(t204), (t205), (0), (by first | rfl | (simp; done) | (simp [*]; done)), (by first | rfl | (simp; done) | (simp [*]; done)), (by first | rfl | (simp; done) | (simp [*]; done)), H', ⟨Nat.le_refl _⟩, ⟨bu BK202.out⟩, ⟨by repeat (with_reducible first | exact HB.out | apply bA | apply bN | apply bD | refine bS ?_ ao)⟩⟩
   case round =>
    clear H'
    obtain ⟨x5_1, x6_1, x32_1, rfl, rfl, rfl, HA, HK1, BK202, HB⟩ := hrel
    cases gk with
    | zero => exact absurd HA.out (by simp [dense_Estimate.l0])
    | succ k1 =>
     have H := HA.out
     clear HA
     simp only [dense_Estimate.l0] at H
     by_cases c11 : x32_1 < (l0_1.length : Int)
     ·
      rw [if_pos c11] at H
      have c11b0 : decide (x32_1 < (l0_1.length : Int)) = true := decide_eq_true c11
      clear c11
      by_cases c12 : 0 ≤ x32_1
      ·
       rw [if_pos c12] at H
       have c12b0 : decide (0 ≤ x32_1) = true := decide_eq_true c12
       clear c12
       by_cases c13 : x32_1 < (l0_1.length : Int)
       ·
        rw [if_pos c13] at H
        have c13b0 : decide (x32_1 < (l0_1.length : Int)) = true := decide_eq_true c13
        clear c13
        obtain ⟨ji14, hji14⟩ : ∃ j_ : Int, (wrap64 (62 - ((rd_T32 l0_1 x32_1).f1))) = j_ := ⟨_, rfl⟩
        first | rw [hji14] at H | simp only [hji14] at H
        have hji14w : (IntKind.i64.wrap (62 - ((rd_T32 l0_1 x32_1).f1))) = ji14 := (i64_w _).trans hji14
        by_cases c15 : 0 ≤ (ji14)
        ·
         rw [if_pos c15] at H
         have c15b0 := eq_true c15
         have c15b1 : decide (0 ≤ (ji14)) = true := decide_eq_true c15
         clear c15
         obtain ⟨ji16, hji16⟩ : ∃ j_ : Int, (shl .u64 1 (ji14)) = j_ := ⟨_, rfl⟩
         first | rw [hji16] at H | simp only [hji16] at H
         have hji16_ : (IntKind.u64.wrap (1 * 2 ^ min (ji14).toNat 64)) = ji16 := hji16
         have hji16z : (ji14) ≤ 64 → (IntKind.u64.wrap (1 * 2 ^ (ji14).toNat)) = ji16 := shl_small hji16
         have hji16u : (IntKind.u64.wrap (2 ^ min (ji14).toNat 64)) = ji16 := by have h_ := hji16_; rw [Int.one_mul] at h_; exact h_
         have hji16v : (ji14) ≤ 64 → (IntKind.u64.wrap (2 ^ (ji14).toNat)) = ji16 := fun hle_ => by have h_ := hji16z hle_; rw [Int.one_mul] at h_; exact h_
         replace H := Option.bind_eq_some_iff.mp H
         obtain ⟨⟨t208, t209⟩, A170, H⟩ := H
         try dsimp only at H
         have A17 := Aside0.mk A170
         clear A170
         have H' := Aside0.mk H
         clear H
         have p206 : 0 ≤ (x32_1 : Int) := of_decide_eq_true (by first | (with_reducible assumption) | assumption)
         have q206 : x32_1 < (l0_1.length : Int) := of_decide_eq_true (by first | (with_reducible assumption) | assumption)
         obtain ⟨ad206, e206, hx206_0, hx206_1⟩ := at_T32 HR0_1.out x32_1 p206 q206
         cases e206
         replace hx206_0 := (HB.out.cell (World.block_lt_of_cell? w _ hx206_0)).trans hx206_0
         replace hx206_1 := (HB.out.cell (World.block_lt_of_cell? w _ hx206_1)).trans hx206_1
         replace p206 := eq_true p206
         replace q206 := eq_true q206
         go_wp2_with (first | ((with_reducible refine gate_dst (N := 8) rfl ?_); refine box_event ?hg (N := 8) ?hd (cs := #[.int .i64 0, .int .i64 0]) (t := 32) ?hr ?_; (case hd => rfl); (case hg => rfl); (case hr => go_simp; try rfl); intro gb207 hg w18 hbox hb; obtain ⟨HBn, GW207⟩ := tri hg hb (by repeat (with_reducible first | exact HB.out | apply bA | apply bN | apply bD | refine bS ?_ ao)); have GE207 := GW207; have BK207 := am (hbox); have NB202_207 := nl hg (bu BK202.out); have NB207_202 := nr hg (bu BK202.out); replace BK202 := bb BK202 hb; clear HB; have HB := HBn; clear HBn; clear hb hbox hg; have hnb19 := NB207_202.out; have hnc19 := NB202_207.out; obtain ⟨hcz20_0, hcz20_1, hfz20_0, hfz20_1⟩ := cf BK207.out) | (rw [bits_Add64.run A17.out]))
         go_roundg k1
         case measure => have := HK1.out; omega
         case rel => exact ⟨(IntKind.u64.wrap (x5_1 + t209)), (t208), (wrap64 (x32_1 + 1)), (by first | rfl | (simp; done) | (simp [*]; done)), (by first | rfl | (simp; done) | (simp [*]; done)), (by first | rfl | (simp; done) | (simp [*]; done)), H', ⟨by have := HK1.out; omega⟩, ⟨bf NB202_207.out BK202.out⟩, ⟨by repeat (with_reducible first | exact HB.out | apply bA | apply bN | apply bD | refine bS ?_ ao)⟩⟩
        ·
         rw [if_neg c15] at H
         exact absurd H (by simp)
       ·
        rw [if_neg c13] at H
        exact absurd H (by simp)
      ·
       rw [if_neg c12] at H
       exact absurd H (by simp)
     ·
      rw [if_neg c11] at H
      have c11b0 : decide (x32_1 < (l0_1.length : Int)) = false := decide_eq_false c11
      clear c11
      by_cases c21 : (IntKind.u64.wrap (ji5 + 1)) = 0
      ·
       rw [if_pos c21] at H
       exact absurd H (by simp)
      ·
       rw [if_neg c21] at H
       have c21b0 : ((IntKind.u64.wrap (ji5 + 1)) == 0) = false := beq_eq_false_iff_ne.mpr c21
       have c21b1 : ((IntKind.u64.wrap (ji5 + 1)) != 0) = true := bne_iff_ne.mpr c21
       have HC22 := Aside0.mk H
       clear H
       obtain ⟨hcz23_0, hcz23_1, hfz23_0, hfz23_1⟩ := cf BK202.out
       go_upto_block 2 with (fail)
       go_cut [10] (fun v10 wc => ∃ (kq : Nat) (x10_21 : Int), v10 = .int .u64 x10_21 ∧ Aside0 (dense_Estimate.j1 kq ji5 (IntKind.u64.wrap ((ji5) - (IntKind.u64.wrap ((l0_1.length : Int))))) x5_1 x6_1 x10_21 = some r) ∧ Aside0 (kq ≤ k1) ∧ Aside0 (wc.heap[gb202]? = some (.cells #[.int .i64 a0_0, (.slice A0_1 l0_1.length c0_1)] 30 (0, 0))) ∧ Aside0 (Below w.heap.size w wc))
       case first =>
        have H := HC22.out
        clear HC22
        by_cases c24 : a0_0 = 4
        ·
         rw [if_pos c24] at H
         have c24b0 : (a0_0 == 4) = true := beq_iff_eq.mpr c24
         have c24b1 : (a0_0 != 4) = false := bne_eq_false_iff_eq.mpr c24
         clear c24
         (first | rw [c24b0] | (simp only [i64_w, i32_w]; rw [c24b0]) | skip)
         have H' := Aside0.mk H
         clear H
         go_wp2
         go_meet
         case rel => exact ⟨_, (44105), (by first | rfl | (simp; done) | (simp [*]; done)), H', ⟨by have := HK1.out; first | omega | exact Nat.le_refl _⟩, ⟨bu BK202.out⟩, ⟨by repeat (with_reducible first | exact HB.out | apply bA | apply bN | apply bD | refine bS ?_ ao)⟩⟩
        ·
         rw [if_neg c24] at H
         have c24b0 : (a0_0 == 4) = false := beq_eq_false_iff_ne.mpr c24
         have c24b1 : (a0_0 != 4) = true := bne_iff_ne.mpr c24
         (first | rw [c24b0] | (simp only [i64_w, i32_w]; rw [c24b0]) | skip)
         by_cases c25 : a0_0 = 5
         ·
          rw [if_pos c25] at H
          have c25b0 : (a0_0 == 5) = true := beq_iff_eq.mpr c25
          have c25b1 : (a0_0 != 5) = false := bne_eq_false_iff_eq.mpr c25
          clear c25
          have H' := Aside0.mk H
          clear H
          go_wp2
          go_meet
          case rel => exact ⟨_, (45678), (by first | rfl | (simp; done) | (simp [*]; done)), H', ⟨by have := HK1.out; first | omega | exact Nat.le_refl _⟩, ⟨bu BK202.out⟩, ⟨by repeat (with_reducible first | exact HB.out | apply bA | apply bN | apply bD | refine bS ?_ ao)⟩⟩
         ·
          rw [if_neg c25] at H
          have c25b0 : (a0_0 == 5) = false := beq_eq_false_iff_ne.mpr c25
          have c25b1 : (a0_0 != 5) = true := bne_iff_ne.mpr c25
          by_cases c26 : a0_0 = 6
          ·
           rw [if_pos c26] at H
           have c26b0 : (a0_0 == 6) = true := beq_iff_eq.mpr c26
           have c26b1 : (a0_0 != 6) = false := bne_eq_false_iff_eq.mpr c26
           clear c26
           have H' := Aside0.mk H
           clear H
           go_wp2
           go_meet
           case rel => exact ⟨_, (46465), (by first | rfl | (simp; done) | (simp [*]; done)), H', ⟨by have := HK1.out; first | omega | exact Nat.le_refl _⟩, ⟨bu BK202.out⟩, ⟨by repeat (with_reducible first | exact HB.out | apply bA | apply bN | apply bD | refine bS ?_ ao)⟩⟩
          ·
           rw [if_neg c26] at H
           have c26b0 : (a0_0 == 6) = false := beq_eq_false_iff_ne.mpr c26
           have c26b1 : (a0_0 != 6) = true := bne_iff_ne.mpr c26
           have H' := Aside0.mk H
           clear H
           go_wp2
           go_meet
           case rel => exact ⟨_, (IntKind.u64.wrap (Int.tdiv (IntKind.u64.wrap (47271 * ji5)) (IntKind.u64.wrap (ji5 + 1)))), (by first | rfl | (simp; done) | (simp only [← hji5] <;> (first | rfl | simp)) | (simp [*]; done)), H', ⟨by have := HK1.out; first | omega | exact Nat.le_refl _⟩, ⟨bu BK202.out⟩, ⟨by repeat (with_reducible first | exact HB.out | apply bA | apply bN | apply bD | refine bS ?_ ao)⟩⟩
       case rest =>
        clear HC22
        obtain ⟨kq, x10_21, rfl, HA, HJ21, BK202, HB⟩ := hcut
        cases kq with
        | zero => exact absurd HA.out (by simp [dense_Estimate.j1])
        | succ kj21 =>
         have H := HA.out
         clear HA
         simp only [dense_Estimate.j1] at H
         replace H := Option.bind_eq_some_iff.mp H
         obtain ⟨t210, A270, H⟩ := H
         try dsimp only at H
         have A27 := Aside0.mk A270
         clear A270
         have HC28 := Aside0.mk H
         clear H
         go_upto_region 22 with (first | ((with_reducible refine gate_callee (f := 62) rfl ?_); refine goesL_ (some 66) rfl rfl Try.func62 (by kernel_rfl) rfl #[.int .u64 x10_21, .int .u64 ji5, .int .u64 x5_1, .int .u64 x6_1] rfl (by (try simp only [List.map_toArray, List.map_cons, List.map_nil]); first | done | (simp only [hji5]; rfl) | rfl | (simp only [List.length_drop, List.length_take]; rfl)) ?_; (with_reducible refine (dense_by.calls kj21 x10_21 ji5 x5_1 x6_1 t210 _ A27.out).mono ?_); rintro e w29 ⟨rfl, hb⟩; refine ⟨_, rfl, ?_⟩; replace BK202 := bb BK202 hb; replace HB := am (below_step (by repeat (with_reducible first | exact HB.out | apply bA | apply bN | apply bD | refine bS ?_ ao)) hb); (try clear hb)))
         (try simp only [Act.put, List.setIfInBounds_toArray, List.set_cons_zero, List.set_cons_succ])
         go_cut [75] (fun v75 wc => ∃ (kq : Nat) (x75_27 : Bool), v75 = .bool x75_27 ∧ Aside0 (dense_Estimate.j2 kq ji5 (IntKind.u64.wrap ((ji5) - (IntKind.u64.wrap ((l0_1.length : Int))))) t210 x75_27 = some r) ∧ Aside0 (kq ≤ kj21) ∧ Aside0 (wc.heap[gb202]? = some (.cells #[.int .i64 a0_0, (.slice A0_1 l0_1.length c0_1)] 30 (0, 0))) ∧ Aside0 (Below w.heap.size w wc))
         case first =>
          have H := HC28.out
          clear HC28
          by_cases c30 : t210 ≤ (IntKind.u64.wrap (Int.tdiv (IntKind.u64.wrap (5 * ji5)) 2))
          ·
           rw [if_pos c30] at H
           have c30b0 : decide (t210 ≤ (IntKind.u64.wrap (Int.tdiv (IntKind.u64.wrap (5 * ji5)) 2))) = true := decide_eq_true c30
           clear c30
           (first | rw [c30b0] | (simp only [i64_w, i32_w]; rw [c30b0]) | skip)
           have H' := Aside0.mk H
           clear H
           go_wp2
           go_meet
           case rel => exact ⟨_, (decide ((IntKind.u64.wrap ((ji5) - (IntKind.u64.wrap ((l0_1.length : Int))))) > 0)), (by first | rfl | (simp; done) | (simp only [← hji5] <;> (first | rfl | simp)) | (simp [*]; done)), H', ⟨by have := HK1.out; have := HJ21.out; first | omega | exact Nat.le_refl _⟩, ⟨bu BK202.out⟩, ⟨by repeat (with_reducible first | exact HB.out | apply bA | apply bN | apply bD | refine bS ?_ ao)⟩⟩
          ·
           rw [if_neg c30] at H
           have c30b0 : decide (t210 ≤ (IntKind.u64.wrap (Int.tdiv (IntKind.u64.wrap (5 * ji5)) 2))) = false := decide_eq_false c30
           clear c30
           (first | rw [c30b0] | (simp only [i64_w, i32_w]; rw [c30b0]) | skip)
           have H' := Aside0.mk H
           clear H
           go_wp2
           go_meet
           case rel => exact ⟨_, (false), (by first | rfl | (simp; done) | (simp [*]; done)), H', ⟨by have := HK1.out; have := HJ21.out; first | omega | exact Nat.le_refl _⟩, ⟨bu BK202.out⟩, ⟨by repeat (with_reducible first | exact HB.out | apply bA | apply bN | apply bD | refine bS ?_ ao)⟩⟩
         case rest =>
          clear HC28
          obtain ⟨kq, x75_27, rfl, HA, HJ27, BK202, HB⟩ := hcut
          cases kq with
          | zero => exact absurd HA.out (by simp [dense_Estimate.j2])
          | succ kj27 =>
           have H := HA.out
           clear HA
           simp only [dense_Estimate.j2] at H
           by_cases c31 : x75_27 = true
           ·
            subst c31
            rw [if_pos rfl] at H
            replace H := Option.bind_eq_some_iff.mp H
            obtain ⟨t211, A320, H⟩ := H
            try dsimp only at H
            have A32 := Aside0.mk A320
            clear A320
            replace H := Option.bind_eq_some_iff.mp H
            obtain ⟨t212, A330, H⟩ := H
            try dsimp only at H
            have A33 := Aside0.mk A330
            clear A330
            obtain rfl := Option.some.inj H
            go_wp2_with (first | ((with_reducible refine gate_callee (f := 16) rfl ?_); refine goesL_ (some 79) rfl rfl Try.func16 (by kernel_rfl) rfl #[.int .u64 ji5] rfl (by (try simp only [List.map_toArray, List.map_cons, List.map_nil]); first | done | (simp only [hji5]; rfl) | rfl | (simp only [List.length_drop, List.length_take]; rfl)) ?_; (with_reducible refine (dense_Log2.calls kj27 ji5 t211 _ A32.out).mono ?_); rintro e w' ⟨rfl, ⟨nd, rfl⟩⟩; refine ⟨_, rfl, ?_⟩) | ((with_reducible refine gate_callee (f := 16) rfl ?_); refine goesL_ (some 81) rfl rfl Try.func16 (by kernel_rfl) rfl #[.int .u64 (IntKind.u64.wrap ((ji5) - (IntKind.u64.wrap ((l0_1.length : Int)))))] rfl (by (try simp only [List.map_toArray, List.map_cons, List.map_nil]); first | done | (simp only [hji5]; rfl) | rfl | (simp only [List.length_drop, List.length_take]; rfl)) ?_; (with_reducible refine (dense_Log2.calls kj27 (IntKind.u64.wrap ((ji5) - (IntKind.u64.wrap ((l0_1.length : Int))))) t212 _ A33.out).mono ?_); rintro e w' ⟨rfl, ⟨nd, rfl⟩⟩; refine ⟨_, rfl, ?_⟩))
            go_ret
            exact ⟨by first | rfl | (simp [errW_none, errW_some] <;> rfl) | (simp only [← hji5]; first | rfl | (simp [errW_none, errW_some] <;> rfl)) | (simp [*, errW_none, errW_some] <;> rfl), by repeat (with_reducible first | exact HB.out | apply bA | apply bN | apply bD | refine bS ?_ ao)⟩
           ·
            replace c31 := Bool.eq_false_iff.mpr c31
            subst c31
            rw [if_neg Bool.false_ne_true] at H
            obtain rfl := Option.some.inj H
            go_wp2
            go_ret
            exact ⟨by first | rfl | (simp [errW_none, errW_some] <;> rfl) | (simp only [← hji5]; first | rfl | (simp [errW_none, errW_some] <;> rfl)) | (simp [*, errW_none, errW_some] <;> rfl), by repeat (with_reducible first | exact HB.out | apply bA | apply bN | apply bD | refine bS ?_ ao)⟩
  ·
   rw [if_neg c4] at H
   exact absurd H (by simp)
 ·
  rw [if_neg c3] at H
  have c3b0 : (t203 == 0) = false := beq_eq_false_iff_ne.mpr c3
  have c3b1 : (t203 != 0) = true := bne_iff_ne.mpr c3
  obtain rfl := Option.some.inj H
  go_enter Try.func22, Try.ntmps22
  go_wp2_with (first | ((with_reducible refine gate_dst (N := 1) rfl ?_); refine box_event ?hg (N := 1) ?hd (cs := #[.int .i64 a0_0, .slice A0_1 l0_1.length c0_1]) (t := 30) ?hr ?_; (case hd => rfl); (case hg => rfl); (case hr => go_simp; try rfl); intro gb202 hg w34 hbox hb; obtain ⟨HBn, GW202⟩ := tri hg hb (hu HB.out); have GE202 := GW202; have BK202 := am (hbox); clear HB; have HB := HBn; clear HBn; clear hb hbox hg; obtain ⟨hcz35_0, hcz35_1, hfz35_0, hfz35_1⟩ := cf BK202.out) | ((with_reducible refine gate_callee (f := 33) rfl ?_); refine goesL_ (some 13) rfl rfl Try.func33 (by kernel_rfl) rfl #[.agg #[.int .i64 a0_0, .slice A0_1 l0_1.length c0_1]] rfl (by (try simp only [List.map_toArray, List.map_cons, List.map_nil]); first | done | rfl) ?_; (with_reducible refine (hll_Check.calls k a0_0 _ _ l0_1 t203 _ ?side1 ?side2 A2.out).mono ?_); (case side1 => exact cu (Kd.C_below HR0_1.out HB.out)); (case side2 => exact HC0_1.out); rintro e w36 ⟨rfl, hb⟩; refine ⟨_, rfl, ?_⟩; replace BK202 := bb BK202 hb; replace HB := am (below_step (by repeat (with_reducible first | exact HB.out | apply bA | apply bN | apply bD | refine bS ?_ ao)) hb); (try clear hb)))
  go_ret
  exact ⟨by first | rfl | (simp [errW_none, errW_some] <;> rfl) | (simp [*, errW_none, errW_some] <;> rfl), by repeat (with_reducible first | exact HB.out | apply bA | apply bN | apply bD | refine bS ?_ ao)⟩

end Go.Proofs.Ytbclnjinpcfpjaa.H
