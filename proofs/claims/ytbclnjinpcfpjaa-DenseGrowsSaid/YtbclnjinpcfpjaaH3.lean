-- Made by this session's own call of the printer (functions that are proved by hand are taken from a text beside it).
import Derived.Test.YtbclnjinpcfpjaaZ4
import Derived.Test.YtbclnjinpcfpjaaH0
import Derived.Test.YtbclnjinpcfpjaaH2
namespace Go.Proofs.Ytbclnjinpcfpjaa.H
open Go.RowKit Go.Proofs.YtbclnjinpcfpjaaW.PrintWords Go.Proofs.YtbclnjinpcfpjaaW.PrintLast Go.Proofs.YtbclnjinpcfpjaaW.PrintMore
attribute [local go_sem] max2_int min2_int max_two min_two max_three min_three max_four min_four   -- for this text's walks alone
set_option linter.unusedVariables false
set_option linter.unusedSimpArgs false

/-! ### dense_Sparse: function 18 -/
def dense_Sparse.l0 : Nat → List Int → Int → List (S32) → Int → Int → Option (List Int × Int)
 | 0, _, _, _, _, _ => none
 | k + 1, x5, x6, x24, x25, x26 => if x26 < x25 then (if 0 ≤ x26 then (if x26 < (x24.length : Int) then ((octet_Number.f k ([] : List Int) (IntKind.u64.wrap (wrap64 ((wrap64 (((rd_T32 x24 x26).f0) - x6)) - 1)))).bind fun t124 => (if x5.length + t124.length < 140737488355328 then ((some (x5 ++ t124 : List Int)).bind fun y127 => ((some (([((rd_T32 x24 x26).f1) % 256] : List Int) : List Int)).bind fun y130 => (if y127.length + y130.length < 140737488355328 then (dense_Sparse.l0 k (y127 ++ y130) ((rd_T32 x24 x26).f0) x24 x25 (wrap64 (x26 + 1))) else (none)))) else (none))) else (none)) else (none)) else (some (x5, 0))
def dense_Sparse.f (k : Nat) (a0_0 : Int) (l0_1 : List (S32)) : Option (List Int × Int) := (hll_Check.f k a0_0 l0_1).bind fun t115 => (if t115 = 0 then ((octet_Number.f k (([(a0_0) % 256, 0] : List Int)) (IntKind.u64.wrap ((l0_1.length : Int)))).bind fun t119 => (dense_Sparse.l0 k t119 (-1) l0_1 (l0_1.length : Int) 0)) else (some (([] : List Int), t115)))
theorem dense_Sparse.mono_l : ∀ k, (∀ y0 y1 y2 y3 y4, LeO (dense_Sparse.l0 k y0 y1 y2 y3 y4) (dense_Sparse.l0 (k + 1) y0 y1 y2 y3 y4))
 | 0 => fun _ _ _ _ _ r h => by simp [dense_Sparse.l0] at h
 | k + 1 => by
  have ih0 := dense_Sparse.mono_l k
  ·
   intro y0 y1 y2 y3 y4
   unfold dense_Sparse.l0
   repeat' first
   | (with_reducible exact ih0 _ _ _ _ _)
   | (with_reducible exact hll_Check.mono _ _ _)
   | (with_reducible exact octet_Number.mono _ _ _)
   | (with_reducible exact LeO.refl _)
   | (with_reducible exact LeO.none _)
   | (with_reducible refine LeO.ite ?_ ?_)
   | (with_reducible refine LeO.bind ?_ (fun _ => ?_))
theorem dense_Sparse.mono : ∀ a0 a1 k, LeO (dense_Sparse.f k a0 a1) (dense_Sparse.f (k + 1) a0 a1) := by
 intro a0 a1 k
 have ih0 := dense_Sparse.mono_l k
 unfold dense_Sparse.f
 repeat' first
   | (with_reducible exact ih0 _ _ _ _ _)
   | (with_reducible exact hll_Check.mono _ _ _)
   | (with_reducible exact octet_Number.mono _ _ _)
   | (with_reducible exact LeO.refl _)
   | (with_reducible exact LeO.none _)
   | (with_reducible refine LeO.ite ?_ ?_)
   | (with_reducible refine LeO.bind ?_ (fun _ => ?_))
def dense_Sparse.T9 : Bool × List (List Nat × List Nat) := (true, [([], []), ([], []), ([1], [1]), ([], []), ([2, 3], [2, 3]), ([4], [4]), ([5], [5]), ([6], [6]), ([0, 7, 7], [0, 7]), ([], []), ([9], [9]), ([10], [10]), ([11], [11]), ([8, 12, 8], [8, 12]), ([13, 13, 0, 1, 2, 3, 4, 5, 6, 7, 8, 9, 10, 11, 12, 13], [0, 13])])
def dense_Sparse.B9 : List Nat := [0, 0, 2, 0, 14, 30, 62, 126, 255, 0, 512, 1536, 3584, 8191, 16383]
theorem dense_Sparse.tab9 : rtab .any (opsOf Try.f18 9) = dense_Sparse.T9 := by kernel_rfl
theorem dense_Sparse.bits9 : waitsOk dense_Sparse.T9.2 dense_Sparse.B9 = true := by kernel_rfl
set_option maxHeartbeats 8000000 in
set_option maxRecDepth 100000 in
theorem dense_Sparse.calls (k : Nat) (a0_0 : Int) (A0_1 : Option Addr) (c0_1 : Nat) (l0_1 : List (S32)) (r1 : List Int) (r2 : Int) (w : World) (hr0_1 : Kd.C k32 w A0_1 l0_1.length l0_1) (hc0_1 : l0_1.length ≤ c0_1) (h : dense_Sparse.f k a0_0 l0_1 = some (r1, r2)) :
  Calls Try.prog 18 #[.agg #[.int .i64 a0_0, .slice A0_1 l0_1.length c0_1]] w fun e w' => ∃ v0_ : Value, e = .returned (.tuple #[v0_, .int .i64 r2]) ∧ Kd.R (Kd.int .u8) 5 w' w.heap.size (fun _ => True) v0_ r1 ∧ Below w.heap.size w w' := by
 have hu30 := Try.underlying30
 have hu32 := Try.underlying32
 have HR0_1 := Aside0.mk hr0_1
 have HC0_1 := Aside0.mk hc0_1
 clear hr0_1 hc0_1
 have HB := am (Below.refl w.heap.size w)
 have H : ((hll_Check.f k a0_0 l0_1).bind fun t115 => (if t115 = 0 then ((octet_Number.f k (([(a0_0) % 256, 0] : List Int)) (IntKind.u64.wrap ((l0_1.length : Int)))).bind fun t119 => (dense_Sparse.l0 k t119 (-1) l0_1 (l0_1.length : Int) 0)) else (some (([] : List Int), t115)))) = some (r1, r2) := h
 clear h
 replace H := Option.bind_eq_some_iff.mp H
 obtain ⟨t115, A20, H⟩ := H
 try dsimp only at H
 have A2 := Aside0.mk A20
 clear A20
 by_cases c3 : t115 = 0
 ·
  rw [if_pos c3] at H
  have c3b0 : (t115 == 0) = true := beq_iff_eq.mpr c3
  have c3b1 : (t115 != 0) = false := bne_eq_false_iff_eq.mpr c3
  clear c3
  obtain ⟨y116, hy116⟩ : ∃ y_ : List Int, y_ = (([(a0_0) % 256, 0] : List Int)) := ⟨_, rfl⟩
  replace H : ((octet_Number.f k y116 (IntKind.u64.wrap ((l0_1.length : Int)))).bind fun t119 => (dense_Sparse.l0 k t119 (-1) l0_1 (l0_1.length : Int) 0)) = some (r1, r2) := by first | (rw [hy116]; with_reducible exact H) | (have H2_ := (Option.bind_some _ _).symm.trans H; rw [hy116]; with_reducible exact H2_) | (have H2_ := (Option.bind_some _ _).symm.trans H; with_reducible exact H2_) | with_reducible exact H | (rw [hy116]; exact H) | exact H
  have Ny116 := Aside0.mk hy116
  clear hy116
  replace H := Option.bind_eq_some_iff.mp H
  obtain ⟨t119, A40, H⟩ := H
  try dsimp only at H
  have A4 := Aside0.mk A40
  clear A40
  have H' := Aside0.mk H
  clear H
  go_enter Try.func18, Try.ntmps18
  go_wp2_with (first | ((with_reducible refine gate_dst (N := 1) rfl ?_); refine box_event ?hg (N := 1) ?hd (cs := #[.int .i64 a0_0, .slice A0_1 l0_1.length c0_1]) (t := 30) ?hr ?_; (case hd => rfl); (case hg => rfl); (case hr => go_simp; try rfl); intro gb114 hg w5 hbox hb; obtain ⟨HBn, GW114⟩ := tri hg hb (hu HB.out); have GE114 := GW114; have BK114 := am (hbox); clear HB; have HB := HBn; clear HBn; clear hb hbox hg; obtain ⟨hcz6_0, hcz6_1, hfz6_0, hfz6_1⟩ := cf BK114.out) | ((with_reducible refine gate_callee (f := 33) rfl ?_); refine goesL_ (some 10) rfl rfl Try.func33 (by kernel_rfl) rfl #[.agg #[.int .i64 a0_0, .slice A0_1 l0_1.length c0_1]] rfl (by (try simp only [List.map_toArray, List.map_cons, List.map_nil]); first | done | rfl) ?_; (with_reducible refine (hll_Check.calls k a0_0 _ _ l0_1 t115 _ ?side1 ?side2 A2.out).mono ?_); (case side1 => exact cu (Kd.C_below HR0_1.out HB.out)); (case side2 => exact HC0_1.out); rintro e w7 ⟨rfl, hb⟩; refine ⟨_, rfl, ?_⟩; replace BK114 := bb BK114 hb; replace HB := am (below_step (by repeat (with_reducible first | exact HB.out | apply bA | apply bN | apply bD | refine bS ?_ ao)) hb); (try clear hb); obtain ⟨hcz8_0, hcz8_1, hfz8_0, hfz8_1⟩ := cf BK114.out) | ((with_reducible refine gate_dst (N := 17) rfl ?_); refine Kd.R_lit (Kd.int .u8) _ 5 ?hg (N := 17) ?hd (xs := ([(a0_0) % 256, 0] : List Int)) (inner := [.int .u8 ((a0_0) % 256), .int .u8 0]) (ok := fun _ => True) (okp := fun _ => True) ?hr ?hp (fun _ hk => hk) trivial (Below.refl _ _) (Nat.le_refl _) (by simp) ?_; (case hd => rfl); (case hg => rfl); (case hr => go_simp; try rfl); (case hp => exact (Reps.one (show Kd.M (Kd.int .u8) _ _ _ ((a0_0) % 256) [.int .u8 ((a0_0) % 256)] from rfl) (Reps.one (show Kd.M (Kd.int .u8) _ _ _ 0 [.int .u8 0] from rfl) (Reps.none _ _)))); intro v117 w9 ho10 hb hg_ hnew_; clear hg_ hnew_; (first | rw [← Ny116.out] at ho10 | (simp only [Int.reduceToNat] at ho10; rw [← Ny116.out] at ho10)); have HO118 := am (Kd.R_lower ho10 (below_size (by repeat (with_reducible first | exact HB.out | apply bA | apply bN | apply bD | refine bS ?_ ao)))); replace BK114 := bb BK114 hb; replace HB := am (below_step (by repeat (with_reducible first | exact HB.out | apply bA | apply bN | apply bD | refine bS ?_ ao)) hb); clear hb ho10; obtain ⟨hcz11_0, hcz11_1, hfz11_0, hfz11_1⟩ := cf BK114.out; obtain ⟨Ao12, co12, eo12⟩ := Kd.R_slice HO118.out; subst eo12) | ((with_reducible refine gate_callee (f := 59) rfl ?_); refine goesL_ (some 22) rfl rfl Try.func59 (by kernel_rfl) rfl #[.slice Ao12 y116.length co12, .int .u64 (IntKind.u64.wrap ((l0_1.length : Int)))] rfl (by (try simp only [List.map_toArray, List.map_cons, List.map_nil]); first | done | rfl) ?_; (with_reducible refine (octet_Number.calls k _ _ y116 (IntKind.u64.wrap ((l0_1.length : Int))) t119 _ ?side1 ?side2 A4.out).mono ?_); (case side1 => repeat (first | exact (Kd.R_reads' HO118.out).2.2 | (with_reducible refine Kd.C_alloc ?_ _) | (with_reducible refine Kd.C_drewN ?_ _) | (with_reducible refine Kd.C_drew ?_))); (case side2 => exact (Kd.R_reads' HO118.out).2.1); rintro e w13 ⟨v120, rfl, ho0, hb⟩; refine ⟨_, rfl, ?_⟩; have HO121 := am (Kd.R_lower (Kd.R_new' ho0 (Kd.R_lt (ru (HO118.out)))) (below_size (by repeat (with_reducible first | exact HB.out | apply bA | apply bN | apply bD | refine bS ?_ ao)))); replace HO118 := am (Kd.R_elder' (ru (HO118.out)) (Kd.R_base ho0) hb); replace BK114 := bb BK114 hb; replace HB := am (below_step (by repeat (with_reducible first | exact HB.out | apply bA | apply bN | apply bD | refine bS ?_ ao)) hb); (try clear hb); (try clear ho0); obtain ⟨hcz14_0, hcz14_1, hfz14_0, hfz14_1⟩ := cf BK114.out))
  (try simp only [Act.put, List.setIfInBounds_toArray, List.set_cons_zero, List.set_cons_succ])
  go_loopg [5, 6, 26] k (fun kq v5 v6 v26 w' => ∃ (x5_1 : List Int) (x6_1 : Int) (x26_1 : Int), v6 = .int .i64 x6_1 ∧ v26 = .int .i64 x26_1 ∧ Aside0 (dense_Sparse.l0 kq x5_1 x6_1 l0_1 (l0_1.length : Int) x26_1 = some (r1, r2)) ∧ Aside0 (kq ≤ k) ∧ Aside0 (Kd.R (Kd.int .u8) 5 w' w.heap.size (fun _ => True) v5 x5_1) ∧ Aside0 (w'.heap[gb114]? = some (.cells #[.int .i64 a0_0, (.slice A0_1 l0_1.length c0_1)] 30 (0, 0))) ∧ Aside0 (Below w.heap.size w w'))
  case atStart => exact ⟨(t119), ((-1)), (0), (by first | rfl | (simp; done) | (simp [*]; done)), (by first | rfl | (simp; done) | (simp [*]; done)), H', ⟨Nat.le_refl _⟩, ⟨by (with_reducible repeat (first | apply Kd.R_alloc | apply Kd.R_drewN | apply Kd.R_drew)); exact Kd.R_mono HO121.out (fun _ hk => trivial)⟩, ⟨bu BK114.out⟩, ⟨by repeat (with_reducible first | exact HB.out | apply bA | apply bN | apply bD | refine bS ?_ ao)⟩⟩
  case round =>
   clear H'
   obtain ⟨x5_1, x6_1, x26_1, rfl, rfl, HA, HK1, HO_5, BK114, HB⟩ := hrel
   cases gk with
   | zero => exact absurd HA.out (by simp [dense_Sparse.l0])
   | succ k1 =>
    have H := HA.out
    clear HA
    simp only [dense_Sparse.l0] at H
    by_cases c15 : x26_1 < (l0_1.length : Int)
    ·
     rw [if_pos c15] at H
     have c15b0 : decide (x26_1 < (l0_1.length : Int)) = true := decide_eq_true c15
     clear c15
     by_cases c16 : 0 ≤ x26_1
     ·
      rw [if_pos c16] at H
      have c16b0 : decide (0 ≤ x26_1) = true := decide_eq_true c16
      clear c16
      by_cases c17 : x26_1 < (l0_1.length : Int)
      ·
       rw [if_pos c17] at H
       have c17b0 : decide (x26_1 < (l0_1.length : Int)) = true := decide_eq_true c17
       clear c17
       replace H := Option.bind_eq_some_iff.mp H
       obtain ⟨t124, A180, H⟩ := H
       try dsimp only at H
       have A18 := Aside0.mk A180
       clear A180
       by_cases c19 : x5_1.length + t124.length < 140737488355328
       ·
        rw [if_pos c19] at H
        have LMc19 := Aside0.mk c19
        clear c19
        obtain ⟨y127, hy127⟩ : ∃ y_ : List Int, y_ = (x5_1 ++ t124) := ⟨_, rfl⟩
        replace H : ((some (([((rd_T32 l0_1 x26_1).f1) % 256] : List Int) : List Int)).bind fun y130 => (if y127.length + y130.length < 140737488355328 then (dense_Sparse.l0 k1 (y127 ++ y130) ((rd_T32 l0_1 x26_1).f0) l0_1 (l0_1.length : Int) (wrap64 (x26_1 + 1))) else (none))) = some (r1, r2) := by first | (rw [hy127]; with_reducible exact H) | (have H2_ := (Option.bind_some _ _).symm.trans H; rw [hy127]; with_reducible exact H2_) | (have H2_ := (Option.bind_some _ _).symm.trans H; with_reducible exact H2_) | with_reducible exact H | (rw [hy127]; exact H) | exact H
        have Ny127 := Aside0.mk hy127
        clear hy127
        obtain ⟨y130, hy130⟩ : ∃ y_ : List Int, y_ = (([((rd_T32 l0_1 x26_1).f1) % 256] : List Int)) := ⟨_, rfl⟩
        replace H : (if y127.length + y130.length < 140737488355328 then (dense_Sparse.l0 k1 (y127 ++ y130) ((rd_T32 l0_1 x26_1).f0) l0_1 (l0_1.length : Int) (wrap64 (x26_1 + 1))) else (none)) = some (r1, r2) := by first | (rw [hy130]; with_reducible exact H) | (have H2_ := (Option.bind_some _ _).symm.trans H; rw [hy130]; with_reducible exact H2_) | (have H2_ := (Option.bind_some _ _).symm.trans H; with_reducible exact H2_) | with_reducible exact H | (rw [hy130]; exact H) | exact H
        have Ny130 := Aside0.mk hy130
        clear hy130
        by_cases c20 : y127.length + y130.length < 140737488355328
        ·
         rw [if_pos c20] at H
         have LMc20 := Aside0.mk c20
         clear c20
         obtain ⟨y133, hy133⟩ : ∃ y_ : List Int, y_ = (y127 ++ y130) := ⟨_, rfl⟩
         replace H : (dense_Sparse.l0 k1 y133 ((rd_T32 l0_1 x26_1).f0) l0_1 (l0_1.length : Int) (wrap64 (x26_1 + 1))) = some (r1, r2) := by first | (rw [hy133]; with_reducible exact H) | (have H2_ := (Option.bind_some _ _).symm.trans H; rw [hy133]; with_reducible exact H2_) | (have H2_ := (Option.bind_some _ _).symm.trans H; with_reducible exact H2_) | with_reducible exact H | (rw [hy133]; exact H) | exact H
         have Ny133 := Aside0.mk hy133
         clear hy133
         have H' := Aside0.mk H
         clear H
         have p122 : 0 ≤ (x26_1 : Int) := of_decide_eq_true (by first | (with_reducible assumption) | assumption)
         have q122 : x26_1 < (l0_1.length : Int) := of_decide_eq_true (by first | (with_reducible assumption) | assumption)
         obtain ⟨ad122, e122, hx122_0, hx122_1⟩ := at_T32 HR0_1.out x26_1 p122 q122
         cases e122
         replace hx122_0 := (HB.out.cell (World.block_lt_of_cell? w _ hx122_0)).trans hx122_0
         replace hx122_1 := (HB.out.cell (World.block_lt_of_cell? w _ hx122_1)).trans hx122_1
         replace p122 := eq_true p122
         replace q122 := eq_true q122
         try go_wp2_with (first | ((with_reducible refine gate_dst (N := 8) rfl ?_); refine box_event ?hg (N := 8) ?hd (cs := #[.int .i64 0, .int .i64 0]) (t := 32) ?hr ?_; (case hd => rfl); (case hg => rfl); (case hr => go_simp; try rfl); intro gb123 hg w21 hbox hb; obtain ⟨HBn, GW123⟩ := tri hg hb (by repeat (with_reducible first | exact HB.out | apply bA | apply bN | apply bD | refine bS ?_ ao)); have GE123 := GW123; have BK123 := am (hbox); have NB114_123 := nl hg (bu BK114.out); have NB123_114 := nr hg (bu BK114.out); replace HO_5 := rb HO_5 hb; replace BK114 := bb BK114 hb; clear HB; have HB := HBn; clear HBn; clear hb hbox hg; have hnb22 := NB123_114.out; have hnc22 := NB114_123.out; obtain ⟨hcz23_0, hcz23_1, hfz23_0, hfz23_1⟩ := cf BK123.out; obtain ⟨Ao24, co24, eo24⟩ := Kd.R_slice HO_5.out; subst eo24))
         have n0_ : Aside0 (Kd.R (Kd.int .u8) 5 ((w21.setCell ⟨gb123, 0, none⟩ (.int .i64 ((rd_T32 l0_1 x26_1).f0))).setCell ⟨gb123, 1, none⟩ (.int .i64 ((rd_T32 l0_1 x26_1).f1))) w.heap.size (fun _ => True) (.slice Ao24 x5_1.length co24) x5_1) := ⟨Kd.R_mono (rf HO_5.out BK123.out (by decide)) (fun _ hk => trivial)⟩
         have n1_ : Aside0 (((w21.setCell ⟨gb123, 0, none⟩ (.int .i64 ((rd_T32 l0_1 x26_1).f0))).setCell ⟨gb123, 1, none⟩ (.int .i64 ((rd_T32 l0_1 x26_1).f1))).heap[gb114]? = some (.cells #[.int .i64 a0_0, .slice (some ad122) l0_1.length c0_1] 30 (0, 0))) := ⟨bf NB114_123.out BK114.out⟩
         have n2_ : Aside0 (((w21.setCell ⟨gb123, 0, none⟩ (.int .i64 ((rd_T32 l0_1 x26_1).f0))).setCell ⟨gb123, 1, none⟩ (.int .i64 ((rd_T32 l0_1 x26_1).f1))).heap[gb123]? = some (.cells #[.int .i64 ((rd_T32 l0_1 x26_1).f0), .int .i64 ((rd_T32 l0_1 x26_1).f1)] 32 (0, 0))) := ⟨by (with_reducible repeat (first | refine blk_drewN ?_ _ | refine blk_drew ?_ | refine blk_alloc ?_ _)); refine blk_put (cs := #[.int .i64 ((rd_T32 l0_1 x26_1).f0), .int .i64 0]) ?_ 1 _ rfl; (with_reducible repeat (first | refine blk_drewN ?_ _ | refine blk_drew ?_ | refine blk_alloc ?_ _)); refine blk_put (cs := #[.int .i64 0, .int .i64 0]) ?_ 0 _ rfl; exact bu BK123.out⟩
         have n3_ : Aside0 (Below w.heap.size w ((w21.setCell ⟨gb123, 0, none⟩ (.int .i64 ((rd_T32 l0_1 x26_1).f0))).setCell ⟨gb123, 1, none⟩ (.int .i64 ((rd_T32 l0_1 x26_1).f1)))) := ⟨by repeat (with_reducible first | exact HB.out | apply bA | apply bN | apply bD | refine bS ?_ ao)⟩
         (try clear HO_5)
         (try clear BK114)
         (try clear BK123)
         (try clear HB)
         generalize ((w21.setCell ⟨gb123, 0, none⟩ (.int .i64 ((rd_T32 l0_1 x26_1).f0))).setCell ⟨gb123, 1, none⟩ (.int .i64 ((rd_T32 l0_1 x26_1).f1))) = w25 at n0_ n1_ n2_ n3_ ⊢
         have HO_5 := n0_; have BK114 := n1_; have BK123 := n2_; have HB := n3_
         clear n0_ n1_ n2_ n3_
         replace HO_5 := am (Kd.R_drew HO_5.out); replace BK114 := am (blk_drew BK114.out); replace BK123 := am (blk_drew BK123.out); replace HB := am (below_drew1 HB.out)
         refine start_ (n := 15) (S := fun w' => w'.cell? ⟨gb123, 0, none⟩ = some (.int .i64 ((rd_T32 l0_1 x26_1).f0)) ∧ w'.cell? ⟨gb123, 1, none⟩ = some (.int .i64 ((rd_T32 l0_1 x26_1).f1))) (ds := []) (tb 0 15) (by kernel_rfl) rfl rfl ⟨(blk_cell BK123.out 0).trans rfl, (blk_cell BK123.out 1).trans rfl⟩ (fun hHeld => ?_); refine with_tabW dense_Sparse.tab9 dense_Sparse.bits9 (fun HT_ HW_ => ?_)
         generalize w25.drew = w26 at HO_5 BK114 BK123 HB hHeld ⊢
         refine pu 0 (some 30) (v := ?_) (a' := ?_) (tb 1 15) rfl rfl (any_of HT_.out (by kernel_rfl)) (fun _ _ _ h => h) ⟨by rfl, ?_⟩ ?_ ?_; rotate_left; · (intro w'; go_simp; with_reducible rfl)
         rotate_left; · (simp only [Act.put, sa_, sb_, sc_, i64_w, i32_w]; rfl)
         refine pu 1 (some 31) (v := ?_) (a' := ?_) (tb 2 15) rfl rfl (any_of HT_.out (by kernel_rfl)) (fun _ _ _ h => h) ⟨by rfl, ?_⟩ ?_ ?_; rotate_left; · (intro w'; go_simp; with_reducible rfl)
         rotate_left; · (simp only [Act.put, sa_, sb_, sc_, i64_w, i32_w]; rfl)
         refine pu 3 (some 33) (v := ?_) (a' := ?_) #[true, true, false, true, false, false, false, false, false, false, false, false, false, false, false] rfl rfl (any_of HT_.out (by kernel_rfl)) (fun _ _ _ h => h) ⟨by rfl, ?_⟩ ?_ ?_; rotate_left; · (intro w'; go_simp; with_reducible rfl)
         rotate_left; · (simp only [Act.put, sa_, sb_, sc_, i64_w, i32_w]; rfl)
         refine pu 9 (some 39) (v := ?_) (a' := ?_) #[true, true, false, true, false, false, false, false, false, true, false, false, false, false, false] rfl rfl (any_of HT_.out (by kernel_rfl)) (fun _ _ _ h => h) ⟨by rfl, ?_⟩ ?_ ?_; rotate_left; · (intro w'; go_simp; with_reducible rfl)
         rotate_left; · (simp only [Act.put, sa_, sb_, sc_, i64_w, i32_w]; rfl)
         refine tk 2 (some 32) (v := ?_) (a' := ?_) #[true, true, true, true, false, false, false, false, false, true, false, false, false, false, false] rfl rfl (take_ofW HT_.out HW_.out (by kernel_rfl)) (fun _ _ _ h => h) ⟨by rfl, ?_⟩ hHeld ?_ ?_; rotate_left; · (rintro w' ⟨s0, s1⟩; go_simp; with_reducible rfl)
         rotate_left; · (simp only [Act.put, sa_, sb_, sc_, i64_w, i32_w]; rfl)
         refine pu 4 (some 34) (v := ?_) (a' := ?_) #[true, true, true, true, true, false, false, false, false, true, false, false, false, false, false] rfl rfl (any_of HT_.out (by kernel_rfl)) (fun _ _ _ h => h) ⟨by rfl, ?_⟩ ?_ ?_; rotate_left; · (intro w'; go_simp; with_reducible rfl)
         rotate_left; · (simp only [Act.put, sa_, sb_, sc_, i64_w, i32_w]; rfl)
         refine pu 5 (some 35) (v := ?_) (a' := ?_) #[true, true, true, true, true, true, false, false, false, true, false, false, false, false, false] rfl rfl (any_of HT_.out (by kernel_rfl)) (fun _ _ _ h => h) ⟨by rfl, ?_⟩ ?_ ?_; rotate_left; · (intro w'; go_simp; with_reducible rfl)
         rotate_left; · (simp only [Act.put, sa_, sb_, sc_, i64_w, i32_w]; rfl)
         refine pu 6 (some 36) (v := ?_) (a' := ?_) #[true, true, true, true, true, true, true, false, false, true, false, false, false, false, false] rfl rfl (any_of HT_.out (by kernel_rfl)) (fun _ _ _ h => h) ⟨by rfl, ?_⟩ ?_ ?_; rotate_left; · (intro w'; go_simp; with_reducible rfl)
         rotate_left; · (simp only [Act.put, sa_, sb_, sc_, i64_w, i32_w]; rfl)
         refine tk 10 (some 40) (v := ?_) (a' := ?_) #[true, true, true, true, true, true, true, false, false, true, true, false, false, false, false] rfl rfl (take_ofW HT_.out HW_.out (by kernel_rfl)) (fun _ _ _ h => h) ⟨by rfl, ?_⟩ hHeld ?_ ?_; rotate_left; · (rintro w' ⟨s0, s1⟩; go_simp; with_reducible rfl)
         rotate_left; · (simp only [Act.put, sa_, sb_, sc_, i64_w, i32_w]; rfl)
         refine pu 11 (some 41) (v := ?_) (a' := ?_) #[true, true, true, true, true, true, true, false, false, true, true, true, false, false, false] rfl rfl (any_of HT_.out (by kernel_rfl)) (fun _ _ _ h => h) ⟨by rfl, ?_⟩ ?_ ?_; rotate_left; · (intro w'; go_simp; with_reducible rfl)
         rotate_left; · (simp only [Act.put, sa_, sb_, sc_, i64_w, i32_w]; rfl)
         refine join_ (σ := Value × Value × Value) 2 (tb 13 15) (fun s_ => [(37, s_.1), (38, s_.2.1), (42, s_.2.2)]) (fun s_ w' => (w'.cell? ⟨gb123, 0, none⟩ = some (.int .i64 ((rd_T32 l0_1 x26_1).f0)) ∧ w'.cell? ⟨gb123, 1, none⟩ = some (.int .i64 ((rd_T32 l0_1 x26_1).f1))) ∧ (Kd.R (Kd.int .u8) 5 w' w.heap.size (fun k_ => some k_ ≠ (s_.2.1 : Value).ownBlock ∧ some k_ ≠ (s_.2.2 : Value).ownBlock) s_.1 t124) ∧ (Kd.R (Kd.int .u8) 5 w' w.heap.size (fun k_ => some k_ ≠ (s_.1 : Value).ownBlock ∧ some k_ ≠ (s_.2.2 : Value).ownBlock) s_.2.1 y127) ∧ (Kd.R (Kd.int .u8) 5 w' w.heap.size (fun k_ => some k_ ≠ (s_.1 : Value).ownBlock ∧ some k_ ≠ (s_.2.1 : Value).ownBlock) s_.2.2 y130) ∧ (w'.heap[gb114]? = some (.cells #[.int .i64 a0_0, .slice (some ad122) l0_1.length c0_1] 30 (0, 0))) ∧ (w'.heap[gb123]? = some (.cells #[.int .i64 ((rd_T32 l0_1 x26_1).f0), .int .i64 ((rd_T32 l0_1 x26_1).f1)] 32 (0, 0))) ∧ (Below w.heap.size w w')) ?_ ?_
         rotate_left
         ·
          intro hCont
          refine two_ (i := 7) (j := 12) (Ni := some 37) (Nj := some 42) #[true, true, true, true, true, true, true, true, false, true, true, true, false, false, false] #[true, true, true, true, true, true, true, false, false, true, true, true, true, false, false] rfl rfl rfl rfl (two_of HT_.out (by kernel_rfl)) (by decide) (by decide) (fun K hK => ?_) (fun K hK => ?_)
          ·
           skip
           refine goes_ Try.func59 (by kernel_rfl) rfl #[.slice none 0 0, .int .u64 (IntKind.u64.wrap (wrap64 ((wrap64 (((rd_T32 l0_1 x26_1).f0) - x6_1)) - 1)))] (by rfl) rfl rfl (by (try simp only [List.map_toArray, List.map_cons, List.map_nil]); first | done | rfl) ?_
           refine (octet_Number.calls k1 _ _ ([] : List Int) (IntKind.u64.wrap (wrap64 ((wrap64 (((rd_T32 l0_1 x26_1).f0) - x6_1)) - 1))) t124 _ ?side1 ?side2 A18.out).mono ?_
           (case side1 => exact Kd.C_nil _ _)
           (case side2 => exact Nat.le_refl _)
           rintro e w27 ⟨v125, rfl, ho0, hb⟩
           refine ⟨_, rfl, ?_⟩
           have HO126 := am (Kd.R_lower (Kd.R_new' ho0 (Kd.R_lt (ru (HO_5.out)))) (below_size (by repeat (with_reducible first | exact HB.out | apply bA | apply bN | apply bD | refine bS ?_ ao)))); replace HO_5 := am (Kd.R_elder' (ru (HO_5.out)) (Kd.R_base ho0) hb); replace BK114 := bb BK114 hb; replace BK123 := bb BK123 hb; replace HB := am (below_step (by repeat (with_reducible first | exact HB.out | apply bA | apply bN | apply bD | refine bS ?_ ao)) hb)
           (try clear hb)
           (try clear hb2)
           (try clear hk)
           (try clear hi)
           (try clear ho0)
           obtain ⟨Ao29, co29, eo29⟩ := Kd.R_slice HO126.out
           (first | subst eo29 | (injection eo29 with f1_ f2_ f3_; have f4_ := f1_.symm; have f5_ := f3_.symm; clear f1_ f2_ f3_; subst f4_; subst f5_))
           refine hK.out _ _ ⟨(blk_cell BK123.out 0).trans rfl, (blk_cell BK123.out 1).trans rfl⟩ (fun hHeld => ?_)
           clear hK K
           refine norm_ (a' := ?_) ?_ ?_
           rotate_left
           ·
            show Act.put _ (some 37) _ = _
            simp only [Act.put, List.setIfInBounds_toArray, List.set_cons_zero, List.set_cons_succ, i64_w, i32_w]
            rfl
           refine two_ (i := 8) (j := 12) (Ni := some 38) (Nj := some 42) (tb 12 15) #[true, true, true, true, true, true, true, true, false, true, true, true, true, false, false] rfl rfl rfl rfl (two_of HT_.out (by kernel_rfl)) (by decide) (by decide) (fun K hK => ?_) (fun K hK => ?_)
           ·
            skip
            refine Kd.R_append_rows_step (Kd.int .u8) (w0 := w) w.heap.size (by rfl) (.tmp 30) (.tmp 37) 33 5 (.int .u8 0) 1 rfl Try.underlying33 info5 rfl (by decide) (by omega) (.slice Ao24 x5_1.length co24) x5_1 t124 _ _ _ (fun k_ => nb Ao29 t124.length co29 k_) (fun _ => False) rfl rfl ?aO ?aR (fun _ _ h => h) (fun _ h => h.elim) ?aF ?aB ?aS ?aL ?_
            (case aR => repeat (first | exact (Kd.R_reads' HO126.out).2.2 | (with_reducible refine Kd.C_alloc ?_ _) | (with_reducible refine Kd.C_drewN ?_ _) | (with_reducible refine Kd.C_drew ?_)))
            (case aB => exact (by repeat (with_reducible first | exact HB.out | apply bA | apply bN | apply bD | refine bS ?_ ao)))
            (case aF => exact (fun k_ hk => Kd.fresh' (Kd.R_lt (ru (HO126.out))) k_ hk))
            (case aO => exact (ru (Kd.R_mono HO_5.out (fun _ hk => hk.2))))
            (case aS => exact (below_size (by repeat (with_reducible first | exact HB.out | apply bA | apply bN | apply bD | refine bS ?_ ao))))
            (case aL => have := LMc19.out; omega)
            intro v128 w28 ho hb hg hat
            rw [← Ny127.out] at ho
            have HO129 := am (ho); replace BK114 := am (blk_grown (g := gb114) (o := .cells #[.int .i64 a0_0, .slice (some ad122) l0_1.length c0_1] 30 (0, 0)) (bu BK114.out) hg (Kd.R_ne HO_5.out BK114.out (by decide))); replace BK123 := am (blk_grown (g := gb123) (o := .cells #[.int .i64 ((rd_T32 l0_1 x26_1).f0), .int .i64 ((rd_T32 l0_1 x26_1).f1)] 32 (0, 0)) (bu BK123.out) hg (Kd.R_ne HO_5.out BK123.out (by decide))); replace HO126 := am (Kd.R_after (ok := (fun _ => True)) (ru (HO126.out)) hg hat); replace HB := am (hb); clear HO_5
            clear ho hb hg hat
            refine hK.out _ _ ⟨(blk_cell BK123.out 0).trans rfl, (blk_cell BK123.out 1).trans rfl⟩ (fun hHeld => ?_)
            clear hK K
            refine norm_ (a' := ?_) ?_ ?_
            rotate_left
            ·
             show Act.put _ (some 38) _ = _
             simp only [Act.put, List.setIfInBounds_toArray, List.set_cons_zero, List.set_cons_succ, i64_w, i32_w]
             rfl
            refine one_ (i := 12) (N := some 42) (tb 13 15) rfl rfl (one_of HT_.out (by kernel_rfl)) (by decide) (fun K hK => ?_)
            refine Kd.R_lit_step (Kd.int .u8) _ 5 ?hg (N := 42) ?hd (xs := ([((rd_T32 l0_1 x26_1).f1) % 256] : List Int)) (inner := [.int .u8 (((rd_T32 l0_1 x26_1).f1) % 256)]) (ok := fun _ => True) (okp := fun _ => True) ?hr ?hp (fun _ hk => hk) trivial (Below.refl _ _) (Nat.le_refl _) (by simp) ?_; (case hd => rfl); (case hg => rfl); (case hr => go_simp; try rfl); (case hp => exact (Reps.one (show Kd.M (Kd.int .u8) _ _ _ (((rd_T32 l0_1 x26_1).f1) % 256) [.int .u8 (((rd_T32 l0_1 x26_1).f1) % 256)] from rfl) (Reps.none _ _)))
            intro v131 w30 ho31 hb hg_ hnew_
            clear hg_ hnew_
            (first | rw [← Ny130.out] at ho31 | (simp only [Int.reduceToNat] at ho31; rw [← Ny130.out] at ho31))
            have HO132 := am (Kd.R_lower (Kd.R_new' (Kd.R_new' ho31 (Kd.R_lt (ru (HO126.out)))) (Kd.R_lt (ru (HO129.out)))) (below_size (by repeat (with_reducible first | exact HB.out | apply bA | apply bN | apply bD | refine bS ?_ ao)))); replace HO126 := am (Kd.R_elder' (ru (HO126.out)) (Kd.R_base ho31) hb); replace HO129 := am (Kd.R_elder' (ru (HO129.out)) (Kd.R_base ho31) hb); replace BK114 := bb BK114 hb; replace BK123 := bb BK123 hb; replace HB := am (below_step (by repeat (with_reducible first | exact HB.out | apply bA | apply bN | apply bD | refine bS ?_ ao)) hb)
            clear hb ho31
            refine hK.out _ _ ⟨(blk_cell BK123.out 0).trans rfl, (blk_cell BK123.out 1).trans rfl⟩ (fun hHeld => ?_)
            clear hK K
            refine norm_ (a' := ?_) ?_ ?_
            rotate_left
            ·
             show Act.put _ (some 42) _ = _
             simp only [Act.put, List.setIfInBounds_toArray, List.set_cons_zero, List.set_cons_succ, i64_w, i32_w]
             rfl
            exact norm_ (by simp only [putAll, Act.put, List.setIfInBounds_toArray, List.set_cons_zero, List.set_cons_succ]) (hCont (.slice Ao29 t124.length co29, v128, v131) _ ⟨hHeld, (ru (Kd.R_mono HO126.out (fun _ hk => ⟨hk.1.2, hk.2⟩))), (ru (HO129.out)), (ru (Kd.R_mono HO132.out (fun _ hk => ⟨hk.1.2, hk.2⟩))), (bu BK114.out), (bu BK123.out), (by repeat (with_reducible first | exact HB.out | apply bA | apply bN | apply bD | refine bS ?_ ao))⟩)
           ·
            skip
            refine Kd.R_lit_step (Kd.int .u8) _ 5 ?hg (N := 42) ?hd (xs := ([((rd_T32 l0_1 x26_1).f1) % 256] : List Int)) (inner := [.int .u8 (((rd_T32 l0_1 x26_1).f1) % 256)]) (ok := fun _ => True) (okp := fun _ => True) ?hr ?hp (fun _ hk => hk) trivial (Below.refl _ _) (Nat.le_refl _) (by simp) ?_; (case hd => rfl); (case hg => rfl); (case hr => go_simp; try rfl); (case hp => exact (Reps.one (show Kd.M (Kd.int .u8) _ _ _ (((rd_T32 l0_1 x26_1).f1) % 256) [.int .u8 (((rd_T32 l0_1 x26_1).f1) % 256)] from rfl) (Reps.none _ _)))
            intro v131 w28 ho29 hb hg_ hnew_
            clear hg_ hnew_
            (first | rw [← Ny130.out] at ho29 | (simp only [Int.reduceToNat] at ho29; rw [← Ny130.out] at ho29))
            have HO132 := am (Kd.R_lower (Kd.R_new' (Kd.R_new' ho29 (Kd.R_lt (ru (HO_5.out)))) (Kd.R_lt (ru (HO126.out)))) (below_size (by repeat (with_reducible first | exact HB.out | apply bA | apply bN | apply bD | refine bS ?_ ao)))); replace HO_5 := am (Kd.R_elder' (ru (HO_5.out)) (Kd.R_base ho29) hb); replace HO126 := am (Kd.R_elder' (ru (HO126.out)) (Kd.R_base ho29) hb); replace BK114 := bb BK114 hb; replace BK123 := bb BK123 hb; replace HB := am (below_step (by repeat (with_reducible first | exact HB.out | apply bA | apply bN | apply bD | refine bS ?_ ao)) hb)
            clear hb ho29
            obtain ⟨Ao31, co31, eo31⟩ := Kd.R_slice HO126.out
            (first | subst eo31 | (injection eo31 with f1_ f2_ f3_; have f4_ := f1_.symm; have f5_ := f3_.symm; clear f1_ f2_ f3_; subst f4_; subst f5_))
            refine hK.out _ _ ⟨(blk_cell BK123.out 0).trans rfl, (blk_cell BK123.out 1).trans rfl⟩ (fun hHeld => ?_)
            clear hK K
            refine norm_ (a' := ?_) ?_ ?_
            rotate_left
            ·
             show Act.put _ (some 42) _ = _
             simp only [Act.put, List.setIfInBounds_toArray, List.set_cons_zero, List.set_cons_succ, i64_w, i32_w]
             rfl
            refine one_ (i := 8) (N := some 38) (tb 13 15) rfl rfl (one_of HT_.out (by kernel_rfl)) (by decide) (fun K hK => ?_)
            refine Kd.R_append_rows_step (Kd.int .u8) (w0 := w) w.heap.size (by rfl) (.tmp 30) (.tmp 37) 33 5 (.int .u8 0) 1 rfl Try.underlying33 info5 rfl (by decide) (by omega) (.slice Ao24 x5_1.length co24) x5_1 t124 _ _ _ (fun k_ => nb Ao31 t124.length co31 k_ ∧ some k_ ≠ (v131 : Value).ownBlock) (fun _ => False) rfl rfl ?aO ?aR (fun _ _ h => h) (fun _ h => h.elim) ?aF ?aB ?aS ?aL ?_
            (case aR => repeat (first | exact (Kd.R_reads' HO126.out).2.2 | (with_reducible refine Kd.C_alloc ?_ _) | (with_reducible refine Kd.C_drewN ?_ _) | (with_reducible refine Kd.C_drew ?_)))
            (case aB => exact (by repeat (with_reducible first | exact HB.out | apply bA | apply bN | apply bD | refine bS ?_ ao)))
            (case aF => exact (fun k_ hk => ⟨Kd.fresh' (Kd.R_lt (ru (HO126.out))) k_ hk, Kd.fresh' (Kd.R_lt (ru (HO132.out))) k_ hk⟩))
            (case aO => exact (ru (Kd.R_mono HO_5.out (fun _ hk => ⟨hk.1.2, hk.2⟩))))
            (case aS => exact (below_size (by repeat (with_reducible first | exact HB.out | apply bA | apply bN | apply bD | refine bS ?_ ao))))
            (case aL => have := LMc19.out; omega)
            intro v128 w30 ho hb hg hat
            rw [← Ny127.out] at ho
            have HO129 := am (ho); replace BK114 := am (blk_grown (g := gb114) (o := .cells #[.int .i64 a0_0, .slice (some ad122) l0_1.length c0_1] 30 (0, 0)) (bu BK114.out) hg (Kd.R_ne HO_5.out BK114.out (by decide))); replace BK123 := am (blk_grown (g := gb123) (o := .cells #[.int .i64 ((rd_T32 l0_1 x26_1).f0), .int .i64 ((rd_T32 l0_1 x26_1).f1)] 32 (0, 0)) (bu BK123.out) hg (Kd.R_ne HO_5.out BK123.out (by decide))); replace HO126 := am (Kd.R_after (ok := (fun k_ => some k_ ≠ (v131 : Value).ownBlock)) (ru (Kd.R_mono HO126.out (fun _ hk => ⟨hk.2, hk.1.2⟩))) hg hat); replace HO132 := am (Kd.R_after (ok := (fun k_ => nb Ao31 t124.length co31 k_)) (ru (Kd.R_mono HO132.out (fun _ hk => ⟨hk.2, hk.1.2⟩))) hg hat); replace HB := am (hb); clear HO_5
            clear ho hb hg hat
            refine hK.out _ _ ⟨(blk_cell BK123.out 0).trans rfl, (blk_cell BK123.out 1).trans rfl⟩ (fun hHeld => ?_)
            clear hK K
            refine norm_ (a' := ?_) ?_ ?_
            rotate_left
            ·
             show Act.put _ (some 38) _ = _
             simp only [Act.put, List.setIfInBounds_toArray, List.set_cons_zero, List.set_cons_succ, i64_w, i32_w]
             rfl
            exact norm_ (by simp only [putAll, Act.put, List.setIfInBounds_toArray, List.set_cons_zero, List.set_cons_succ]) (hCont (.slice Ao31 t124.length co31, v128, v131) _ ⟨hHeld, (ru (Kd.R_mono HO126.out (fun _ hk => ⟨hk.2, hk.1⟩))), (ru (HO129.out)), (ru (HO132.out)), (bu BK114.out), (bu BK123.out), (by repeat (with_reducible first | exact HB.out | apply bA | apply bN | apply bD | refine bS ?_ ao))⟩)
          ·
           skip
           refine Kd.R_lit_step (Kd.int .u8) _ 5 ?hg (N := 42) ?hd (xs := ([((rd_T32 l0_1 x26_1).f1) % 256] : List Int)) (inner := [.int .u8 (((rd_T32 l0_1 x26_1).f1) % 256)]) (ok := fun _ => True) (okp := fun _ => True) ?hr ?hp (fun _ hk => hk) trivial (Below.refl _ _) (Nat.le_refl _) (by simp) ?_; (case hd => rfl); (case hg => rfl); (case hr => go_simp; try rfl); (case hp => exact (Reps.one (show Kd.M (Kd.int .u8) _ _ _ (((rd_T32 l0_1 x26_1).f1) % 256) [.int .u8 (((rd_T32 l0_1 x26_1).f1) % 256)] from rfl) (Reps.none _ _)))
           intro v131 w27 ho28 hb hg_ hnew_
           clear hg_ hnew_
           (first | rw [← Ny130.out] at ho28 | (simp only [Int.reduceToNat] at ho28; rw [← Ny130.out] at ho28))
           have HO132 := am (Kd.R_lower (Kd.R_new' ho28 (Kd.R_lt (ru (HO_5.out)))) (below_size (by repeat (with_reducible first | exact HB.out | apply bA | apply bN | apply bD | refine bS ?_ ao)))); replace HO_5 := am (Kd.R_elder' (ru (HO_5.out)) (Kd.R_base ho28) hb); replace BK114 := bb BK114 hb; replace BK123 := bb BK123 hb; replace HB := am (below_step (by repeat (with_reducible first | exact HB.out | apply bA | apply bN | apply bD | refine bS ?_ ao)) hb)
           clear hb ho28
           refine hK.out _ _ ⟨(blk_cell BK123.out 0).trans rfl, (blk_cell BK123.out 1).trans rfl⟩ (fun hHeld => ?_)
           clear hK K
           refine norm_ (a' := ?_) ?_ ?_
           rotate_left
           ·
            show Act.put _ (some 42) _ = _
            simp only [Act.put, List.setIfInBounds_toArray, List.set_cons_zero, List.set_cons_succ, i64_w, i32_w]
            rfl
           refine one_ (i := 7) (N := some 37) #[true, true, true, true, true, true, true, true, false, true, true, true, true, false, false] rfl rfl (one_of HT_.out (by kernel_rfl)) (by decide) (fun K hK => ?_)
           refine goes_ Try.func59 (by kernel_rfl) rfl #[.slice none 0 0, .int .u64 (IntKind.u64.wrap (wrap64 ((wrap64 (((rd_T32 l0_1 x26_1).f0) - x6_1)) - 1)))] (by rfl) rfl rfl (by (try simp only [List.map_toArray, List.map_cons, List.map_nil]); first | done | rfl) ?_
           refine (octet_Number.calls k1 _ _ ([] : List Int) (IntKind.u64.wrap (wrap64 ((wrap64 (((rd_T32 l0_1 x26_1).f0) - x6_1)) - 1))) t124 _ ?side1 ?side2 A18.out).mono ?_
           (case side1 => exact Kd.C_nil _ _)
           (case side2 => exact Nat.le_refl _)
           rintro e w29 ⟨v125, rfl, ho0, hb⟩
           refine ⟨_, rfl, ?_⟩
           have HO126 := am (Kd.R_lower (Kd.R_new' (Kd.R_new' ho0 (Kd.R_lt (ru (HO_5.out)))) (Kd.R_lt (ru (HO132.out)))) (below_size (by repeat (with_reducible first | exact HB.out | apply bA | apply bN | apply bD | refine bS ?_ ao)))); replace HO_5 := am (Kd.R_elder' (ru (HO_5.out)) (Kd.R_base ho0) hb); replace HO132 := am (Kd.R_elder' (ru (HO132.out)) (Kd.R_base ho0) hb); replace BK114 := bb BK114 hb; replace BK123 := bb BK123 hb; replace HB := am (below_step (by repeat (with_reducible first | exact HB.out | apply bA | apply bN | apply bD | refine bS ?_ ao)) hb)
           (try clear hb)
           (try clear hb2)
           (try clear hk)
           (try clear hi)
           (try clear ho0)
           obtain ⟨Ao31, co31, eo31⟩ := Kd.R_slice HO126.out
           (first | subst eo31 | (injection eo31 with f1_ f2_ f3_; have f4_ := f1_.symm; have f5_ := f3_.symm; clear f1_ f2_ f3_; subst f4_; subst f5_))
           refine hK.out _ _ ⟨(blk_cell BK123.out 0).trans rfl, (blk_cell BK123.out 1).trans rfl⟩ (fun hHeld => ?_)
           clear hK K
           refine norm_ (a' := ?_) ?_ ?_
           rotate_left
           ·
            show Act.put _ (some 37) _ = _
            simp only [Act.put, List.setIfInBounds_toArray, List.set_cons_zero, List.set_cons_succ, i64_w, i32_w]
            rfl
           refine one_ (i := 8) (N := some 38) (tb 13 15) rfl rfl (one_of HT_.out (by kernel_rfl)) (by decide) (fun K hK => ?_)
           refine Kd.R_append_rows_step (Kd.int .u8) (w0 := w) w.heap.size (by rfl) (.tmp 30) (.tmp 37) 33 5 (.int .u8 0) 1 rfl Try.underlying33 info5 rfl (by decide) (by omega) (.slice Ao24 x5_1.length co24) x5_1 t124 _ _ _ (fun k_ => some k_ ≠ (v131 : Value).ownBlock ∧ nb Ao31 t124.length co31 k_) (fun _ => False) rfl rfl ?aO ?aR (fun _ _ h => h) (fun _ h => h.elim) ?aF ?aB ?aS ?aL ?_
           (case aR => repeat (first | exact (Kd.R_reads' HO126.out).2.2 | (with_reducible refine Kd.C_alloc ?_ _) | (with_reducible refine Kd.C_drewN ?_ _) | (with_reducible refine Kd.C_drew ?_)))
           (case aB => exact (by repeat (with_reducible first | exact HB.out | apply bA | apply bN | apply bD | refine bS ?_ ao)))
           (case aF => exact (fun k_ hk => ⟨Kd.fresh' (Kd.R_lt (ru (HO132.out))) k_ hk, Kd.fresh' (Kd.R_lt (ru (HO126.out))) k_ hk⟩))
           (case aO => exact (ru (Kd.R_mono HO_5.out (fun _ hk => ⟨hk.1.2, hk.2⟩))))
           (case aS => exact (below_size (by repeat (with_reducible first | exact HB.out | apply bA | apply bN | apply bD | refine bS ?_ ao))))
           (case aL => have := LMc19.out; omega)
           intro v128 w30 ho hb hg hat
           rw [← Ny127.out] at ho
           have HO129 := am (ho); replace BK114 := am (blk_grown (g := gb114) (o := .cells #[.int .i64 a0_0, .slice (some ad122) l0_1.length c0_1] 30 (0, 0)) (bu BK114.out) hg (Kd.R_ne HO_5.out BK114.out (by decide))); replace BK123 := am (blk_grown (g := gb123) (o := .cells #[.int .i64 ((rd_T32 l0_1 x26_1).f0), .int .i64 ((rd_T32 l0_1 x26_1).f1)] 32 (0, 0)) (bu BK123.out) hg (Kd.R_ne HO_5.out BK123.out (by decide))); replace HO132 := am (Kd.R_after (ok := (fun k_ => nb Ao31 t124.length co31 k_)) (ru (Kd.R_mono HO132.out (fun _ hk => ⟨hk.2, hk.1.2⟩))) hg hat); replace HO126 := am (Kd.R_after (ok := (fun k_ => some k_ ≠ (v131 : Value).ownBlock)) (ru (Kd.R_mono HO126.out (fun _ hk => ⟨hk.2, hk.1.2⟩))) hg hat); replace HB := am (hb); clear HO_5
           clear ho hb hg hat
           refine hK.out _ _ ⟨(blk_cell BK123.out 0).trans rfl, (blk_cell BK123.out 1).trans rfl⟩ (fun hHeld => ?_)
           clear hK K
           refine norm_ (a' := ?_) ?_ ?_
           rotate_left
           ·
            show Act.put _ (some 38) _ = _
            simp only [Act.put, List.setIfInBounds_toArray, List.set_cons_zero, List.set_cons_succ, i64_w, i32_w]
            rfl
           exact norm_ (by simp only [putAll, Act.put, List.setIfInBounds_toArray, List.set_cons_zero, List.set_cons_succ]) (hCont (.slice Ao31 t124.length co31, v128, v131) _ ⟨hHeld, (ru (Kd.R_mono HO126.out (fun _ hk => ⟨hk.2, hk.1⟩))), (ru (Kd.R_mono HO129.out (fun _ hk => ⟨hk.2, hk.1⟩))), (ru (HO132.out)), (bu BK114.out), (bu BK123.out), (by repeat (with_reducible first | exact HB.out | apply bA | apply bN | apply bD | refine bS ?_ ao))⟩)
         rintro ⟨v125, v128, v131⟩ w32 ⟨hS_, h0_, h1_, h2_, h3_, h4_, h5_⟩
         have n0_ : Aside0 (Kd.R (Kd.int .u8) 5 w32 w.heap.size (fun k_ => some k_ ≠ (v128 : Value).ownBlock ∧ some k_ ≠ (v131 : Value).ownBlock) v125 t124) := ⟨h0_⟩
         have n1_ : Aside0 (Kd.R (Kd.int .u8) 5 w32 w.heap.size (fun k_ => some k_ ≠ (v125 : Value).ownBlock ∧ some k_ ≠ (v131 : Value).ownBlock) v128 y127) := ⟨h1_⟩
         have n2_ : Aside0 (Kd.R (Kd.int .u8) 5 w32 w.heap.size (fun k_ => some k_ ≠ (v125 : Value).ownBlock ∧ some k_ ≠ (v128 : Value).ownBlock) v131 y130) := ⟨h2_⟩
         have n3_ : Aside0 (w32.heap[gb114]? = some (.cells #[.int .i64 a0_0, .slice (some ad122) l0_1.length c0_1] 30 (0, 0))) := ⟨h3_⟩
         have n4_ : Aside0 (w32.heap[gb123]? = some (.cells #[.int .i64 ((rd_T32 l0_1 x26_1).f0), .int .i64 ((rd_T32 l0_1 x26_1).f1)] 32 (0, 0))) := ⟨h4_⟩
         have n5_ : Aside0 (Below w.heap.size w w32) := ⟨h5_⟩
         clear HO_5
         clear BK114
         clear BK123
         clear HB
         clear h0_ h1_ h2_ h3_ h4_ h5_
         have HO126 := n0_; have HO129 := n1_; have HO132 := n2_; have BK114 := n3_; have BK123 := n4_; have HB := n5_
         clear n0_ n1_ n2_ n3_ n4_ n5_
         have hHeld : w32.cell? ⟨gb123, 0, none⟩ = some (.int .i64 ((rd_T32 l0_1 x26_1).f0)) ∧ w32.cell? ⟨gb123, 1, none⟩ = some (.int .i64 ((rd_T32 l0_1 x26_1).f1)) := hS_
         obtain ⟨Ao34, co34, eo34⟩ := Kd.R_slice HO132.out
         (first | subst eo34 | (injection eo34 with f1_ f2_ f3_; have f4_ := f1_.symm; have f5_ := f3_.symm; clear f1_ f2_ f3_; subst f4_; subst f5_))
         refine norm_ (a' := ?_) ?_ ?_
         rotate_left
         ·
          simp only [putAll, Act.put, List.setIfInBounds_toArray, List.set_cons_zero, List.set_cons_succ]
          rfl
         refine one_ (i := 13) (N := some 43) (tb 14 15) rfl rfl (one_of HT_.out (by kernel_rfl)) (by decide) (fun K hK => ?_)
         refine Kd.R_append_rows_step (Kd.int .u8) (w0 := w) w.heap.size (by rfl) (.tmp 38) (.tmp 42) 33 5 (.int .u8 0) 1 rfl Try.underlying33 info5 rfl (by decide) (by omega) v128 y127 y130 _ _ _ (fun k_ => some k_ ≠ (v125 : Value).ownBlock ∧ nb Ao34 y130.length co34 k_) (fun _ => False) rfl rfl ?aO ?aR (fun _ _ h => h) (fun _ h => h.elim) ?aF ?aB ?aS ?aL ?_
         (case aR => repeat (first | exact (Kd.R_reads' HO132.out).2.2 | (with_reducible refine Kd.C_alloc ?_ _) | (with_reducible refine Kd.C_drewN ?_ _) | (with_reducible refine Kd.C_drew ?_)))
         (case aB => exact (by repeat (with_reducible first | exact HB.out | apply bA | apply bN | apply bD | refine bS ?_ ao)))
         (case aF => exact (fun k_ hk => ⟨Kd.fresh' (Kd.R_lt (ru (HO126.out))) k_ hk, Kd.fresh' (Kd.R_lt (ru (HO132.out))) k_ hk⟩))
         (case aO => exact (ru (HO129.out)))
         (case aS => exact (below_size (by repeat (with_reducible first | exact HB.out | apply bA | apply bN | apply bD | refine bS ?_ ao))))
         (case aL => have := LMc20.out; omega)
         intro v134 w33 ho hb hg hat
         rw [← Ny133.out] at ho
         have HO135 := am (ho); replace BK114 := am (blk_grown (g := gb114) (o := .cells #[.int .i64 a0_0, .slice (some ad122) l0_1.length c0_1] 30 (0, 0)) (bu BK114.out) hg (Kd.R_ne HO129.out BK114.out (by decide))); replace BK123 := am (blk_grown (g := gb123) (o := .cells #[.int .i64 ((rd_T32 l0_1 x26_1).f0), .int .i64 ((rd_T32 l0_1 x26_1).f1)] 32 (0, 0)) (bu BK123.out) hg (Kd.R_ne HO129.out BK123.out (by decide))); replace HO126 := am (Kd.R_after (ok := (fun k_ => nb Ao34 y130.length co34 k_)) (ru (Kd.R_mono HO126.out (fun _ hk => ⟨hk.2, hk.1⟩))) hg hat); replace HO132 := am (Kd.R_after (ok := (fun k_ => some k_ ≠ (v125 : Value).ownBlock)) (ru (HO132.out)) hg hat); replace HB := am (hb); clear HO129
         clear ho hb hg hat
         refine hK.out _ _ ⟨(blk_cell BK123.out 0).trans rfl, (blk_cell BK123.out 1).trans rfl⟩ (fun hHeld => ?_)
         clear hK K
         refine norm_ (a' := ?_) ?_ ?_
         rotate_left
         ·
          show Act.put _ (some 43) _ = _
          simp only [Act.put, List.setIfInBounds_toArray, List.set_cons_zero, List.set_cons_succ, i64_w, i32_w]
          rfl
         refine pu 14 (some 5) (v := ?_) (a' := ?_) (tb 15 15) rfl rfl (any_of HT_.out (by kernel_rfl)) (fun _ _ _ h => h) ⟨by rfl, ?_⟩ ?_ ?_; rotate_left; · (intro w'; go_simp; with_reducible rfl)
         rotate_left; · (simp only [Act.put, sa_, sb_, sc_, i64_w, i32_w]; rfl)
         refine done_ (done_of HT_.out (by kernel_rfl)) ?_
         obtain ⟨hcz35_0, hcz35_1, hfz35_0, hfz35_1⟩ := cf BK123.out
         try go_wp2
         go_roundg k1
         case measure => have := HK1.out; omega
         case rel => exact ⟨(y133), ((rd_T32 l0_1 x26_1).f0), (wrap64 (x26_1 + 1)), (by first | rfl | (simp; done) | (simp [*]; done)), (by first | rfl | (simp; done) | (simp [*]; done)), H', ⟨by have := HK1.out; omega⟩, ⟨by (with_reducible repeat (first | apply Kd.R_alloc | apply Kd.R_drewN | apply Kd.R_drew)); exact Kd.R_mono HO135.out (fun _ hk => trivial)⟩, ⟨bu BK114.out⟩, ⟨by repeat (with_reducible first | exact HB.out | apply bA | apply bN | apply bD | refine bS ?_ ao)⟩⟩
        ·
         rw [if_neg c20] at H
         exact absurd H (by simp)
       ·
        rw [if_neg c19] at H
        exact absurd H (by simp)
      ·
       rw [if_neg c17] at H
       exact absurd H (by simp)
     ·
      rw [if_neg c16] at H
      exact absurd H (by simp)
    ·
     rw [if_neg c15] at H
     have c15b0 : decide (x26_1 < (l0_1.length : Int)) = false := decide_eq_false c15
     clear c15
     simp only [Option.some.injEq, Prod.mk.injEq] at H
     obtain ⟨rfl, rfl⟩ := H
     go_wp2
     go_ret2
     exact ⟨_, by first | rfl | (simp [errW_none, errW_some] <;> rfl) | (simp [*, errW_none, errW_some] <;> rfl), by (with_reducible repeat (first | apply Kd.R_alloc | apply Kd.R_drewN | apply Kd.R_drew)); exact HO_5.out, by repeat (with_reducible first | exact HB.out | apply bA | apply bN | apply bD | refine bS ?_ ao)⟩
 ·
  rw [if_neg c3] at H
  have c3b0 : (t115 == 0) = false := beq_eq_false_iff_ne.mpr c3
  have c3b1 : (t115 != 0) = true := bne_iff_ne.mpr c3
  simp only [Option.some.injEq, Prod.mk.injEq] at H
  obtain ⟨rfl, rfl⟩ := H
  go_enter Try.func18, Try.ntmps18
  go_wp2_with (first | ((with_reducible refine gate_dst (N := 1) rfl ?_); refine box_event ?hg (N := 1) ?hd (cs := #[.int .i64 a0_0, .slice A0_1 l0_1.length c0_1]) (t := 30) ?hr ?_; (case hd => rfl); (case hg => rfl); (case hr => go_simp; try rfl); intro gb114 hg w36 hbox hb; obtain ⟨HBn, GW114⟩ := tri hg hb (hu HB.out); have GE114 := GW114; have BK114 := am (hbox); clear HB; have HB := HBn; clear HBn; clear hb hbox hg; obtain ⟨hcz37_0, hcz37_1, hfz37_0, hfz37_1⟩ := cf BK114.out) | ((with_reducible refine gate_callee (f := 33) rfl ?_); refine goesL_ (some 10) rfl rfl Try.func33 (by kernel_rfl) rfl #[.agg #[.int .i64 a0_0, .slice A0_1 l0_1.length c0_1]] rfl (by (try simp only [List.map_toArray, List.map_cons, List.map_nil]); first | done | rfl) ?_; (with_reducible refine (hll_Check.calls k a0_0 _ _ l0_1 t115 _ ?side1 ?side2 A2.out).mono ?_); (case side1 => exact cu (Kd.C_below HR0_1.out HB.out)); (case side2 => exact HC0_1.out); rintro e w38 ⟨rfl, hb⟩; refine ⟨_, rfl, ?_⟩; replace BK114 := bb BK114 hb; replace HB := am (below_step (by repeat (with_reducible first | exact HB.out | apply bA | apply bN | apply bD | refine bS ?_ ao)) hb); (try clear hb)))
  go_ret2
  exact ⟨_, by first | rfl | (simp [errW_none, errW_some] <;> rfl) | (simp [*, errW_none, errW_some] <;> rfl), by first | exact Kd.R_nil _ _ _ _ _ | exact Kd.V_nil _ _ _ _ _, by repeat (with_reducible first | exact HB.out | apply bA | apply bN | apply bD | refine bS ?_ ao)⟩

end Go.Proofs.Ytbclnjinpcfpjaa.H
