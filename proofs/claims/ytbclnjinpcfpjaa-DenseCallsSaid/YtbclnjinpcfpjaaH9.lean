-- Made by this session's own call of the printer (functions that are proved by hand are taken from a text beside it).
import Derived.Test.YtbclnjinpcfpjaaZ4
import Derived.Test.YtbclnjinpcfpjaaH0
import Derived.Test.YtbclnjinpcfpjaaH1
namespace Go.Proofs.Ytbclnjinpcfpjaa.H
open Go.RowKit Go.Proofs.YtbclnjinpcfpjaaW.PrintWords Go.Proofs.YtbclnjinpcfpjaaW.PrintLast Go.Proofs.YtbclnjinpcfpjaaW.PrintMore
attribute [local go_sem] max2_int min2_int max_two min_two max_three min_three max_four min_four   -- for this text's walks alone
set_option linter.unusedVariables false
set_option linter.unusedSimpArgs false

attribute [local go_sem high] eqA32
/-! ### tallymankit_Hll: function 40 -/
mutual
def tallymankit_Hll.j0 : Nat → Bool → Int → List (S32) → Int → List (S32) → Option (Bool)
 | 0, _, _, _, _, _ => none
 | k + 1, x19, x320000, x320001, x321000, x321001 => if x19 = true then (some false) else (tallymankit_Hll.l0 k 0 x320000 x320001 x321000 x321001)
def tallymankit_Hll.l0 : Nat → Int → Int → List (S32) → Int → List (S32) → Option (Bool)
 | 0, _, _, _, _, _ => none
 | k + 1, x5, x320000, x320001, x321000, x321001 => if x5 < (x320001.length : Int) then (if 0 ≤ x5 then (if x5 < (x321001.length : Int) then (if (!(((rd_T32 x320001 x5).f0) == ((rd_T32 x321001 x5).f0)) || (!(((rd_T32 x320001 x5).f1) == ((rd_T32 x321001 x5).f1)))) = true then (some false) else (tallymankit_Hll.l0 k (wrap64 (x5 + 1)) x320000 x320001 x321000 x321001)) else (none)) else (none)) else (some true)
end
def tallymankit_Hll.f (k : Nat) (a0_0 : Int) (l0_1 : List (S32)) (a1_0 : Int) (l1_1 : List (S32)) : Option (Bool) := if a0_0 = a1_0 then (tallymankit_Hll.j0 k ((l0_1.length : Int) != (l1_1.length : Int)) a0_0 l0_1 a1_0 l1_1) else (tallymankit_Hll.j0 k true a0_0 l0_1 a1_0 l1_1)
theorem tallymankit_Hll.mono_l : ∀ k, (∀ y0 y1 y2 y3 y4, LeO (tallymankit_Hll.j0 k y0 y1 y2 y3 y4) (tallymankit_Hll.j0 (k + 1) y0 y1 y2 y3 y4)) ∧ (∀ y0 y1 y2 y3 y4, LeO (tallymankit_Hll.l0 k y0 y1 y2 y3 y4) (tallymankit_Hll.l0 (k + 1) y0 y1 y2 y3 y4))
 | 0 => ⟨fun _ _ _ _ _ r h => by simp [tallymankit_Hll.j0] at h, fun _ _ _ _ _ r h => by simp [tallymankit_Hll.l0] at h⟩
 | k + 1 => by
  obtain ⟨ih0, ih1⟩ := tallymankit_Hll.mono_l k
  refine ⟨?_, ?_⟩
  ·
   intro y0 y1 y2 y3 y4
   unfold tallymankit_Hll.j0
   repeat' first
   | (with_reducible exact ih0 _ _ _ _ _)
   | (with_reducible exact ih1 _ _ _ _ _)
   | (with_reducible exact LeO.refl _)
   | (with_reducible exact LeO.none _)
   | (with_reducible refine LeO.ite ?_ ?_)
   | (with_reducible refine LeO.bind ?_ (fun _ => ?_))
  ·
   intro y0 y1 y2 y3 y4
   unfold tallymankit_Hll.l0
   repeat' first
   | (with_reducible exact ih0 _ _ _ _ _)
   | (with_reducible exact ih1 _ _ _ _ _)
   | (with_reducible exact LeO.refl _)
   | (with_reducible exact LeO.none _)
   | (with_reducible refine LeO.ite ?_ ?_)
   | (with_reducible refine LeO.bind ?_ (fun _ => ?_))
theorem tallymankit_Hll.mono : ∀ a0 a1 a2 a3 k, LeO (tallymankit_Hll.f k a0 a1 a2 a3) (tallymankit_Hll.f (k + 1) a0 a1 a2 a3) := by
 intro a0 a1 a2 a3 k
 obtain ⟨ih0, ih1⟩ := tallymankit_Hll.mono_l k
 unfold tallymankit_Hll.f
 repeat' first
   | (with_reducible exact ih0 _ _ _ _ _)
   | (with_reducible exact ih1 _ _ _ _ _)
   | (with_reducible exact LeO.refl _)
   | (with_reducible exact LeO.none _)
   | (with_reducible refine LeO.ite ?_ ?_)
   | (with_reducible refine LeO.bind ?_ (fun _ => ?_))
set_option maxHeartbeats 8000000 in
set_option maxRecDepth 100000 in
theorem tallymankit_Hll.calls (k : Nat) (a0_0 : Int) (A0_1 : Option Addr) (c0_1 : Nat) (l0_1 : List (S32)) (a1_0 : Int) (A1_1 : Option Addr) (c1_1 : Nat) (l1_1 : List (S32)) (r : Bool) (w : World) (hr0_1 : Kd.C k32 w A0_1 l0_1.length l0_1) (hc0_1 : l0_1.length ≤ c0_1) (hr1_1 : Kd.C k32 w A1_1 l1_1.length l1_1) (hc1_1 : l1_1.length ≤ c1_1) (h : tallymankit_Hll.f k a0_0 l0_1 a1_0 l1_1 = some r) :
  Calls Try.prog 40 #[.agg #[.int .i64 a0_0, .slice A0_1 l0_1.length c0_1], .agg #[.int .i64 a1_0, .slice A1_1 l1_1.length c1_1]] w fun e w' => e = .returned (.bool r) ∧ Below w.heap.size w w' := by
 have hu30 := Try.underlying30
 have hu32 := Try.underlying32
 have HR0_1 := Aside0.mk hr0_1
 have HC0_1 := Aside0.mk hc0_1
 clear hr0_1 hc0_1
 have HR1_1 := Aside0.mk hr1_1
 have HC1_1 := Aside0.mk hc1_1
 clear hr1_1 hc1_1
 have HB := am (Below.refl w.heap.size w)
 have H : (if a0_0 = a1_0 then (tallymankit_Hll.j0 k ((l0_1.length : Int) != (l1_1.length : Int)) a0_0 l0_1 a1_0 l1_1) else (tallymankit_Hll.j0 k true a0_0 l0_1 a1_0 l1_1)) = some r := h
 clear h
 have HC3 := Aside0.mk H
 clear H
 go_enter Try.func40, Try.ntmps40
 go_upto_region 1 with (first | ((with_reducible refine gate_dst (N := 2) rfl ?_); (try (refine gate_guard (by rfl) ?_; dsimp only)); refine box_event ?hg (N := 2) ?hd (cs := #[.int .i64 a0_0, .slice A0_1 l0_1.length c0_1]) (t := 30) ?hr ?_; (case hd => rfl); (case hg => rfl); (case hr => go_simp; try rfl); intro gb319 hg w4 hbox hb; obtain ⟨HBn, GW319⟩ := tri hg hb (hu HB.out); have GE319 := GW319; have BK319 := am (hbox); clear HB; have HB := HBn; clear HBn; clear hb hbox hg) | ((with_reducible refine gate_dst (N := 3) rfl ?_); (try (refine gate_guard (by rfl) ?_; dsimp only)); refine box_event ?hg (N := 3) ?hd (cs := #[.int .i64 a1_0, .slice A1_1 l1_1.length c1_1]) (t := 30) ?hr ?_; (case hd => rfl); (case hg => rfl); (case hr => go_simp; try rfl); intro gb320 hg w5 hbox hb; obtain ⟨HBn, GW320⟩ := tri hg hb (by repeat (with_reducible first | exact HB.out | apply bA | apply bN | apply bD | refine bS ?_ ao)); have GE320 := GW320; have BK320 := am (hbox); have NB319_320 := nl hg (bu BK319.out); have NB320_319 := nr hg (bu BK319.out); replace BK319 := bb BK319 hb; clear HB; have HB := HBn; clear HBn; clear hb hbox hg))
 repeat (go_quiet (first | ((with_reducible refine gate_dst (N := 2) rfl ?_); (try (refine gate_guard (by rfl) ?_; dsimp only)); refine box_event ?hg (N := 2) ?hd (cs := #[.int .i64 a0_0, .slice A0_1 l0_1.length c0_1]) (t := 30) ?hr ?_; (case hd => rfl); (case hg => rfl); (case hr => go_simp; try rfl); intro gb319 hg w4 hbox hb; obtain ⟨HBn, GW319⟩ := tri hg hb (hu HB.out); have GE319 := GW319; have BK319 := am (hbox); clear HB; have HB := HBn; clear HBn; clear hb hbox hg) | ((with_reducible refine gate_dst (N := 3) rfl ?_); (try (refine gate_guard (by rfl) ?_; dsimp only)); refine box_event ?hg (N := 3) ?hd (cs := #[.int .i64 a1_0, .slice A1_1 l1_1.length c1_1]) (t := 30) ?hr ?_; (case hd => rfl); (case hg => rfl); (case hr => go_simp; try rfl); intro gb320 hg w5 hbox hb; obtain ⟨HBn, GW320⟩ := tri hg hb (by repeat (with_reducible first | exact HB.out | apply bA | apply bN | apply bD | refine bS ?_ ao)); have GE320 := GW320; have BK320 := am (hbox); have NB319_320 := nl hg (bu BK319.out); have NB320_319 := nr hg (bu BK319.out); replace BK319 := bb BK319 hb; clear HB; have HB := HBn; clear HBn; clear hb hbox hg)); go_upto_region 1 with (first | ((with_reducible refine gate_dst (N := 2) rfl ?_); (try (refine gate_guard (by rfl) ?_; dsimp only)); refine box_event ?hg (N := 2) ?hd (cs := #[.int .i64 a0_0, .slice A0_1 l0_1.length c0_1]) (t := 30) ?hr ?_; (case hd => rfl); (case hg => rfl); (case hr => go_simp; try rfl); intro gb319 hg w4 hbox hb; obtain ⟨HBn, GW319⟩ := tri hg hb (hu HB.out); have GE319 := GW319; have BK319 := am (hbox); clear HB; have HB := HBn; clear HBn; clear hb hbox hg) | ((with_reducible refine gate_dst (N := 3) rfl ?_); (try (refine gate_guard (by rfl) ?_; dsimp only)); refine box_event ?hg (N := 3) ?hd (cs := #[.int .i64 a1_0, .slice A1_1 l1_1.length c1_1]) (t := 30) ?hr ?_; (case hd => rfl); (case hg => rfl); (case hr => go_simp; try rfl); intro gb320 hg w5 hbox hb; obtain ⟨HBn, GW320⟩ := tri hg hb (by repeat (with_reducible first | exact HB.out | apply bA | apply bN | apply bD | refine bS ?_ ao)); have GE320 := GW320; have BK320 := am (hbox); have NB319_320 := nl hg (bu BK319.out); have NB320_319 := nr hg (bu BK319.out); replace BK319 := bb BK319 hb; clear HB; have HB := HBn; clear HBn; clear hb hbox hg)))
 (try simp only [Act.put, List.setIfInBounds_toArray, List.set_cons_zero, List.set_cons_succ])
 go_cut [19] (fun v19 wc => ∃ (kq : Nat) (x19_2 : Bool), v19 = .bool x19_2 ∧ Aside0 (tallymankit_Hll.j0 kq x19_2 a0_0 l0_1 a1_0 l1_1 = some r) ∧ Aside0 (kq ≤ k) ∧ Aside0 (wc.heap[gb319]? = some (.cells #[.int .i64 a0_0, (.slice A0_1 l0_1.length c0_1)] 30 (0, 0))) ∧ Aside0 (wc.heap[gb320]? = some (.cells #[.int .i64 a1_0, (.slice A1_1 l1_1.length c1_1)] 30 (0, 0))) ∧ Aside0 (Below w.heap.size w wc))
 case first =>
  have H := HC3.out
  clear HC3
  by_cases c6 : a0_0 = a1_0
  ·
   rw [if_pos c6] at H
   have c6b0 : (a0_0 == a1_0) = true := beq_iff_eq.mpr c6
   have c6b1 : (a0_0 != a1_0) = false := bne_eq_false_iff_eq.mpr c6
   clear c6
   (first | rw [c6b0] | (simp only [i64_w, i32_w]; rw [c6b0]) | skip)
   have H' := Aside0.mk H
   clear H
   have hnb7 := NB319_320.out
   have hnc7 := NB320_319.out
   obtain ⟨hcz8_0, hcz8_1, hfz8_0, hfz8_1⟩ := cf BK319.out
   obtain ⟨hcz9_0, hcz9_1, hfz9_0, hfz9_1⟩ := cf BK320.out
   go_wp2
   repeat (go_quiet (fail); try go_wp2)
   go_meet
   case rel => exact ⟨_, (((l0_1.length : Int) != (l1_1.length : Int))), (by first | rfl | (simp; done) | (simp [*]; done)), H', ⟨by first | omega | exact Nat.le_refl _⟩, ⟨bu BK319.out⟩, ⟨bu BK320.out⟩, ⟨by repeat (with_reducible first | exact HB.out | apply bA | apply bN | apply bD | refine bS ?_ ao)⟩⟩
  ·
   rw [if_neg c6] at H
   have c6b0 : (a0_0 == a1_0) = false := beq_eq_false_iff_ne.mpr c6
   have c6b1 : (a0_0 != a1_0) = true := bne_iff_ne.mpr c6
   (first | rw [c6b0] | (simp only [i64_w, i32_w]; rw [c6b0]) | skip)
   have H' := Aside0.mk H
   clear H
   have hnb10 := NB319_320.out
   have hnc10 := NB320_319.out
   obtain ⟨hcz11_0, hcz11_1, hfz11_0, hfz11_1⟩ := cf BK319.out
   obtain ⟨hcz12_0, hcz12_1, hfz12_0, hfz12_1⟩ := cf BK320.out
   go_wp2
   repeat (go_quiet (fail); try go_wp2)
   go_meet
   case rel => exact ⟨_, (true), (by first | rfl | (simp; done) | (simp [*]; done)), H', ⟨by first | omega | exact Nat.le_refl _⟩, ⟨bu BK319.out⟩, ⟨bu BK320.out⟩, ⟨by repeat (with_reducible first | exact HB.out | apply bA | apply bN | apply bD | refine bS ?_ ao)⟩⟩
 case rest =>
  clear HC3
  obtain ⟨kq, x19_2, rfl, HA, HJ2, BK319, BK320, HB⟩ := hcut
  cases kq with
  | zero => exact absurd HA.out (by simp [tallymankit_Hll.j0])
  | succ kj2 =>
   have H := HA.out
   clear HA
   simp only [tallymankit_Hll.j0] at H
   by_cases c13 : x19_2 = true
   ·
    subst c13
    rw [if_pos rfl] at H
    obtain rfl := Option.some.inj H
    go_wp2
    repeat (go_quiet (fail); try go_wp2)
    go_ret
    exact ⟨by first | rfl | (simp [errW_none, errW_some] <;> rfl) | (simp [*, errW_none, errW_some] <;> rfl), by repeat (with_reducible first | exact HB.out | apply bA | apply bN | apply bD | refine bS ?_ ao)⟩
   ·
    replace c13 := Bool.eq_false_iff.mpr c13
    subst c13
    rw [if_neg Bool.false_ne_true] at H
    have H' := Aside0.mk H
    clear H
    go_wp2
    repeat (go_quiet (fail); try go_wp2)
    go_loopg [5] kj2 (fun kq v5 w' => ∃ (x5_2 : Int), v5 = .int .i64 x5_2 ∧ Aside0 (tallymankit_Hll.l0 kq x5_2 a0_0 l0_1 a1_0 l1_1 = some r) ∧ Aside0 (kq ≤ kj2) ∧ Aside0 (w'.heap[gb319]? = some (.cells #[.int .i64 a0_0, (.slice A0_1 l0_1.length c0_1)] 30 (0, 0))) ∧ Aside0 (w'.heap[gb320]? = some (.cells #[.int .i64 a1_0, (.slice A1_1 l1_1.length c1_1)] 30 (0, 0))) ∧ Aside0 (Below w.heap.size w w'))
    case atStart => exact ⟨(0), (by first | rfl | (simp; done) | (simp [*]; done)), H', ⟨Nat.le_refl _⟩, ⟨bu BK319.out⟩, ⟨bu BK320.out⟩, ⟨by repeat (with_reducible first | exact HB.out | apply bA | apply bN | apply bD | refine bS ?_ ao)⟩⟩
    case round =>
     clear H'
     obtain ⟨x5_2, rfl, HA, HK2, BK319, BK320, HB⟩ := hrel
     cases gk with
     | zero => exact absurd HA.out (by simp [tallymankit_Hll.l0])
     | succ k2 =>
      have H := HA.out
      clear HA
      simp only [tallymankit_Hll.l0] at H
      by_cases c14 : x5_2 < (l0_1.length : Int)
      ·
       rw [if_pos c14] at H
       have c14b0 : decide (x5_2 < (l0_1.length : Int)) = true := decide_eq_true c14
       clear c14
       by_cases c15 : 0 ≤ x5_2
       ·
        rw [if_pos c15] at H
        have c15b0 : decide (0 ≤ x5_2) = true := decide_eq_true c15
        clear c15
        by_cases c16 : x5_2 < (l1_1.length : Int)
        ·
         rw [if_pos c16] at H
         have c16b0 : decide (x5_2 < (l1_1.length : Int)) = true := decide_eq_true c16
         clear c16
         by_cases c17 : (!(((rd_T32 l0_1 x5_2).f0) == ((rd_T32 l1_1 x5_2).f0)) || (!(((rd_T32 l0_1 x5_2).f1) == ((rd_T32 l1_1 x5_2).f1)))) = true
         ·
          rw [if_pos c17] at H
          have c17b0 : (!(((rd_T32 l0_1 x5_2).f0) == ((rd_T32 l1_1 x5_2).f0)) || (!(((rd_T32 l0_1 x5_2).f1) == ((rd_T32 l1_1 x5_2).f1)))) = true := c17
          clear c17
          obtain rfl := Option.some.inj H
          have hnb18 := NB319_320.out; have hnc18 := NB320_319.out; obtain ⟨hcz19_0, hcz19_1, hfz19_0, hfz19_1⟩ := cf BK319.out
          have p321 : 0 ≤ (x5_2 : Int) := of_decide_eq_true (by first | (with_reducible assumption) | assumption)
          have q321 : x5_2 < (l0_1.length : Int) := of_decide_eq_true (by first | (with_reducible assumption) | assumption)
          obtain ⟨ad321, e321, hx321_0, hx321_1⟩ := at_T32 HR0_1.out x5_2 p321 q321
          cases e321
          replace hx321_0 := (HB.out.cell (World.block_lt_of_cell? w _ hx321_0)).trans hx321_0
          replace hx321_1 := (HB.out.cell (World.block_lt_of_cell? w _ hx321_1)).trans hx321_1
          replace p321 := eq_true p321
          replace q321 := eq_true q321
          obtain ⟨hcz20_0, hcz20_1, hfz20_0, hfz20_1⟩ := cf BK320.out
          have p322 : 0 ≤ (x5_2 : Int) := of_decide_eq_true (by first | (with_reducible assumption) | assumption)
          have q322 : x5_2 < (l1_1.length : Int) := of_decide_eq_true (by first | (with_reducible assumption) | assumption)
          obtain ⟨ad322, e322, hx322_0, hx322_1⟩ := at_T32 HR1_1.out x5_2 p322 q322
          cases e322
          replace hx322_0 := (HB.out.cell (World.block_lt_of_cell? w _ hx322_0)).trans hx322_0
          replace hx322_1 := (HB.out.cell (World.block_lt_of_cell? w _ hx322_1)).trans hx322_1
          replace p322 := eq_true p322
          replace q322 := eq_true q322
          go_wp2
          repeat (go_quiet (fail); try go_wp2)
          go_ret
          exact ⟨by first | rfl | (simp [errW_none, errW_some] <;> rfl) | (simp [*, errW_none, errW_some] <;> rfl), by repeat (with_reducible first | exact HB.out | apply bA | apply bN | apply bD | refine bS ?_ ao)⟩
         ·
          rw [if_neg c17] at H
          have c17b0 : (!(((rd_T32 l0_1 x5_2).f0) == ((rd_T32 l1_1 x5_2).f0)) || (!(((rd_T32 l0_1 x5_2).f1) == ((rd_T32 l1_1 x5_2).f1)))) = false := by simpa using c17
          clear c17
          have H' := Aside0.mk H
          clear H
          have hnb21 := NB319_320.out; have hnc21 := NB320_319.out; obtain ⟨hcz22_0, hcz22_1, hfz22_0, hfz22_1⟩ := cf BK319.out
          have p321 : 0 ≤ (x5_2 : Int) := of_decide_eq_true (by first | (with_reducible assumption) | assumption)
          have q321 : x5_2 < (l0_1.length : Int) := of_decide_eq_true (by first | (with_reducible assumption) | assumption)
          obtain ⟨ad321, e321, hx321_0, hx321_1⟩ := at_T32 HR0_1.out x5_2 p321 q321
          cases e321
          replace hx321_0 := (HB.out.cell (World.block_lt_of_cell? w _ hx321_0)).trans hx321_0
          replace hx321_1 := (HB.out.cell (World.block_lt_of_cell? w _ hx321_1)).trans hx321_1
          replace p321 := eq_true p321
          replace q321 := eq_true q321
          obtain ⟨hcz23_0, hcz23_1, hfz23_0, hfz23_1⟩ := cf BK320.out
          have p322 : 0 ≤ (x5_2 : Int) := of_decide_eq_true (by first | (with_reducible assumption) | assumption)
          have q322 : x5_2 < (l1_1.length : Int) := of_decide_eq_true (by first | (with_reducible assumption) | assumption)
          obtain ⟨ad322, e322, hx322_0, hx322_1⟩ := at_T32 HR1_1.out x5_2 p322 q322
          cases e322
          replace hx322_0 := (HB.out.cell (World.block_lt_of_cell? w _ hx322_0)).trans hx322_0
          replace hx322_1 := (HB.out.cell (World.block_lt_of_cell? w _ hx322_1)).trans hx322_1
          replace p322 := eq_true p322
          replace q322 := eq_true q322
          go_wp2
          repeat (go_quiet (fail); try go_wp2)
          go_roundg k2
          case measure => have := HJ2.out; have := HK2.out; omega
          case rel => exact ⟨(wrap64 (x5_2 + 1)), (by first | rfl | (simp; done) | (simp [*]; done)), H', ⟨by have := HJ2.out; have := HK2.out; omega⟩, ⟨bu BK319.out⟩, ⟨bu BK320.out⟩, ⟨by repeat (with_reducible first | exact HB.out | apply bA | apply bN | apply bD | refine bS ?_ ao)⟩⟩
        ·
         rw [if_neg c16] at H
         exact absurd H (by simp)
       ·
        rw [if_neg c15] at H
        exact absurd H (by simp)
      ·
       rw [if_neg c14] at H
       have c14b0 : decide (x5_2 < (l0_1.length : Int)) = false := decide_eq_false c14
       clear c14
       obtain rfl := Option.some.inj H
       have hnb24 := NB319_320.out; have hnc24 := NB320_319.out; obtain ⟨hcz25_0, hcz25_1, hfz25_0, hfz25_1⟩ := cf BK319.out
       go_wp2
       repeat (go_quiet (fail); try go_wp2)
       go_ret
       exact ⟨by first | rfl | (simp [errW_none, errW_some] <;> rfl) | (simp [*, errW_none, errW_some] <;> rfl), by repeat (with_reducible first | exact HB.out | apply bA | apply bN | apply bD | refine bS ?_ ao)⟩

end Go.Proofs.Ytbclnjinpcfpjaa.H
