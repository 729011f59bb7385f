-- Made by this session's own call of the printer (functions that are proved by hand are taken from a text beside it).
import Derived.Test.YtpagondojdlknaaZ3
import Derived.Test.YtpagondojdlknaaHR
import Derived.Test.YtpagondojdlknaaZ2
import Derived.Test.YtpagondojdlknaaH0
import Derived.Test.YtpagondojdlknaaH1
import Derived.Test.YtpagondojdlknaaH4
import Derived.Test.YtpagondojdlknaaH5
import Derived.Test.YtpagondojdlknaaH6
import Derived.Test.YtpagondojdlknaaH9
import Derived.Test.YtpagondojdlknaaH10
import Derived.Test.YtpagondojdlknaaH11
import Derived.Test.YtpagondojdlknaaH13
import Derived.Test.YtpagondojdlknaaH15
import Derived.Test.YtpagondojdlknaaH16
namespace Go.Proofs.Ytpagondojdlknaa.H
open Go.RowKit Go.Proofs.YtpagondojdlknaaW.PrintWords Go.Proofs.YtpagondojdlknaaW.PrintLast Go.Proofs.YtpagondojdlknaaW.PrintMore
attribute [local go_sem] max2_int min2_int max_two min_two max_three min_three max_four min_four   -- for this text's walks alone
open tallymanlaw17_SetopsCalls
set_option linter.unusedVariables false
set_option linter.unusedSimpArgs false

theorem no_1 {k : Nat} {x0 : Int} {x2 : Int} {x3 : List Int} {x4 : Int} {x5 : List Int} {r : Bool} (H : tallymanlaw17_SetopsCalls.j1 k x0 true x2 x3 x4 x5 = some r) : False := by
 cases k with
 | zero => simp [tallymanlaw17_SetopsCalls.j1] at H
 | succ k => simp [tallymanlaw17_SetopsCalls.j1] at H
theorem no_2 {k : Nat} {x1 : Int} {x2 : List Int} {x3 : Int} {x4 : List Int} {r : Bool} (H : tallymanlaw17_SetopsCalls.j2 k true x1 x2 x3 x4 = some r) : False := by
 cases k with
 | zero => simp [tallymanlaw17_SetopsCalls.j2] at H
 | succ k => simp [tallymanlaw17_SetopsCalls.j2] at H
theorem no_3 {k : Nat} {x1 : Int} {x2 : List Int} {x3 : Int} {x4 : List Int} {r : Bool} (H : tallymanlaw17_SetopsCalls.j3 k true x1 x2 x3 x4 = some r) : False := by
 cases k with
 | zero => simp [tallymanlaw17_SetopsCalls.j3] at H
 | succ k => simp [tallymanlaw17_SetopsCalls.j3] at H
theorem no_4 {k : Nat} {x1 : Int} {x2 : List Int} {x3 : Int} {x4 : List Int} {r : Bool} (H : tallymanlaw17_SetopsCalls.j4 k true x1 x2 x3 x4 = some r) : False := by
 cases k with
 | zero => simp [tallymanlaw17_SetopsCalls.j4] at H
 | succ k => simp [tallymanlaw17_SetopsCalls.j4] at H
theorem no_5 {k : Nat} {x1 : Int} {x2 : List Int} {x3 : Int} {x4 : List Int} {r : Bool} (H : tallymanlaw17_SetopsCalls.j5 k true x1 x2 x3 x4 = some r) : False := by
 cases k with
 | zero => simp [tallymanlaw17_SetopsCalls.j5] at H
 | succ k => simp [tallymanlaw17_SetopsCalls.j5] at H
set_option maxHeartbeats 8000000 in
set_option maxRecDepth 100000 in
theorem tallymanlaw17_SetopsCalls.calls (k : Nat) (a0_0 : Int) (A0_1 : Option Addr) (c0_1 : Nat) (l0_1 : List Int) (a1_0 : Int) (A1_1 : Option Addr) (c1_1 : Nat) (l1_1 : List Int) (a2_0 : Int) (A2_1 : Option Addr) (c2_1 : Nat) (l2_1 : List Int) (a2_2 : Int) (a3 : Int) (r : Bool) (w : World) (hr0_1 : Kd.C (Kd.int .u64) w A0_1 l0_1.length l0_1) (hc0_1 : l0_1.length ≤ c0_1) (hr1_1 : Kd.C (Kd.int .u64) w A1_1 l1_1.length l1_1) (hc1_1 : l1_1.length ≤ c1_1) (hr2_1 : Kd.C (Kd.int .u64) w A2_1 l2_1.length l2_1) (hc2_1 : l2_1.length ≤ c2_1) (h : tallymanlaw17_SetopsCalls.f k a0_0 l0_1 a1_0 l1_1 a2_0 l2_1 a2_2 a3 = some r) :
  Calls Try.prog 7 #[.agg #[.int .u64 a0_0, .slice A0_1 l0_1.length c0_1], .agg #[.int .u64 a1_0, .slice A1_1 l1_1.length c1_1], .agg #[.int .i64 a2_0, .slice A2_1 l2_1.length c2_1, .int .u64 a2_2], .int .u64 a3] w fun e w' => e = .returned (.bool r) ∧ Below w.heap.size w w' := by
 have hu25 := Try.underlying25
 have hu34 := Try.underlying34
 have HR0_1 := Aside0.mk hr0_1
 have HC0_1 := Aside0.mk hc0_1
 clear hr0_1 hc0_1
 have HR1_1 := Aside0.mk hr1_1
 have HC1_1 := Aside0.mk hc1_1
 clear hr1_1 hc1_1
 have HR2_1 := Aside0.mk hr2_1
 have HC2_1 := Aside0.mk hc2_1
 clear hr2_1 hc2_1
 have HB := am (Below.refl w.heap.size w)
 have H : ((tallymanlaw17_lives.f k).bind fun t489 => (if t489 = true then (if (l0_1.length : Int) > 300 then (j0 k a3 true a0_0 l0_1 a1_0 l1_1 a2_0 l2_1 a2_2) else (if (l1_1.length : Int) > 300 then (j0 k a3 true a0_0 l0_1 a1_0 l1_1 a2_0 l2_1 a2_2) else (j0 k a3 (decide ((l2_1.length : Int) > 300)) a0_0 l0_1 a1_0 l1_1 a2_0 l2_1 a2_2))) else (none))) = some r := h
 clear h
 replace H := Option.bind_eq_some_iff.mp H
 obtain ⟨t489, A50, H⟩ := H
 replace H : (if t489 = true then (if (l0_1.length : Int) > 300 then (j0 k a3 true a0_0 l0_1 a1_0 l1_1 a2_0 l2_1 a2_2) else (if (l1_1.length : Int) > 300 then (j0 k a3 true a0_0 l0_1 a1_0 l1_1 a2_0 l2_1 a2_2) else (j0 k a3 (decide ((l2_1.length : Int) > 300)) a0_0 l0_1 a1_0 l1_1 a2_0 l2_1 a2_2))) else (none)) = some r := H
 have A5 := Aside0.mk A50
 clear A50
 by_cases c6 : t489 = true
 ·
  subst c6
  have H1 : (if (l0_1.length : Int) > 300 then (j0 k a3 true a0_0 l0_1 a1_0 l1_1 a2_0 l2_1 a2_2) else (if (l1_1.length : Int) > 300 then (j0 k a3 true a0_0 l0_1 a1_0 l1_1 a2_0 l2_1 a2_2) else (j0 k a3 (decide ((l2_1.length : Int) > 300)) a0_0 l0_1 a1_0 l1_1 a2_0 l2_1 a2_2))) = some r := by rw [if_pos rfl] at H; exact H
  clear H
  have H := H1
  clear H1
  have HC7 := Aside0.mk H
  clear H
  go_enter Try.func7, Try.ntmps7
  go_upto_region 3 with (first | ((with_reducible refine gate_dst (N := 4) rfl ?_); (try (refine gate_guard (by rfl) ?_; dsimp only)); refine box_event ?hg (N := 4) ?hd (cs := #[.int .u64 a0_0, .slice A0_1 l0_1.length c0_1]) (t := 25) ?hr ?_; (case hd => rfl); (case hg => rfl); (case hr => first | (go_simp; done) | (go_simp; rfl)); intro gb486 hg w8 hbox hb; obtain ⟨HBn, GW486⟩ := tri hg hb (hu HB.out); have GE486 := GW486; have BK486 := am (hbox); clear HB; have HB := HBn; clear HBn; clear hb hbox hg) | ((with_reducible refine gate_dst (N := 5) rfl ?_); (try (refine gate_guard (by rfl) ?_; dsimp only)); refine box_event ?hg (N := 5) ?hd (cs := #[.int .u64 a1_0, .slice A1_1 l1_1.length c1_1]) (t := 25) ?hr ?_; (case hd => rfl); (case hg => rfl); (case hr => first | (go_simp; done) | (go_simp; rfl)); intro gb487 hg w9 hbox hb; obtain ⟨HBn, GW487⟩ := tri hg hb (by repeat (first | (with_reducible first | exact HB.out | apply below_alloc | apply pw_below_drewN | apply below_drew1 | refine below_set ?_ (Aside0.out (by assumption))) | exact HB.out)); have GE487 := GW487; have BK487 := am (hbox); have NB486_487 := nl hg (bu BK486.out); have NB487_486 := nr hg (bu BK486.out); replace BK486 := bb BK486 hb; clear HB; have HB := HBn; clear HBn; clear hb hbox hg) | ((with_reducible refine gate_dst (N := 6) rfl ?_); (try (refine gate_guard (by rfl) ?_; dsimp only)); refine box_event ?hg (N := 6) ?hd (cs := #[.int .i64 a2_0, .slice A2_1 l2_1.length c2_1, .int .u64 a2_2]) (t := 34) ?hr ?_; (case hd => rfl); (case hg => rfl); (case hr => first | (go_simp; done) | (go_simp; rfl)); intro gb488 hg w10 hbox hb; obtain ⟨HBn, GW488⟩ := tri hg hb (by repeat (first | (with_reducible first | exact HB.out | apply below_alloc | apply pw_below_drewN | apply below_drew1 | refine below_set ?_ (Aside0.out (by assumption))) | exact HB.out)); have GE488 := GW488; have BK488 := am (hbox); have NB486_488 := nl hg (bu BK486.out); have NB488_486 := nr hg (bu BK486.out); have NB487_488 := nl hg (bu BK487.out); have NB488_487 := nr hg (bu BK487.out); replace BK486 := bb BK486 hb; replace BK487 := bb BK487 hb; clear HB; have HB := HBn; clear HBn; clear hb hbox hg) | ((with_reducible refine gate_callee (f := 15) rfl ?_); refine goesL_ (some 17) rfl rfl Try.func15 (by kernel_rfl) rfl #[] rfl (by (try simp only [List.map_toArray, List.map_cons, List.map_nil]); first | done | rfl | (simp only [List.length_drop, List.length_take]; rfl)) ?_; (with_reducible refine (tallymanlaw17_lives.calls k  true _ A5.out).mono ?_); rintro e w11 ⟨rfl, hb⟩; refine ⟨_, rfl, ?_⟩; replace BK486 := bb BK486 hb; replace BK487 := bb BK487 hb; replace BK488 := bb BK488 hb; replace HB := am (below_step (by repeat (first | (with_reducible first | exact HB.out | apply below_alloc | apply pw_below_drewN | apply below_drew1 | refine below_set ?_ (Aside0.out (by assumption))) | exact HB.out)) hb); (try clear hb)))
  (try simp only [Act.put, List.setIfInBounds_toArray, List.set_cons_zero, List.set_cons_succ])
  go_cut [34] (fun v34 wc => ∃ (kq : Nat) (x34_6 : Bool), v34 = .bool x34_6 ∧ Aside0 (j0 kq a3 x34_6 a0_0 l0_1 a1_0 l1_1 a2_0 l2_1 a2_2 = some r) ∧ Aside0 (kq ≤ k) ∧ Aside0 (wc.heap[gb486]? = some (.cells #[.int .u64 a0_0, (.slice A0_1 l0_1.length c0_1)] 25 (0, 0))) ∧ Aside0 (wc.heap[gb487]? = some (.cells #[.int .u64 a1_0, (.slice A1_1 l1_1.length c1_1)] 25 (0, 0))) ∧ Aside0 (wc.heap[gb488]? = some (.cells #[.int .i64 a2_0, (.slice A2_1 l2_1.length c2_1), .int .u64 a2_2] 34 (0, 0))) ∧ Aside0 (Below w.heap.size w wc))
  case first =>
   as_aux_lemma =>
    have H := HC7.out
    clear HC7
    by_cases c12 : (l0_1.length : Int) > 300
    ·
     rw [if_pos c12] at H
     have c12b0 : decide (300 < (l0_1.length : Int)) = true := decide_eq_true c12
     have c12b1 : decide (300 < l0_1.length) = true := decide_eq_true (by omega)
     clear c12
     (first | rw [c12b0] | (simp only [i64_w, i32_w]; rw [c12b0]) | skip)
     have H' := Aside0.mk H
     clear H
     have hnb13 := NB486_487.out
     have hnc13 := NB487_486.out
     have hnb14 := NB486_488.out
     have hnc14 := NB488_486.out
     have hcz15_0 := ca BK486.out
     have hcz15_1 := cb BK486.out
     have hfz15_0 := blk_frozen BK486.out 0
     have hfz15_1 := blk_frozen BK486.out 1
     go_wp2
     go_meet
     case rel => exact ⟨_, (true), (by first | rfl | (simp; done) | (simp [*]; done)), H', ⟨by first | omega | exact Nat.le_refl _⟩, ⟨bu BK486.out⟩, ⟨bu BK487.out⟩, ⟨bu BK488.out⟩, ⟨by repeat (first | (with_reducible first | exact HB.out | apply below_alloc | apply pw_below_drewN | apply below_drew1 | refine below_set ?_ (Aside0.out (by assumption))) | exact HB.out)⟩⟩
    ·
     rw [if_neg c12] at H
     have c12b0 : decide (300 < (l0_1.length : Int)) = false := decide_eq_false c12
     have c12b1 : decide (300 < l0_1.length) = false := decide_eq_false (by omega)
     clear c12
     (first | rw [c12b0] | (simp only [i64_w, i32_w]; rw [c12b0]) | skip)
     by_cases c16 : (l1_1.length : Int) > 300
     ·
      rw [if_pos c16] at H
      have c16b0 : decide (300 < (l1_1.length : Int)) = true := decide_eq_true c16
      have c16b1 : decide (300 < l1_1.length) = true := decide_eq_true (by omega)
      clear c16
      have H' := Aside0.mk H
      clear H
      have hnb17 := NB486_487.out
      have hnc17 := NB487_486.out
      have hnb18 := NB486_488.out
      have hnc18 := NB488_486.out
      have hcz19_0 := ca BK486.out
      have hcz19_1 := cb BK486.out
      have hfz19_0 := blk_frozen BK486.out 0
      have hfz19_1 := blk_frozen BK486.out 1
      have hnb20 := NB487_488.out
      have hnc20 := NB488_487.out
      have hcz21_0 := ca BK487.out
      have hcz21_1 := cb BK487.out
      have hfz21_0 := blk_frozen BK487.out 0
      have hfz21_1 := blk_frozen BK487.out 1
      go_wp2
      go_meet
      case rel => exact ⟨_, (true), (by first | rfl | (simp; done) | (simp [*]; done)), H', ⟨by first | omega | exact Nat.le_refl _⟩, ⟨bu BK486.out⟩, ⟨bu BK487.out⟩, ⟨bu BK488.out⟩, ⟨by repeat (first | (with_reducible first | exact HB.out | apply below_alloc | apply pw_below_drewN | apply below_drew1 | refine below_set ?_ (Aside0.out (by assumption))) | exact HB.out)⟩⟩
     ·
      rw [if_neg c16] at H
      have c16b0 : decide (300 < (l1_1.length : Int)) = false := decide_eq_false c16
      have c16b1 : decide (300 < l1_1.length) = false := decide_eq_false (by omega)
      clear c16
      have H' := Aside0.mk H
      clear H
      have hnb22 := NB486_487.out
      have hnc22 := NB487_486.out
      have hnb23 := NB486_488.out
      have hnc23 := NB488_486.out
      have hcz24_0 := ca BK486.out
      have hcz24_1 := cb BK486.out
      have hfz24_0 := blk_frozen BK486.out 0
      have hfz24_1 := blk_frozen BK486.out 1
      have hnb25 := NB487_488.out
      have hnc25 := NB488_487.out
      have hcz26_0 := ca BK487.out
      have hcz26_1 := cb BK487.out
      have hfz26_0 := blk_frozen BK487.out 0
      have hfz26_1 := blk_frozen BK487.out 1
      have hcz27_0 : w11.cell? ⟨gb488, 0, none⟩ = some (.int .i64 a2_0) := (blk_cell BK488.out 0).trans rfl
      have hcz27_1 : w11.cell? ⟨gb488, 1, none⟩ = some (.slice A2_1 l2_1.length c2_1) := (blk_cell BK488.out 1).trans rfl
      have hcz27_2 : w11.cell? ⟨gb488, 2, none⟩ = some (.int .u64 a2_2) := (blk_cell BK488.out 2).trans rfl
      have hfz27_0 := blk_frozen BK488.out 0
      have hfz27_1 := blk_frozen BK488.out 1
      have hfz27_2 := blk_frozen BK488.out 2
      go_wp2
      go_meet
      case rel => exact ⟨_, (decide ((l2_1.length : Int) > 300)), (by first | rfl | (simp; done) | (simp [*]; done)), H', ⟨by first | omega | exact Nat.le_refl _⟩, ⟨bu BK486.out⟩, ⟨bu BK487.out⟩, ⟨bu BK488.out⟩, ⟨by repeat (first | (with_reducible first | exact HB.out | apply below_alloc | apply pw_below_drewN | apply below_drew1 | refine below_set ?_ (Aside0.out (by assumption))) | exact HB.out)⟩⟩
  case rest =>
   as_aux_lemma =>
    clear HC7
    try clear c1; try clear c2; try clear p2; try clear c6; try clear c7; try clear c12; try clear c12b0; try clear c12b1; try clear c13; try clear c14; try clear c15; try clear c16; try clear c16b0; try clear c16b1; try clear c17; try clear c18; try clear c20; try clear c22; try clear c23; try clear c25; try clear hcz15_0; try clear hcz15_1; try clear hcz19_0; try clear hcz19_1; try clear hcz21_0; try clear hcz21_1; try clear hcz24_0; try clear hcz24_1; try clear hcz26_0; try clear hcz26_1; try clear hcz27_0; try clear hcz27_1; try clear hcz27_2; try clear hfz15_0; try clear hfz15_1; try clear hfz19_0; try clear hfz19_1; try clear hfz21_0; try clear hfz21_1; try clear hfz24_0; try clear hfz24_1; try clear hfz26_0; try clear hfz26_1; try clear hfz27_0; try clear hfz27_1; try clear hfz27_2
    obtain ⟨kq, x34_6, rfl, HA, HJ6, BK486, BK487, BK488, HB⟩ := hcut
    cases kq with
    | zero => exact absurd HA.out (by simp [j0])
    | succ kj6 =>
     have H := HA.out
     clear HA
     simp only [j0] at H
     by_cases c28 : x34_6 = true
     ·
      subst c28
      have H1 : (some true) = some r := by rw [if_pos rfl] at H; exact H
      clear H
      have H := H1
      clear H1
      obtain rfl := Option.some.inj H
      go_wp2
      go_ret
      exact ⟨by first | rfl | (simp [errW_none, errW_some] <;> rfl) | (simp [*, errW_none, errW_some] <;> rfl), by repeat (first | (with_reducible first | exact HB.out | apply below_alloc | apply pw_below_drewN | apply below_drew1 | refine below_set ?_ (Aside0.out (by assumption))) | exact HB.out)⟩
     ·
      replace c28 := Bool.eq_false_iff.mpr c28
      subst c28
      have H1 : ((setops_Of.f kj6 a2_0 l2_1 a2_2).bind fun bt490 => ((tallymanref17_Of.f kj6 a2_0 l2_1 a2_2).bind fun bt496 => ((tallymankit_View.f kj6 bt490.1 bt490.2.1 bt496.1 bt496.2.1).bind fun t502 => (if t502 = true then (if bt490.2.2 = bt496.2.2 then ((setops_Check.f kj6 a0_0 l0_1).bind fun t503 => ((tallymanref17_Check.f kj6 a0_0 l0_1).bind fun t504 => (if t503 = t504 then ((setops_Estimate.f kj6 a0_0 l0_1).bind fun t505 => ((tallymanref17_Estimate.f kj6 a0_0 l0_1).bind fun t506 => (if t505 = t506 then ((setops_Same.f kj6 a0_0 l0_1 a1_0 l1_1).bind fun t507 => ((tallymanref17_Same.f kj6 a0_0 l0_1 a1_0 l1_1).bind fun t508 => (j1 kj6 a3 (t507 != t508) a0_0 l0_1 a1_0 l1_1))) else (j1 kj6 a3 true a0_0 l0_1 a1_0 l1_1)))) else (j1 kj6 a3 true a0_0 l0_1 a1_0 l1_1)))) else (j1 kj6 a3 true a0_0 l0_1 a1_0 l1_1)) else (j1 kj6 a3 true a0_0 l0_1 a1_0 l1_1))))) = some r := by rw [if_neg (show ¬ (false = true) by decide)] at H; exact H
      clear H
      have H := H1
      clear H1
      replace H := Option.bind_eq_some_iff.mp H
      obtain ⟨⟨t490, t491, t494⟩, A290, H⟩ := H
      replace H : ((tallymanref17_Of.f kj6 a2_0 l2_1 a2_2).bind fun bt496 => ((tallymankit_View.f kj6 t490 t491 bt496.1 bt496.2.1).bind fun t502 => (if t502 = true then (if t494 = bt496.2.2 then ((setops_Check.f kj6 a0_0 l0_1).bind fun t503 => ((tallymanref17_Check.f kj6 a0_0 l0_1).bind fun t504 => (if t503 = t504 then ((setops_Estimate.f kj6 a0_0 l0_1).bind fun t505 => ((tallymanref17_Estimate.f kj6 a0_0 l0_1).bind fun t506 => (if t505 = t506 then ((setops_Same.f kj6 a0_0 l0_1 a1_0 l1_1).bind fun t507 => ((tallymanref17_Same.f kj6 a0_0 l0_1 a1_0 l1_1).bind fun t508 => (j1 kj6 a3 (t507 != t508) a0_0 l0_1 a1_0 l1_1))) else (j1 kj6 a3 true a0_0 l0_1 a1_0 l1_1)))) else (j1 kj6 a3 true a0_0 l0_1 a1_0 l1_1)))) else (j1 kj6 a3 true a0_0 l0_1 a1_0 l1_1)) else (j1 kj6 a3 true a0_0 l0_1 a1_0 l1_1)))) = some r := H
      have A29 := Aside0.mk A290
      clear A290
      replace H := Option.bind_eq_some_iff.mp H
      obtain ⟨⟨t496, t497, t500⟩, A300, H⟩ := H
      replace H : ((tallymankit_View.f kj6 t490 t491 t496 t497).bind fun t502 => (if t502 = true then (if t494 = t500 then ((setops_Check.f kj6 a0_0 l0_1).bind fun t503 => ((tallymanref17_Check.f kj6 a0_0 l0_1).bind fun t504 => (if t503 = t504 then ((setops_Estimate.f kj6 a0_0 l0_1).bind fun t505 => ((tallymanref17_Estimate.f kj6 a0_0 l0_1).bind fun t506 => (if t505 = t506 then ((setops_Same.f kj6 a0_0 l0_1 a1_0 l1_1).bind fun t507 => ((tallymanref17_Same.f kj6 a0_0 l0_1 a1_0 l1_1).bind fun t508 => (j1 kj6 a3 (t507 != t508) a0_0 l0_1 a1_0 l1_1))) else (j1 kj6 a3 true a0_0 l0_1 a1_0 l1_1)))) else (j1 kj6 a3 true a0_0 l0_1 a1_0 l1_1)))) else (j1 kj6 a3 true a0_0 l0_1 a1_0 l1_1)) else (j1 kj6 a3 true a0_0 l0_1 a1_0 l1_1))) = some r := H
      have A30 := Aside0.mk A300
      clear A300
      have HC31 := Aside0.mk H
      clear H
      have hnb32 := NB488_486.out
      have hnc32 := NB486_488.out
      have hnb33 := NB488_487.out
      have hnc33 := NB487_488.out
      have hcz34_0 : wc.cell? ⟨gb488, 0, none⟩ = some (.int .i64 a2_0) := (blk_cell BK488.out 0).trans rfl
      have hcz34_1 : wc.cell? ⟨gb488, 1, none⟩ = some (.slice A2_1 l2_1.length c2_1) := (blk_cell BK488.out 1).trans rfl
      have hcz34_2 : wc.cell? ⟨gb488, 2, none⟩ = some (.int .u64 a2_2) := (blk_cell BK488.out 2).trans rfl
      have hfz34_0 := blk_frozen BK488.out 0
      have hfz34_1 := blk_frozen BK488.out 1
      have hfz34_2 := blk_frozen BK488.out 2
      go_upto_region 7 with (first | ((with_reducible refine gate_callee (f := 25) rfl ?_); refine goesL_ (some 37) rfl rfl Try.func25 (by kernel_rfl) rfl #[.agg #[.int .i64 a2_0, .slice A2_1 l2_1.length c2_1, .int .u64 a2_2]] rfl (by (try simp only [List.map_toArray, List.map_cons, List.map_nil]); first | done | rfl | (simp only [List.length_drop, List.length_take]; rfl)) ?_; (with_reducible refine (setops_Of.calls kj6 a2_0 _ _ l2_1 a2_2 t490 t491 t494 _ ?side1 ?side2 A29.out).mono ?_); (case side1 => exact cu (Kd.C_below HR2_1.out HB.out)); (case side2 => exact HC2_1.out); rintro e w35 ⟨v492, rfl, ho0, hb⟩; refine ⟨_, rfl, ?_⟩; have HO493 := am (Kd.R_lower ho0 (below_size (by repeat (first | (with_reducible first | exact HB.out | apply below_alloc | apply pw_below_drewN | apply below_drew1 | refine below_set ?_ (Aside0.out (by assumption))) | exact HB.out)))); replace BK486 := bb BK486 hb; replace BK487 := bb BK487 hb; replace BK488 := bb BK488 hb; replace HB := am (below_step (by repeat (first | (with_reducible first | exact HB.out | apply below_alloc | apply pw_below_drewN | apply below_drew1 | refine below_set ?_ (Aside0.out (by assumption))) | exact HB.out)) hb); (try clear hb); (try clear ho0)) | ((with_reducible refine gate_dst (N := 9) rfl ?_); (try (refine gate_guard (by rfl) ?_; dsimp only)); refine box_event ?hg (N := 9) ?hd (cs := #[.int .u64 0, .slice none 0 0]) (t := 25) ?hr ?_; (case hd => rfl); (case hg => rfl); (case hr => first | (go_simp; done) | (go_simp; rfl)); intro gb495 hg w36 hbox hb; obtain ⟨HBn, GW495⟩ := tri hg hb (by repeat (first | (with_reducible first | exact HB.out | apply below_alloc | apply pw_below_drewN | apply below_drew1 | refine below_set ?_ (Aside0.out (by assumption))) | exact HB.out)); have GE495 := GW495; have BK495 := am (hbox); have NB486_495 := nl hg (bu BK486.out); have NB495_486 := nr hg (bu BK486.out); have NB487_495 := nl hg (bu BK487.out); have NB495_487 := nr hg (bu BK487.out); have NB488_495 := nl hg (bu BK488.out); have NB495_488 := nr hg (bu BK488.out); replace HO493 := rb HO493 hb; replace BK486 := bb BK486 hb; replace BK487 := bb BK487 hb; replace BK488 := bb BK488 hb; clear HB; have HB := HBn; clear HBn; clear hb hbox hg; have hnb37 := NB495_486.out; have hnc37 := NB486_495.out; have hnb38 := NB495_487.out; have hnc38 := NB487_495.out; have hnb39 := NB495_488.out; have hnc39 := NB488_495.out; have hcz40_0 := ca BK495.out; have hcz40_1 := cb BK495.out; have hfz40_0 := blk_frozen BK495.out 0; have hfz40_1 := blk_frozen BK495.out 1; obtain ⟨Ao41, co41, eo41⟩ := Kd.R_slice HO493.out; subst eo41; have hcz42_0 : w36.cell? ⟨gb488, 0, none⟩ = some (.int .i64 a2_0) := (blk_cell BK488.out 0).trans rfl; have hcz42_1 : w36.cell? ⟨gb488, 1, none⟩ = some (.slice A2_1 l2_1.length c2_1) := (blk_cell BK488.out 1).trans rfl; have hcz42_2 : w36.cell? ⟨gb488, 2, none⟩ = some (.int .u64 a2_2) := (blk_cell BK488.out 2).trans rfl; have hfz42_0 := blk_frozen BK488.out 0; have hfz42_1 := blk_frozen BK488.out 1; have hfz42_2 := blk_frozen BK488.out 2) | ((with_reducible refine gate_callee (f := 31) rfl ?_); refine goesL_ (some 42) rfl rfl Try.func31 (by kernel_rfl) rfl #[.agg #[.int .i64 a2_0, .slice A2_1 l2_1.length c2_1, .int .u64 a2_2]] rfl (by (try simp only [List.map_toArray, List.map_cons, List.map_nil]); first | done | rfl | (simp only [List.length_drop, List.length_take]; rfl)) ?_; (with_reducible refine (tallymanref17_Of.calls kj6 a2_0 _ _ l2_1 a2_2 t496 t497 t500 _ ?side1 ?side2 A30.out).mono ?_); (case side1 => exact Kd.C_below HR2_1.out (by repeat (first | (with_reducible first | exact HB.out | apply below_alloc | apply pw_below_drewN | apply below_drew1 | refine below_set ?_ (Aside0.out (by assumption))) | exact HB.out))); (case side2 => exact HC2_1.out); rintro e w43 ⟨v498, rfl, ho0, hb⟩; refine ⟨_, rfl, ?_⟩; have HO499 := am (Kd.R_lower (Kd.R_new' ho0 (Kd.R_lt (rf HO493.out BK495.out (by decide)))) (below_size (by repeat (first | (with_reducible first | exact HB.out | apply below_alloc | apply pw_below_drewN | apply below_drew1 | refine below_set ?_ (Aside0.out (by assumption))) | exact HB.out)))); replace HO493 := am (Kd.R_elder' (rf HO493.out BK495.out (by decide)) (Kd.R_base ho0) hb); replace BK486 := am (blk_below (bf NB486_495.out BK486.out) hb); replace BK487 := am (blk_below (bf NB487_495.out BK487.out) hb); replace BK488 := am (blk_below (bf NB488_495.out BK488.out) hb); replace BK495 := am (blk_below (g := gb495) (o := .cells #[.int .u64 t490, .slice Ao41 t491.length co41] 25 (0, 0)) (by (with_reducible repeat (first | refine blk_drewN ?_ _ | refine blk_drew ?_ | refine blk_alloc ?_ _)); refine blk_put (cs := #[.int .u64 t490, .slice none 0 0]) ?_ 1 _ rfl; (with_reducible repeat (first | refine blk_drewN ?_ _ | refine blk_drew ?_ | refine blk_alloc ?_ _)); refine blk_put (cs := #[.int .u64 0, .slice none 0 0]) ?_ 0 _ rfl; (with_reducible repeat (first | refine blk_drewN ?_ _ | refine blk_drew ?_ | refine blk_alloc ?_ _)); exact BK495.out) hb); replace HB := am (below_step (by repeat (first | (with_reducible first | exact HB.out | apply below_alloc | apply pw_below_drewN | apply below_drew1 | refine below_set ?_ (Aside0.out (by assumption))) | exact HB.out)) hb); (try clear hb); (try clear ho0)) | ((with_reducible refine gate_dst (N := 11) rfl ?_); (try (refine gate_guard (by rfl) ?_; dsimp only)); refine box_event ?hg (N := 11) ?hd (cs := #[.int .u64 0, .slice none 0 0]) (t := 25) ?hr ?_; (case hd => rfl); (case hg => rfl); (case hr => first | (go_simp; done) | (go_simp; rfl)); intro gb501 hg w44 hbox hb; obtain ⟨HBn, GW501⟩ := tri hg hb (by repeat (first | (with_reducible first | exact HB.out | apply below_alloc | apply pw_below_drewN | apply below_drew1 | refine below_set ?_ (Aside0.out (by assumption))) | exact HB.out)); have GE501 := GW501; have BK501 := am (hbox); have NB486_501 := nl hg (bu BK486.out); have NB501_486 := nr hg (bu BK486.out); have NB487_501 := nl hg (bu BK487.out); have NB501_487 := nr hg (bu BK487.out); have NB488_501 := nl hg (bu BK488.out); have NB501_488 := nr hg (bu BK488.out); have NB495_501 := nl hg (bu BK495.out); have NB501_495 := nr hg (bu BK495.out); replace HO493 := rb HO493 hb; replace HO499 := rb HO499 hb; replace BK486 := bb BK486 hb; replace BK487 := bb BK487 hb; replace BK488 := bb BK488 hb; replace BK495 := bb BK495 hb; clear HB; have HB := HBn; clear HBn; clear hb hbox hg; have hnb45 := NB501_486.out; have hnc45 := NB486_501.out; have hnb46 := NB501_487.out; have hnc46 := NB487_501.out; have hnb47 := NB501_488.out; have hnc47 := NB488_501.out; have hnb48 := NB501_495.out; have hnc48 := NB495_501.out; have hcz49_0 := ca BK501.out; have hcz49_1 := cb BK501.out; have hfz49_0 := blk_frozen BK501.out 0; have hfz49_1 := blk_frozen BK501.out 1; obtain ⟨Ao50, co50, eo50⟩ := Kd.R_slice HO499.out; subst eo50))
      (try simp only [Act.put, List.setIfInBounds_toArray, List.set_cons_zero, List.set_cons_succ])
      go_cut [76] (fun v76 wc => ∃ (kq : Nat) (x76_30 : Bool), v76 = .bool x76_30 ∧ Aside0 (j1 kq a3 x76_30 a0_0 l0_1 a1_0 l1_1 = some r) ∧ Aside0 (kq ≤ kj6) ∧ Aside0 (Kd.R (Kd.int .u64) 22 wc w.heap.size (fun k_ => some k_ ≠ ((.slice Ao50 t497.length co50) : Value).ownBlock) (.slice Ao41 t491.length co41) t491) ∧ Aside0 (Kd.R (Kd.int .u64) 22 wc w.heap.size (fun k_ => some k_ ≠ ((.slice Ao41 t491.length co41) : Value).ownBlock) (.slice Ao50 t497.length co50) t497) ∧ Aside0 (wc.heap[gb486]? = some (.cells #[.int .u64 a0_0, (.slice A0_1 l0_1.length c0_1)] 25 (0, 0))) ∧ Aside0 (wc.heap[gb487]? = some (.cells #[.int .u64 a1_0, (.slice A1_1 l1_1.length c1_1)] 25 (0, 0))) ∧ Aside0 (wc.heap[gb488]? = some (.cells #[.int .i64 a2_0, (.slice A2_1 l2_1.length c2_1), .int .u64 a2_2] 34 (0, 0))) ∧ Aside0 (wc.heap[gb495]? = some (.cells #[.int .u64 t490, (.slice Ao41 t491.length co41)] 25 (0, 0))) ∧ Aside0 (wc.heap[gb501]? = some (.cells #[.int .u64 t496, (.slice Ao50 t497.length co50)] 25 (0, 0))) ∧ Aside0 (Below w.heap.size w wc))
      case first =>
       as_aux_lemma =>
        have H := HC31.out
        clear HC31
        replace H := Option.bind_eq_some_iff.mp H
        obtain ⟨t502, A510, H⟩ := H
        replace H : (if t502 = true then (if t494 = t500 then ((setops_Check.f kj6 a0_0 l0_1).bind fun t503 => ((tallymanref17_Check.f kj6 a0_0 l0_1).bind fun t504 => (if t503 = t504 then ((setops_Estimate.f kj6 a0_0 l0_1).bind fun t505 => ((tallymanref17_Estimate.f kj6 a0_0 l0_1).bind fun t506 => (if t505 = t506 then ((setops_Same.f kj6 a0_0 l0_1 a1_0 l1_1).bind fun t507 => ((tallymanref17_Same.f kj6 a0_0 l0_1 a1_0 l1_1).bind fun t508 => (j1 kj6 a3 (t507 != t508) a0_0 l0_1 a1_0 l1_1))) else (j1 kj6 a3 true a0_0 l0_1 a1_0 l1_1)))) else (j1 kj6 a3 true a0_0 l0_1 a1_0 l1_1)))) else (j1 kj6 a3 true a0_0 l0_1 a1_0 l1_1)) else (j1 kj6 a3 true a0_0 l0_1 a1_0 l1_1)) = some r := H
        have A51 := Aside0.mk A510
        clear A510
        by_cases c52 : t502 = true
        ·
         subst c52
         have H1 : (if t494 = t500 then ((setops_Check.f kj6 a0_0 l0_1).bind fun t503 => ((tallymanref17_Check.f kj6 a0_0 l0_1).bind fun t504 => (if t503 = t504 then ((setops_Estimate.f kj6 a0_0 l0_1).bind fun t505 => ((tallymanref17_Estimate.f kj6 a0_0 l0_1).bind fun t506 => (if t505 = t506 then ((setops_Same.f kj6 a0_0 l0_1 a1_0 l1_1).bind fun t507 => ((tallymanref17_Same.f kj6 a0_0 l0_1 a1_0 l1_1).bind fun t508 => (j1 kj6 a3 (t507 != t508) a0_0 l0_1 a1_0 l1_1))) else (j1 kj6 a3 true a0_0 l0_1 a1_0 l1_1)))) else (j1 kj6 a3 true a0_0 l0_1 a1_0 l1_1)))) else (j1 kj6 a3 true a0_0 l0_1 a1_0 l1_1)) = some r := by rw [if_pos rfl] at H; exact H
         clear H
         have H := H1
         clear H1
         by_cases c53 : t494 = t500
         ·
          rw [if_pos c53] at H
          have c53b0 : (t494 == t500) = true := beq_iff_eq.mpr c53
          have c53b1 : (t494 != t500) = false := bne_eq_false_iff_eq.mpr c53
          clear c53
          (first | rw [c53b0] | (simp only [i64_w, i32_w]; rw [c53b0]) | skip)
          replace H := Option.bind_eq_some_iff.mp H
          obtain ⟨t503, A540, H⟩ := H
          replace H : ((tallymanref17_Check.f kj6 a0_0 l0_1).bind fun t504 => (if t503 = t504 then ((setops_Estimate.f kj6 a0_0 l0_1).bind fun t505 => ((tallymanref17_Estimate.f kj6 a0_0 l0_1).bind fun t506 => (if t505 = t506 then ((setops_Same.f kj6 a0_0 l0_1 a1_0 l1_1).bind fun t507 => ((tallymanref17_Same.f kj6 a0_0 l0_1 a1_0 l1_1).bind fun t508 => (j1 kj6 a3 (t507 != t508) a0_0 l0_1 a1_0 l1_1))) else (j1 kj6 a3 true a0_0 l0_1 a1_0 l1_1)))) else (j1 kj6 a3 true a0_0 l0_1 a1_0 l1_1))) = some r := H
          have A54 := Aside0.mk A540
          clear A540
          replace H := Option.bind_eq_some_iff.mp H
          obtain ⟨t504, A550, H⟩ := H
          replace H : (if t503 = t504 then ((setops_Estimate.f kj6 a0_0 l0_1).bind fun t505 => ((tallymanref17_Estimate.f kj6 a0_0 l0_1).bind fun t506 => (if t505 = t506 then ((setops_Same.f kj6 a0_0 l0_1 a1_0 l1_1).bind fun t507 => ((tallymanref17_Same.f kj6 a0_0 l0_1 a1_0 l1_1).bind fun t508 => (j1 kj6 a3 (t507 != t508) a0_0 l0_1 a1_0 l1_1))) else (j1 kj6 a3 true a0_0 l0_1 a1_0 l1_1)))) else (j1 kj6 a3 true a0_0 l0_1 a1_0 l1_1)) = some r := H
          have A55 := Aside0.mk A550
          clear A550
          by_cases c56 : t503 = t504
          ·
           rw [if_pos c56] at H
           have c56b0 : (t503 == t504) = true := beq_iff_eq.mpr c56
           have c56b1 : (t503 != t504) = false := bne_eq_false_iff_eq.mpr c56
           clear c56
           replace H := Option.bind_eq_some_iff.mp H
           obtain ⟨t505, A570, H⟩ := H
           replace H : ((tallymanref17_Estimate.f kj6 a0_0 l0_1).bind fun t506 => (if t505 = t506 then ((setops_Same.f kj6 a0_0 l0_1 a1_0 l1_1).bind fun t507 => ((tallymanref17_Same.f kj6 a0_0 l0_1 a1_0 l1_1).bind fun t508 => (j1 kj6 a3 (t507 != t508) a0_0 l0_1 a1_0 l1_1))) else (j1 kj6 a3 true a0_0 l0_1 a1_0 l1_1))) = some r := H
           have A57 := Aside0.mk A570
           clear A570
           replace H := Option.bind_eq_some_iff.mp H
           obtain ⟨t506, A580, H⟩ := H
           replace H : (if t505 = t506 then ((setops_Same.f kj6 a0_0 l0_1 a1_0 l1_1).bind fun t507 => ((tallymanref17_Same.f kj6 a0_0 l0_1 a1_0 l1_1).bind fun t508 => (j1 kj6 a3 (t507 != t508) a0_0 l0_1 a1_0 l1_1))) else (j1 kj6 a3 true a0_0 l0_1 a1_0 l1_1)) = some r := H
           have A58 := Aside0.mk A580
           clear A580
           by_cases c59 : t505 = t506
           ·
            rw [if_pos c59] at H
            have c59b0 : (t505 == t506) = true := beq_iff_eq.mpr c59
            have c59b1 : (t505 != t506) = false := bne_eq_false_iff_eq.mpr c59
            clear c59
            replace H := Option.bind_eq_some_iff.mp H
            obtain ⟨t507, A600, H⟩ := H
            replace H : ((tallymanref17_Same.f kj6 a0_0 l0_1 a1_0 l1_1).bind fun t508 => (j1 kj6 a3 (t507 != t508) a0_0 l0_1 a1_0 l1_1)) = some r := H
            have A60 := Aside0.mk A600
            clear A600
            replace H := Option.bind_eq_some_iff.mp H
            obtain ⟨t508, A610, H⟩ := H
            replace H : (j1 kj6 a3 (t507 != t508) a0_0 l0_1 a1_0 l1_1) = some r := H
            have A61 := Aside0.mk A610
            clear A610
            have H' := Aside0.mk H
            clear H
            try go_wp2
            have n0_ : Aside0 (Kd.R (Kd.int .u64) 22 ((w44.setCell ⟨gb501, 0, none⟩ (.int .u64 t496)).setCell ⟨gb501, 1, none⟩ (.slice Ao50 t497.length co50)) w.heap.size (fun k_ => nb Ao50 t497.length co50 k_) (.slice Ao41 t491.length co41) t491) := ⟨Kd.R_mono (rf HO493.out BK501.out (by decide)) (fun _ hk => hk.2)⟩
            have n1_ : Aside0 (Kd.R (Kd.int .u64) 22 ((w44.setCell ⟨gb501, 0, none⟩ (.int .u64 t496)).setCell ⟨gb501, 1, none⟩ (.slice Ao50 t497.length co50)) w.heap.size (fun k_ => nb Ao41 t491.length co41 k_) (.slice Ao50 t497.length co50) t497) := ⟨Kd.R_mono (rf HO499.out BK501.out (by decide)) (fun _ hk => hk.2)⟩
            have n2_ : Aside0 (((w44.setCell ⟨gb501, 0, none⟩ (.int .u64 t496)).setCell ⟨gb501, 1, none⟩ (.slice Ao50 t497.length co50)).heap[gb486]? = some (.cells #[.int .u64 a0_0, .slice A0_1 l0_1.length c0_1] 25 (0, 0))) := ⟨bf NB486_501.out BK486.out⟩
            have n3_ : Aside0 (((w44.setCell ⟨gb501, 0, none⟩ (.int .u64 t496)).setCell ⟨gb501, 1, none⟩ (.slice Ao50 t497.length co50)).heap[gb487]? = some (.cells #[.int .u64 a1_0, .slice A1_1 l1_1.length c1_1] 25 (0, 0))) := ⟨bf NB487_501.out BK487.out⟩
            have n4_ : Aside0 (((w44.setCell ⟨gb501, 0, none⟩ (.int .u64 t496)).setCell ⟨gb501, 1, none⟩ (.slice Ao50 t497.length co50)).heap[gb488]? = some (.cells #[.int .i64 a2_0, .slice A2_1 l2_1.length c2_1, .int .u64 a2_2] 34 (0, 0))) := ⟨bf NB488_501.out BK488.out⟩
            have n5_ : Aside0 (((w44.setCell ⟨gb501, 0, none⟩ (.int .u64 t496)).setCell ⟨gb501, 1, none⟩ (.slice Ao50 t497.length co50)).heap[gb495]? = some (.cells #[.int .u64 t490, .slice Ao41 t491.length co41] 25 (0, 0))) := ⟨bf NB495_501.out BK495.out⟩
            have n6_ : Aside0 (((w44.setCell ⟨gb501, 0, none⟩ (.int .u64 t496)).setCell ⟨gb501, 1, none⟩ (.slice Ao50 t497.length co50)).heap[gb501]? = some (.cells #[.int .u64 t496, .slice Ao50 t497.length co50] 25 (0, 0))) := ⟨by (with_reducible repeat (first | refine blk_drewN ?_ _ | refine blk_drew ?_ | refine blk_alloc ?_ _)); refine blk_put (cs := #[.int .u64 t496, .slice none 0 0]) ?_ 1 _ rfl; (with_reducible repeat (first | refine blk_drewN ?_ _ | refine blk_drew ?_ | refine blk_alloc ?_ _)); refine blk_put (cs := #[.int .u64 0, .slice none 0 0]) ?_ 0 _ rfl; (with_reducible repeat (first | refine blk_drewN ?_ _ | refine blk_drew ?_ | refine blk_alloc ?_ _)); exact BK501.out⟩
            have n7_ : Aside0 (Below w.heap.size w ((w44.setCell ⟨gb501, 0, none⟩ (.int .u64 t496)).setCell ⟨gb501, 1, none⟩ (.slice Ao50 t497.length co50))) := ⟨by repeat (first | (with_reducible first | exact HB.out | apply below_alloc | apply pw_below_drewN | apply below_drew1 | refine below_set ?_ (Aside0.out (by assumption))) | exact HB.out)⟩
            (try clear HO493)
            (try clear HO499)
            (try clear BK486)
            (try clear BK487)
            (try clear BK488)
            (try clear BK495)
            (try clear BK501)
            (try clear HB)
            generalize ((w44.setCell ⟨gb501, 0, none⟩ (.int .u64 t496)).setCell ⟨gb501, 1, none⟩ (.slice Ao50 t497.length co50)) = w62 at n0_ n1_ n2_ n3_ n4_ n5_ n6_ n7_ ⊢
            have HO493 := n0_; have HO499 := n1_; have BK486 := n2_; have BK487 := n3_; have BK488 := n4_; have BK495 := n5_; have BK501 := n6_; have HB := n7_
            clear n0_ n1_ n2_ n3_ n4_ n5_ n6_ n7_
            replace HO493 := am (Kd.R_drew HO493.out); replace HO499 := am (Kd.R_drew HO499.out); replace BK486 := am (blk_drew BK486.out); replace BK487 := am (blk_drew BK487.out); replace BK488 := am (blk_drew BK488.out); replace BK495 := am (blk_drew BK495.out); replace BK501 := am (blk_drew BK501.out); replace HB := am (below_drew1 HB.out)
            refine start_ (n := 32) (S := fun w' => w'.cell? ⟨gb495, 0, none⟩ = some (.int .u64 t490) ∧ w'.cell? ⟨gb495, 1, none⟩ = some (.slice Ao41 t491.length co41) ∧ w'.cell? ⟨gb501, 0, none⟩ = some (.int .u64 t496) ∧ w'.cell? ⟨gb501, 1, none⟩ = some (.slice Ao50 t497.length co50) ∧ w'.cell? ⟨gb486, 0, none⟩ = some (.int .u64 a0_0) ∧ w'.cell? ⟨gb486, 1, none⟩ = some (.slice A0_1 l0_1.length c0_1) ∧ w'.cell? ⟨gb487, 0, none⟩ = some (.int .u64 a1_0) ∧ w'.cell? ⟨gb487, 1, none⟩ = some (.slice A1_1 l1_1.length c1_1)) (ds := []) (tb 0 32) (by kernel_rfl) rfl rfl ⟨(blk_cell BK495.out 0).trans rfl, (blk_cell BK495.out 1).trans rfl, (blk_cell BK501.out 0).trans rfl, (blk_cell BK501.out 1).trans rfl, (blk_cell BK486.out 0).trans rfl, (blk_cell BK486.out 1).trans rfl, (blk_cell BK487.out 0).trans rfl, (blk_cell BK487.out 1).trans rfl⟩ (fun hHeld => ?_); refine with_tabW tallymanlaw17_SetopsCalls.tab7 tallymanlaw17_SetopsCalls.bits7 (fun HT_ HW_ => ?_)
            generalize w62.drew = w63 at HO493 HO499 BK486 BK487 BK488 BK495 BK501 HB hHeld ⊢
            refine tk 0 (some 45) (v := ?_) (a' := ?_) (tb 1 32) rfl rfl (take_ofW HT_.out HW_.out (by kernel_rfl)) (fun _ _ _ h => h) ⟨by rfl, ?_⟩ hHeld ?_ ?_; rotate_left; · (rintro w' ⟨s0, s1, s2, s3, s4, s5, s6, s7⟩; go_simp; with_reducible rfl)
            rotate_left; · (simp only [Act.put, sa_, sb_, sc_, i64_w, i32_w]; rfl)
            refine tk 1 (some 46) (v := ?_) (a' := ?_) (tb 2 32) rfl rfl (take_ofW HT_.out HW_.out (by kernel_rfl)) (fun _ _ _ h => h) ⟨by rfl, ?_⟩ hHeld ?_ ?_; rotate_left; · (rintro w' ⟨s0, s1, s2, s3, s4, s5, s6, s7⟩; go_simp; with_reducible rfl)
            rotate_left; · (simp only [Act.put, sa_, sb_, sc_, i64_w, i32_w]; rfl)
            refine one_ (i := 2) (N := some 47) (tb 3 32) rfl rfl (one_of HT_.out (by kernel_rfl)) (by decide) (fun K hK => ?_)
            refine goes_ Try.func30 (by kernel_rfl) rfl #[.agg #[.int .u64 t490, .slice Ao41 t491.length co41], .agg #[.int .u64 t496, .slice Ao50 t497.length co50]] (by rfl) rfl rfl (by (try simp only [List.map_toArray, List.map_cons, List.map_nil]); first | done | rfl | (simp only [List.length_drop, List.length_take]; rfl)) ?_
            with_reducible refine (tallymankit_View.calls kj6 t490 _ _ t491 t496 _ _ t497 true _ ?side1 ?side2 ?side3 ?side4 A51.out).mono ?_
            (case side1 => repeat (first | exact (Kd.R_reads' HO493.out).2.2 | (with_reducible refine Kd.C_alloc ?_ _) | (with_reducible refine Kd.C_drewN ?_ _) | (with_reducible refine Kd.C_drew ?_)))
            (case side2 => exact (Kd.R_reads' HO493.out).2.1)
            (case side3 => repeat (first | exact (Kd.R_reads' HO499.out).2.2 | (with_reducible refine Kd.C_alloc ?_ _) | (with_reducible refine Kd.C_drewN ?_ _) | (with_reducible refine Kd.C_drew ?_)))
            (case side4 => exact (Kd.R_reads' HO499.out).2.1)
            rintro e w64 ⟨rfl, hb⟩
            refine ⟨_, rfl, ?_⟩
            replace HO493 := rb HO493 hb; replace HO499 := rb HO499 hb; replace BK486 := bb BK486 hb; replace BK487 := bb BK487 hb; replace BK488 := bb BK488 hb; replace BK495 := bb BK495 hb; replace BK501 := bb BK501 hb; replace HB := am (below_step (by repeat (first | (with_reducible first | exact HB.out | apply below_alloc | apply pw_below_drewN | apply below_drew1 | refine below_set ?_ (Aside0.out (by assumption))) | exact HB.out)) hb)
            (try clear hb)
            (try clear hb2)
            (try clear hk)
            (try clear hi)
            refine hK.out _ _ ⟨(blk_cell BK495.out 0).trans rfl, (blk_cell BK495.out 1).trans rfl, (blk_cell BK501.out 0).trans rfl, (blk_cell BK501.out 1).trans rfl, (blk_cell BK486.out 0).trans rfl, (blk_cell BK486.out 1).trans rfl, (blk_cell BK487.out 0).trans rfl, (blk_cell BK487.out 1).trans rfl⟩ (fun hHeld => ?_)
            clear hK K
            refine norm_ (a' := ?_) ?_ ?_
            rotate_left
            ·
             show Act.put _ (some 47) _ = _
             simp only [Act.put, List.setIfInBounds_toArray, List.set_cons_zero, List.set_cons_succ, i64_w, i32_w]
             rfl
            refine pu 3 (some 48) (v := ?_) (a' := ?_) (tb 4 32) rfl rfl (any_of HT_.out (by kernel_rfl)) (fun _ _ _ h => h) ⟨by rfl, ?_⟩ ?_ ?_; rotate_left; · (intro w'; go_simp; with_reducible rfl)
            rotate_left; · (simp only [Act.put, sa_, sb_, sc_, i64_w, i32_w]; rfl)
            refine pu 4 (some 49) (v := ?_) (a' := ?_) (tb 5 32) rfl rfl (any_of HT_.out (by kernel_rfl)) (fun _ _ _ h => h) ⟨by rfl, ?_⟩ ?_ ?_; rotate_left; · (intro w'; go_simp; with_reducible rfl)
            rotate_left; · (simp only [Act.put, sa_, sb_, sc_, i64_w, i32_w]; rfl)
            refine pu 5 (some 50) (v := ?_) (a' := ?_) (tb 6 32) rfl rfl (any_of HT_.out (by kernel_rfl)) (fun _ _ _ h => h) ⟨by rfl, ?_⟩ ?_ ?_; rotate_left; · (intro w'; go_simp; with_reducible rfl)
            rotate_left; · (simp only [Act.put, sa_, sb_, sc_, i64_w, i32_w]; rfl)
            refine pu 6 (some 51) (v := ?_) (a' := ?_) (tb 7 32) rfl rfl (any_of HT_.out (by kernel_rfl)) (fun _ _ _ h => h) ⟨by rfl, ?_⟩ ?_ ?_; rotate_left; · (intro w'; go_simp; with_reducible rfl)
            rotate_left; · (simp only [Act.put, sa_, sb_, sc_, i64_w, i32_w]; rfl)
            refine pu 7 (some 52) (v := ?_) (a' := ?_) (tb 8 32) rfl rfl (any_of HT_.out (by kernel_rfl)) (fun _ _ _ h => h) ⟨by rfl, ?_⟩ ?_ ?_; rotate_left; · (intro w'; go_simp; with_reducible rfl)
            rotate_left; · (simp only [Act.put, sa_, sb_, sc_, i64_w, i32_w]; rfl)
            refine pu 8 (some 53) (v := ?_) (a' := ?_) (tb 9 32) rfl rfl (any_of HT_.out (by kernel_rfl)) (fun _ _ _ h => h) ⟨by rfl, ?_⟩ ?_ ?_; rotate_left; · (intro w'; go_simp; with_reducible rfl)
            rotate_left; · (simp only [Act.put, sa_, sb_, sc_, i64_w, i32_w]; rfl)
            refine pu 9 (some 54) (v := ?_) (a' := ?_) (tb 10 32) rfl rfl (any_of HT_.out (by kernel_rfl)) (fun _ _ _ h => h) ⟨by rfl, ?_⟩ ?_ ?_; rotate_left; · (intro w'; go_simp; with_reducible rfl)
            rotate_left; · (simp only [Act.put, sa_, sb_, sc_, i64_w, i32_w]; rfl)
            refine tk 10 (some 55) (v := ?_) (a' := ?_) (tb 11 32) rfl rfl (take_ofW HT_.out HW_.out (by kernel_rfl)) (fun _ _ _ h => h) ⟨by rfl, ?_⟩ hHeld ?_ ?_; rotate_left; · (rintro w' ⟨s0, s1, s2, s3, s4, s5, s6, s7⟩; go_simp; with_reducible rfl)
            rotate_left; · (simp only [Act.put, sa_, sb_, sc_, i64_w, i32_w]; rfl)
            refine tk 12 (some 57) (v := ?_) (a' := ?_) #[true, true, true, true, true, true, true, true, true, true, true, false, true, false, false, false, false, false, false, false, false, false, false, false, false, false, false, false, false, false, false, false] rfl rfl (take_ofW HT_.out HW_.out (by kernel_rfl)) (fun _ _ _ h => h) ⟨by rfl, ?_⟩ hHeld ?_ ?_; rotate_left; · (rintro w' ⟨s0, s1, s2, s3, s4, s5, s6, s7⟩; go_simp; with_reducible rfl)
            rotate_left; · (simp only [Act.put, sa_, sb_, sc_, i64_w, i32_w]; rfl)
            refine one_ (i := 11) (N := some 56) (tb 13 32) rfl rfl (one_of HT_.out (by kernel_rfl)) (by decide) (fun K hK => ?_)
            refine goes_ Try.func16 (by kernel_rfl) rfl #[.agg #[.int .u64 a0_0, .slice A0_1 l0_1.length c0_1]] (by rfl) rfl rfl (by (try simp only [List.map_toArray, List.map_cons, List.map_nil]); first | done | rfl | (simp only [List.length_drop, List.length_take]; rfl)) ?_
            with_reducible refine (setops_Check.calls kj6 a0_0 _ _ l0_1 t503 _ ?side1 ?side2 A54.out).mono ?_
            (case side1 => exact cu (Kd.C_below HR0_1.out HB.out))
            (case side2 => exact HC0_1.out)
            rintro e w65 ⟨rfl, hb⟩
            refine ⟨_, rfl, ?_⟩
            replace HO493 := rb HO493 hb; replace HO499 := rb HO499 hb; replace BK486 := bb BK486 hb; replace BK487 := bb BK487 hb; replace BK488 := bb BK488 hb; replace BK495 := bb BK495 hb; replace BK501 := bb BK501 hb; replace HB := am (below_step (by repeat (first | (with_reducible first | exact HB.out | apply below_alloc | apply pw_below_drewN | apply below_drew1 | refine below_set ?_ (Aside0.out (by assumption))) | exact HB.out)) hb)
            (try clear hb)
            (try clear hb2)
            (try clear hk)
            (try clear hi)
            refine hK.out _ _ ⟨(blk_cell BK495.out 0).trans rfl, (blk_cell BK495.out 1).trans rfl, (blk_cell BK501.out 0).trans rfl, (blk_cell BK501.out 1).trans rfl, (blk_cell BK486.out 0).trans rfl, (blk_cell BK486.out 1).trans rfl, (blk_cell BK487.out 0).trans rfl, (blk_cell BK487.out 1).trans rfl⟩ (fun hHeld => ?_)
            clear hK K
            refine norm_ (a' := ?_) ?_ ?_
            rotate_left
            ·
             show Act.put _ (some 56) _ = _
             simp only [Act.put, List.setIfInBounds_toArray, List.set_cons_zero, List.set_cons_succ, i64_w, i32_w]
             rfl
            refine one_ (i := 13) (N := some 58) (tb 14 32) rfl rfl (one_of HT_.out (by kernel_rfl)) (by decide) (fun K hK => ?_)
            refine goes_ Try.func32 (by kernel_rfl) rfl #[.agg #[.int .u64 a0_0, .slice A0_1 l0_1.length c0_1]] (by rfl) rfl rfl (by (try simp only [List.map_toArray, List.map_cons, List.map_nil]); first | done | rfl | (simp only [List.length_drop, List.length_take]; rfl)) ?_
            with_reducible refine (tallymanref17_Check.calls kj6 a0_0 _ _ l0_1 t504 _ ?side1 ?side2 A55.out).mono ?_
            (case side1 => exact cu (Kd.C_below HR0_1.out HB.out))
            (case side2 => exact HC0_1.out)
            rintro e w66 ⟨rfl, hb⟩
            refine ⟨_, rfl, ?_⟩
            replace HO493 := rb HO493 hb; replace HO499 := rb HO499 hb; replace BK486 := bb BK486 hb; replace BK487 := bb BK487 hb; replace BK488 := bb BK488 hb; replace BK495 := bb BK495 hb; replace BK501 := bb BK501 hb; replace HB := am (below_step (by repeat (first | (with_reducible first | exact HB.out | apply below_alloc | apply pw_below_drewN | apply below_drew1 | refine below_set ?_ (Aside0.out (by assumption))) | exact HB.out)) hb)
            (try clear hb)
            (try clear hb2)
            (try clear hk)
            (try clear hi)
            refine hK.out _ _ ⟨(blk_cell BK495.out 0).trans rfl, (blk_cell BK495.out 1).trans rfl, (blk_cell BK501.out 0).trans rfl, (blk_cell BK501.out 1).trans rfl, (blk_cell BK486.out 0).trans rfl, (blk_cell BK486.out 1).trans rfl, (blk_cell BK487.out 0).trans rfl, (blk_cell BK487.out 1).trans rfl⟩ (fun hHeld => ?_)
            clear hK K
            refine norm_ (a' := ?_) ?_ ?_
            rotate_left
            ·
             show Act.put _ (some 58) _ = _
             simp only [Act.put, List.setIfInBounds_toArray, List.set_cons_zero, List.set_cons_succ, i64_w, i32_w]
             rfl
            refine pu 14 (some 59) (v := ?_) (a' := ?_) (tb 15 32) rfl rfl (any_of HT_.out (by kernel_rfl)) (fun _ _ _ h => h) ⟨by rfl, ?_⟩ ?_ ?_; rotate_left; · (intro w'; go_simp; with_reducible rfl)
            rotate_left; · (simp only [Act.put, sa_, sb_, sc_, i64_w, i32_w]; rfl)
            refine pu 15 (some 60) (v := ?_) (a' := ?_) (tb 16 32) rfl rfl (any_of HT_.out (by kernel_rfl)) (fun _ _ _ h => h) ⟨by rfl, ?_⟩ ?_ ?_; rotate_left; · (intro w'; go_simp; with_reducible rfl)
            rotate_left; · (simp only [Act.put, sa_, sb_, sc_, i64_w, i32_w]; rfl)
            refine pu 16 (some 61) (v := ?_) (a' := ?_) (tb 17 32) rfl rfl (any_of HT_.out (by kernel_rfl)) (fun _ _ _ h => h) ⟨by rfl, ?_⟩ ?_ ?_; rotate_left; · (intro w'; go_simp; with_reducible rfl)
            rotate_left; · (simp only [Act.put, sa_, sb_, sc_, i64_w, i32_w]; rfl)
            refine tk 17 (some 62) (v := ?_) (a' := ?_) (tb 18 32) rfl rfl (take_ofW HT_.out HW_.out (by kernel_rfl)) (fun _ _ _ h => h) ⟨by rfl, ?_⟩ hHeld ?_ ?_; rotate_left; · (rintro w' ⟨s0, s1, s2, s3, s4, s5, s6, s7⟩; go_simp; with_reducible rfl)
            rotate_left; · (simp only [Act.put, sa_, sb_, sc_, i64_w, i32_w]; rfl)
            refine tk 19 (some 64) (v := ?_) (a' := ?_) #[true, true, true, true, true, true, true, true, true, true, true, true, true, true, true, true, true, true, false, true, false, false, false, false, false, false, false, false, false, false, false, false] rfl rfl (take_ofW HT_.out HW_.out (by kernel_rfl)) (fun _ _ _ h => h) ⟨by rfl, ?_⟩ hHeld ?_ ?_; rotate_left; · (rintro w' ⟨s0, s1, s2, s3, s4, s5, s6, s7⟩; go_simp; with_reducible rfl)
            rotate_left; · (simp only [Act.put, sa_, sb_, sc_, i64_w, i32_w]; rfl)
            refine one_ (i := 18) (N := some 63) (tb 20 32) rfl rfl (one_of HT_.out (by kernel_rfl)) (by decide) (fun K hK => ?_)
            refine goes_ Try.func22 (by kernel_rfl) rfl #[.agg #[.int .u64 a0_0, .slice A0_1 l0_1.length c0_1]] (by rfl) rfl rfl (by (try simp only [List.map_toArray, List.map_cons, List.map_nil]); first | done | rfl | (simp only [List.length_drop, List.length_take]; rfl)) ?_
            with_reducible refine (setops_Estimate.calls kj6 a0_0 _ _ l0_1 t505 _ ?side1 ?side2 A57.out).mono ?_
            (case side1 => exact cu (Kd.C_below HR0_1.out HB.out))
            (case side2 => exact HC0_1.out)
            rintro e w67 ⟨rfl, hb⟩
            refine ⟨_, rfl, ?_⟩
            replace HO493 := rb HO493 hb; replace HO499 := rb HO499 hb; replace BK486 := bb BK486 hb; replace BK487 := bb BK487 hb; replace BK488 := bb BK488 hb; replace BK495 := bb BK495 hb; replace BK501 := bb BK501 hb; replace HB := am (below_step (by repeat (first | (with_reducible first | exact HB.out | apply below_alloc | apply pw_below_drewN | apply below_drew1 | refine below_set ?_ (Aside0.out (by assumption))) | exact HB.out)) hb)
            (try clear hb)
            (try clear hb2)
            (try clear hk)
            (try clear hi)
            refine hK.out _ _ ⟨(blk_cell BK495.out 0).trans rfl, (blk_cell BK495.out 1).trans rfl, (blk_cell BK501.out 0).trans rfl, (blk_cell BK501.out 1).trans rfl, (blk_cell BK486.out 0).trans rfl, (blk_cell BK486.out 1).trans rfl, (blk_cell BK487.out 0).trans rfl, (blk_cell BK487.out 1).trans rfl⟩ (fun hHeld => ?_)
            clear hK K
            refine norm_ (a' := ?_) ?_ ?_
            rotate_left
            ·
             show Act.put _ (some 63) _ = _
             simp only [Act.put, List.setIfInBounds_toArray, List.set_cons_zero, List.set_cons_succ, i64_w, i32_w]
             rfl
            refine one_ (i := 20) (N := some 65) (tb 21 32) rfl rfl (one_of HT_.out (by kernel_rfl)) (by decide) (fun K hK => ?_)
            refine goes_ Try.func33 (by kernel_rfl) rfl #[.agg #[.int .u64 a0_0, .slice A0_1 l0_1.length c0_1]] (by rfl) rfl rfl (by (try simp only [List.map_toArray, List.map_cons, List.map_nil]); first | done | rfl | (simp only [List.length_drop, List.length_take]; rfl)) ?_
            with_reducible refine (tallymanref17_Estimate.calls kj6 a0_0 _ _ l0_1 t506 _ ?side1 ?side2 A58.out).mono ?_
            (case side1 => exact cu (Kd.C_below HR0_1.out HB.out))
            (case side2 => exact HC0_1.out)
            rintro e w68 ⟨rfl, hb⟩
            refine ⟨_, rfl, ?_⟩
            replace HO493 := rb HO493 hb; replace HO499 := rb HO499 hb; replace BK486 := bb BK486 hb; replace BK487 := bb BK487 hb; replace BK488 := bb BK488 hb; replace BK495 := bb BK495 hb; replace BK501 := bb BK501 hb; replace HB := am (below_step (by repeat (first | (with_reducible first | exact HB.out | apply below_alloc | apply pw_below_drewN | apply below_drew1 | refine below_set ?_ (Aside0.out (by assumption))) | exact HB.out)) hb)
            (try clear hb)
            (try clear hb2)
            (try clear hk)
            (try clear hi)
            refine hK.out _ _ ⟨(blk_cell BK495.out 0).trans rfl, (blk_cell BK495.out 1).trans rfl, (blk_cell BK501.out 0).trans rfl, (blk_cell BK501.out 1).trans rfl, (blk_cell BK486.out 0).trans rfl, (blk_cell BK486.out 1).trans rfl, (blk_cell BK487.out 0).trans rfl, (blk_cell BK487.out 1).trans rfl⟩ (fun hHeld => ?_)
            clear hK K
            refine norm_ (a' := ?_) ?_ ?_
            rotate_left
            ·
             show Act.put _ (some 65) _ = _
             simp only [Act.put, List.setIfInBounds_toArray, List.set_cons_zero, List.set_cons_succ, i64_w, i32_w]
             rfl
            refine pu 21 (some 66) (v := ?_) (a' := ?_) (tb 22 32) rfl rfl (any_of HT_.out (by kernel_rfl)) (fun _ _ _ h => h) ⟨by rfl, ?_⟩ ?_ ?_; rotate_left; · (intro w'; go_simp; with_reducible rfl)
            rotate_left; · (simp only [Act.put, sa_, sb_, sc_, i64_w, i32_w]; rfl)
            refine pu 22 (some 67) (v := ?_) (a' := ?_) (tb 23 32) rfl rfl (any_of HT_.out (by kernel_rfl)) (fun _ _ _ h => h) ⟨by rfl, ?_⟩ ?_ ?_; rotate_left; · (intro w'; go_simp; with_reducible rfl)
            rotate_left; · (simp only [Act.put, sa_, sb_, sc_, i64_w, i32_w]; rfl)
            refine pu 23 (some 68) (v := ?_) (a' := ?_) (tb 24 32) rfl rfl (any_of HT_.out (by kernel_rfl)) (fun _ _ _ h => h) ⟨by rfl, ?_⟩ ?_ ?_; rotate_left; · (intro w'; go_simp; with_reducible rfl)
            rotate_left; · (simp only [Act.put, sa_, sb_, sc_, i64_w, i32_w]; rfl)
            refine tk 24 (some 69) (v := ?_) (a' := ?_) (tb 25 32) rfl rfl (take_ofW HT_.out HW_.out (by kernel_rfl)) (fun _ _ _ h => h) ⟨by rfl, ?_⟩ hHeld ?_ ?_; rotate_left; · (rintro w' ⟨s0, s1, s2, s3, s4, s5, s6, s7⟩; go_simp; with_reducible rfl)
            rotate_left; · (simp only [Act.put, sa_, sb_, sc_, i64_w, i32_w]; rfl)
            refine tk 25 (some 70) (v := ?_) (a' := ?_) (tb 26 32) rfl rfl (take_ofW HT_.out HW_.out (by kernel_rfl)) (fun _ _ _ h => h) ⟨by rfl, ?_⟩ hHeld ?_ ?_; rotate_left; · (rintro w' ⟨s0, s1, s2, s3, s4, s5, s6, s7⟩; go_simp; with_reducible rfl)
            rotate_left; · (simp only [Act.put, sa_, sb_, sc_, i64_w, i32_w]; rfl)
            refine tk 27 (some 72) (v := ?_) (a' := ?_) #[true, true, true, true, true, true, true, true, true, true, true, true, true, true, true, true, true, true, true, true, true, true, true, true, true, true, false, true, false, false, false, false] rfl rfl (take_ofW HT_.out HW_.out (by kernel_rfl)) (fun _ _ _ h => h) ⟨by rfl, ?_⟩ hHeld ?_ ?_; rotate_left; · (rintro w' ⟨s0, s1, s2, s3, s4, s5, s6, s7⟩; go_simp; with_reducible rfl)
            rotate_left; · (simp only [Act.put, sa_, sb_, sc_, i64_w, i32_w]; rfl)
            refine tk 28 (some 73) (v := ?_) (a' := ?_) #[true, true, true, true, true, true, true, true, true, true, true, true, true, true, true, true, true, true, true, true, true, true, true, true, true, true, false, true, true, false, false, false] rfl rfl (take_ofW HT_.out HW_.out (by kernel_rfl)) (fun _ _ _ h => h) ⟨by rfl, ?_⟩ hHeld ?_ ?_; rotate_left; · (rintro w' ⟨s0, s1, s2, s3, s4, s5, s6, s7⟩; go_simp; with_reducible rfl)
            rotate_left; · (simp only [Act.put, sa_, sb_, sc_, i64_w, i32_w]; rfl)
            refine one_ (i := 26) (N := some 71) (tb 29 32) rfl rfl (one_of HT_.out (by kernel_rfl)) (by decide) (fun K hK => ?_)
            refine goes_ Try.func21 (by kernel_rfl) rfl #[.agg #[.int .u64 a0_0, .slice A0_1 l0_1.length c0_1], .agg #[.int .u64 a1_0, .slice A1_1 l1_1.length c1_1]] (by rfl) rfl rfl (by (try simp only [List.map_toArray, List.map_cons, List.map_nil]); first | done | rfl | (simp only [List.length_drop, List.length_take]; rfl)) ?_
            with_reducible refine (setops_Same.calls kj6 a0_0 _ _ l0_1 a1_0 _ _ l1_1 t507 _ ?side1 ?side2 ?side3 ?side4 A60.out).mono ?_
            (case side1 => exact cu (Kd.C_below HR0_1.out HB.out))
            (case side2 => exact HC0_1.out)
            (case side3 => exact cu (Kd.C_below HR1_1.out HB.out))
            (case side4 => exact HC1_1.out)
            rintro e w69 ⟨rfl, hb⟩
            refine ⟨_, rfl, ?_⟩
            replace HO493 := rb HO493 hb; replace HO499 := rb HO499 hb; replace BK486 := bb BK486 hb; replace BK487 := bb BK487 hb; replace BK488 := bb BK488 hb; replace BK495 := bb BK495 hb; replace BK501 := bb BK501 hb; replace HB := am (below_step (by repeat (first | (with_reducible first | exact HB.out | apply below_alloc | apply pw_below_drewN | apply below_drew1 | refine below_set ?_ (Aside0.out (by assumption))) | exact HB.out)) hb)
            (try clear hb)
            (try clear hb2)
            (try clear hk)
            (try clear hi)
            refine hK.out _ _ ⟨(blk_cell BK495.out 0).trans rfl, (blk_cell BK495.out 1).trans rfl, (blk_cell BK501.out 0).trans rfl, (blk_cell BK501.out 1).trans rfl, (blk_cell BK486.out 0).trans rfl, (blk_cell BK486.out 1).trans rfl, (blk_cell BK487.out 0).trans rfl, (blk_cell BK487.out 1).trans rfl⟩ (fun hHeld => ?_)
            clear hK K
            refine norm_ (a' := ?_) ?_ ?_
            rotate_left
            ·
             show Act.put _ (some 71) _ = _
             simp only [Act.put, List.setIfInBounds_toArray, List.set_cons_zero, List.set_cons_succ, i64_w, i32_w]
             rfl
            refine one_ (i := 29) (N := some 74) (tb 30 32) rfl rfl (one_of HT_.out (by kernel_rfl)) (by decide) (fun K hK => ?_)
            refine goes_ Try.func34 (by kernel_rfl) rfl #[.agg #[.int .u64 a0_0, .slice A0_1 l0_1.length c0_1], .agg #[.int .u64 a1_0, .slice A1_1 l1_1.length c1_1]] (by rfl) rfl rfl (by (try simp only [List.map_toArray, List.map_cons, List.map_nil]); first | done | rfl | (simp only [List.length_drop, List.length_take]; rfl)) ?_
            with_reducible refine (tallymanref17_Same.calls kj6 a0_0 _ _ l0_1 a1_0 _ _ l1_1 t508 _ ?side1 ?side2 ?side3 ?side4 A61.out).mono ?_
            (case side1 => exact cu (Kd.C_below HR0_1.out HB.out))
            (case side2 => exact HC0_1.out)
            (case side3 => exact cu (Kd.C_below HR1_1.out HB.out))
            (case side4 => exact HC1_1.out)
            rintro e w70 ⟨rfl, hb⟩
            refine ⟨_, rfl, ?_⟩
            replace HO493 := rb HO493 hb; replace HO499 := rb HO499 hb; replace BK486 := bb BK486 hb; replace BK487 := bb BK487 hb; replace BK488 := bb BK488 hb; replace BK495 := bb BK495 hb; replace BK501 := bb BK501 hb; replace HB := am (below_step (by repeat (first | (with_reducible first | exact HB.out | apply below_alloc | apply pw_below_drewN | apply below_drew1 | refine below_set ?_ (Aside0.out (by assumption))) | exact HB.out)) hb)
            (try clear hb)
            (try clear hb2)
            (try clear hk)
            (try clear hi)
            refine hK.out _ _ ⟨(blk_cell BK495.out 0).trans rfl, (blk_cell BK495.out 1).trans rfl, (blk_cell BK501.out 0).trans rfl, (blk_cell BK501.out 1).trans rfl, (blk_cell BK486.out 0).trans rfl, (blk_cell BK486.out 1).trans rfl, (blk_cell BK487.out 0).trans rfl, (blk_cell BK487.out 1).trans rfl⟩ (fun hHeld => ?_)
            clear hK K
            refine norm_ (a' := ?_) ?_ ?_
            rotate_left
            ·
             show Act.put _ (some 74) _ = _
             simp only [Act.put, List.setIfInBounds_toArray, List.set_cons_zero, List.set_cons_succ, i64_w, i32_w]
             rfl
            refine pu 30 (some 75) (v := ?_) (a' := ?_) (tb 31 32) rfl rfl (any_of HT_.out (by kernel_rfl)) (fun _ _ _ h => h) ⟨by rfl, ?_⟩ ?_ ?_; rotate_left; · (intro w'; go_simp; with_reducible rfl)
            rotate_left; · (simp only [Act.put, sa_, sb_, sc_, i64_w, i32_w]; rfl)
            refine pu 31 (some 76) (v := ?_) (a' := ?_) (tb 32 32) rfl rfl (any_of HT_.out (by kernel_rfl)) (fun _ _ _ h => h) ⟨by rfl, ?_⟩ ?_ ?_; rotate_left; · (intro w'; go_simp; with_reducible rfl)
            rotate_left; · (simp only [Act.put, sa_, sb_, sc_, i64_w, i32_w]; rfl)
            refine done_ (done_of HT_.out (by kernel_rfl)) ?_
            try go_wp2
            go_meet
            case rel => exact ⟨_, ((t507 != t508)), (by first | rfl | (simp; done) | (simp [*]; done)), H', ⟨by have := HJ6.out; first | omega | exact Nat.le_refl _⟩, ⟨ru HO493.out⟩, ⟨ru HO499.out⟩, ⟨bu BK486.out⟩, ⟨bu BK487.out⟩, ⟨bu BK488.out⟩, ⟨bu BK495.out⟩, ⟨bu BK501.out⟩, ⟨by repeat (first | (with_reducible first | exact HB.out | apply below_alloc | apply pw_below_drewN | apply below_drew1 | refine below_set ?_ (Aside0.out (by assumption))) | exact HB.out)⟩⟩
           ·
            rw [if_neg c59] at H
            have c59b0 : (t505 == t506) = false := beq_eq_false_iff_ne.mpr c59
            have c59b1 : (t505 != t506) = true := bne_iff_ne.mpr c59
            exact (no_1 H).elim
          ·
           rw [if_neg c56] at H
           have c56b0 : (t503 == t504) = false := beq_eq_false_iff_ne.mpr c56
           have c56b1 : (t503 != t504) = true := bne_iff_ne.mpr c56
           exact (no_1 H).elim
         ·
          rw [if_neg c53] at H
          have c53b0 : (t494 == t500) = false := beq_eq_false_iff_ne.mpr c53
          have c53b1 : (t494 != t500) = true := bne_iff_ne.mpr c53
          (first | rw [c53b0] | (simp only [i64_w, i32_w]; rw [c53b0]) | skip)
          exact (no_1 H).elim
        ·
         replace c52 := Bool.eq_false_iff.mpr c52
         subst c52
         have H1 : (j1 kj6 a3 true a0_0 l0_1 a1_0 l1_1) = some r := by rw [if_neg (show ¬ (false = true) by decide)] at H; exact H
         clear H
         have H := H1
         clear H1
         exact (no_1 H).elim
      case rest =>
       as_aux_lemma =>
        clear HC31
        try clear c1; try clear c2; try clear p2; try clear c3; try clear c5; try clear c30; try clear c52; try clear c53; try clear c53b0; try clear c53b1
        obtain ⟨kq, x76_30, rfl, HA, HJ30, HO_496001, HO_502001, BK486, BK487, BK488, BK495, BK501, HB⟩ := hcut
        cases kq with
        | zero => exact absurd HA.out (by simp [j1])
        | succ kj30 =>
         have H := HA.out
         clear HA
         simp only [j1] at H
         by_cases c89 : x76_30 = true
         ·
          subst c89
          have H1 : (none) = some r := by rw [if_pos rfl] at H; exact H
          clear H
          have H := H1
          clear H1
          exact absurd H (by simp)
         ·
          replace c89 := Bool.eq_false_iff.mpr c89
          subst c89
          have H1 : ((setops_Cut.f a0_0 l0_1 a3).bind fun bt509 => ((tallymanref17_Cut.f kj30 a0_0 l0_1 a3).bind fun bt514 => ((tallymankit_View.f kj30 bt509.1 bt509.2.1 bt514.1 bt514.2.1).bind fun t519 => (if t519 = true then (j2 kj30 (bt509.2.2 != bt514.2.2) a0_0 l0_1 a1_0 l1_1) else (j2 kj30 true a0_0 l0_1 a1_0 l1_1))))) = some r := by rw [if_neg (show ¬ (false = true) by decide)] at H; exact H
          clear H
          have H := H1
          clear H1
          replace H := Option.bind_eq_some_iff.mp H
          obtain ⟨⟨t509, t510, t513⟩, A900, H⟩ := H
          replace H : ((tallymanref17_Cut.f kj30 a0_0 l0_1 a3).bind fun bt514 => ((tallymankit_View.f kj30 t509 t510 bt514.1 bt514.2.1).bind fun t519 => (if t519 = true then (j2 kj30 (t513 != bt514.2.2) a0_0 l0_1 a1_0 l1_1) else (j2 kj30 true a0_0 l0_1 a1_0 l1_1)))) = some r := H
          have A90 := Aside0.mk A900
          clear A900
          replace H := Option.bind_eq_some_iff.mp H
          obtain ⟨⟨t514, t515, t518⟩, A910, H⟩ := H
          replace H : ((tallymankit_View.f kj30 t509 t510 t514 t515).bind fun t519 => (if t519 = true then (j2 kj30 (t513 != t518) a0_0 l0_1 a1_0 l1_1) else (j2 kj30 true a0_0 l0_1 a1_0 l1_1))) = some r := H
          have A91 := Aside0.mk A910
          clear A910
          have HC92 := Aside0.mk H
          clear H
          have hnb93 := NB486_487.out; have hnc93 := NB487_486.out; have hnb94 := NB486_488.out; have hnc94 := NB488_486.out; have hnb95 := NB486_495.out; have hnc95 := NB495_486.out; have hnb96 := NB486_501.out; have hnc96 := NB501_486.out; have hcz97_0 := ca BK486.out; have hcz97_1 := cb BK486.out; have hfz97_0 := blk_frozen BK486.out 0; have hfz97_1 := blk_frozen BK486.out 1
          go_upto_region 11 with (first | ((with_reducible refine gate_callee (f := 28) rfl ?_); refine goesL_ (some 80) rfl rfl Try.func28 (by kernel_rfl) rfl #[.agg #[.int .u64 a0_0, .slice A0_1 l0_1.length c0_1], .int .u64 a3] rfl (by (try simp only [List.map_toArray, List.map_cons, List.map_nil]); first | done | rfl | (simp only [List.length_drop, List.length_take]; rfl)) ?_; (with_reducible refine (setops_Cut.calls a0_0 _ _ l0_1 a3 t509 t510 t513 _ ?side1 ?side2 A90.out).mono ?_); (case side1 => exact cu (Kd.C_below HR0_1.out HB.out)); (case side2 => exact HC0_1.out); rintro e w98 ⟨v511, rfl, ho0, hb⟩; refine ⟨_, rfl, ?_⟩; have HO512 := am (Kd.R_lower (Kd.R_new' (Kd.R_new' ho0 (Kd.R_lt (ru (HO_496001.out)))) (Kd.R_lt (ru (HO_502001.out)))) (below_size (by repeat (first | (with_reducible first | exact HB.out | apply below_alloc | apply pw_below_drewN | apply below_drew1 | refine below_set ?_ (Aside0.out (by assumption))) | exact HB.out)))); replace HO_496001 := am (Kd.R_elder' (ru (HO_496001.out)) (Kd.R_base ho0) hb); replace HO_502001 := am (Kd.R_elder' (ru (HO_502001.out)) (Kd.R_base ho0) hb); replace BK486 := bb BK486 hb; replace BK487 := bb BK487 hb; replace BK488 := bb BK488 hb; replace BK495 := bb BK495 hb; replace BK501 := bb BK501 hb; replace HB := am (below_step (by repeat (first | (with_reducible first | exact HB.out | apply below_alloc | apply pw_below_drewN | apply below_drew1 | refine below_set ?_ (Aside0.out (by assumption))) | exact HB.out)) hb); (try clear hb); (try clear ho0); have hnb99 := NB495_487.out; have hnc99 := NB487_495.out; have hnb100 := NB495_488.out; have hnc100 := NB488_495.out; have hnb101 := NB495_501.out; have hnc101 := NB501_495.out; have hcz102_0 := ca BK495.out; have hcz102_1 := cb BK495.out; have hfz102_0 := blk_frozen BK495.out 0; have hfz102_1 := blk_frozen BK495.out 1; obtain ⟨Ao103, co103, eo103⟩ := Kd.R_slice HO512.out; subst eo103; have hcz104_0 := ca BK486.out; have hcz104_1 := cb BK486.out; have hfz104_0 := blk_frozen BK486.out 0; have hfz104_1 := blk_frozen BK486.out 1) | ((with_reducible refine gate_callee (f := 35) rfl ?_); refine goesL_ (some 86) rfl rfl Try.func35 (by kernel_rfl) rfl #[.agg #[.int .u64 a0_0, .slice A0_1 l0_1.length c0_1], .int .u64 a3] rfl (by (try simp only [List.map_toArray, List.map_cons, List.map_nil]); first | done | rfl | (simp only [List.length_drop, List.length_take]; rfl)) ?_; (with_reducible refine (tallymanref17_Cut.calls kj30 a0_0 _ _ l0_1 a3 t514 t515 t518 _ ?side1 ?side2 A91.out).mono ?_); (case side1 => exact Kd.C_below HR0_1.out (by repeat (first | (with_reducible first | exact HB.out | apply below_alloc | apply pw_below_drewN | apply below_drew1 | refine below_set ?_ (Aside0.out (by assumption))) | exact HB.out))); (case side2 => exact HC0_1.out); rintro e w105 ⟨v516, rfl, ho0, hb⟩; refine ⟨_, rfl, ?_⟩; have HO517 := am (Kd.R_lower (Kd.R_new' (Kd.R_new' (Kd.R_new' ho0 (Kd.R_lt (rf HO_496001.out BK495.out (by decide)))) (Kd.R_lt (rf HO_502001.out BK495.out (by decide)))) (Kd.R_lt (rf HO512.out BK495.out (by decide)))) (below_size (by repeat (first | (with_reducible first | exact HB.out | apply below_alloc | apply pw_below_drewN | apply below_drew1 | refine below_set ?_ (Aside0.out (by assumption))) | exact HB.out)))); replace HO_496001 := am (Kd.R_elder' (rf HO_496001.out BK495.out (by decide)) (Kd.R_base ho0) hb); replace HO_502001 := am (Kd.R_elder' (rf HO_502001.out BK495.out (by decide)) (Kd.R_base ho0) hb); replace HO512 := am (Kd.R_elder' (rf HO512.out BK495.out (by decide)) (Kd.R_base ho0) hb); replace BK486 := am (blk_below (bf NB486_495.out BK486.out) hb); replace BK487 := am (blk_below (bf NB487_495.out BK487.out) hb); replace BK488 := am (blk_below (bf NB488_495.out BK488.out) hb); replace BK495 := am (blk_below (g := gb495) (o := .cells #[.int .u64 t509, .slice Ao103 t510.length co103] 25 (0, 0)) (by (with_reducible repeat (first | refine blk_drewN ?_ _ | refine blk_drew ?_ | refine blk_alloc ?_ _)); refine blk_put (cs := #[.int .u64 t509, .slice Ao41 t491.length co41]) ?_ 1 _ rfl; (with_reducible repeat (first | refine blk_drewN ?_ _ | refine blk_drew ?_ | refine blk_alloc ?_ _)); refine blk_put (cs := #[.int .u64 t490, .slice Ao41 t491.length co41]) ?_ 0 _ rfl; (with_reducible repeat (first | refine blk_drewN ?_ _ | refine blk_drew ?_ | refine blk_alloc ?_ _)); exact BK495.out) hb); replace BK501 := am (blk_below (bf NB501_495.out BK501.out) hb); replace HB := am (below_step (by repeat (first | (with_reducible first | exact HB.out | apply below_alloc | apply pw_below_drewN | apply below_drew1 | refine below_set ?_ (Aside0.out (by assumption))) | exact HB.out)) hb); (try clear hb); (try clear ho0); have hnb106 := NB501_487.out; have hnc106 := NB487_501.out; have hnb107 := NB501_488.out; have hnc107 := NB488_501.out; have hcz108_0 := ca BK501.out; have hcz108_1 := cb BK501.out; have hfz108_0 := blk_frozen BK501.out 0; have hfz108_1 := blk_frozen BK501.out 1; obtain ⟨Ao109, co109, eo109⟩ := Kd.R_slice HO517.out; subst eo109))
          (try simp only [Act.put, List.setIfInBounds_toArray, List.set_cons_zero, List.set_cons_succ])
          go_cut [97] (fun v97 wc => ∃ (kq : Nat) (x97_91 : Bool), v97 = .bool x97_91 ∧ Aside0 (j2 kq x97_91 a0_0 l0_1 a1_0 l1_1 = some r) ∧ Aside0 (kq ≤ kj30) ∧ Aside0 (Kd.R (Kd.int .u64) 22 wc w.heap.size (fun k_ => some k_ ≠ ((.slice Ao109 t515.length co109) : Value).ownBlock) (.slice Ao103 t510.length co103) t510) ∧ Aside0 (Kd.R (Kd.int .u64) 22 wc w.heap.size (fun k_ => some k_ ≠ ((.slice Ao103 t510.length co103) : Value).ownBlock) (.slice Ao109 t515.length co109) t515) ∧ Aside0 (wc.heap[gb486]? = some (.cells #[.int .u64 a0_0, (.slice A0_1 l0_1.length c0_1)] 25 (0, 0))) ∧ Aside0 (wc.heap[gb487]? = some (.cells #[.int .u64 a1_0, (.slice A1_1 l1_1.length c1_1)] 25 (0, 0))) ∧ Aside0 (wc.heap[gb488]? = some (.cells #[.int .i64 a2_0, (.slice A2_1 l2_1.length c2_1), .int .u64 a2_2] 34 (0, 0))) ∧ Aside0 (wc.heap[gb495]? = some (.cells #[.int .u64 t509, (.slice Ao103 t510.length co103)] 25 (0, 0))) ∧ Aside0 (wc.heap[gb501]? = some (.cells #[.int .u64 t514, (.slice Ao109 t515.length co109)] 25 (0, 0))) ∧ Aside0 (Below w.heap.size w wc))
          case first =>
           as_aux_lemma =>
            have H := HC92.out
            clear HC92
            replace H := Option.bind_eq_some_iff.mp H
            obtain ⟨t519, A1100, H⟩ := H
            replace H : (if t519 = true then (j2 kj30 (t513 != t518) a0_0 l0_1 a1_0 l1_1) else (j2 kj30 true a0_0 l0_1 a1_0 l1_1)) = some r := H
            have A110 := Aside0.mk A1100
            clear A1100
            by_cases c111 : t519 = true
            ·
             subst c111
             have H1 : (j2 kj30 (t513 != t518) a0_0 l0_1 a1_0 l1_1) = some r := by rw [if_pos rfl] at H; exact H
             clear H
             have H := H1
             clear H1
             have H' := Aside0.mk H
             clear H
             have hnb112 := NB495_486.out; have hnc112 := NB486_495.out; have hnb113 := NB495_487.out; have hnc113 := NB487_495.out; have hnb114 := NB495_488.out; have hnc114 := NB488_495.out; have hnb115 := NB495_501.out; have hnc115 := NB501_495.out; have hcz116_0 := ca BK495.out; have hcz116_1 := cb BK495.out; have hfz116_0 := blk_frozen BK495.out 0; have hfz116_1 := blk_frozen BK495.out 1; have hnb117 := NB501_486.out; have hnc117 := NB486_501.out; have hnb118 := NB501_487.out; have hnc118 := NB487_501.out; have hnb119 := NB501_488.out; have hnc119 := NB488_501.out; have hcz120_0 := ca BK501.out; have hcz120_1 := cb BK501.out; have hfz120_0 := blk_frozen BK501.out 0; have hfz120_1 := blk_frozen BK501.out 1
             go_wp2_with (first | ((with_reducible refine gate_callee (f := 30) rfl ?_); refine goesL_ (some 91) rfl rfl Try.func30 (by kernel_rfl) rfl #[.agg #[.int .u64 t509, .slice Ao103 t510.length co103], .agg #[.int .u64 t514, .slice Ao109 t515.length co109]] rfl (by (try simp only [List.map_toArray, List.map_cons, List.map_nil]); first | done | rfl | (simp only [List.length_drop, List.length_take]; rfl)) ?_; (with_reducible refine (tallymankit_View.calls kj30 t509 _ _ t510 t514 _ _ t515 true _ ?side1 ?side2 ?side3 ?side4 A110.out).mono ?_); (case side1 => refine (Kd.R_reads' (e := 22) (base := w.heap.size) (ok := fun k_ => (((True ∧ nb Ao41 t491.length co41 k_) ∧ nb Ao50 t497.length co50 k_) ∧ nb Ao109 t515.length co109 k_)) (n := t510.length) (c := co103) ?_).2.2; exact (rf HO512.out BK501.out (by decide))); (case side2 => exact (Kd.R_reads' HO512.out).2.1); (case side3 => refine (Kd.R_reads' (e := 22) (base := w.heap.size) (ok := fun k_ => (((True ∧ nb Ao41 t491.length co41 k_) ∧ nb Ao50 t497.length co50 k_) ∧ nb Ao103 t510.length co103 k_)) (n := t515.length) (c := co109) ?_).2.2; exact (rf HO517.out BK501.out (by decide))); (case side4 => exact (Kd.R_reads' HO517.out).2.1); rintro e w121 ⟨rfl, hb⟩; refine ⟨_, rfl, ?_⟩; replace HO_496001 := am (Kd.R_below (rf HO_496001.out BK501.out (by decide)) hb); replace HO_502001 := am (Kd.R_below (rf HO_502001.out BK501.out (by decide)) hb); replace HO512 := am (Kd.R_below (rf HO512.out BK501.out (by decide)) hb); replace HO517 := am (Kd.R_below (rf HO517.out BK501.out (by decide)) hb); replace BK486 := am (blk_below (bf NB486_501.out BK486.out) hb); replace BK487 := am (blk_below (bf NB487_501.out BK487.out) hb); replace BK488 := am (blk_below (bf NB488_501.out BK488.out) hb); replace BK495 := am (blk_below (bf NB495_501.out BK495.out) hb); replace BK501 := am (blk_below (g := gb501) (o := .cells #[.int .u64 t514, .slice Ao109 t515.length co109] 25 (0, 0)) (by (with_reducible repeat (first | refine blk_drewN ?_ _ | refine blk_drew ?_ | refine blk_alloc ?_ _)); refine blk_put (cs := #[.int .u64 t514, .slice Ao50 t497.length co50]) ?_ 1 _ rfl; (with_reducible repeat (first | refine blk_drewN ?_ _ | refine blk_drew ?_ | refine blk_alloc ?_ _)); refine blk_put (cs := #[.int .u64 t496, .slice Ao50 t497.length co50]) ?_ 0 _ rfl; (with_reducible repeat (first | refine blk_drewN ?_ _ | refine blk_drew ?_ | refine blk_alloc ?_ _)); exact BK501.out) hb); replace HB := am (below_step (by repeat (first | (with_reducible first | exact HB.out | apply below_alloc | apply pw_below_drewN | apply below_drew1 | refine below_set ?_ (Aside0.out (by assumption))) | exact HB.out)) hb); (try clear hb)))
             go_meet
             case rel => exact ⟨_, ((t513 != t518)), (by first | rfl | (simp; done) | (simp [*]; done)), H', ⟨by have := HJ6.out; have := HJ30.out; first | omega | exact Nat.le_refl _⟩, ⟨by (with_reducible repeat (first | apply Kd.R_alloc | apply Kd.R_drewN | apply Kd.R_drew)); exact Kd.R_mono HO512.out (fun _ hk => hk.2)⟩, ⟨by (with_reducible repeat (first | apply Kd.R_alloc | apply Kd.R_drewN | apply Kd.R_drew)); exact Kd.R_mono HO517.out (fun _ hk => hk.2)⟩, ⟨bu BK486.out⟩, ⟨bu BK487.out⟩, ⟨bu BK488.out⟩, ⟨bu BK495.out⟩, ⟨bu BK501.out⟩, ⟨by repeat (first | (with_reducible first | exact HB.out | apply below_alloc | apply pw_below_drewN | apply below_drew1 | refine below_set ?_ (Aside0.out (by assumption))) | exact HB.out)⟩⟩
            ·
             replace c111 := Bool.eq_false_iff.mpr c111
             subst c111
             have H1 : (j2 kj30 true a0_0 l0_1 a1_0 l1_1) = some r := by rw [if_neg (show ¬ (false = true) by decide)] at H; exact H
             clear H
             have H := H1
             clear H1
             exact (no_2 H).elim
          case rest =>
           as_aux_lemma =>
            clear HC92
            try clear c1; try clear c2; try clear p2; try clear c3; try clear c5; try clear c8; try clear c9; try clear c10; try clear c11; try clear c12; try clear c28; try clear c30; try clear c35; try clear c52; try clear c53; try clear c53b0; try clear c53b1; try clear c89; try clear c93; try clear c94; try clear c95; try clear c96; try clear c99; try clear c100; try clear c101; try clear c106; try clear c107; try clear c111; try clear c112; try clear c113; try clear c114; try clear c115; try clear c117; try clear c118; try clear c119; try clear c122; try clear c123; try clear c124; try clear c125; try clear c127; try clear c128; try clear c129; try clear hcz102_0; try clear hcz102_1; try clear hcz104_0; try clear hcz104_1; try clear hcz108_0; try clear hcz108_1; try clear hcz116_0; try clear hcz116_1; try clear hcz120_0; try clear hcz120_1; try clear hcz126_0; try clear hcz126_1; try clear hcz130_0; try clear hcz130_1; try clear hcz97_0; try clear hcz97_1; try clear hfz102_0; try clear hfz102_1; try clear hfz104_0; try clear hfz104_1; try clear hfz108_0; try clear hfz108_1; try clear hfz116_0; try clear hfz116_1; try clear hfz120_0; try clear hfz120_1; try clear hfz126_0; try clear hfz126_1; try clear hfz130_0; try clear hfz130_1; try clear hfz97_0; try clear hfz97_1; try clear p2
            obtain ⟨kq, x97_91, rfl, HA, HJ91, HO_496001, HO_502001, BK486, BK487, BK488, BK495, BK501, HB⟩ := hcut
            cases kq with
            | zero => exact absurd HA.out (by simp [j2])
            | succ kj91 =>
             have H := HA.out
             clear HA
             simp only [j2] at H
             by_cases c132 : x97_91 = true
             ·
              subst c132
              have H1 : (none) = some r := by rw [if_pos rfl] at H; exact H
              clear H
              have H := H1
              clear H1
              exact absurd H (by simp)
             ·
              replace c132 := Bool.eq_false_iff.mpr c132
              subst c132
              have H1 : ((setops_Either.f a0_0 l0_1 a1_0 l1_1).bind fun bt520 => ((tallymanref17_Either.f kj91 a0_0 l0_1 a1_0 l1_1).bind fun bt525 => ((tallymankit_View.f kj91 bt520.1 bt520.2.1 bt525.1 bt525.2.1).bind fun t530 => (if t530 = true then (j3 kj91 (bt520.2.2 != bt525.2.2) a0_0 l0_1 a1_0 l1_1) else (j3 kj91 true a0_0 l0_1 a1_0 l1_1))))) = some r := by rw [if_neg (show ¬ (false = true) by decide)] at H; exact H
              clear H
              have H := H1
              clear H1
              replace H := Option.bind_eq_some_iff.mp H
              obtain ⟨⟨t520, t521, t524⟩, A1330, H⟩ := H
              replace H : ((tallymanref17_Either.f kj91 a0_0 l0_1 a1_0 l1_1).bind fun bt525 => ((tallymankit_View.f kj91 t520 t521 bt525.1 bt525.2.1).bind fun t530 => (if t530 = true then (j3 kj91 (t524 != bt525.2.2) a0_0 l0_1 a1_0 l1_1) else (j3 kj91 true a0_0 l0_1 a1_0 l1_1)))) = some r := H
              have A133 := Aside0.mk A1330
              clear A1330
              replace H := Option.bind_eq_some_iff.mp H
              obtain ⟨⟨t525, t526, t529⟩, A1340, H⟩ := H
              replace H : ((tallymankit_View.f kj91 t520 t521 t525 t526).bind fun t530 => (if t530 = true then (j3 kj91 (t524 != t529) a0_0 l0_1 a1_0 l1_1) else (j3 kj91 true a0_0 l0_1 a1_0 l1_1))) = some r := H
              have A134 := Aside0.mk A1340
              clear A1340
              have HC135 := Aside0.mk H
              clear H
              have hnb136 := NB486_487.out; have hnc136 := NB487_486.out; have hnb137 := NB486_488.out; have hnc137 := NB488_486.out; have hnb138 := NB486_495.out; have hnc138 := NB495_486.out; have hnb139 := NB486_501.out; have hnc139 := NB501_486.out; have hcz140_0 := ca BK486.out; have hcz140_1 := cb BK486.out; have hfz140_0 := blk_frozen BK486.out 0; have hfz140_1 := blk_frozen BK486.out 1; have hnb141 := NB487_488.out; have hnc141 := NB488_487.out; have hnb142 := NB487_495.out; have hnc142 := NB495_487.out; have hnb143 := NB487_501.out; have hnc143 := NB501_487.out; have hcz144_0 := ca BK487.out; have hcz144_1 := cb BK487.out; have hfz144_0 := blk_frozen BK487.out 0; have hfz144_1 := blk_frozen BK487.out 1
              go_upto_region 15 with (first | ((with_reducible refine gate_callee (f := 17) rfl ?_); refine goesL_ (some 101) rfl rfl Try.func17 (by kernel_rfl) rfl #[.agg #[.int .u64 a0_0, .slice A0_1 l0_1.length c0_1], .agg #[.int .u64 a1_0, .slice A1_1 l1_1.length c1_1]] rfl (by (try simp only [List.map_toArray, List.map_cons, List.map_nil]); first | done | rfl | (simp only [List.length_drop, List.length_take]; rfl)) ?_; (with_reducible refine (setops_Either.calls a0_0 _ _ l0_1 a1_0 _ _ l1_1 t520 t521 t524 _ ?side1 ?side2 ?side3 ?side4 A133.out).mono ?_); (case side1 => exact cu (Kd.C_below HR0_1.out HB.out)); (case side2 => exact HC0_1.out); (case side3 => exact cu (Kd.C_below HR1_1.out HB.out)); (case side4 => exact HC1_1.out); rintro e w145 ⟨v522, rfl, ho0, hb⟩; refine ⟨_, rfl, ?_⟩; have HO523 := am (Kd.R_lower (Kd.R_new' (Kd.R_new' ho0 (Kd.R_lt (ru (HO_496001.out)))) (Kd.R_lt (ru (HO_502001.out)))) (below_size (by repeat (first | (with_reducible first | exact HB.out | apply below_alloc | apply pw_below_drewN | apply below_drew1 | refine below_set ?_ (Aside0.out (by assumption))) | exact HB.out)))); replace HO_496001 := am (Kd.R_elder' (ru (HO_496001.out)) (Kd.R_base ho0) hb); replace HO_502001 := am (Kd.R_elder' (ru (HO_502001.out)) (Kd.R_base ho0) hb); replace BK486 := bb BK486 hb; replace BK487 := bb BK487 hb; replace BK488 := bb BK488 hb; replace BK495 := bb BK495 hb; replace BK501 := bb BK501 hb; replace HB := am (below_step (by repeat (first | (with_reducible first | exact HB.out | apply below_alloc | apply pw_below_drewN | apply below_drew1 | refine below_set ?_ (Aside0.out (by assumption))) | exact HB.out)) hb); (try clear hb); (try clear ho0); have hnb146 := NB495_488.out; have hnc146 := NB488_495.out; have hnb147 := NB495_501.out; have hnc147 := NB501_495.out; have hcz148_0 := ca BK495.out; have hcz148_1 := cb BK495.out; have hfz148_0 := blk_frozen BK495.out 0; have hfz148_1 := blk_frozen BK495.out 1; obtain ⟨Ao149, co149, eo149⟩ := Kd.R_slice HO523.out; subst eo149; have hcz150_0 := ca BK486.out; have hcz150_1 := cb BK486.out; have hfz150_0 := blk_frozen BK486.out 0; have hfz150_1 := blk_frozen BK486.out 1; have hcz151_0 := ca BK487.out; have hcz151_1 := cb BK487.out; have hfz151_0 := blk_frozen BK487.out 0; have hfz151_1 := blk_frozen BK487.out 1) | ((with_reducible refine gate_callee (f := 36) rfl ?_); refine goesL_ (some 107) rfl rfl Try.func36 (by kernel_rfl) rfl #[.agg #[.int .u64 a0_0, .slice A0_1 l0_1.length c0_1], .agg #[.int .u64 a1_0, .slice A1_1 l1_1.length c1_1]] rfl (by (try simp only [List.map_toArray, List.map_cons, List.map_nil]); first | done | rfl | (simp only [List.length_drop, List.length_take]; rfl)) ?_; (with_reducible refine (tallymanref17_Either.calls kj91 a0_0 _ _ l0_1 a1_0 _ _ l1_1 t525 t526 t529 _ ?side1 ?side2 ?side3 ?side4 A134.out).mono ?_); (case side1 => exact Kd.C_below HR0_1.out (by repeat (first | (with_reducible first | exact HB.out | apply below_alloc | apply pw_below_drewN | apply below_drew1 | refine below_set ?_ (Aside0.out (by assumption))) | exact HB.out))); (case side2 => exact HC0_1.out); (case side3 => exact Kd.C_below HR1_1.out (by repeat (first | (with_reducible first | exact HB.out | apply below_alloc | apply pw_below_drewN | apply below_drew1 | refine below_set ?_ (Aside0.out (by assumption))) | exact HB.out))); (case side4 => exact HC1_1.out); rintro e w152 ⟨v527, rfl, ho0, hb⟩; refine ⟨_, rfl, ?_⟩; have HO528 := am (Kd.R_lower (Kd.R_new' (Kd.R_new' (Kd.R_new' ho0 (Kd.R_lt (rf HO_496001.out BK495.out (by decide)))) (Kd.R_lt (rf HO_502001.out BK495.out (by decide)))) (Kd.R_lt (rf HO523.out BK495.out (by decide)))) (below_size (by repeat (first | (with_reducible first | exact HB.out | apply below_alloc | apply pw_below_drewN | apply below_drew1 | refine below_set ?_ (Aside0.out (by assumption))) | exact HB.out)))); replace HO_496001 := am (Kd.R_elder' (rf HO_496001.out BK495.out (by decide)) (Kd.R_base ho0) hb); replace HO_502001 := am (Kd.R_elder' (rf HO_502001.out BK495.out (by decide)) (Kd.R_base ho0) hb); replace HO523 := am (Kd.R_elder' (rf HO523.out BK495.out (by decide)) (Kd.R_base ho0) hb); replace BK486 := am (blk_below (bf NB486_495.out BK486.out) hb); replace BK487 := am (blk_below (bf NB487_495.out BK487.out) hb); replace BK488 := am (blk_below (bf NB488_495.out BK488.out) hb); replace BK495 := am (blk_below (g := gb495) (o := .cells #[.int .u64 t520, .slice Ao149 t521.length co149] 25 (0, 0)) (by (with_reducible repeat (first | refine blk_drewN ?_ _ | refine blk_drew ?_ | refine blk_alloc ?_ _)); refine blk_put (cs := #[.int .u64 t520, .slice Ao103 t510.length co103]) ?_ 1 _ rfl; (with_reducible repeat (first | refine blk_drewN ?_ _ | refine blk_drew ?_ | refine blk_alloc ?_ _)); refine blk_put (cs := #[.int .u64 t509, .slice Ao103 t510.length co103]) ?_ 0 _ rfl; (with_reducible repeat (first | refine blk_drewN ?_ _ | refine blk_drew ?_ | refine blk_alloc ?_ _)); exact BK495.out) hb); replace BK501 := am (blk_below (bf NB501_495.out BK501.out) hb); replace HB := am (below_step (by repeat (first | (with_reducible first | exact HB.out | apply below_alloc | apply pw_below_drewN | apply below_drew1 | refine below_set ?_ (Aside0.out (by assumption))) | exact HB.out)) hb); (try clear hb); (try clear ho0); have hnb153 := NB501_488.out; have hnc153 := NB488_501.out; have hcz154_0 := ca BK501.out; have hcz154_1 := cb BK501.out; have hfz154_0 := blk_frozen BK501.out 0; have hfz154_1 := blk_frozen BK501.out 1; obtain ⟨Ao155, co155, eo155⟩ := Kd.R_slice HO528.out; subst eo155))
              (try simp only [Act.put, List.setIfInBounds_toArray, List.set_cons_zero, List.set_cons_succ])
              go_cut [118] (fun v118 wc => ∃ (kq : Nat) (x118_134 : Bool), v118 = .bool x118_134 ∧ Aside0 (j3 kq x118_134 a0_0 l0_1 a1_0 l1_1 = some r) ∧ Aside0 (kq ≤ kj91) ∧ Aside0 (Kd.R (Kd.int .u64) 22 wc w.heap.size (fun k_ => some k_ ≠ ((.slice Ao155 t526.length co155) : Value).ownBlock) (.slice Ao149 t521.length co149) t521) ∧ Aside0 (Kd.R (Kd.int .u64) 22 wc w.heap.size (fun k_ => some k_ ≠ ((.slice Ao149 t521.length co149) : Value).ownBlock) (.slice Ao155 t526.length co155) t526) ∧ Aside0 (wc.heap[gb486]? = some (.cells #[.int .u64 a0_0, (.slice A0_1 l0_1.length c0_1)] 25 (0, 0))) ∧ Aside0 (wc.heap[gb487]? = some (.cells #[.int .u64 a1_0, (.slice A1_1 l1_1.length c1_1)] 25 (0, 0))) ∧ Aside0 (wc.heap[gb488]? = some (.cells #[.int .i64 a2_0, (.slice A2_1 l2_1.length c2_1), .int .u64 a2_2] 34 (0, 0))) ∧ Aside0 (wc.heap[gb495]? = some (.cells #[.int .u64 t520, (.slice Ao149 t521.length co149)] 25 (0, 0))) ∧ Aside0 (wc.heap[gb501]? = some (.cells #[.int .u64 t525, (.slice Ao155 t526.length co155)] 25 (0, 0))) ∧ Aside0 (Below w.heap.size w wc))
              case first =>
               as_aux_lemma =>
                have H := HC135.out
                clear HC135
                replace H := Option.bind_eq_some_iff.mp H
                obtain ⟨t530, A1560, H⟩ := H
                replace H : (if t530 = true then (j3 kj91 (t524 != t529) a0_0 l0_1 a1_0 l1_1) else (j3 kj91 true a0_0 l0_1 a1_0 l1_1)) = some r := H
                have A156 := Aside0.mk A1560
                clear A1560
                by_cases c157 : t530 = true
                ·
                 subst c157
                 have H1 : (j3 kj91 (t524 != t529) a0_0 l0_1 a1_0 l1_1) = some r := by rw [if_pos rfl] at H; exact H
                 clear H
                 have H := H1
                 clear H1
                 have H' := Aside0.mk H
                 clear H
                 have hnb158 := NB495_486.out; have hnc158 := NB486_495.out; have hnb159 := NB495_487.out; have hnc159 := NB487_495.out; have hnb160 := NB495_488.out; have hnc160 := NB488_495.out; have hnb161 := NB495_501.out; have hnc161 := NB501_495.out; have hcz162_0 := ca BK495.out; have hcz162_1 := cb BK495.out; have hfz162_0 := blk_frozen BK495.out 0; have hfz162_1 := blk_frozen BK495.out 1; have hnb163 := NB501_486.out; have hnc163 := NB486_501.out; have hnb164 := NB501_487.out; have hnc164 := NB487_501.out; have hnb165 := NB501_488.out; have hnc165 := NB488_501.out; have hcz166_0 := ca BK501.out; have hcz166_1 := cb BK501.out; have hfz166_0 := blk_frozen BK501.out 0; have hfz166_1 := blk_frozen BK501.out 1
                 go_wp2_with (first | ((with_reducible refine gate_callee (f := 30) rfl ?_); refine goesL_ (some 112) rfl rfl Try.func30 (by kernel_rfl) rfl #[.agg #[.int .u64 t520, .slice Ao149 t521.length co149], .agg #[.int .u64 t525, .slice Ao155 t526.length co155]] rfl (by (try simp only [List.map_toArray, List.map_cons, List.map_nil]); first | done | rfl | (simp only [List.length_drop, List.length_take]; rfl)) ?_; (with_reducible refine (tallymankit_View.calls kj91 t520 _ _ t521 t525 _ _ t526 true _ ?side1 ?side2 ?side3 ?side4 A156.out).mono ?_); (case side1 => refine (Kd.R_reads' (e := 22) (base := w.heap.size) (ok := fun k_ => (((True ∧ nb Ao103 t510.length co103 k_) ∧ nb Ao109 t515.length co109 k_) ∧ nb Ao155 t526.length co155 k_)) (n := t521.length) (c := co149) ?_).2.2; exact (rf HO523.out BK501.out (by decide))); (case side2 => exact (Kd.R_reads' HO523.out).2.1); (case side3 => refine (Kd.R_reads' (e := 22) (base := w.heap.size) (ok := fun k_ => (((True ∧ nb Ao103 t510.length co103 k_) ∧ nb Ao109 t515.length co109 k_) ∧ nb Ao149 t521.length co149 k_)) (n := t526.length) (c := co155) ?_).2.2; exact (rf HO528.out BK501.out (by decide))); (case side4 => exact (Kd.R_reads' HO528.out).2.1); rintro e w167 ⟨rfl, hb⟩; refine ⟨_, rfl, ?_⟩; replace HO_496001 := am (Kd.R_below (rf HO_496001.out BK501.out (by decide)) hb); replace HO_502001 := am (Kd.R_below (rf HO_502001.out BK501.out (by decide)) hb); replace HO523 := am (Kd.R_below (rf HO523.out BK501.out (by decide)) hb); replace HO528 := am (Kd.R_below (rf HO528.out BK501.out (by decide)) hb); replace BK486 := am (blk_below (bf NB486_501.out BK486.out) hb); replace BK487 := am (blk_below (bf NB487_501.out BK487.out) hb); replace BK488 := am (blk_below (bf NB488_501.out BK488.out) hb); replace BK495 := am (blk_below (bf NB495_501.out BK495.out) hb); replace BK501 := am (blk_below (g := gb501) (o := .cells #[.int .u64 t525, .slice Ao155 t526.length co155] 25 (0, 0)) (by (with_reducible repeat (first | refine blk_drewN ?_ _ | refine blk_drew ?_ | refine blk_alloc ?_ _)); refine blk_put (cs := #[.int .u64 t525, .slice Ao109 t515.length co109]) ?_ 1 _ rfl; (with_reducible repeat (first | refine blk_drewN ?_ _ | refine blk_drew ?_ | refine blk_alloc ?_ _)); refine blk_put (cs := #[.int .u64 t514, .slice Ao109 t515.length co109]) ?_ 0 _ rfl; (with_reducible repeat (first | refine blk_drewN ?_ _ | refine blk_drew ?_ | refine blk_alloc ?_ _)); exact BK501.out) hb); replace HB := am (below_step (by repeat (first | (with_reducible first | exact HB.out | apply below_alloc | apply pw_below_drewN | apply below_drew1 | refine below_set ?_ (Aside0.out (by assumption))) | exact HB.out)) hb); (try clear hb)))
                 go_meet
                 case rel => exact ⟨_, ((t524 != t529)), (by first | rfl | (simp; done) | (simp [*]; done)), H', ⟨by have := HJ6.out; have := HJ30.out; have := HJ91.out; first | omega | exact Nat.le_refl _⟩, ⟨by (with_reducible repeat (first | apply Kd.R_alloc | apply Kd.R_drewN | apply Kd.R_drew)); exact Kd.R_mono HO523.out (fun _ hk => hk.2)⟩, ⟨by (with_reducible repeat (first | apply Kd.R_alloc | apply Kd.R_drewN | apply Kd.R_drew)); exact Kd.R_mono HO528.out (fun _ hk => hk.2)⟩, ⟨bu BK486.out⟩, ⟨bu BK487.out⟩, ⟨bu BK488.out⟩, ⟨bu BK495.out⟩, ⟨bu BK501.out⟩, ⟨by repeat (first | (with_reducible first | exact HB.out | apply below_alloc | apply pw_below_drewN | apply below_drew1 | refine below_set ?_ (Aside0.out (by assumption))) | exact HB.out)⟩⟩
                ·
                 replace c157 := Bool.eq_false_iff.mpr c157
                 subst c157
                 have H1 : (j3 kj91 true a0_0 l0_1 a1_0 l1_1) = some r := by rw [if_neg (show ¬ (false = true) by decide)] at H; exact H
                 clear H
                 have H := H1
                 clear H1
                 exact (no_3 H).elim
              case rest =>
               as_aux_lemma =>
                clear HC135
                try clear c1; try clear c2; try clear p2; try clear c3; try clear c5; try clear c8; try clear c9; try clear c10; try clear c11; try clear c12; try clear c13; try clear c14; try clear c15; try clear c16; try clear c17; try clear c28; try clear c30; try clear c35; try clear c36; try clear c52; try clear c53; try clear c53b0; try clear c53b1; try clear c89; try clear c93; try clear c94; try clear c95; try clear c96; try clear c99; try clear c100; try clear c101; try clear c106; try clear c107; try clear c111; try clear c112; try clear c113; try clear c114; try clear c115; try clear c117; try clear c118; try clear c119; try clear c122; try clear c123; try clear c124; try clear c125; try clear c127; try clear c128; try clear c129; try clear c132; try clear c136; try clear c137; try clear c138; try clear c139; try clear c141; try clear c142; try clear c143; try clear c146; try clear c147; try clear c153; try clear c157; try clear c158; try clear c159; try clear c160; try clear c161; try clear c163; try clear c164; try clear c165; try clear c168; try clear c169; try clear c170; try clear c171; try clear c173; try clear c174; try clear c175; try clear hcz102_0; try clear hcz102_1; try clear hcz104_0; try clear hcz104_1; try clear hcz108_0; try clear hcz108_1; try clear hcz116_0; try clear hcz116_1; try clear hcz120_0; try clear hcz120_1; try clear hcz126_0; try clear hcz126_1; try clear hcz130_0; try clear hcz130_1; try clear hcz140_0; try clear hcz140_1; try clear hcz144_0; try clear hcz144_1; try clear hcz148_0; try clear hcz148_1; try clear hcz150_0; try clear hcz150_1; try clear hcz151_0; try clear hcz151_1; try clear hcz154_0; try clear hcz154_1; try clear hcz162_0; try clear hcz162_1; try clear hcz166_0; try clear hcz166_1; try clear hcz172_0; try clear hcz172_1; try clear hcz176_0; try clear hcz176_1; try clear hcz97_0; try clear hcz97_1; try clear hfz102_0; try clear hfz102_1; try clear hfz104_0; try clear hfz104_1; try clear hfz108_0; try clear hfz108_1; try clear hfz116_0; try clear hfz116_1; try clear hfz120_0; try clear hfz120_1; try clear hfz126_0; try clear hfz126_1; try clear hfz130_0; try clear hfz130_1; try clear hfz140_0; try clear hfz140_1; try clear hfz144_0; try clear hfz144_1; try clear hfz148_0; try clear hfz148_1; try clear hfz150_0; try clear hfz150_1; try clear hfz151_0; try clear hfz151_1; try clear hfz154_0; try clear hfz154_1; try clear hfz162_0; try clear hfz162_1; try clear hfz166_0; try clear hfz166_1; try clear hfz172_0; try clear hfz172_1; try clear hfz176_0; try clear hfz176_1; try clear hfz97_0; try clear hfz97_1; try clear p2
                obtain ⟨kq, x118_134, rfl, HA, HJ134, HO_496001, HO_502001, BK486, BK487, BK488, BK495, BK501, HB⟩ := hcut
                cases kq with
                | zero => exact absurd HA.out (by simp [j3])
                | succ kj134 =>
                 have H := HA.out
                 clear HA
                 simp only [j3] at H
                 by_cases c178 : x118_134 = true
                 ·
                  subst c178
                  have H1 : (none) = some r := by rw [if_pos rfl] at H; exact H
                  clear H
                  have H := H1
                  clear H1
                  exact absurd H (by simp)
                 ·
                  replace c178 := Bool.eq_false_iff.mpr c178
                  subst c178
                  have H1 : ((setops_Both.f a0_0 l0_1 a1_0 l1_1).bind fun bt531 => ((tallymanref17_Both.f kj134 a0_0 l0_1 a1_0 l1_1).bind fun bt536 => ((tallymankit_View.f kj134 bt531.1 bt531.2.1 bt536.1 bt536.2.1).bind fun t541 => (if t541 = true then (j4 kj134 (bt531.2.2 != bt536.2.2) a0_0 l0_1 a1_0 l1_1) else (j4 kj134 true a0_0 l0_1 a1_0 l1_1))))) = some r := by rw [if_neg (show ¬ (false = true) by decide)] at H; exact H
                  clear H
                  have H := H1
                  clear H1
                  replace H := Option.bind_eq_some_iff.mp H
                  obtain ⟨⟨t531, t532, t535⟩, A1790, H⟩ := H
                  replace H : ((tallymanref17_Both.f kj134 a0_0 l0_1 a1_0 l1_1).bind fun bt536 => ((tallymankit_View.f kj134 t531 t532 bt536.1 bt536.2.1).bind fun t541 => (if t541 = true then (j4 kj134 (t535 != bt536.2.2) a0_0 l0_1 a1_0 l1_1) else (j4 kj134 true a0_0 l0_1 a1_0 l1_1)))) = some r := H
                  have A179 := Aside0.mk A1790
                  clear A1790
                  replace H := Option.bind_eq_some_iff.mp H
                  obtain ⟨⟨t536, t537, t540⟩, A1800, H⟩ := H
                  replace H : ((tallymankit_View.f kj134 t531 t532 t536 t537).bind fun t541 => (if t541 = true then (j4 kj134 (t535 != t540) a0_0 l0_1 a1_0 l1_1) else (j4 kj134 true a0_0 l0_1 a1_0 l1_1))) = some r := H
                  have A180 := Aside0.mk A1800
                  clear A1800
                  have HC181 := Aside0.mk H
                  clear H
                  have hnb182 := NB486_487.out; have hnc182 := NB487_486.out; have hnb183 := NB486_488.out; have hnc183 := NB488_486.out; have hnb184 := NB486_495.out; have hnc184 := NB495_486.out; have hnb185 := NB486_501.out; have hnc185 := NB501_486.out; have hcz186_0 := ca BK486.out; have hcz186_1 := cb BK486.out; have hfz186_0 := blk_frozen BK486.out 0; have hfz186_1 := blk_frozen BK486.out 1; have hnb187 := NB487_488.out; have hnc187 := NB488_487.out; have hnb188 := NB487_495.out; have hnc188 := NB495_487.out; have hnb189 := NB487_501.out; have hnc189 := NB501_487.out; have hcz190_0 := ca BK487.out; have hcz190_1 := cb BK487.out; have hfz190_0 := blk_frozen BK487.out 0; have hfz190_1 := blk_frozen BK487.out 1
                  go_upto_region 19 with (first | ((with_reducible refine gate_callee (f := 18) rfl ?_); refine goesL_ (some 122) rfl rfl Try.func18 (by kernel_rfl) rfl #[.agg #[.int .u64 a0_0, .slice A0_1 l0_1.length c0_1], .agg #[.int .u64 a1_0, .slice A1_1 l1_1.length c1_1]] rfl (by (try simp only [List.map_toArray, List.map_cons, List.map_nil]); first | done | rfl | (simp only [List.length_drop, List.length_take]; rfl)) ?_; (with_reducible refine (setops_Both.calls a0_0 _ _ l0_1 a1_0 _ _ l1_1 t531 t532 t535 _ ?side1 ?side2 ?side3 ?side4 A179.out).mono ?_); (case side1 => exact cu (Kd.C_below HR0_1.out HB.out)); (case side2 => exact HC0_1.out); (case side3 => exact cu (Kd.C_below HR1_1.out HB.out)); (case side4 => exact HC1_1.out); rintro e w191 ⟨v533, rfl, ho0, hb⟩; refine ⟨_, rfl, ?_⟩; have HO534 := am (Kd.R_lower (Kd.R_new' (Kd.R_new' ho0 (Kd.R_lt (ru (HO_496001.out)))) (Kd.R_lt (ru (HO_502001.out)))) (below_size (by repeat (first | (with_reducible first | exact HB.out | apply below_alloc | apply pw_below_drewN | apply below_drew1 | refine below_set ?_ (Aside0.out (by assumption))) | exact HB.out)))); replace HO_496001 := am (Kd.R_elder' (ru (HO_496001.out)) (Kd.R_base ho0) hb); replace HO_502001 := am (Kd.R_elder' (ru (HO_502001.out)) (Kd.R_base ho0) hb); replace BK486 := bb BK486 hb; replace BK487 := bb BK487 hb; replace BK488 := bb BK488 hb; replace BK495 := bb BK495 hb; replace BK501 := bb BK501 hb; replace HB := am (below_step (by repeat (first | (with_reducible first | exact HB.out | apply below_alloc | apply pw_below_drewN | apply below_drew1 | refine below_set ?_ (Aside0.out (by assumption))) | exact HB.out)) hb); (try clear hb); (try clear ho0); have hnb192 := NB495_488.out; have hnc192 := NB488_495.out; have hnb193 := NB495_501.out; have hnc193 := NB501_495.out; have hcz194_0 := ca BK495.out; have hcz194_1 := cb BK495.out; have hfz194_0 := blk_frozen BK495.out 0; have hfz194_1 := blk_frozen BK495.out 1; obtain ⟨Ao195, co195, eo195⟩ := Kd.R_slice HO534.out; subst eo195; have hcz196_0 := ca BK486.out; have hcz196_1 := cb BK486.out; have hfz196_0 := blk_frozen BK486.out 0; have hfz196_1 := blk_frozen BK486.out 1; have hcz197_0 := ca BK487.out; have hcz197_1 := cb BK487.out; have hfz197_0 := blk_frozen BK487.out 0; have hfz197_1 := blk_frozen BK487.out 1) | ((with_reducible refine gate_callee (f := 37) rfl ?_); refine goesL_ (some 128) rfl rfl Try.func37 (by kernel_rfl) rfl #[.agg #[.int .u64 a0_0, .slice A0_1 l0_1.length c0_1], .agg #[.int .u64 a1_0, .slice A1_1 l1_1.length c1_1]] rfl (by (try simp only [List.map_toArray, List.map_cons, List.map_nil]); first | done | rfl | (simp only [List.length_drop, List.length_take]; rfl)) ?_; (with_reducible refine (tallymanref17_Both.calls kj134 a0_0 _ _ l0_1 a1_0 _ _ l1_1 t536 t537 t540 _ ?side1 ?side2 ?side3 ?side4 A180.out).mono ?_); (case side1 => exact Kd.C_below HR0_1.out (by repeat (first | (with_reducible first | exact HB.out | apply below_alloc | apply pw_below_drewN | apply below_drew1 | refine below_set ?_ (Aside0.out (by assumption))) | exact HB.out))); (case side2 => exact HC0_1.out); (case side3 => exact Kd.C_below HR1_1.out (by repeat (first | (with_reducible first | exact HB.out | apply below_alloc | apply pw_below_drewN | apply below_drew1 | refine below_set ?_ (Aside0.out (by assumption))) | exact HB.out))); (case side4 => exact HC1_1.out); rintro e w198 ⟨v538, rfl, ho0, hb⟩; refine ⟨_, rfl, ?_⟩; have HO539 := am (Kd.R_lower (Kd.R_new' (Kd.R_new' (Kd.R_new' ho0 (Kd.R_lt (rf HO_496001.out BK495.out (by decide)))) (Kd.R_lt (rf HO_502001.out BK495.out (by decide)))) (Kd.R_lt (rf HO534.out BK495.out (by decide)))) (below_size (by repeat (first | (with_reducible first | exact HB.out | apply below_alloc | apply pw_below_drewN | apply below_drew1 | refine below_set ?_ (Aside0.out (by assumption))) | exact HB.out)))); replace HO_496001 := am (Kd.R_elder' (rf HO_496001.out BK495.out (by decide)) (Kd.R_base ho0) hb); replace HO_502001 := am (Kd.R_elder' (rf HO_502001.out BK495.out (by decide)) (Kd.R_base ho0) hb); replace HO534 := am (Kd.R_elder' (rf HO534.out BK495.out (by decide)) (Kd.R_base ho0) hb); replace BK486 := am (blk_below (bf NB486_495.out BK486.out) hb); replace BK487 := am (blk_below (bf NB487_495.out BK487.out) hb); replace BK488 := am (blk_below (bf NB488_495.out BK488.out) hb); replace BK495 := am (blk_below (g := gb495) (o := .cells #[.int .u64 t531, .slice Ao195 t532.length co195] 25 (0, 0)) (by (with_reducible repeat (first | refine blk_drewN ?_ _ | refine blk_drew ?_ | refine blk_alloc ?_ _)); refine blk_put (cs := #[.int .u64 t531, .slice Ao149 t521.length co149]) ?_ 1 _ rfl; (with_reducible repeat (first | refine blk_drewN ?_ _ | refine blk_drew ?_ | refine blk_alloc ?_ _)); refine blk_put (cs := #[.int .u64 t520, .slice Ao149 t521.length co149]) ?_ 0 _ rfl; (with_reducible repeat (first | refine blk_drewN ?_ _ | refine blk_drew ?_ | refine blk_alloc ?_ _)); exact BK495.out) hb); replace BK501 := am (blk_below (bf NB501_495.out BK501.out) hb); replace HB := am (below_step (by repeat (first | (with_reducible first | exact HB.out | apply below_alloc | apply pw_below_drewN | apply below_drew1 | refine below_set ?_ (Aside0.out (by assumption))) | exact HB.out)) hb); (try clear hb); (try clear ho0); have hnb199 := NB501_488.out; have hnc199 := NB488_501.out; have hcz200_0 := ca BK501.out; have hcz200_1 := cb BK501.out; have hfz200_0 := blk_frozen BK501.out 0; have hfz200_1 := blk_frozen BK501.out 1; obtain ⟨Ao201, co201, eo201⟩ := Kd.R_slice HO539.out; subst eo201))
                  (try simp only [Act.put, List.setIfInBounds_toArray, List.set_cons_zero, List.set_cons_succ])
                  go_cut [139] (fun v139 wc => ∃ (kq : Nat) (x139_180 : Bool), v139 = .bool x139_180 ∧ Aside0 (j4 kq x139_180 a0_0 l0_1 a1_0 l1_1 = some r) ∧ Aside0 (kq ≤ kj134) ∧ Aside0 (Kd.R (Kd.int .u64) 22 wc w.heap.size (fun k_ => some k_ ≠ ((.slice Ao201 t537.length co201) : Value).ownBlock) (.slice Ao195 t532.length co195) t532) ∧ Aside0 (Kd.R (Kd.int .u64) 22 wc w.heap.size (fun k_ => some k_ ≠ ((.slice Ao195 t532.length co195) : Value).ownBlock) (.slice Ao201 t537.length co201) t537) ∧ Aside0 (wc.heap[gb486]? = some (.cells #[.int .u64 a0_0, (.slice A0_1 l0_1.length c0_1)] 25 (0, 0))) ∧ Aside0 (wc.heap[gb487]? = some (.cells #[.int .u64 a1_0, (.slice A1_1 l1_1.length c1_1)] 25 (0, 0))) ∧ Aside0 (wc.heap[gb488]? = some (.cells #[.int .i64 a2_0, (.slice A2_1 l2_1.length c2_1), .int .u64 a2_2] 34 (0, 0))) ∧ Aside0 (wc.heap[gb495]? = some (.cells #[.int .u64 t531, (.slice Ao195 t532.length co195)] 25 (0, 0))) ∧ Aside0 (wc.heap[gb501]? = some (.cells #[.int .u64 t536, (.slice Ao201 t537.length co201)] 25 (0, 0))) ∧ Aside0 (Below w.heap.size w wc))
                  case first =>
                   as_aux_lemma =>
                    have H := HC181.out
                    clear HC181
                    replace H := Option.bind_eq_some_iff.mp H
                    obtain ⟨t541, A2020, H⟩ := H
                    replace H : (if t541 = true then (j4 kj134 (t535 != t540) a0_0 l0_1 a1_0 l1_1) else (j4 kj134 true a0_0 l0_1 a1_0 l1_1)) = some r := H
                    have A202 := Aside0.mk A2020
                    clear A2020
                    by_cases c203 : t541 = true
                    ·
                     subst c203
                     have H1 : (j4 kj134 (t535 != t540) a0_0 l0_1 a1_0 l1_1) = some r := by rw [if_pos rfl] at H; exact H
                     clear H
                     have H := H1
                     clear H1
                     have H' := Aside0.mk H
                     clear H
                     have hnb204 := NB495_486.out; have hnc204 := NB486_495.out; have hnb205 := NB495_487.out; have hnc205 := NB487_495.out; have hnb206 := NB495_488.out; have hnc206 := NB488_495.out; have hnb207 := NB495_501.out; have hnc207 := NB501_495.out; have hcz208_0 := ca BK495.out; have hcz208_1 := cb BK495.out; have hfz208_0 := blk_frozen BK495.out 0; have hfz208_1 := blk_frozen BK495.out 1; have hnb209 := NB501_486.out; have hnc209 := NB486_501.out; have hnb210 := NB501_487.out; have hnc210 := NB487_501.out; have hnb211 := NB501_488.out; have hnc211 := NB488_501.out; have hcz212_0 := ca BK501.out; have hcz212_1 := cb BK501.out; have hfz212_0 := blk_frozen BK501.out 0; have hfz212_1 := blk_frozen BK501.out 1
                     go_wp2_with (first | ((with_reducible refine gate_callee (f := 30) rfl ?_); refine goesL_ (some 133) rfl rfl Try.func30 (by kernel_rfl) rfl #[.agg #[.int .u64 t531, .slice Ao195 t532.length co195], .agg #[.int .u64 t536, .slice Ao201 t537.length co201]] rfl (by (try simp only [List.map_toArray, List.map_cons, List.map_nil]); first | done | rfl | (simp only [List.length_drop, List.length_take]; rfl)) ?_; (with_reducible refine (tallymankit_View.calls kj134 t531 _ _ t532 t536 _ _ t537 true _ ?side1 ?side2 ?side3 ?side4 A202.out).mono ?_); (case side1 => refine (Kd.R_reads' (e := 22) (base := w.heap.size) (ok := fun k_ => (((True ∧ nb Ao149 t521.length co149 k_) ∧ nb Ao155 t526.length co155 k_) ∧ nb Ao201 t537.length co201 k_)) (n := t532.length) (c := co195) ?_).2.2; exact (rf HO534.out BK501.out (by decide))); (case side2 => exact (Kd.R_reads' HO534.out).2.1); (case side3 => refine (Kd.R_reads' (e := 22) (base := w.heap.size) (ok := fun k_ => (((True ∧ nb Ao149 t521.length co149 k_) ∧ nb Ao155 t526.length co155 k_) ∧ nb Ao195 t532.length co195 k_)) (n := t537.length) (c := co201) ?_).2.2; exact (rf HO539.out BK501.out (by decide))); (case side4 => exact (Kd.R_reads' HO539.out).2.1); rintro e w213 ⟨rfl, hb⟩; refine ⟨_, rfl, ?_⟩; replace HO_496001 := am (Kd.R_below (rf HO_496001.out BK501.out (by decide)) hb); replace HO_502001 := am (Kd.R_below (rf HO_502001.out BK501.out (by decide)) hb); replace HO534 := am (Kd.R_below (rf HO534.out BK501.out (by decide)) hb); replace HO539 := am (Kd.R_below (rf HO539.out BK501.out (by decide)) hb); replace BK486 := am (blk_below (bf NB486_501.out BK486.out) hb); replace BK487 := am (blk_below (bf NB487_501.out BK487.out) hb); replace BK488 := am (blk_below (bf NB488_501.out BK488.out) hb); replace BK495 := am (blk_below (bf NB495_501.out BK495.out) hb); replace BK501 := am (blk_below (g := gb501) (o := .cells #[.int .u64 t536, .slice Ao201 t537.length co201] 25 (0, 0)) (by (with_reducible repeat (first | refine blk_drewN ?_ _ | refine blk_drew ?_ | refine blk_alloc ?_ _)); refine blk_put (cs := #[.int .u64 t536, .slice Ao155 t526.length co155]) ?_ 1 _ rfl; (with_reducible repeat (first | refine blk_drewN ?_ _ | refine blk_drew ?_ | refine blk_alloc ?_ _)); refine blk_put (cs := #[.int .u64 t525, .slice Ao155 t526.length co155]) ?_ 0 _ rfl; (with_reducible repeat (first | refine blk_drewN ?_ _ | refine blk_drew ?_ | refine blk_alloc ?_ _)); exact BK501.out) hb); replace HB := am (below_step (by repeat (first | (with_reducible first | exact HB.out | apply below_alloc | apply pw_below_drewN | apply below_drew1 | refine below_set ?_ (Aside0.out (by assumption))) | exact HB.out)) hb); (try clear hb)))
                     go_meet
                     case rel => exact ⟨_, ((t535 != t540)), (by first | rfl | (simp; done) | (simp [*]; done)), H', ⟨by have := HJ6.out; have := HJ30.out; have := HJ91.out; have := HJ134.out; first | omega | exact Nat.le_refl _⟩, ⟨by (with_reducible repeat (first | apply Kd.R_alloc | apply Kd.R_drewN | apply Kd.R_drew)); exact Kd.R_mono HO534.out (fun _ hk => hk.2)⟩, ⟨by (with_reducible repeat (first | apply Kd.R_alloc | apply Kd.R_drewN | apply Kd.R_drew)); exact Kd.R_mono HO539.out (fun _ hk => hk.2)⟩, ⟨bu BK486.out⟩, ⟨bu BK487.out⟩, ⟨bu BK488.out⟩, ⟨bu BK495.out⟩, ⟨bu BK501.out⟩, ⟨by repeat (first | (with_reducible first | exact HB.out | apply below_alloc | apply pw_below_drewN | apply below_drew1 | refine below_set ?_ (Aside0.out (by assumption))) | exact HB.out)⟩⟩
                    ·
                     replace c203 := Bool.eq_false_iff.mpr c203
                     subst c203
                     have H1 : (j4 kj134 true a0_0 l0_1 a1_0 l1_1) = some r := by rw [if_neg (show ¬ (false = true) by decide)] at H; exact H
                     clear H
                     have H := H1
                     clear H1
                     exact (no_4 H).elim
                  case rest =>
                   as_aux_lemma =>
                    clear HC181
                    try clear c1; try clear c2; try clear p2; try clear c3; try clear c5; try clear c8; try clear c9; try clear c10; try clear c11; try clear c12; try clear c13; try clear c14; try clear c15; try clear c16; try clear c17; try clear c18; try clear c19; try clear c20; try clear c21; try clear c22; try clear c28; try clear c30; try clear c35; try clear c36; try clear c37; try clear c52; try clear c53; try clear c53b0; try clear c53b1; try clear c89; try clear c93; try clear c94; try clear c95; try clear c96; try clear c99; try clear c100; try clear c101; try clear c106; try clear c107; try clear c111; try clear c112; try clear c113; try clear c114; try clear c115; try clear c117; try clear c118; try clear c119; try clear c122; try clear c123; try clear c124; try clear c125; try clear c127; try clear c128; try clear c129; try clear c132; try clear c136; try clear c137; try clear c138; try clear c139; try clear c141; try clear c142; try clear c143; try clear c146; try clear c147; try clear c153; try clear c157; try clear c158; try clear c159; try clear c160; try clear c161; try clear c163; try clear c164; try clear c165; try clear c168; try clear c169; try clear c170; try clear c171; try clear c173; try clear c174; try clear c175; try clear c178; try clear c182; try clear c183; try clear c184; try clear c185; try clear c187; try clear c188; try clear c189; try clear c192; try clear c193; try clear c199; try clear c203; try clear c204; try clear c205; try clear c206; try clear c207; try clear c209; try clear c210; try clear c211; try clear c214; try clear c215; try clear c216; try clear c217; try clear c219; try clear c220; try clear c221; try clear hcz102_0; try clear hcz102_1; try clear hcz104_0; try clear hcz104_1; try clear hcz108_0; try clear hcz108_1; try clear hcz116_0; try clear hcz116_1; try clear hcz120_0; try clear hcz120_1; try clear hcz126_0; try clear hcz126_1; try clear hcz130_0; try clear hcz130_1; try clear hcz140_0; try clear hcz140_1; try clear hcz144_0; try clear hcz144_1; try clear hcz148_0; try clear hcz148_1; try clear hcz150_0; try clear hcz150_1; try clear hcz151_0; try clear hcz151_1; try clear hcz154_0; try clear hcz154_1; try clear hcz162_0; try clear hcz162_1; try clear hcz166_0; try clear hcz166_1; try clear hcz172_0; try clear hcz172_1; try clear hcz176_0; try clear hcz176_1; try clear hcz186_0; try clear hcz186_1; try clear hcz190_0; try clear hcz190_1; try clear hcz194_0; try clear hcz194_1; try clear hcz196_0; try clear hcz196_1; try clear hcz197_0; try clear hcz197_1; try clear hcz200_0; try clear hcz200_1; try clear hcz208_0; try clear hcz208_1; try clear hcz212_0; try clear hcz212_1; try clear hcz218_0; try clear hcz218_1; try clear hcz222_0; try clear hcz222_1; try clear hcz97_0; try clear hcz97_1; try clear hfz102_0; try clear hfz102_1; try clear hfz104_0; try clear hfz104_1; try clear hfz108_0; try clear hfz108_1; try clear hfz116_0; try clear hfz116_1; try clear hfz120_0; try clear hfz120_1; try clear hfz126_0; try clear hfz126_1; try clear hfz130_0; try clear hfz130_1; try clear hfz140_0; try clear hfz140_1; try clear hfz144_0; try clear hfz144_1; try clear hfz148_0; try clear hfz148_1; try clear hfz150_0; try clear hfz150_1; try clear hfz151_0; try clear hfz151_1; try clear hfz154_0; try clear hfz154_1; try clear hfz162_0; try clear hfz162_1; try clear hfz166_0; try clear hfz166_1; try clear hfz172_0; try clear hfz172_1; try clear hfz176_0; try clear hfz176_1; try clear hfz186_0; try clear hfz186_1; try clear hfz190_0; try clear hfz190_1; try clear hfz194_0; try clear hfz194_1; try clear hfz196_0; try clear hfz196_1; try clear hfz197_0; try clear hfz197_1; try clear hfz200_0; try clear hfz200_1; try clear hfz208_0; try clear hfz208_1; try clear hfz212_0; try clear hfz212_1; try clear hfz218_0; try clear hfz218_1; try clear hfz222_0; try clear hfz222_1; try clear hfz97_0; try clear hfz97_1; try clear p2
                    obtain ⟨kq, x139_180, rfl, HA, HJ180, HO_496001, HO_502001, BK486, BK487, BK488, BK495, BK501, HB⟩ := hcut
                    cases kq with
                    | zero => exact absurd HA.out (by simp [j4])
                    | succ kj180 =>
                     have H := HA.out
                     clear HA
                     simp only [j4] at H
                     by_cases c224 : x139_180 = true
                     ·
                      subst c224
                      have H1 : (none) = some r := by rw [if_pos rfl] at H; exact H
                      clear H
                      have H := H1
                      clear H1
                      exact absurd H (by simp)
                     ·
                      replace c224 := Bool.eq_false_iff.mpr c224
                      subst c224
                      have H1 : ((setops_Less.f a0_0 l0_1 a1_0 l1_1).bind fun bt542 => ((tallymanref17_Less.f kj180 a0_0 l0_1 a1_0 l1_1).bind fun bt547 => ((tallymankit_View.f kj180 bt542.1 bt542.2.1 bt547.1 bt547.2.1).bind fun t552 => (if t552 = true then (j5 kj180 (bt542.2.2 != bt547.2.2) a0_0 l0_1 a1_0 l1_1) else (j5 kj180 true a0_0 l0_1 a1_0 l1_1))))) = some r := by rw [if_neg (show ¬ (false = true) by decide)] at H; exact H
                      clear H
                      have H := H1
                      clear H1
                      replace H := Option.bind_eq_some_iff.mp H
                      obtain ⟨⟨t542, t543, t546⟩, A2250, H⟩ := H
                      replace H : ((tallymanref17_Less.f kj180 a0_0 l0_1 a1_0 l1_1).bind fun bt547 => ((tallymankit_View.f kj180 t542 t543 bt547.1 bt547.2.1).bind fun t552 => (if t552 = true then (j5 kj180 (t546 != bt547.2.2) a0_0 l0_1 a1_0 l1_1) else (j5 kj180 true a0_0 l0_1 a1_0 l1_1)))) = some r := H
                      have A225 := Aside0.mk A2250
                      clear A2250
                      replace H := Option.bind_eq_some_iff.mp H
                      obtain ⟨⟨t547, t548, t551⟩, A2260, H⟩ := H
                      replace H : ((tallymankit_View.f kj180 t542 t543 t547 t548).bind fun t552 => (if t552 = true then (j5 kj180 (t546 != t551) a0_0 l0_1 a1_0 l1_1) else (j5 kj180 true a0_0 l0_1 a1_0 l1_1))) = some r := H
                      have A226 := Aside0.mk A2260
                      clear A2260
                      have HC227 := Aside0.mk H
                      clear H
                      have hnb228 := NB486_487.out; have hnc228 := NB487_486.out; have hnb229 := NB486_488.out; have hnc229 := NB488_486.out; have hnb230 := NB486_495.out; have hnc230 := NB495_486.out; have hnb231 := NB486_501.out; have hnc231 := NB501_486.out; have hcz232_0 := ca BK486.out; have hcz232_1 := cb BK486.out; have hfz232_0 := blk_frozen BK486.out 0; have hfz232_1 := blk_frozen BK486.out 1; have hnb233 := NB487_488.out; have hnc233 := NB488_487.out; have hnb234 := NB487_495.out; have hnc234 := NB495_487.out; have hnb235 := NB487_501.out; have hnc235 := NB501_487.out; have hcz236_0 := ca BK487.out; have hcz236_1 := cb BK487.out; have hfz236_0 := blk_frozen BK487.out 0; have hfz236_1 := blk_frozen BK487.out 1
                      go_upto_region 23 with (first | ((with_reducible refine gate_callee (f := 19) rfl ?_); refine goesL_ (some 143) rfl rfl Try.func19 (by kernel_rfl) rfl #[.agg #[.int .u64 a0_0, .slice A0_1 l0_1.length c0_1], .agg #[.int .u64 a1_0, .slice A1_1 l1_1.length c1_1]] rfl (by (try simp only [List.map_toArray, List.map_cons, List.map_nil]); first | done | rfl | (simp only [List.length_drop, List.length_take]; rfl)) ?_; (with_reducible refine (setops_Less.calls a0_0 _ _ l0_1 a1_0 _ _ l1_1 t542 t543 t546 _ ?side1 ?side2 ?side3 ?side4 A225.out).mono ?_); (case side1 => exact cu (Kd.C_below HR0_1.out HB.out)); (case side2 => exact HC0_1.out); (case side3 => exact cu (Kd.C_below HR1_1.out HB.out)); (case side4 => exact HC1_1.out); rintro e w237 ⟨v544, rfl, ho0, hb⟩; refine ⟨_, rfl, ?_⟩; have HO545 := am (Kd.R_lower (Kd.R_new' (Kd.R_new' ho0 (Kd.R_lt (ru (HO_496001.out)))) (Kd.R_lt (ru (HO_502001.out)))) (below_size (by repeat (first | (with_reducible first | exact HB.out | apply below_alloc | apply pw_below_drewN | apply below_drew1 | refine below_set ?_ (Aside0.out (by assumption))) | exact HB.out)))); replace HO_496001 := am (Kd.R_elder' (ru (HO_496001.out)) (Kd.R_base ho0) hb); replace HO_502001 := am (Kd.R_elder' (ru (HO_502001.out)) (Kd.R_base ho0) hb); replace BK486 := bb BK486 hb; replace BK487 := bb BK487 hb; replace BK488 := bb BK488 hb; replace BK495 := bb BK495 hb; replace BK501 := bb BK501 hb; replace HB := am (below_step (by repeat (first | (with_reducible first | exact HB.out | apply below_alloc | apply pw_below_drewN | apply below_drew1 | refine below_set ?_ (Aside0.out (by assumption))) | exact HB.out)) hb); (try clear hb); (try clear ho0); have hnb238 := NB495_488.out; have hnc238 := NB488_495.out; have hnb239 := NB495_501.out; have hnc239 := NB501_495.out; have hcz240_0 := ca BK495.out; have hcz240_1 := cb BK495.out; have hfz240_0 := blk_frozen BK495.out 0; have hfz240_1 := blk_frozen BK495.out 1; obtain ⟨Ao241, co241, eo241⟩ := Kd.R_slice HO545.out; subst eo241; have hcz242_0 := ca BK486.out; have hcz242_1 := cb BK486.out; have hfz242_0 := blk_frozen BK486.out 0; have hfz242_1 := blk_frozen BK486.out 1; have hcz243_0 := ca BK487.out; have hcz243_1 := cb BK487.out; have hfz243_0 := blk_frozen BK487.out 0; have hfz243_1 := blk_frozen BK487.out 1) | ((with_reducible refine gate_callee (f := 38) rfl ?_); refine goesL_ (some 149) rfl rfl Try.func38 (by kernel_rfl) rfl #[.agg #[.int .u64 a0_0, .slice A0_1 l0_1.length c0_1], .agg #[.int .u64 a1_0, .slice A1_1 l1_1.length c1_1]] rfl (by (try simp only [List.map_toArray, List.map_cons, List.map_nil]); first | done | rfl | (simp only [List.length_drop, List.length_take]; rfl)) ?_; (with_reducible refine (tallymanref17_Less.calls kj180 a0_0 _ _ l0_1 a1_0 _ _ l1_1 t547 t548 t551 _ ?side1 ?side2 ?side3 ?side4 A226.out).mono ?_); (case side1 => exact Kd.C_below HR0_1.out (by repeat (first | (with_reducible first | exact HB.out | apply below_alloc | apply pw_below_drewN | apply below_drew1 | refine below_set ?_ (Aside0.out (by assumption))) | exact HB.out))); (case side2 => exact HC0_1.out); (case side3 => exact Kd.C_below HR1_1.out (by repeat (first | (with_reducible first | exact HB.out | apply below_alloc | apply pw_below_drewN | apply below_drew1 | refine below_set ?_ (Aside0.out (by assumption))) | exact HB.out))); (case side4 => exact HC1_1.out); rintro e w244 ⟨v549, rfl, ho0, hb⟩; refine ⟨_, rfl, ?_⟩; have HO550 := am (Kd.R_lower (Kd.R_new' (Kd.R_new' (Kd.R_new' ho0 (Kd.R_lt (rf HO_496001.out BK495.out (by decide)))) (Kd.R_lt (rf HO_502001.out BK495.out (by decide)))) (Kd.R_lt (rf HO545.out BK495.out (by decide)))) (below_size (by repeat (first | (with_reducible first | exact HB.out | apply below_alloc | apply pw_below_drewN | apply below_drew1 | refine below_set ?_ (Aside0.out (by assumption))) | exact HB.out)))); replace HO_496001 := am (Kd.R_elder' (rf HO_496001.out BK495.out (by decide)) (Kd.R_base ho0) hb); replace HO_502001 := am (Kd.R_elder' (rf HO_502001.out BK495.out (by decide)) (Kd.R_base ho0) hb); replace HO545 := am (Kd.R_elder' (rf HO545.out BK495.out (by decide)) (Kd.R_base ho0) hb); replace BK486 := am (blk_below (bf NB486_495.out BK486.out) hb); replace BK487 := am (blk_below (bf NB487_495.out BK487.out) hb); replace BK488 := am (blk_below (bf NB488_495.out BK488.out) hb); replace BK495 := am (blk_below (g := gb495) (o := .cells #[.int .u64 t542, .slice Ao241 t543.length co241] 25 (0, 0)) (by (with_reducible repeat (first | refine blk_drewN ?_ _ | refine blk_drew ?_ | refine blk_alloc ?_ _)); refine blk_put (cs := #[.int .u64 t542, .slice Ao195 t532.length co195]) ?_ 1 _ rfl; (with_reducible repeat (first | refine blk_drewN ?_ _ | refine blk_drew ?_ | refine blk_alloc ?_ _)); refine blk_put (cs := #[.int .u64 t531, .slice Ao195 t532.length co195]) ?_ 0 _ rfl; (with_reducible repeat (first | refine blk_drewN ?_ _ | refine blk_drew ?_ | refine blk_alloc ?_ _)); exact BK495.out) hb); replace BK501 := am (blk_below (bf NB501_495.out BK501.out) hb); replace HB := am (below_step (by repeat (first | (with_reducible first | exact HB.out | apply below_alloc | apply pw_below_drewN | apply below_drew1 | refine below_set ?_ (Aside0.out (by assumption))) | exact HB.out)) hb); (try clear hb); (try clear ho0); have hnb245 := NB501_488.out; have hnc245 := NB488_501.out; have hcz246_0 := ca BK501.out; have hcz246_1 := cb BK501.out; have hfz246_0 := blk_frozen BK501.out 0; have hfz246_1 := blk_frozen BK501.out 1; obtain ⟨Ao247, co247, eo247⟩ := Kd.R_slice HO550.out; subst eo247))
                      (try simp only [Act.put, List.setIfInBounds_toArray, List.set_cons_zero, List.set_cons_succ])
                      go_cut [160] (fun v160 wc => ∃ (kq : Nat) (x160_226 : Bool), v160 = .bool x160_226 ∧ Aside0 (j5 kq x160_226 a0_0 l0_1 a1_0 l1_1 = some r) ∧ Aside0 (kq ≤ kj180) ∧ Aside0 (Kd.R (Kd.int .u64) 22 wc w.heap.size (fun k_ => some k_ ≠ ((.slice Ao247 t548.length co247) : Value).ownBlock) (.slice Ao241 t543.length co241) t543) ∧ Aside0 (Kd.R (Kd.int .u64) 22 wc w.heap.size (fun k_ => some k_ ≠ ((.slice Ao241 t543.length co241) : Value).ownBlock) (.slice Ao247 t548.length co247) t548) ∧ Aside0 (wc.heap[gb486]? = some (.cells #[.int .u64 a0_0, (.slice A0_1 l0_1.length c0_1)] 25 (0, 0))) ∧ Aside0 (wc.heap[gb487]? = some (.cells #[.int .u64 a1_0, (.slice A1_1 l1_1.length c1_1)] 25 (0, 0))) ∧ Aside0 (wc.heap[gb488]? = some (.cells #[.int .i64 a2_0, (.slice A2_1 l2_1.length c2_1), .int .u64 a2_2] 34 (0, 0))) ∧ Aside0 (wc.heap[gb495]? = some (.cells #[.int .u64 t542, (.slice Ao241 t543.length co241)] 25 (0, 0))) ∧ Aside0 (wc.heap[gb501]? = some (.cells #[.int .u64 t547, (.slice Ao247 t548.length co247)] 25 (0, 0))) ∧ Aside0 (Below w.heap.size w wc))
                      case first =>
                       as_aux_lemma =>
                        have H := HC227.out
                        clear HC227
                        replace H := Option.bind_eq_some_iff.mp H
                        obtain ⟨t552, A2480, H⟩ := H
                        replace H : (if t552 = true then (j5 kj180 (t546 != t551) a0_0 l0_1 a1_0 l1_1) else (j5 kj180 true a0_0 l0_1 a1_0 l1_1)) = some r := H
                        have A248 := Aside0.mk A2480
                        clear A2480
                        by_cases c249 : t552 = true
                        ·
                         subst c249
                         have H1 : (j5 kj180 (t546 != t551) a0_0 l0_1 a1_0 l1_1) = some r := by rw [if_pos rfl] at H; exact H
                         clear H
                         have H := H1
                         clear H1
                         have H' := Aside0.mk H
                         clear H
                         have hnb250 := NB495_486.out; have hnc250 := NB486_495.out; have hnb251 := NB495_487.out; have hnc251 := NB487_495.out; have hnb252 := NB495_488.out; have hnc252 := NB488_495.out; have hnb253 := NB495_501.out; have hnc253 := NB501_495.out; have hcz254_0 := ca BK495.out; have hcz254_1 := cb BK495.out; have hfz254_0 := blk_frozen BK495.out 0; have hfz254_1 := blk_frozen BK495.out 1; have hnb255 := NB501_486.out; have hnc255 := NB486_501.out; have hnb256 := NB501_487.out; have hnc256 := NB487_501.out; have hnb257 := NB501_488.out; have hnc257 := NB488_501.out; have hcz258_0 := ca BK501.out; have hcz258_1 := cb BK501.out; have hfz258_0 := blk_frozen BK501.out 0; have hfz258_1 := blk_frozen BK501.out 1
                         go_wp2_with (first | ((with_reducible refine gate_callee (f := 30) rfl ?_); refine goesL_ (some 154) rfl rfl Try.func30 (by kernel_rfl) rfl #[.agg #[.int .u64 t542, .slice Ao241 t543.length co241], .agg #[.int .u64 t547, .slice Ao247 t548.length co247]] rfl (by (try simp only [List.map_toArray, List.map_cons, List.map_nil]); first | done | rfl | (simp only [List.length_drop, List.length_take]; rfl)) ?_; (with_reducible refine (tallymankit_View.calls kj180 t542 _ _ t543 t547 _ _ t548 true _ ?side1 ?side2 ?side3 ?side4 A248.out).mono ?_); (case side1 => refine (Kd.R_reads' (e := 22) (base := w.heap.size) (ok := fun k_ => (((True ∧ nb Ao195 t532.length co195 k_) ∧ nb Ao201 t537.length co201 k_) ∧ nb Ao247 t548.length co247 k_)) (n := t543.length) (c := co241) ?_).2.2; exact (rf HO545.out BK501.out (by decide))); (case side2 => exact (Kd.R_reads' HO545.out).2.1); (case side3 => refine (Kd.R_reads' (e := 22) (base := w.heap.size) (ok := fun k_ => (((True ∧ nb Ao195 t532.length co195 k_) ∧ nb Ao201 t537.length co201 k_) ∧ nb Ao241 t543.length co241 k_)) (n := t548.length) (c := co247) ?_).2.2; exact (rf HO550.out BK501.out (by decide))); (case side4 => exact (Kd.R_reads' HO550.out).2.1); rintro e w259 ⟨rfl, hb⟩; refine ⟨_, rfl, ?_⟩; replace HO_496001 := am (Kd.R_below (rf HO_496001.out BK501.out (by decide)) hb); replace HO_502001 := am (Kd.R_below (rf HO_502001.out BK501.out (by decide)) hb); replace HO545 := am (Kd.R_below (rf HO545.out BK501.out (by decide)) hb); replace HO550 := am (Kd.R_below (rf HO550.out BK501.out (by decide)) hb); replace BK486 := am (blk_below (bf NB486_501.out BK486.out) hb); replace BK487 := am (blk_below (bf NB487_501.out BK487.out) hb); replace BK488 := am (blk_below (bf NB488_501.out BK488.out) hb); replace BK495 := am (blk_below (bf NB495_501.out BK495.out) hb); replace BK501 := am (blk_below (g := gb501) (o := .cells #[.int .u64 t547, .slice Ao247 t548.length co247] 25 (0, 0)) (by (with_reducible repeat (first | refine blk_drewN ?_ _ | refine blk_drew ?_ | refine blk_alloc ?_ _)); refine blk_put (cs := #[.int .u64 t547, .slice Ao201 t537.length co201]) ?_ 1 _ rfl; (with_reducible repeat (first | refine blk_drewN ?_ _ | refine blk_drew ?_ | refine blk_alloc ?_ _)); refine blk_put (cs := #[.int .u64 t536, .slice Ao201 t537.length co201]) ?_ 0 _ rfl; (with_reducible repeat (first | refine blk_drewN ?_ _ | refine blk_drew ?_ | refine blk_alloc ?_ _)); exact BK501.out) hb); replace HB := am (below_step (by repeat (first | (with_reducible first | exact HB.out | apply below_alloc | apply pw_below_drewN | apply below_drew1 | refine below_set ?_ (Aside0.out (by assumption))) | exact HB.out)) hb); (try clear hb)))
                         go_meet
                         case rel => exact ⟨_, ((t546 != t551)), (by first | rfl | (simp; done) | (simp [*]; done)), H', ⟨by have := HJ6.out; have := HJ30.out; have := HJ91.out; have := HJ134.out; have := HJ180.out; first | omega | exact Nat.le_refl _⟩, ⟨by (with_reducible repeat (first | apply Kd.R_alloc | apply Kd.R_drewN | apply Kd.R_drew)); exact Kd.R_mono HO545.out (fun _ hk => hk.2)⟩, ⟨by (with_reducible repeat (first | apply Kd.R_alloc | apply Kd.R_drewN | apply Kd.R_drew)); exact Kd.R_mono HO550.out (fun _ hk => hk.2)⟩, ⟨bu BK486.out⟩, ⟨bu BK487.out⟩, ⟨bu BK488.out⟩, ⟨bu BK495.out⟩, ⟨bu BK501.out⟩, ⟨by repeat (first | (with_reducible first | exact HB.out | apply below_alloc | apply pw_below_drewN | apply below_drew1 | refine below_set ?_ (Aside0.out (by assumption))) | exact HB.out)⟩⟩
                        ·
                         replace c249 := Bool.eq_false_iff.mpr c249
                         subst c249
                         have H1 : (j5 kj180 true a0_0 l0_1 a1_0 l1_1) = some r := by rw [if_neg (show ¬ (false = true) by decide)] at H; exact H
                         clear H
                         have H := H1
                         clear H1
                         exact (no_5 H).elim
                      case rest =>
                       as_aux_lemma =>
                        clear HC227
                        try clear c1; try clear c2; try clear p2; try clear c3; try clear c5; try clear c8; try clear c9; try clear c10; try clear c11; try clear c12; try clear c13; try clear c14; try clear c15; try clear c16; try clear c17; try clear c18; try clear c19; try clear c20; try clear c21; try clear c22; try clear c23; try clear c24; try clear c25; try clear c26; try clear c28; try clear c30; try clear c35; try clear c36; try clear c37; try clear c38; try clear c52; try clear c53; try clear c53b0; try clear c53b1; try clear c89; try clear c93; try clear c94; try clear c95; try clear c96; try clear c99; try clear c100; try clear c101; try clear c106; try clear c107; try clear c111; try clear c112; try clear c113; try clear c114; try clear c115; try clear c117; try clear c118; try clear c119; try clear c122; try clear c123; try clear c124; try clear c125; try clear c127; try clear c128; try clear c129; try clear c132; try clear c136; try clear c137; try clear c138; try clear c139; try clear c141; try clear c142; try clear c143; try clear c146; try clear c147; try clear c153; try clear c157; try clear c158; try clear c159; try clear c160; try clear c161; try clear c163; try clear c164; try clear c165; try clear c168; try clear c169; try clear c170; try clear c171; try clear c173; try clear c174; try clear c175; try clear c178; try clear c182; try clear c183; try clear c184; try clear c185; try clear c187; try clear c188; try clear c189; try clear c192; try clear c193; try clear c199; try clear c203; try clear c204; try clear c205; try clear c206; try clear c207; try clear c209; try clear c210; try clear c211; try clear c214; try clear c215; try clear c216; try clear c217; try clear c219; try clear c220; try clear c221; try clear c224; try clear c228; try clear c229; try clear c230; try clear c231; try clear c233; try clear c234; try clear c235; try clear c238; try clear c239; try clear c245; try clear c249; try clear c250; try clear c251; try clear c252; try clear c253; try clear c255; try clear c256; try clear c257; try clear c260; try clear c261; try clear c262; try clear c263; try clear c265; try clear c266; try clear c267; try clear hcz102_0; try clear hcz102_1; try clear hcz104_0; try clear hcz104_1; try clear hcz108_0; try clear hcz108_1; try clear hcz116_0; try clear hcz116_1; try clear hcz120_0; try clear hcz120_1; try clear hcz126_0; try clear hcz126_1; try clear hcz130_0; try clear hcz130_1; try clear hcz140_0; try clear hcz140_1; try clear hcz144_0; try clear hcz144_1; try clear hcz148_0; try clear hcz148_1; try clear hcz150_0; try clear hcz150_1; try clear hcz151_0; try clear hcz151_1; try clear hcz154_0; try clear hcz154_1; try clear hcz162_0; try clear hcz162_1; try clear hcz166_0; try clear hcz166_1; try clear hcz172_0; try clear hcz172_1; try clear hcz176_0; try clear hcz176_1; try clear hcz186_0; try clear hcz186_1; try clear hcz190_0; try clear hcz190_1; try clear hcz194_0; try clear hcz194_1; try clear hcz196_0; try clear hcz196_1; try clear hcz197_0; try clear hcz197_1; try clear hcz200_0; try clear hcz200_1; try clear hcz208_0; try clear hcz208_1; try clear hcz212_0; try clear hcz212_1; try clear hcz218_0; try clear hcz218_1; try clear hcz222_0; try clear hcz222_1; try clear hcz232_0; try clear hcz232_1; try clear hcz236_0; try clear hcz236_1; try clear hcz240_0; try clear hcz240_1; try clear hcz242_0; try clear hcz242_1; try clear hcz243_0; try clear hcz243_1; try clear hcz246_0; try clear hcz246_1; try clear hcz254_0; try clear hcz254_1; try clear hcz258_0; try clear hcz258_1; try clear hcz264_0; try clear hcz264_1; try clear hcz268_0; try clear hcz268_1; try clear hcz97_0; try clear hcz97_1; try clear hfz102_0; try clear hfz102_1; try clear hfz104_0; try clear hfz104_1; try clear hfz108_0; try clear hfz108_1; try clear hfz116_0; try clear hfz116_1; try clear hfz120_0; try clear hfz120_1; try clear hfz126_0; try clear hfz126_1; try clear hfz130_0; try clear hfz130_1; try clear hfz140_0; try clear hfz140_1; try clear hfz144_0; try clear hfz144_1; try clear hfz148_0; try clear hfz148_1; try clear hfz150_0; try clear hfz150_1; try clear hfz151_0; try clear hfz151_1; try clear hfz154_0; try clear hfz154_1; try clear hfz162_0; try clear hfz162_1; try clear hfz166_0; try clear hfz166_1; try clear hfz172_0; try clear hfz172_1; try clear hfz176_0; try clear hfz176_1; try clear hfz186_0; try clear hfz186_1; try clear hfz190_0; try clear hfz190_1; try clear hfz194_0; try clear hfz194_1; try clear hfz196_0; try clear hfz196_1; try clear hfz197_0; try clear hfz197_1; try clear hfz200_0; try clear hfz200_1; try clear hfz208_0; try clear hfz208_1; try clear hfz212_0; try clear hfz212_1; try clear hfz218_0; try clear hfz218_1; try clear hfz222_0; try clear hfz222_1; try clear hfz232_0; try clear hfz232_1; try clear hfz236_0; try clear hfz236_1; try clear hfz240_0; try clear hfz240_1; try clear hfz242_0; try clear hfz242_1; try clear hfz243_0; try clear hfz243_1; try clear hfz246_0; try clear hfz246_1; try clear hfz254_0; try clear hfz254_1; try clear hfz258_0; try clear hfz258_1; try clear hfz264_0; try clear hfz264_1; try clear hfz268_0; try clear hfz268_1; try clear hfz97_0; try clear hfz97_1; try clear p2
                        obtain ⟨kq, x160_226, rfl, HA, HJ226, HO_496001, HO_502001, BK486, BK487, BK488, BK495, BK501, HB⟩ := hcut
                        cases kq with
                        | zero => exact absurd HA.out (by simp [j5])
                        | succ kj226 =>
                         have H := HA.out
                         clear HA
                         simp only [j5] at H
                         by_cases c270 : x160_226 = true
                         ·
                          subst c270
                          have H1 : (none) = some r := by rw [if_pos rfl] at H; exact H
                          clear H
                          have H := H1
                          clear H1
                          exact absurd H (by simp)
                         ·
                          replace c270 := Bool.eq_false_iff.mpr c270
                          subst c270
                          have H1 : ((setops_One.f a0_0 l0_1 a1_0 l1_1).bind fun bt553 => ((tallymanref17_One.f kj226 a0_0 l0_1 a1_0 l1_1).bind fun bt558 => ((setops_Like.f a0_0 l0_1 a1_0 l1_1).bind fun bt563 => ((tallymanref17_Like.f kj226 a0_0 l0_1 a1_0 l1_1).bind fun bt565 => ((tallymankit_View.f kj226 bt553.1 bt553.2.1 bt558.1 bt558.2.1).bind fun t567 => (if t567 = true then (if bt553.2.2 = bt558.2.2 then (if bt563.1 = bt565.1 then (some (bt563.2 == bt565.2)) else (none)) else (none)) else (none))))))) = some r := by rw [if_neg (show ¬ (false = true) by decide)] at H; exact H
                          clear H
                          have H := H1
                          clear H1
                          replace H := Option.bind_eq_some_iff.mp H
                          obtain ⟨⟨t553, t554, t557⟩, A2710, H⟩ := H
                          replace H : ((tallymanref17_One.f kj226 a0_0 l0_1 a1_0 l1_1).bind fun bt558 => ((setops_Like.f a0_0 l0_1 a1_0 l1_1).bind fun bt563 => ((tallymanref17_Like.f kj226 a0_0 l0_1 a1_0 l1_1).bind fun bt565 => ((tallymankit_View.f kj226 t553 t554 bt558.1 bt558.2.1).bind fun t567 => (if t567 = true then (if t557 = bt558.2.2 then (if bt563.1 = bt565.1 then (some (bt563.2 == bt565.2)) else (none)) else (none)) else (none)))))) = some r := H
                          have A271 := Aside0.mk A2710
                          clear A2710
                          replace H := Option.bind_eq_some_iff.mp H
                          obtain ⟨⟨t558, t559, t562⟩, A2720, H⟩ := H
                          replace H : ((setops_Like.f a0_0 l0_1 a1_0 l1_1).bind fun bt563 => ((tallymanref17_Like.f kj226 a0_0 l0_1 a1_0 l1_1).bind fun bt565 => ((tallymankit_View.f kj226 t553 t554 t558 t559).bind fun t567 => (if t567 = true then (if t557 = t562 then (if bt563.1 = bt565.1 then (some (bt563.2 == bt565.2)) else (none)) else (none)) else (none))))) = some r := H
                          have A272 := Aside0.mk A2720
                          clear A2720
                          replace H := Option.bind_eq_some_iff.mp H
                          obtain ⟨⟨t563, t564⟩, A2730, H⟩ := H
                          replace H : ((tallymanref17_Like.f kj226 a0_0 l0_1 a1_0 l1_1).bind fun bt565 => ((tallymankit_View.f kj226 t553 t554 t558 t559).bind fun t567 => (if t567 = true then (if t557 = t562 then (if t563 = bt565.1 then (some (t564 == bt565.2)) else (none)) else (none)) else (none)))) = some r := H
                          have A273 := Aside0.mk A2730
                          clear A2730
                          replace H := Option.bind_eq_some_iff.mp H
                          obtain ⟨⟨t565, t566⟩, A2740, H⟩ := H
                          replace H : ((tallymankit_View.f kj226 t553 t554 t558 t559).bind fun t567 => (if t567 = true then (if t557 = t562 then (if t563 = t565 then (some (t564 == t566)) else (none)) else (none)) else (none))) = some r := H
                          have A274 := Aside0.mk A2740
                          clear A2740
                          replace H := Option.bind_eq_some_iff.mp H
                          obtain ⟨t567, A2750, H⟩ := H
                          replace H : (if t567 = true then (if t557 = t562 then (if t563 = t565 then (some (t564 == t566)) else (none)) else (none)) else (none)) = some r := H
                          have A275 := Aside0.mk A2750
                          clear A2750
                          by_cases c276 : t567 = true
                          ·
                           subst c276
                           have H1 : (if t557 = t562 then (if t563 = t565 then (some (t564 == t566)) else (none)) else (none)) = some r := by rw [if_pos rfl] at H; exact H
                           clear H
                           have H := H1
                           clear H1
                           by_cases c277 : t557 = t562
                           ·
                            rw [if_pos c277] at H
                            have c277b0 : (t557 == t562) = true := beq_iff_eq.mpr c277
                            have c277b1 : (t557 != t562) = false := bne_eq_false_iff_eq.mpr c277
                            clear c277
                            by_cases c278 : t563 = t565
                            ·
                             rw [if_pos c278] at H
                             have c278b0 : (t563 == t565) = true := beq_iff_eq.mpr c278
                             have c278b1 : (t563 != t565) = false := bne_eq_false_iff_eq.mpr c278
                             clear c278
                             obtain rfl := Option.some.inj H
                             have hnb279 := NB486_487.out; have hnc279 := NB487_486.out; have hnb280 := NB486_488.out; have hnc280 := NB488_486.out; have hnb281 := NB486_495.out; have hnc281 := NB495_486.out; have hnb282 := NB486_501.out; have hnc282 := NB501_486.out; have hcz283_0 := ca BK486.out; have hcz283_1 := cb BK486.out; have hfz283_0 := blk_frozen BK486.out 0; have hfz283_1 := blk_frozen BK486.out 1; have hnb284 := NB487_488.out; have hnc284 := NB488_487.out; have hnb285 := NB487_495.out; have hnc285 := NB495_487.out; have hnb286 := NB487_501.out; have hnc286 := NB501_487.out; have hcz287_0 := ca BK487.out; have hcz287_1 := cb BK487.out; have hfz287_0 := blk_frozen BK487.out 0; have hfz287_1 := blk_frozen BK487.out 1
                             go_wp2_with (first | ((with_reducible refine gate_callee (f := 20) rfl ?_); refine goesL_ (some 164) rfl rfl Try.func20 (by kernel_rfl) rfl #[.agg #[.int .u64 a0_0, .slice A0_1 l0_1.length c0_1], .agg #[.int .u64 a1_0, .slice A1_1 l1_1.length c1_1]] rfl (by (try simp only [List.map_toArray, List.map_cons, List.map_nil]); first | done | rfl | (simp only [List.length_drop, List.length_take]; rfl)) ?_; (with_reducible refine (setops_One.calls a0_0 _ _ l0_1 a1_0 _ _ l1_1 t553 t554 t557 _ ?side1 ?side2 ?side3 ?side4 A271.out).mono ?_); (case side1 => exact cu (Kd.C_below HR0_1.out HB.out)); (case side2 => exact HC0_1.out); (case side3 => exact cu (Kd.C_below HR1_1.out HB.out)); (case side4 => exact HC1_1.out); rintro e w288 ⟨v555, rfl, ho0, hb⟩; refine ⟨_, rfl, ?_⟩; have HO556 := am (Kd.R_lower (Kd.R_new' (Kd.R_new' ho0 (Kd.R_lt (ru (HO_496001.out)))) (Kd.R_lt (ru (HO_502001.out)))) (below_size (by repeat (first | (with_reducible first | exact HB.out | apply below_alloc | apply pw_below_drewN | apply below_drew1 | refine below_set ?_ (Aside0.out (by assumption))) | exact HB.out)))); replace HO_496001 := am (Kd.R_elder' (ru (HO_496001.out)) (Kd.R_base ho0) hb); replace HO_502001 := am (Kd.R_elder' (ru (HO_502001.out)) (Kd.R_base ho0) hb); replace BK486 := bb BK486 hb; replace BK487 := bb BK487 hb; replace BK488 := bb BK488 hb; replace BK495 := bb BK495 hb; replace BK501 := bb BK501 hb; replace HB := am (below_step (by repeat (first | (with_reducible first | exact HB.out | apply below_alloc | apply pw_below_drewN | apply below_drew1 | refine below_set ?_ (Aside0.out (by assumption))) | exact HB.out)) hb); (try clear hb); (try clear ho0); have hnb289 := NB495_488.out; have hnc289 := NB488_495.out; have hnb290 := NB495_501.out; have hnc290 := NB501_495.out; have hcz291_0 := ca BK495.out; have hcz291_1 := cb BK495.out; have hfz291_0 := blk_frozen BK495.out 0; have hfz291_1 := blk_frozen BK495.out 1; obtain ⟨Ao292, co292, eo292⟩ := Kd.R_slice HO556.out; subst eo292; have hcz293_0 := ca BK486.out; have hcz293_1 := cb BK486.out; have hfz293_0 := blk_frozen BK486.out 0; have hfz293_1 := blk_frozen BK486.out 1; have hcz294_0 := ca BK487.out; have hcz294_1 := cb BK487.out; have hfz294_0 := blk_frozen BK487.out 0; have hfz294_1 := blk_frozen BK487.out 1) | ((with_reducible refine gate_callee (f := 39) rfl ?_); refine goesL_ (some 170) rfl rfl Try.func39 (by kernel_rfl) rfl #[.agg #[.int .u64 a0_0, .slice A0_1 l0_1.length c0_1], .agg #[.int .u64 a1_0, .slice A1_1 l1_1.length c1_1]] rfl (by (try simp only [List.map_toArray, List.map_cons, List.map_nil]); first | done | rfl | (simp only [List.length_drop, List.length_take]; rfl)) ?_; (with_reducible refine (tallymanref17_One.calls kj226 a0_0 _ _ l0_1 a1_0 _ _ l1_1 t558 t559 t562 _ ?side1 ?side2 ?side3 ?side4 A272.out).mono ?_); (case side1 => exact Kd.C_below HR0_1.out (by repeat (first | (with_reducible first | exact HB.out | apply below_alloc | apply pw_below_drewN | apply below_drew1 | refine below_set ?_ (Aside0.out (by assumption))) | exact HB.out))); (case side2 => exact HC0_1.out); (case side3 => exact Kd.C_below HR1_1.out (by repeat (first | (with_reducible first | exact HB.out | apply below_alloc | apply pw_below_drewN | apply below_drew1 | refine below_set ?_ (Aside0.out (by assumption))) | exact HB.out))); (case side4 => exact HC1_1.out); rintro e w295 ⟨v560, rfl, ho0, hb⟩; refine ⟨_, rfl, ?_⟩; have HO561 := am (Kd.R_lower (Kd.R_new' (Kd.R_new' (Kd.R_new' ho0 (Kd.R_lt (rf HO_496001.out BK495.out (by decide)))) (Kd.R_lt (rf HO_502001.out BK495.out (by decide)))) (Kd.R_lt (rf HO556.out BK495.out (by decide)))) (below_size (by repeat (first | (with_reducible first | exact HB.out | apply below_alloc | apply pw_below_drewN | apply below_drew1 | refine below_set ?_ (Aside0.out (by assumption))) | exact HB.out)))); replace HO_496001 := am (Kd.R_elder' (rf HO_496001.out BK495.out (by decide)) (Kd.R_base ho0) hb); replace HO_502001 := am (Kd.R_elder' (rf HO_502001.out BK495.out (by decide)) (Kd.R_base ho0) hb); replace HO556 := am (Kd.R_elder' (rf HO556.out BK495.out (by decide)) (Kd.R_base ho0) hb); replace BK486 := am (blk_below (bf NB486_495.out BK486.out) hb); replace BK487 := am (blk_below (bf NB487_495.out BK487.out) hb); replace BK488 := am (blk_below (bf NB488_495.out BK488.out) hb); replace BK495 := am (blk_below (g := gb495) (o := .cells #[.int .u64 t553, .slice Ao292 t554.length co292] 25 (0, 0)) (by (with_reducible repeat (first | refine blk_drewN ?_ _ | refine blk_drew ?_ | refine blk_alloc ?_ _)); refine blk_put (cs := #[.int .u64 t553, .slice Ao241 t543.length co241]) ?_ 1 _ rfl; (with_reducible repeat (first | refine blk_drewN ?_ _ | refine blk_drew ?_ | refine blk_alloc ?_ _)); refine blk_put (cs := #[.int .u64 t542, .slice Ao241 t543.length co241]) ?_ 0 _ rfl; (with_reducible repeat (first | refine blk_drewN ?_ _ | refine blk_drew ?_ | refine blk_alloc ?_ _)); exact BK495.out) hb); replace BK501 := am (blk_below (bf NB501_495.out BK501.out) hb); replace HB := am (below_step (by repeat (first | (with_reducible first | exact HB.out | apply below_alloc | apply pw_below_drewN | apply below_drew1 | refine below_set ?_ (Aside0.out (by assumption))) | exact HB.out)) hb); (try clear hb); (try clear ho0); have hnb296 := NB501_488.out; have hnc296 := NB488_501.out; have hcz297_0 := ca BK501.out; have hcz297_1 := cb BK501.out; have hfz297_0 := blk_frozen BK501.out 0; have hfz297_1 := blk_frozen BK501.out 1; obtain ⟨Ao298, co298, eo298⟩ := Kd.R_slice HO561.out; subst eo298; have hcz299_0 := ca BK486.out; have hcz299_1 := cb BK486.out; have hfz299_0 := blk_frozen BK486.out 0; have hfz299_1 := blk_frozen BK486.out 1; have hcz300_0 := ca BK487.out; have hcz300_1 := cb BK487.out; have hfz300_0 := blk_frozen BK487.out 0; have hfz300_1 := blk_frozen BK487.out 1) | ((with_reducible refine gate_callee (f := 27) rfl ?_); refine goesL_ (some 176) rfl rfl Try.func27 (by kernel_rfl) rfl #[.agg #[.int .u64 a0_0, .slice A0_1 l0_1.length c0_1], .agg #[.int .u64 a1_0, .slice A1_1 l1_1.length c1_1]] rfl (by (try simp only [List.map_toArray, List.map_cons, List.map_nil]); first | done | rfl | (simp only [List.length_drop, List.length_take]; rfl)) ?_; (with_reducible refine (setops_Like.calls a0_0 _ _ l0_1 a1_0 _ _ l1_1 t563 t564 _ ?side1 ?side2 ?side3 ?side4 A273.out).mono ?_); (case side1 => exact Kd.C_below HR0_1.out (by repeat (first | (with_reducible first | exact HB.out | apply below_alloc | apply pw_below_drewN | apply below_drew1 | refine below_set ?_ (Aside0.out (by assumption))) | exact HB.out))); (case side2 => exact HC0_1.out); (case side3 => exact Kd.C_below HR1_1.out (by repeat (first | (with_reducible first | exact HB.out | apply below_alloc | apply pw_below_drewN | apply below_drew1 | refine below_set ?_ (Aside0.out (by assumption))) | exact HB.out))); (case side4 => exact HC1_1.out); rintro e w301 ⟨rfl, hb⟩; refine ⟨_, rfl, ?_⟩; replace HO_496001 := am (Kd.R_below (rf HO_496001.out BK501.out (by decide)) hb); replace HO_502001 := am (Kd.R_below (rf HO_502001.out BK501.out (by decide)) hb); replace HO556 := am (Kd.R_below (rf HO556.out BK501.out (by decide)) hb); replace HO561 := am (Kd.R_below (rf HO561.out BK501.out (by decide)) hb); replace BK486 := am (blk_below (bf NB486_501.out BK486.out) hb); replace BK487 := am (blk_below (bf NB487_501.out BK487.out) hb); replace BK488 := am (blk_below (bf NB488_501.out BK488.out) hb); replace BK495 := am (blk_below (bf NB495_501.out BK495.out) hb); replace BK501 := am (blk_below (g := gb501) (o := .cells #[.int .u64 t558, .slice Ao298 t559.length co298] 25 (0, 0)) (by (with_reducible repeat (first | refine blk_drewN ?_ _ | refine blk_drew ?_ | refine blk_alloc ?_ _)); refine blk_put (cs := #[.int .u64 t558, .slice Ao247 t548.length co247]) ?_ 1 _ rfl; (with_reducible repeat (first | refine blk_drewN ?_ _ | refine blk_drew ?_ | refine blk_alloc ?_ _)); refine blk_put (cs := #[.int .u64 t547, .slice Ao247 t548.length co247]) ?_ 0 _ rfl; (with_reducible repeat (first | refine blk_drewN ?_ _ | refine blk_drew ?_ | refine blk_alloc ?_ _)); exact BK501.out) hb); replace HB := am (below_step (by repeat (first | (with_reducible first | exact HB.out | apply below_alloc | apply pw_below_drewN | apply below_drew1 | refine below_set ?_ (Aside0.out (by assumption))) | exact HB.out)) hb); (try clear hb); have hcz302_0 := ca BK486.out; have hcz302_1 := cb BK486.out; have hfz302_0 := blk_frozen BK486.out 0; have hfz302_1 := blk_frozen BK486.out 1; have hcz303_0 := ca BK487.out; have hcz303_1 := cb BK487.out; have hfz303_0 := blk_frozen BK487.out 0; have hfz303_1 := blk_frozen BK487.out 1) | ((with_reducible refine gate_callee (f := 40) rfl ?_); refine goesL_ (some 182) rfl rfl Try.func40 (by kernel_rfl) rfl #[.agg #[.int .u64 a0_0, .slice A0_1 l0_1.length c0_1], .agg #[.int .u64 a1_0, .slice A1_1 l1_1.length c1_1]] rfl (by (try simp only [List.map_toArray, List.map_cons, List.map_nil]); first | done | rfl | (simp only [List.length_drop, List.length_take]; rfl)) ?_; (with_reducible refine (tallymanref17_Like.calls kj226 a0_0 _ _ l0_1 a1_0 _ _ l1_1 t565 t566 _ ?side1 ?side2 ?side3 ?side4 A274.out).mono ?_); (case side1 => exact cu (Kd.C_below HR0_1.out HB.out)); (case side2 => exact HC0_1.out); (case side3 => exact cu (Kd.C_below HR1_1.out HB.out)); (case side4 => exact HC1_1.out); rintro e w304 ⟨rfl, hb⟩; refine ⟨_, rfl, ?_⟩; replace HO_496001 := rb HO_496001 hb; replace HO_502001 := rb HO_502001 hb; replace HO556 := rb HO556 hb; replace HO561 := rb HO561 hb; replace BK486 := bb BK486 hb; replace BK487 := bb BK487 hb; replace BK488 := bb BK488 hb; replace BK495 := bb BK495 hb; replace BK501 := bb BK501 hb; replace HB := am (below_step (by repeat (first | (with_reducible first | exact HB.out | apply below_alloc | apply pw_below_drewN | apply below_drew1 | refine below_set ?_ (Aside0.out (by assumption))) | exact HB.out)) hb); (try clear hb); have hcz305_0 := ca BK495.out; have hcz305_1 := cb BK495.out; have hfz305_0 := blk_frozen BK495.out 0; have hfz305_1 := blk_frozen BK495.out 1; have hcz306_0 := ca BK501.out; have hcz306_1 := cb BK501.out; have hfz306_0 := blk_frozen BK501.out 0; have hfz306_1 := blk_frozen BK501.out 1) | ((with_reducible refine gate_callee (f := 30) rfl ?_); refine goesL_ (some 187) rfl rfl Try.func30 (by kernel_rfl) rfl #[.agg #[.int .u64 t553, .slice Ao292 t554.length co292], .agg #[.int .u64 t558, .slice Ao298 t559.length co298]] rfl (by (try simp only [List.map_toArray, List.map_cons, List.map_nil]); first | done | rfl | (simp only [List.length_drop, List.length_take]; rfl)) ?_; (with_reducible refine (tallymankit_View.calls kj226 t553 _ _ t554 t558 _ _ t559 true _ ?side1 ?side2 ?side3 ?side4 A275.out).mono ?_); (case side1 => repeat (first | exact (Kd.R_reads' HO556.out).2.2 | (with_reducible refine Kd.C_alloc ?_ _) | (with_reducible refine Kd.C_drewN ?_ _) | (with_reducible refine Kd.C_drew ?_))); (case side2 => exact (Kd.R_reads' HO556.out).2.1); (case side3 => repeat (first | exact (Kd.R_reads' HO561.out).2.2 | (with_reducible refine Kd.C_alloc ?_ _) | (with_reducible refine Kd.C_drewN ?_ _) | (with_reducible refine Kd.C_drew ?_))); (case side4 => exact (Kd.R_reads' HO561.out).2.1); rintro e w307 ⟨rfl, hb⟩; refine ⟨_, rfl, ?_⟩; replace HO_496001 := rb HO_496001 hb; replace HO_502001 := rb HO_502001 hb; replace HO556 := rb HO556 hb; replace HO561 := rb HO561 hb; replace BK486 := bb BK486 hb; replace BK487 := bb BK487 hb; replace BK488 := bb BK488 hb; replace BK495 := bb BK495 hb; replace BK501 := bb BK501 hb; replace HB := am (below_step (by repeat (first | (with_reducible first | exact HB.out | apply below_alloc | apply pw_below_drewN | apply below_drew1 | refine below_set ?_ (Aside0.out (by assumption))) | exact HB.out)) hb); (try clear hb)))
                             go_ret
                             exact ⟨by first | rfl | (simp [errW_none, errW_some] <;> rfl) | (simp [*, errW_none, errW_some] <;> rfl), by repeat (first | (with_reducible first | exact HB.out | apply below_alloc | apply pw_below_drewN | apply below_drew1 | refine below_set ?_ (Aside0.out (by assumption))) | exact HB.out)⟩
                            ·
                             rw [if_neg c278] at H
                             exact absurd H (by simp)
                           ·
                            rw [if_neg c277] at H
                            exact absurd H (by simp)
                          ·
                           replace c276 := Bool.eq_false_iff.mpr c276
                           subst c276
                           have H1 : (none) = some r := by rw [if_neg (show ¬ (false = true) by decide)] at H; exact H
                           clear H
                           have H := H1
                           clear H1
                           exact absurd H (by simp)
 ·
  replace c6 := Bool.eq_false_iff.mpr c6
  subst c6
  have H1 : (none) = some r := by rw [if_neg (show ¬ (false = true) by decide)] at H; exact H
  clear H
  have H := H1
  clear H1
  exact absurd H (by simp)

end Go.Proofs.Ytpagondojdlknaa.H
