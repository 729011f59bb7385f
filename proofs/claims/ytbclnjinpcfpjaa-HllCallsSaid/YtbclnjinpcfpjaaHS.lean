-- Made by this session's own call of the printer (functions that are proved by hand are taken from a text beside it).
import Derived.Test.YtbclnjinpcfpjaaZ3
import Derived.Test.YtbclnjinpcfpjaaHR
import Derived.Test.YtbclnjinpcfpjaaZ2
import Derived.Test.YtbclnjinpcfpjaaH0
import Derived.Test.YtbclnjinpcfpjaaH2
import Derived.Test.YtbclnjinpcfpjaaH4
import Derived.Test.YtbclnjinpcfpjaaH5
import Derived.Test.YtbclnjinpcfpjaaH6
import Derived.Test.YtbclnjinpcfpjaaH8
import Derived.Test.YtbclnjinpcfpjaaH11
import Derived.Test.YtbclnjinpcfpjaaH13
import Derived.Test.YtbclnjinpcfpjaaH14
import Derived.Test.YtbclnjinpcfpjaaH15
import Derived.Test.YtbclnjinpcfpjaaH16
import Derived.Test.YtbclnjinpcfpjaaH17
import Derived.Test.YtbclnjinpcfpjaaH18
import Derived.Test.YtbclnjinpcfpjaaH19
namespace Go.Proofs.Ytbclnjinpcfpjaa.H
open Go.RowKit Go.Proofs.YtbclnjinpcfpjaaW.PrintWords Go.Proofs.YtbclnjinpcfpjaaW.PrintLast Go.Proofs.YtbclnjinpcfpjaaW.PrintMore
attribute [local go_sem] max2_int min2_int max_two min_two max_three min_three max_four min_four   -- for this text's walks alone
open tallymanlaw14_HllCalls
set_option linter.unusedVariables false
set_option linter.unusedSimpArgs false

theorem no_1 {k : Nat} {x0 : List Int} {x1 : Int} {x3 : Int} {x4 : List (S32)} {x5 : Int} {x6 : List (S32)} {r : Bool} (H : tallymanlaw14_HllCalls.j1 k x0 x1 true x3 x4 x5 x6 = some r) : False := by
 cases k with
 | zero => simp [tallymanlaw14_HllCalls.j1] at H
 | succ k => simp [tallymanlaw14_HllCalls.j1] at H
theorem no_2 {k : Nat} {x0 : List Int} {x1 : Int} {x3 : Int} {x4 : List (S32)} {r : Bool} (H : tallymanlaw14_HllCalls.j2 k x0 x1 true x3 x4 = some r) : False := by
 cases k with
 | zero => simp [tallymanlaw14_HllCalls.j2] at H
 | succ k => simp [tallymanlaw14_HllCalls.j2] at H
theorem no_3 {k : Nat} {x0 : List Int} {x1 : Int} {x3 : Int} {x4 : List (S32)} {r : Bool} (H : tallymanlaw14_HllCalls.j3 k x0 x1 true x3 x4 = some r) : False := by
 cases k with
 | zero => simp [tallymanlaw14_HllCalls.j3] at H
 | succ k => simp [tallymanlaw14_HllCalls.j3] at H
set_option maxHeartbeats 40000000 in
set_option maxRecDepth 100000 in
theorem tallymanlaw14_HllCalls.calls (k : Nat) (a0_0 : Int) (A0_1 : Option Addr) (c0_1 : Nat) (l0_1 : List (S32)) (a1_0 : Int) (A1_1 : Option Addr) (c1_1 : Nat) (l1_1 : List (S32)) (A2 : Option Addr) (c2 : Nat) (l2 : List Int) (a3 : Int) (a4 : Int) (r : Bool) (w : World) (hr0_1 : Kd.C k32 w A0_1 l0_1.length l0_1) (hc0_1 : l0_1.length ≤ c0_1) (hr1_1 : Kd.C k32 w A1_1 l1_1.length l1_1) (hc1_1 : l1_1.length ≤ c1_1) (hr2 : Kd.C (Kd.int .u64) w A2 l2.length l2) (hc2 : l2.length ≤ c2) (h : tallymanlaw14_HllCalls.f k a0_0 l0_1 a1_0 l1_1 l2 a3 a4 = some r) :
  Calls Try.prog 12 #[.agg #[.int .i64 a0_0, .slice A0_1 l0_1.length c0_1], .agg #[.int .i64 a1_0, .slice A1_1 l1_1.length c1_1], .slice A2 l2.length c2, .int .i64 a3, .int .i64 a4] w fun e w' => e = .returned (.bool r) ∧ Below w.heap.size w w' := by
 have hu30 := Try.underlying30
 have HR0_1 := Aside0.mk hr0_1
 have HC0_1 := Aside0.mk hc0_1
 clear hr0_1 hc0_1
 have HR1_1 := Aside0.mk hr1_1
 have HC1_1 := Aside0.mk hc1_1
 clear hr1_1 hc1_1
 have HR2 := Aside0.mk hr2
 have HC2 := Aside0.mk hc2
 clear hr2 hc2
 have HB := am (Below.refl w.heap.size w)
 have H : ((tallymanlaw14_lives.f k).bind fun t648 => (if t648 = true then (if (l0_1.length : Int) > 300 then (j0 k l2 a3 a4 true a0_0 l0_1 a1_0 l1_1) else (if (l1_1.length : Int) > 300 then (j0 k l2 a3 a4 true a0_0 l0_1 a1_0 l1_1) else (j0 k l2 a3 a4 (decide ((l2.length : Int) > 300)) a0_0 l0_1 a1_0 l1_1))) else (none))) = some r := h
 clear h
 replace H := Option.bind_eq_some_iff.mp H
 obtain ⟨t648, A60, H⟩ := H
 replace H : (if t648 = true then (if (l0_1.length : Int) > 300 then (j0 k l2 a3 a4 true a0_0 l0_1 a1_0 l1_1) else (if (l1_1.length : Int) > 300 then (j0 k l2 a3 a4 true a0_0 l0_1 a1_0 l1_1) else (j0 k l2 a3 a4 (decide ((l2.length : Int) > 300)) a0_0 l0_1 a1_0 l1_1))) else (none)) = some r := H
 have A6 := Aside0.mk A60
 clear A60
 by_cases c7 : t648 = true
 ·
  subst c7
  have H1 : (if (l0_1.length : Int) > 300 then (j0 k l2 a3 a4 true a0_0 l0_1 a1_0 l1_1) else (if (l1_1.length : Int) > 300 then (j0 k l2 a3 a4 true a0_0 l0_1 a1_0 l1_1) else (j0 k l2 a3 a4 (decide ((l2.length : Int) > 300)) a0_0 l0_1 a1_0 l1_1))) = some r := by rw [if_pos rfl] at H; exact H
  clear H
  have H := H1
  clear H1
  have HC8 := Aside0.mk H
  clear H
  go_enter Try.func12, Try.ntmps12
  go_upto_region 3 with (first | ((with_reducible refine gate_dst (N := 5) rfl ?_); (try (refine gate_guard (by rfl) ?_; dsimp only)); refine box_event ?hg (N := 5) ?hd (cs := #[.int .i64 a0_0, .slice A0_1 l0_1.length c0_1]) (t := 30) ?hr ?_; (case hd => rfl); (case hg => rfl); (case hr => first | (go_simp; done) | (go_simp; rfl)); intro gb646 hg w9 hbox hb; obtain ⟨HBn, GW646⟩ := tri hg hb (hu HB.out); have GE646 := GW646; have BK646 := am (hbox); clear HB; have HB := HBn; clear HBn; clear hb hbox hg) | ((with_reducible refine gate_dst (N := 6) rfl ?_); (try (refine gate_guard (by rfl) ?_; dsimp only)); refine box_event ?hg (N := 6) ?hd (cs := #[.int .i64 a1_0, .slice A1_1 l1_1.length c1_1]) (t := 30) ?hr ?_; (case hd => rfl); (case hg => rfl); (case hr => first | (go_simp; done) | (go_simp; rfl)); intro gb647 hg w10 hbox hb; obtain ⟨HBn, GW647⟩ := tri hg hb (by repeat (first | (with_reducible first | exact HB.out | apply below_alloc | apply pw_below_drewN | apply below_drew1 | refine below_set ?_ (Aside0.out (by assumption))) | exact HB.out)); have GE647 := GW647; have BK647 := am (hbox); have NB646_647 := nl hg (bu BK646.out); have NB647_646 := nr hg (bu BK646.out); replace BK646 := bb BK646 hb; clear HB; have HB := HBn; clear HBn; clear hb hbox hg) | ((with_reducible refine gate_callee (f := 23) rfl ?_); refine goesL_ (some 26) rfl rfl Try.func23 (by kernel_rfl) rfl #[] rfl (by (try simp only [List.map_toArray, List.map_cons, List.map_nil]); first | done | rfl | (simp only [List.length_drop, List.length_take]; rfl)) ?_; (with_reducible refine (tallymanlaw14_lives.calls k  true _ A6.out).mono ?_); rintro e w11 ⟨rfl, hb⟩; refine ⟨_, rfl, ?_⟩; replace BK646 := bb BK646 hb; replace BK647 := bb BK647 hb; replace HB := am (below_step (by repeat (first | (with_reducible first | exact HB.out | apply below_alloc | apply pw_below_drewN | apply below_drew1 | refine below_set ?_ (Aside0.out (by assumption))) | exact HB.out)) hb); (try clear hb)))
  (try simp only [Act.put, List.setIfInBounds_toArray, List.set_cons_zero, List.set_cons_succ])
  go_cut [42] (fun v42 wc => ∃ (kq : Nat) (x42_7 : Bool), v42 = .bool x42_7 ∧ Aside0 (j0 kq l2 a3 a4 x42_7 a0_0 l0_1 a1_0 l1_1 = some r) ∧ Aside0 (kq ≤ k) ∧ Aside0 (wc.heap[gb646]? = some (.cells #[.int .i64 a0_0, (.slice A0_1 l0_1.length c0_1)] 30 (0, 0))) ∧ Aside0 (wc.heap[gb647]? = some (.cells #[.int .i64 a1_0, (.slice A1_1 l1_1.length c1_1)] 30 (0, 0))) ∧ Aside0 (Below w.heap.size w wc))
  case first =>
   as_aux_lemma =>
    have H := HC8.out
    clear HC8
    by_cases c12 : (l0_1.length : Int) > 300
    ·
     rw [if_pos c12] at H
     have c12b0 : decide (300 < (l0_1.length : Int)) = true := decide_eq_true c12
     have c12b1 : decide (300 < l0_1.length) = true := decide_eq_true (by omega)
     clear c12
     (first | rw [c12b0] | (simp only [i64_w, i32_w]; rw [c12b0]) | skip)
     have H' := Aside0.mk H
     clear H
     have hnb13 := NB646_647.out
     have hnc13 := NB647_646.out
     have hcz14_0 := ca BK646.out
     have hcz14_1 := cb BK646.out
     have hfz14_0 := blk_frozen BK646.out 0
     have hfz14_1 := blk_frozen BK646.out 1
     go_wp2
     go_meet
     case rel => exact ⟨_, (true), (by first | rfl | (simp; done) | (simp [*]; done)), H', ⟨by first | omega | exact Nat.le_refl _⟩, ⟨bu BK646.out⟩, ⟨bu BK647.out⟩, ⟨by repeat (first | (with_reducible first | exact HB.out | apply below_alloc | apply pw_below_drewN | apply below_drew1 | refine below_set ?_ (Aside0.out (by assumption))) | exact HB.out)⟩⟩
    ·
     rw [if_neg c12] at H
     have c12b0 : decide (300 < (l0_1.length : Int)) = false := decide_eq_false c12
     have c12b1 : decide (300 < l0_1.length) = false := decide_eq_false (by omega)
     clear c12
     (first | rw [c12b0] | (simp only [i64_w, i32_w]; rw [c12b0]) | skip)
     by_cases c15 : (l1_1.length : Int) > 300
     ·
      rw [if_pos c15] at H
      have c15b0 : decide (300 < (l1_1.length : Int)) = true := decide_eq_true c15
      have c15b1 : decide (300 < l1_1.length) = true := decide_eq_true (by omega)
      clear c15
      have H' := Aside0.mk H
      clear H
      have hnb16 := NB646_647.out
      have hnc16 := NB647_646.out
      have hcz17_0 := ca BK646.out
      have hcz17_1 := cb BK646.out
      have hfz17_0 := blk_frozen BK646.out 0
      have hfz17_1 := blk_frozen BK646.out 1
      have hcz18_0 := ca BK647.out
      have hcz18_1 := cb BK647.out
      have hfz18_0 := blk_frozen BK647.out 0
      have hfz18_1 := blk_frozen BK647.out 1
      go_wp2
      go_meet
      case rel => exact ⟨_, (true), (by first | rfl | (simp; done) | (simp [*]; done)), H', ⟨by first | omega | exact Nat.le_refl _⟩, ⟨bu BK646.out⟩, ⟨bu BK647.out⟩, ⟨by repeat (first | (with_reducible first | exact HB.out | apply below_alloc | apply pw_below_drewN | apply below_drew1 | refine below_set ?_ (Aside0.out (by assumption))) | exact HB.out)⟩⟩
     ·
      rw [if_neg c15] at H
      have c15b0 : decide (300 < (l1_1.length : Int)) = false := decide_eq_false c15
      have c15b1 : decide (300 < l1_1.length) = false := decide_eq_false (by omega)
      clear c15
      have H' := Aside0.mk H
      clear H
      have hnb19 := NB646_647.out
      have hnc19 := NB647_646.out
      have hcz20_0 := ca BK646.out
      have hcz20_1 := cb BK646.out
      have hfz20_0 := blk_frozen BK646.out 0
      have hfz20_1 := blk_frozen BK646.out 1
      have hcz21_0 := ca BK647.out
      have hcz21_1 := cb BK647.out
      have hfz21_0 := blk_frozen BK647.out 0
      have hfz21_1 := blk_frozen BK647.out 1
      go_wp2
      go_meet
      case rel => exact ⟨_, (decide ((l2.length : Int) > 300)), (by first | rfl | (simp; done) | (simp [*]; done)), H', ⟨by first | omega | exact Nat.le_refl _⟩, ⟨bu BK646.out⟩, ⟨bu BK647.out⟩, ⟨by repeat (first | (with_reducible first | exact HB.out | apply below_alloc | apply pw_below_drewN | apply below_drew1 | refine below_set ?_ (Aside0.out (by assumption))) | exact HB.out)⟩⟩
  case rest =>
   as_aux_lemma =>
    clear HC8
    try clear c1; try clear c2; try clear p2; try clear c7; try clear c12; try clear c12b0; try clear c12b1; try clear c13; try clear c15; try clear c15b0; try clear c15b1; try clear c16; try clear c19; try clear hcz14_0; try clear hcz14_1; try clear hcz17_0; try clear hcz17_1; try clear hcz18_0; try clear hcz18_1; try clear hcz20_0; try clear hcz20_1; try clear hcz21_0; try clear hcz21_1; try clear hfz14_0; try clear hfz14_1; try clear hfz17_0; try clear hfz17_1; try clear hfz18_0; try clear hfz18_1; try clear hfz20_0; try clear hfz20_1; try clear hfz21_0; try clear hfz21_1
    obtain ⟨kq, x42_7, rfl, HA, HJ7, BK646, BK647, HB⟩ := hcut
    cases kq with
    | zero => exact absurd HA.out (by simp [j0])
    | succ kj7 =>
     have H := HA.out
     clear HA
     simp only [j0] at H
     by_cases c22 : x42_7 = true
     ·
      subst c22
      have H1 : (some true) = some r := by rw [if_pos rfl] at H; exact H
      clear H
      have H := H1
      clear H1
      obtain rfl := Option.some.inj H
      go_wp2
      go_ret
      exact ⟨by first | rfl | (simp [errW_none, errW_some] <;> rfl) | (simp [*, errW_none, errW_some] <;> rfl), by repeat (first | (with_reducible first | exact HB.out | apply below_alloc | apply pw_below_drewN | apply below_drew1 | refine below_set ?_ (Aside0.out (by assumption))) | exact HB.out)⟩
     ·
      replace c22 := Bool.eq_false_iff.mpr c22
      subst c22
      have H1 : ((hll_AddAll.f kj7 a0_0 l0_1 l2).bind fun bt649 => ((tallymanref14_AddAll.f kj7 a0_0 l0_1 l2).bind fun bt655 => ((tallymankit_Hll.f kj7 bt649.1 bt649.2.1 bt655.1 bt655.2.1).bind fun t661 => (if t661 = true then (if bt649.2.2 = bt655.2.2 then ((hll_Check.f kj7 a0_0 l0_1).bind fun t662 => ((tallymanref14_Check.f kj7 a0_0 l0_1).bind fun t663 => (if t662 = t663 then ((hll_Get.f kj7 a0_0 l0_1 a4).bind fun t664 => ((tallymanref14_Get.f kj7 a0_0 l0_1 a4).bind fun t665 => (if t664 = t665 then ((hll_Zeros.f kj7 a0_0 l0_1).bind fun t666 => ((tallymanref14_Zeros.f kj7 a0_0 l0_1).bind fun t667 => (if t666 = t667 then ((hll_Same.f kj7 a0_0 l0_1 a1_0 l1_1).bind fun t668 => ((tallymankit_Hll.f kj7 a0_0 l0_1 a1_0 l1_1).bind fun t669 => (j1 kj7 l2 a3 (t668 != t669) a0_0 l0_1 a1_0 l1_1))) else (j1 kj7 l2 a3 true a0_0 l0_1 a1_0 l1_1)))) else (j1 kj7 l2 a3 true a0_0 l0_1 a1_0 l1_1)))) else (j1 kj7 l2 a3 true a0_0 l0_1 a1_0 l1_1)))) else (j1 kj7 l2 a3 true a0_0 l0_1 a1_0 l1_1)) else (j1 kj7 l2 a3 true a0_0 l0_1 a1_0 l1_1))))) = some r := by rw [if_neg (show ¬ (false = true) by decide)] at H; exact H
      clear H
      have H := H1
      clear H1
      replace H := Option.bind_eq_some_iff.mp H
      obtain ⟨⟨t649, t650, t653⟩, A230, H⟩ := H
      replace H : ((tallymanref14_AddAll.f kj7 a0_0 l0_1 l2).bind fun bt655 => ((tallymankit_Hll.f kj7 t649 t650 bt655.1 bt655.2.1).bind fun t661 => (if t661 = true then (if t653 = bt655.2.2 then ((hll_Check.f kj7 a0_0 l0_1).bind fun t662 => ((tallymanref14_Check.f kj7 a0_0 l0_1).bind fun t663 => (if t662 = t663 then ((hll_Get.f kj7 a0_0 l0_1 a4).bind fun t664 => ((tallymanref14_Get.f kj7 a0_0 l0_1 a4).bind fun t665 => (if t664 = t665 then ((hll_Zeros.f kj7 a0_0 l0_1).bind fun t666 => ((tallymanref14_Zeros.f kj7 a0_0 l0_1).bind fun t667 => (if t666 = t667 then ((hll_Same.f kj7 a0_0 l0_1 a1_0 l1_1).bind fun t668 => ((tallymankit_Hll.f kj7 a0_0 l0_1 a1_0 l1_1).bind fun t669 => (j1 kj7 l2 a3 (t668 != t669) a0_0 l0_1 a1_0 l1_1))) else (j1 kj7 l2 a3 true a0_0 l0_1 a1_0 l1_1)))) else (j1 kj7 l2 a3 true a0_0 l0_1 a1_0 l1_1)))) else (j1 kj7 l2 a3 true a0_0 l0_1 a1_0 l1_1)))) else (j1 kj7 l2 a3 true a0_0 l0_1 a1_0 l1_1)) else (j1 kj7 l2 a3 true a0_0 l0_1 a1_0 l1_1)))) = some r := H
      have A23 := Aside0.mk A230
      clear A230
      replace H := Option.bind_eq_some_iff.mp H
      obtain ⟨⟨t655, t656, t659⟩, A240, H⟩ := H
      replace H : ((tallymankit_Hll.f kj7 t649 t650 t655 t656).bind fun t661 => (if t661 = true then (if t653 = t659 then ((hll_Check.f kj7 a0_0 l0_1).bind fun t662 => ((tallymanref14_Check.f kj7 a0_0 l0_1).bind fun t663 => (if t662 = t663 then ((hll_Get.f kj7 a0_0 l0_1 a4).bind fun t664 => ((tallymanref14_Get.f kj7 a0_0 l0_1 a4).bind fun t665 => (if t664 = t665 then ((hll_Zeros.f kj7 a0_0 l0_1).bind fun t666 => ((tallymanref14_Zeros.f kj7 a0_0 l0_1).bind fun t667 => (if t666 = t667 then ((hll_Same.f kj7 a0_0 l0_1 a1_0 l1_1).bind fun t668 => ((tallymankit_Hll.f kj7 a0_0 l0_1 a1_0 l1_1).bind fun t669 => (j1 kj7 l2 a3 (t668 != t669) a0_0 l0_1 a1_0 l1_1))) else (j1 kj7 l2 a3 true a0_0 l0_1 a1_0 l1_1)))) else (j1 kj7 l2 a3 true a0_0 l0_1 a1_0 l1_1)))) else (j1 kj7 l2 a3 true a0_0 l0_1 a1_0 l1_1)))) else (j1 kj7 l2 a3 true a0_0 l0_1 a1_0 l1_1)) else (j1 kj7 l2 a3 true a0_0 l0_1 a1_0 l1_1))) = some r := H
      have A24 := Aside0.mk A240
      clear A240
      have HC25 := Aside0.mk H
      clear H
      have hnb26 := NB646_647.out
      have hnc26 := NB647_646.out
      have hcz27_0 := ca BK646.out
      have hcz27_1 := cb BK646.out
      have hfz27_0 := blk_frozen BK646.out 0
      have hfz27_1 := blk_frozen BK646.out 1
      go_upto_region 7 with (first | ((with_reducible refine gate_callee (f := 25) rfl ?_); refine goesL_ (some 46) rfl rfl Try.func25 (by kernel_rfl) rfl #[.agg #[.int .i64 a0_0, .slice A0_1 l0_1.length c0_1], .slice A2 l2.length c2] rfl (by (try simp only [List.map_toArray, List.map_cons, List.map_nil]); first | done | rfl | (simp only [List.length_drop, List.length_take]; rfl)) ?_; (with_reducible refine (hll_AddAll.calls kj7 a0_0 _ _ l0_1 _ _ l2 t649 t650 t653 _ ?side1 ?side2 ?side3 ?side4 A23.out).mono ?_); (case side1 => exact cu (Kd.C_below HR0_1.out HB.out)); (case side2 => exact HC0_1.out); (case side3 => exact cu (Kd.C_below HR2.out HB.out)); (case side4 => exact HC2.out); rintro e w28 ⟨v651, rfl, ho0, hb⟩; refine ⟨_, rfl, ?_⟩; have HO652 := am (Kd.R_lower ho0 (below_size (by repeat (first | (with_reducible first | exact HB.out | apply below_alloc | apply pw_below_drewN | apply below_drew1 | refine below_set ?_ (Aside0.out (by assumption))) | exact HB.out)))); replace BK646 := bb BK646 hb; replace BK647 := bb BK647 hb; replace HB := am (below_step (by repeat (first | (with_reducible first | exact HB.out | apply below_alloc | apply pw_below_drewN | apply below_drew1 | refine below_set ?_ (Aside0.out (by assumption))) | exact HB.out)) hb); (try clear hb); (try clear ho0)) | ((with_reducible refine gate_dst (N := 11) rfl ?_); (try (refine gate_guard (by rfl) ?_; dsimp only)); refine box_event ?hg (N := 11) ?hd (cs := #[.int .i64 0, .slice none 0 0]) (t := 30) ?hr ?_; (case hd => rfl); (case hg => rfl); (case hr => first | (go_simp; done) | (go_simp; rfl)); intro gb654 hg w29 hbox hb; obtain ⟨HBn, GW654⟩ := tri hg hb (by repeat (first | (with_reducible first | exact HB.out | apply below_alloc | apply pw_below_drewN | apply below_drew1 | refine below_set ?_ (Aside0.out (by assumption))) | exact HB.out)); have GE654 := GW654; have BK654 := am (hbox); have NB646_654 := nl hg (bu BK646.out); have NB654_646 := nr hg (bu BK646.out); have NB647_654 := nl hg (bu BK647.out); have NB654_647 := nr hg (bu BK647.out); replace HO652 := rb HO652 hb; replace BK646 := bb BK646 hb; replace BK647 := bb BK647 hb; clear HB; have HB := HBn; clear HBn; clear hb hbox hg; have hnb30 := NB654_646.out; have hnc30 := NB646_654.out; have hnb31 := NB654_647.out; have hnc31 := NB647_654.out; have hcz32_0 := ca BK654.out; have hcz32_1 := cb BK654.out; have hfz32_0 := blk_frozen BK654.out 0; have hfz32_1 := blk_frozen BK654.out 1; obtain ⟨Ao33, co33, eo33⟩ := Kd.R_slice HO652.out; subst eo33; have hcz34_0 := ca BK646.out; have hcz34_1 := cb BK646.out; have hfz34_0 := blk_frozen BK646.out 0; have hfz34_1 := blk_frozen BK646.out 1) | ((with_reducible refine gate_callee (f := 42) rfl ?_); refine goesL_ (some 52) rfl rfl Try.func42 (by kernel_rfl) rfl #[.agg #[.int .i64 a0_0, .slice A0_1 l0_1.length c0_1], .slice A2 l2.length c2] rfl (by (try simp only [List.map_toArray, List.map_cons, List.map_nil]); first | done | rfl | (simp only [List.length_drop, List.length_take]; rfl)) ?_; (with_reducible refine (tallymanref14_AddAll.calls kj7 a0_0 _ _ l0_1 _ _ l2 t655 t656 t659 _ ?side1 ?side2 ?side3 ?side4 A24.out).mono ?_); (case side1 => exact Kd.C_below HR0_1.out (by repeat (first | (with_reducible first | exact HB.out | apply below_alloc | apply pw_below_drewN | apply below_drew1 | refine below_set ?_ (Aside0.out (by assumption))) | exact HB.out))); (case side2 => exact HC0_1.out); (case side3 => exact Kd.C_below HR2.out (by repeat (first | (with_reducible first | exact HB.out | apply below_alloc | apply pw_below_drewN | apply below_drew1 | refine below_set ?_ (Aside0.out (by assumption))) | exact HB.out))); (case side4 => exact HC2.out); rintro e w35 ⟨v657, rfl, ho0, hb⟩; refine ⟨_, rfl, ?_⟩; have HO658 := am (Kd.R_lower (Kd.R_new' ho0 (Kd.R_lt (rf HO652.out BK654.out (by decide)))) (below_size (by repeat (first | (with_reducible first | exact HB.out | apply below_alloc | apply pw_below_drewN | apply below_drew1 | refine below_set ?_ (Aside0.out (by assumption))) | exact HB.out)))); replace HO652 := am (Kd.R_elder' (rf HO652.out BK654.out (by decide)) (Kd.R_base ho0) hb); replace BK646 := am (blk_below (bf NB646_654.out BK646.out) hb); replace BK647 := am (blk_below (bf NB647_654.out BK647.out) hb); replace BK654 := am (blk_below (g := gb654) (o := .cells #[.int .i64 t649, .slice Ao33 t650.length co33] 30 (0, 0)) (by (with_reducible repeat (first | refine blk_drewN ?_ _ | refine blk_drew ?_ | refine blk_alloc ?_ _)); refine blk_put (cs := #[.int .i64 t649, .slice none 0 0]) ?_ 1 _ rfl; (with_reducible repeat (first | refine blk_drewN ?_ _ | refine blk_drew ?_ | refine blk_alloc ?_ _)); refine blk_put (cs := #[.int .i64 0, .slice none 0 0]) ?_ 0 _ rfl; (with_reducible repeat (first | refine blk_drewN ?_ _ | refine blk_drew ?_ | refine blk_alloc ?_ _)); exact BK654.out) hb); replace HB := am (below_step (by repeat (first | (with_reducible first | exact HB.out | apply below_alloc | apply pw_below_drewN | apply below_drew1 | refine below_set ?_ (Aside0.out (by assumption))) | exact HB.out)) hb); (try clear hb); (try clear ho0)) | ((with_reducible refine gate_dst (N := 13) rfl ?_); (try (refine gate_guard (by rfl) ?_; dsimp only)); refine box_event ?hg (N := 13) ?hd (cs := #[.int .i64 0, .slice none 0 0]) (t := 30) ?hr ?_; (case hd => rfl); (case hg => rfl); (case hr => first | (go_simp; done) | (go_simp; rfl)); intro gb660 hg w36 hbox hb; obtain ⟨HBn, GW660⟩ := tri hg hb (by repeat (first | (with_reducible first | exact HB.out | apply below_alloc | apply pw_below_drewN | apply below_drew1 | refine below_set ?_ (Aside0.out (by assumption))) | exact HB.out)); have GE660 := GW660; have BK660 := am (hbox); have NB646_660 := nl hg (bu BK646.out); have NB660_646 := nr hg (bu BK646.out); have NB647_660 := nl hg (bu BK647.out); have NB660_647 := nr hg (bu BK647.out); have NB654_660 := nl hg (bu BK654.out); have NB660_654 := nr hg (bu BK654.out); replace HO652 := rb HO652 hb; replace HO658 := rb HO658 hb; replace BK646 := bb BK646 hb; replace BK647 := bb BK647 hb; replace BK654 := bb BK654 hb; clear HB; have HB := HBn; clear HBn; clear hb hbox hg; have hnb37 := NB660_646.out; have hnc37 := NB646_660.out; have hnb38 := NB660_647.out; have hnc38 := NB647_660.out; have hnb39 := NB660_654.out; have hnc39 := NB654_660.out; have hcz40_0 := ca BK660.out; have hcz40_1 := cb BK660.out; have hfz40_0 := blk_frozen BK660.out 0; have hfz40_1 := blk_frozen BK660.out 1; obtain ⟨Ao41, co41, eo41⟩ := Kd.R_slice HO658.out; subst eo41))
      (try simp only [Act.put, List.setIfInBounds_toArray, List.set_cons_zero, List.set_cons_succ])
      go_cut [95] (fun v95 wc => ∃ (kq : Nat) (x95_24 : Bool), v95 = .bool x95_24 ∧ Aside0 (j1 kq l2 a3 x95_24 a0_0 l0_1 a1_0 l1_1 = some r) ∧ Aside0 (kq ≤ kj7) ∧ Aside0 (Kd.R k32 32 wc w.heap.size (fun k_ => some k_ ≠ ((.slice Ao41 t656.length co41) : Value).ownBlock) (.slice Ao33 t650.length co33) t650) ∧ Aside0 (Kd.R k32 32 wc w.heap.size (fun k_ => some k_ ≠ ((.slice Ao33 t650.length co33) : Value).ownBlock) (.slice Ao41 t656.length co41) t656) ∧ Aside0 (wc.heap[gb646]? = some (.cells #[.int .i64 a0_0, (.slice A0_1 l0_1.length c0_1)] 30 (0, 0))) ∧ Aside0 (wc.heap[gb647]? = some (.cells #[.int .i64 a1_0, (.slice A1_1 l1_1.length c1_1)] 30 (0, 0))) ∧ Aside0 (wc.heap[gb654]? = some (.cells #[.int .i64 t649, (.slice Ao33 t650.length co33)] 30 (0, 0))) ∧ Aside0 (wc.heap[gb660]? = some (.cells #[.int .i64 t655, (.slice Ao41 t656.length co41)] 30 (0, 0))) ∧ Aside0 (Below w.heap.size w wc))
      case first =>
       as_aux_lemma =>
        have H := HC25.out
        clear HC25
        replace H := Option.bind_eq_some_iff.mp H
        obtain ⟨t661, A420, H⟩ := H
        replace H : (if t661 = true then (if t653 = t659 then ((hll_Check.f kj7 a0_0 l0_1).bind fun t662 => ((tallymanref14_Check.f kj7 a0_0 l0_1).bind fun t663 => (if t662 = t663 then ((hll_Get.f kj7 a0_0 l0_1 a4).bind fun t664 => ((tallymanref14_Get.f kj7 a0_0 l0_1 a4).bind fun t665 => (if t664 = t665 then ((hll_Zeros.f kj7 a0_0 l0_1).bind fun t666 => ((tallymanref14_Zeros.f kj7 a0_0 l0_1).bind fun t667 => (if t666 = t667 then ((hll_Same.f kj7 a0_0 l0_1 a1_0 l1_1).bind fun t668 => ((tallymankit_Hll.f kj7 a0_0 l0_1 a1_0 l1_1).bind fun t669 => (j1 kj7 l2 a3 (t668 != t669) a0_0 l0_1 a1_0 l1_1))) else (j1 kj7 l2 a3 true a0_0 l0_1 a1_0 l1_1)))) else (j1 kj7 l2 a3 true a0_0 l0_1 a1_0 l1_1)))) else (j1 kj7 l2 a3 true a0_0 l0_1 a1_0 l1_1)))) else (j1 kj7 l2 a3 true a0_0 l0_1 a1_0 l1_1)) else (j1 kj7 l2 a3 true a0_0 l0_1 a1_0 l1_1)) = some r := H
        have A42 := Aside0.mk A420
        clear A420
        by_cases c43 : t661 = true
        ·
         subst c43
         have H1 : (if t653 = t659 then ((hll_Check.f kj7 a0_0 l0_1).bind fun t662 => ((tallymanref14_Check.f kj7 a0_0 l0_1).bind fun t663 => (if t662 = t663 then ((hll_Get.f kj7 a0_0 l0_1 a4).bind fun t664 => ((tallymanref14_Get.f kj7 a0_0 l0_1 a4).bind fun t665 => (if t664 = t665 then ((hll_Zeros.f kj7 a0_0 l0_1).bind fun t666 => ((tallymanref14_Zeros.f kj7 a0_0 l0_1).bind fun t667 => (if t666 = t667 then ((hll_Same.f kj7 a0_0 l0_1 a1_0 l1_1).bind fun t668 => ((tallymankit_Hll.f kj7 a0_0 l0_1 a1_0 l1_1).bind fun t669 => (j1 kj7 l2 a3 (t668 != t669) a0_0 l0_1 a1_0 l1_1))) else (j1 kj7 l2 a3 true a0_0 l0_1 a1_0 l1_1)))) else (j1 kj7 l2 a3 true a0_0 l0_1 a1_0 l1_1)))) else (j1 kj7 l2 a3 true a0_0 l0_1 a1_0 l1_1)))) else (j1 kj7 l2 a3 true a0_0 l0_1 a1_0 l1_1)) = some r := by rw [if_pos rfl] at H; exact H
         clear H
         have H := H1
         clear H1
         by_cases c44 : t653 = t659
         ·
          rw [if_pos c44] at H
          have c44b0 : (t653 == t659) = true := beq_iff_eq.mpr c44
          have c44b1 : (t653 != t659) = false := bne_eq_false_iff_eq.mpr c44
          clear c44
          (first | rw [c44b0] | (simp only [i64_w, i32_w]; rw [c44b0]) | skip)
          replace H := Option.bind_eq_some_iff.mp H
          obtain ⟨t662, A450, H⟩ := H
          replace H : ((tallymanref14_Check.f kj7 a0_0 l0_1).bind fun t663 => (if t662 = t663 then ((hll_Get.f kj7 a0_0 l0_1 a4).bind fun t664 => ((tallymanref14_Get.f kj7 a0_0 l0_1 a4).bind fun t665 => (if t664 = t665 then ((hll_Zeros.f kj7 a0_0 l0_1).bind fun t666 => ((tallymanref14_Zeros.f kj7 a0_0 l0_1).bind fun t667 => (if t666 = t667 then ((hll_Same.f kj7 a0_0 l0_1 a1_0 l1_1).bind fun t668 => ((tallymankit_Hll.f kj7 a0_0 l0_1 a1_0 l1_1).bind fun t669 => (j1 kj7 l2 a3 (t668 != t669) a0_0 l0_1 a1_0 l1_1))) else (j1 kj7 l2 a3 true a0_0 l0_1 a1_0 l1_1)))) else (j1 kj7 l2 a3 true a0_0 l0_1 a1_0 l1_1)))) else (j1 kj7 l2 a3 true a0_0 l0_1 a1_0 l1_1))) = some r := H
          have A45 := Aside0.mk A450
          clear A450
          replace H := Option.bind_eq_some_iff.mp H
          obtain ⟨t663, A460, H⟩ := H
          replace H : (if t662 = t663 then ((hll_Get.f kj7 a0_0 l0_1 a4).bind fun t664 => ((tallymanref14_Get.f kj7 a0_0 l0_1 a4).bind fun t665 => (if t664 = t665 then ((hll_Zeros.f kj7 a0_0 l0_1).bind fun t666 => ((tallymanref14_Zeros.f kj7 a0_0 l0_1).bind fun t667 => (if t666 = t667 then ((hll_Same.f kj7 a0_0 l0_1 a1_0 l1_1).bind fun t668 => ((tallymankit_Hll.f kj7 a0_0 l0_1 a1_0 l1_1).bind fun t669 => (j1 kj7 l2 a3 (t668 != t669) a0_0 l0_1 a1_0 l1_1))) else (j1 kj7 l2 a3 true a0_0 l0_1 a1_0 l1_1)))) else (j1 kj7 l2 a3 true a0_0 l0_1 a1_0 l1_1)))) else (j1 kj7 l2 a3 true a0_0 l0_1 a1_0 l1_1)) = some r := H
          have A46 := Aside0.mk A460
          clear A460
          by_cases c47 : t662 = t663
          ·
           rw [if_pos c47] at H
           have c47b0 : (t662 == t663) = true := beq_iff_eq.mpr c47
           have c47b1 : (t662 != t663) = false := bne_eq_false_iff_eq.mpr c47
           clear c47
           replace H := Option.bind_eq_some_iff.mp H
           obtain ⟨t664, A480, H⟩ := H
           replace H : ((tallymanref14_Get.f kj7 a0_0 l0_1 a4).bind fun t665 => (if t664 = t665 then ((hll_Zeros.f kj7 a0_0 l0_1).bind fun t666 => ((tallymanref14_Zeros.f kj7 a0_0 l0_1).bind fun t667 => (if t666 = t667 then ((hll_Same.f kj7 a0_0 l0_1 a1_0 l1_1).bind fun t668 => ((tallymankit_Hll.f kj7 a0_0 l0_1 a1_0 l1_1).bind fun t669 => (j1 kj7 l2 a3 (t668 != t669) a0_0 l0_1 a1_0 l1_1))) else (j1 kj7 l2 a3 true a0_0 l0_1 a1_0 l1_1)))) else (j1 kj7 l2 a3 true a0_0 l0_1 a1_0 l1_1))) = some r := H
           have A48 := Aside0.mk A480
           clear A480
           replace H := Option.bind_eq_some_iff.mp H
           obtain ⟨t665, A490, H⟩ := H
           replace H : (if t664 = t665 then ((hll_Zeros.f kj7 a0_0 l0_1).bind fun t666 => ((tallymanref14_Zeros.f kj7 a0_0 l0_1).bind fun t667 => (if t666 = t667 then ((hll_Same.f kj7 a0_0 l0_1 a1_0 l1_1).bind fun t668 => ((tallymankit_Hll.f kj7 a0_0 l0_1 a1_0 l1_1).bind fun t669 => (j1 kj7 l2 a3 (t668 != t669) a0_0 l0_1 a1_0 l1_1))) else (j1 kj7 l2 a3 true a0_0 l0_1 a1_0 l1_1)))) else (j1 kj7 l2 a3 true a0_0 l0_1 a1_0 l1_1)) = some r := H
           have A49 := Aside0.mk A490
           clear A490
           by_cases c50 : t664 = t665
           ·
            rw [if_pos c50] at H
            have c50b0 : (t664 == t665) = true := beq_iff_eq.mpr c50
            have c50b1 : (t664 != t665) = false := bne_eq_false_iff_eq.mpr c50
            clear c50
            replace H := Option.bind_eq_some_iff.mp H
            obtain ⟨t666, A510, H⟩ := H
            replace H : ((tallymanref14_Zeros.f kj7 a0_0 l0_1).bind fun t667 => (if t666 = t667 then ((hll_Same.f kj7 a0_0 l0_1 a1_0 l1_1).bind fun t668 => ((tallymankit_Hll.f kj7 a0_0 l0_1 a1_0 l1_1).bind fun t669 => (j1 kj7 l2 a3 (t668 != t669) a0_0 l0_1 a1_0 l1_1))) else (j1 kj7 l2 a3 true a0_0 l0_1 a1_0 l1_1))) = some r := H
            have A51 := Aside0.mk A510
            clear A510
            replace H := Option.bind_eq_some_iff.mp H
            obtain ⟨t667, A520, H⟩ := H
            replace H : (if t666 = t667 then ((hll_Same.f kj7 a0_0 l0_1 a1_0 l1_1).bind fun t668 => ((tallymankit_Hll.f kj7 a0_0 l0_1 a1_0 l1_1).bind fun t669 => (j1 kj7 l2 a3 (t668 != t669) a0_0 l0_1 a1_0 l1_1))) else (j1 kj7 l2 a3 true a0_0 l0_1 a1_0 l1_1)) = some r := H
            have A52 := Aside0.mk A520
            clear A520
            by_cases c53 : t666 = t667
            ·
             rw [if_pos c53] at H
             have c53b0 : (t666 == t667) = true := beq_iff_eq.mpr c53
             have c53b1 : (t666 != t667) = false := bne_eq_false_iff_eq.mpr c53
             clear c53
             replace H := Option.bind_eq_some_iff.mp H
             obtain ⟨t668, A540, H⟩ := H
             replace H : ((tallymankit_Hll.f kj7 a0_0 l0_1 a1_0 l1_1).bind fun t669 => (j1 kj7 l2 a3 (t668 != t669) a0_0 l0_1 a1_0 l1_1)) = some r := H
             have A54 := Aside0.mk A540
             clear A540
             replace H := Option.bind_eq_some_iff.mp H
             obtain ⟨t669, A550, H⟩ := H
             replace H : (j1 kj7 l2 a3 (t668 != t669) a0_0 l0_1 a1_0 l1_1) = some r := H
             have A55 := Aside0.mk A550
             clear A550
             have H' := Aside0.mk H
             clear H
             try go_wp2
             have n0_ : Aside0 (Kd.R k32 32 ((w36.setCell ⟨gb660, 0, none⟩ (.int .i64 t655)).setCell ⟨gb660, 1, none⟩ (.slice Ao41 t656.length co41)) w.heap.size (fun k_ => nb Ao41 t656.length co41 k_) (.slice Ao33 t650.length co33) t650) := ⟨Kd.R_mono (rf HO652.out BK660.out (by decide)) (fun _ hk => hk.2)⟩
             have n1_ : Aside0 (Kd.R k32 32 ((w36.setCell ⟨gb660, 0, none⟩ (.int .i64 t655)).setCell ⟨gb660, 1, none⟩ (.slice Ao41 t656.length co41)) w.heap.size (fun k_ => nb Ao33 t650.length co33 k_) (.slice Ao41 t656.length co41) t656) := ⟨Kd.R_mono (rf HO658.out BK660.out (by decide)) (fun _ hk => hk.2)⟩
             have n2_ : Aside0 (((w36.setCell ⟨gb660, 0, none⟩ (.int .i64 t655)).setCell ⟨gb660, 1, none⟩ (.slice Ao41 t656.length co41)).heap[gb646]? = some (.cells #[.int .i64 a0_0, .slice A0_1 l0_1.length c0_1] 30 (0, 0))) := ⟨bf NB646_660.out BK646.out⟩
             have n3_ : Aside0 (((w36.setCell ⟨gb660, 0, none⟩ (.int .i64 t655)).setCell ⟨gb660, 1, none⟩ (.slice Ao41 t656.length co41)).heap[gb647]? = some (.cells #[.int .i64 a1_0, .slice A1_1 l1_1.length c1_1] 30 (0, 0))) := ⟨bf NB647_660.out BK647.out⟩
             have n4_ : Aside0 (((w36.setCell ⟨gb660, 0, none⟩ (.int .i64 t655)).setCell ⟨gb660, 1, none⟩ (.slice Ao41 t656.length co41)).heap[gb654]? = some (.cells #[.int .i64 t649, .slice Ao33 t650.length co33] 30 (0, 0))) := ⟨bf NB654_660.out BK654.out⟩
             have n5_ : Aside0 (((w36.setCell ⟨gb660, 0, none⟩ (.int .i64 t655)).setCell ⟨gb660, 1, none⟩ (.slice Ao41 t656.length co41)).heap[gb660]? = some (.cells #[.int .i64 t655, .slice Ao41 t656.length co41] 30 (0, 0))) := ⟨by (with_reducible repeat (first | refine blk_drewN ?_ _ | refine blk_drew ?_ | refine blk_alloc ?_ _)); refine blk_put (cs := #[.int .i64 t655, .slice none 0 0]) ?_ 1 _ rfl; (with_reducible repeat (first | refine blk_drewN ?_ _ | refine blk_drew ?_ | refine blk_alloc ?_ _)); refine blk_put (cs := #[.int .i64 0, .slice none 0 0]) ?_ 0 _ rfl; (with_reducible repeat (first | refine blk_drewN ?_ _ | refine blk_drew ?_ | refine blk_alloc ?_ _)); exact BK660.out⟩
             have n6_ : Aside0 (Below w.heap.size w ((w36.setCell ⟨gb660, 0, none⟩ (.int .i64 t655)).setCell ⟨gb660, 1, none⟩ (.slice Ao41 t656.length co41))) := ⟨by repeat (first | (with_reducible first | exact HB.out | apply below_alloc | apply pw_below_drewN | apply below_drew1 | refine below_set ?_ (Aside0.out (by assumption))) | exact HB.out)⟩
             (try clear HO652)
             (try clear HO658)
             (try clear BK646)
             (try clear BK647)
             (try clear BK654)
             (try clear BK660)
             (try clear HB)
             generalize ((w36.setCell ⟨gb660, 0, none⟩ (.int .i64 t655)).setCell ⟨gb660, 1, none⟩ (.slice Ao41 t656.length co41)) = w56 at n0_ n1_ n2_ n3_ n4_ n5_ n6_ ⊢
             have HO652 := n0_; have HO658 := n1_; have BK646 := n2_; have BK647 := n3_; have BK654 := n4_; have BK660 := n5_; have HB := n6_
             clear n0_ n1_ n2_ n3_ n4_ n5_ n6_
             replace HO652 := am (Kd.R_drew HO652.out); replace HO658 := am (Kd.R_drew HO658.out); replace BK646 := am (blk_drew BK646.out); replace BK647 := am (blk_drew BK647.out); replace BK654 := am (blk_drew BK654.out); replace BK660 := am (blk_drew BK660.out); replace HB := am (below_drew1 HB.out)
             refine start_ (n := 41) (S := fun w' => w'.cell? ⟨gb654, 0, none⟩ = some (.int .i64 t649) ∧ w'.cell? ⟨gb654, 1, none⟩ = some (.slice Ao33 t650.length co33) ∧ w'.cell? ⟨gb660, 0, none⟩ = some (.int .i64 t655) ∧ w'.cell? ⟨gb660, 1, none⟩ = some (.slice Ao41 t656.length co41) ∧ w'.cell? ⟨gb646, 0, none⟩ = some (.int .i64 a0_0) ∧ w'.cell? ⟨gb646, 1, none⟩ = some (.slice A0_1 l0_1.length c0_1) ∧ w'.cell? ⟨gb647, 0, none⟩ = some (.int .i64 a1_0) ∧ w'.cell? ⟨gb647, 1, none⟩ = some (.slice A1_1 l1_1.length c1_1)) (ds := []) (tb 0 41) (by kernel_rfl) rfl rfl ⟨(blk_cell BK654.out 0).trans rfl, (blk_cell BK654.out 1).trans rfl, (blk_cell BK660.out 0).trans rfl, (blk_cell BK660.out 1).trans rfl, (blk_cell BK646.out 0).trans rfl, (blk_cell BK646.out 1).trans rfl, (blk_cell BK647.out 0).trans rfl, (blk_cell BK647.out 1).trans rfl⟩ (fun hHeld => ?_); refine with_tabW tallymanlaw14_HllCalls.tab7 tallymanlaw14_HllCalls.bits7 (fun HT_ HW_ => ?_)
             generalize w56.drew = w57 at HO652 HO658 BK646 BK647 BK654 BK660 HB hHeld ⊢
             refine tk 0 (some 55) (v := ?_) (a' := ?_) (tb 1 41) rfl rfl (take_ofW HT_.out HW_.out (by kernel_rfl)) (fun _ _ _ h => h) ⟨by rfl, ?_⟩ hHeld ?_ ?_; rotate_left; · (rintro w' ⟨s0, s1, s2, s3, s4, s5, s6, s7⟩; go_simp; with_reducible rfl)
             rotate_left; · (simp only [Act.put, sa_, sb_, sc_, i64_w, i32_w]; rfl)
             refine tk 1 (some 56) (v := ?_) (a' := ?_) (tb 2 41) rfl rfl (take_ofW HT_.out HW_.out (by kernel_rfl)) (fun _ _ _ h => h) ⟨by rfl, ?_⟩ hHeld ?_ ?_; rotate_left; · (rintro w' ⟨s0, s1, s2, s3, s4, s5, s6, s7⟩; go_simp; with_reducible rfl)
             rotate_left; · (simp only [Act.put, sa_, sb_, sc_, i64_w, i32_w]; rfl)
             refine one_ (i := 2) (N := some 57) (tb 3 41) rfl rfl (one_of HT_.out (by kernel_rfl)) (by decide) (fun K hK => ?_)
             refine goes_ Try.func40 (by kernel_rfl) rfl #[.agg #[.int .i64 t649, .slice Ao33 t650.length co33], .agg #[.int .i64 t655, .slice Ao41 t656.length co41]] (by rfl) rfl rfl (by (try simp only [List.map_toArray, List.map_cons, List.map_nil]); first | done | rfl | (simp only [List.length_drop, List.length_take]; rfl)) ?_
             with_reducible refine (tallymankit_Hll.calls kj7 t649 _ _ t650 t655 _ _ t656 true _ ?side1 ?side2 ?side3 ?side4 A42.out).mono ?_
             (case side1 => repeat (first | exact (Kd.R_reads' HO652.out).2.2 | (with_reducible refine Kd.C_alloc ?_ _) | (with_reducible refine Kd.C_drewN ?_ _) | (with_reducible refine Kd.C_drew ?_)))
             (case side2 => exact (Kd.R_reads' HO652.out).2.1)
             (case side3 => repeat (first | exact (Kd.R_reads' HO658.out).2.2 | (with_reducible refine Kd.C_alloc ?_ _) | (with_reducible refine Kd.C_drewN ?_ _) | (with_reducible refine Kd.C_drew ?_)))
             (case side4 => exact (Kd.R_reads' HO658.out).2.1)
             rintro e w58 ⟨rfl, hb⟩
             refine ⟨_, rfl, ?_⟩
             replace HO652 := rb HO652 hb; replace HO658 := rb HO658 hb; replace BK646 := bb BK646 hb; replace BK647 := bb BK647 hb; replace BK654 := bb BK654 hb; replace BK660 := bb BK660 hb; replace HB := am (below_step (by repeat (first | (with_reducible first | exact HB.out | apply below_alloc | apply pw_below_drewN | apply below_drew1 | refine below_set ?_ (Aside0.out (by assumption))) | exact HB.out)) hb)
             (try clear hb)
             (try clear hb2)
             (try clear hk)
             (try clear hi)
             refine hK.out _ _ ⟨(blk_cell BK654.out 0).trans rfl, (blk_cell BK654.out 1).trans rfl, (blk_cell BK660.out 0).trans rfl, (blk_cell BK660.out 1).trans rfl, (blk_cell BK646.out 0).trans rfl, (blk_cell BK646.out 1).trans rfl, (blk_cell BK647.out 0).trans rfl, (blk_cell BK647.out 1).trans rfl⟩ (fun hHeld => ?_)
             clear hK K
             refine norm_ (a' := ?_) ?_ ?_
             rotate_left
             ·
              show Act.put _ (some 57) _ = _
              simp only [Act.put, List.setIfInBounds_toArray, List.set_cons_zero, List.set_cons_succ, i64_w, i32_w]
              rfl
             refine pu 3 (some 58) (v := ?_) (a' := ?_) (tb 4 41) rfl rfl (any_of HT_.out (by kernel_rfl)) (fun _ _ _ h => h) ⟨by rfl, ?_⟩ ?_ ?_; rotate_left; · (intro w'; go_simp; with_reducible rfl)
             rotate_left; · (simp only [Act.put, sa_, sb_, sc_, i64_w, i32_w]; rfl)
             refine pu 4 (some 59) (v := ?_) (a' := ?_) (tb 5 41) rfl rfl (any_of HT_.out (by kernel_rfl)) (fun _ _ _ h => h) ⟨by rfl, ?_⟩ ?_ ?_; rotate_left; · (intro w'; go_simp; with_reducible rfl)
             rotate_left; · (simp only [Act.put, sa_, sb_, sc_, i64_w, i32_w]; rfl)
             refine pu 5 (some 60) (v := ?_) (a' := ?_) (tb 6 41) rfl rfl (any_of HT_.out (by kernel_rfl)) (fun _ _ _ h => h) ⟨by rfl, ?_⟩ ?_ ?_; rotate_left; · (intro w'; go_simp; with_reducible rfl)
             rotate_left; · (simp only [Act.put, sa_, sb_, sc_, i64_w, i32_w]; rfl)
             refine pu 6 (some 61) (v := ?_) (a' := ?_) (tb 7 41) rfl rfl (any_of HT_.out (by kernel_rfl)) (fun _ _ _ h => h) ⟨by rfl, ?_⟩ ?_ ?_; rotate_left; · (intro w'; go_simp; with_reducible rfl)
             rotate_left; · (simp only [Act.put, sa_, sb_, sc_, i64_w, i32_w]; rfl)
             refine pu 7 (some 62) (v := ?_) (a' := ?_) (tb 8 41) rfl rfl (any_of HT_.out (by kernel_rfl)) (fun _ _ _ h => h) ⟨by rfl, ?_⟩ ?_ ?_; rotate_left; · (intro w'; go_simp; with_reducible rfl)
             rotate_left; · (simp only [Act.put, sa_, sb_, sc_, i64_w, i32_w]; rfl)
             refine pu 8 (some 63) (v := ?_) (a' := ?_) (tb 9 41) rfl rfl (any_of HT_.out (by kernel_rfl)) (fun _ _ _ h => h) ⟨by rfl, ?_⟩ ?_ ?_; rotate_left; · (intro w'; go_simp; with_reducible rfl)
             rotate_left; · (simp only [Act.put, sa_, sb_, sc_, i64_w, i32_w]; rfl)
             refine pu 9 (some 64) (v := ?_) (a' := ?_) (tb 10 41) rfl rfl (any_of HT_.out (by kernel_rfl)) (fun _ _ _ h => h) ⟨by rfl, ?_⟩ ?_ ?_; rotate_left; · (intro w'; go_simp; with_reducible rfl)
             rotate_left; · (simp only [Act.put, sa_, sb_, sc_, i64_w, i32_w]; rfl)
             refine tk 10 (some 65) (v := ?_) (a' := ?_) (tb 11 41) rfl rfl (take_ofW HT_.out HW_.out (by kernel_rfl)) (fun _ _ _ h => h) ⟨by rfl, ?_⟩ hHeld ?_ ?_; rotate_left; · (rintro w' ⟨s0, s1, s2, s3, s4, s5, s6, s7⟩; go_simp; with_reducible rfl)
             rotate_left; · (simp only [Act.put, sa_, sb_, sc_, i64_w, i32_w]; rfl)
             refine tk 12 (some 67) (v := ?_) (a' := ?_) #[true, true, true, true, true, true, true, true, true, true, true, false, true, false, false, false, false, false, false, false, false, false, false, false, false, false, false, false, false, false, false, false, false, false, false, false, false, false, false, false, false] rfl rfl (take_ofW HT_.out HW_.out (by kernel_rfl)) (fun _ _ _ h => h) ⟨by rfl, ?_⟩ hHeld ?_ ?_; rotate_left; · (rintro w' ⟨s0, s1, s2, s3, s4, s5, s6, s7⟩; go_simp; with_reducible rfl)
             rotate_left; · (simp only [Act.put, sa_, sb_, sc_, i64_w, i32_w]; rfl)
             refine one_ (i := 11) (N := some 66) (tb 13 41) rfl rfl (one_of HT_.out (by kernel_rfl)) (by decide) (fun K hK => ?_)
             refine goes_ Try.func33 (by kernel_rfl) rfl #[.agg #[.int .i64 a0_0, .slice A0_1 l0_1.length c0_1]] (by rfl) rfl rfl (by (try simp only [List.map_toArray, List.map_cons, List.map_nil]); first | done | rfl | (simp only [List.length_drop, List.length_take]; rfl)) ?_
             with_reducible refine (hll_Check.calls kj7 a0_0 _ _ l0_1 t662 _ ?side1 ?side2 A45.out).mono ?_
             (case side1 => exact cu (Kd.C_below HR0_1.out HB.out))
             (case side2 => exact HC0_1.out)
             rintro e w59 ⟨rfl, hb⟩
             refine ⟨_, rfl, ?_⟩
             replace HO652 := rb HO652 hb; replace HO658 := rb HO658 hb; replace BK646 := bb BK646 hb; replace BK647 := bb BK647 hb; replace BK654 := bb BK654 hb; replace BK660 := bb BK660 hb; replace HB := am (below_step (by repeat (first | (with_reducible first | exact HB.out | apply below_alloc | apply pw_below_drewN | apply below_drew1 | refine below_set ?_ (Aside0.out (by assumption))) | exact HB.out)) hb)
             (try clear hb)
             (try clear hb2)
             (try clear hk)
             (try clear hi)
             refine hK.out _ _ ⟨(blk_cell BK654.out 0).trans rfl, (blk_cell BK654.out 1).trans rfl, (blk_cell BK660.out 0).trans rfl, (blk_cell BK660.out 1).trans rfl, (blk_cell BK646.out 0).trans rfl, (blk_cell BK646.out 1).trans rfl, (blk_cell BK647.out 0).trans rfl, (blk_cell BK647.out 1).trans rfl⟩ (fun hHeld => ?_)
             clear hK K
             refine norm_ (a' := ?_) ?_ ?_
             rotate_left
             ·
              show Act.put _ (some 66) _ = _
              simp only [Act.put, List.setIfInBounds_toArray, List.set_cons_zero, List.set_cons_succ, i64_w, i32_w]
              rfl
             refine one_ (i := 13) (N := some 68) (tb 14 41) rfl rfl (one_of HT_.out (by kernel_rfl)) (by decide) (fun K hK => ?_)
             refine goes_ Try.func36 (by kernel_rfl) rfl #[.agg #[.int .i64 a0_0, .slice A0_1 l0_1.length c0_1]] (by rfl) rfl rfl (by (try simp only [List.map_toArray, List.map_cons, List.map_nil]); first | done | rfl | (simp only [List.length_drop, List.length_take]; rfl)) ?_
             with_reducible refine (tallymanref14_Check.calls kj7 a0_0 _ _ l0_1 t663 _ ?side1 ?side2 A46.out).mono ?_
             (case side1 => exact cu (Kd.C_below HR0_1.out HB.out))
             (case side2 => exact HC0_1.out)
             rintro e w60 ⟨rfl, hb⟩
             refine ⟨_, rfl, ?_⟩
             replace HO652 := rb HO652 hb; replace HO658 := rb HO658 hb; replace BK646 := bb BK646 hb; replace BK647 := bb BK647 hb; replace BK654 := bb BK654 hb; replace BK660 := bb BK660 hb; replace HB := am (below_step (by repeat (first | (with_reducible first | exact HB.out | apply below_alloc | apply pw_below_drewN | apply below_drew1 | refine below_set ?_ (Aside0.out (by assumption))) | exact HB.out)) hb)
             (try clear hb)
             (try clear hb2)
             (try clear hk)
             (try clear hi)
             refine hK.out _ _ ⟨(blk_cell BK654.out 0).trans rfl, (blk_cell BK654.out 1).trans rfl, (blk_cell BK660.out 0).trans rfl, (blk_cell BK660.out 1).trans rfl, (blk_cell BK646.out 0).trans rfl, (blk_cell BK646.out 1).trans rfl, (blk_cell BK647.out 0).trans rfl, (blk_cell BK647.out 1).trans rfl⟩ (fun hHeld => ?_)
             clear hK K
             refine norm_ (a' := ?_) ?_ ?_
             rotate_left
             ·
              show Act.put _ (some 68) _ = _
              simp only [Act.put, List.setIfInBounds_toArray, List.set_cons_zero, List.set_cons_succ, i64_w, i32_w]
              rfl
             refine pu 14 (some 69) (v := ?_) (a' := ?_) (tb 15 41) rfl rfl (any_of HT_.out (by kernel_rfl)) (fun _ _ _ h => h) ⟨by rfl, ?_⟩ ?_ ?_; rotate_left; · (intro w'; go_simp; with_reducible rfl)
             rotate_left; · (simp only [Act.put, sa_, sb_, sc_, i64_w, i32_w]; rfl)
             refine pu 15 (some 70) (v := ?_) (a' := ?_) (tb 16 41) rfl rfl (any_of HT_.out (by kernel_rfl)) (fun _ _ _ h => h) ⟨by rfl, ?_⟩ ?_ ?_; rotate_left; · (intro w'; go_simp; with_reducible rfl)
             rotate_left; · (simp only [Act.put, sa_, sb_, sc_, i64_w, i32_w]; rfl)
             refine pu 16 (some 71) (v := ?_) (a' := ?_) (tb 17 41) rfl rfl (any_of HT_.out (by kernel_rfl)) (fun _ _ _ h => h) ⟨by rfl, ?_⟩ ?_ ?_; rotate_left; · (intro w'; go_simp; with_reducible rfl)
             rotate_left; · (simp only [Act.put, sa_, sb_, sc_, i64_w, i32_w]; rfl)
             refine pu 18 (some 73) (v := ?_) (a' := ?_) #[true, true, true, true, true, true, true, true, true, true, true, true, true, true, true, true, true, false, true, false, false, false, false, false, false, false, false, false, false, false, false, false, false, false, false, false, false, false, false, false, false] rfl rfl (any_of HT_.out (by kernel_rfl)) (fun _ _ _ h => h) ⟨by rfl, ?_⟩ ?_ ?_; rotate_left; · (intro w'; go_simp; with_reducible rfl)
             rotate_left; · (simp only [Act.put, sa_, sb_, sc_, i64_w, i32_w]; rfl)
             refine pu 21 (some 76) (v := ?_) (a' := ?_) #[true, true, true, true, true, true, true, true, true, true, true, true, true, true, true, true, true, false, true, false, false, true, false, false, false, false, false, false, false, false, false, false, false, false, false, false, false, false, false, false, false] rfl rfl (any_of HT_.out (by kernel_rfl)) (fun _ _ _ h => h) ⟨by rfl, ?_⟩ ?_ ?_; rotate_left; · (intro w'; go_simp; with_reducible rfl)
             rotate_left; · (simp only [Act.put, sa_, sb_, sc_, i64_w, i32_w]; rfl)
             refine tk 17 (some 72) (v := ?_) (a' := ?_) #[true, true, true, true, true, true, true, true, true, true, true, true, true, true, true, true, true, true, true, false, false, true, false, false, false, false, false, false, false, false, false, false, false, false, false, false, false, false, false, false, false] rfl rfl (take_ofW HT_.out HW_.out (by kernel_rfl)) (fun _ _ _ h => h) ⟨by rfl, ?_⟩ hHeld ?_ ?_; rotate_left; · (rintro w' ⟨s0, s1, s2, s3, s4, s5, s6, s7⟩; go_simp; with_reducible rfl)
             rotate_left; · (simp only [Act.put, sa_, sb_, sc_, i64_w, i32_w]; rfl)
             refine tk 20 (some 75) (v := ?_) (a' := ?_) #[true, true, true, true, true, true, true, true, true, true, true, true, true, true, true, true, true, true, true, false, true, true, false, false, false, false, false, false, false, false, false, false, false, false, false, false, false, false, false, false, false] rfl rfl (take_ofW HT_.out HW_.out (by kernel_rfl)) (fun _ _ _ h => h) ⟨by rfl, ?_⟩ hHeld ?_ ?_; rotate_left; · (rintro w' ⟨s0, s1, s2, s3, s4, s5, s6, s7⟩; go_simp; with_reducible rfl)
             rotate_left; · (simp only [Act.put, sa_, sb_, sc_, i64_w, i32_w]; rfl)
             refine one_ (i := 19) (N := some 74) (tb 22 41) rfl rfl (one_of HT_.out (by kernel_rfl)) (by decide) (fun K hK => ?_)
             refine goes_ Try.func27 (by kernel_rfl) rfl #[.agg #[.int .i64 a0_0, .slice A0_1 l0_1.length c0_1], .int .i64 a4] (by rfl) rfl rfl (by (try simp only [List.map_toArray, List.map_cons, List.map_nil]); first | done | rfl | (simp only [List.length_drop, List.length_take]; rfl)) ?_
             with_reducible refine (hll_Get.calls kj7 a0_0 _ _ l0_1 a4 t664 _ ?side1 ?side2 A48.out).mono ?_
             (case side1 => exact cu (Kd.C_below HR0_1.out HB.out))
             (case side2 => exact HC0_1.out)
             rintro e w61 ⟨rfl, hb⟩
             refine ⟨_, rfl, ?_⟩
             replace HO652 := rb HO652 hb; replace HO658 := rb HO658 hb; replace BK646 := bb BK646 hb; replace BK647 := bb BK647 hb; replace BK654 := bb BK654 hb; replace BK660 := bb BK660 hb; replace HB := am (below_step (by repeat (first | (with_reducible first | exact HB.out | apply below_alloc | apply pw_below_drewN | apply below_drew1 | refine below_set ?_ (Aside0.out (by assumption))) | exact HB.out)) hb)
             (try clear hb)
             (try clear hb2)
             (try clear hk)
             (try clear hi)
             refine hK.out _ _ ⟨(blk_cell BK654.out 0).trans rfl, (blk_cell BK654.out 1).trans rfl, (blk_cell BK660.out 0).trans rfl, (blk_cell BK660.out 1).trans rfl, (blk_cell BK646.out 0).trans rfl, (blk_cell BK646.out 1).trans rfl, (blk_cell BK647.out 0).trans rfl, (blk_cell BK647.out 1).trans rfl⟩ (fun hHeld => ?_)
             clear hK K
             refine norm_ (a' := ?_) ?_ ?_
             rotate_left
             ·
              show Act.put _ (some 74) _ = _
              simp only [Act.put, List.setIfInBounds_toArray, List.set_cons_zero, List.set_cons_succ, i64_w, i32_w]
              rfl
             refine one_ (i := 22) (N := some 77) (tb 23 41) rfl rfl (one_of HT_.out (by kernel_rfl)) (by decide) (fun K hK => ?_)
             refine goes_ Try.func43 (by kernel_rfl) rfl #[.agg #[.int .i64 a0_0, .slice A0_1 l0_1.length c0_1], .int .i64 a4] (by rfl) rfl rfl (by (try simp only [List.map_toArray, List.map_cons, List.map_nil]); first | done | rfl | (simp only [List.length_drop, List.length_take]; rfl)) ?_
             with_reducible refine (tallymanref14_Get.calls kj7 a0_0 _ _ l0_1 a4 t665 _ ?side1 ?side2 A49.out).mono ?_
             (case side1 => exact cu (Kd.C_below HR0_1.out HB.out))
             (case side2 => exact HC0_1.out)
             rintro e w62 ⟨rfl, hb⟩
             refine ⟨_, rfl, ?_⟩
             replace HO652 := rb HO652 hb; replace HO658 := rb HO658 hb; replace BK646 := bb BK646 hb; replace BK647 := bb BK647 hb; replace BK654 := bb BK654 hb; replace BK660 := bb BK660 hb; replace HB := am (below_step (by repeat (first | (with_reducible first | exact HB.out | apply below_alloc | apply pw_below_drewN | apply below_drew1 | refine below_set ?_ (Aside0.out (by assumption))) | exact HB.out)) hb)
             (try clear hb)
             (try clear hb2)
             (try clear hk)
             (try clear hi)
             refine hK.out _ _ ⟨(blk_cell BK654.out 0).trans rfl, (blk_cell BK654.out 1).trans rfl, (blk_cell BK660.out 0).trans rfl, (blk_cell BK660.out 1).trans rfl, (blk_cell BK646.out 0).trans rfl, (blk_cell BK646.out 1).trans rfl, (blk_cell BK647.out 0).trans rfl, (blk_cell BK647.out 1).trans rfl⟩ (fun hHeld => ?_)
             clear hK K
             refine norm_ (a' := ?_) ?_ ?_
             rotate_left
             ·
              show Act.put _ (some 77) _ = _
              simp only [Act.put, List.setIfInBounds_toArray, List.set_cons_zero, List.set_cons_succ, i64_w, i32_w]
              rfl
             refine pu 23 (some 78) (v := ?_) (a' := ?_) (tb 24 41) rfl rfl (any_of HT_.out (by kernel_rfl)) (fun _ _ _ h => h) ⟨by rfl, ?_⟩ ?_ ?_; rotate_left; · (intro w'; go_simp; with_reducible rfl)
             rotate_left; · (simp only [Act.put, sa_, sb_, sc_, i64_w, i32_w]; rfl)
             refine pu 24 (some 79) (v := ?_) (a' := ?_) (tb 25 41) rfl rfl (any_of HT_.out (by kernel_rfl)) (fun _ _ _ h => h) ⟨by rfl, ?_⟩ ?_ ?_; rotate_left; · (intro w'; go_simp; with_reducible rfl)
             rotate_left; · (simp only [Act.put, sa_, sb_, sc_, i64_w, i32_w]; rfl)
             refine pu 25 (some 80) (v := ?_) (a' := ?_) (tb 26 41) rfl rfl (any_of HT_.out (by kernel_rfl)) (fun _ _ _ h => h) ⟨by rfl, ?_⟩ ?_ ?_; rotate_left; · (intro w'; go_simp; with_reducible rfl)
             rotate_left; · (simp only [Act.put, sa_, sb_, sc_, i64_w, i32_w]; rfl)
             refine tk 26 (some 81) (v := ?_) (a' := ?_) (tb 27 41) rfl rfl (take_ofW HT_.out HW_.out (by kernel_rfl)) (fun _ _ _ h => h) ⟨by rfl, ?_⟩ hHeld ?_ ?_; rotate_left; · (rintro w' ⟨s0, s1, s2, s3, s4, s5, s6, s7⟩; go_simp; with_reducible rfl)
             rotate_left; · (simp only [Act.put, sa_, sb_, sc_, i64_w, i32_w]; rfl)
             refine tk 28 (some 83) (v := ?_) (a' := ?_) #[true, true, true, true, true, true, true, true, true, true, true, true, true, true, true, true, true, true, true, true, true, true, true, true, true, true, true, false, true, false, false, false, false, false, false, false, false, false, false, false, false] rfl rfl (take_ofW HT_.out HW_.out (by kernel_rfl)) (fun _ _ _ h => h) ⟨by rfl, ?_⟩ hHeld ?_ ?_; rotate_left; · (rintro w' ⟨s0, s1, s2, s3, s4, s5, s6, s7⟩; go_simp; with_reducible rfl)
             rotate_left; · (simp only [Act.put, sa_, sb_, sc_, i64_w, i32_w]; rfl)
             refine one_ (i := 27) (N := some 82) (tb 29 41) rfl rfl (one_of HT_.out (by kernel_rfl)) (by decide) (fun K hK => ?_)
             refine goes_ Try.func30 (by kernel_rfl) rfl #[.agg #[.int .i64 a0_0, .slice A0_1 l0_1.length c0_1]] (by rfl) rfl rfl (by (try simp only [List.map_toArray, List.map_cons, List.map_nil]); first | done | rfl | (simp only [List.length_drop, List.length_take]; rfl)) ?_
             with_reducible refine (hll_Zeros.calls kj7 a0_0 _ _ l0_1 t666 _ ?side1 ?side2 A51.out).mono ?_
             (case side1 => exact cu (Kd.C_below HR0_1.out HB.out))
             (case side2 => exact HC0_1.out)
             rintro e w63 ⟨rfl, hb⟩
             refine ⟨_, rfl, ?_⟩
             replace HO652 := rb HO652 hb; replace HO658 := rb HO658 hb; replace BK646 := bb BK646 hb; replace BK647 := bb BK647 hb; replace BK654 := bb BK654 hb; replace BK660 := bb BK660 hb; replace HB := am (below_step (by repeat (first | (with_reducible first | exact HB.out | apply below_alloc | apply pw_below_drewN | apply below_drew1 | refine below_set ?_ (Aside0.out (by assumption))) | exact HB.out)) hb)
             (try clear hb)
             (try clear hb2)
             (try clear hk)
             (try clear hi)
             refine hK.out _ _ ⟨(blk_cell BK654.out 0).trans rfl, (blk_cell BK654.out 1).trans rfl, (blk_cell BK660.out 0).trans rfl, (blk_cell BK660.out 1).trans rfl, (blk_cell BK646.out 0).trans rfl, (blk_cell BK646.out 1).trans rfl, (blk_cell BK647.out 0).trans rfl, (blk_cell BK647.out 1).trans rfl⟩ (fun hHeld => ?_)
             clear hK K
             refine norm_ (a' := ?_) ?_ ?_
             rotate_left
             ·
              show Act.put _ (some 82) _ = _
              simp only [Act.put, List.setIfInBounds_toArray, List.set_cons_zero, List.set_cons_succ, i64_w, i32_w]
              rfl
             refine one_ (i := 29) (N := some 84) (tb 30 41) rfl rfl (one_of HT_.out (by kernel_rfl)) (by decide) (fun K hK => ?_)
             refine goes_ Try.func44 (by kernel_rfl) rfl #[.agg #[.int .i64 a0_0, .slice A0_1 l0_1.length c0_1]] (by rfl) rfl rfl (by (try simp only [List.map_toArray, List.map_cons, List.map_nil]); first | done | rfl | (simp only [List.length_drop, List.length_take]; rfl)) ?_
             with_reducible refine (tallymanref14_Zeros.calls kj7 a0_0 _ _ l0_1 t667 _ ?side1 ?side2 A52.out).mono ?_
             (case side1 => exact cu (Kd.C_below HR0_1.out HB.out))
             (case side2 => exact HC0_1.out)
             rintro e w64 ⟨rfl, hb⟩
             refine ⟨_, rfl, ?_⟩
             replace HO652 := rb HO652 hb; replace HO658 := rb HO658 hb; replace BK646 := bb BK646 hb; replace BK647 := bb BK647 hb; replace BK654 := bb BK654 hb; replace BK660 := bb BK660 hb; replace HB := am (below_step (by repeat (first | (with_reducible first | exact HB.out | apply below_alloc | apply pw_below_drewN | apply below_drew1 | refine below_set ?_ (Aside0.out (by assumption))) | exact HB.out)) hb)
             (try clear hb)
             (try clear hb2)
             (try clear hk)
             (try clear hi)
             refine hK.out _ _ ⟨(blk_cell BK654.out 0).trans rfl, (blk_cell BK654.out 1).trans rfl, (blk_cell BK660.out 0).trans rfl, (blk_cell BK660.out 1).trans rfl, (blk_cell BK646.out 0).trans rfl, (blk_cell BK646.out 1).trans rfl, (blk_cell BK647.out 0).trans rfl, (blk_cell BK647.out 1).trans rfl⟩ (fun hHeld => ?_)
             clear hK K
             refine norm_ (a' := ?_) ?_ ?_
             rotate_left
             ·
              show Act.put _ (some 84) _ = _
              simp only [Act.put, List.setIfInBounds_toArray, List.set_cons_zero, List.set_cons_succ, i64_w, i32_w]
              rfl
             refine pu 30 (some 85) (v := ?_) (a' := ?_) (tb 31 41) rfl rfl (any_of HT_.out (by kernel_rfl)) (fun _ _ _ h => h) ⟨by rfl, ?_⟩ ?_ ?_; rotate_left; · (intro w'; go_simp; with_reducible rfl)
             rotate_left; · (simp only [Act.put, sa_, sb_, sc_, i64_w, i32_w]; rfl)
             refine pu 31 (some 86) (v := ?_) (a' := ?_) (tb 32 41) rfl rfl (any_of HT_.out (by kernel_rfl)) (fun _ _ _ h => h) ⟨by rfl, ?_⟩ ?_ ?_; rotate_left; · (intro w'; go_simp; with_reducible rfl)
             rotate_left; · (simp only [Act.put, sa_, sb_, sc_, i64_w, i32_w]; rfl)
             refine pu 32 (some 87) (v := ?_) (a' := ?_) (tb 33 41) rfl rfl (any_of HT_.out (by kernel_rfl)) (fun _ _ _ h => h) ⟨by rfl, ?_⟩ ?_ ?_; rotate_left; · (intro w'; go_simp; with_reducible rfl)
             rotate_left; · (simp only [Act.put, sa_, sb_, sc_, i64_w, i32_w]; rfl)
             refine tk 33 (some 88) (v := ?_) (a' := ?_) (tb 34 41) rfl rfl (take_ofW HT_.out HW_.out (by kernel_rfl)) (fun _ _ _ h => h) ⟨by rfl, ?_⟩ hHeld ?_ ?_; rotate_left; · (rintro w' ⟨s0, s1, s2, s3, s4, s5, s6, s7⟩; go_simp; with_reducible rfl)
             rotate_left; · (simp only [Act.put, sa_, sb_, sc_, i64_w, i32_w]; rfl)
             refine tk 34 (some 89) (v := ?_) (a' := ?_) (tb 35 41) rfl rfl (take_ofW HT_.out HW_.out (by kernel_rfl)) (fun _ _ _ h => h) ⟨by rfl, ?_⟩ hHeld ?_ ?_; rotate_left; · (rintro w' ⟨s0, s1, s2, s3, s4, s5, s6, s7⟩; go_simp; with_reducible rfl)
             rotate_left; · (simp only [Act.put, sa_, sb_, sc_, i64_w, i32_w]; rfl)
             refine tk 36 (some 91) (v := ?_) (a' := ?_) #[true, true, true, true, true, true, true, true, true, true, true, true, true, true, true, true, true, true, true, true, true, true, true, true, true, true, true, true, true, true, true, true, true, true, true, false, true, false, false, false, false] rfl rfl (take_ofW HT_.out HW_.out (by kernel_rfl)) (fun _ _ _ h => h) ⟨by rfl, ?_⟩ hHeld ?_ ?_; rotate_left; · (rintro w' ⟨s0, s1, s2, s3, s4, s5, s6, s7⟩; go_simp; with_reducible rfl)
             rotate_left; · (simp only [Act.put, sa_, sb_, sc_, i64_w, i32_w]; rfl)
             refine tk 37 (some 92) (v := ?_) (a' := ?_) #[true, true, true, true, true, true, true, true, true, true, true, true, true, true, true, true, true, true, true, true, true, true, true, true, true, true, true, true, true, true, true, true, true, true, true, false, true, true, false, false, false] rfl rfl (take_ofW HT_.out HW_.out (by kernel_rfl)) (fun _ _ _ h => h) ⟨by rfl, ?_⟩ hHeld ?_ ?_; rotate_left; · (rintro w' ⟨s0, s1, s2, s3, s4, s5, s6, s7⟩; go_simp; with_reducible rfl)
             rotate_left; · (simp only [Act.put, sa_, sb_, sc_, i64_w, i32_w]; rfl)
             refine one_ (i := 35) (N := some 90) (tb 38 41) rfl rfl (one_of HT_.out (by kernel_rfl)) (by decide) (fun K hK => ?_)
             refine goes_ Try.func29 (by kernel_rfl) rfl #[.agg #[.int .i64 a0_0, .slice A0_1 l0_1.length c0_1], .agg #[.int .i64 a1_0, .slice A1_1 l1_1.length c1_1]] (by rfl) rfl rfl (by (try simp only [List.map_toArray, List.map_cons, List.map_nil]); first | done | rfl | (simp only [List.length_drop, List.length_take]; rfl)) ?_
             with_reducible refine (hll_Same.calls kj7 a0_0 _ _ l0_1 a1_0 _ _ l1_1 t668 _ ?side1 ?side2 ?side3 ?side4 A54.out).mono ?_
             (case side1 => exact cu (Kd.C_below HR0_1.out HB.out))
             (case side2 => exact HC0_1.out)
             (case side3 => exact cu (Kd.C_below HR1_1.out HB.out))
             (case side4 => exact HC1_1.out)
             rintro e w65 ⟨rfl, hb⟩
             refine ⟨_, rfl, ?_⟩
             replace HO652 := rb HO652 hb; replace HO658 := rb HO658 hb; replace BK646 := bb BK646 hb; replace BK647 := bb BK647 hb; replace BK654 := bb BK654 hb; replace BK660 := bb BK660 hb; replace HB := am (below_step (by repeat (first | (with_reducible first | exact HB.out | apply below_alloc | apply pw_below_drewN | apply below_drew1 | refine below_set ?_ (Aside0.out (by assumption))) | exact HB.out)) hb)
             (try clear hb)
             (try clear hb2)
             (try clear hk)
             (try clear hi)
             refine hK.out _ _ ⟨(blk_cell BK654.out 0).trans rfl, (blk_cell BK654.out 1).trans rfl, (blk_cell BK660.out 0).trans rfl, (blk_cell BK660.out 1).trans rfl, (blk_cell BK646.out 0).trans rfl, (blk_cell BK646.out 1).trans rfl, (blk_cell BK647.out 0).trans rfl, (blk_cell BK647.out 1).trans rfl⟩ (fun hHeld => ?_)
             clear hK K
             refine norm_ (a' := ?_) ?_ ?_
             rotate_left
             ·
              show Act.put _ (some 90) _ = _
              simp only [Act.put, List.setIfInBounds_toArray, List.set_cons_zero, List.set_cons_succ, i64_w, i32_w]
              rfl
             refine one_ (i := 38) (N := some 93) (tb 39 41) rfl rfl (one_of HT_.out (by kernel_rfl)) (by decide) (fun K hK => ?_)
             refine goes_ Try.func40 (by kernel_rfl) rfl #[.agg #[.int .i64 a0_0, .slice A0_1 l0_1.length c0_1], .agg #[.int .i64 a1_0, .slice A1_1 l1_1.length c1_1]] (by rfl) rfl rfl (by (try simp only [List.map_toArray, List.map_cons, List.map_nil]); first | done | rfl | (simp only [List.length_drop, List.length_take]; rfl)) ?_
             with_reducible refine (tallymankit_Hll.calls kj7 a0_0 _ _ l0_1 a1_0 _ _ l1_1 t669 _ ?side1 ?side2 ?side3 ?side4 A55.out).mono ?_
             (case side1 => exact cu (Kd.C_below HR0_1.out HB.out))
             (case side2 => exact HC0_1.out)
             (case side3 => exact cu (Kd.C_below HR1_1.out HB.out))
             (case side4 => exact HC1_1.out)
             rintro e w66 ⟨rfl, hb⟩
             refine ⟨_, rfl, ?_⟩
             replace HO652 := rb HO652 hb; replace HO658 := rb HO658 hb; replace BK646 := bb BK646 hb; replace BK647 := bb BK647 hb; replace BK654 := bb BK654 hb; replace BK660 := bb BK660 hb; replace HB := am (below_step (by repeat (first | (with_reducible first | exact HB.out | apply below_alloc | apply pw_below_drewN | apply below_drew1 | refine below_set ?_ (Aside0.out (by assumption))) | exact HB.out)) hb)
             (try clear hb)
             (try clear hb2)
             (try clear hk)
             (try clear hi)
             refine hK.out _ _ ⟨(blk_cell BK654.out 0).trans rfl, (blk_cell BK654.out 1).trans rfl, (blk_cell BK660.out 0).trans rfl, (blk_cell BK660.out 1).trans rfl, (blk_cell BK646.out 0).trans rfl, (blk_cell BK646.out 1).trans rfl, (blk_cell BK647.out 0).trans rfl, (blk_cell BK647.out 1).trans rfl⟩ (fun hHeld => ?_)
             clear hK K
             refine norm_ (a' := ?_) ?_ ?_
             rotate_left
             ·
              show Act.put _ (some 93) _ = _
              simp only [Act.put, List.setIfInBounds_toArray, List.set_cons_zero, List.set_cons_succ, i64_w, i32_w]
              rfl
             refine pu 39 (some 94) (v := ?_) (a' := ?_) (tb 40 41) rfl rfl (any_of HT_.out (by kernel_rfl)) (fun _ _ _ h => h) ⟨by rfl, ?_⟩ ?_ ?_; rotate_left; · (intro w'; go_simp; with_reducible rfl)
             rotate_left; · (simp only [Act.put, sa_, sb_, sc_, i64_w, i32_w]; rfl)
             refine pu 40 (some 95) (v := ?_) (a' := ?_) (tb 41 41) rfl rfl (any_of HT_.out (by kernel_rfl)) (fun _ _ _ h => h) ⟨by rfl, ?_⟩ ?_ ?_; rotate_left; · (intro w'; go_simp; with_reducible rfl)
             rotate_left; · (simp only [Act.put, sa_, sb_, sc_, i64_w, i32_w]; rfl)
             refine done_ (done_of HT_.out (by kernel_rfl)) ?_
             try go_wp2
             go_meet
             case rel => exact ⟨_, ((t668 != t669)), (by first | rfl | (simp; done) | (simp [*]; done)), H', ⟨by have := HJ7.out; first | omega | exact Nat.le_refl _⟩, ⟨ru HO652.out⟩, ⟨ru HO658.out⟩, ⟨bu BK646.out⟩, ⟨bu BK647.out⟩, ⟨bu BK654.out⟩, ⟨bu BK660.out⟩, ⟨by repeat (first | (with_reducible first | exact HB.out | apply below_alloc | apply pw_below_drewN | apply below_drew1 | refine below_set ?_ (Aside0.out (by assumption))) | exact HB.out)⟩⟩
            ·
             rw [if_neg c53] at H
             have c53b0 : (t666 == t667) = false := beq_eq_false_iff_ne.mpr c53
             have c53b1 : (t666 != t667) = true := bne_iff_ne.mpr c53
             exact (no_1 H).elim
           ·
            rw [if_neg c50] at H
            have c50b0 : (t664 == t665) = false := beq_eq_false_iff_ne.mpr c50
            have c50b1 : (t664 != t665) = true := bne_iff_ne.mpr c50
            exact (no_1 H).elim
          ·
           rw [if_neg c47] at H
           have c47b0 : (t662 == t663) = false := beq_eq_false_iff_ne.mpr c47
           have c47b1 : (t662 != t663) = true := bne_iff_ne.mpr c47
           exact (no_1 H).elim
         ·
          rw [if_neg c44] at H
          have c44b0 : (t653 == t659) = false := beq_eq_false_iff_ne.mpr c44
          have c44b1 : (t653 != t659) = true := bne_iff_ne.mpr c44
          (first | rw [c44b0] | (simp only [i64_w, i32_w]; rw [c44b0]) | skip)
          exact (no_1 H).elim
        ·
         replace c43 := Bool.eq_false_iff.mpr c43
         subst c43
         have H1 : (j1 kj7 l2 a3 true a0_0 l0_1 a1_0 l1_1) = some r := by rw [if_neg (show ¬ (false = true) by decide)] at H; exact H
         clear H
         have H := H1
         clear H1
         exact (no_1 H).elim
      case rest =>
       as_aux_lemma =>
        clear HC25
        try clear c1; try clear p2; try clear c4; try clear c40; try clear c43
        obtain ⟨kq, x95_24, rfl, HA, HJ24, HO_655001, HO_661001, BK646, BK647, BK654, BK660, HB⟩ := hcut
        cases kq with
        | zero => exact absurd HA.out (by simp [j1])
        | succ kj24 =>
         have H := HA.out
         clear HA
         simp only [j1] at H
         by_cases c94 : x95_24 = true
         ·
          subst c94
          have H1 : (none) = some r := by rw [if_pos rfl] at H; exact H
          clear H
          have H := H1
          clear H1
          exact absurd H (by simp)
         ·
          replace c94 := Bool.eq_false_iff.mpr c94
          subst c94
          have H1 : ((hll_Merge.f kj24 a0_0 l0_1 a1_0 l1_1).bind fun bt670 => ((tallymanref14_Merge.f kj24 a0_0 l0_1 a1_0 l1_1).bind fun bt675 => ((hll_Fold.f kj24 a0_0 l0_1 a3).bind fun bt680 => ((tallymanref14_Fold.f kj24 a0_0 l0_1 a3).bind fun bt686 => ((tallymankit_Hll.f kj24 bt670.1 bt670.2.1 bt675.1 bt675.2.1).bind fun t692 => (if t692 = true then (if bt670.2.2 = bt675.2.2 then ((tallymankit_Hll.f kj24 bt680.1 bt680.2.1 bt686.1 bt686.2.1).bind fun t693 => (if t693 = true then (j2 kj24 l2 a3 (bt680.2.2 != bt686.2.2) a0_0 l0_1) else (j2 kj24 l2 a3 true a0_0 l0_1))) else (j2 kj24 l2 a3 true a0_0 l0_1)) else (j2 kj24 l2 a3 true a0_0 l0_1))))))) = some r := by rw [if_neg (show ¬ (false = true) by decide)] at H; exact H
          clear H
          have H := H1
          clear H1
          replace H := Option.bind_eq_some_iff.mp H
          obtain ⟨⟨t670, t671, t674⟩, A950, H⟩ := H
          replace H : ((tallymanref14_Merge.f kj24 a0_0 l0_1 a1_0 l1_1).bind fun bt675 => ((hll_Fold.f kj24 a0_0 l0_1 a3).bind fun bt680 => ((tallymanref14_Fold.f kj24 a0_0 l0_1 a3).bind fun bt686 => ((tallymankit_Hll.f kj24 t670 t671 bt675.1 bt675.2.1).bind fun t692 => (if t692 = true then (if t674 = bt675.2.2 then ((tallymankit_Hll.f kj24 bt680.1 bt680.2.1 bt686.1 bt686.2.1).bind fun t693 => (if t693 = true then (j2 kj24 l2 a3 (bt680.2.2 != bt686.2.2) a0_0 l0_1) else (j2 kj24 l2 a3 true a0_0 l0_1))) else (j2 kj24 l2 a3 true a0_0 l0_1)) else (j2 kj24 l2 a3 true a0_0 l0_1)))))) = some r := H
          have A95 := Aside0.mk A950
          clear A950
          replace H := Option.bind_eq_some_iff.mp H
          obtain ⟨⟨t675, t676, t679⟩, A960, H⟩ := H
          replace H : ((hll_Fold.f kj24 a0_0 l0_1 a3).bind fun bt680 => ((tallymanref14_Fold.f kj24 a0_0 l0_1 a3).bind fun bt686 => ((tallymankit_Hll.f kj24 t670 t671 t675 t676).bind fun t692 => (if t692 = true then (if t674 = t679 then ((tallymankit_Hll.f kj24 bt680.1 bt680.2.1 bt686.1 bt686.2.1).bind fun t693 => (if t693 = true then (j2 kj24 l2 a3 (bt680.2.2 != bt686.2.2) a0_0 l0_1) else (j2 kj24 l2 a3 true a0_0 l0_1))) else (j2 kj24 l2 a3 true a0_0 l0_1)) else (j2 kj24 l2 a3 true a0_0 l0_1))))) = some r := H
          have A96 := Aside0.mk A960
          clear A960
          replace H := Option.bind_eq_some_iff.mp H
          obtain ⟨⟨t680, t681, t684⟩, A970, H⟩ := H
          replace H : ((tallymanref14_Fold.f kj24 a0_0 l0_1 a3).bind fun bt686 => ((tallymankit_Hll.f kj24 t670 t671 t675 t676).bind fun t692 => (if t692 = true then (if t674 = t679 then ((tallymankit_Hll.f kj24 t680 t681 bt686.1 bt686.2.1).bind fun t693 => (if t693 = true then (j2 kj24 l2 a3 (t684 != bt686.2.2) a0_0 l0_1) else (j2 kj24 l2 a3 true a0_0 l0_1))) else (j2 kj24 l2 a3 true a0_0 l0_1)) else (j2 kj24 l2 a3 true a0_0 l0_1)))) = some r := H
          have A97 := Aside0.mk A970
          clear A970
          replace H := Option.bind_eq_some_iff.mp H
          obtain ⟨⟨t686, t687, t690⟩, A980, H⟩ := H
          replace H : ((tallymankit_Hll.f kj24 t670 t671 t675 t676).bind fun t692 => (if t692 = true then (if t674 = t679 then ((tallymankit_Hll.f kj24 t680 t681 t686 t687).bind fun t693 => (if t693 = true then (j2 kj24 l2 a3 (t684 != t690) a0_0 l0_1) else (j2 kj24 l2 a3 true a0_0 l0_1))) else (j2 kj24 l2 a3 true a0_0 l0_1)) else (j2 kj24 l2 a3 true a0_0 l0_1))) = some r := H
          have A98 := Aside0.mk A980
          clear A980
          have HC99 := Aside0.mk H
          clear H
          have hnb100 := NB646_647.out; have hnc100 := NB647_646.out; have hnb101 := NB646_654.out; have hnc101 := NB654_646.out; have hnb102 := NB646_660.out; have hnc102 := NB660_646.out; have hcz103_0 := ca BK646.out; have hcz103_1 := cb BK646.out; have hfz103_0 := blk_frozen BK646.out 0; have hfz103_1 := blk_frozen BK646.out 1; have hnb104 := NB647_654.out; have hnc104 := NB654_647.out; have hnb105 := NB647_660.out; have hnc105 := NB660_647.out; have hcz106_0 := ca BK647.out; have hcz106_1 := cb BK647.out; have hfz106_0 := blk_frozen BK647.out 0; have hfz106_1 := blk_frozen BK647.out 1
          go_upto_region 13 with (first | ((with_reducible refine gate_callee (f := 32) rfl ?_); refine goesL_ (some 99) rfl rfl Try.func32 (by kernel_rfl) rfl #[.agg #[.int .i64 a0_0, .slice A0_1 l0_1.length c0_1], .agg #[.int .i64 a1_0, .slice A1_1 l1_1.length c1_1]] rfl (by (try simp only [List.map_toArray, List.map_cons, List.map_nil]); first | done | rfl | (simp only [List.length_drop, List.length_take]; rfl)) ?_; (with_reducible refine (hll_Merge.calls kj24 a0_0 _ _ l0_1 a1_0 _ _ l1_1 t670 t671 t674 _ ?side1 ?side2 ?side3 ?side4 A95.out).mono ?_); (case side1 => exact cu (Kd.C_below HR0_1.out HB.out)); (case side2 => exact HC0_1.out); (case side3 => exact cu (Kd.C_below HR1_1.out HB.out)); (case side4 => exact HC1_1.out); rintro e w107 ⟨v672, rfl, ho0, hb⟩; refine ⟨_, rfl, ?_⟩; have HO673 := am (Kd.R_lower (Kd.R_new' (Kd.R_new' ho0 (Kd.R_lt (ru (HO_655001.out)))) (Kd.R_lt (ru (HO_661001.out)))) (below_size (by repeat (first | (with_reducible first | exact HB.out | apply below_alloc | apply pw_below_drewN | apply below_drew1 | refine below_set ?_ (Aside0.out (by assumption))) | exact HB.out)))); replace HO_655001 := am (Kd.R_elder' (ru (HO_655001.out)) (Kd.R_base ho0) hb); replace HO_661001 := am (Kd.R_elder' (ru (HO_661001.out)) (Kd.R_base ho0) hb); replace BK646 := bb BK646 hb; replace BK647 := bb BK647 hb; replace BK654 := bb BK654 hb; replace BK660 := bb BK660 hb; replace HB := am (below_step (by repeat (first | (with_reducible first | exact HB.out | apply below_alloc | apply pw_below_drewN | apply below_drew1 | refine below_set ?_ (Aside0.out (by assumption))) | exact HB.out)) hb); (try clear hb); (try clear ho0); have hnb108 := NB654_660.out; have hnc108 := NB660_654.out; have hcz109_0 := ca BK654.out; have hcz109_1 := cb BK654.out; have hfz109_0 := blk_frozen BK654.out 0; have hfz109_1 := blk_frozen BK654.out 1; obtain ⟨Ao110, co110, eo110⟩ := Kd.R_slice HO673.out; subst eo110; have hcz111_0 := ca BK646.out; have hcz111_1 := cb BK646.out; have hfz111_0 := blk_frozen BK646.out 0; have hfz111_1 := blk_frozen BK646.out 1; have hcz112_0 := ca BK647.out; have hcz112_1 := cb BK647.out; have hfz112_0 := blk_frozen BK647.out 0; have hfz112_1 := blk_frozen BK647.out 1) | ((with_reducible refine gate_callee (f := 45) rfl ?_); refine goesL_ (some 105) rfl rfl Try.func45 (by kernel_rfl) rfl #[.agg #[.int .i64 a0_0, .slice A0_1 l0_1.length c0_1], .agg #[.int .i64 a1_0, .slice A1_1 l1_1.length c1_1]] rfl (by (try simp only [List.map_toArray, List.map_cons, List.map_nil]); first | done | rfl | (simp only [List.length_drop, List.length_take]; rfl)) ?_; (with_reducible refine (tallymanref14_Merge.calls kj24 a0_0 _ _ l0_1 a1_0 _ _ l1_1 t675 t676 t679 _ ?side1 ?side2 ?side3 ?side4 A96.out).mono ?_); (case side1 => exact Kd.C_below HR0_1.out (by repeat (first | (with_reducible first | exact HB.out | apply below_alloc | apply pw_below_drewN | apply below_drew1 | refine below_set ?_ (Aside0.out (by assumption))) | exact HB.out))); (case side2 => exact HC0_1.out); (case side3 => exact Kd.C_below HR1_1.out (by repeat (first | (with_reducible first | exact HB.out | apply below_alloc | apply pw_below_drewN | apply below_drew1 | refine below_set ?_ (Aside0.out (by assumption))) | exact HB.out))); (case side4 => exact HC1_1.out); rintro e w113 ⟨v677, rfl, ho0, hb⟩; refine ⟨_, rfl, ?_⟩; have HO678 := am (Kd.R_lower (Kd.R_new' (Kd.R_new' (Kd.R_new' ho0 (Kd.R_lt (rf HO_655001.out BK654.out (by decide)))) (Kd.R_lt (rf HO_661001.out BK654.out (by decide)))) (Kd.R_lt (rf HO673.out BK654.out (by decide)))) (below_size (by repeat (first | (with_reducible first | exact HB.out | apply below_alloc | apply pw_below_drewN | apply below_drew1 | refine below_set ?_ (Aside0.out (by assumption))) | exact HB.out)))); replace HO_655001 := am (Kd.R_elder' (rf HO_655001.out BK654.out (by decide)) (Kd.R_base ho0) hb); replace HO_661001 := am (Kd.R_elder' (rf HO_661001.out BK654.out (by decide)) (Kd.R_base ho0) hb); replace HO673 := am (Kd.R_elder' (rf HO673.out BK654.out (by decide)) (Kd.R_base ho0) hb); replace BK646 := am (blk_below (bf NB646_654.out BK646.out) hb); replace BK647 := am (blk_below (bf NB647_654.out BK647.out) hb); replace BK654 := am (blk_below (g := gb654) (o := .cells #[.int .i64 t670, .slice Ao110 t671.length co110] 30 (0, 0)) (by (with_reducible repeat (first | refine blk_drewN ?_ _ | refine blk_drew ?_ | refine blk_alloc ?_ _)); refine blk_put (cs := #[.int .i64 t670, .slice Ao33 t650.length co33]) ?_ 1 _ rfl; (with_reducible repeat (first | refine blk_drewN ?_ _ | refine blk_drew ?_ | refine blk_alloc ?_ _)); refine blk_put (cs := #[.int .i64 t649, .slice Ao33 t650.length co33]) ?_ 0 _ rfl; (with_reducible repeat (first | refine blk_drewN ?_ _ | refine blk_drew ?_ | refine blk_alloc ?_ _)); exact BK654.out) hb); replace BK660 := am (blk_below (bf NB660_654.out BK660.out) hb); replace HB := am (below_step (by repeat (first | (with_reducible first | exact HB.out | apply below_alloc | apply pw_below_drewN | apply below_drew1 | refine below_set ?_ (Aside0.out (by assumption))) | exact HB.out)) hb); (try clear hb); (try clear ho0); have hcz114_0 := ca BK660.out; have hcz114_1 := cb BK660.out; have hfz114_0 := blk_frozen BK660.out 0; have hfz114_1 := blk_frozen BK660.out 1; obtain ⟨Ao115, co115, eo115⟩ := Kd.R_slice HO678.out; subst eo115; have hcz116_0 := ca BK646.out; have hcz116_1 := cb BK646.out; have hfz116_0 := blk_frozen BK646.out 0; have hfz116_1 := blk_frozen BK646.out 1) | ((with_reducible refine gate_callee (f := 41) rfl ?_); refine goesL_ (some 111) rfl rfl Try.func41 (by kernel_rfl) rfl #[.agg #[.int .i64 a0_0, .slice A0_1 l0_1.length c0_1], .int .i64 a3] rfl (by (try simp only [List.map_toArray, List.map_cons, List.map_nil]); first | done | rfl | (simp only [List.length_drop, List.length_take]; rfl)) ?_; (with_reducible refine (hll_Fold.calls kj24 a0_0 _ _ l0_1 a3 t680 t681 t684 _ ?side1 ?side2 A97.out).mono ?_); (case side1 => exact Kd.C_below HR0_1.out (by repeat (first | (with_reducible first | exact HB.out | apply below_alloc | apply pw_below_drewN | apply below_drew1 | refine below_set ?_ (Aside0.out (by assumption))) | exact HB.out))); (case side2 => exact HC0_1.out); rintro e w117 ⟨v682, rfl, ho0, hb⟩; refine ⟨_, rfl, ?_⟩; have HO683 := am (Kd.R_lower (Kd.R_new' (Kd.R_new' (Kd.R_new' (Kd.R_new' ho0 (Kd.R_lt (rf HO_655001.out BK660.out (by decide)))) (Kd.R_lt (rf HO_661001.out BK660.out (by decide)))) (Kd.R_lt (rf HO673.out BK660.out (by decide)))) (Kd.R_lt (rf HO678.out BK660.out (by decide)))) (below_size (by repeat (first | (with_reducible first | exact HB.out | apply below_alloc | apply pw_below_drewN | apply below_drew1 | refine below_set ?_ (Aside0.out (by assumption))) | exact HB.out)))); replace HO_655001 := am (Kd.R_elder' (rf HO_655001.out BK660.out (by decide)) (Kd.R_base ho0) hb); replace HO_661001 := am (Kd.R_elder' (rf HO_661001.out BK660.out (by decide)) (Kd.R_base ho0) hb); replace HO673 := am (Kd.R_elder' (rf HO673.out BK660.out (by decide)) (Kd.R_base ho0) hb); replace HO678 := am (Kd.R_elder' (rf HO678.out BK660.out (by decide)) (Kd.R_base ho0) hb); replace BK646 := am (blk_below (bf NB646_660.out BK646.out) hb); replace BK647 := am (blk_below (bf NB647_660.out BK647.out) hb); replace BK654 := am (blk_below (bf NB654_660.out BK654.out) hb); replace BK660 := am (blk_below (g := gb660) (o := .cells #[.int .i64 t675, .slice Ao115 t676.length co115] 30 (0, 0)) (by (with_reducible repeat (first | refine blk_drewN ?_ _ | refine blk_drew ?_ | refine blk_alloc ?_ _)); refine blk_put (cs := #[.int .i64 t675, .slice Ao41 t656.length co41]) ?_ 1 _ rfl; (with_reducible repeat (first | refine blk_drewN ?_ _ | refine blk_drew ?_ | refine blk_alloc ?_ _)); refine blk_put (cs := #[.int .i64 t655, .slice Ao41 t656.length co41]) ?_ 0 _ rfl; (with_reducible repeat (first | refine blk_drewN ?_ _ | refine blk_drew ?_ | refine blk_alloc ?_ _)); exact BK660.out) hb); replace HB := am (below_step (by repeat (first | (with_reducible first | exact HB.out | apply below_alloc | apply pw_below_drewN | apply below_drew1 | refine below_set ?_ (Aside0.out (by assumption))) | exact HB.out)) hb); (try clear hb); (try clear ho0)) | ((with_reducible refine gate_dst (N := 15) rfl ?_); (try (refine gate_guard (by rfl) ?_; dsimp only)); refine box_event ?hg (N := 15) ?hd (cs := #[.int .i64 0, .slice none 0 0]) (t := 30) ?hr ?_; (case hd => rfl); (case hg => rfl); (case hr => first | (go_simp; done) | (go_simp; rfl)); intro gb685 hg w118 hbox hb; obtain ⟨HBn, GW685⟩ := tri hg hb (by repeat (first | (with_reducible first | exact HB.out | apply below_alloc | apply pw_below_drewN | apply below_drew1 | refine below_set ?_ (Aside0.out (by assumption))) | exact HB.out)); have GE685 := GW685; have BK685 := am (hbox); have NB646_685 := nl hg (bu BK646.out); have NB685_646 := nr hg (bu BK646.out); have NB647_685 := nl hg (bu BK647.out); have NB685_647 := nr hg (bu BK647.out); have NB654_685 := nl hg (bu BK654.out); have NB685_654 := nr hg (bu BK654.out); have NB660_685 := nl hg (bu BK660.out); have NB685_660 := nr hg (bu BK660.out); replace HO_655001 := rb HO_655001 hb; replace HO_661001 := rb HO_661001 hb; replace HO673 := rb HO673 hb; replace HO678 := rb HO678 hb; replace HO683 := rb HO683 hb; replace BK646 := bb BK646 hb; replace BK647 := bb BK647 hb; replace BK654 := bb BK654 hb; replace BK660 := bb BK660 hb; clear HB; have HB := HBn; clear HBn; clear hb hbox hg; have hnb119 := NB685_646.out; have hnc119 := NB646_685.out; have hnb120 := NB685_647.out; have hnc120 := NB647_685.out; have hnb121 := NB685_654.out; have hnc121 := NB654_685.out; have hnb122 := NB685_660.out; have hnc122 := NB660_685.out; have hcz123_0 := ca BK685.out; have hcz123_1 := cb BK685.out; have hfz123_0 := blk_frozen BK685.out 0; have hfz123_1 := blk_frozen BK685.out 1; obtain ⟨Ao124, co124, eo124⟩ := Kd.R_slice HO683.out; subst eo124; have hcz125_0 := ca BK646.out; have hcz125_1 := cb BK646.out; have hfz125_0 := blk_frozen BK646.out 0; have hfz125_1 := blk_frozen BK646.out 1) | ((with_reducible refine gate_callee (f := 46) rfl ?_); refine goesL_ (some 117) rfl rfl Try.func46 (by kernel_rfl) rfl #[.agg #[.int .i64 a0_0, .slice A0_1 l0_1.length c0_1], .int .i64 a3] rfl (by (try simp only [List.map_toArray, List.map_cons, List.map_nil]); first | done | rfl | (simp only [List.length_drop, List.length_take]; rfl)) ?_; (with_reducible refine (tallymanref14_Fold.calls kj24 a0_0 _ _ l0_1 a3 t686 t687 t690 _ ?side1 ?side2 A98.out).mono ?_); (case side1 => exact Kd.C_below HR0_1.out (by repeat (first | (with_reducible first | exact HB.out | apply below_alloc | apply pw_below_drewN | apply below_drew1 | refine below_set ?_ (Aside0.out (by assumption))) | exact HB.out))); (case side2 => exact HC0_1.out); rintro e w126 ⟨v688, rfl, ho0, hb⟩; refine ⟨_, rfl, ?_⟩; have HO689 := am (Kd.R_lower (Kd.R_new' (Kd.R_new' (Kd.R_new' (Kd.R_new' (Kd.R_new' ho0 (Kd.R_lt (rf HO_655001.out BK685.out (by decide)))) (Kd.R_lt (rf HO_661001.out BK685.out (by decide)))) (Kd.R_lt (rf HO673.out BK685.out (by decide)))) (Kd.R_lt (rf HO678.out BK685.out (by decide)))) (Kd.R_lt (rf HO683.out BK685.out (by decide)))) (below_size (by repeat (first | (with_reducible first | exact HB.out | apply below_alloc | apply pw_below_drewN | apply below_drew1 | refine below_set ?_ (Aside0.out (by assumption))) | exact HB.out)))); replace HO_655001 := am (Kd.R_elder' (rf HO_655001.out BK685.out (by decide)) (Kd.R_base ho0) hb); replace HO_661001 := am (Kd.R_elder' (rf HO_661001.out BK685.out (by decide)) (Kd.R_base ho0) hb); replace HO673 := am (Kd.R_elder' (rf HO673.out BK685.out (by decide)) (Kd.R_base ho0) hb); replace HO678 := am (Kd.R_elder' (rf HO678.out BK685.out (by decide)) (Kd.R_base ho0) hb); replace HO683 := am (Kd.R_elder' (rf HO683.out BK685.out (by decide)) (Kd.R_base ho0) hb); replace BK646 := am (blk_below (bf NB646_685.out BK646.out) hb); replace BK647 := am (blk_below (bf NB647_685.out BK647.out) hb); replace BK654 := am (blk_below (bf NB654_685.out BK654.out) hb); replace BK660 := am (blk_below (bf NB660_685.out BK660.out) hb); replace BK685 := am (blk_below (g := gb685) (o := .cells #[.int .i64 t680, .slice Ao124 t681.length co124] 30 (0, 0)) (by (with_reducible repeat (first | refine blk_drewN ?_ _ | refine blk_drew ?_ | refine blk_alloc ?_ _)); refine blk_put (cs := #[.int .i64 t680, .slice none 0 0]) ?_ 1 _ rfl; (with_reducible repeat (first | refine blk_drewN ?_ _ | refine blk_drew ?_ | refine blk_alloc ?_ _)); refine blk_put (cs := #[.int .i64 0, .slice none 0 0]) ?_ 0 _ rfl; (with_reducible repeat (first | refine blk_drewN ?_ _ | refine blk_drew ?_ | refine blk_alloc ?_ _)); exact BK685.out) hb); replace HB := am (below_step (by repeat (first | (with_reducible first | exact HB.out | apply below_alloc | apply pw_below_drewN | apply below_drew1 | refine below_set ?_ (Aside0.out (by assumption))) | exact HB.out)) hb); (try clear hb); (try clear ho0)) | ((with_reducible refine gate_dst (N := 17) rfl ?_); (try (refine gate_guard (by rfl) ?_; dsimp only)); refine box_event ?hg (N := 17) ?hd (cs := #[.int .i64 0, .slice none 0 0]) (t := 30) ?hr ?_; (case hd => rfl); (case hg => rfl); (case hr => first | (go_simp; done) | (go_simp; rfl)); intro gb691 hg w127 hbox hb; obtain ⟨HBn, GW691⟩ := tri hg hb (by repeat (first | (with_reducible first | exact HB.out | apply below_alloc | apply pw_below_drewN | apply below_drew1 | refine below_set ?_ (Aside0.out (by assumption))) | exact HB.out)); have GE691 := GW691; have BK691 := am (hbox); have NB646_691 := nl hg (bu BK646.out); have NB691_646 := nr hg (bu BK646.out); have NB647_691 := nl hg (bu BK647.out); have NB691_647 := nr hg (bu BK647.out); have NB654_691 := nl hg (bu BK654.out); have NB691_654 := nr hg (bu BK654.out); have NB660_691 := nl hg (bu BK660.out); have NB691_660 := nr hg (bu BK660.out); have NB685_691 := nl hg (bu BK685.out); have NB691_685 := nr hg (bu BK685.out); replace HO_655001 := rb HO_655001 hb; replace HO_661001 := rb HO_661001 hb; replace HO673 := rb HO673 hb; replace HO678 := rb HO678 hb; replace HO683 := rb HO683 hb; replace HO689 := rb HO689 hb; replace BK646 := bb BK646 hb; replace BK647 := bb BK647 hb; replace BK654 := bb BK654 hb; replace BK660 := bb BK660 hb; replace BK685 := bb BK685 hb; clear HB; have HB := HBn; clear HBn; clear hb hbox hg; have hnb128 := NB691_646.out; have hnc128 := NB646_691.out; have hnb129 := NB691_647.out; have hnc129 := NB647_691.out; have hnb130 := NB691_654.out; have hnc130 := NB654_691.out; have hnb131 := NB691_660.out; have hnc131 := NB660_691.out; have hnb132 := NB691_685.out; have hnc132 := NB685_691.out; have hcz133_0 := ca BK691.out; have hcz133_1 := cb BK691.out; have hfz133_0 := blk_frozen BK691.out 0; have hfz133_1 := blk_frozen BK691.out 1; obtain ⟨Ao134, co134, eo134⟩ := Kd.R_slice HO689.out; subst eo134))
          (try simp only [Act.put, List.setIfInBounds_toArray, List.set_cons_zero, List.set_cons_succ])
          go_cut [139] (fun v139 wc => ∃ (kq : Nat) (x139_98 : Bool), v139 = .bool x139_98 ∧ Aside0 (j2 kq l2 a3 x139_98 a0_0 l0_1 = some r) ∧ Aside0 (kq ≤ kj24) ∧ Aside0 (Kd.R k32 32 wc w.heap.size (fun k_ => some k_ ≠ ((.slice Ao115 t676.length co115) : Value).ownBlock ∧ some k_ ≠ ((.slice Ao124 t681.length co124) : Value).ownBlock ∧ some k_ ≠ ((.slice Ao134 t687.length co134) : Value).ownBlock) (.slice Ao110 t671.length co110) t671) ∧ Aside0 (Kd.R k32 32 wc w.heap.size (fun k_ => some k_ ≠ ((.slice Ao110 t671.length co110) : Value).ownBlock ∧ some k_ ≠ ((.slice Ao124 t681.length co124) : Value).ownBlock ∧ some k_ ≠ ((.slice Ao134 t687.length co134) : Value).ownBlock) (.slice Ao115 t676.length co115) t676) ∧ Aside0 (Kd.R k32 32 wc w.heap.size (fun k_ => some k_ ≠ ((.slice Ao110 t671.length co110) : Value).ownBlock ∧ some k_ ≠ ((.slice Ao115 t676.length co115) : Value).ownBlock ∧ some k_ ≠ ((.slice Ao134 t687.length co134) : Value).ownBlock) (.slice Ao124 t681.length co124) t681) ∧ Aside0 (Kd.R k32 32 wc w.heap.size (fun k_ => some k_ ≠ ((.slice Ao110 t671.length co110) : Value).ownBlock ∧ some k_ ≠ ((.slice Ao115 t676.length co115) : Value).ownBlock ∧ some k_ ≠ ((.slice Ao124 t681.length co124) : Value).ownBlock) (.slice Ao134 t687.length co134) t687) ∧ Aside0 (wc.heap[gb646]? = some (.cells #[.int .i64 a0_0, (.slice A0_1 l0_1.length c0_1)] 30 (0, 0))) ∧ Aside0 (wc.heap[gb647]? = some (.cells #[.int .i64 a1_0, (.slice A1_1 l1_1.length c1_1)] 30 (0, 0))) ∧ Aside0 (wc.heap[gb654]? = some (.cells #[.int .i64 t670, (.slice Ao110 t671.length co110)] 30 (0, 0))) ∧ Aside0 (wc.heap[gb660]? = some (.cells #[.int .i64 t675, (.slice Ao115 t676.length co115)] 30 (0, 0))) ∧ Aside0 (wc.heap[gb685]? = some (.cells #[.int .i64 t680, (.slice Ao124 t681.length co124)] 30 (0, 0))) ∧ Aside0 (wc.heap[gb691]? = some (.cells #[.int .i64 t686, (.slice Ao134 t687.length co134)] 30 (0, 0))) ∧ Aside0 (Below w.heap.size w wc))
          case first =>
           as_aux_lemma =>
            have H := HC99.out
            clear HC99
            replace H := Option.bind_eq_some_iff.mp H
            obtain ⟨t692, A1350, H⟩ := H
            replace H : (if t692 = true then (if t674 = t679 then ((tallymankit_Hll.f kj24 t680 t681 t686 t687).bind fun t693 => (if t693 = true then (j2 kj24 l2 a3 (t684 != t690) a0_0 l0_1) else (j2 kj24 l2 a3 true a0_0 l0_1))) else (j2 kj24 l2 a3 true a0_0 l0_1)) else (j2 kj24 l2 a3 true a0_0 l0_1)) = some r := H
            have A135 := Aside0.mk A1350
            clear A1350
            by_cases c136 : t692 = true
            ·
             subst c136
             have H1 : (if t674 = t679 then ((tallymankit_Hll.f kj24 t680 t681 t686 t687).bind fun t693 => (if t693 = true then (j2 kj24 l2 a3 (t684 != t690) a0_0 l0_1) else (j2 kj24 l2 a3 true a0_0 l0_1))) else (j2 kj24 l2 a3 true a0_0 l0_1)) = some r := by rw [if_pos rfl] at H; exact H
             clear H
             have H := H1
             clear H1
             by_cases c137 : t674 = t679
             ·
              rw [if_pos c137] at H
              have c137b0 : (t674 == t679) = true := beq_iff_eq.mpr c137
              have c137b1 : (t674 != t679) = false := bne_eq_false_iff_eq.mpr c137
              clear c137
              (first | rw [c137b0] | (simp only [i64_w, i32_w]; rw [c137b0]) | skip)
              replace H := Option.bind_eq_some_iff.mp H
              obtain ⟨t693, A1380, H⟩ := H
              replace H : (if t693 = true then (j2 kj24 l2 a3 (t684 != t690) a0_0 l0_1) else (j2 kj24 l2 a3 true a0_0 l0_1)) = some r := H
              have A138 := Aside0.mk A1380
              clear A1380
              by_cases c139 : t693 = true
              ·
               subst c139
               have H1 : (j2 kj24 l2 a3 (t684 != t690) a0_0 l0_1) = some r := by rw [if_pos rfl] at H; exact H
               clear H
               have H := H1
               clear H1
               have H' := Aside0.mk H
               clear H
               have hnb140 := NB654_646.out; have hnc140 := NB646_654.out; have hnb141 := NB654_647.out; have hnc141 := NB647_654.out; have hnb142 := NB654_660.out; have hnc142 := NB660_654.out; have hnb143 := NB654_685.out; have hnc143 := NB685_654.out; have hnb144 := NB654_691.out; have hnc144 := NB691_654.out; have hcz145_0 := ca BK654.out; have hcz145_1 := cb BK654.out; have hfz145_0 := blk_frozen BK654.out 0; have hfz145_1 := blk_frozen BK654.out 1; have hnb146 := NB660_646.out; have hnc146 := NB646_660.out; have hnb147 := NB660_647.out; have hnc147 := NB647_660.out; have hnb148 := NB660_685.out; have hnc148 := NB685_660.out; have hnb149 := NB660_691.out; have hnc149 := NB691_660.out; have hcz150_0 := ca BK660.out; have hcz150_1 := cb BK660.out; have hfz150_0 := blk_frozen BK660.out 0; have hfz150_1 := blk_frozen BK660.out 1
               go_wp2_with (first | ((with_reducible refine gate_callee (f := 40) rfl ?_); refine goesL_ (some 122) rfl rfl Try.func40 (by kernel_rfl) rfl #[.agg #[.int .i64 t670, .slice Ao110 t671.length co110], .agg #[.int .i64 t675, .slice Ao115 t676.length co115]] rfl (by (try simp only [List.map_toArray, List.map_cons, List.map_nil]); first | done | rfl | (simp only [List.length_drop, List.length_take]; rfl)) ?_; (with_reducible refine (tallymankit_Hll.calls kj24 t670 _ _ t671 t675 _ _ t676 true _ ?side1 ?side2 ?side3 ?side4 A135.out).mono ?_); (case side1 => refine (Kd.R_reads' (e := 32) (base := w.heap.size) (ok := fun k_ => (((((True ∧ nb Ao33 t650.length co33 k_) ∧ nb Ao41 t656.length co41 k_) ∧ nb Ao115 t676.length co115 k_) ∧ nb Ao124 t681.length co124 k_) ∧ nb Ao134 t687.length co134 k_)) (n := t671.length) (c := co110) ?_).2.2; exact (rf HO673.out BK691.out (by decide))); (case side2 => exact (Kd.R_reads' HO673.out).2.1); (case side3 => refine (Kd.R_reads' (e := 32) (base := w.heap.size) (ok := fun k_ => (((((True ∧ nb Ao33 t650.length co33 k_) ∧ nb Ao41 t656.length co41 k_) ∧ nb Ao110 t671.length co110 k_) ∧ nb Ao124 t681.length co124 k_) ∧ nb Ao134 t687.length co134 k_)) (n := t676.length) (c := co115) ?_).2.2; exact (rf HO678.out BK691.out (by decide))); (case side4 => exact (Kd.R_reads' HO678.out).2.1); rintro e w151 ⟨rfl, hb⟩; refine ⟨_, rfl, ?_⟩; replace HO_655001 := am (Kd.R_below (rf HO_655001.out BK691.out (by decide)) hb); replace HO_661001 := am (Kd.R_below (rf HO_661001.out BK691.out (by decide)) hb); replace HO673 := am (Kd.R_below (rf HO673.out BK691.out (by decide)) hb); replace HO678 := am (Kd.R_below (rf HO678.out BK691.out (by decide)) hb); replace HO683 := am (Kd.R_below (rf HO683.out BK691.out (by decide)) hb); replace HO689 := am (Kd.R_below (rf HO689.out BK691.out (by decide)) hb); replace BK646 := am (blk_below (bf NB646_691.out BK646.out) hb); replace BK647 := am (blk_below (bf NB647_691.out BK647.out) hb); replace BK654 := am (blk_below (bf NB654_691.out BK654.out) hb); replace BK660 := am (blk_below (bf NB660_691.out BK660.out) hb); replace BK685 := am (blk_below (bf NB685_691.out BK685.out) hb); replace BK691 := am (blk_below (g := gb691) (o := .cells #[.int .i64 t686, .slice Ao134 t687.length co134] 30 (0, 0)) (by (with_reducible repeat (first | refine blk_drewN ?_ _ | refine blk_drew ?_ | refine blk_alloc ?_ _)); refine blk_put (cs := #[.int .i64 t686, .slice none 0 0]) ?_ 1 _ rfl; (with_reducible repeat (first | refine blk_drewN ?_ _ | refine blk_drew ?_ | refine blk_alloc ?_ _)); refine blk_put (cs := #[.int .i64 0, .slice none 0 0]) ?_ 0 _ rfl; (with_reducible repeat (first | refine blk_drewN ?_ _ | refine blk_drew ?_ | refine blk_alloc ?_ _)); exact BK691.out) hb); replace HB := am (below_step (by repeat (first | (with_reducible first | exact HB.out | apply below_alloc | apply pw_below_drewN | apply below_drew1 | refine below_set ?_ (Aside0.out (by assumption))) | exact HB.out)) hb); (try clear hb); have hnb152 := NB685_646.out; have hnc152 := NB646_685.out; have hnb153 := NB685_647.out; have hnc153 := NB647_685.out; have hnb154 := NB685_691.out; have hnc154 := NB691_685.out; have hcz155_0 := ca BK685.out; have hcz155_1 := cb BK685.out; have hfz155_0 := blk_frozen BK685.out 0; have hfz155_1 := blk_frozen BK685.out 1; have hnb156 := NB691_646.out; have hnc156 := NB646_691.out; have hnb157 := NB691_647.out; have hnc157 := NB647_691.out; have hcz158_0 := ca BK691.out; have hcz158_1 := cb BK691.out; have hfz158_0 := blk_frozen BK691.out 0; have hfz158_1 := blk_frozen BK691.out 1) | (go_at_call 40; (with_reducible refine (tallymankit_Hll.calls kj24 t680 _ _ t681 t686 _ _ t687 true _ ?side1 ?side2 ?side3 ?side4 A138.out).mono ?_); (case side1 => repeat (first | exact (Kd.R_reads' HO683.out).2.2 | (with_reducible refine Kd.C_alloc ?_ _) | (with_reducible refine Kd.C_drewN ?_ _) | (with_reducible refine Kd.C_drew ?_))); (case side2 => exact (Kd.R_reads' HO683.out).2.1); (case side3 => repeat (first | exact (Kd.R_reads' HO689.out).2.2 | (with_reducible refine Kd.C_alloc ?_ _) | (with_reducible refine Kd.C_drewN ?_ _) | (with_reducible refine Kd.C_drew ?_))); (case side4 => exact (Kd.R_reads' HO689.out).2.1); rintro e w159 ⟨rfl, hb⟩; replace HO_655001 := rb HO_655001 hb; replace HO_661001 := rb HO_661001 hb; replace HO673 := rb HO673 hb; replace HO678 := rb HO678 hb; replace HO683 := rb HO683 hb; replace HO689 := rb HO689 hb; replace BK646 := bb BK646 hb; replace BK647 := bb BK647 hb; replace BK654 := bb BK654 hb; replace BK660 := bb BK660 hb; replace BK685 := bb BK685 hb; replace BK691 := bb BK691 hb; replace HB := am (below_step (by repeat (first | (with_reducible first | exact HB.out | apply below_alloc | apply pw_below_drewN | apply below_drew1 | refine below_set ?_ (Aside0.out (by assumption))) | exact HB.out)) hb); (try clear hb)))
               go_meet
               case rel => exact ⟨_, ((t684 != t690)), (by first | rfl | (simp; done) | (simp [*]; done)), H', ⟨by have := HJ7.out; have := HJ24.out; first | omega | exact Nat.le_refl _⟩, ⟨by (with_reducible repeat (first | apply Kd.R_alloc | apply Kd.R_drewN | apply Kd.R_drew)); exact Kd.R_mono HO673.out (fun _ hk => ⟨hk.1.1.2, ⟨hk.1.2, hk.2⟩⟩)⟩, ⟨by (with_reducible repeat (first | apply Kd.R_alloc | apply Kd.R_drewN | apply Kd.R_drew)); exact Kd.R_mono HO678.out (fun _ hk => ⟨hk.1.1.2, ⟨hk.1.2, hk.2⟩⟩)⟩, ⟨by (with_reducible repeat (first | apply Kd.R_alloc | apply Kd.R_drewN | apply Kd.R_drew)); exact Kd.R_mono HO683.out (fun _ hk => ⟨hk.1.1.2, ⟨hk.1.2, hk.2⟩⟩)⟩, ⟨by (with_reducible repeat (first | apply Kd.R_alloc | apply Kd.R_drewN | apply Kd.R_drew)); exact Kd.R_mono HO689.out (fun _ hk => ⟨hk.1.1.2, ⟨hk.1.2, hk.2⟩⟩)⟩, ⟨bu BK646.out⟩, ⟨bu BK647.out⟩, ⟨bu BK654.out⟩, ⟨bu BK660.out⟩, ⟨bu BK685.out⟩, ⟨bu BK691.out⟩, ⟨by repeat (first | (with_reducible first | exact HB.out | apply below_alloc | apply pw_below_drewN | apply below_drew1 | refine below_set ?_ (Aside0.out (by assumption))) | exact HB.out)⟩⟩
              ·
               replace c139 := Bool.eq_false_iff.mpr c139
               subst c139
               have H1 : (j2 kj24 l2 a3 true a0_0 l0_1) = some r := by rw [if_neg (show ¬ (false = true) by decide)] at H; exact H
               clear H
               have H := H1
               clear H1
               exact (no_2 H).elim
             ·
              rw [if_neg c137] at H
              have c137b0 : (t674 == t679) = false := beq_eq_false_iff_ne.mpr c137
              have c137b1 : (t674 != t679) = true := bne_iff_ne.mpr c137
              (first | rw [c137b0] | (simp only [i64_w, i32_w]; rw [c137b0]) | skip)
              exact (no_2 H).elim
            ·
             replace c136 := Bool.eq_false_iff.mpr c136
             subst c136
             have H1 : (j2 kj24 l2 a3 true a0_0 l0_1) = some r := by rw [if_neg (show ¬ (false = true) by decide)] at H; exact H
             clear H
             have H := H1
             clear H1
             exact (no_2 H).elim
          case rest =>
           as_aux_lemma =>
            clear HC99
            try clear c1; try clear c2; try clear p2; try clear c3; try clear c4; try clear c9; try clear c10; try clear c11; try clear c12; try clear c13; try clear c14; try clear c15; try clear c16; try clear c17; try clear c18; try clear c19; try clear c20; try clear c32; try clear c40; try clear c41; try clear c43; try clear c45; try clear c46; try clear c94; try clear c100; try clear c101; try clear c102; try clear c104; try clear c105; try clear c108; try clear c119; try clear c120; try clear c121; try clear c122; try clear c128; try clear c129; try clear c130; try clear c131; try clear c132; try clear c136; try clear c137; try clear c137b0; try clear c137b1; try clear c139; try clear c140; try clear c141; try clear c142; try clear c143; try clear c144; try clear c146; try clear c147; try clear c148; try clear c149; try clear c152; try clear c153; try clear c154; try clear c156; try clear c157; try clear c160; try clear c161; try clear c162; try clear c163; try clear c164; try clear c166; try clear c167; try clear c168; try clear c169; try clear c172; try clear c173; try clear c174; try clear c176; try clear c177; try clear c180; try clear c181; try clear c182; try clear c183; try clear c184; try clear c186; try clear c187; try clear c188; try clear c189; try clear c192; try clear c193; try clear c194; try clear c195; try clear c196; try clear c198; try clear c199; try clear c200; try clear c201; try clear hcz103_0; try clear hcz103_1; try clear hcz106_0; try clear hcz106_1; try clear hcz109_0; try clear hcz109_1; try clear hcz111_0; try clear hcz111_1; try clear hcz112_0; try clear hcz112_1; try clear hcz114_0; try clear hcz114_1; try clear hcz116_0; try clear hcz116_1; try clear hcz123_0; try clear hcz123_1; try clear hcz125_0; try clear hcz125_1; try clear hcz133_0; try clear hcz133_1; try clear hcz145_0; try clear hcz145_1; try clear hcz150_0; try clear hcz150_1; try clear hcz155_0; try clear hcz155_1; try clear hcz158_0; try clear hcz158_1; try clear hcz165_0; try clear hcz165_1; try clear hcz170_0; try clear hcz170_1; try clear hcz175_0; try clear hcz175_1; try clear hcz178_0; try clear hcz178_1; try clear hcz185_0; try clear hcz185_1; try clear hcz190_0; try clear hcz190_1; try clear hcz197_0; try clear hcz197_1; try clear hcz202_0; try clear hcz202_1; try clear hfz103_0; try clear hfz103_1; try clear hfz106_0; try clear hfz106_1; try clear hfz109_0; try clear hfz109_1; try clear hfz111_0; try clear hfz111_1; try clear hfz112_0; try clear hfz112_1; try clear hfz114_0; try clear hfz114_1; try clear hfz116_0; try clear hfz116_1; try clear hfz123_0; try clear hfz123_1; try clear hfz125_0; try clear hfz125_1; try clear hfz133_0; try clear hfz133_1; try clear hfz145_0; try clear hfz145_1; try clear hfz150_0; try clear hfz150_1; try clear hfz155_0; try clear hfz155_1; try clear hfz158_0; try clear hfz158_1; try clear hfz165_0; try clear hfz165_1; try clear hfz170_0; try clear hfz170_1; try clear hfz175_0; try clear hfz175_1; try clear hfz178_0; try clear hfz178_1; try clear hfz185_0; try clear hfz185_1; try clear hfz190_0; try clear hfz190_1; try clear hfz197_0; try clear hfz197_1; try clear hfz202_0; try clear hfz202_1; try clear p2
            obtain ⟨kq, x139_98, rfl, HA, HJ98, HO_655001, HO_661001, HO_686001, HO_692001, BK646, BK647, BK654, BK660, BK685, BK691, HB⟩ := hcut
            cases kq with
            | zero => exact absurd HA.out (by simp [j2])
            | succ kj98 =>
             have H := HA.out
             clear HA
             simp only [j2] at H
             by_cases c204 : x139_98 = true
             ·
              subst c204
              have H1 : (none) = some r := by rw [if_pos rfl] at H; exact H
              clear H
              have H := H1
              clear H1
              exact absurd H (by simp)
             ·
              replace c204 := Bool.eq_false_iff.mpr c204
              subst c204
              have H1 : ((hll_New.f a3).bind fun bt694 => ((tallymanref14_New.f a3).bind fun bt699 => ((tallymankit_Hll.f kj98 bt694.1 bt694.2.1 bt699.1 bt699.2.1).bind fun t704 => (if t704 = true then (j3 kj98 l2 a3 (bt694.2.2 != bt699.2.2) a0_0 l0_1) else (j3 kj98 l2 a3 true a0_0 l0_1))))) = some r := by rw [if_neg (show ¬ (false = true) by decide)] at H; exact H
              clear H
              have H := H1
              clear H1
              replace H := Option.bind_eq_some_iff.mp H
              obtain ⟨⟨t694, t695, t698⟩, A2050, H⟩ := H
              replace H : ((tallymanref14_New.f a3).bind fun bt699 => ((tallymankit_Hll.f kj98 t694 t695 bt699.1 bt699.2.1).bind fun t704 => (if t704 = true then (j3 kj98 l2 a3 (t698 != bt699.2.2) a0_0 l0_1) else (j3 kj98 l2 a3 true a0_0 l0_1)))) = some r := H
              have A205 := Aside0.mk A2050
              clear A2050
              replace H := Option.bind_eq_some_iff.mp H
              obtain ⟨⟨t699, t700, t703⟩, A2060, H⟩ := H
              replace H : ((tallymankit_Hll.f kj98 t694 t695 t699 t700).bind fun t704 => (if t704 = true then (j3 kj98 l2 a3 (t698 != t703) a0_0 l0_1) else (j3 kj98 l2 a3 true a0_0 l0_1))) = some r := H
              have A206 := Aside0.mk A2060
              clear A2060
              have HC207 := Aside0.mk H
              clear H
              go_upto_region 17 with (first | ((with_reducible refine gate_callee (f := 24) rfl ?_); refine goesL_ (some 142) rfl rfl Try.func24 (by kernel_rfl) rfl #[.int .i64 a3] rfl (by (try simp only [List.map_toArray, List.map_cons, List.map_nil]); first | done | rfl | (simp only [List.length_drop, List.length_take]; rfl)) ?_; (with_reducible refine (hll_New.calls a3 t694 t695 t698 _ A205.out).mono ?_); rintro e w208 ⟨v696, rfl, ho0, hb⟩; refine ⟨_, rfl, ?_⟩; have HO697 := am (Kd.R_lower (Kd.R_new' (Kd.R_new' (Kd.R_new' (Kd.R_new' ho0 (Kd.R_lt (ru (HO_655001.out)))) (Kd.R_lt (ru (HO_661001.out)))) (Kd.R_lt (ru (HO_686001.out)))) (Kd.R_lt (ru (HO_692001.out)))) (below_size (by repeat (first | (with_reducible first | exact HB.out | apply below_alloc | apply pw_below_drewN | apply below_drew1 | refine below_set ?_ (Aside0.out (by assumption))) | exact HB.out)))); replace HO_655001 := am (Kd.R_elder' (ru (HO_655001.out)) (Kd.R_base ho0) hb); replace HO_661001 := am (Kd.R_elder' (ru (HO_661001.out)) (Kd.R_base ho0) hb); replace HO_686001 := am (Kd.R_elder' (ru (HO_686001.out)) (Kd.R_base ho0) hb); replace HO_692001 := am (Kd.R_elder' (ru (HO_692001.out)) (Kd.R_base ho0) hb); replace BK646 := bb BK646 hb; replace BK647 := bb BK647 hb; replace BK654 := bb BK654 hb; replace BK660 := bb BK660 hb; replace BK685 := bb BK685 hb; replace BK691 := bb BK691 hb; replace HB := am (below_step (by repeat (first | (with_reducible first | exact HB.out | apply below_alloc | apply pw_below_drewN | apply below_drew1 | refine below_set ?_ (Aside0.out (by assumption))) | exact HB.out)) hb); (try clear hb); (try clear ho0); have hnb209 := NB654_646.out; have hnc209 := NB646_654.out; have hnb210 := NB654_647.out; have hnc210 := NB647_654.out; have hnb211 := NB654_660.out; have hnc211 := NB660_654.out; have hnb212 := NB654_685.out; have hnc212 := NB685_654.out; have hnb213 := NB654_691.out; have hnc213 := NB691_654.out; have hcz214_0 := ca BK654.out; have hcz214_1 := cb BK654.out; have hfz214_0 := blk_frozen BK654.out 0; have hfz214_1 := blk_frozen BK654.out 1; obtain ⟨Ao215, co215, eo215⟩ := Kd.R_slice HO697.out; subst eo215) | ((with_reducible refine gate_callee (f := 47) rfl ?_); refine goesL_ (some 147) rfl rfl Try.func47 (by kernel_rfl) rfl #[.int .i64 a3] rfl (by (try simp only [List.map_toArray, List.map_cons, List.map_nil]); first | done | rfl | (simp only [List.length_drop, List.length_take]; rfl)) ?_; (with_reducible refine (tallymanref14_New.calls a3 t699 t700 t703 _ A206.out).mono ?_); rintro e w216 ⟨v701, rfl, ho0, hb⟩; refine ⟨_, rfl, ?_⟩; have HO702 := am (Kd.R_lower (Kd.R_new' (Kd.R_new' (Kd.R_new' (Kd.R_new' (Kd.R_new' ho0 (Kd.R_lt (rf HO_655001.out BK654.out (by decide)))) (Kd.R_lt (rf HO_661001.out BK654.out (by decide)))) (Kd.R_lt (rf HO_686001.out BK654.out (by decide)))) (Kd.R_lt (rf HO_692001.out BK654.out (by decide)))) (Kd.R_lt (rf HO697.out BK654.out (by decide)))) (below_size (by repeat (first | (with_reducible first | exact HB.out | apply below_alloc | apply pw_below_drewN | apply below_drew1 | refine below_set ?_ (Aside0.out (by assumption))) | exact HB.out)))); replace HO_655001 := am (Kd.R_elder' (rf HO_655001.out BK654.out (by decide)) (Kd.R_base ho0) hb); replace HO_661001 := am (Kd.R_elder' (rf HO_661001.out BK654.out (by decide)) (Kd.R_base ho0) hb); replace HO_686001 := am (Kd.R_elder' (rf HO_686001.out BK654.out (by decide)) (Kd.R_base ho0) hb); replace HO_692001 := am (Kd.R_elder' (rf HO_692001.out BK654.out (by decide)) (Kd.R_base ho0) hb); replace HO697 := am (Kd.R_elder' (rf HO697.out BK654.out (by decide)) (Kd.R_base ho0) hb); replace BK646 := am (blk_below (bf NB646_654.out BK646.out) hb); replace BK647 := am (blk_below (bf NB647_654.out BK647.out) hb); replace BK654 := am (blk_below (g := gb654) (o := .cells #[.int .i64 t694, .slice Ao215 t695.length co215] 30 (0, 0)) (by (with_reducible repeat (first | refine blk_drewN ?_ _ | refine blk_drew ?_ | refine blk_alloc ?_ _)); refine blk_put (cs := #[.int .i64 t694, .slice Ao110 t671.length co110]) ?_ 1 _ rfl; (with_reducible repeat (first | refine blk_drewN ?_ _ | refine blk_drew ?_ | refine blk_alloc ?_ _)); refine blk_put (cs := #[.int .i64 t670, .slice Ao110 t671.length co110]) ?_ 0 _ rfl; (with_reducible repeat (first | refine blk_drewN ?_ _ | refine blk_drew ?_ | refine blk_alloc ?_ _)); exact BK654.out) hb); replace BK660 := am (blk_below (bf NB660_654.out BK660.out) hb); replace BK685 := am (blk_below (bf NB685_654.out BK685.out) hb); replace BK691 := am (blk_below (bf NB691_654.out BK691.out) hb); replace HB := am (below_step (by repeat (first | (with_reducible first | exact HB.out | apply below_alloc | apply pw_below_drewN | apply below_drew1 | refine below_set ?_ (Aside0.out (by assumption))) | exact HB.out)) hb); (try clear hb); (try clear ho0); have hnb217 := NB660_646.out; have hnc217 := NB646_660.out; have hnb218 := NB660_647.out; have hnc218 := NB647_660.out; have hnb219 := NB660_685.out; have hnc219 := NB685_660.out; have hnb220 := NB660_691.out; have hnc220 := NB691_660.out; have hcz221_0 := ca BK660.out; have hcz221_1 := cb BK660.out; have hfz221_0 := blk_frozen BK660.out 0; have hfz221_1 := blk_frozen BK660.out 1; obtain ⟨Ao222, co222, eo222⟩ := Kd.R_slice HO702.out; subst eo222))
              (try simp only [Act.put, List.setIfInBounds_toArray, List.set_cons_zero, List.set_cons_succ])
              go_cut [158] (fun v158 wc => ∃ (kq : Nat) (x158_206 : Bool), v158 = .bool x158_206 ∧ Aside0 (j3 kq l2 a3 x158_206 a0_0 l0_1 = some r) ∧ Aside0 (kq ≤ kj98) ∧ Aside0 (Kd.R k32 32 wc w.heap.size (fun k_ => some k_ ≠ ((.slice Ao222 t700.length co222) : Value).ownBlock ∧ some k_ ≠ ((.slice Ao124 t681.length co124) : Value).ownBlock ∧ some k_ ≠ ((.slice Ao134 t687.length co134) : Value).ownBlock) (.slice Ao215 t695.length co215) t695) ∧ Aside0 (Kd.R k32 32 wc w.heap.size (fun k_ => some k_ ≠ ((.slice Ao215 t695.length co215) : Value).ownBlock ∧ some k_ ≠ ((.slice Ao124 t681.length co124) : Value).ownBlock ∧ some k_ ≠ ((.slice Ao134 t687.length co134) : Value).ownBlock) (.slice Ao222 t700.length co222) t700) ∧ Aside0 (Kd.R k32 32 wc w.heap.size (fun k_ => some k_ ≠ ((.slice Ao215 t695.length co215) : Value).ownBlock ∧ some k_ ≠ ((.slice Ao222 t700.length co222) : Value).ownBlock ∧ some k_ ≠ ((.slice Ao134 t687.length co134) : Value).ownBlock) (.slice Ao124 t681.length co124) t681) ∧ Aside0 (Kd.R k32 32 wc w.heap.size (fun k_ => some k_ ≠ ((.slice Ao215 t695.length co215) : Value).ownBlock ∧ some k_ ≠ ((.slice Ao222 t700.length co222) : Value).ownBlock ∧ some k_ ≠ ((.slice Ao124 t681.length co124) : Value).ownBlock) (.slice Ao134 t687.length co134) t687) ∧ Aside0 (wc.heap[gb646]? = some (.cells #[.int .i64 a0_0, (.slice A0_1 l0_1.length c0_1)] 30 (0, 0))) ∧ Aside0 (wc.heap[gb647]? = some (.cells #[.int .i64 a1_0, (.slice A1_1 l1_1.length c1_1)] 30 (0, 0))) ∧ Aside0 (wc.heap[gb654]? = some (.cells #[.int .i64 t694, (.slice Ao215 t695.length co215)] 30 (0, 0))) ∧ Aside0 (wc.heap[gb660]? = some (.cells #[.int .i64 t699, (.slice Ao222 t700.length co222)] 30 (0, 0))) ∧ Aside0 (wc.heap[gb685]? = some (.cells #[.int .i64 t680, (.slice Ao124 t681.length co124)] 30 (0, 0))) ∧ Aside0 (wc.heap[gb691]? = some (.cells #[.int .i64 t686, (.slice Ao134 t687.length co134)] 30 (0, 0))) ∧ Aside0 (Below w.heap.size w wc))
              case first =>
               as_aux_lemma =>
                have H := HC207.out
                clear HC207
                replace H := Option.bind_eq_some_iff.mp H
                obtain ⟨t704, A2230, H⟩ := H
                replace H : (if t704 = true then (j3 kj98 l2 a3 (t698 != t703) a0_0 l0_1) else (j3 kj98 l2 a3 true a0_0 l0_1)) = some r := H
                have A223 := Aside0.mk A2230
                clear A2230
                by_cases c224 : t704 = true
                ·
                 subst c224
                 have H1 : (j3 kj98 l2 a3 (t698 != t703) a0_0 l0_1) = some r := by rw [if_pos rfl] at H; exact H
                 clear H
                 have H := H1
                 clear H1
                 have H' := Aside0.mk H
                 clear H
                 have hnb225 := NB654_646.out; have hnc225 := NB646_654.out; have hnb226 := NB654_647.out; have hnc226 := NB647_654.out; have hnb227 := NB654_660.out; have hnc227 := NB660_654.out; have hnb228 := NB654_685.out; have hnc228 := NB685_654.out; have hnb229 := NB654_691.out; have hnc229 := NB691_654.out; have hcz230_0 := ca BK654.out; have hcz230_1 := cb BK654.out; have hfz230_0 := blk_frozen BK654.out 0; have hfz230_1 := blk_frozen BK654.out 1; have hnb231 := NB660_646.out; have hnc231 := NB646_660.out; have hnb232 := NB660_647.out; have hnc232 := NB647_660.out; have hnb233 := NB660_685.out; have hnc233 := NB685_660.out; have hnb234 := NB660_691.out; have hnc234 := NB691_660.out; have hcz235_0 := ca BK660.out; have hcz235_1 := cb BK660.out; have hfz235_0 := blk_frozen BK660.out 0; have hfz235_1 := blk_frozen BK660.out 1
                 go_wp2_with (first | ((with_reducible refine gate_callee (f := 40) rfl ?_); refine goesL_ (some 152) rfl rfl Try.func40 (by kernel_rfl) rfl #[.agg #[.int .i64 t694, .slice Ao215 t695.length co215], .agg #[.int .i64 t699, .slice Ao222 t700.length co222]] rfl (by (try simp only [List.map_toArray, List.map_cons, List.map_nil]); first | done | rfl | (simp only [List.length_drop, List.length_take]; rfl)) ?_; (with_reducible refine (tallymankit_Hll.calls kj98 t694 _ _ t695 t699 _ _ t700 true _ ?side1 ?side2 ?side3 ?side4 A223.out).mono ?_); (case side1 => refine (Kd.R_reads' (e := 32) (base := w.heap.size) (ok := fun k_ => (((((True ∧ nb Ao110 t671.length co110 k_) ∧ nb Ao115 t676.length co115 k_) ∧ nb Ao124 t681.length co124 k_) ∧ nb Ao134 t687.length co134 k_) ∧ nb Ao222 t700.length co222 k_)) (n := t695.length) (c := co215) ?_).2.2; exact (rf HO697.out BK660.out (by decide))); (case side2 => exact (Kd.R_reads' HO697.out).2.1); (case side3 => refine (Kd.R_reads' (e := 32) (base := w.heap.size) (ok := fun k_ => (((((True ∧ nb Ao110 t671.length co110 k_) ∧ nb Ao115 t676.length co115 k_) ∧ nb Ao124 t681.length co124 k_) ∧ nb Ao134 t687.length co134 k_) ∧ nb Ao215 t695.length co215 k_)) (n := t700.length) (c := co222) ?_).2.2; exact (rf HO702.out BK660.out (by decide))); (case side4 => exact (Kd.R_reads' HO702.out).2.1); rintro e w236 ⟨rfl, hb⟩; refine ⟨_, rfl, ?_⟩; replace HO_655001 := am (Kd.R_below (rf HO_655001.out BK660.out (by decide)) hb); replace HO_661001 := am (Kd.R_below (rf HO_661001.out BK660.out (by decide)) hb); replace HO_686001 := am (Kd.R_below (rf HO_686001.out BK660.out (by decide)) hb); replace HO_692001 := am (Kd.R_below (rf HO_692001.out BK660.out (by decide)) hb); replace HO697 := am (Kd.R_below (rf HO697.out BK660.out (by decide)) hb); replace HO702 := am (Kd.R_below (rf HO702.out BK660.out (by decide)) hb); replace BK646 := am (blk_below (bf NB646_660.out BK646.out) hb); replace BK647 := am (blk_below (bf NB647_660.out BK647.out) hb); replace BK654 := am (blk_below (bf NB654_660.out BK654.out) hb); replace BK660 := am (blk_below (g := gb660) (o := .cells #[.int .i64 t699, .slice Ao222 t700.length co222] 30 (0, 0)) (by (with_reducible repeat (first | refine blk_drewN ?_ _ | refine blk_drew ?_ | refine blk_alloc ?_ _)); refine blk_put (cs := #[.int .i64 t699, .slice Ao115 t676.length co115]) ?_ 1 _ rfl; (with_reducible repeat (first | refine blk_drewN ?_ _ | refine blk_drew ?_ | refine blk_alloc ?_ _)); refine blk_put (cs := #[.int .i64 t675, .slice Ao115 t676.length co115]) ?_ 0 _ rfl; (with_reducible repeat (first | refine blk_drewN ?_ _ | refine blk_drew ?_ | refine blk_alloc ?_ _)); exact BK660.out) hb); replace BK685 := am (blk_below (bf NB685_660.out BK685.out) hb); replace BK691 := am (blk_below (bf NB691_660.out BK691.out) hb); replace HB := am (below_step (by repeat (first | (with_reducible first | exact HB.out | apply below_alloc | apply pw_below_drewN | apply below_drew1 | refine below_set ?_ (Aside0.out (by assumption))) | exact HB.out)) hb); (try clear hb)))
                 go_meet
                 case rel => exact ⟨_, ((t698 != t703)), (by first | rfl | (simp; done) | (simp [*]; done)), H', ⟨by have := HJ7.out; have := HJ24.out; have := HJ98.out; first | omega | exact Nat.le_refl _⟩, ⟨by (with_reducible repeat (first | apply Kd.R_alloc | apply Kd.R_drewN | apply Kd.R_drew)); exact Kd.R_mono HO697.out (fun _ hk => ⟨hk.2, ⟨hk.1.1.2, hk.1.2⟩⟩)⟩, ⟨by (with_reducible repeat (first | apply Kd.R_alloc | apply Kd.R_drewN | apply Kd.R_drew)); exact Kd.R_mono HO702.out (fun _ hk => ⟨hk.2, ⟨hk.1.1.2, hk.1.2⟩⟩)⟩, ⟨by (with_reducible repeat (first | apply Kd.R_alloc | apply Kd.R_drewN | apply Kd.R_drew)); exact Kd.R_mono HO_686001.out (fun _ hk => ⟨hk.1.2, ⟨hk.2, hk.1.1.2.2⟩⟩)⟩, ⟨by (with_reducible repeat (first | apply Kd.R_alloc | apply Kd.R_drewN | apply Kd.R_drew)); exact Kd.R_mono HO_692001.out (fun _ hk => ⟨hk.1.2, ⟨hk.2, hk.1.1.2.2⟩⟩)⟩, ⟨bu BK646.out⟩, ⟨bu BK647.out⟩, ⟨bu BK654.out⟩, ⟨bu BK660.out⟩, ⟨bu BK685.out⟩, ⟨bu BK691.out⟩, ⟨by repeat (first | (with_reducible first | exact HB.out | apply below_alloc | apply pw_below_drewN | apply below_drew1 | refine below_set ?_ (Aside0.out (by assumption))) | exact HB.out)⟩⟩
                ·
                 replace c224 := Bool.eq_false_iff.mpr c224
                 subst c224
                 have H1 : (j3 kj98 l2 a3 true a0_0 l0_1) = some r := by rw [if_neg (show ¬ (false = true) by decide)] at H; exact H
                 clear H
                 have H := H1
                 clear H1
                 exact (no_3 H).elim
              case rest =>
               as_aux_lemma =>
                clear HC207
                try clear c1; try clear c2; try clear p2; try clear c3; try clear c4; try clear c9; try clear c10; try clear c11; try clear c12; try clear c13; try clear c14; try clear c15; try clear c16; try clear c17; try clear c18; try clear c19; try clear c20; try clear c21; try clear c22; try clear c23; try clear c24; try clear c32; try clear c40; try clear c41; try clear c43; try clear c45; try clear c46; try clear c47; try clear c94; try clear c100; try clear c101; try clear c102; try clear c104; try clear c105; try clear c108; try clear c119; try clear c120; try clear c121; try clear c122; try clear c128; try clear c129; try clear c130; try clear c131; try clear c132; try clear c136; try clear c137; try clear c137b0; try clear c137b1; try clear c139; try clear c140; try clear c141; try clear c142; try clear c143; try clear c144; try clear c146; try clear c147; try clear c148; try clear c149; try clear c152; try clear c153; try clear c154; try clear c156; try clear c157; try clear c160; try clear c161; try clear c162; try clear c163; try clear c164; try clear c166; try clear c167; try clear c168; try clear c169; try clear c172; try clear c173; try clear c174; try clear c176; try clear c177; try clear c180; try clear c181; try clear c182; try clear c183; try clear c184; try clear c186; try clear c187; try clear c188; try clear c189; try clear c192; try clear c193; try clear c194; try clear c195; try clear c196; try clear c198; try clear c199; try clear c200; try clear c201; try clear c204; try clear c209; try clear c210; try clear c211; try clear c212; try clear c213; try clear c217; try clear c218; try clear c219; try clear c220; try clear c224; try clear c225; try clear c226; try clear c227; try clear c228; try clear c229; try clear c231; try clear c232; try clear c233; try clear c234; try clear c237; try clear c238; try clear c239; try clear c240; try clear c241; try clear c243; try clear c244; try clear c245; try clear c246; try clear hcz103_0; try clear hcz103_1; try clear hcz106_0; try clear hcz106_1; try clear hcz109_0; try clear hcz109_1; try clear hcz111_0; try clear hcz111_1; try clear hcz112_0; try clear hcz112_1; try clear hcz114_0; try clear hcz114_1; try clear hcz116_0; try clear hcz116_1; try clear hcz123_0; try clear hcz123_1; try clear hcz125_0; try clear hcz125_1; try clear hcz133_0; try clear hcz133_1; try clear hcz145_0; try clear hcz145_1; try clear hcz150_0; try clear hcz150_1; try clear hcz155_0; try clear hcz155_1; try clear hcz158_0; try clear hcz158_1; try clear hcz165_0; try clear hcz165_1; try clear hcz170_0; try clear hcz170_1; try clear hcz175_0; try clear hcz175_1; try clear hcz178_0; try clear hcz178_1; try clear hcz185_0; try clear hcz185_1; try clear hcz190_0; try clear hcz190_1; try clear hcz197_0; try clear hcz197_1; try clear hcz202_0; try clear hcz202_1; try clear hcz214_0; try clear hcz214_1; try clear hcz221_0; try clear hcz221_1; try clear hcz230_0; try clear hcz230_1; try clear hcz235_0; try clear hcz235_1; try clear hcz242_0; try clear hcz242_1; try clear hcz247_0; try clear hcz247_1; try clear hfz103_0; try clear hfz103_1; try clear hfz106_0; try clear hfz106_1; try clear hfz109_0; try clear hfz109_1; try clear hfz111_0; try clear hfz111_1; try clear hfz112_0; try clear hfz112_1; try clear hfz114_0; try clear hfz114_1; try clear hfz116_0; try clear hfz116_1; try clear hfz123_0; try clear hfz123_1; try clear hfz125_0; try clear hfz125_1; try clear hfz133_0; try clear hfz133_1; try clear hfz145_0; try clear hfz145_1; try clear hfz150_0; try clear hfz150_1; try clear hfz155_0; try clear hfz155_1; try clear hfz158_0; try clear hfz158_1; try clear hfz165_0; try clear hfz165_1; try clear hfz170_0; try clear hfz170_1; try clear hfz175_0; try clear hfz175_1; try clear hfz178_0; try clear hfz178_1; try clear hfz185_0; try clear hfz185_1; try clear hfz190_0; try clear hfz190_1; try clear hfz197_0; try clear hfz197_1; try clear hfz202_0; try clear hfz202_1; try clear hfz214_0; try clear hfz214_1; try clear hfz221_0; try clear hfz221_1; try clear hfz230_0; try clear hfz230_1; try clear hfz235_0; try clear hfz235_1; try clear hfz242_0; try clear hfz242_1; try clear hfz247_0; try clear hfz247_1; try clear p2
                obtain ⟨kq, x158_206, rfl, HA, HJ206, HO_655001, HO_661001, HO_686001, HO_692001, BK646, BK647, BK654, BK660, BK685, BK691, HB⟩ := hcut
                cases kq with
                | zero => exact absurd HA.out (by simp [j3])
                | succ kj206 =>
                 have H := HA.out
                 clear HA
                 simp only [j3] at H
                 by_cases c249 : x158_206 = true
                 ·
                  subst c249
                  have H1 : (none) = some r := by rw [if_pos rfl] at H; exact H
                  clear H
                  have H := H1
                  clear H1
                  exact absurd H (by simp)
                 ·
                  replace c249 := Bool.eq_false_iff.mpr c249
                  subst c249
                  have H1 : (tallymanlaw14_HllCalls.l0 kj206 l2 a3 0 a0_0 l0_1) = some r := by rw [if_neg (show ¬ (false = true) by decide)] at H; exact H
                  clear H
                  have H := H1
                  clear H1
                  have H' := Aside0.mk H
                  clear H
                  go_wp2
                  go_loopg [19] kj206 (fun kq v19 w' => ∃ (x19_5 : Int) (x655000_5 : Int) (x655001_5 : List (S32)) (x661000_5 : Int) (x661001_5 : List (S32)) (u655001 : Value) (u661001 : Value), v19 = .int .i64 x19_5 ∧ Aside0 (tallymanlaw14_HllCalls.l0 kq l2 a3 x19_5 a0_0 l0_1 = some r) ∧ Aside0 (kq ≤ kj206) ∧ Aside0 (Kd.R k32 32 w' w.heap.size (fun k_ => some k_ ≠ (u661001 : Value).ownBlock ∧ some k_ ≠ ((.slice Ao124 t681.length co124) : Value).ownBlock ∧ some k_ ≠ ((.slice Ao134 t687.length co134) : Value).ownBlock) u655001 x655001_5) ∧ Aside0 (Kd.R k32 32 w' w.heap.size (fun k_ => some k_ ≠ (u655001 : Value).ownBlock ∧ some k_ ≠ ((.slice Ao124 t681.length co124) : Value).ownBlock ∧ some k_ ≠ ((.slice Ao134 t687.length co134) : Value).ownBlock) u661001 x661001_5) ∧ Aside0 (Kd.R k32 32 w' w.heap.size (fun k_ => some k_ ≠ (u655001 : Value).ownBlock ∧ some k_ ≠ (u661001 : Value).ownBlock ∧ some k_ ≠ ((.slice Ao134 t687.length co134) : Value).ownBlock) (.slice Ao124 t681.length co124) t681) ∧ Aside0 (Kd.R k32 32 w' w.heap.size (fun k_ => some k_ ≠ (u655001 : Value).ownBlock ∧ some k_ ≠ (u661001 : Value).ownBlock ∧ some k_ ≠ ((.slice Ao124 t681.length co124) : Value).ownBlock) (.slice Ao134 t687.length co134) t687) ∧ Aside0 (w'.heap[gb646]? = some (.cells #[.int .i64 a0_0, (.slice A0_1 l0_1.length c0_1)] 30 (0, 0))) ∧ Aside0 (w'.heap[gb647]? = some (.cells #[.int .i64 a1_0, (.slice A1_1 l1_1.length c1_1)] 30 (0, 0))) ∧ Aside0 (w'.heap[gb654]? = some (.cells #[.int .i64 x655000_5, u655001] 30 (0, 0))) ∧ Aside0 (w'.heap[gb660]? = some (.cells #[.int .i64 x661000_5, u661001] 30 (0, 0))) ∧ Aside0 (w'.heap[gb685]? = some (.cells #[.int .i64 t680, (.slice Ao124 t681.length co124)] 30 (0, 0))) ∧ Aside0 (w'.heap[gb691]? = some (.cells #[.int .i64 t686, (.slice Ao134 t687.length co134)] 30 (0, 0))) ∧ Aside0 (Below w.heap.size w w'))
                  case atStart => exact ⟨(0), (t694), (t695), (t699), (t700), (.slice Ao215 t695.length co215), (.slice Ao222 t700.length co222), (by first | rfl | (simp; done) | (simp [*]; done)), H', ⟨Nat.le_refl _⟩, ⟨ru HO_655001.out⟩, ⟨ru HO_661001.out⟩, ⟨ru HO_686001.out⟩, ⟨ru HO_692001.out⟩, ⟨bu BK646.out⟩, ⟨bu BK647.out⟩, ⟨bu BK654.out⟩, ⟨bu BK660.out⟩, ⟨bu BK685.out⟩, ⟨bu BK691.out⟩, ⟨by repeat (first | (with_reducible first | exact HB.out | apply below_alloc | apply pw_below_drewN | apply below_drew1 | refine below_set ?_ (Aside0.out (by assumption))) | exact HB.out)⟩⟩
                  case round =>
                   clear H'
                   try clear c1; try clear c2; try clear p2; try clear c3; try clear c4; try clear c9; try clear c10; try clear c11; try clear c12; try clear c13; try clear c14; try clear c15; try clear c16; try clear c17; try clear c18; try clear c19; try clear c20; try clear c21; try clear c22; try clear c23; try clear c24; try clear c32; try clear c40; try clear c41; try clear c43; try clear c45; try clear c46; try clear c47; try clear c94; try clear c100; try clear c101; try clear c102; try clear c104; try clear c105; try clear c108; try clear c119; try clear c120; try clear c121; try clear c122; try clear c128; try clear c129; try clear c130; try clear c131; try clear c132; try clear c136; try clear c137; try clear c137b0; try clear c137b1; try clear c139; try clear c140; try clear c141; try clear c142; try clear c143; try clear c144; try clear c146; try clear c147; try clear c148; try clear c149; try clear c152; try clear c153; try clear c154; try clear c156; try clear c157; try clear c160; try clear c161; try clear c162; try clear c163; try clear c164; try clear c166; try clear c167; try clear c168; try clear c169; try clear c172; try clear c173; try clear c174; try clear c176; try clear c177; try clear c180; try clear c181; try clear c182; try clear c183; try clear c184; try clear c186; try clear c187; try clear c188; try clear c189; try clear c192; try clear c193; try clear c194; try clear c195; try clear c196; try clear c198; try clear c199; try clear c200; try clear c201; try clear c204; try clear c209; try clear c210; try clear c211; try clear c212; try clear c213; try clear c217; try clear c218; try clear c219; try clear c220; try clear c224; try clear c225; try clear c226; try clear c227; try clear c228; try clear c229; try clear c231; try clear c232; try clear c233; try clear c234; try clear c237; try clear c238; try clear c239; try clear c240; try clear c241; try clear c243; try clear c244; try clear c245; try clear c246; try clear c249; try clear hcz103_0; try clear hcz103_1; try clear hcz106_0; try clear hcz106_1; try clear hcz109_0; try clear hcz109_1; try clear hcz111_0; try clear hcz111_1; try clear hcz112_0; try clear hcz112_1; try clear hcz114_0; try clear hcz114_1; try clear hcz116_0; try clear hcz116_1; try clear hcz123_0; try clear hcz123_1; try clear hcz125_0; try clear hcz125_1; try clear hcz133_0; try clear hcz133_1; try clear hcz145_0; try clear hcz145_1; try clear hcz150_0; try clear hcz150_1; try clear hcz155_0; try clear hcz155_1; try clear hcz158_0; try clear hcz158_1; try clear hcz165_0; try clear hcz165_1; try clear hcz170_0; try clear hcz170_1; try clear hcz175_0; try clear hcz175_1; try clear hcz178_0; try clear hcz178_1; try clear hcz185_0; try clear hcz185_1; try clear hcz190_0; try clear hcz190_1; try clear hcz197_0; try clear hcz197_1; try clear hcz202_0; try clear hcz202_1; try clear hcz214_0; try clear hcz214_1; try clear hcz221_0; try clear hcz221_1; try clear hcz230_0; try clear hcz230_1; try clear hcz235_0; try clear hcz235_1; try clear hcz242_0; try clear hcz242_1; try clear hcz247_0; try clear hcz247_1; try clear hfz103_0; try clear hfz103_1; try clear hfz106_0; try clear hfz106_1; try clear hfz109_0; try clear hfz109_1; try clear hfz111_0; try clear hfz111_1; try clear hfz112_0; try clear hfz112_1; try clear hfz114_0; try clear hfz114_1; try clear hfz116_0; try clear hfz116_1; try clear hfz123_0; try clear hfz123_1; try clear hfz125_0; try clear hfz125_1; try clear hfz133_0; try clear hfz133_1; try clear hfz145_0; try clear hfz145_1; try clear hfz150_0; try clear hfz150_1; try clear hfz155_0; try clear hfz155_1; try clear hfz158_0; try clear hfz158_1; try clear hfz165_0; try clear hfz165_1; try clear hfz170_0; try clear hfz170_1; try clear hfz175_0; try clear hfz175_1; try clear hfz178_0; try clear hfz178_1; try clear hfz185_0; try clear hfz185_1; try clear hfz190_0; try clear hfz190_1; try clear hfz197_0; try clear hfz197_1; try clear hfz202_0; try clear hfz202_1; try clear hfz214_0; try clear hfz214_1; try clear hfz221_0; try clear hfz221_1; try clear hfz230_0; try clear hfz230_1; try clear hfz235_0; try clear hfz235_1; try clear hfz242_0; try clear hfz242_1; try clear hfz247_0; try clear hfz247_1; try clear p2
                   obtain ⟨x19_5, x655000_5, x655001_5, x661000_5, x661001_5, u655001, u661001, rfl, HA, HK5, HO_655001, HO_661001, HO_686001, HO_692001, BK646, BK647, BK654, BK660, BK685, BK691, HB⟩ := hrel
                   cases gk with
                   | zero => exact absurd HA.out (by simp [tallymanlaw14_HllCalls.l0])
                   | succ k5 =>
                    have H := HA.out
                    clear HA
                    simp only [tallymanlaw14_HllCalls.l0] at H
                    have HC250 := Aside0.mk H
                    clear H
                    go_upto_region 20 with (fail)
                    go_cut [166] (fun v166 wc => ∃ (kq : Nat) (x166_249 : Bool), v166 = .bool x166_249 ∧ Aside0 (j5 kq l2 a3 x19_5 x166_249 a0_0 l0_1 = some r) ∧ Aside0 (kq ≤ k5) ∧ Aside0 (Kd.R k32 32 wc w.heap.size (fun k_ => some k_ ≠ (u661001 : Value).ownBlock ∧ some k_ ≠ ((.slice Ao124 t681.length co124) : Value).ownBlock ∧ some k_ ≠ ((.slice Ao134 t687.length co134) : Value).ownBlock) u655001 x655001_5) ∧ Aside0 (Kd.R k32 32 wc w.heap.size (fun k_ => some k_ ≠ (u655001 : Value).ownBlock ∧ some k_ ≠ ((.slice Ao124 t681.length co124) : Value).ownBlock ∧ some k_ ≠ ((.slice Ao134 t687.length co134) : Value).ownBlock) u661001 x661001_5) ∧ Aside0 (Kd.R k32 32 wc w.heap.size (fun k_ => some k_ ≠ (u655001 : Value).ownBlock ∧ some k_ ≠ (u661001 : Value).ownBlock ∧ some k_ ≠ ((.slice Ao134 t687.length co134) : Value).ownBlock) (.slice Ao124 t681.length co124) t681) ∧ Aside0 (Kd.R k32 32 wc w.heap.size (fun k_ => some k_ ≠ (u655001 : Value).ownBlock ∧ some k_ ≠ (u661001 : Value).ownBlock ∧ some k_ ≠ ((.slice Ao124 t681.length co124) : Value).ownBlock) (.slice Ao134 t687.length co134) t687) ∧ Aside0 (wc.heap[gb646]? = some (.cells #[.int .i64 a0_0, (.slice A0_1 l0_1.length c0_1)] 30 (0, 0))) ∧ Aside0 (wc.heap[gb647]? = some (.cells #[.int .i64 a1_0, (.slice A1_1 l1_1.length c1_1)] 30 (0, 0))) ∧ Aside0 (wc.heap[gb654]? = some (.cells #[.int .i64 x655000_5, u655001] 30 (0, 0))) ∧ Aside0 (wc.heap[gb660]? = some (.cells #[.int .i64 x661000_5, u661001] 30 (0, 0))) ∧ Aside0 (wc.heap[gb685]? = some (.cells #[.int .i64 t680, (.slice Ao124 t681.length co124)] 30 (0, 0))) ∧ Aside0 (wc.heap[gb691]? = some (.cells #[.int .i64 t686, (.slice Ao134 t687.length co134)] 30 (0, 0))) ∧ Aside0 (Below w.heap.size w wc))
                    case first =>
                     as_aux_lemma =>
                      have H := HC250.out
                      clear HC250
                      by_cases c251 : x19_5 < (l2.length : Int)
                      ·
                       rw [if_pos c251] at H
                       have c251b0 : decide (x19_5 < (l2.length : Int)) = true := decide_eq_true c251
                       clear c251
                       (first | rw [c251b0] | (simp only [i64_w, i32_w]; rw [c251b0]) | skip)
                       have H' := Aside0.mk H
                       clear H
                       go_wp2
                       go_meet
                       case rel => exact ⟨_, (decide (x19_5 < 40)), (by first | rfl | (simp; done) | (simp [*]; done)), H', ⟨by have := HJ7.out; have := HJ24.out; have := HJ98.out; have := HJ206.out; have := HK5.out; first | omega | exact Nat.le_refl _⟩, ⟨ru HO_655001.out⟩, ⟨ru HO_661001.out⟩, ⟨ru HO_686001.out⟩, ⟨ru HO_692001.out⟩, ⟨bu BK646.out⟩, ⟨bu BK647.out⟩, ⟨bu BK654.out⟩, ⟨bu BK660.out⟩, ⟨bu BK685.out⟩, ⟨bu BK691.out⟩, ⟨by repeat (first | (with_reducible first | exact HB.out | apply below_alloc | apply pw_below_drewN | apply below_drew1 | refine below_set ?_ (Aside0.out (by assumption))) | exact HB.out)⟩⟩
                      ·
                       rw [if_neg c251] at H
                       have c251b0 : decide (x19_5 < (l2.length : Int)) = false := decide_eq_false c251
                       clear c251
                       (first | rw [c251b0] | (simp only [i64_w, i32_w]; rw [c251b0]) | skip)
                       have H' := Aside0.mk H
                       clear H
                       go_wp2
                       go_meet
                       case rel => exact ⟨_, (false), (by first | rfl | (simp; done) | (simp [*]; done)), H', ⟨by have := HJ7.out; have := HJ24.out; have := HJ98.out; have := HJ206.out; have := HK5.out; first | omega | exact Nat.le_refl _⟩, ⟨ru HO_655001.out⟩, ⟨ru HO_661001.out⟩, ⟨ru HO_686001.out⟩, ⟨ru HO_692001.out⟩, ⟨bu BK646.out⟩, ⟨bu BK647.out⟩, ⟨bu BK654.out⟩, ⟨bu BK660.out⟩, ⟨bu BK685.out⟩, ⟨bu BK691.out⟩, ⟨by repeat (first | (with_reducible first | exact HB.out | apply below_alloc | apply pw_below_drewN | apply below_drew1 | refine below_set ?_ (Aside0.out (by assumption))) | exact HB.out)⟩⟩
                    case rest =>
                     as_aux_lemma =>
                      clear HC250
                      try clear c1; try clear c2; try clear p2; try clear c3; try clear c4; try clear c9; try clear c10; try clear c11; try clear c12; try clear c13; try clear c14; try clear c15; try clear c16; try clear c17; try clear c18; try clear c19; try clear c20; try clear c21; try clear c22; try clear c23; try clear c24; try clear c25; try clear c32; try clear c40; try clear c41; try clear c43; try clear c45; try clear c46; try clear c47; try clear c94; try clear c100; try clear c101; try clear c102; try clear c104; try clear c105; try clear c108; try clear c119; try clear c120; try clear c121; try clear c122; try clear c128; try clear c129; try clear c130; try clear c131; try clear c132; try clear c136; try clear c137; try clear c137b0; try clear c137b1; try clear c139; try clear c140; try clear c141; try clear c142; try clear c143; try clear c144; try clear c146; try clear c147; try clear c148; try clear c149; try clear c152; try clear c153; try clear c154; try clear c156; try clear c157; try clear c160; try clear c161; try clear c162; try clear c163; try clear c164; try clear c166; try clear c167; try clear c168; try clear c169; try clear c172; try clear c173; try clear c174; try clear c176; try clear c177; try clear c180; try clear c181; try clear c182; try clear c183; try clear c184; try clear c186; try clear c187; try clear c188; try clear c189; try clear c192; try clear c193; try clear c194; try clear c195; try clear c196; try clear c198; try clear c199; try clear c200; try clear c201; try clear c204; try clear c209; try clear c210; try clear c211; try clear c212; try clear c213; try clear c217; try clear c218; try clear c219; try clear c220; try clear c224; try clear c225; try clear c226; try clear c227; try clear c228; try clear c229; try clear c231; try clear c232; try clear c233; try clear c234; try clear c237; try clear c238; try clear c239; try clear c240; try clear c241; try clear c243; try clear c244; try clear c245; try clear c246; try clear c249; try clear c251; try clear c251b0; try clear hcz103_0; try clear hcz103_1; try clear hcz106_0; try clear hcz106_1; try clear hcz109_0; try clear hcz109_1; try clear hcz111_0; try clear hcz111_1; try clear hcz112_0; try clear hcz112_1; try clear hcz114_0; try clear hcz114_1; try clear hcz116_0; try clear hcz116_1; try clear hcz123_0; try clear hcz123_1; try clear hcz125_0; try clear hcz125_1; try clear hcz133_0; try clear hcz133_1; try clear hcz145_0; try clear hcz145_1; try clear hcz150_0; try clear hcz150_1; try clear hcz155_0; try clear hcz155_1; try clear hcz158_0; try clear hcz158_1; try clear hcz165_0; try clear hcz165_1; try clear hcz170_0; try clear hcz170_1; try clear hcz175_0; try clear hcz175_1; try clear hcz178_0; try clear hcz178_1; try clear hcz185_0; try clear hcz185_1; try clear hcz190_0; try clear hcz190_1; try clear hcz197_0; try clear hcz197_1; try clear hcz202_0; try clear hcz202_1; try clear hcz214_0; try clear hcz214_1; try clear hcz221_0; try clear hcz221_1; try clear hcz230_0; try clear hcz230_1; try clear hcz235_0; try clear hcz235_1; try clear hcz242_0; try clear hcz242_1; try clear hcz247_0; try clear hcz247_1; try clear hfz103_0; try clear hfz103_1; try clear hfz106_0; try clear hfz106_1; try clear hfz109_0; try clear hfz109_1; try clear hfz111_0; try clear hfz111_1; try clear hfz112_0; try clear hfz112_1; try clear hfz114_0; try clear hfz114_1; try clear hfz116_0; try clear hfz116_1; try clear hfz123_0; try clear hfz123_1; try clear hfz125_0; try clear hfz125_1; try clear hfz133_0; try clear hfz133_1; try clear hfz145_0; try clear hfz145_1; try clear hfz150_0; try clear hfz150_1; try clear hfz155_0; try clear hfz155_1; try clear hfz158_0; try clear hfz158_1; try clear hfz165_0; try clear hfz165_1; try clear hfz170_0; try clear hfz170_1; try clear hfz175_0; try clear hfz175_1; try clear hfz178_0; try clear hfz178_1; try clear hfz185_0; try clear hfz185_1; try clear hfz190_0; try clear hfz190_1; try clear hfz197_0; try clear hfz197_1; try clear hfz202_0; try clear hfz202_1; try clear hfz214_0; try clear hfz214_1; try clear hfz221_0; try clear hfz221_1; try clear hfz230_0; try clear hfz230_1; try clear hfz235_0; try clear hfz235_1; try clear hfz242_0; try clear hfz242_1; try clear hfz247_0; try clear hfz247_1; try clear p2
                      obtain ⟨kq, x166_249, rfl, HA, HJ249, HO_655001, HO_661001, HO_686001, HO_692001, BK646, BK647, BK654, BK660, BK685, BK691, HB⟩ := hcut
                      cases kq with
                      | zero => exact absurd HA.out (by simp [j5])
                      | succ kj249 =>
                       have H := HA.out
                       clear HA
                       simp only [j5] at H
                       by_cases c252 : x166_249 = true
                       ·
                        subst c252
                        have H1 : (if 0 ≤ x19_5 then (if x19_5 < (l2.length : Int) then ((hll_Split.f a3 (rd l2 x19_5)).bind fun bt706 => ((tallymanref14_Split.f kj249 a3 (rd l2 x19_5)).bind fun bt710 => ((hll_Add.f kj249 a0_0 l0_1 (rd l2 x19_5)).bind fun bt714 => ((tallymanref14_Add.f kj249 a0_0 l0_1 (rd l2 x19_5)).bind fun bt720 => (if bt706.1 = bt710.1 then (if bt706.2.1 = bt710.2.1 then (if bt706.2.2 = bt710.2.2 then ((tallymankit_Hll.f kj249 bt714.1 bt714.2.1 bt720.1 bt720.2.1).bind fun t725 => (if t725 = true then (if bt714.2.2 = bt720.2.2 then (tallymanlaw14_HllCalls.l0 kj249 l2 a3 (wrap64 (x19_5 + 1)) a0_0 l0_1) else (none)) else (none))) else (none)) else (none)) else (none)))))) else (none)) else (none)) = some r := by rw [if_pos rfl] at H; exact H
                        clear H
                        have H := H1
                        clear H1
                        by_cases c253 : 0 ≤ x19_5
                        ·
                         rw [if_pos c253] at H
                         have c253b0 : decide (0 ≤ x19_5) = true := decide_eq_true c253
                         clear c253
                         by_cases c254 : x19_5 < (l2.length : Int)
                         ·
                          rw [if_pos c254] at H
                          have c254b0 : decide (x19_5 < (l2.length : Int)) = true := decide_eq_true c254
                          clear c254
                          replace H := Option.bind_eq_some_iff.mp H
                          obtain ⟨⟨t706, t707, t708⟩, A2550, H⟩ := H
                          replace H : ((tallymanref14_Split.f kj249 a3 (rd l2 x19_5)).bind fun bt710 => ((hll_Add.f kj249 a0_0 l0_1 (rd l2 x19_5)).bind fun bt714 => ((tallymanref14_Add.f kj249 a0_0 l0_1 (rd l2 x19_5)).bind fun bt720 => (if t706 = bt710.1 then (if t707 = bt710.2.1 then (if t708 = bt710.2.2 then ((tallymankit_Hll.f kj249 bt714.1 bt714.2.1 bt720.1 bt720.2.1).bind fun t725 => (if t725 = true then (if bt714.2.2 = bt720.2.2 then (tallymanlaw14_HllCalls.l0 kj249 l2 a3 (wrap64 (x19_5 + 1)) a0_0 l0_1) else (none)) else (none))) else (none)) else (none)) else (none))))) = some r := H
                          have A255 := Aside0.mk A2550
                          clear A2550
                          replace H := Option.bind_eq_some_iff.mp H
                          obtain ⟨⟨t710, t711, t712⟩, A2560, H⟩ := H
                          replace H : ((hll_Add.f kj249 a0_0 l0_1 (rd l2 x19_5)).bind fun bt714 => ((tallymanref14_Add.f kj249 a0_0 l0_1 (rd l2 x19_5)).bind fun bt720 => (if t706 = t710 then (if t707 = t711 then (if t708 = t712 then ((tallymankit_Hll.f kj249 bt714.1 bt714.2.1 bt720.1 bt720.2.1).bind fun t725 => (if t725 = true then (if bt714.2.2 = bt720.2.2 then (tallymanlaw14_HllCalls.l0 kj249 l2 a3 (wrap64 (x19_5 + 1)) a0_0 l0_1) else (none)) else (none))) else (none)) else (none)) else (none)))) = some r := H
                          have A256 := Aside0.mk A2560
                          clear A2560
                          replace H := Option.bind_eq_some_iff.mp H
                          obtain ⟨⟨t714, t715, t718⟩, A2570, H⟩ := H
                          replace H : ((tallymanref14_Add.f kj249 a0_0 l0_1 (rd l2 x19_5)).bind fun bt720 => (if t706 = t710 then (if t707 = t711 then (if t708 = t712 then ((tallymankit_Hll.f kj249 t714 t715 bt720.1 bt720.2.1).bind fun t725 => (if t725 = true then (if t718 = bt720.2.2 then (tallymanlaw14_HllCalls.l0 kj249 l2 a3 (wrap64 (x19_5 + 1)) a0_0 l0_1) else (none)) else (none))) else (none)) else (none)) else (none))) = some r := H
                          have A257 := Aside0.mk A2570
                          clear A2570
                          replace H := Option.bind_eq_some_iff.mp H
                          obtain ⟨⟨t720, t721, t724⟩, A2580, H⟩ := H
                          replace H : (if t706 = t710 then (if t707 = t711 then (if t708 = t712 then ((tallymankit_Hll.f kj249 t714 t715 t720 t721).bind fun t725 => (if t725 = true then (if t718 = t724 then (tallymanlaw14_HllCalls.l0 kj249 l2 a3 (wrap64 (x19_5 + 1)) a0_0 l0_1) else (none)) else (none))) else (none)) else (none)) else (none)) = some r := H
                          have A258 := Aside0.mk A2580
                          clear A2580
                          by_cases c259 : t706 = t710
                          ·
                           rw [if_pos c259] at H
                           have c259b0 : (t706 == t710) = true := beq_iff_eq.mpr c259
                           have c259b1 : (t706 != t710) = false := bne_eq_false_iff_eq.mpr c259
                           clear c259
                           by_cases c260 : t707 = t711
                           ·
                            rw [if_pos c260] at H
                            have c260b0 : (t707 == t711) = true := beq_iff_eq.mpr c260
                            have c260b1 : (t707 != t711) = false := bne_eq_false_iff_eq.mpr c260
                            clear c260
                            by_cases c261 : t708 = t712
                            ·
                             rw [if_pos c261] at H
                             have c261b0 : (t708 == t712) = true := beq_iff_eq.mpr c261
                             have c261b1 : (t708 != t712) = false := bne_eq_false_iff_eq.mpr c261
                             clear c261
                             replace H := Option.bind_eq_some_iff.mp H
                             obtain ⟨t725, A2620, H⟩ := H
                             replace H : (if t725 = true then (if t718 = t724 then (tallymanlaw14_HllCalls.l0 kj249 l2 a3 (wrap64 (x19_5 + 1)) a0_0 l0_1) else (none)) else (none)) = some r := H
                             have A262 := Aside0.mk A2620
                             clear A2620
                             by_cases c263 : t725 = true
                             ·
                              subst c263
                              have H1 : (if t718 = t724 then (tallymanlaw14_HllCalls.l0 kj249 l2 a3 (wrap64 (x19_5 + 1)) a0_0 l0_1) else (none)) = some r := by rw [if_pos rfl] at H; exact H
                              clear H
                              have H := H1
                              clear H1
                              by_cases c264 : t718 = t724
                              ·
                               rw [if_pos c264] at H
                               have c264b0 : (t718 == t724) = true := beq_iff_eq.mpr c264
                               have c264b1 : (t718 != t724) = false := bne_eq_false_iff_eq.mpr c264
                               clear c264
                               have H' := Aside0.mk H
                               clear H
                               have p705 : 0 ≤ (x19_5 : Int) := of_decide_eq_true (by first | (with_reducible assumption) | assumption)
                               have q705 : x19_5 < (l2.length : Int) := of_decide_eq_true (by first | (with_reducible assumption) | assumption)
                               obtain ⟨ad705, e705, hx705_0⟩ := Kd.at_int HR2.out x19_5 p705 q705
                               cases e705
                               replace hx705_0 := (HB.out.cell (World.block_lt_of_cell? w _ hx705_0)).trans hx705_0
                               replace p705 := eq_true p705
                               replace q705 := eq_true q705
                               try go_wp2_with (first | ((with_reducible refine gate_callee (f := 26) rfl ?_); refine goesL_ (some 175) rfl rfl Try.func26 (by kernel_rfl) rfl #[.int .i64 a3, .int .u64 (rd l2 x19_5)] rfl (by (try simp only [List.map_toArray, List.map_cons, List.map_nil]); first | done | rfl | (simp only [List.length_drop, List.length_take]; rfl)) ?_; (with_reducible refine (hll_Split.calls a3 (rd l2 x19_5) t706 t707 t708 _ A255.out).mono ?_); rintro e w265 ⟨rfl, hb⟩; refine ⟨_, rfl, ?_⟩; replace HO_655001 := rb HO_655001 hb; replace HO_661001 := rb HO_661001 hb; replace HO_686001 := rb HO_686001 hb; replace HO_692001 := rb HO_692001 hb; replace BK646 := bb BK646 hb; replace BK647 := bb BK647 hb; replace BK654 := bb BK654 hb; replace BK660 := bb BK660 hb; replace BK685 := bb BK685 hb; replace BK691 := bb BK691 hb; replace HB := am (below_step (by repeat (first | (with_reducible first | exact HB.out | apply below_alloc | apply pw_below_drewN | apply below_drew1 | refine below_set ?_ (Aside0.out (by assumption))) | exact HB.out)) hb); (try clear hb); have p709 : 0 ≤ (x19_5 : Int) := of_decide_eq_true (by first | (with_reducible assumption) | assumption); have q709 : x19_5 < (l2.length : Int) := of_decide_eq_true (by first | (with_reducible assumption) | assumption); obtain ⟨ad709, e709, hx709_0⟩ := Kd.at_int HR2.out x19_5 p709 q709; obtain rfl : ad705 = ad709 := (by injection e709); replace hx709_0 := (HB.out.cell (World.block_lt_of_cell? w _ hx709_0)).trans hx709_0; replace p709 := eq_true p709; replace q709 := eq_true q709) | ((with_reducible refine gate_callee (f := 48) rfl ?_); refine goesL_ (some 185) rfl rfl Try.func48 (by kernel_rfl) rfl #[.int .i64 a3, .int .u64 (rd l2 x19_5)] rfl (by (try simp only [List.map_toArray, List.map_cons, List.map_nil]); first | done | rfl | (simp only [List.length_drop, List.length_take]; rfl)) ?_; (with_reducible refine (tallymanref14_Split.calls kj249 a3 (rd l2 x19_5) t710 t711 t712 _ A256.out).mono ?_); rintro e w266 ⟨rfl, hb⟩; refine ⟨_, rfl, ?_⟩; replace HO_655001 := rb HO_655001 hb; replace HO_661001 := rb HO_661001 hb; replace HO_686001 := rb HO_686001 hb; replace HO_692001 := rb HO_692001 hb; replace BK646 := bb BK646 hb; replace BK647 := bb BK647 hb; replace BK654 := bb BK654 hb; replace BK660 := bb BK660 hb; replace BK685 := bb BK685 hb; replace BK691 := bb BK691 hb; replace HB := am (below_step (by repeat (first | (with_reducible first | exact HB.out | apply below_alloc | apply pw_below_drewN | apply below_drew1 | refine below_set ?_ (Aside0.out (by assumption))) | exact HB.out)) hb); (try clear hb)))
                               replace HO_655001 := am (Kd.R_drew HO_655001.out); replace HO_661001 := am (Kd.R_drew HO_661001.out); replace HO_686001 := am (Kd.R_drew HO_686001.out); replace HO_692001 := am (Kd.R_drew HO_692001.out); replace BK646 := am (blk_drew BK646.out); replace BK647 := am (blk_drew BK647.out); replace BK654 := am (blk_drew BK654.out); replace BK660 := am (blk_drew BK660.out); replace BK685 := am (blk_drew BK685.out); replace BK691 := am (blk_drew BK691.out); replace HB := am (below_drew1 HB.out)
                               have p713 : 0 ≤ (x19_5 : Int) := of_decide_eq_true (by first | (with_reducible assumption) | assumption)
                               have q713 : x19_5 < (l2.length : Int) := of_decide_eq_true (by first | (with_reducible assumption) | assumption)
                               obtain ⟨ad713, e713, hx713_0⟩ := Kd.at_int HR2.out x19_5 p713 q713
                               have hw713_0 := hx713_0
                               obtain rfl : ad705 = ad713 := (by injection e713)
                               replace hx713_0 := (HB.out.cell (World.block_lt_of_cell? w _ hx713_0)).trans hx713_0
                               replace p713 := eq_true p713
                               replace q713 := eq_true q713
                               refine start_ (n := 11) (S := fun w' => w'.cell? ⟨gb646, 0, none⟩ = some (.int .i64 a0_0) ∧ w'.cell? ⟨gb646, 1, none⟩ = some (.slice A0_1 l0_1.length c0_1) ∧ w'.cell? (ad705.add (x19_5).toNat) = some (.int .u64 (rd l2 x19_5))) (ds := []) (tb 0 11) (by kernel_rfl) rfl rfl ⟨(blk_cell BK646.out 0).trans rfl, (blk_cell BK646.out 1).trans rfl, ((HB.out.cell (World.block_lt_of_cell? w _ hw713_0)).trans hw713_0)⟩ (fun hHeld => ?_); refine with_tabW tallymanlaw14_HllCalls.tab24 tallymanlaw14_HllCalls.bits24 (fun HT_ HW_ => ?_)
                               generalize w266.drew = w267 at HO_655001 HO_661001 HO_686001 HO_692001 BK646 BK647 BK654 BK660 BK685 BK691 HB hx713_0 hHeld ⊢
                               refine pu 1 (some 191) (v := ?_) (a' := ?_) #[false, true, false, false, false, false, false, false, false, false, false] rfl rfl (any_of HT_.out (by kernel_rfl)) (fun _ _ _ h => h) ⟨by rfl, ?_⟩ ?_ ?_; rotate_left; · (intro w'; go_simp; with_reducible rfl)
                               rotate_left; · (simp only [Act.put, sa_, sb_, sc_, i64_w, i32_w]; rfl)
                               refine pu 2 (some 192) (v := ?_) (a' := ?_) #[false, true, true, false, false, false, false, false, false, false, false] rfl rfl (any_of HT_.out (by kernel_rfl)) (fun _ _ _ h => h) ⟨by rfl, ?_⟩ ?_ ?_; rotate_left; · (intro w'; go_simp; with_reducible rfl)
                               rotate_left; · (simp only [Act.put, sa_, sb_, sc_, i64_w, i32_w]; rfl)
                               refine pu 3 (some 193) (v := ?_) (a' := ?_) #[false, true, true, true, false, false, false, false, false, false, false] rfl rfl (any_of HT_.out (by kernel_rfl)) (fun _ _ _ h => h) ⟨by rfl, ?_⟩ ?_ ?_; rotate_left; · (intro w'; go_simp; with_reducible rfl)
                               rotate_left; · (simp only [Act.put, sa_, sb_, sc_, i64_w, i32_w]; rfl)
                               refine tk 0 (some 190) (v := ?_) (a' := ?_) (tb 4 11) rfl rfl (take_ofW HT_.out HW_.out (by kernel_rfl)) (fun _ _ _ h => h) ⟨by rfl, ?_⟩ hHeld ?_ ?_; rotate_left; · (rintro w' ⟨s0, s1, s2⟩; go_simp; with_reducible rfl)
                               rotate_left; · (simp only [Act.put, sa_, sb_, sc_, i64_w, i32_w]; rfl)
                               refine tk 4 (some 194) (v := ?_) (a' := ?_) (tb 5 11) rfl rfl (take_ofW HT_.out HW_.out (by kernel_rfl)) (fun _ _ _ h => h) ⟨by rfl, ?_⟩ hHeld ?_ ?_; rotate_left; · (rintro w' ⟨s0, s1, s2⟩; go_simp; with_reducible rfl)
                               rotate_left; · (simp only [Act.put, sa_, sb_, sc_, i64_w, i32_w]; rfl)
                               refine one_ (i := 5) (N := some 195) (tb 6 11) rfl rfl (one_of HT_.out (by kernel_rfl)) (by decide) (fun K hK => ?_)
                               refine goes_ Try.func28 (by kernel_rfl) rfl #[.agg #[.int .i64 a0_0, .slice A0_1 l0_1.length c0_1], .int .u64 (rd l2 x19_5)] (by rfl) rfl rfl (by (try simp only [List.map_toArray, List.map_cons, List.map_nil]); first | done | rfl | (simp only [List.length_drop, List.length_take]; rfl)) ?_
                               with_reducible refine (hll_Add.calls kj249 a0_0 _ _ l0_1 (rd l2 x19_5) t714 t715 t718 _ ?side1 ?side2 A257.out).mono ?_
                               (case side1 => exact cu (Kd.C_below HR0_1.out HB.out))
                               (case side2 => exact HC0_1.out)
                               rintro e w268 ⟨v716, rfl, ho0, hb⟩
                               refine ⟨_, rfl, ?_⟩
                               have HO717 := am (Kd.R_lower (Kd.R_new' (Kd.R_new' (Kd.R_new' (Kd.R_new' ho0 (Kd.R_lt (ru (HO_655001.out)))) (Kd.R_lt (ru (HO_661001.out)))) (Kd.R_lt (ru (HO_686001.out)))) (Kd.R_lt (ru (HO_692001.out)))) (below_size (by repeat (first | (with_reducible first | exact HB.out | apply below_alloc | apply pw_below_drewN | apply below_drew1 | refine below_set ?_ (Aside0.out (by assumption))) | exact HB.out)))); replace HO_655001 := am (Kd.R_elder' (ru (HO_655001.out)) (Kd.R_base ho0) hb); replace HO_661001 := am (Kd.R_elder' (ru (HO_661001.out)) (Kd.R_base ho0) hb); replace HO_686001 := am (Kd.R_elder' (ru (HO_686001.out)) (Kd.R_base ho0) hb); replace HO_692001 := am (Kd.R_elder' (ru (HO_692001.out)) (Kd.R_base ho0) hb); replace BK646 := bb BK646 hb; replace BK647 := bb BK647 hb; replace BK654 := bb BK654 hb; replace BK660 := bb BK660 hb; replace BK685 := bb BK685 hb; replace BK691 := bb BK691 hb; replace HB := am (below_step (by repeat (first | (with_reducible first | exact HB.out | apply below_alloc | apply pw_below_drewN | apply below_drew1 | refine below_set ?_ (Aside0.out (by assumption))) | exact HB.out)) hb)
                               (try clear hb)
                               (try clear hb2)
                               (try clear hk)
                               (try clear hi)
                               (try clear ho0)
                               obtain ⟨Ao270, co270, eo270⟩ := Kd.R_slice HO717.out
                               (first | subst eo270 | (injection eo270 with f1_ f2_ f3_; have f4_ := f1_.symm; have f5_ := f3_.symm; clear f1_ f2_ f3_; subst f4_; subst f5_))
                               refine hK.out _ _ ⟨(blk_cell BK646.out 0).trans rfl, (blk_cell BK646.out 1).trans rfl, ((HB.out.cell (World.block_lt_of_cell? w _ hw713_0)).trans hw713_0)⟩ (fun hHeld => ?_)
                               clear hK K
                               refine norm_ (a' := ?_) ?_ ?_
                               rotate_left
                               ·
                                show Act.put _ (some 195) _ = _
                                simp only [Act.put, List.setIfInBounds_toArray, List.set_cons_zero, List.set_cons_succ, i64_w, i32_w]
                                rfl
                               refine pu 6 (some 189) (v := ?_) (a' := ?_) (tb 7 11) rfl rfl (any_of HT_.out (by kernel_rfl)) (fun _ _ _ h => h) ⟨by rfl, ?_⟩ ?_ ?_; rotate_left; · (intro w'; go_simp; with_reducible rfl)
                               rotate_left; · (simp only [Act.put, sa_, sb_, sc_, i64_w, i32_w]; rfl)
                               refine pu 7 (some 196) (v := ?_) (a' := ?_) (tb 8 11) rfl rfl (any_of HT_.out (by kernel_rfl)) (fun _ _ _ h => h) ⟨by rfl, ?_⟩ ?_ ?_; rotate_left; · (intro w'; go_simp; with_reducible rfl)
                               rotate_left; · (simp only [Act.put, sa_, sb_, sc_, i64_w, i32_w]; rfl)
                               refine pu 8 (some 197) (v := ?_) (a' := ?_) (tb 9 11) rfl rfl (any_of HT_.out (by kernel_rfl)) (fun _ _ _ h => h) ⟨by rfl, ?_⟩ ?_ ?_; rotate_left; · (intro w'; go_simp; with_reducible rfl)
                               rotate_left; · (simp only [Act.put, sa_, sb_, sc_, i64_w, i32_w]; rfl)
                               refine one_ (i := 9) (N := none) (tb 10 11) rfl rfl (one_of HT_.out (by kernel_rfl)) (by decide) (fun K hK => ?_)
                               have hs269 : w268.cell? ⟨gb654, 0, none⟩ = some (.int .i64 x655000_5) := (blk_cell BK654.out 0).trans rfl
                               have hfs269 := blk_frozen BK654.out 0; have hns269_0 := NB646_654.out; have hns269_1 := NB647_654.out; have hns269_3 := NB660_654.out; have hns269_4 := NB685_654.out; have hns269_5 := NB691_654.out; have hms269_0 := NB654_646.out; have hms269_1 := NB654_647.out; have hms269_3 := NB654_660.out; have hms269_4 := NB654_685.out; have hms269_5 := NB654_691.out
                               have hs271 : w268.cell? ⟨gb654, 1, none⟩ = some (u655001) := (blk_cell BK654.out 1).trans rfl
                               have hfs271 := blk_frozen BK654.out 1; have hns271_0 := NB646_654.out; have hns271_1 := NB647_654.out; have hns271_3 := NB660_654.out; have hns271_4 := NB685_654.out; have hns271_5 := NB691_654.out; have hms271_0 := NB654_646.out; have hms271_1 := NB654_647.out; have hms271_3 := NB654_660.out; have hms271_4 := NB654_685.out; have hms271_5 := NB654_691.out
                               refine skip_ (w1 := ?_) (by rfl) rfl ?_ ?_
                               rotate_left
                               ·
                                go_simp
                                rfl
                               refine hK.out _ _ ⟨((cell_far (p := ⟨gb654, _, none⟩) NB646_654.out _).trans (((cell_far (p := ⟨gb654, _, none⟩) NB646_654.out _).trans (hHeld.1)))), ((cell_far (p := ⟨gb654, _, none⟩) NB646_654.out _).trans (((cell_far (p := ⟨gb654, _, none⟩) NB646_654.out _).trans (hHeld.2.1)))), ((cell_far (p := ⟨gb654, _, none⟩) (by first | exact Nat.ne_of_lt (Nat.lt_of_lt_of_le (by have := World.block_lt_of_cell? _ _ hw713_0; first | rwa [add_block] at this | exact this) GW654.out) | (rw [add_block]; exact Nat.ne_of_lt (Nat.lt_of_lt_of_le (by have := World.block_lt_of_cell? _ _ hw713_0; first | rwa [add_block] at this | exact this) GW654.out)) | (show (Addr.add _ _).block ≠ _; rw [add_block]; exact Nat.ne_of_lt (Nat.lt_of_lt_of_le (by have := World.block_lt_of_cell? _ _ hw713_0; first | rwa [add_block] at this | exact this) GW654.out)) | (dsimp only; exact Nat.ne_of_lt (Nat.lt_of_lt_of_le (by have := World.block_lt_of_cell? _ _ hw713_0; first | rwa [add_block] at this | exact this) GW654.out))) _).trans (((cell_far (p := ⟨gb654, _, none⟩) (by first | exact Nat.ne_of_lt (Nat.lt_of_lt_of_le (by have := World.block_lt_of_cell? _ _ hw713_0; first | rwa [add_block] at this | exact this) GW654.out) | (rw [add_block]; exact Nat.ne_of_lt (Nat.lt_of_lt_of_le (by have := World.block_lt_of_cell? _ _ hw713_0; first | rwa [add_block] at this | exact this) GW654.out)) | (show (Addr.add _ _).block ≠ _; rw [add_block]; exact Nat.ne_of_lt (Nat.lt_of_lt_of_le (by have := World.block_lt_of_cell? _ _ hw713_0; first | rwa [add_block] at this | exact this) GW654.out)) | (dsimp only; exact Nat.ne_of_lt (Nat.lt_of_lt_of_le (by have := World.block_lt_of_cell? _ _ hw713_0; first | rwa [add_block] at this | exact this) GW654.out))) _).trans (hHeld.2.2))))⟩ (fun hHeld => ?_)
                               clear hK K
                               refine pu 10 (some 12) (v := ?_) (a' := ?_) (tb 11 11) rfl rfl (any_of HT_.out (by kernel_rfl)) (fun _ _ _ h => h) ⟨by rfl, ?_⟩ ?_ ?_; rotate_left; · (intro w'; go_simp; with_reducible rfl)
                               rotate_left; · (simp only [Act.put, sa_, sb_, sc_, i64_w, i32_w]; rfl)
                               refine done_ (done_of HT_.out (by kernel_rfl)) ?_
                               try go_wp2
                               have n0_ : Aside0 (Kd.R k32 32 ((w268.setCell ⟨gb654, 0, none⟩ (.int .i64 t714)).setCell ⟨gb654, 1, none⟩ (.slice Ao270 t715.length co270)) w.heap.size (fun k_ => some k_ ≠ (u661001 : Value).ownBlock ∧ nb Ao124 t681.length co124 k_ ∧ nb Ao134 t687.length co134 k_ ∧ nb Ao270 t715.length co270 k_) u655001 x655001_5) := ⟨Kd.R_mono (rf HO_655001.out BK654.out (by decide)) (fun _ hk => ⟨hk.1.1, ⟨hk.1.2.1, ⟨hk.1.2.2, hk.2⟩⟩⟩)⟩
                               have n1_ : Aside0 (Kd.R k32 32 ((w268.setCell ⟨gb654, 0, none⟩ (.int .i64 t714)).setCell ⟨gb654, 1, none⟩ (.slice Ao270 t715.length co270)) w.heap.size (fun k_ => some k_ ≠ (u655001 : Value).ownBlock ∧ nb Ao124 t681.length co124 k_ ∧ nb Ao134 t687.length co134 k_ ∧ nb Ao270 t715.length co270 k_) u661001 x661001_5) := ⟨Kd.R_mono (rf HO_661001.out BK654.out (by decide)) (fun _ hk => ⟨hk.1.1, ⟨hk.1.2.1, ⟨hk.1.2.2, hk.2⟩⟩⟩)⟩
                               have n2_ : Aside0 (Kd.R k32 32 ((w268.setCell ⟨gb654, 0, none⟩ (.int .i64 t714)).setCell ⟨gb654, 1, none⟩ (.slice Ao270 t715.length co270)) w.heap.size (fun k_ => some k_ ≠ (u655001 : Value).ownBlock ∧ some k_ ≠ (u661001 : Value).ownBlock ∧ nb Ao134 t687.length co134 k_ ∧ nb Ao270 t715.length co270 k_) (.slice Ao124 t681.length co124) t681) := ⟨Kd.R_mono (rf HO_686001.out BK654.out (by decide)) (fun _ hk => ⟨hk.1.1, ⟨hk.1.2.1, ⟨hk.1.2.2, hk.2⟩⟩⟩)⟩
                               have n3_ : Aside0 (Kd.R k32 32 ((w268.setCell ⟨gb654, 0, none⟩ (.int .i64 t714)).setCell ⟨gb654, 1, none⟩ (.slice Ao270 t715.length co270)) w.heap.size (fun k_ => some k_ ≠ (u655001 : Value).ownBlock ∧ some k_ ≠ (u661001 : Value).ownBlock ∧ nb Ao124 t681.length co124 k_ ∧ nb Ao270 t715.length co270 k_) (.slice Ao134 t687.length co134) t687) := ⟨Kd.R_mono (rf HO_692001.out BK654.out (by decide)) (fun _ hk => ⟨hk.1.1, ⟨hk.1.2.1, ⟨hk.1.2.2, hk.2⟩⟩⟩)⟩
                               have n4_ : Aside0 (Kd.R k32 32 ((w268.setCell ⟨gb654, 0, none⟩ (.int .i64 t714)).setCell ⟨gb654, 1, none⟩ (.slice Ao270 t715.length co270)) w.heap.size (fun k_ => some k_ ≠ (u655001 : Value).ownBlock ∧ some k_ ≠ (u661001 : Value).ownBlock ∧ nb Ao124 t681.length co124 k_ ∧ nb Ao134 t687.length co134 k_) (.slice Ao270 t715.length co270) t715) := ⟨Kd.R_mono (rf HO717.out BK654.out (by decide)) (fun _ hk => ⟨hk.1.1.1.2, ⟨hk.1.1.2, ⟨hk.1.2, hk.2⟩⟩⟩)⟩
                               have n5_ : Aside0 (((w268.setCell ⟨gb654, 0, none⟩ (.int .i64 t714)).setCell ⟨gb654, 1, none⟩ (.slice Ao270 t715.length co270)).heap[gb646]? = some (.cells #[.int .i64 a0_0, .slice A0_1 l0_1.length c0_1] 30 (0, 0))) := ⟨bf NB646_654.out BK646.out⟩
                               have n6_ : Aside0 (((w268.setCell ⟨gb654, 0, none⟩ (.int .i64 t714)).setCell ⟨gb654, 1, none⟩ (.slice Ao270 t715.length co270)).heap[gb647]? = some (.cells #[.int .i64 a1_0, .slice A1_1 l1_1.length c1_1] 30 (0, 0))) := ⟨bf NB647_654.out BK647.out⟩
                               have n7_ : Aside0 (((w268.setCell ⟨gb654, 0, none⟩ (.int .i64 t714)).setCell ⟨gb654, 1, none⟩ (.slice Ao270 t715.length co270)).heap[gb654]? = some (.cells #[.int .i64 t714, .slice Ao270 t715.length co270] 30 (0, 0))) := ⟨by (with_reducible repeat (first | refine blk_drewN ?_ _ | refine blk_drew ?_ | refine blk_alloc ?_ _)); refine blk_put (cs := #[.int .i64 t714, u655001]) ?_ 1 _ rfl; (with_reducible repeat (first | refine blk_drewN ?_ _ | refine blk_drew ?_ | refine blk_alloc ?_ _)); refine blk_put (cs := #[.int .i64 x655000_5, u655001]) ?_ 0 _ rfl; (with_reducible repeat (first | refine blk_drewN ?_ _ | refine blk_drew ?_ | refine blk_alloc ?_ _)); exact BK654.out⟩
                               have n8_ : Aside0 (((w268.setCell ⟨gb654, 0, none⟩ (.int .i64 t714)).setCell ⟨gb654, 1, none⟩ (.slice Ao270 t715.length co270)).heap[gb660]? = some (.cells #[.int .i64 x661000_5, u661001] 30 (0, 0))) := ⟨bf NB660_654.out BK660.out⟩
                               have n9_ : Aside0 (((w268.setCell ⟨gb654, 0, none⟩ (.int .i64 t714)).setCell ⟨gb654, 1, none⟩ (.slice Ao270 t715.length co270)).heap[gb685]? = some (.cells #[.int .i64 t680, .slice Ao124 t681.length co124] 30 (0, 0))) := ⟨bf NB685_654.out BK685.out⟩
                               have n10_ : Aside0 (((w268.setCell ⟨gb654, 0, none⟩ (.int .i64 t714)).setCell ⟨gb654, 1, none⟩ (.slice Ao270 t715.length co270)).heap[gb691]? = some (.cells #[.int .i64 t686, .slice Ao134 t687.length co134] 30 (0, 0))) := ⟨bf NB691_654.out BK691.out⟩
                               have n11_ : Aside0 (Below w.heap.size w ((w268.setCell ⟨gb654, 0, none⟩ (.int .i64 t714)).setCell ⟨gb654, 1, none⟩ (.slice Ao270 t715.length co270))) := ⟨by repeat (first | (with_reducible first | exact HB.out | apply below_alloc | apply pw_below_drewN | apply below_drew1 | refine below_set ?_ (Aside0.out (by assumption))) | exact HB.out)⟩
                               (try clear HO_655001)
                               (try clear HO_661001)
                               (try clear HO_686001)
                               (try clear HO_692001)
                               (try clear HO717)
                               (try clear BK646)
                               (try clear BK647)
                               (try clear BK654)
                               (try clear BK660)
                               (try clear BK685)
                               (try clear BK691)
                               (try clear HB)
                               generalize ((w268.setCell ⟨gb654, 0, none⟩ (.int .i64 t714)).setCell ⟨gb654, 1, none⟩ (.slice Ao270 t715.length co270)) = w272 at n0_ n1_ n2_ n3_ n4_ n5_ n6_ n7_ n8_ n9_ n10_ n11_ ⊢
                               have HO_655001 := n0_; have HO_661001 := n1_; have HO_686001 := n2_; have HO_692001 := n3_; have HO717 := n4_; have BK646 := n5_; have BK647 := n6_; have BK654 := n7_; have BK660 := n8_; have BK685 := n9_; have BK691 := n10_; have HB := n11_
                               clear n0_ n1_ n2_ n3_ n4_ n5_ n6_ n7_ n8_ n9_ n10_ n11_
                               replace HO_655001 := am (Kd.R_drew HO_655001.out); replace HO_661001 := am (Kd.R_drew HO_661001.out); replace HO_686001 := am (Kd.R_drew HO_686001.out); replace HO_692001 := am (Kd.R_drew HO_692001.out); replace HO717 := am (Kd.R_drew HO717.out); replace BK646 := am (blk_drew BK646.out); replace BK647 := am (blk_drew BK647.out); replace BK654 := am (blk_drew BK654.out); replace BK660 := am (blk_drew BK660.out); replace BK685 := am (blk_drew BK685.out); replace BK691 := am (blk_drew BK691.out); replace HB := am (below_drew1 HB.out)
                               have p719 : 0 ≤ (x19_5 : Int) := of_decide_eq_true (by first | (with_reducible assumption) | assumption)
                               have q719 : x19_5 < (l2.length : Int) := of_decide_eq_true (by first | (with_reducible assumption) | assumption)
                               obtain ⟨ad719, e719, hx719_0⟩ := Kd.at_int HR2.out x19_5 p719 q719
                               have hw719_0 := hx719_0
                               obtain rfl : ad705 = ad719 := (by injection e719)
                               replace hx719_0 := (HB.out.cell (World.block_lt_of_cell? w _ hx719_0)).trans hx719_0
                               replace p719 := eq_true p719
                               replace q719 := eq_true q719
                               refine start_ (n := 11) (S := fun w' => w'.cell? ⟨gb646, 0, none⟩ = some (.int .i64 a0_0) ∧ w'.cell? ⟨gb646, 1, none⟩ = some (.slice A0_1 l0_1.length c0_1) ∧ w'.cell? (ad705.add (x19_5).toNat) = some (.int .u64 (rd l2 x19_5))) (ds := []) (tb 0 11) (by kernel_rfl) rfl rfl ⟨(blk_cell BK646.out 0).trans rfl, (blk_cell BK646.out 1).trans rfl, ((HB.out.cell (World.block_lt_of_cell? w _ hw719_0)).trans hw719_0)⟩ (fun hHeld => ?_); refine with_tabW tallymanlaw14_HllCalls.tab25 tallymanlaw14_HllCalls.bits25 (fun HT_ HW_ => ?_)
                               generalize w272.drew = w273 at HO_655001 HO_661001 HO_686001 HO_692001 HO717 BK646 BK647 BK654 BK660 BK685 BK691 HB hx719_0 hHeld ⊢
                               refine pu 1 (some 200) (v := ?_) (a' := ?_) #[false, true, false, false, false, false, false, false, false, false, false] rfl rfl (any_of HT_.out (by kernel_rfl)) (fun _ _ _ h => h) ⟨by rfl, ?_⟩ ?_ ?_; rotate_left; · (intro w'; go_simp; with_reducible rfl)
                               rotate_left; · (simp only [Act.put, sa_, sb_, sc_, i64_w, i32_w]; rfl)
                               refine pu 2 (some 201) (v := ?_) (a' := ?_) #[false, true, true, false, false, false, false, false, false, false, false] rfl rfl (any_of HT_.out (by kernel_rfl)) (fun _ _ _ h => h) ⟨by rfl, ?_⟩ ?_ ?_; rotate_left; · (intro w'; go_simp; with_reducible rfl)
                               rotate_left; · (simp only [Act.put, sa_, sb_, sc_, i64_w, i32_w]; rfl)
                               refine pu 3 (some 202) (v := ?_) (a' := ?_) #[false, true, true, true, false, false, false, false, false, false, false] rfl rfl (any_of HT_.out (by kernel_rfl)) (fun _ _ _ h => h) ⟨by rfl, ?_⟩ ?_ ?_; rotate_left; · (intro w'; go_simp; with_reducible rfl)
                               rotate_left; · (simp only [Act.put, sa_, sb_, sc_, i64_w, i32_w]; rfl)
                               refine tk 0 (some 199) (v := ?_) (a' := ?_) (tb 4 11) rfl rfl (take_ofW HT_.out HW_.out (by kernel_rfl)) (fun _ _ _ h => h) ⟨by rfl, ?_⟩ hHeld ?_ ?_; rotate_left; · (rintro w' ⟨s0, s1, s2⟩; go_simp; with_reducible rfl)
                               rotate_left; · (simp only [Act.put, sa_, sb_, sc_, i64_w, i32_w]; rfl)
                               refine tk 4 (some 203) (v := ?_) (a' := ?_) (tb 5 11) rfl rfl (take_ofW HT_.out HW_.out (by kernel_rfl)) (fun _ _ _ h => h) ⟨by rfl, ?_⟩ hHeld ?_ ?_; rotate_left; · (rintro w' ⟨s0, s1, s2⟩; go_simp; with_reducible rfl)
                               rotate_left; · (simp only [Act.put, sa_, sb_, sc_, i64_w, i32_w]; rfl)
                               refine one_ (i := 5) (N := some 204) (tb 6 11) rfl rfl (one_of HT_.out (by kernel_rfl)) (by decide) (fun K hK => ?_)
                               refine goes_ Try.func49 (by kernel_rfl) rfl #[.agg #[.int .i64 a0_0, .slice A0_1 l0_1.length c0_1], .int .u64 (rd l2 x19_5)] (by rfl) rfl rfl (by (try simp only [List.map_toArray, List.map_cons, List.map_nil]); first | done | rfl | (simp only [List.length_drop, List.length_take]; rfl)) ?_
                               with_reducible refine (tallymanref14_Add.calls kj249 a0_0 _ _ l0_1 (rd l2 x19_5) t720 t721 t724 _ ?side1 ?side2 A258.out).mono ?_
                               (case side1 => exact cu (Kd.C_below HR0_1.out HB.out))
                               (case side2 => exact HC0_1.out)
                               rintro e w274 ⟨v722, rfl, ho0, hb⟩
                               refine ⟨_, rfl, ?_⟩
                               have HO723 := am (Kd.R_lower (Kd.R_new' (Kd.R_new' (Kd.R_new' (Kd.R_new' (Kd.R_new' ho0 (Kd.R_lt (ru (HO_655001.out)))) (Kd.R_lt (ru (HO_661001.out)))) (Kd.R_lt (ru (HO_686001.out)))) (Kd.R_lt (ru (HO_692001.out)))) (Kd.R_lt (ru (HO717.out)))) (below_size (by repeat (first | (with_reducible first | exact HB.out | apply below_alloc | apply pw_below_drewN | apply below_drew1 | refine below_set ?_ (Aside0.out (by assumption))) | exact HB.out)))); replace HO_655001 := am (Kd.R_elder' (ru (HO_655001.out)) (Kd.R_base ho0) hb); replace HO_661001 := am (Kd.R_elder' (ru (HO_661001.out)) (Kd.R_base ho0) hb); replace HO_686001 := am (Kd.R_elder' (ru (HO_686001.out)) (Kd.R_base ho0) hb); replace HO_692001 := am (Kd.R_elder' (ru (HO_692001.out)) (Kd.R_base ho0) hb); replace HO717 := am (Kd.R_elder' (ru (HO717.out)) (Kd.R_base ho0) hb); replace BK646 := bb BK646 hb; replace BK647 := bb BK647 hb; replace BK654 := bb BK654 hb; replace BK660 := bb BK660 hb; replace BK685 := bb BK685 hb; replace BK691 := bb BK691 hb; replace HB := am (below_step (by repeat (first | (with_reducible first | exact HB.out | apply below_alloc | apply pw_below_drewN | apply below_drew1 | refine below_set ?_ (Aside0.out (by assumption))) | exact HB.out)) hb)
                               (try clear hb)
                               (try clear hb2)
                               (try clear hk)
                               (try clear hi)
                               (try clear ho0)
                               obtain ⟨Ao276, co276, eo276⟩ := Kd.R_slice HO723.out
                               (first | subst eo276 | (injection eo276 with f1_ f2_ f3_; have f4_ := f1_.symm; have f5_ := f3_.symm; clear f1_ f2_ f3_; subst f4_; subst f5_))
                               refine hK.out _ _ ⟨(blk_cell BK646.out 0).trans rfl, (blk_cell BK646.out 1).trans rfl, ((HB.out.cell (World.block_lt_of_cell? w _ hw719_0)).trans hw719_0)⟩ (fun hHeld => ?_)
                               clear hK K
                               refine norm_ (a' := ?_) ?_ ?_
                               rotate_left
                               ·
                                show Act.put _ (some 204) _ = _
                                simp only [Act.put, List.setIfInBounds_toArray, List.set_cons_zero, List.set_cons_succ, i64_w, i32_w]
                                rfl
                               refine pu 6 (some 198) (v := ?_) (a' := ?_) (tb 7 11) rfl rfl (any_of HT_.out (by kernel_rfl)) (fun _ _ _ h => h) ⟨by rfl, ?_⟩ ?_ ?_; rotate_left; · (intro w'; go_simp; with_reducible rfl)
                               rotate_left; · (simp only [Act.put, sa_, sb_, sc_, i64_w, i32_w]; rfl)
                               refine pu 7 (some 205) (v := ?_) (a' := ?_) (tb 8 11) rfl rfl (any_of HT_.out (by kernel_rfl)) (fun _ _ _ h => h) ⟨by rfl, ?_⟩ ?_ ?_; rotate_left; · (intro w'; go_simp; with_reducible rfl)
                               rotate_left; · (simp only [Act.put, sa_, sb_, sc_, i64_w, i32_w]; rfl)
                               refine pu 8 (some 206) (v := ?_) (a' := ?_) (tb 9 11) rfl rfl (any_of HT_.out (by kernel_rfl)) (fun _ _ _ h => h) ⟨by rfl, ?_⟩ ?_ ?_; rotate_left; · (intro w'; go_simp; with_reducible rfl)
                               rotate_left; · (simp only [Act.put, sa_, sb_, sc_, i64_w, i32_w]; rfl)
                               refine one_ (i := 9) (N := none) (tb 10 11) rfl rfl (one_of HT_.out (by kernel_rfl)) (by decide) (fun K hK => ?_)
                               have hs275 : w274.cell? ⟨gb660, 0, none⟩ = some (.int .i64 x661000_5) := (blk_cell BK660.out 0).trans rfl
                               have hfs275 := blk_frozen BK660.out 0; have hns275_0 := NB646_660.out; have hns275_1 := NB647_660.out; have hns275_2 := NB654_660.out; have hns275_4 := NB685_660.out; have hns275_5 := NB691_660.out; have hms275_0 := NB660_646.out; have hms275_1 := NB660_647.out; have hms275_2 := NB660_654.out; have hms275_4 := NB660_685.out; have hms275_5 := NB660_691.out
                               have hs277 : w274.cell? ⟨gb660, 1, none⟩ = some (u661001) := (blk_cell BK660.out 1).trans rfl
                               have hfs277 := blk_frozen BK660.out 1; have hns277_0 := NB646_660.out; have hns277_1 := NB647_660.out; have hns277_2 := NB654_660.out; have hns277_4 := NB685_660.out; have hns277_5 := NB691_660.out; have hms277_0 := NB660_646.out; have hms277_1 := NB660_647.out; have hms277_2 := NB660_654.out; have hms277_4 := NB660_685.out; have hms277_5 := NB660_691.out
                               refine skip_ (w1 := ?_) (by rfl) rfl ?_ ?_
                               rotate_left
                               ·
                                go_simp
                                rfl
                               refine hK.out _ _ ⟨((cell_far (p := ⟨gb660, _, none⟩) NB646_660.out _).trans (((cell_far (p := ⟨gb660, _, none⟩) NB646_660.out _).trans (hHeld.1)))), ((cell_far (p := ⟨gb660, _, none⟩) NB646_660.out _).trans (((cell_far (p := ⟨gb660, _, none⟩) NB646_660.out _).trans (hHeld.2.1)))), ((cell_far (p := ⟨gb660, _, none⟩) (by first | exact Nat.ne_of_lt (Nat.lt_of_lt_of_le (by have := World.block_lt_of_cell? _ _ hw719_0; first | rwa [add_block] at this | exact this) GW660.out) | (rw [add_block]; exact Nat.ne_of_lt (Nat.lt_of_lt_of_le (by have := World.block_lt_of_cell? _ _ hw719_0; first | rwa [add_block] at this | exact this) GW660.out)) | (show (Addr.add _ _).block ≠ _; rw [add_block]; exact Nat.ne_of_lt (Nat.lt_of_lt_of_le (by have := World.block_lt_of_cell? _ _ hw719_0; first | rwa [add_block] at this | exact this) GW660.out)) | (dsimp only; exact Nat.ne_of_lt (Nat.lt_of_lt_of_le (by have := World.block_lt_of_cell? _ _ hw719_0; first | rwa [add_block] at this | exact this) GW660.out))) _).trans (((cell_far (p := ⟨gb660, _, none⟩) (by first | exact Nat.ne_of_lt (Nat.lt_of_lt_of_le (by have := World.block_lt_of_cell? _ _ hw719_0; first | rwa [add_block] at this | exact this) GW660.out) | (rw [add_block]; exact Nat.ne_of_lt (Nat.lt_of_lt_of_le (by have := World.block_lt_of_cell? _ _ hw719_0; first | rwa [add_block] at this | exact this) GW660.out)) | (show (Addr.add _ _).block ≠ _; rw [add_block]; exact Nat.ne_of_lt (Nat.lt_of_lt_of_le (by have := World.block_lt_of_cell? _ _ hw719_0; first | rwa [add_block] at this | exact this) GW660.out)) | (dsimp only; exact Nat.ne_of_lt (Nat.lt_of_lt_of_le (by have := World.block_lt_of_cell? _ _ hw719_0; first | rwa [add_block] at this | exact this) GW660.out))) _).trans (hHeld.2.2))))⟩ (fun hHeld => ?_)
                               clear hK K
                               refine pu 10 (some 14) (v := ?_) (a' := ?_) (tb 11 11) rfl rfl (any_of HT_.out (by kernel_rfl)) (fun _ _ _ h => h) ⟨by rfl, ?_⟩ ?_ ?_; rotate_left; · (intro w'; go_simp; with_reducible rfl)
                               rotate_left; · (simp only [Act.put, sa_, sb_, sc_, i64_w, i32_w]; rfl)
                               refine done_ (done_of HT_.out (by kernel_rfl)) ?_
                               have hnb278 := NB654_646.out; have hnc278 := NB646_654.out; have hnb279 := NB654_647.out; have hnc279 := NB647_654.out; have hnb280 := NB654_660.out; have hnc280 := NB660_654.out; have hnb281 := NB654_685.out; have hnc281 := NB685_654.out; have hnb282 := NB654_691.out; have hnc282 := NB691_654.out; have hcz283_0 := ca BK654.out; have hcz283_1 := cb BK654.out; have hfz283_0 := blk_frozen BK654.out 0; have hfz283_1 := blk_frozen BK654.out 1; have hnb284 := NB660_646.out; have hnc284 := NB646_660.out; have hnb285 := NB660_647.out; have hnc285 := NB647_660.out; have hnb286 := NB660_685.out; have hnc286 := NB685_660.out; have hnb287 := NB660_691.out; have hnc287 := NB691_660.out; have hcz288_0 := ca BK660.out; have hcz288_1 := cb BK660.out; have hfz288_0 := blk_frozen BK660.out 0; have hfz288_1 := blk_frozen BK660.out 1
                               try go_wp2_with (first | (go_at_call 40; (with_reducible refine (tallymankit_Hll.calls kj249 t714 _ _ t715 t720 _ _ t721 true _ ?side1 ?side2 ?side3 ?side4 A262.out).mono ?_); (case side1 => refine (Kd.R_reads' (e := 32) (base := w.heap.size) (ok := fun k_ => ((some k_ ≠ (u655001 : Value).ownBlock ∧ (some k_ ≠ (u661001 : Value).ownBlock ∧ (nb Ao124 t681.length co124 k_ ∧ nb Ao134 t687.length co134 k_))) ∧ nb Ao276 t721.length co276 k_)) (n := t715.length) (c := co270) ?_).2.2; exact (rf HO717.out BK660.out (by decide))); (case side2 => exact (Kd.R_reads' HO717.out).2.1); (case side3 => refine (Kd.R_reads' (e := 32) (base := w.heap.size) (ok := fun k_ => (((((True ∧ some k_ ≠ (u655001 : Value).ownBlock) ∧ some k_ ≠ (u661001 : Value).ownBlock) ∧ nb Ao124 t681.length co124 k_) ∧ nb Ao134 t687.length co134 k_) ∧ nb Ao270 t715.length co270 k_)) (n := t721.length) (c := co276) ?_).2.2; exact (rf HO723.out BK660.out (by decide))); (case side4 => exact (Kd.R_reads' HO723.out).2.1); rintro e w289 ⟨rfl, hb⟩; replace HO_655001 := am (Kd.R_below (rf HO_655001.out BK660.out (by decide)) hb); replace HO_661001 := am (Kd.R_below (rf HO_661001.out BK660.out (by decide)) hb); replace HO_686001 := am (Kd.R_below (rf HO_686001.out BK660.out (by decide)) hb); replace HO_692001 := am (Kd.R_below (rf HO_692001.out BK660.out (by decide)) hb); replace HO717 := am (Kd.R_below (rf HO717.out BK660.out (by decide)) hb); replace HO723 := am (Kd.R_below (rf HO723.out BK660.out (by decide)) hb); replace BK646 := am (blk_below (bf NB646_660.out BK646.out) hb); replace BK647 := am (blk_below (bf NB647_660.out BK647.out) hb); replace BK654 := am (blk_below (bf NB654_660.out BK654.out) hb); replace BK660 := am (blk_below (g := gb660) (o := .cells #[.int .i64 t720, .slice Ao276 t721.length co276] 30 (0, 0)) (by (with_reducible repeat (first | refine blk_drewN ?_ _ | refine blk_drew ?_ | refine blk_alloc ?_ _)); refine blk_put (cs := #[.int .i64 t720, u661001]) ?_ 1 _ rfl; (with_reducible repeat (first | refine blk_drewN ?_ _ | refine blk_drew ?_ | refine blk_alloc ?_ _)); refine blk_put (cs := #[.int .i64 x661000_5, u661001]) ?_ 0 _ rfl; (with_reducible repeat (first | refine blk_drewN ?_ _ | refine blk_drew ?_ | refine blk_alloc ?_ _)); exact BK660.out) hb); replace BK685 := am (blk_below (bf NB685_660.out BK685.out) hb); replace BK691 := am (blk_below (bf NB691_660.out BK691.out) hb); replace HB := am (below_step (by repeat (first | (with_reducible first | exact HB.out | apply below_alloc | apply pw_below_drewN | apply below_drew1 | refine below_set ?_ (Aside0.out (by assumption))) | exact HB.out)) hb); (try clear hb)))
                               go_roundg kj249
                               case measure => have := HJ7.out; have := HJ24.out; have := HJ98.out; have := HJ206.out; have := HK5.out; have := HJ249.out; omega
                               case rel => exact ⟨(wrap64 (x19_5 + 1)), (t714), (t715), (t720), (t721), (.slice Ao270 t715.length co270), (.slice Ao276 t721.length co276), (by first | rfl | (simp; done) | (simp [*]; done)), H', ⟨by have := HJ7.out; have := HJ24.out; have := HJ98.out; have := HJ206.out; have := HK5.out; have := HJ249.out; omega⟩, ⟨by (with_reducible repeat (first | apply Kd.R_alloc | apply Kd.R_drewN | apply Kd.R_drew)); exact Kd.R_mono HO717.out (fun _ hk => ⟨hk.2, ⟨hk.1.2.2.1, hk.1.2.2.2⟩⟩)⟩, ⟨by (with_reducible repeat (first | apply Kd.R_alloc | apply Kd.R_drewN | apply Kd.R_drew)); exact Kd.R_mono HO723.out (fun _ hk => ⟨hk.2, ⟨hk.1.1.2, hk.1.2⟩⟩)⟩, ⟨by (with_reducible repeat (first | apply Kd.R_alloc | apply Kd.R_drewN | apply Kd.R_drew)); exact Kd.R_mono HO_686001.out (fun _ hk => ⟨hk.1.2.2.2, ⟨hk.2, hk.1.2.2.1⟩⟩)⟩, ⟨by (with_reducible repeat (first | apply Kd.R_alloc | apply Kd.R_drewN | apply Kd.R_drew)); exact Kd.R_mono HO_692001.out (fun _ hk => ⟨hk.1.2.2.2, ⟨hk.2, hk.1.2.2.1⟩⟩)⟩, ⟨bu BK646.out⟩, ⟨bu BK647.out⟩, ⟨bu BK654.out⟩, ⟨bu BK660.out⟩, ⟨bu BK685.out⟩, ⟨bu BK691.out⟩, ⟨by repeat (first | (with_reducible first | exact HB.out | apply below_alloc | apply pw_below_drewN | apply below_drew1 | refine below_set ?_ (Aside0.out (by assumption))) | exact HB.out)⟩⟩
                              ·
                               rw [if_neg c264] at H
                               exact absurd H (by simp)
                             ·
                              replace c263 := Bool.eq_false_iff.mpr c263
                              subst c263
                              have H1 : (none) = some r := by rw [if_neg (show ¬ (false = true) by decide)] at H; exact H
                              clear H
                              have H := H1
                              clear H1
                              exact absurd H (by simp)
                            ·
                             rw [if_neg c261] at H
                             exact absurd H (by simp)
                           ·
                            rw [if_neg c260] at H
                            exact absurd H (by simp)
                          ·
                           rw [if_neg c259] at H
                           exact absurd H (by simp)
                         ·
                          rw [if_neg c254] at H
                          exact absurd H (by simp)
                        ·
                         rw [if_neg c253] at H
                         exact absurd H (by simp)
                       ·
                        replace c252 := Bool.eq_false_iff.mpr c252
                        subst c252
                        have H1 : (some true) = some r := by rw [if_neg (show ¬ (false = true) by decide)] at H; exact H
                        clear H
                        have H := H1
                        clear H1
                        obtain rfl := Option.some.inj H
                        go_wp2
                        go_ret
                        exact ⟨by first | rfl | (simp [errW_none, errW_some] <;> rfl) | (simp [*, errW_none, errW_some] <;> rfl), by repeat (first | (with_reducible first | exact HB.out | apply below_alloc | apply pw_below_drewN | apply below_drew1 | refine below_set ?_ (Aside0.out (by assumption))) | exact HB.out)⟩
 ·
  replace c7 := Bool.eq_false_iff.mpr c7
  subst c7
  have H1 : (none) = some r := by rw [if_neg (show ¬ (false = true) by decide)] at H; exact H
  clear H
  have H := H1
  clear H1
  exact absurd H (by simp)

end Go.Proofs.Ytbclnjinpcfpjaa.H
