-- Made by this session's own call of the printer (functions that are proved by hand are taken from a text beside it).
import Derived.Test.YtpagondojdlknaaZ3
import Derived.Test.YtpagondojdlknaaM9
import Derived.Test.YtpagondojdlknaaH0
import Derived.Test.YtpagondojdlknaaH10
import Derived.Test.YtpagondojdlknaaH12
import Derived.Test.YtpagondojdlknaaH13
import Derived.Test.YtpagondojdlknaaH15
namespace Go.Proofs.Ytpagondojdlknaa.H
open Go.RowKit Go.Proofs.YtpagondojdlknaaW.PrintWords Go.Proofs.YtpagondojdlknaaW.PrintLast Go.Proofs.YtpagondojdlknaaW.PrintMore
attribute [local go_sem] max2_int min2_int max_two min_two max_three min_three max_four min_four   -- for this text's walks alone
set_option linter.unusedVariables false
set_option linter.unusedSimpArgs false

/-! ### tallymanref17_Like: function 40 -/
mutual
def tallymanref17_Like.j0 : Nat → Int → Int → List Int → Int → List Int → Option (Int × Int)
 | 0, _, _, _, _, _ => none
 | k + 1, x6, x470000, x470001, x471000, x471001 => if x6 = 0 then ((tallymanref17_least.f x470000 x471000).bind fun t473 => ((tallymanref17_below.f k x470000 x470001 t473).bind fun bt474 => ((tallymanref17_below.f k x471000 x471001 t473).bind fun bt478 => (tallymanref17_Like.l0 k 0 0 bt474.1 bt474.2 bt478.1 bt478.2)))) else (some (0, x6))
def tallymanref17_Like.l0 : Nat → Int → Int → Int → List Int → Int → List Int → Option (Int × Int)
 | 0, _, _, _, _, _, _ => none
 | k + 1, x10, x11, x483000, x483001, x484000, x484001 => if x11 < (x483001.length : Int) then (if 0 ≤ x11 then ((tallymanref17_in.f k x484000 x484001 (rd x483001 x11)).bind fun t485 => (if t485 = true then (tallymanref17_Like.l0 k (wrap64 (x10 + 1)) (wrap64 (x11 + 1)) x483000 x483001 x484000 x484001) else (tallymanref17_Like.l0 k x10 (wrap64 (x11 + 1)) x483000 x483001 x484000 x484001))) else (none)) else (if (wrap64 ((wrap64 ((x483001.length : Int) + (x484001.length : Int))) - x10)) = 0 then (some (65536, 0)) else (some (wrap64 (Int.tdiv (wrap64 (65536 * x10)) (wrap64 ((wrap64 ((x483001.length : Int) + (x484001.length : Int))) - x10))), 0)))
end
def tallymanref17_Like.f (k : Nat) (a0_0 : Int) (l0_1 : List Int) (a1_0 : Int) (l1_1 : List Int) : Option (Int × Int) := (tallymanref17_Check.f k a0_0 l0_1).bind fun t471 => (if t471 = 0 then ((tallymanref17_Check.f k a1_0 l1_1).bind fun t472 => (tallymanref17_Like.j0 k t472 a0_0 l0_1 a1_0 l1_1)) else (tallymanref17_Like.j0 k t471 a0_0 l0_1 a1_0 l1_1))
theorem tallymanref17_Like.mono_l : ∀ k, (∀ y0 y1 y2 y3 y4, LeO (tallymanref17_Like.j0 k y0 y1 y2 y3 y4) (tallymanref17_Like.j0 (k + 1) y0 y1 y2 y3 y4)) ∧ (∀ y0 y1 y2 y3 y4 y5, LeO (tallymanref17_Like.l0 k y0 y1 y2 y3 y4 y5) (tallymanref17_Like.l0 (k + 1) y0 y1 y2 y3 y4 y5))
 | 0 => ⟨fun _ _ _ _ _ r h => by simp [tallymanref17_Like.j0] at h, fun _ _ _ _ _ _ r h => by simp [tallymanref17_Like.l0] at h⟩
 | k + 1 => by
  obtain ⟨ih0, ih1⟩ := tallymanref17_Like.mono_l k
  refine ⟨?_, ?_⟩
  ·
   intro y0 y1 y2 y3 y4
   unfold tallymanref17_Like.j0
   repeat' first
   | (with_reducible exact ih0 _ _ _ _ _)
   | (with_reducible exact ih1 _ _ _ _ _ _)
   | (with_reducible exact tallymanref17_Check.mono _ _ _)
   | (with_reducible exact tallymanref17_below.mono _ _ _ _)
   | (with_reducible exact tallymanref17_in.mono _ _ _ _)
   | (with_reducible exact LeO.refl _)
   | (with_reducible exact LeO.none _)
   | (with_reducible refine LeO.ite ?_ ?_)
   | (with_reducible refine LeO.bind ?_ (fun _ => ?_))
  ·
   intro y0 y1 y2 y3 y4 y5
   unfold tallymanref17_Like.l0
   repeat' first
   | (with_reducible exact ih0 _ _ _ _ _)
   | (with_reducible exact ih1 _ _ _ _ _ _)
   | (with_reducible exact tallymanref17_Check.mono _ _ _)
   | (with_reducible exact tallymanref17_below.mono _ _ _ _)
   | (with_reducible exact tallymanref17_in.mono _ _ _ _)
   | (with_reducible exact LeO.refl _)
   | (with_reducible exact LeO.none _)
   | (with_reducible refine LeO.ite ?_ ?_)
   | (with_reducible refine LeO.bind ?_ (fun _ => ?_))
theorem tallymanref17_Like.mono : ∀ a0 a1 a2 a3 k, LeO (tallymanref17_Like.f k a0 a1 a2 a3) (tallymanref17_Like.f (k + 1) a0 a1 a2 a3) := by
 intro a0 a1 a2 a3 k
 obtain ⟨ih0, ih1⟩ := tallymanref17_Like.mono_l k
 unfold tallymanref17_Like.f
 repeat' first
   | (with_reducible exact ih0 _ _ _ _ _)
   | (with_reducible exact ih1 _ _ _ _ _ _)
   | (with_reducible exact tallymanref17_Check.mono _ _ _)
   | (with_reducible exact tallymanref17_below.mono _ _ _ _)
   | (with_reducible exact tallymanref17_in.mono _ _ _ _)
   | (with_reducible exact LeO.refl _)
   | (with_reducible exact LeO.none _)
   | (with_reducible refine LeO.ite ?_ ?_)
   | (with_reducible refine LeO.bind ?_ (fun _ => ?_))
def tallymanref17_Like.T7 : Bool × List (List Nat × List Nat) := (true, [([], []), ([], []), ([0, 1], [0, 1]), ([], []), ([], []), ([3, 4, 2], [3, 4]), ([], []), ([], []), ([6, 2, 5, 0, 1, 2, 6, 7], [2, 6]), ([7, 5, 8, 0, 1, 2, 3, 4, 5, 6, 7, 8], [5, 7])])
def tallymanref17_Like.B7 : List Nat := [0, 0, 3, 0, 0, 31, 0, 0, 255, 511]
theorem tallymanref17_Like.tab7 : rtab .any (opsOf Try.f40 7) = tallymanref17_Like.T7 := by kernel_rfl
theorem tallymanref17_Like.bits7 : waitsOk tallymanref17_Like.T7.2 tallymanref17_Like.B7 = true := by kernel_rfl
set_option maxHeartbeats 8000000 in
set_option maxRecDepth 100000 in
theorem tallymanref17_Like.calls (k : Nat) (a0_0 : Int) (A0_1 : Option Addr) (c0_1 : Nat) (l0_1 : List Int) (a1_0 : Int) (A1_1 : Option Addr) (c1_1 : Nat) (l1_1 : List Int) (r1 : Int) (r2 : Int) (w : World) (hr0_1 : Kd.C (Kd.int .u64) w A0_1 l0_1.length l0_1) (hc0_1 : l0_1.length ≤ c0_1) (hr1_1 : Kd.C (Kd.int .u64) w A1_1 l1_1.length l1_1) (hc1_1 : l1_1.length ≤ c1_1) (h : tallymanref17_Like.f k a0_0 l0_1 a1_0 l1_1 = some (r1, r2)) :
  Calls Try.prog 40 #[.agg #[.int .u64 a0_0, .slice A0_1 l0_1.length c0_1], .agg #[.int .u64 a1_0, .slice A1_1 l1_1.length c1_1]] w fun e w' => e = .returned (.tuple #[.int .i64 r1, .int .i64 r2]) ∧ Below w.heap.size w w' := by
 have hu25 := Try.underlying25
 have HR0_1 := Aside0.mk hr0_1
 have HC0_1 := Aside0.mk hc0_1
 clear hr0_1 hc0_1
 have HR1_1 := Aside0.mk hr1_1
 have HC1_1 := Aside0.mk hc1_1
 clear hr1_1 hc1_1
 have HB := am (Below.refl w.heap.size w)
 have H : ((tallymanref17_Check.f k a0_0 l0_1).bind fun t471 => (if t471 = 0 then ((tallymanref17_Check.f k a1_0 l1_1).bind fun t472 => (tallymanref17_Like.j0 k t472 a0_0 l0_1 a1_0 l1_1)) else (tallymanref17_Like.j0 k t471 a0_0 l0_1 a1_0 l1_1))) = some (r1, r2) := h
 clear h
 replace H := Option.bind_eq_some_iff.mp H
 obtain ⟨t471, A30, H⟩ := H
 replace H : (if t471 = 0 then ((tallymanref17_Check.f k a1_0 l1_1).bind fun t472 => (tallymanref17_Like.j0 k t472 a0_0 l0_1 a1_0 l1_1)) else (tallymanref17_Like.j0 k t471 a0_0 l0_1 a1_0 l1_1)) = some (r1, r2) := H
 have A3 := Aside0.mk A30
 clear A30
 have HC4 := Aside0.mk H
 clear H
 go_enter Try.func40, Try.ntmps40
 go_upto_if 16 with (first | ((with_reducible refine gate_dst (N := 2) rfl ?_); refine box_event ?hg (N := 2) ?hd (cs := #[.int .u64 a0_0, .slice A0_1 l0_1.length c0_1]) (t := 25) ?hr ?_; (case hd => rfl); (case hg => rfl); (case hr => first | (go_simp; done) | (go_simp; rfl)); intro gb469 hg w5 hbox hb; obtain ⟨HBn, GW469⟩ := tri hg hb (hu HB.out); have GE469 := GW469; have BK469 := am (hbox); clear HB; have HB := HBn; clear HBn; clear hb hbox hg) | ((with_reducible refine gate_dst (N := 3) rfl ?_); refine box_event ?hg (N := 3) ?hd (cs := #[.int .u64 a1_0, .slice A1_1 l1_1.length c1_1]) (t := 25) ?hr ?_; (case hd => rfl); (case hg => rfl); (case hr => first | (go_simp; done) | (go_simp; rfl)); intro gb470 hg w6 hbox hb; obtain ⟨HBn, GW470⟩ := tri hg hb (by repeat (first | (with_reducible first | exact HB.out | apply below_alloc | apply pw_below_drewN | apply below_drew1 | refine below_set ?_ (Aside0.out (by assumption))) | exact HB.out)); have GE470 := GW470; have BK470 := am (hbox); have NB469_470 := nl hg (bu BK469.out); have NB470_469 := nr hg (bu BK469.out); replace BK469 := bb BK469 hb; clear HB; have HB := HBn; clear HBn; clear hb hbox hg; have hnb7 := NB469_470.out; have hnc7 := NB470_469.out; have hcz8_0 := ca BK469.out; have hcz8_1 := cb BK469.out; have hfz8_0 := blk_frozen BK469.out 0; have hfz8_1 := blk_frozen BK469.out 1) | ((with_reducible refine gate_callee (f := 32) rfl ?_); refine goesL_ (some 14) rfl rfl Try.func32 (by kernel_rfl) rfl #[.agg #[.int .u64 a0_0, .slice A0_1 l0_1.length c0_1]] rfl (by (try simp only [List.map_toArray, List.map_cons, List.map_nil]); first | done | rfl | (simp only [List.length_drop, List.length_take]; rfl)) ?_; (with_reducible refine (tallymanref17_Check.calls k a0_0 _ _ l0_1 t471 _ ?side1 ?side2 A3.out).mono ?_); (case side1 => exact cu (Kd.C_below HR0_1.out HB.out)); (case side2 => exact HC0_1.out); rintro e w9 ⟨rfl, hb⟩; refine ⟨_, rfl, ?_⟩; replace BK469 := bb BK469 hb; replace BK470 := bb BK470 hb; replace HB := am (below_step (by repeat (first | (with_reducible first | exact HB.out | apply below_alloc | apply pw_below_drewN | apply below_drew1 | refine below_set ?_ (Aside0.out (by assumption))) | exact HB.out)) hb); (try clear hb)))
 (try simp only [Act.put, List.setIfInBounds_toArray, List.set_cons_zero, List.set_cons_succ])
 go_cut [6] (fun v6 wc => ∃ (kq : Nat) (x6_3 : Int), v6 = .int .i64 x6_3 ∧ Aside0 (tallymanref17_Like.j0 kq x6_3 a0_0 l0_1 a1_0 l1_1 = some (r1, r2)) ∧ Aside0 (kq ≤ k) ∧ Aside0 (wc.heap[gb469]? = some (.cells #[.int .u64 a0_0, (.slice A0_1 l0_1.length c0_1)] 25 (0, 0))) ∧ Aside0 (wc.heap[gb470]? = some (.cells #[.int .u64 a1_0, (.slice A1_1 l1_1.length c1_1)] 25 (0, 0))) ∧ Aside0 (Below w.heap.size w wc))
 case first =>
  have H := HC4.out
  clear HC4
  by_cases c10 : t471 = 0
  ·
   rw [if_pos c10] at H
   have c10b0 : (t471 == 0) = true := beq_iff_eq.mpr c10
   have c10b1 : (t471 != 0) = false := bne_eq_false_iff_eq.mpr c10
   clear c10
   (first | rw [c10b0] | (simp only [i64_w, i32_w]; rw [c10b0]) | skip)
   replace H := Option.bind_eq_some_iff.mp H
   obtain ⟨t472, A110, H⟩ := H
   replace H : (tallymanref17_Like.j0 k t472 a0_0 l0_1 a1_0 l1_1) = some (r1, r2) := H
   have A11 := Aside0.mk A110
   clear A110
   have H' := Aside0.mk H
   clear H
   have hnb12 := NB470_469.out
   have hnc12 := NB469_470.out
   have hcz13_0 := ca BK470.out
   have hcz13_1 := cb BK470.out
   have hfz13_0 := blk_frozen BK470.out 0
   have hfz13_1 := blk_frozen BK470.out 1
   go_wp2_with (first | ((with_reducible refine gate_callee (f := 32) rfl ?_); refine goesL_ (some 18) rfl rfl Try.func32 (by kernel_rfl) rfl #[.agg #[.int .u64 a1_0, .slice A1_1 l1_1.length c1_1]] rfl (by (try simp only [List.map_toArray, List.map_cons, List.map_nil]); first | done | rfl | (simp only [List.length_drop, List.length_take]; rfl)) ?_; (with_reducible refine (tallymanref17_Check.calls k a1_0 _ _ l1_1 t472 _ ?side1 ?side2 A11.out).mono ?_); (case side1 => exact cu (Kd.C_below HR1_1.out HB.out)); (case side2 => exact HC1_1.out); rintro e w14 ⟨rfl, hb⟩; refine ⟨_, rfl, ?_⟩; replace BK469 := bb BK469 hb; replace BK470 := bb BK470 hb; replace HB := am (below_step (by repeat (first | (with_reducible first | exact HB.out | apply below_alloc | apply pw_below_drewN | apply below_drew1 | refine below_set ?_ (Aside0.out (by assumption))) | exact HB.out)) hb); (try clear hb)))
   go_meet
   case rel => exact ⟨_, (t472), (by first | rfl | (simp; done) | (simp [*]; done)), H', ⟨by first | omega | exact Nat.le_refl _⟩, ⟨bu BK469.out⟩, ⟨bu BK470.out⟩, ⟨by repeat (first | (with_reducible first | exact HB.out | apply below_alloc | apply pw_below_drewN | apply below_drew1 | refine below_set ?_ (Aside0.out (by assumption))) | exact HB.out)⟩⟩
  ·
   rw [if_neg c10] at H
   have c10b0 : (t471 == 0) = false := beq_eq_false_iff_ne.mpr c10
   have c10b1 : (t471 != 0) = true := bne_iff_ne.mpr c10
   (first | rw [c10b0] | (simp only [i64_w, i32_w]; rw [c10b0]) | skip)
   have H' := Aside0.mk H
   clear H
   go_wp2
   go_meet
   case rel => exact ⟨_, (t471), (by first | rfl | (simp; done) | (simp [*]; done)), H', ⟨by first | omega | exact Nat.le_refl _⟩, ⟨bu BK469.out⟩, ⟨bu BK470.out⟩, ⟨by repeat (first | (with_reducible first | exact HB.out | apply below_alloc | apply pw_below_drewN | apply below_drew1 | refine below_set ?_ (Aside0.out (by assumption))) | exact HB.out)⟩⟩
 case rest =>
  clear HC4
  try clear c1; try clear p2; try clear c3; try clear c4; try clear c7; try clear c10; try clear c10b0; try clear c10b1; try clear c12; try clear hcz13_0; try clear hcz13_1; try clear hcz8_0; try clear hcz8_1; try clear hfz13_0; try clear hfz13_1; try clear hfz8_0; try clear hfz8_1
  obtain ⟨kq, x6_3, rfl, HA, HJ3, BK469, BK470, HB⟩ := hcut
  cases kq with
  | zero => exact absurd HA.out (by simp [tallymanref17_Like.j0])
  | succ kj3 =>
   have H := HA.out
   clear HA
   simp only [tallymanref17_Like.j0] at H
   by_cases c15 : x6_3 = 0
   ·
    rw [if_pos c15] at H
    have c15b0 : (x6_3 == 0) = true := beq_iff_eq.mpr c15
    have c15b1 : (x6_3 != 0) = false := bne_eq_false_iff_eq.mpr c15
    clear c15
    replace H := Option.bind_eq_some_iff.mp H
    obtain ⟨t473, A160, H⟩ := H
    replace H : ((tallymanref17_below.f kj3 a0_0 l0_1 t473).bind fun bt474 => ((tallymanref17_below.f kj3 a1_0 l1_1 t473).bind fun bt478 => (tallymanref17_Like.l0 kj3 0 0 bt474.1 bt474.2 bt478.1 bt478.2))) = some (r1, r2) := H
    have A16 := Aside0.mk A160
    clear A160
    replace H := Option.bind_eq_some_iff.mp H
    obtain ⟨⟨t474, t475⟩, A170, H⟩ := H
    replace H : ((tallymanref17_below.f kj3 a1_0 l1_1 t473).bind fun bt478 => (tallymanref17_Like.l0 kj3 0 0 t474 t475 bt478.1 bt478.2)) = some (r1, r2) := H
    have A17 := Aside0.mk A170
    clear A170
    replace H := Option.bind_eq_some_iff.mp H
    obtain ⟨⟨t478, t479⟩, A180, H⟩ := H
    replace H : (tallymanref17_Like.l0 kj3 0 0 t474 t475 t478 t479) = some (r1, r2) := H
    have A18 := Aside0.mk A180
    clear A180
    have H' := Aside0.mk H
    clear H
    have hnb19 := NB469_470.out
    have hnc19 := NB470_469.out
    have hcz20_0 := ca BK469.out
    have hcz20_1 := cb BK469.out
    have hfz20_0 := blk_frozen BK469.out 0
    have hfz20_1 := blk_frozen BK469.out 1
    have hcz21_0 := ca BK470.out
    have hcz21_1 := cb BK470.out
    have hfz21_0 := blk_frozen BK470.out 0
    have hfz21_1 := blk_frozen BK470.out 1
    try go_wp2_with (first | ((with_reducible refine gate_callee (f := 81) rfl ?_); refine goesL_ (some 26) rfl rfl Try.func81 (by kernel_rfl) rfl #[.int .u64 a0_0, .int .u64 a1_0] rfl (by (try simp only [List.map_toArray, List.map_cons, List.map_nil]); first | done | rfl | (simp only [List.length_drop, List.length_take]; rfl)) ?_; (with_reducible refine (tallymanref17_least.calls a0_0 a1_0 t473 _ A16.out).mono ?_); rintro e w' ⟨rfl, ⟨nd, rfl⟩⟩; refine ⟨_, rfl, ?_⟩; (try (rw [drewN_self wc]; generalize hq_ : World.drewN wc _ = wc; have n0_ : Aside0 (wc.heap[gb469]? = some (.cells #[.int .u64 a0_0, .slice A0_1 l0_1.length c0_1] 25 (0, 0))) := ⟨by rw [← hq_]; exact (bu BK469.out)⟩; have n1_ : Aside0 (wc.heap[gb470]? = some (.cells #[.int .u64 a1_0, .slice A1_1 l1_1.length c1_1] 25 (0, 0))) := ⟨by rw [← hq_]; exact (bu BK470.out)⟩; have n2_ : Aside0 (Below w.heap.size w wc) := ⟨by rw [← hq_]; exact (by repeat (first | (with_reducible first | exact HB.out | apply below_alloc | apply pw_below_drewN | apply below_drew1 | refine below_set ?_ (Aside0.out (by assumption))) | exact HB.out))⟩; clear BK469 BK470 HB hq_; have BK469 := n0_; have BK470 := n1_; have HB := n2_; clear n0_ n1_ n2_))))
    replace BK469 := am (blk_drew BK469.out); replace BK470 := am (blk_drew BK470.out); replace HB := am (below_drew1 HB.out)
    refine start_ (n := 10) (S := fun w' => w'.cell? ⟨gb469, 0, none⟩ = some (.int .u64 a0_0) ∧ w'.cell? ⟨gb469, 1, none⟩ = some (.slice A0_1 l0_1.length c0_1) ∧ w'.cell? ⟨gb470, 0, none⟩ = some (.int .u64 a1_0) ∧ w'.cell? ⟨gb470, 1, none⟩ = some (.slice A1_1 l1_1.length c1_1)) (ds := []) (tb 0 10) (by kernel_rfl) rfl rfl ⟨(blk_cell BK469.out 0).trans rfl, (blk_cell BK469.out 1).trans rfl, (blk_cell BK470.out 0).trans rfl, (blk_cell BK470.out 1).trans rfl⟩ (fun hHeld => ?_); refine with_tabW tallymanref17_Like.tab7 tallymanref17_Like.bits7 (fun HT_ HW_ => ?_)
    generalize wc.drew = w22 at BK469 BK470 HB hHeld ⊢
    refine pu 1 (some 28) (v := ?_) (a' := ?_) #[false, true, false, false, false, false, false, false, false, false] rfl rfl (any_of HT_.out (by kernel_rfl)) (fun _ _ _ h => h) ⟨by rfl, ?_⟩ ?_ ?_; rotate_left; · (intro w'; go_simp; with_reducible rfl)
    rotate_left; · (simp only [Act.put, sa_, sb_, sc_, i64_w, i32_w]; rfl)
    refine pu 4 (some 31) (v := ?_) (a' := ?_) #[false, true, false, false, true, false, false, false, false, false] rfl rfl (any_of HT_.out (by kernel_rfl)) (fun _ _ _ h => h) ⟨by rfl, ?_⟩ ?_ ?_; rotate_left; · (intro w'; go_simp; with_reducible rfl)
    rotate_left; · (simp only [Act.put, sa_, sb_, sc_, i64_w, i32_w]; rfl)
    refine tk 0 (some 27) (v := ?_) (a' := ?_) #[true, true, false, false, true, false, false, false, false, false] rfl rfl (take_ofW HT_.out HW_.out (by kernel_rfl)) (fun _ _ _ h => h) ⟨by rfl, ?_⟩ hHeld ?_ ?_; rotate_left; · (rintro w' ⟨s0, s1, s2, s3⟩; go_simp; with_reducible rfl)
    rotate_left; · (simp only [Act.put, sa_, sb_, sc_, i64_w, i32_w]; rfl)
    refine tk 3 (some 30) (v := ?_) (a' := ?_) #[true, true, false, true, true, false, false, false, false, false] rfl rfl (take_ofW HT_.out HW_.out (by kernel_rfl)) (fun _ _ _ h => h) ⟨by rfl, ?_⟩ hHeld ?_ ?_; rotate_left; · (rintro w' ⟨s0, s1, s2, s3⟩; go_simp; with_reducible rfl)
    rotate_left; · (simp only [Act.put, sa_, sb_, sc_, i64_w, i32_w]; rfl)
    refine join_ (σ := Value × Value × Nat × Nat) 2 (tb 8 10) (fun s_ => [(29, .agg #[.int .u64 t474, s_.1]), (32, .agg #[.int .u64 t478, s_.2.1]), (8, .pointer (some ⟨s_.2.2.1, 0, none⟩)), (9, .pointer (some ⟨s_.2.2.2, 0, none⟩))]) (fun s_ w' => (w'.cell? ⟨gb469, 0, none⟩ = some (.int .u64 a0_0) ∧ w'.cell? ⟨gb469, 1, none⟩ = some (.slice A0_1 l0_1.length c0_1) ∧ w'.cell? ⟨gb470, 0, none⟩ = some (.int .u64 a1_0) ∧ w'.cell? ⟨gb470, 1, none⟩ = some (.slice A1_1 l1_1.length c1_1)) ∧ (Kd.R (Kd.int .u64) 22 w' w.heap.size (fun k_ => some k_ ≠ (s_.2.1 : Value).ownBlock) s_.1 t475) ∧ (Kd.R (Kd.int .u64) 22 w' w.heap.size (fun k_ => some k_ ≠ (s_.1 : Value).ownBlock) s_.2.1 t479) ∧ (w'.heap[gb469]? = some (.cells #[.int .u64 a0_0, .slice A0_1 l0_1.length c0_1] 25 (0, 0))) ∧ (w'.heap[gb470]? = some (.cells #[.int .u64 a1_0, .slice A1_1 l1_1.length c1_1] 25 (0, 0))) ∧ (w'.heap[s_.2.2.1]? = some (.cells #[.int .u64 0, .slice none 0 0] 25 (0, 0))) ∧ (w'.heap[s_.2.2.2]? = some (.cells #[.int .u64 0, .slice none 0 0] 25 (0, 0))) ∧ (w.heap.size ≤ s_.2.2.1) ∧ (w.heap.size ≤ s_.2.2.1) ∧ (gb469 ≠ s_.2.2.1) ∧ (s_.2.2.1 ≠ gb469) ∧ (gb470 ≠ s_.2.2.1) ∧ (s_.2.2.1 ≠ gb470) ∧ (s_.2.2.2 ≠ s_.2.2.1) ∧ (s_.2.2.1 ≠ s_.2.2.2) ∧ (w.heap.size ≤ s_.2.2.2) ∧ (w.heap.size ≤ s_.2.2.2) ∧ (gb469 ≠ s_.2.2.2) ∧ (s_.2.2.2 ≠ gb469) ∧ (gb470 ≠ s_.2.2.2) ∧ (s_.2.2.2 ≠ gb470) ∧ (Below w.heap.size w w')) ?_ ?_
    rotate_left
    ·
     intro hJ
     refine makers_ (fuel := 2) [⟨2, 29, FRow 22 w.heap.size t474 t475, ORow t474⟩, ⟨5, 32, FRow 22 w.heap.size t478 t479, ORow t478⟩, ⟨6, 8, FBox #[.int .u64 0, .slice none 0 0] 25, OBox⟩, ⟨7, 9, FBox #[.int .u64 0, .slice none 0 0] 25, OBox⟩] _ (tb 8 10) HT_.out hHeld (by simp) (by simp) (by simp) (by kernel_rfl) rfl ?_ ?_ ?_ ?_ ?_
     ·
      intro w' hb
      exact ⟨(blk_cell (blk_below BK469.out hb) 0).trans rfl, (blk_cell (blk_below BK469.out hb) 1).trans rfl, (blk_cell (blk_below BK470.out hb) 0).trans rfl, (blk_cell (blk_below BK470.out hb) 1).trans rfl⟩
     · exact List.forall_mem_cons.2 ⟨FRow.mono, List.forall_mem_cons.2 ⟨FRow.mono, List.forall_mem_cons.2 ⟨FBox.mono, List.forall_mem_cons.2 ⟨FBox.mono, fun _ h => by cases h⟩⟩⟩⟩
     · exact List.forall_mem_cons.2 ⟨FRow.lt, List.forall_mem_cons.2 ⟨FRow.lt, List.forall_mem_cons.2 ⟨FBox.lt, List.forall_mem_cons.2 ⟨FBox.lt, fun _ h => by cases h⟩⟩⟩⟩
     ·
      refine List.forall_mem_cons.2 ⟨?_, List.forall_mem_cons.2 ⟨?_, List.forall_mem_cons.2 ⟨?_, List.forall_mem_cons.2 ⟨?_, fun _ h => by cases h⟩⟩⟩⟩
      ·
       refine ⟨_, rfl, rfl, fun a' w' K hag hb hK => ?_⟩
       refine goes_ Try.func79 (by kernel_rfl) rfl #[.agg #[.int .u64 a0_0, .slice A0_1 l0_1.length c0_1], .int .u64 t473] rfl rfl rfl (by simp only [List.map_toArray, List.map_cons, List.map_nil]; rw [hag 27 (by simp), hag 28 (by simp)]; rfl) ?_
       refine (tallymanref17_below.calls kj3 a0_0 _ _ l0_1 t473 t474 t475 _ (Kd.C_below HR0_1.out (below_step HB.out hb)) HC0_1.out A17.out).mono ?_
       rintro e w1 ⟨v, rfl, ho, hb2⟩
       exact ⟨_, rfl, hK _ _ ⟨_, rfl, Kd.R_lower ho (below_step HB.out hb).size⟩ (fun k hk => R_base ho k (ORow.of hk)) hb2⟩
      ·
       refine ⟨_, rfl, rfl, fun a' w' K hag hb hK => ?_⟩
       refine goes_ Try.func79 (by kernel_rfl) rfl #[.agg #[.int .u64 a1_0, .slice A1_1 l1_1.length c1_1], .int .u64 t473] rfl rfl rfl (by simp only [List.map_toArray, List.map_cons, List.map_nil]; rw [hag 30 (by simp), hag 31 (by simp)]; rfl) ?_
       refine (tallymanref17_below.calls kj3 a1_0 _ _ l1_1 t473 t478 t479 _ (Kd.C_below HR1_1.out (below_step HB.out hb)) HC1_1.out A18.out).mono ?_
       rintro e w1 ⟨v, rfl, ho, hb2⟩
       exact ⟨_, rfl, hK _ _ ⟨_, rfl, Kd.R_lower ho (below_step HB.out hb).size⟩ (fun k hk => R_base ho k (ORow.of hk)) hb2⟩
      ·
       refine ⟨_, rfl, rfl, fun a' w' K hag hb hK => ?_⟩
       refine box_step ?hg (N := 8) ?hd (cs := #[.int .u64 0, .slice none 0 0]) (t := 25) ?hr ?_
       case hg => rfl
       case hd => rfl
       case hr => first | (go_simp; done) | (go_simp; rfl)
       intro g hg w1 hbox hb2
       exact hK _ _ ⟨g, rfl, hbox⟩ (fun k hk => by have e : g = k := (by simpa [OBox] using hk); omega) hb2
      ·
       refine ⟨_, rfl, rfl, fun a' w' K hag hb hK => ?_⟩
       refine box_step ?hg (N := 9) ?hd (cs := #[.int .u64 0, .slice none 0 0]) (t := 25) ?hr ?_
       case hg => rfl
       case hd => rfl
       case hr => first | (go_simp; done) | (go_simp; rfl)
       intro g hg w1 hbox hb2
       exact hK _ _ ⟨g, rfl, hbox⟩ (fun k hk => by have e : g = k := (by simpa [OBox] using hk); omega) hb2
     ·
      intro vs w' hl hb hF hD
      obtain ⟨v1, v2, v3, v4, rfl⟩ : ∃ v1 v2 v3 v4, vs = [v1, v2, v3, v4] := by
       match vs, hl with
       | [v1, v2, v3, v4], _ => exact ⟨v1, v2, v3, v4, rfl⟩
      obtain ⟨⟨s1, rfl, r1⟩, _⟩ := hF 0 _ _ rfl rfl
      obtain ⟨⟨s2, rfl, r2⟩, _⟩ := hF 1 _ _ rfl rfl
      obtain ⟨⟨g1, rfl, k1⟩, n1⟩ := hF 2 _ _ rfl rfl
      obtain ⟨⟨g2, rfl, k2⟩, n2⟩ := hF 3 _ _ rfl rfl
      have n1 := n1 g1 rfl
      have n2 := n2 g2 rfl
      have d12 := hD 0 1 _ _ _ _ (by decide) rfl rfl rfl rfl
      have d34 : ¬ g1 = g2 := fun e => hD 2 3 _ _ _ _ (by decide) rfl rfl rfl rfl g1 rfl (by rw [e]; rfl)
      have hz := HB.out.size
      have z469 := blk_lt BK469.out
      have z470 := blk_lt BK470.out
      refine norm_ (by rfl) (hJ (s1, s2, g1, g2) w' ⟨⟨(blk_cell (blk_below BK469.out hb) 0).trans rfl, (blk_cell (blk_below BK469.out hb) 1).trans rfl, (blk_cell (blk_below BK470.out hb) 0).trans rfl, (blk_cell (blk_below BK470.out hb) 1).trans rfl⟩, R_own_of r1 (fun b hb1 hb2 => d12 b (ORow.mk hb1) (ORow.mk hb2.symm)), R_own_of r2 (fun b hb1 hb2 => d12 b (ORow.mk hb2.symm) (ORow.mk hb1)), blk_below BK469.out hb, blk_below BK470.out hb, k1, k2, ?_⟩)
      refine ⟨?_, ?_, ?_, ?_, ?_, ?_, ?_, ?_, ?_, ?_, ?_, ?_, ?_, ?_, below_step HB.out hb⟩
      all_goals (dsimp only; omega)
    rintro ⟨v476, v480, gb482, gb483⟩ w27 ⟨hS_, h0_, h1_, h2_, h3_, h4_, h5_, h6_, h7_, h8_, h9_, h10_, h11_, h12_, h13_, h14_, h15_, h16_, h17_, h18_, h19_, h20_⟩
    have n0_ : Aside0 (Kd.R (Kd.int .u64) 22 w27 w.heap.size (fun k_ => some k_ ≠ (v480 : Value).ownBlock) v476 t475) := ⟨h0_⟩
    have n1_ : Aside0 (Kd.R (Kd.int .u64) 22 w27 w.heap.size (fun k_ => some k_ ≠ (v476 : Value).ownBlock) v480 t479) := ⟨h1_⟩
    have n2_ : Aside0 (w27.heap[gb469]? = some (.cells #[.int .u64 a0_0, .slice A0_1 l0_1.length c0_1] 25 (0, 0))) := ⟨h2_⟩
    have n3_ : Aside0 (w27.heap[gb470]? = some (.cells #[.int .u64 a1_0, .slice A1_1 l1_1.length c1_1] 25 (0, 0))) := ⟨h3_⟩
    have n4_ : Aside0 (w27.heap[gb482]? = some (.cells #[.int .u64 0, .slice none 0 0] 25 (0, 0))) := ⟨h4_⟩
    have n5_ : Aside0 (w27.heap[gb483]? = some (.cells #[.int .u64 0, .slice none 0 0] 25 (0, 0))) := ⟨h5_⟩
    have n6_ : Aside0 (w.heap.size ≤ gb482) := ⟨h6_⟩
    have n7_ : Aside0 (w.heap.size ≤ gb482) := ⟨h7_⟩
    have n8_ : Aside0 (gb469 ≠ gb482) := ⟨h8_⟩
    have n9_ : Aside0 (gb482 ≠ gb469) := ⟨h9_⟩
    have n10_ : Aside0 (gb470 ≠ gb482) := ⟨h10_⟩
    have n11_ : Aside0 (gb482 ≠ gb470) := ⟨h11_⟩
    have n12_ : Aside0 (gb483 ≠ gb482) := ⟨h12_⟩
    have n13_ : Aside0 (gb482 ≠ gb483) := ⟨h13_⟩
    have n14_ : Aside0 (w.heap.size ≤ gb483) := ⟨h14_⟩
    have n15_ : Aside0 (w.heap.size ≤ gb483) := ⟨h15_⟩
    have n16_ : Aside0 (gb469 ≠ gb483) := ⟨h16_⟩
    have n17_ : Aside0 (gb483 ≠ gb469) := ⟨h17_⟩
    have n18_ : Aside0 (gb470 ≠ gb483) := ⟨h18_⟩
    have n19_ : Aside0 (gb483 ≠ gb470) := ⟨h19_⟩
    have n20_ : Aside0 (Below w.heap.size w w27) := ⟨h20_⟩
    clear BK469
    clear BK470
    clear HB
    clear h0_ h1_ h2_ h3_ h4_ h5_ h6_ h7_ h8_ h9_ h10_ h11_ h12_ h13_ h14_ h15_ h16_ h17_ h18_ h19_ h20_
    have HO477 := n0_
    have HO481 := n1_
    have BK469 := n2_
    have BK470 := n3_
    have BK482 := n4_
    have BK483 := n5_
    have GW482 := n6_
    have GE482 := n7_
    have NB469_482 := n8_
    have NB482_469 := n9_
    have NB470_482 := n10_
    have NB482_470 := n11_
    have NB483_482 := n12_
    have NB482_483 := n13_
    have GW483 := n14_
    have GE483 := n15_
    have NB469_483 := n16_
    have NB483_469 := n17_
    have NB470_483 := n18_
    have NB483_470 := n19_
    have HB := n20_
    clear n0_ n1_ n2_ n3_ n4_ n5_ n6_ n7_ n8_ n9_ n10_ n11_ n12_ n13_ n14_ n15_ n16_ n17_ n18_ n19_ n20_
    have hHeld : w27.cell? ⟨gb469, 0, none⟩ = some (.int .u64 a0_0) ∧ w27.cell? ⟨gb469, 1, none⟩ = some (.slice A0_1 l0_1.length c0_1) ∧ w27.cell? ⟨gb470, 0, none⟩ = some (.int .u64 a1_0) ∧ w27.cell? ⟨gb470, 1, none⟩ = some (.slice A1_1 l1_1.length c1_1) := hS_
    obtain ⟨Ao29, co29, eo29⟩ := Kd.R_slice HO477.out
    (first | subst eo29 | (injection eo29 with f1_ f2_ f3_; have f4_ := f1_.symm; have f5_ := f3_.symm; clear f1_ f2_ f3_; subst f4_; subst f5_))
    obtain ⟨Ao32, co32, eo32⟩ := Kd.R_slice HO481.out
    (first | subst eo32 | (injection eo32 with f1_ f2_ f3_; have f4_ := f1_.symm; have f5_ := f3_.symm; clear f1_ f2_ f3_; subst f4_; subst f5_))
    refine norm_ (a' := ?_) ?_ ?_
    rotate_left
    ·
     simp only [putAll, Act.put, List.setIfInBounds_toArray, List.set_cons_zero, List.set_cons_succ]
     rfl
    refine one_ (i := 8) (N := none) (tb 9 10) rfl rfl (one_of HT_.out (by kernel_rfl)) (by decide) (fun K hK => ?_)
    have hs28 : w27.cell? ⟨gb482, 0, none⟩ = some (.int .u64 0) := (blk_cell BK482.out 0).trans rfl
    have hfs28 := blk_frozen BK482.out 0
    have hns28_0 := NB469_482.out
    have hns28_1 := NB470_482.out
    have hns28_3 := NB483_482.out
    have hms28_0 := NB482_469.out
    have hms28_1 := NB482_470.out
    have hms28_3 := NB482_483.out
    have hs30 : w27.cell? ⟨gb482, 1, none⟩ = some (.slice none 0 0) := (blk_cell BK482.out 1).trans rfl
    have hfs30 := blk_frozen BK482.out 1
    have hns30_0 := NB469_482.out
    have hns30_1 := NB470_482.out
    have hns30_3 := NB483_482.out
    have hms30_0 := NB482_469.out
    have hms30_1 := NB482_470.out
    have hms30_3 := NB482_483.out
    refine skip_ (w1 := ?_) (by rfl) rfl ?_ ?_
    rotate_left
    ·
     go_simp
     rfl
    refine hK.out _ _ ⟨((cell_far (p := ⟨gb482, _, none⟩) NB469_482.out _).trans (((cell_far (p := ⟨gb482, _, none⟩) NB469_482.out _).trans (hHeld.1)))), ((cell_far (p := ⟨gb482, _, none⟩) NB469_482.out _).trans (((cell_far (p := ⟨gb482, _, none⟩) NB469_482.out _).trans (hHeld.2.1)))), ((cell_far (p := ⟨gb482, _, none⟩) NB470_482.out _).trans (((cell_far (p := ⟨gb482, _, none⟩) NB470_482.out _).trans (hHeld.2.2.1)))), ((cell_far (p := ⟨gb482, _, none⟩) NB470_482.out _).trans (((cell_far (p := ⟨gb482, _, none⟩) NB470_482.out _).trans (hHeld.2.2.2))))⟩ (fun hHeld => ?_)
    clear hK K
    refine one_ (i := 9) (N := none) (tb 10 10) rfl rfl (one_of HT_.out (by kernel_rfl)) (by decide) (fun K hK => ?_)
    have hs31 : w27.cell? ⟨gb483, 0, none⟩ = some (.int .u64 0) := (blk_cell BK483.out 0).trans rfl
    have hfs31 := blk_frozen BK483.out 0
    have hns31_0 := NB469_483.out
    have hns31_1 := NB470_483.out
    have hns31_2 := NB482_483.out
    have hms31_0 := NB483_469.out
    have hms31_1 := NB483_470.out
    have hms31_2 := NB483_482.out
    have hs33 : w27.cell? ⟨gb483, 1, none⟩ = some (.slice none 0 0) := (blk_cell BK483.out 1).trans rfl
    have hfs33 := blk_frozen BK483.out 1
    have hns33_0 := NB469_483.out
    have hns33_1 := NB470_483.out
    have hns33_2 := NB482_483.out
    have hms33_0 := NB483_469.out
    have hms33_1 := NB483_470.out
    have hms33_2 := NB483_482.out
    refine skip_ (w1 := ?_) (by rfl) rfl ?_ ?_
    rotate_left
    ·
     go_simp
     rfl
    refine hK.out _ _ ⟨((cell_far (p := ⟨gb483, _, none⟩) NB469_483.out _).trans (((cell_far (p := ⟨gb483, _, none⟩) NB469_483.out _).trans (hHeld.1)))), ((cell_far (p := ⟨gb483, _, none⟩) NB469_483.out _).trans (((cell_far (p := ⟨gb483, _, none⟩) NB469_483.out _).trans (hHeld.2.1)))), ((cell_far (p := ⟨gb483, _, none⟩) NB470_483.out _).trans (((cell_far (p := ⟨gb483, _, none⟩) NB470_483.out _).trans (hHeld.2.2.1)))), ((cell_far (p := ⟨gb483, _, none⟩) NB470_483.out _).trans (((cell_far (p := ⟨gb483, _, none⟩) NB470_483.out _).trans (hHeld.2.2.2))))⟩ (fun hHeld => ?_)
    clear hK K
    refine done_ (done_of HT_.out (by kernel_rfl)) ?_
    try go_wp2
    go_loopg [10, 11] kj3 (fun kq v10 v11 w' => ∃ (x10_2 : Int) (x11_2 : Int), v10 = .int .i64 x10_2 ∧ v11 = .int .i64 x11_2 ∧ Aside0 (tallymanref17_Like.l0 kq x10_2 x11_2 t474 t475 t478 t479 = some (r1, r2)) ∧ Aside0 (kq ≤ kj3) ∧ Aside0 (Kd.R (Kd.int .u64) 22 w' w.heap.size (fun k_ => some k_ ≠ ((.slice Ao32 t479.length co32) : Value).ownBlock) (.slice Ao29 t475.length co29) t475) ∧ Aside0 (Kd.R (Kd.int .u64) 22 w' w.heap.size (fun k_ => some k_ ≠ ((.slice Ao29 t475.length co29) : Value).ownBlock) (.slice Ao32 t479.length co32) t479) ∧ Aside0 (w'.heap[gb469]? = some (.cells #[.int .u64 a0_0, (.slice A0_1 l0_1.length c0_1)] 25 (0, 0))) ∧ Aside0 (w'.heap[gb470]? = some (.cells #[.int .u64 a1_0, (.slice A1_1 l1_1.length c1_1)] 25 (0, 0))) ∧ Aside0 (w'.heap[gb482]? = some (.cells #[.int .u64 t474, (.slice Ao29 t475.length co29)] 25 (0, 0))) ∧ Aside0 (w'.heap[gb483]? = some (.cells #[.int .u64 t478, (.slice Ao32 t479.length co32)] 25 (0, 0))) ∧ Aside0 (Below w.heap.size w w'))
    case atStart => exact ⟨(0), (0), (by first | rfl | (simp; done) | (simp [*]; done)), (by first | rfl | (simp; done) | (simp [*]; done)), H', ⟨Nat.le_refl _⟩, ⟨by (with_reducible repeat (first | apply Kd.R_alloc | apply Kd.R_drewN | apply Kd.R_drew)); exact Kd.R_mono (Kd.R_far (p := ⟨gb483, 1, none⟩) (Kd.R_far (p := ⟨gb483, 0, none⟩) (Kd.R_far (p := ⟨gb482, 1, none⟩) (Kd.R_far (p := ⟨gb482, 0, none⟩) (Kd.R_types (Kd.R_types HO477.out BK482.out (by decide)) BK483.out (by decide)) (fun _ hk => hk.1.2) (.int .u64 t474)) (fun _ hk => hk.1.2) (.slice Ao29 t475.length co29)) (fun _ hk => hk.2) (.int .u64 t478)) (fun _ hk => hk.2) (.slice Ao32 t479.length co32)) (fun _ hk => hk.1.1)⟩, ⟨by (with_reducible repeat (first | apply Kd.R_alloc | apply Kd.R_drewN | apply Kd.R_drew)); exact Kd.R_mono (Kd.R_far (p := ⟨gb483, 1, none⟩) (Kd.R_far (p := ⟨gb483, 0, none⟩) (Kd.R_far (p := ⟨gb482, 1, none⟩) (Kd.R_far (p := ⟨gb482, 0, none⟩) (Kd.R_types (Kd.R_types HO481.out BK482.out (by decide)) BK483.out (by decide)) (fun _ hk => hk.1.2) (.int .u64 t474)) (fun _ hk => hk.1.2) (.slice Ao29 t475.length co29)) (fun _ hk => hk.2) (.int .u64 t478)) (fun _ hk => hk.2) (.slice Ao32 t479.length co32)) (fun _ hk => hk.1.1)⟩, ⟨by (with_reducible repeat (first | refine blk_drewN ?_ _ | refine blk_drew ?_ | refine blk_alloc ?_ _)); refine blk_far ?_ NB469_483.out _; (with_reducible repeat (first | refine blk_drewN ?_ _ | refine blk_drew ?_ | refine blk_alloc ?_ _)); refine blk_far ?_ NB469_483.out _; (with_reducible repeat (first | refine blk_drewN ?_ _ | refine blk_drew ?_ | refine blk_alloc ?_ _)); refine blk_far ?_ NB469_482.out _; (with_reducible repeat (first | refine blk_drewN ?_ _ | refine blk_drew ?_ | refine blk_alloc ?_ _)); refine blk_far ?_ NB469_482.out _; (with_reducible repeat (first | refine blk_drewN ?_ _ | refine blk_drew ?_ | refine blk_alloc ?_ _)); exact BK469.out⟩, ⟨by (with_reducible repeat (first | refine blk_drewN ?_ _ | refine blk_drew ?_ | refine blk_alloc ?_ _)); refine blk_far ?_ NB470_483.out _; (with_reducible repeat (first | refine blk_drewN ?_ _ | refine blk_drew ?_ | refine blk_alloc ?_ _)); refine blk_far ?_ NB470_483.out _; (with_reducible repeat (first | refine blk_drewN ?_ _ | refine blk_drew ?_ | refine blk_alloc ?_ _)); refine blk_far ?_ NB470_482.out _; (with_reducible repeat (first | refine blk_drewN ?_ _ | refine blk_drew ?_ | refine blk_alloc ?_ _)); refine blk_far ?_ NB470_482.out _; (with_reducible repeat (first | refine blk_drewN ?_ _ | refine blk_drew ?_ | refine blk_alloc ?_ _)); exact BK470.out⟩, ⟨by (with_reducible repeat (first | refine blk_drewN ?_ _ | refine blk_drew ?_ | refine blk_alloc ?_ _)); refine blk_far ?_ NB482_483.out _; (with_reducible repeat (first | refine blk_drewN ?_ _ | refine blk_drew ?_ | refine blk_alloc ?_ _)); refine blk_far ?_ NB482_483.out _; (with_reducible repeat (first | refine blk_drewN ?_ _ | refine blk_drew ?_ | refine blk_alloc ?_ _)); refine blk_put (cs := #[.int .u64 t474, .slice none 0 0]) ?_ 1 _ rfl; (with_reducible repeat (first | refine blk_drewN ?_ _ | refine blk_drew ?_ | refine blk_alloc ?_ _)); refine blk_put (cs := #[.int .u64 0, .slice none 0 0]) ?_ 0 _ rfl; (with_reducible repeat (first | refine blk_drewN ?_ _ | refine blk_drew ?_ | refine blk_alloc ?_ _)); exact BK482.out⟩, ⟨by (with_reducible repeat (first | refine blk_drewN ?_ _ | refine blk_drew ?_ | refine blk_alloc ?_ _)); refine blk_put (cs := #[.int .u64 t478, .slice none 0 0]) ?_ 1 _ rfl; (with_reducible repeat (first | refine blk_drewN ?_ _ | refine blk_drew ?_ | refine blk_alloc ?_ _)); refine blk_put (cs := #[.int .u64 0, .slice none 0 0]) ?_ 0 _ rfl; (with_reducible repeat (first | refine blk_drewN ?_ _ | refine blk_drew ?_ | refine blk_alloc ?_ _)); refine blk_far ?_ NB483_482.out _; (with_reducible repeat (first | refine blk_drewN ?_ _ | refine blk_drew ?_ | refine blk_alloc ?_ _)); refine blk_far ?_ NB483_482.out _; (with_reducible repeat (first | refine blk_drewN ?_ _ | refine blk_drew ?_ | refine blk_alloc ?_ _)); exact BK483.out⟩, ⟨by repeat (first | (with_reducible first | exact HB.out | apply below_alloc | apply pw_below_drewN | apply below_drew1 | refine below_set ?_ (Aside0.out (by assumption))) | exact HB.out)⟩⟩
    case round =>
     clear H'
     try clear c1; try clear p2; try clear c7
     obtain ⟨x10_2, x11_2, rfl, rfl, HA, HK2, HO_483001, HO_484001, BK469, BK470, BK482, BK483, HB⟩ := hrel
     cases gk with
     | zero => exact absurd HA.out (by simp [tallymanref17_Like.l0])
     | succ k2 =>
      have H := HA.out
      clear HA
      simp only [tallymanref17_Like.l0] at H
      by_cases c34 : x11_2 < (t475.length : Int)
      ·
       rw [if_pos c34] at H
       have c34b0 : decide (x11_2 < (t475.length : Int)) = true := decide_eq_true c34
       clear c34
       by_cases c35 : 0 ≤ x11_2
       ·
        rw [if_pos c35] at H
        have c35b0 : decide (0 ≤ x11_2) = true := decide_eq_true c35
        clear c35
        replace H := Option.bind_eq_some_iff.mp H
        obtain ⟨t485, A360, H⟩ := H
        replace H : (if t485 = true then (tallymanref17_Like.l0 k2 (wrap64 (x10_2 + 1)) (wrap64 (x11_2 + 1)) t474 t475 t478 t479) else (tallymanref17_Like.l0 k2 x10_2 (wrap64 (x11_2 + 1)) t474 t475 t478 t479)) = some (r1, r2) := H
        have A36 := Aside0.mk A360
        clear A360
        by_cases c37 : t485 = true
        ·
         subst c37
         have H1 : (tallymanref17_Like.l0 k2 (wrap64 (x10_2 + 1)) (wrap64 (x11_2 + 1)) t474 t475 t478 t479) = some (r1, r2) := by rw [if_pos rfl] at H; exact H
         clear H
         have H := H1
         clear H1
         have H' := Aside0.mk H
         clear H
         have hnb38 := NB482_469.out; have hnc38 := NB469_482.out; have hnb39 := NB482_470.out; have hnc39 := NB470_482.out; have hnb40 := NB482_483.out; have hnc40 := NB483_482.out; have hcz41_0 := ca BK482.out; have hcz41_1 := cb BK482.out; have hfz41_0 := blk_frozen BK482.out 0; have hfz41_1 := blk_frozen BK482.out 1
         try go_wp2
         replace HO_483001 := am (Kd.R_drew HO_483001.out); replace HO_484001 := am (Kd.R_drew HO_484001.out); replace BK469 := am (blk_drew BK469.out); replace BK470 := am (blk_drew BK470.out); replace BK482 := am (blk_drew BK482.out); replace BK483 := am (blk_drew BK483.out); replace HB := am (below_drew1 HB.out)
         have p484 : 0 ≤ (x11_2 : Int) := of_decide_eq_true (by first | (with_reducible assumption) | assumption)
         have q484 : x11_2 < (t475.length : Int) := of_decide_eq_true (by first | (with_reducible assumption) | assumption)
         obtain ⟨ad484, e484, hx484_0⟩ := Kd.at_int (Kd.R_reads' HO_483001.out).2.2 x11_2 p484 q484
         cases e484
         replace p484 := eq_true p484
         replace q484 := eq_true q484
         refine start_ (n := 7) (S := fun w' => w'.cell? ⟨gb483, 0, none⟩ = some (.int .u64 t478) ∧ w'.cell? ⟨gb483, 1, none⟩ = some (.slice Ao32 t479.length co32) ∧ w'.cell? ⟨gb482, 0, none⟩ = some (.int .u64 t474) ∧ w'.cell? ⟨gb482, 1, none⟩ = some (.slice (some ad484) t475.length co29) ∧ w'.cell? (ad484.add (x11_2).toNat) = some (.int .u64 (rd t475 x11_2))) (ds := []) (tb 0 7) (by kernel_rfl) rfl rfl ⟨(blk_cell BK483.out 0).trans rfl, (blk_cell BK483.out 1).trans rfl, (blk_cell BK482.out 0).trans rfl, (blk_cell BK482.out 1).trans rfl, hx484_0⟩ (fun hHeld => ?_)
         generalize wr.drew = w42 at HO_483001 HO_484001 BK469 BK470 BK482 BK483 HB hx484_0 hHeld ⊢
         refine pu 1 (some 41) (v := ?_) (a' := ?_) #[false, true, false, false, false, false, false] rfl rfl (by kernel_rfl) (fun _ _ _ h => h) ⟨by rfl, ?_⟩ ?_ ?_; rotate_left; · (intro w'; go_simp; with_reducible rfl)
         rotate_left; · (simp only [Act.put, sa_, sb_, sc_, i64_w, i32_w]; rfl)
         refine pu 3 (some 43) (v := ?_) (a' := ?_) #[false, true, false, true, false, false, false] rfl rfl (by kernel_rfl) (fun _ _ _ h => h) ⟨by rfl, ?_⟩ ?_ ?_; rotate_left; · (intro w'; go_simp; with_reducible rfl)
         rotate_left; · (simp only [Act.put, sa_, sb_, sc_, i64_w, i32_w]; rfl)
         refine tk 0 (some 40) (v := ?_) (a' := ?_) #[true, true, false, true, false, false, false] rfl rfl (by kernel_rfl) (fun _ _ _ h => h) ⟨by rfl, ?_⟩ hHeld ?_ ?_; rotate_left; · (rintro w' ⟨s0, s1, s2, s3, s4⟩; go_simp; with_reducible rfl)
         rotate_left; · (simp only [Act.put, sa_, sb_, sc_, i64_w, i32_w]; rfl)
         refine tk 2 (some 42) (v := ?_) (a' := ?_) (tb 4 7) rfl rfl (by kernel_rfl) (fun _ _ _ h => h) ⟨by rfl, ?_⟩ hHeld ?_ ?_; rotate_left; · (rintro w' ⟨s0, s1, s2, s3, s4⟩; go_simp; with_reducible rfl)
         rotate_left; · (simp only [Act.put, sa_, sb_, sc_, i64_w, i32_w]; rfl)
         refine pu 4 (some 44) (v := ?_) (a' := ?_) (tb 5 7) rfl rfl (by kernel_rfl) (fun _ _ _ h => h) ⟨by rfl, ?_⟩ ?_ ?_; rotate_left; · (intro w'; go_simp; with_reducible rfl)
         rotate_left; · (simp only [Act.put, sa_, sb_, sc_, i64_w, i32_w]; rfl)
         refine tk 5 (some 45) (v := ?_) (a' := ?_) (tb 6 7) rfl rfl (by kernel_rfl) (fun _ _ _ h => h) ⟨by rfl, ?_⟩ hHeld ?_ ?_; rotate_left; · (rintro w' ⟨s0, s1, s2, s3, s4⟩; go_simp; with_reducible rfl)
         rotate_left; · (simp only [Act.put, sa_, sb_, sc_, i64_w, i32_w]; rfl)
         refine one_ (i := 6) (N := some 46) (tb 7 7) rfl rfl (by kernel_rfl) (by decide) (fun K hK => ?_)
         refine goes_ Try.func82 (by kernel_rfl) rfl #[.agg #[.int .u64 t478, .slice Ao32 t479.length co32], .int .u64 (rd t475 x11_2)] (by rfl) rfl rfl (by (try simp only [List.map_toArray, List.map_cons, List.map_nil]); first | done | rfl | (simp only [List.length_drop, List.length_take]; rfl)) ?_
         with_reducible refine (tallymanref17_in.calls k2 t478 _ _ t479 (rd t475 x11_2) true _ ?side1 ?side2 A36.out).mono ?_
         (case side1 => repeat (first | exact (Kd.R_reads' HO_484001.out).2.2 | (with_reducible refine Kd.C_alloc ?_ _) | (with_reducible refine Kd.C_drewN ?_ _) | (with_reducible refine Kd.C_drew ?_)))
         (case side2 => exact (Kd.R_reads' HO_484001.out).2.1)
         rintro e w43 ⟨rfl, hb⟩
         have HS4_ := (hb.cell (World.block_lt_of_cell? _ _ (hHeld.2.2.2.2))).trans (hHeld.2.2.2.2)
         refine ⟨_, rfl, ?_⟩
         replace HO_483001 := rb HO_483001 hb; replace HO_484001 := rb HO_484001 hb; replace BK469 := bb BK469 hb; replace BK470 := bb BK470 hb; replace BK482 := bb BK482 hb; replace BK483 := bb BK483 hb; replace HB := am (below_step (by repeat (first | (with_reducible first | exact HB.out | apply below_alloc | apply pw_below_drewN | apply below_drew1 | refine below_set ?_ (Aside0.out (by assumption))) | exact HB.out)) hb)
         (try clear hb)
         (try clear hb2)
         (try clear hk)
         (try clear hi)
         refine hK.out _ _ ⟨(blk_cell BK483.out 0).trans rfl, (blk_cell BK483.out 1).trans rfl, (blk_cell BK482.out 0).trans rfl, (blk_cell BK482.out 1).trans rfl, HS4_⟩ (fun hHeld => ?_)
         clear hK K
         refine norm_ (a' := ?_) ?_ ?_
         rotate_left
         ·
          show Act.put _ (some 46) _ = _
          simp only [Act.put, List.setIfInBounds_toArray, List.set_cons_zero, List.set_cons_succ, i64_w, i32_w]
          rfl
         refine done_ (by kernel_rfl) ?_
         try go_wp2
         go_roundg k2
         case measure => have := HJ3.out; have := HK2.out; omega
         case rel => exact ⟨(wrap64 (x10_2 + 1)), (wrap64 (x11_2 + 1)), (by first | rfl | (simp; done) | (simp [*]; done)), (by first | rfl | (simp; done) | (simp [*]; done)), H', ⟨by have := HJ3.out; have := HK2.out; omega⟩, ⟨ru HO_483001.out⟩, ⟨ru HO_484001.out⟩, ⟨bu BK469.out⟩, ⟨bu BK470.out⟩, ⟨bu BK482.out⟩, ⟨bu BK483.out⟩, ⟨by repeat (first | (with_reducible first | exact HB.out | apply below_alloc | apply pw_below_drewN | apply below_drew1 | refine below_set ?_ (Aside0.out (by assumption))) | exact HB.out)⟩⟩
        ·
         replace c37 := Bool.eq_false_iff.mpr c37
         subst c37
         have H1 : (tallymanref17_Like.l0 k2 x10_2 (wrap64 (x11_2 + 1)) t474 t475 t478 t479) = some (r1, r2) := by rw [if_neg (show ¬ (false = true) by decide)] at H; exact H
         clear H
         have H := H1
         clear H1
         have H' := Aside0.mk H
         clear H
         have hnb44 := NB482_469.out; have hnc44 := NB469_482.out; have hnb45 := NB482_470.out; have hnc45 := NB470_482.out; have hnb46 := NB482_483.out; have hnc46 := NB483_482.out; have hcz47_0 := ca BK482.out; have hcz47_1 := cb BK482.out; have hfz47_0 := blk_frozen BK482.out 0; have hfz47_1 := blk_frozen BK482.out 1
         try go_wp2
         replace HO_483001 := am (Kd.R_drew HO_483001.out); replace HO_484001 := am (Kd.R_drew HO_484001.out); replace BK469 := am (blk_drew BK469.out); replace BK470 := am (blk_drew BK470.out); replace BK482 := am (blk_drew BK482.out); replace BK483 := am (blk_drew BK483.out); replace HB := am (below_drew1 HB.out)
         have p484 : 0 ≤ (x11_2 : Int) := of_decide_eq_true (by first | (with_reducible assumption) | assumption)
         have q484 : x11_2 < (t475.length : Int) := of_decide_eq_true (by first | (with_reducible assumption) | assumption)
         obtain ⟨ad484, e484, hx484_0⟩ := Kd.at_int (Kd.R_reads' HO_483001.out).2.2 x11_2 p484 q484
         cases e484
         replace p484 := eq_true p484
         replace q484 := eq_true q484
         refine start_ (n := 7) (S := fun w' => w'.cell? ⟨gb483, 0, none⟩ = some (.int .u64 t478) ∧ w'.cell? ⟨gb483, 1, none⟩ = some (.slice Ao32 t479.length co32) ∧ w'.cell? ⟨gb482, 0, none⟩ = some (.int .u64 t474) ∧ w'.cell? ⟨gb482, 1, none⟩ = some (.slice (some ad484) t475.length co29) ∧ w'.cell? (ad484.add (x11_2).toNat) = some (.int .u64 (rd t475 x11_2))) (ds := []) (tb 0 7) (by kernel_rfl) rfl rfl ⟨(blk_cell BK483.out 0).trans rfl, (blk_cell BK483.out 1).trans rfl, (blk_cell BK482.out 0).trans rfl, (blk_cell BK482.out 1).trans rfl, hx484_0⟩ (fun hHeld => ?_)
         generalize wr.drew = w48 at HO_483001 HO_484001 BK469 BK470 BK482 BK483 HB hx484_0 hHeld ⊢
         refine pu 1 (some 41) (v := ?_) (a' := ?_) #[false, true, false, false, false, false, false] rfl rfl (by kernel_rfl) (fun _ _ _ h => h) ⟨by rfl, ?_⟩ ?_ ?_; rotate_left; · (intro w'; go_simp; with_reducible rfl)
         rotate_left; · (simp only [Act.put, sa_, sb_, sc_, i64_w, i32_w]; rfl)
         refine pu 3 (some 43) (v := ?_) (a' := ?_) #[false, true, false, true, false, false, false] rfl rfl (by kernel_rfl) (fun _ _ _ h => h) ⟨by rfl, ?_⟩ ?_ ?_; rotate_left; · (intro w'; go_simp; with_reducible rfl)
         rotate_left; · (simp only [Act.put, sa_, sb_, sc_, i64_w, i32_w]; rfl)
         refine tk 0 (some 40) (v := ?_) (a' := ?_) #[true, true, false, true, false, false, false] rfl rfl (by kernel_rfl) (fun _ _ _ h => h) ⟨by rfl, ?_⟩ hHeld ?_ ?_; rotate_left; · (rintro w' ⟨s0, s1, s2, s3, s4⟩; go_simp; with_reducible rfl)
         rotate_left; · (simp only [Act.put, sa_, sb_, sc_, i64_w, i32_w]; rfl)
         refine tk 2 (some 42) (v := ?_) (a' := ?_) (tb 4 7) rfl rfl (by kernel_rfl) (fun _ _ _ h => h) ⟨by rfl, ?_⟩ hHeld ?_ ?_; rotate_left; · (rintro w' ⟨s0, s1, s2, s3, s4⟩; go_simp; with_reducible rfl)
         rotate_left; · (simp only [Act.put, sa_, sb_, sc_, i64_w, i32_w]; rfl)
         refine pu 4 (some 44) (v := ?_) (a' := ?_) (tb 5 7) rfl rfl (by kernel_rfl) (fun _ _ _ h => h) ⟨by rfl, ?_⟩ ?_ ?_; rotate_left; · (intro w'; go_simp; with_reducible rfl)
         rotate_left; · (simp only [Act.put, sa_, sb_, sc_, i64_w, i32_w]; rfl)
         refine tk 5 (some 45) (v := ?_) (a' := ?_) (tb 6 7) rfl rfl (by kernel_rfl) (fun _ _ _ h => h) ⟨by rfl, ?_⟩ hHeld ?_ ?_; rotate_left; · (rintro w' ⟨s0, s1, s2, s3, s4⟩; go_simp; with_reducible rfl)
         rotate_left; · (simp only [Act.put, sa_, sb_, sc_, i64_w, i32_w]; rfl)
         refine one_ (i := 6) (N := some 46) (tb 7 7) rfl rfl (by kernel_rfl) (by decide) (fun K hK => ?_)
         refine goes_ Try.func82 (by kernel_rfl) rfl #[.agg #[.int .u64 t478, .slice Ao32 t479.length co32], .int .u64 (rd t475 x11_2)] (by rfl) rfl rfl (by (try simp only [List.map_toArray, List.map_cons, List.map_nil]); first | done | rfl | (simp only [List.length_drop, List.length_take]; rfl)) ?_
         with_reducible refine (tallymanref17_in.calls k2 t478 _ _ t479 (rd t475 x11_2) false _ ?side1 ?side2 A36.out).mono ?_
         (case side1 => repeat (first | exact (Kd.R_reads' HO_484001.out).2.2 | (with_reducible refine Kd.C_alloc ?_ _) | (with_reducible refine Kd.C_drewN ?_ _) | (with_reducible refine Kd.C_drew ?_)))
         (case side2 => exact (Kd.R_reads' HO_484001.out).2.1)
         rintro e w49 ⟨rfl, hb⟩
         have HS4_ := (hb.cell (World.block_lt_of_cell? _ _ (hHeld.2.2.2.2))).trans (hHeld.2.2.2.2)
         refine ⟨_, rfl, ?_⟩
         replace HO_483001 := rb HO_483001 hb; replace HO_484001 := rb HO_484001 hb; replace BK469 := bb BK469 hb; replace BK470 := bb BK470 hb; replace BK482 := bb BK482 hb; replace BK483 := bb BK483 hb; replace HB := am (below_step (by repeat (first | (with_reducible first | exact HB.out | apply below_alloc | apply pw_below_drewN | apply below_drew1 | refine below_set ?_ (Aside0.out (by assumption))) | exact HB.out)) hb)
         (try clear hb)
         (try clear hb2)
         (try clear hk)
         (try clear hi)
         refine hK.out _ _ ⟨(blk_cell BK483.out 0).trans rfl, (blk_cell BK483.out 1).trans rfl, (blk_cell BK482.out 0).trans rfl, (blk_cell BK482.out 1).trans rfl, HS4_⟩ (fun hHeld => ?_)
         clear hK K
         refine norm_ (a' := ?_) ?_ ?_
         rotate_left
         ·
          show Act.put _ (some 46) _ = _
          simp only [Act.put, List.setIfInBounds_toArray, List.set_cons_zero, List.set_cons_succ, i64_w, i32_w]
          rfl
         refine done_ (by kernel_rfl) ?_
         try go_wp2
         go_roundg k2
         case measure => have := HJ3.out; have := HK2.out; omega
         case rel => exact ⟨(x10_2), (wrap64 (x11_2 + 1)), (by first | rfl | (simp; done) | (simp [*]; done)), (by first | rfl | (simp; done) | (simp [*]; done)), H', ⟨by have := HJ3.out; have := HK2.out; omega⟩, ⟨ru HO_483001.out⟩, ⟨ru HO_484001.out⟩, ⟨bu BK469.out⟩, ⟨bu BK470.out⟩, ⟨bu BK482.out⟩, ⟨bu BK483.out⟩, ⟨by repeat (first | (with_reducible first | exact HB.out | apply below_alloc | apply pw_below_drewN | apply below_drew1 | refine below_set ?_ (Aside0.out (by assumption))) | exact HB.out)⟩⟩
       ·
        rw [if_neg c35] at H
        exact absurd H (by simp)
      ·
       rw [if_neg c34] at H
       have c34b0 : decide (x11_2 < (t475.length : Int)) = false := decide_eq_false c34
       clear c34
       by_cases c50 : (wrap64 ((wrap64 ((t475.length : Int) + (t479.length : Int))) - x10_2)) = 0
       ·
        rw [if_pos c50] at H
        have c50b0 : ((wrap64 ((wrap64 ((t475.length : Int) + (t479.length : Int))) - x10_2)) == 0) = true := beq_iff_eq.mpr c50
        have c50b1 : ((wrap64 ((wrap64 ((t475.length : Int) + (t479.length : Int))) - x10_2)) != 0) = false := bne_eq_false_iff_eq.mpr c50
        clear c50
        simp only [Option.some.injEq, Prod.mk.injEq] at H
        obtain ⟨rfl, rfl⟩ := H
        have hnb51 := NB482_469.out; have hnc51 := NB469_482.out; have hnb52 := NB482_470.out; have hnc52 := NB470_482.out; have hnb53 := NB482_483.out; have hnc53 := NB483_482.out; have hcz54_0 := ca BK482.out; have hcz54_1 := cb BK482.out; have hfz54_0 := blk_frozen BK482.out 0; have hfz54_1 := blk_frozen BK482.out 1; have hnb55 := NB483_469.out; have hnc55 := NB469_483.out; have hnb56 := NB483_470.out; have hnc56 := NB470_483.out; have hcz57_0 := ca BK483.out; have hcz57_1 := cb BK483.out; have hfz57_0 := blk_frozen BK483.out 0; have hfz57_1 := blk_frozen BK483.out 1
        go_wp2
        go_ret2
        exact ⟨by first | rfl | (simp [errW_none, errW_some] <;> rfl) | (simp [*, errW_none, errW_some] <;> rfl), by repeat (first | (with_reducible first | exact HB.out | apply below_alloc | apply pw_below_drewN | apply below_drew1 | refine below_set ?_ (Aside0.out (by assumption))) | exact HB.out)⟩
       ·
        rw [if_neg c50] at H
        have c50b0 : ((wrap64 ((wrap64 ((t475.length : Int) + (t479.length : Int))) - x10_2)) == 0) = false := beq_eq_false_iff_ne.mpr c50
        have c50b1 : ((wrap64 ((wrap64 ((t475.length : Int) + (t479.length : Int))) - x10_2)) != 0) = true := bne_iff_ne.mpr c50
        simp only [Option.some.injEq, Prod.mk.injEq] at H
        obtain ⟨rfl, rfl⟩ := H
        have hnb58 := NB482_469.out; have hnc58 := NB469_482.out; have hnb59 := NB482_470.out; have hnc59 := NB470_482.out; have hnb60 := NB482_483.out; have hnc60 := NB483_482.out; have hcz61_0 := ca BK482.out; have hcz61_1 := cb BK482.out; have hfz61_0 := blk_frozen BK482.out 0; have hfz61_1 := blk_frozen BK482.out 1; have hnb62 := NB483_469.out; have hnc62 := NB469_483.out; have hnb63 := NB483_470.out; have hnc63 := NB470_483.out; have hcz64_0 := ca BK483.out; have hcz64_1 := cb BK483.out; have hfz64_0 := blk_frozen BK483.out 0; have hfz64_1 := blk_frozen BK483.out 1
        go_wp2
        go_ret2
        exact ⟨by first | rfl | (simp [errW_none, errW_some] <;> rfl) | (simp [*, errW_none, errW_some] <;> rfl), by repeat (first | (with_reducible first | exact HB.out | apply below_alloc | apply pw_below_drewN | apply below_drew1 | refine below_set ?_ (Aside0.out (by assumption))) | exact HB.out)⟩
   ·
    rw [if_neg c15] at H
    have c15b0 : (x6_3 == 0) = false := beq_eq_false_iff_ne.mpr c15
    have c15b1 : (x6_3 != 0) = true := bne_iff_ne.mpr c15
    simp only [Option.some.injEq, Prod.mk.injEq] at H
    obtain ⟨rfl, rfl⟩ := H
    go_wp2
    go_ret2
    exact ⟨by first | rfl | (simp [errW_none, errW_some] <;> rfl) | (simp [*, errW_none, errW_some] <;> rfl), by repeat (first | (with_reducible first | exact HB.out | apply below_alloc | apply pw_below_drewN | apply below_drew1 | refine below_set ?_ (Aside0.out (by assumption))) | exact HB.out)⟩

end Go.Proofs.Ytpagondojdlknaa.H
