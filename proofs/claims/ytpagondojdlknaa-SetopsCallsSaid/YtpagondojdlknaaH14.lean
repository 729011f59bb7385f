-- Made by this session's own call of the printer (functions that are proved by hand are taken from a text beside it).
import Derived.Test.YtpagondojdlknaaM9
import Derived.Test.YtpagondojdlknaaZ2
import Derived.Test.YtpagondojdlknaaH0
import Derived.Test.YtpagondojdlknaaH10
import Derived.Test.YtpagondojdlknaaH12
import Derived.Test.YtpagondojdlknaaH13
namespace Go.Proofs.Ytpagondojdlknaa.H
open Go.RowKit Go.Proofs.YtpagondojdlknaaW.PrintWords Go.Proofs.YtpagondojdlknaaW.PrintLast Go.Proofs.YtpagondojdlknaaW.PrintMore
attribute [local go_sem] max2_int min2_int max_two min_two max_three min_three max_four min_four   -- for this text's walks alone
set_option linter.unusedVariables false
set_option linter.unusedSimpArgs false

/-! ### tallymanref17_of -/
def keepR (how : Int) (p q : Bool) : Bool := (how == 0) || ((how == 1) && (p && q)) || ((how == 2) && (p && !q)) || ((how == 3) && (p != q))
def kpR (how : Int) (p q : Bool) (out : List Int) (h : Int) : List Int := if keepR how p q = true then out ++ [h] else out
def tallymanref17_of.l0 : Nat → Int → Int → Int → Int → List Int → Int → List Int → Int → List Int → Option (Int × List Int × Int)
  | 0, _, _, _, _, _, _, _, _, _ => none
  | k + 1, x2, x13, x14, la, x, lb, y, lim, out =>
    if 0 ≤ x13 ∧ x13 ≤ (x.length : Int) ∧ 0 ≤ x14 ∧ x14 ≤ (y.length : Int) ∧ x.length ≤ 1000000 ∧ y.length ≤ 1000000 ∧ out.length ≤ 1000000000 then
      (if x13 < (x.length : Int) then
        (if x14 < (y.length : Int) then
          (if rd x x13 < rd y x14 then tallymanref17_of.l0 k x2 (wrap64 (x13 + 1)) x14 la x lb y lim (kpR x2 true false out (rd x x13))
            else (if rd y x14 < rd x x13 then tallymanref17_of.l0 k x2 x13 (wrap64 (x14 + 1)) la x lb y lim (kpR x2 false true out (rd y x14))
              else tallymanref17_of.l0 k x2 (wrap64 (x13 + 1)) (wrap64 (x14 + 1)) la x lb y lim (kpR x2 true true out (rd x x13))))
          else tallymanref17_of.l0 k x2 (wrap64 (x13 + 1)) x14 la x lb y lim (kpR x2 true false out (rd x x13)))
        else (if x14 < (y.length : Int) then tallymanref17_of.l0 k x2 x13 (wrap64 (x14 + 1)) la x lb y lim (kpR x2 false true out (rd y x14))
          else (if 8192 < out.length then some (0, [], 3) else some (lim, out, 0))))
      else none
def tallymanref17_of.j0 : Nat → Int → Int → Int → List Int → Int → List Int → Option (Int × List Int × Int)
 | 0, _, _, _, _, _, _ => none
 | k + 1, x2, x8, x365000, x365001, x366000, x366001 => if x8 = 0 then ((tallymanref17_least.f x365000 x366000).bind fun t369 => ((tallymanref17_below.f k x365000 x365001 t369).bind fun bt370 => ((tallymanref17_below.f k x366000 x366001 t369).bind fun bt374 => (tallymanref17_of.l0 k x2 0 0 bt370.1 bt370.2 bt374.1 bt374.2 t369 ([] : List Int))))) else (some (0, ([] : List Int), x8))
def tallymanref17_of.f (k : Nat) (a0_0 : Int) (l0_1 : List Int) (a1_0 : Int) (l1_1 : List Int) (a2 : Int) : Option (Int × List Int × Int) := (tallymanref17_Check.f k a0_0 l0_1).bind fun t367 => (if t367 = 0 then ((tallymanref17_Check.f k a1_0 l1_1).bind fun t368 => (tallymanref17_of.j0 k a2 t368 a0_0 l0_1 a1_0 l1_1)) else (tallymanref17_of.j0 k a2 t367 a0_0 l0_1 a1_0 l1_1))
theorem tallymanref17_of.mono_l0 : ∀ k y0 y1 y2 y3 y4 y5 y6 y7 y8, LeO (tallymanref17_of.l0 k y0 y1 y2 y3 y4 y5 y6 y7 y8) (tallymanref17_of.l0 (k + 1) y0 y1 y2 y3 y4 y5 y6 y7 y8)
  | 0 => fun _ _ _ _ _ _ _ _ _ r h => by simp [tallymanref17_of.l0] at h
  | k + 1 => by
    have ih1 := tallymanref17_of.mono_l0 k
    intro y0 y1 y2 y3 y4 y5 y6 y7 y8
    unfold tallymanref17_of.l0
    repeat' first
      | (with_reducible exact ih1 _ _ _ _ _ _ _ _ _)
      | (with_reducible exact LeO.refl _)
      | (with_reducible exact LeO.none _)
      | (with_reducible refine LeO.ite ?_ ?_)
theorem tallymanref17_of.mono_j0 : ∀ k y0 y1 y2 y3 y4 y5, LeO (tallymanref17_of.j0 k y0 y1 y2 y3 y4 y5) (tallymanref17_of.j0 (k + 1) y0 y1 y2 y3 y4 y5)
  | 0 => fun _ _ _ _ _ _ r h => by simp [tallymanref17_of.j0] at h
  | k + 1 => by
    intro y0 y1 y2 y3 y4 y5
    unfold tallymanref17_of.j0
    repeat' first
      | (with_reducible exact tallymanref17_of.mono_l0 _ _ _ _ _ _ _ _ _ _)
      | (with_reducible exact tallymanref17_below.mono _ _ _ _)
      | (with_reducible exact LeO.refl _)
      | (with_reducible exact LeO.none _)
      | (with_reducible refine LeO.ite ?_ ?_)
      | (with_reducible refine LeO.bind ?_ (fun _ => ?_))
theorem tallymanref17_of.mono : ∀ a0 a1 a2 a3 a4 k, LeO (tallymanref17_of.f k a0 a1 a2 a3 a4) (tallymanref17_of.f (k + 1) a0 a1 a2 a3 a4) := by
  intro a0 a1 a2 a3 a4 k
  unfold tallymanref17_of.f
  repeat' first
      | (with_reducible exact tallymanref17_of.mono_j0 _ _ _ _ _ _ _)
      | (with_reducible exact tallymanref17_Check.mono _ _ _)
      | (with_reducible exact LeO.refl _)
      | (with_reducible exact LeO.none _)
      | (with_reducible refine LeO.ite ?_ ?_)
      | (with_reducible refine LeO.bind ?_ (fun _ => ?_))
/-- The ways through a round. -/
theorem tallymanref17_of.ways {k : Nat} {how i j la : Int} {x : List Int} {lb : Int} {y : List Int} {lim : Int} {out : List Int} {r : Int × List Int × Int} (H : tallymanref17_of.l0 (k + 1) how i j la x lb y lim out = some r) :
    (0 ≤ i ∧ 0 ≤ j ∧ i ≤ 1000000 ∧ j ≤ 1000000 ∧ out.length ≤ 1000000000) ∧
    ((decide (i < (x.length : Int)) = true ∧ decide (j < (y.length : Int)) = true ∧ (j == (y.length : Int)) = false ∧ ∃ hv vb, rd x i = hv ∧ rd y j = vb ∧ decide (hv ≤ vb) = true ∧ (vb == hv) = false ∧ tallymanref17_of.l0 k how (wrap64 (i + 1)) j la x lb y lim (kpR how true false out hv) = some r)
    ∨ (decide (i < (x.length : Int)) = true ∧ decide (j < (y.length : Int)) = true ∧ (j == (y.length : Int)) = false ∧ ∃ va hv, rd x i = va ∧ rd y j = hv ∧ decide (va ≤ hv) = false ∧ (va == hv) = false ∧ tallymanref17_of.l0 k how i (wrap64 (j + 1)) la x lb y lim (kpR how false true out hv) = some r)
    ∨ (decide (i < (x.length : Int)) = true ∧ decide (j < (y.length : Int)) = true ∧ (j == (y.length : Int)) = false ∧ ∃ hv, rd x i = hv ∧ rd y j = hv ∧ decide (hv ≤ hv) = true ∧ tallymanref17_of.l0 k how (wrap64 (i + 1)) (wrap64 (j + 1)) la x lb y lim (kpR how true true out hv) = some r)
    ∨ (decide (i < (x.length : Int)) = true ∧ decide (j < (y.length : Int)) = false ∧ (j == (y.length : Int)) = true ∧ ∃ hv, rd x i = hv ∧ tallymanref17_of.l0 k how (wrap64 (i + 1)) j la x lb y lim (kpR how true false out hv) = some r)
    ∨ (decide (i < (x.length : Int)) = false ∧ decide (j < (y.length : Int)) = true ∧ (j == (y.length : Int)) = false ∧ ∃ hv, rd y j = hv ∧ tallymanref17_of.l0 k how i (wrap64 (j + 1)) la x lb y lim (kpR how false true out hv) = some r)
    ∨ (decide (i < (x.length : Int)) = false ∧ decide (j < (y.length : Int)) = false ∧ (if 8192 < out.length then some (0, [], 3) else some (lim, out, 0)) = some r)) := by
  simp only [tallymanref17_of.l0] at H
  split at H
  · next g =>
    obtain ⟨g1, g2, g3, g4, g5, g6, g7⟩ := g
    refine ⟨⟨g1, g3, by omega, by omega, g7⟩, ?_⟩
    by_cases c1 : i < (x.length : Int)
    · rw [if_pos c1] at H
      by_cases c2 : j < (y.length : Int)
      · rw [if_pos c2] at H
        have c3 : (j == (y.length : Int)) = false := beq_eq_false_iff_ne.2 (by omega)
        by_cases c4 : rd x i < rd y j
        · rw [if_pos c4] at H
          exact .inl ⟨decide_eq_true c1, decide_eq_true c2, c3, _, _, rfl, rfl, decide_eq_true (by omega), beq_eq_false_iff_ne.2 (by omega), H⟩
        · rw [if_neg c4] at H
          by_cases c5 : rd y j < rd x i
          · rw [if_pos c5] at H
            exact .inr (.inl ⟨decide_eq_true c1, decide_eq_true c2, c3, _, _, rfl, rfl, decide_eq_false (by omega), beq_eq_false_iff_ne.2 (by omega), H⟩)
          · rw [if_neg c5] at H
            exact .inr (.inr (.inl ⟨decide_eq_true c1, decide_eq_true c2, c3, _, rfl, by omega, decide_eq_true (by omega), H⟩))
      · rw [if_neg c2] at H
        exact .inr (.inr (.inr (.inl ⟨decide_eq_true c1, decide_eq_false c2, beq_iff_eq.2 (by omega), _, rfl, H⟩)))
    · rw [if_neg c1] at H
      by_cases c2 : j < (y.length : Int)
      · rw [if_pos c2] at H
        exact .inr (.inr (.inr (.inr (.inl ⟨decide_eq_false c1, decide_eq_true c2, beq_eq_false_iff_ne.2 (by omega), _, rfl, H⟩))))
      · rw [if_neg c2] at H
        exact .inr (.inr (.inr (.inr (.inr ⟨decide_eq_false c1, decide_eq_false c2, H⟩))))
  · cases H
theorem how_ways (how : Int) : ((how == 0) = true ∧ (how == 1) = false ∧ (how == 2) = false ∧ (how == 3) = false) ∨ ((how == 0) = false ∧ (how == 1) = true ∧ (how == 2) = false ∧ (how == 3) = false) ∨
    ((how == 0) = false ∧ (how == 1) = false ∧ (how == 2) = true ∧ (how == 3) = false) ∨ ((how == 0) = false ∧ (how == 1) = false ∧ (how == 2) = false ∧ (how == 3) = true) ∨
    ((how == 0) = false ∧ (how == 1) = false ∧ (how == 2) = false ∧ (how == 3) = false) := by
  have f : ∀ n : Int, ¬ how = n → (how == n) = false := fun n h => beq_eq_false_iff_ne.2 h
  by_cases h0 : how = 0
  · exact .inl ⟨beq_iff_eq.2 h0, f _ (by omega), f _ (by omega), f _ (by omega)⟩
  by_cases h1 : how = 1
  · exact .inr (.inl ⟨f _ h0, beq_iff_eq.2 h1, f _ (by omega), f _ (by omega)⟩)
  by_cases h2 : how = 2
  · exact .inr (.inr (.inl ⟨f _ h0, f _ h1, beq_iff_eq.2 h2, f _ (by omega)⟩))
  by_cases h3 : how = 3
  · exact .inr (.inr (.inr (.inl ⟨f _ h0, f _ h1, f _ h2, beq_iff_eq.2 h3⟩)))
  exact .inr (.inr (.inr (.inr ⟨f _ h0, f _ h1, f _ h2, f _ h3⟩)))
def tallymanref17_of.T7 : Bool × List (List Nat × List Nat) := (true, [([], []), ([], []), ([0, 1], [0, 1]), ([], []), ([], []), ([3, 4, 2], [3, 4]), ([], []), ([], []), ([6, 2, 5, 0, 1, 2, 6, 7], [2, 6]), ([7, 5, 8, 0, 1, 2, 3, 4, 5, 6, 7, 8], [5, 7])])
def tallymanref17_of.B7 : List Nat := [0, 0, 3, 0, 0, 31, 0, 0, 255, 511]
theorem tallymanref17_of.tab7 : rtab .any (opsOf Try.f80 7) = tallymanref17_of.T7 := by kernel_rfl
theorem tallymanref17_of.bits7 : waitsOk tallymanref17_of.T7.2 tallymanref17_of.B7 = true := by kernel_rfl
set_option maxHeartbeats 8000000 in
set_option maxRecDepth 100000 in
theorem tallymanref17_of.calls (k : Nat) (a0_0 : Int) (A0_1 : Option Addr) (c0_1 : Nat) (l0_1 : List Int) (a1_0 : Int) (A1_1 : Option Addr) (c1_1 : Nat) (l1_1 : List Int) (a2 : Int) (r1 : Int) (r2 : List Int) (r3 : Int) (w : World) (hr0_1 : Kd.C (Kd.int .u64) w A0_1 l0_1.length l0_1) (hc0_1 : l0_1.length ≤ c0_1) (hr1_1 : Kd.C (Kd.int .u64) w A1_1 l1_1.length l1_1) (hc1_1 : l1_1.length ≤ c1_1) (h : tallymanref17_of.f k a0_0 l0_1 a1_0 l1_1 a2 = some (r1, r2, r3)) :
  Calls Try.prog 80 #[.agg #[.int .u64 a0_0, .slice A0_1 l0_1.length c0_1], .agg #[.int .u64 a1_0, .slice A1_1 l1_1.length c1_1], .int .i64 a2] w fun e w' => ∃ v1_ : Value, e = .returned (.tuple #[.agg #[.int .u64 r1, v1_], .int .i64 r3]) ∧ Kd.R (Kd.int .u64) 22 w' w.heap.size (fun _ => True) v1_ r2 ∧ Below w.heap.size w w' := by
 have hu25 := Try.underlying25
 have HR0_1 := Aside0.mk hr0_1
 have HC0_1 := Aside0.mk hc0_1
 clear hr0_1 hc0_1
 have HR1_1 := Aside0.mk hr1_1
 have HC1_1 := Aside0.mk hc1_1
 clear hr1_1 hc1_1
 have HB := am (Below.refl w.heap.size w)
 have H : ((tallymanref17_Check.f k a0_0 l0_1).bind fun t367 => (if t367 = 0 then ((tallymanref17_Check.f k a1_0 l1_1).bind fun t368 => (tallymanref17_of.j0 k a2 t368 a0_0 l0_1 a1_0 l1_1)) else (tallymanref17_of.j0 k a2 t367 a0_0 l0_1 a1_0 l1_1))) = some (r1, r2, r3) := h
 clear h
 replace H := Option.bind_eq_some_iff.mp H
 obtain ⟨t367, A40, H⟩ := H
 replace H : (if t367 = 0 then ((tallymanref17_Check.f k a1_0 l1_1).bind fun t368 => (tallymanref17_of.j0 k a2 t368 a0_0 l0_1 a1_0 l1_1)) else (tallymanref17_of.j0 k a2 t367 a0_0 l0_1 a1_0 l1_1)) = some (r1, r2, r3) := H
 have A4 := Aside0.mk A40
 clear A40
 have HC5 := Aside0.mk H
 clear H
 go_enter Try.func80, Try.ntmps80
 go_upto_if 21 with (first | ((with_reducible refine gate_dst (N := 3) rfl ?_); (try (refine gate_guard (by rfl) ?_; dsimp only)); refine box_event ?hg (N := 3) ?hd (cs := #[.int .u64 a0_0, .slice A0_1 l0_1.length c0_1]) (t := 25) ?hr ?_; (case hd => rfl); (case hg => rfl); (case hr => first | (go_simp; done) | (go_simp; rfl)); intro gb364 hg w6 hbox hb; obtain ⟨HBn, GW364⟩ := tri hg hb (hu HB.out); have GE364 := GW364; have BK364 := am (hbox); clear HB; have HB := HBn; clear HBn; clear hb hbox hg) | ((with_reducible refine gate_dst (N := 4) rfl ?_); (try (refine gate_guard (by rfl) ?_; dsimp only)); refine box_event ?hg (N := 4) ?hd (cs := #[.int .u64 a1_0, .slice A1_1 l1_1.length c1_1]) (t := 25) ?hr ?_; (case hd => rfl); (case hg => rfl); (case hr => first | (go_simp; done) | (go_simp; rfl)); intro gb365 hg w7 hbox hb; obtain ⟨HBn, GW365⟩ := tri hg hb (by repeat (first | (with_reducible first | exact HB.out | apply below_alloc | apply pw_below_drewN | apply below_drew1 | refine below_set ?_ (Aside0.out (by assumption))) | exact HB.out)); have GE365 := GW365; have BK365 := am (hbox); have NB364_365 := nl hg (bu BK364.out); have NB365_364 := nr hg (bu BK364.out); replace BK364 := bb BK364 hb; clear HB; have HB := HBn; clear HBn; clear hb hbox hg) | ((with_reducible refine gate_dst (N := 6) rfl ?_); (try (refine gate_guard (by rfl) ?_; dsimp only)); refine box_event ?hg (N := 6) ?hd (cs := #[.int .u64 0, .slice none 0 0]) (t := 25) ?hr ?_; (case hd => rfl); (case hg => rfl); (case hr => first | (go_simp; done) | (go_simp; rfl)); intro gb366 hg w8 hbox hb; obtain ⟨HBn, GW366⟩ := tri hg hb (by repeat (first | (with_reducible first | exact HB.out | apply below_alloc | apply pw_below_drewN | apply below_drew1 | refine below_set ?_ (Aside0.out (by assumption))) | exact HB.out)); have GE366 := GW366; have BK366 := am (hbox); have NB364_366 := nl hg (bu BK364.out); have NB366_364 := nr hg (bu BK364.out); have NB365_366 := nl hg (bu BK365.out); have NB366_365 := nr hg (bu BK365.out); replace BK364 := bb BK364 hb; replace BK365 := bb BK365 hb; clear HB; have HB := HBn; clear HBn; clear hb hbox hg; have hnb9 := NB364_365.out; have hnc9 := NB365_364.out; have hnb10 := NB364_366.out; have hnc10 := NB366_364.out; have hcz11_0 := ca BK364.out; have hcz11_1 := cb BK364.out; have hfz11_0 := blk_frozen BK364.out 0; have hfz11_1 := blk_frozen BK364.out 1) | ((with_reducible refine gate_callee (f := 32) rfl ?_); refine goesL_ (some 19) rfl rfl Try.func32 (by kernel_rfl) rfl #[.agg #[.int .u64 a0_0, .slice A0_1 l0_1.length c0_1]] rfl (by (try simp only [List.map_toArray, List.map_cons, List.map_nil]); first | done | rfl | (simp only [List.length_drop, List.length_take]; rfl)) ?_; (with_reducible refine (tallymanref17_Check.calls k a0_0 _ _ l0_1 t367 _ ?side1 ?side2 A4.out).mono ?_); (case side1 => repeat (first | exact (Kd.C_below HR0_1.out HB.out) | (with_reducible refine Kd.C_alloc ?_ _) | (with_reducible refine Kd.C_drewN ?_ _) | (with_reducible refine Kd.C_drew ?_))); (case side2 => exact HC0_1.out); rintro e w12 ⟨rfl, hb⟩; refine ⟨_, rfl, ?_⟩; replace BK364 := bb BK364 hb; replace BK365 := bb BK365 hb; replace BK366 := bb BK366 hb; replace HB := am (below_step (by repeat (first | (with_reducible first | exact HB.out | apply below_alloc | apply pw_below_drewN | apply below_drew1 | refine below_set ?_ (Aside0.out (by assumption))) | exact HB.out)) hb); (try clear hb); (try clear hb2); (try clear hk); (try clear hi)))
 (try simp only [Act.put, List.setIfInBounds_toArray, List.set_cons_zero, List.set_cons_succ])
 go_cut [8] (fun v8 wc => ∃ (kq : Nat) (x8_4 : Int), v8 = .int .i64 x8_4 ∧ Aside0 (tallymanref17_of.j0 kq a2 x8_4 a0_0 l0_1 a1_0 l1_1 = some (r1, r2, r3)) ∧ Aside0 (kq ≤ k) ∧ Aside0 (wc.heap[gb364]? = some (.cells #[.int .u64 a0_0, (.slice A0_1 l0_1.length c0_1)] 25 (0, 0))) ∧ Aside0 (wc.heap[gb365]? = some (.cells #[.int .u64 a1_0, (.slice A1_1 l1_1.length c1_1)] 25 (0, 0))) ∧ Aside0 (wc.heap[gb366]? = some (.cells #[.int .u64 0, (.slice none 0 0)] 25 (0, 0))) ∧ Aside0 (Below w.heap.size w wc))
 case first =>
  have H := HC5.out
  clear HC5
  by_cases c13 : t367 = 0
  ·
   rw [if_pos c13] at H
   have c13b0 : (t367 == 0) = true := beq_iff_eq.mpr c13
   have c13b1 : (t367 != 0) = false := bne_eq_false_iff_eq.mpr c13
   clear c13
   (first | rw [c13b0] | (simp only [i64_w, i32_w]; rw [c13b0]) | skip)
   replace H := Option.bind_eq_some_iff.mp H
   obtain ⟨t368, A140, H⟩ := H
   replace H : (tallymanref17_of.j0 k a2 t368 a0_0 l0_1 a1_0 l1_1) = some (r1, r2, r3) := H
   have A14 := Aside0.mk A140
   clear A140
   have H' := Aside0.mk H
   clear H
   have hnb15 := NB365_364.out
   have hnc15 := NB364_365.out
   have hnb16 := NB365_366.out
   have hnc16 := NB366_365.out
   have hcz17_0 := ca BK365.out
   have hcz17_1 := cb BK365.out
   have hfz17_0 := blk_frozen BK365.out 0
   have hfz17_1 := blk_frozen BK365.out 1
   go_wp2_with (first | ((with_reducible refine gate_callee (f := 32) rfl ?_); refine goesL_ (some 23) rfl rfl Try.func32 (by kernel_rfl) rfl #[.agg #[.int .u64 a1_0, .slice A1_1 l1_1.length c1_1]] rfl (by (try simp only [List.map_toArray, List.map_cons, List.map_nil]); first | done | rfl | (simp only [List.length_drop, List.length_take]; rfl)) ?_; (with_reducible refine (tallymanref17_Check.calls k a1_0 _ _ l1_1 t368 _ ?side1 ?side2 A14.out).mono ?_); (case side1 => repeat (first | exact (Kd.C_below HR1_1.out HB.out) | (with_reducible refine Kd.C_alloc ?_ _) | (with_reducible refine Kd.C_drewN ?_ _) | (with_reducible refine Kd.C_drew ?_))); (case side2 => exact HC1_1.out); rintro e w18 ⟨rfl, hb⟩; refine ⟨_, rfl, ?_⟩; replace BK364 := bb BK364 hb; replace BK365 := bb BK365 hb; replace BK366 := bb BK366 hb; replace HB := am (below_step (by repeat (first | (with_reducible first | exact HB.out | apply below_alloc | apply pw_below_drewN | apply below_drew1 | refine below_set ?_ (Aside0.out (by assumption))) | exact HB.out)) hb); (try clear hb); (try clear hb2); (try clear hk); (try clear hi)))
   go_meet
   case rel => exact ⟨_, (t368), (by first | rfl | (simp; done) | (simp [*]; done)), H', ⟨by first | omega | exact Nat.le_refl _⟩, ⟨bu BK364.out⟩, ⟨bu BK365.out⟩, ⟨bu BK366.out⟩, ⟨by repeat (first | (with_reducible first | exact HB.out | apply below_alloc | apply pw_below_drewN | apply below_drew1 | refine below_set ?_ (Aside0.out (by assumption))) | exact HB.out)⟩⟩
  ·
   rw [if_neg c13] at H
   have c13b0 : (t367 == 0) = false := beq_eq_false_iff_ne.mpr c13
   have c13b1 : (t367 != 0) = true := bne_iff_ne.mpr c13
   (first | rw [c13b0] | (simp only [i64_w, i32_w]; rw [c13b0]) | skip)
   have H' := Aside0.mk H
   clear H
   go_wp2
   go_meet
   case rel => exact ⟨_, (t367), (by first | rfl | (simp; done) | (simp [*]; done)), H', ⟨by first | omega | exact Nat.le_refl _⟩, ⟨bu BK364.out⟩, ⟨bu BK365.out⟩, ⟨bu BK366.out⟩, ⟨by repeat (first | (with_reducible first | exact HB.out | apply below_alloc | apply pw_below_drewN | apply below_drew1 | refine below_set ?_ (Aside0.out (by assumption))) | exact HB.out)⟩⟩
 case rest =>
  clear HC5
  try clear c1; try clear p2; try clear c3; try clear c8; try clear c9; try clear c10; try clear c13; try clear c13b0; try clear c13b1; try clear c15; try clear c16; try clear hcz11_0; try clear hcz11_1; try clear hcz17_0; try clear hcz17_1; try clear hfz11_0; try clear hfz11_1; try clear hfz17_0; try clear hfz17_1
  obtain ⟨kq, x8_4, rfl, HA, HJ4, BK364, BK365, BK366, HB⟩ := hcut
  cases kq with
  | zero => exact absurd HA.out (by simp [tallymanref17_of.j0])
  | succ kj4 =>
   have H := HA.out
   clear HA
   simp only [tallymanref17_of.j0] at H
   by_cases c19 : x8_4 = 0
   ·
    rw [if_pos c19] at H
    have c19b0 : (x8_4 == 0) = true := beq_iff_eq.mpr c19
    have c19b1 : (x8_4 != 0) = false := bne_eq_false_iff_eq.mpr c19
    clear c19
    replace H := Option.bind_eq_some_iff.mp H
    obtain ⟨t369, A200, H⟩ := H
    replace H : ((tallymanref17_below.f kj4 a0_0 l0_1 t369).bind fun bt370 => ((tallymanref17_below.f kj4 a1_0 l1_1 t369).bind fun bt374 => (tallymanref17_of.l0 kj4 a2 0 0 bt370.1 bt370.2 bt374.1 bt374.2 t369 ([] : List Int)))) = some (r1, r2, r3) := H
    have A20 := Aside0.mk A200
    clear A200
    replace H := Option.bind_eq_some_iff.mp H
    obtain ⟨⟨t370, t371⟩, A210, H⟩ := H
    replace H : ((tallymanref17_below.f kj4 a1_0 l1_1 t369).bind fun bt374 => (tallymanref17_of.l0 kj4 a2 0 0 t370 t371 bt374.1 bt374.2 t369 ([] : List Int))) = some (r1, r2, r3) := H
    have A21 := Aside0.mk A210
    clear A210
    replace H := Option.bind_eq_some_iff.mp H
    obtain ⟨⟨t374, t375⟩, A220, H⟩ := H
    replace H : (tallymanref17_of.l0 kj4 a2 0 0 t370 t371 t374 t375 t369 ([] : List Int)) = some (r1, r2, r3) := H
    have A22 := Aside0.mk A220
    clear A220
    have H' := Aside0.mk H
    clear H
    have hnb23 := NB364_365.out
    have hnc23 := NB365_364.out
    have hnb24 := NB364_366.out
    have hnc24 := NB366_364.out
    have hcz25_0 := ca BK364.out
    have hcz25_1 := cb BK364.out
    have hfz25_0 := blk_frozen BK364.out 0
    have hfz25_1 := blk_frozen BK364.out 1
    have hnb26 := NB365_366.out
    have hnc26 := NB366_365.out
    have hcz27_0 := ca BK365.out
    have hcz27_1 := cb BK365.out
    have hfz27_0 := blk_frozen BK365.out 0
    have hfz27_1 := blk_frozen BK365.out 1
    try go_wp2_with (first | ((with_reducible refine gate_callee (f := 81) rfl ?_); refine goesL_ (some 32) rfl rfl Try.func81 (by kernel_rfl) rfl #[.int .u64 a0_0, .int .u64 a1_0] rfl (by (try simp only [List.map_toArray, List.map_cons, List.map_nil]); first | done | rfl | (simp only [List.length_drop, List.length_take]; rfl)) ?_; (with_reducible refine (tallymanref17_least.calls a0_0 a1_0 t369 _ A20.out).mono ?_); rintro e w' ⟨rfl, ⟨nd, rfl⟩⟩; refine ⟨_, rfl, ?_⟩; (try (rw [drewN_self wc]; generalize hq_ : World.drewN wc _ = wc; have n0_ : Aside0 (wc.heap[gb364]? = some (.cells #[.int .u64 a0_0, .slice A0_1 l0_1.length c0_1] 25 (0, 0))) := ⟨by rw [← hq_]; exact (bu BK364.out)⟩; have n1_ : Aside0 (wc.heap[gb365]? = some (.cells #[.int .u64 a1_0, .slice A1_1 l1_1.length c1_1] 25 (0, 0))) := ⟨by rw [← hq_]; exact (bu BK365.out)⟩; have n2_ : Aside0 (wc.heap[gb366]? = some (.cells #[.int .u64 0, .slice none 0 0] 25 (0, 0))) := ⟨by rw [← hq_]; exact (bu BK366.out)⟩; have n3_ : Aside0 (Below w.heap.size w wc) := ⟨by rw [← hq_]; exact (by repeat (first | (with_reducible first | exact HB.out | apply below_alloc | apply pw_below_drewN | apply below_drew1 | refine below_set ?_ (Aside0.out (by assumption))) | exact HB.out))⟩; clear BK364 BK365 BK366 HB hq_; have BK364 := n0_; have BK365 := n1_; have BK366 := n2_; have HB := n3_; clear n0_ n1_ n2_ n3_))))
    replace BK364 := am (blk_drew BK364.out); replace BK365 := am (blk_drew BK365.out); replace BK366 := am (blk_drew BK366.out); replace HB := am (below_drew1 HB.out)
    refine start_ (n := 10) (S := fun w' => w'.cell? ⟨gb364, 0, none⟩ = some (.int .u64 a0_0) ∧ w'.cell? ⟨gb364, 1, none⟩ = some (.slice A0_1 l0_1.length c0_1) ∧ w'.cell? ⟨gb365, 0, none⟩ = some (.int .u64 a1_0) ∧ w'.cell? ⟨gb365, 1, none⟩ = some (.slice A1_1 l1_1.length c1_1)) (ds := []) (tb 0 10) (by kernel_rfl) rfl rfl ⟨(blk_cell BK364.out 0).trans rfl, (blk_cell BK364.out 1).trans rfl, (blk_cell BK365.out 0).trans rfl, (blk_cell BK365.out 1).trans rfl⟩ (fun hHeld => ?_); refine with_tabW tallymanref17_of.tab7 tallymanref17_of.bits7 (fun HT_ HW_ => ?_)
    generalize wc.drew = w28 at BK364 BK365 BK366 HB hHeld ⊢
    refine pure_ (i := 1) (N := some 34) (v := ?_) (a' := ?_) #[false, true, false, false, false, false, false, false, false, false] rfl rfl (any_of HT_.out (by kernel_rfl)) (fun _ _ _ h => h) (Or.inl ⟨by rfl, ?_⟩) ?_ ?_
    rotate_left
    ·
     intro w'
     go_simp
     with_reducible rfl
    rotate_left
    ·
     simp only [Act.put, List.setIfInBounds_toArray, List.set_cons_zero, List.set_cons_succ, i64_w, i32_w]
     rfl
    refine pure_ (i := 4) (N := some 37) (v := ?_) (a' := ?_) #[false, true, false, false, true, false, false, false, false, false] rfl rfl (any_of HT_.out (by kernel_rfl)) (fun _ _ _ h => h) (Or.inl ⟨by rfl, ?_⟩) ?_ ?_
    rotate_left
    ·
     intro w'
     go_simp
     with_reducible rfl
    rotate_left
    ·
     simp only [Act.put, List.setIfInBounds_toArray, List.set_cons_zero, List.set_cons_succ, i64_w, i32_w]
     rfl
    refine take_ (i := 0) (N := some 33) (v := ?_) (a' := ?_) #[true, true, false, false, true, false, false, false, false, false] rfl rfl (take_ofW HT_.out HW_.out (by kernel_rfl)) (fun _ _ _ h => h) (Or.inl ⟨by rfl, ?_⟩) hHeld ?_ ?_
    rotate_left
    ·
     rintro w' ⟨s0, s1, s2, s3⟩
     go_simp
     with_reducible rfl
    rotate_left
    ·
     simp only [Act.put, List.setIfInBounds_toArray, List.set_cons_zero, List.set_cons_succ, i64_w, i32_w]
     rfl
    refine take_ (i := 3) (N := some 36) (v := ?_) (a' := ?_) #[true, true, false, true, true, false, false, false, false, false] rfl rfl (take_ofW HT_.out HW_.out (by kernel_rfl)) (fun _ _ _ h => h) (Or.inl ⟨by rfl, ?_⟩) hHeld ?_ ?_
    rotate_left
    ·
     rintro w' ⟨s0, s1, s2, s3⟩
     go_simp
     with_reducible rfl
    rotate_left
    ·
     simp only [Act.put, List.setIfInBounds_toArray, List.set_cons_zero, List.set_cons_succ, i64_w, i32_w]
     rfl
    refine join_ (σ := Value × Value × Nat × Nat) 2 (tb 8 10) (fun s_ => [(35, .agg #[.int .u64 t370, s_.1]), (38, .agg #[.int .u64 t374, s_.2.1]), (10, .pointer (some ⟨s_.2.2.1, 0, none⟩)), (11, .pointer (some ⟨s_.2.2.2, 0, none⟩))]) (fun s_ w' => (w'.cell? ⟨gb364, 0, none⟩ = some (.int .u64 a0_0) ∧ w'.cell? ⟨gb364, 1, none⟩ = some (.slice A0_1 l0_1.length c0_1) ∧ w'.cell? ⟨gb365, 0, none⟩ = some (.int .u64 a1_0) ∧ w'.cell? ⟨gb365, 1, none⟩ = some (.slice A1_1 l1_1.length c1_1)) ∧ (Kd.R (Kd.int .u64) 22 w' w.heap.size (fun k_ => some k_ ≠ (s_.2.1 : Value).ownBlock) s_.1 t371) ∧ (Kd.R (Kd.int .u64) 22 w' w.heap.size (fun k_ => some k_ ≠ (s_.1 : Value).ownBlock) s_.2.1 t375) ∧ (w'.heap[gb364]? = some (.cells #[.int .u64 a0_0, .slice A0_1 l0_1.length c0_1] 25 (0, 0))) ∧ (w'.heap[gb365]? = some (.cells #[.int .u64 a1_0, .slice A1_1 l1_1.length c1_1] 25 (0, 0))) ∧ (w'.heap[gb366]? = some (.cells #[.int .u64 0, .slice none 0 0] 25 (0, 0))) ∧ (w'.heap[s_.2.2.1]? = some (.cells #[.int .u64 0, .slice none 0 0] 25 (0, 0))) ∧ (w'.heap[s_.2.2.2]? = some (.cells #[.int .u64 0, .slice none 0 0] 25 (0, 0))) ∧ (w.heap.size ≤ s_.2.2.1) ∧ (w.heap.size ≤ s_.2.2.1) ∧ (gb364 ≠ s_.2.2.1) ∧ (s_.2.2.1 ≠ gb364) ∧ (gb365 ≠ s_.2.2.1) ∧ (s_.2.2.1 ≠ gb365) ∧ (gb366 ≠ s_.2.2.1) ∧ (s_.2.2.1 ≠ gb366) ∧ (s_.2.2.2 ≠ s_.2.2.1) ∧ (s_.2.2.1 ≠ s_.2.2.2) ∧ (w.heap.size ≤ s_.2.2.2) ∧ (w.heap.size ≤ s_.2.2.2) ∧ (gb364 ≠ s_.2.2.2) ∧ (s_.2.2.2 ≠ gb364) ∧ (gb365 ≠ s_.2.2.2) ∧ (s_.2.2.2 ≠ gb365) ∧ (gb366 ≠ s_.2.2.2) ∧ (s_.2.2.2 ≠ gb366) ∧ (Below w.heap.size w w')) ?_ ?_
    rotate_left
    ·
     intro hJ
     refine makers_ (fuel := 2) [⟨2, 35, FRow 22 w.heap.size t370 t371, ORow t370⟩, ⟨5, 38, FRow 22 w.heap.size t374 t375, ORow t374⟩, ⟨6, 10, FBox #[.int .u64 0, .slice none 0 0] 25, OBox⟩, ⟨7, 11, FBox #[.int .u64 0, .slice none 0 0] 25, OBox⟩] _ (tb 8 10) HT_.out hHeld (by simp) (by simp) (by simp) (by kernel_rfl) rfl ?_ ?_ ?_ ?_ ?_
     ·
      intro w' hb
      exact ⟨(blk_cell (blk_below BK364.out hb) 0).trans rfl, (blk_cell (blk_below BK364.out hb) 1).trans rfl, (blk_cell (blk_below BK365.out hb) 0).trans rfl, (blk_cell (blk_below BK365.out hb) 1).trans rfl⟩
     · exact List.forall_mem_cons.2 ⟨FRow.mono, List.forall_mem_cons.2 ⟨FRow.mono, List.forall_mem_cons.2 ⟨FBox.mono, List.forall_mem_cons.2 ⟨FBox.mono, fun _ h => by cases h⟩⟩⟩⟩
     · exact List.forall_mem_cons.2 ⟨FRow.lt, List.forall_mem_cons.2 ⟨FRow.lt, List.forall_mem_cons.2 ⟨FBox.lt, List.forall_mem_cons.2 ⟨FBox.lt, fun _ h => by cases h⟩⟩⟩⟩
     ·
      refine List.forall_mem_cons.2 ⟨?_, List.forall_mem_cons.2 ⟨?_, List.forall_mem_cons.2 ⟨?_, List.forall_mem_cons.2 ⟨?_, fun _ h => by cases h⟩⟩⟩⟩
      ·
       refine ⟨_, rfl, rfl, fun a' w' K hag hb hK => ?_⟩
       refine goes_ Try.func79 (by kernel_rfl) rfl #[.agg #[.int .u64 a0_0, .slice A0_1 l0_1.length c0_1], .int .u64 t369] rfl rfl rfl (by simp only [List.map_toArray, List.map_cons, List.map_nil]; rw [hag 33 (by simp), hag 34 (by simp)]; rfl) ?_
       refine (tallymanref17_below.calls kj4 a0_0 _ _ l0_1 t369 t370 t371 _ (Kd.C_below HR0_1.out (below_step HB.out hb)) HC0_1.out A21.out).mono ?_
       rintro e w1 ⟨v, rfl, ho, hb2⟩
       exact ⟨_, rfl, hK _ _ ⟨_, rfl, Kd.R_lower ho (below_step HB.out hb).size⟩ (fun k hk => R_base ho k (ORow.of hk)) hb2⟩
      ·
       refine ⟨_, rfl, rfl, fun a' w' K hag hb hK => ?_⟩
       refine goes_ Try.func79 (by kernel_rfl) rfl #[.agg #[.int .u64 a1_0, .slice A1_1 l1_1.length c1_1], .int .u64 t369] rfl rfl rfl (by simp only [List.map_toArray, List.map_cons, List.map_nil]; rw [hag 36 (by simp), hag 37 (by simp)]; rfl) ?_
       refine (tallymanref17_below.calls kj4 a1_0 _ _ l1_1 t369 t374 t375 _ (Kd.C_below HR1_1.out (below_step HB.out hb)) HC1_1.out A22.out).mono ?_
       rintro e w1 ⟨v, rfl, ho, hb2⟩
       exact ⟨_, rfl, hK _ _ ⟨_, rfl, Kd.R_lower ho (below_step HB.out hb).size⟩ (fun k hk => R_base ho k (ORow.of hk)) hb2⟩
      ·
       refine ⟨_, rfl, rfl, fun a' w' K hag hb hK => ?_⟩
       refine box_step ?hg (N := 10) ?hd (cs := #[.int .u64 0, .slice none 0 0]) (t := 25) ?hr ?_
       case hg => rfl
       case hd => rfl
       case hr => first | (go_simp; done) | (go_simp; rfl)
       intro g hg w1 hbox hb2
       exact hK _ _ ⟨g, rfl, hbox⟩ (fun k hk => by have e : g = k := (by simpa [OBox] using hk); omega) hb2
      ·
       refine ⟨_, rfl, rfl, fun a' w' K hag hb hK => ?_⟩
       refine box_step ?hg (N := 11) ?hd (cs := #[.int .u64 0, .slice none 0 0]) (t := 25) ?hr ?_
       case hg => rfl
       case hd => rfl
       case hr => first | (go_simp; done) | (go_simp; rfl)
       intro g hg w1 hbox hb2
       exact hK _ _ ⟨g, rfl, hbox⟩ (fun k hk => by have e : g = k := (by simpa [OBox] using hk); omega) hb2
     ·
      intro vs w' hl hb hF hD
      obtain ⟨v1, v2, v3, v4, rfl⟩ : ∃ v1 v2 v3 v4, vs = [v1, v2, v3, v4] := by
       match vs, hl with
       | [v1, v2, v3, v4], _ => exact ⟨v1, v2, v3, v4, rfl⟩
      obtain ⟨⟨s1, rfl, r1⟩, _⟩ := hF 0 _ _ rfl rfl
      obtain ⟨⟨s2, rfl, r2⟩, _⟩ := hF 1 _ _ rfl rfl
      obtain ⟨⟨g1, rfl, k1⟩, n1⟩ := hF 2 _ _ rfl rfl
      obtain ⟨⟨g2, rfl, k2⟩, n2⟩ := hF 3 _ _ rfl rfl
      have n1 := n1 g1 rfl
      have n2 := n2 g2 rfl
      have d12 := hD 0 1 _ _ _ _ (by decide) rfl rfl rfl rfl
      have d34 : ¬ g1 = g2 := fun e => hD 2 3 _ _ _ _ (by decide) rfl rfl rfl rfl g1 rfl (by rw [e]; rfl)
      have hz := HB.out.size
      have z364 := blk_lt BK364.out
      have z365 := blk_lt BK365.out
      have z366 := blk_lt BK366.out
      refine norm_ (by rfl) (hJ (s1, s2, g1, g2) w' ⟨⟨(blk_cell (blk_below BK364.out hb) 0).trans rfl, (blk_cell (blk_below BK364.out hb) 1).trans rfl, (blk_cell (blk_below BK365.out hb) 0).trans rfl, (blk_cell (blk_below BK365.out hb) 1).trans rfl⟩, R_own_of r1 (fun b hb1 hb2 => d12 b (ORow.mk hb1) (ORow.mk hb2.symm)), R_own_of r2 (fun b hb1 hb2 => d12 b (ORow.mk hb2.symm) (ORow.mk hb1)), blk_below BK364.out hb, blk_below BK365.out hb, blk_below BK366.out hb, k1, k2, ?_⟩)
      refine ⟨?_, ?_, ?_, ?_, ?_, ?_, ?_, ?_, ?_, ?_, ?_, ?_, ?_, ?_, ?_, ?_, ?_, ?_, below_step HB.out hb⟩
      all_goals (dsimp only; omega)
    rintro ⟨v372, v376, gb378, gb379⟩ w33 ⟨hS_, h0_, h1_, h2_, h3_, h4_, h5_, h6_, h7_, h8_, h9_, h10_, h11_, h12_, h13_, h14_, h15_, h16_, h17_, h18_, h19_, h20_, h21_, h22_, h23_, h24_, h25_⟩
    have n0_ : Aside0 (Kd.R (Kd.int .u64) 22 w33 w.heap.size (fun k_ => some k_ ≠ (v376 : Value).ownBlock) v372 t371) := ⟨h0_⟩
    have n1_ : Aside0 (Kd.R (Kd.int .u64) 22 w33 w.heap.size (fun k_ => some k_ ≠ (v372 : Value).ownBlock) v376 t375) := ⟨h1_⟩
    have n2_ : Aside0 (w33.heap[gb364]? = some (.cells #[.int .u64 a0_0, .slice A0_1 l0_1.length c0_1] 25 (0, 0))) := ⟨h2_⟩
    have n3_ : Aside0 (w33.heap[gb365]? = some (.cells #[.int .u64 a1_0, .slice A1_1 l1_1.length c1_1] 25 (0, 0))) := ⟨h3_⟩
    have n4_ : Aside0 (w33.heap[gb366]? = some (.cells #[.int .u64 0, .slice none 0 0] 25 (0, 0))) := ⟨h4_⟩
    have n5_ : Aside0 (w33.heap[gb378]? = some (.cells #[.int .u64 0, .slice none 0 0] 25 (0, 0))) := ⟨h5_⟩
    have n6_ : Aside0 (w33.heap[gb379]? = some (.cells #[.int .u64 0, .slice none 0 0] 25 (0, 0))) := ⟨h6_⟩
    have n7_ : Aside0 (w.heap.size ≤ gb378) := ⟨h7_⟩
    have n8_ : Aside0 (w.heap.size ≤ gb378) := ⟨h8_⟩
    have n9_ : Aside0 (gb364 ≠ gb378) := ⟨h9_⟩
    have n10_ : Aside0 (gb378 ≠ gb364) := ⟨h10_⟩
    have n11_ : Aside0 (gb365 ≠ gb378) := ⟨h11_⟩
    have n12_ : Aside0 (gb378 ≠ gb365) := ⟨h12_⟩
    have n13_ : Aside0 (gb366 ≠ gb378) := ⟨h13_⟩
    have n14_ : Aside0 (gb378 ≠ gb366) := ⟨h14_⟩
    have n15_ : Aside0 (gb379 ≠ gb378) := ⟨h15_⟩
    have n16_ : Aside0 (gb378 ≠ gb379) := ⟨h16_⟩
    have n17_ : Aside0 (w.heap.size ≤ gb379) := ⟨h17_⟩
    have n18_ : Aside0 (w.heap.size ≤ gb379) := ⟨h18_⟩
    have n19_ : Aside0 (gb364 ≠ gb379) := ⟨h19_⟩
    have n20_ : Aside0 (gb379 ≠ gb364) := ⟨h20_⟩
    have n21_ : Aside0 (gb365 ≠ gb379) := ⟨h21_⟩
    have n22_ : Aside0 (gb379 ≠ gb365) := ⟨h22_⟩
    have n23_ : Aside0 (gb366 ≠ gb379) := ⟨h23_⟩
    have n24_ : Aside0 (gb379 ≠ gb366) := ⟨h24_⟩
    have n25_ : Aside0 (Below w.heap.size w w33) := ⟨h25_⟩
    clear BK364
    clear BK365
    clear BK366
    clear HB
    clear h0_ h1_ h2_ h3_ h4_ h5_ h6_ h7_ h8_ h9_ h10_ h11_ h12_ h13_ h14_ h15_ h16_ h17_ h18_ h19_ h20_ h21_ h22_ h23_ h24_ h25_
    have HO373 := n0_
    have HO377 := n1_
    have BK364 := n2_
    have BK365 := n3_
    have BK366 := n4_
    have BK378 := n5_
    have BK379 := n6_
    have GW378 := n7_
    have GE378 := n8_
    have NB364_378 := n9_
    have NB378_364 := n10_
    have NB365_378 := n11_
    have NB378_365 := n12_
    have NB366_378 := n13_
    have NB378_366 := n14_
    have NB379_378 := n15_
    have NB378_379 := n16_
    have GW379 := n17_
    have GE379 := n18_
    have NB364_379 := n19_
    have NB379_364 := n20_
    have NB365_379 := n21_
    have NB379_365 := n22_
    have NB366_379 := n23_
    have NB379_366 := n24_
    have HB := n25_
    clear n0_ n1_ n2_ n3_ n4_ n5_ n6_ n7_ n8_ n9_ n10_ n11_ n12_ n13_ n14_ n15_ n16_ n17_ n18_ n19_ n20_ n21_ n22_ n23_ n24_ n25_
    have hHeld : w33.cell? ⟨gb364, 0, none⟩ = some (.int .u64 a0_0) ∧ w33.cell? ⟨gb364, 1, none⟩ = some (.slice A0_1 l0_1.length c0_1) ∧ w33.cell? ⟨gb365, 0, none⟩ = some (.int .u64 a1_0) ∧ w33.cell? ⟨gb365, 1, none⟩ = some (.slice A1_1 l1_1.length c1_1) := hS_
    obtain ⟨Ao35, co35, eo35⟩ := Kd.R_slice HO373.out
    (first | subst eo35 | (injection eo35 with f1_ f2_ f3_; have f4_ := f1_.symm; have f5_ := f3_.symm; clear f1_ f2_ f3_; subst f4_; subst f5_))
    obtain ⟨Ao38, co38, eo38⟩ := Kd.R_slice HO377.out
    (first | subst eo38 | (injection eo38 with f1_ f2_ f3_; have f4_ := f1_.symm; have f5_ := f3_.symm; clear f1_ f2_ f3_; subst f4_; subst f5_))
    refine norm_ (a' := ?_) ?_ ?_
    rotate_left
    ·
     simp only [putAll, Act.put, List.setIfInBounds_toArray, List.set_cons_zero, List.set_cons_succ]
     rfl
    refine one_ (i := 8) (N := none) (tb 9 10) rfl rfl (one_of HT_.out (by kernel_rfl)) (by decide) (fun K hK => ?_)
    have hs34 : w33.cell? ⟨gb378, 0, none⟩ = some (.int .u64 0) := (blk_cell BK378.out 0).trans rfl
    have hfs34 := blk_frozen BK378.out 0
    have hns34_0 := NB364_378.out
    have hns34_1 := NB365_378.out
    have hns34_2 := NB366_378.out
    have hns34_4 := NB379_378.out
    have hms34_0 := NB378_364.out
    have hms34_1 := NB378_365.out
    have hms34_2 := NB378_366.out
    have hms34_4 := NB378_379.out
    have hs36 : w33.cell? ⟨gb378, 1, none⟩ = some (.slice none 0 0) := (blk_cell BK378.out 1).trans rfl
    have hfs36 := blk_frozen BK378.out 1
    have hns36_0 := NB364_378.out
    have hns36_1 := NB365_378.out
    have hns36_2 := NB366_378.out
    have hns36_4 := NB379_378.out
    have hms36_0 := NB378_364.out
    have hms36_1 := NB378_365.out
    have hms36_2 := NB378_366.out
    have hms36_4 := NB378_379.out
    refine skip_ (w1 := ?_) (by rfl) rfl ?_ ?_
    rotate_left
    ·
     go_simp
     rfl
    refine hK.out _ _ ⟨((cell_far (p := ⟨gb378, _, none⟩) NB364_378.out _).trans (((cell_far (p := ⟨gb378, _, none⟩) NB364_378.out _).trans (hHeld.1)))), ((cell_far (p := ⟨gb378, _, none⟩) NB364_378.out _).trans (((cell_far (p := ⟨gb378, _, none⟩) NB364_378.out _).trans (hHeld.2.1)))), ((cell_far (p := ⟨gb378, _, none⟩) NB365_378.out _).trans (((cell_far (p := ⟨gb378, _, none⟩) NB365_378.out _).trans (hHeld.2.2.1)))), ((cell_far (p := ⟨gb378, _, none⟩) NB365_378.out _).trans (((cell_far (p := ⟨gb378, _, none⟩) NB365_378.out _).trans (hHeld.2.2.2))))⟩ (fun hHeld => ?_)
    clear hK K
    refine one_ (i := 9) (N := none) (tb 10 10) rfl rfl (one_of HT_.out (by kernel_rfl)) (by decide) (fun K hK => ?_)
    have hs37 : w33.cell? ⟨gb379, 0, none⟩ = some (.int .u64 0) := (blk_cell BK379.out 0).trans rfl
    have hfs37 := blk_frozen BK379.out 0
    have hns37_0 := NB364_379.out
    have hns37_1 := NB365_379.out
    have hns37_2 := NB366_379.out
    have hns37_3 := NB378_379.out
    have hms37_0 := NB379_364.out
    have hms37_1 := NB379_365.out
    have hms37_2 := NB379_366.out
    have hms37_3 := NB379_378.out
    have hs39 : w33.cell? ⟨gb379, 1, none⟩ = some (.slice none 0 0) := (blk_cell BK379.out 1).trans rfl
    have hfs39 := blk_frozen BK379.out 1
    have hns39_0 := NB364_379.out
    have hns39_1 := NB365_379.out
    have hns39_2 := NB366_379.out
    have hns39_3 := NB378_379.out
    have hms39_0 := NB379_364.out
    have hms39_1 := NB379_365.out
    have hms39_2 := NB379_366.out
    have hms39_3 := NB379_378.out
    refine skip_ (w1 := ?_) (by rfl) rfl ?_ ?_
    rotate_left
    ·
     go_simp
     rfl
    refine hK.out _ _ ⟨((cell_far (p := ⟨gb379, _, none⟩) NB364_379.out _).trans (((cell_far (p := ⟨gb379, _, none⟩) NB364_379.out _).trans (hHeld.1)))), ((cell_far (p := ⟨gb379, _, none⟩) NB364_379.out _).trans (((cell_far (p := ⟨gb379, _, none⟩) NB364_379.out _).trans (hHeld.2.1)))), ((cell_far (p := ⟨gb379, _, none⟩) NB365_379.out _).trans (((cell_far (p := ⟨gb379, _, none⟩) NB365_379.out _).trans (hHeld.2.2.1)))), ((cell_far (p := ⟨gb379, _, none⟩) NB365_379.out _).trans (((cell_far (p := ⟨gb379, _, none⟩) NB365_379.out _).trans (hHeld.2.2.2))))⟩ (fun hHeld => ?_)
    clear hK K
    refine done_ (done_of HT_.out (by kernel_rfl)) ?_
    try go_wp2_with (first | ((with_reducible refine gate_dst (N := 12) rfl ?_); (try (refine gate_guard (by rfl) ?_; dsimp only)); refine box_event ?hg (N := 12) ?hd (cs := #[.int .u64 0, .slice none 0 0]) (t := 25) ?hr ?_; (case hd => rfl); (case hg => rfl); (case hr => first | (go_simp; done) | (go_simp; rfl)); intro gb380 hg w40 hbox hb; obtain ⟨HBn, GW380⟩ := tri hg hb (by repeat (first | (with_reducible first | exact HB.out | apply below_alloc | apply pw_below_drewN | apply below_drew1 | refine below_set ?_ (Aside0.out (by assumption))) | exact HB.out)); have GE380 := GW380; have BK380 := am (hbox); have NB364_380 := am ((by rw [hg]; exact Nat.ne_of_lt (blk_lt (g := gb364) (o := .cells #[.int .u64 a0_0, .slice A0_1 l0_1.length c0_1] 25 (0, 0)) (by (with_reducible repeat (first | refine blk_drewN ?_ _ | refine blk_drew ?_ | refine blk_alloc ?_ _)); refine blk_far ?_ NB364_379.out _; (with_reducible repeat (first | refine blk_drewN ?_ _ | refine blk_drew ?_ | refine blk_alloc ?_ _)); refine blk_far ?_ NB364_379.out _; (with_reducible repeat (first | refine blk_drewN ?_ _ | refine blk_drew ?_ | refine blk_alloc ?_ _)); refine blk_far ?_ NB364_378.out _; (with_reducible repeat (first | refine blk_drewN ?_ _ | refine blk_drew ?_ | refine blk_alloc ?_ _)); refine blk_far ?_ NB364_378.out _; (with_reducible repeat (first | refine blk_drewN ?_ _ | refine blk_drew ?_ | refine blk_alloc ?_ _)); exact BK364.out)) : gb364 ≠ gb380)); have NB380_364 := am ((by rw [hg]; exact Nat.ne_of_gt (blk_lt (g := gb364) (o := .cells #[.int .u64 a0_0, .slice A0_1 l0_1.length c0_1] 25 (0, 0)) (by (with_reducible repeat (first | refine blk_drewN ?_ _ | refine blk_drew ?_ | refine blk_alloc ?_ _)); refine blk_far ?_ NB364_379.out _; (with_reducible repeat (first | refine blk_drewN ?_ _ | refine blk_drew ?_ | refine blk_alloc ?_ _)); refine blk_far ?_ NB364_379.out _; (with_reducible repeat (first | refine blk_drewN ?_ _ | refine blk_drew ?_ | refine blk_alloc ?_ _)); refine blk_far ?_ NB364_378.out _; (with_reducible repeat (first | refine blk_drewN ?_ _ | refine blk_drew ?_ | refine blk_alloc ?_ _)); refine blk_far ?_ NB364_378.out _; (with_reducible repeat (first | refine blk_drewN ?_ _ | refine blk_drew ?_ | refine blk_alloc ?_ _)); exact BK364.out)) : gb380 ≠ gb364)); have NB365_380 := am ((by rw [hg]; exact Nat.ne_of_lt (blk_lt (g := gb365) (o := .cells #[.int .u64 a1_0, .slice A1_1 l1_1.length c1_1] 25 (0, 0)) (by (with_reducible repeat (first | refine blk_drewN ?_ _ | refine blk_drew ?_ | refine blk_alloc ?_ _)); refine blk_far ?_ NB365_379.out _; (with_reducible repeat (first | refine blk_drewN ?_ _ | refine blk_drew ?_ | refine blk_alloc ?_ _)); refine blk_far ?_ NB365_379.out _; (with_reducible repeat (first | refine blk_drewN ?_ _ | refine blk_drew ?_ | refine blk_alloc ?_ _)); refine blk_far ?_ NB365_378.out _; (with_reducible repeat (first | refine blk_drewN ?_ _ | refine blk_drew ?_ | refine blk_alloc ?_ _)); refine blk_far ?_ NB365_378.out _; (with_reducible repeat (first | refine blk_drewN ?_ _ | refine blk_drew ?_ | refine blk_alloc ?_ _)); exact BK365.out)) : gb365 ≠ gb380)); have NB380_365 := am ((by rw [hg]; exact Nat.ne_of_gt (blk_lt (g := gb365) (o := .cells #[.int .u64 a1_0, .slice A1_1 l1_1.length c1_1] 25 (0, 0)) (by (with_reducible repeat (first | refine blk_drewN ?_ _ | refine blk_drew ?_ | refine blk_alloc ?_ _)); refine blk_far ?_ NB365_379.out _; (with_reducible repeat (first | refine blk_drewN ?_ _ | refine blk_drew ?_ | refine blk_alloc ?_ _)); refine blk_far ?_ NB365_379.out _; (with_reducible repeat (first | refine blk_drewN ?_ _ | refine blk_drew ?_ | refine blk_alloc ?_ _)); refine blk_far ?_ NB365_378.out _; (with_reducible repeat (first | refine blk_drewN ?_ _ | refine blk_drew ?_ | refine blk_alloc ?_ _)); refine blk_far ?_ NB365_378.out _; (with_reducible repeat (first | refine blk_drewN ?_ _ | refine blk_drew ?_ | refine blk_alloc ?_ _)); exact BK365.out)) : gb380 ≠ gb365)); have NB366_380 := am ((by rw [hg]; exact Nat.ne_of_lt (blk_lt (g := gb366) (o := .cells #[.int .u64 0, .slice none 0 0] 25 (0, 0)) (by (with_reducible repeat (first | refine blk_drewN ?_ _ | refine blk_drew ?_ | refine blk_alloc ?_ _)); refine blk_far ?_ NB366_379.out _; (with_reducible repeat (first | refine blk_drewN ?_ _ | refine blk_drew ?_ | refine blk_alloc ?_ _)); refine blk_far ?_ NB366_379.out _; (with_reducible repeat (first | refine blk_drewN ?_ _ | refine blk_drew ?_ | refine blk_alloc ?_ _)); refine blk_far ?_ NB366_378.out _; (with_reducible repeat (first | refine blk_drewN ?_ _ | refine blk_drew ?_ | refine blk_alloc ?_ _)); refine blk_far ?_ NB366_378.out _; (with_reducible repeat (first | refine blk_drewN ?_ _ | refine blk_drew ?_ | refine blk_alloc ?_ _)); exact BK366.out)) : gb366 ≠ gb380)); have NB380_366 := am ((by rw [hg]; exact Nat.ne_of_gt (blk_lt (g := gb366) (o := .cells #[.int .u64 0, .slice none 0 0] 25 (0, 0)) (by (with_reducible repeat (first | refine blk_drewN ?_ _ | refine blk_drew ?_ | refine blk_alloc ?_ _)); refine blk_far ?_ NB366_379.out _; (with_reducible repeat (first | refine blk_drewN ?_ _ | refine blk_drew ?_ | refine blk_alloc ?_ _)); refine blk_far ?_ NB366_379.out _; (with_reducible repeat (first | refine blk_drewN ?_ _ | refine blk_drew ?_ | refine blk_alloc ?_ _)); refine blk_far ?_ NB366_378.out _; (with_reducible repeat (first | refine blk_drewN ?_ _ | refine blk_drew ?_ | refine blk_alloc ?_ _)); refine blk_far ?_ NB366_378.out _; (with_reducible repeat (first | refine blk_drewN ?_ _ | refine blk_drew ?_ | refine blk_alloc ?_ _)); exact BK366.out)) : gb380 ≠ gb366)); have NB378_380 := am ((by rw [hg]; exact Nat.ne_of_lt (blk_lt (g := gb378) (o := .cells #[.int .u64 t370, .slice Ao35 t371.length co35] 25 (0, 0)) (by (with_reducible repeat (first | refine blk_drewN ?_ _ | refine blk_drew ?_ | refine blk_alloc ?_ _)); refine blk_far ?_ NB378_379.out _; (with_reducible repeat (first | refine blk_drewN ?_ _ | refine blk_drew ?_ | refine blk_alloc ?_ _)); refine blk_far ?_ NB378_379.out _; (with_reducible repeat (first | refine blk_drewN ?_ _ | refine blk_drew ?_ | refine blk_alloc ?_ _)); refine blk_put (cs := #[.int .u64 t370, .slice none 0 0]) ?_ 1 _ rfl; (with_reducible repeat (first | refine blk_drewN ?_ _ | refine blk_drew ?_ | refine blk_alloc ?_ _)); refine blk_put (cs := #[.int .u64 0, .slice none 0 0]) ?_ 0 _ rfl; (with_reducible repeat (first | refine blk_drewN ?_ _ | refine blk_drew ?_ | refine blk_alloc ?_ _)); exact BK378.out)) : gb378 ≠ gb380)); have NB380_378 := am ((by rw [hg]; exact Nat.ne_of_gt (blk_lt (g := gb378) (o := .cells #[.int .u64 t370, .slice Ao35 t371.length co35] 25 (0, 0)) (by (with_reducible repeat (first | refine blk_drewN ?_ _ | refine blk_drew ?_ | refine blk_alloc ?_ _)); refine blk_far ?_ NB378_379.out _; (with_reducible repeat (first | refine blk_drewN ?_ _ | refine blk_drew ?_ | refine blk_alloc ?_ _)); refine blk_far ?_ NB378_379.out _; (with_reducible repeat (first | refine blk_drewN ?_ _ | refine blk_drew ?_ | refine blk_alloc ?_ _)); refine blk_put (cs := #[.int .u64 t370, .slice none 0 0]) ?_ 1 _ rfl; (with_reducible repeat (first | refine blk_drewN ?_ _ | refine blk_drew ?_ | refine blk_alloc ?_ _)); refine blk_put (cs := #[.int .u64 0, .slice none 0 0]) ?_ 0 _ rfl; (with_reducible repeat (first | refine blk_drewN ?_ _ | refine blk_drew ?_ | refine blk_alloc ?_ _)); exact BK378.out)) : gb380 ≠ gb378)); have NB379_380 := am ((by rw [hg]; exact Nat.ne_of_lt (blk_lt (g := gb379) (o := .cells #[.int .u64 t374, .slice Ao38 t375.length co38] 25 (0, 0)) (by (with_reducible repeat (first | refine blk_drewN ?_ _ | refine blk_drew ?_ | refine blk_alloc ?_ _)); refine blk_put (cs := #[.int .u64 t374, .slice none 0 0]) ?_ 1 _ rfl; (with_reducible repeat (first | refine blk_drewN ?_ _ | refine blk_drew ?_ | refine blk_alloc ?_ _)); refine blk_put (cs := #[.int .u64 0, .slice none 0 0]) ?_ 0 _ rfl; (with_reducible repeat (first | refine blk_drewN ?_ _ | refine blk_drew ?_ | refine blk_alloc ?_ _)); refine blk_far ?_ NB379_378.out _; (with_reducible repeat (first | refine blk_drewN ?_ _ | refine blk_drew ?_ | refine blk_alloc ?_ _)); refine blk_far ?_ NB379_378.out _; (with_reducible repeat (first | refine blk_drewN ?_ _ | refine blk_drew ?_ | refine blk_alloc ?_ _)); exact BK379.out)) : gb379 ≠ gb380)); have NB380_379 := am ((by rw [hg]; exact Nat.ne_of_gt (blk_lt (g := gb379) (o := .cells #[.int .u64 t374, .slice Ao38 t375.length co38] 25 (0, 0)) (by (with_reducible repeat (first | refine blk_drewN ?_ _ | refine blk_drew ?_ | refine blk_alloc ?_ _)); refine blk_put (cs := #[.int .u64 t374, .slice none 0 0]) ?_ 1 _ rfl; (with_reducible repeat (first | refine blk_drewN ?_ _ | refine blk_drew ?_ | refine blk_alloc ?_ _)); refine blk_put (cs := #[.int .u64 0, .slice none 0 0]) ?_ 0 _ rfl; (with_reducible repeat (first | refine blk_drewN ?_ _ | refine blk_drew ?_ | refine blk_alloc ?_ _)); refine blk_far ?_ NB379_378.out _; (with_reducible repeat (first | refine blk_drewN ?_ _ | refine blk_drew ?_ | refine blk_alloc ?_ _)); refine blk_far ?_ NB379_378.out _; (with_reducible repeat (first | refine blk_drewN ?_ _ | refine blk_drew ?_ | refine blk_alloc ?_ _)); exact BK379.out)) : gb380 ≠ gb379)); replace HO373 := am (Kd.R_below (ru (Kd.R_mono (Kd.R_mono (Kd.R_far (p := ⟨gb379, 1, none⟩) (Kd.R_far (p := ⟨gb379, 0, none⟩) (Kd.R_far (p := ⟨gb378, 1, none⟩) (Kd.R_far (p := ⟨gb378, 0, none⟩) (Kd.R_types (Kd.R_types HO373.out BK378.out (by decide)) BK379.out (by decide)) (fun _ hk => hk.1.2) (.int .u64 t370)) (fun _ hk => hk.1.2) (.slice Ao35 t371.length co35)) (fun _ hk => hk.2) (.int .u64 t374)) (fun _ hk => hk.2) (.slice Ao38 t375.length co38)) (fun _ h_ => h_.1)) (fun _ h_ => h_.1))) hb); replace HO377 := am (Kd.R_below (ru (Kd.R_mono (Kd.R_mono (Kd.R_far (p := ⟨gb379, 1, none⟩) (Kd.R_far (p := ⟨gb379, 0, none⟩) (Kd.R_far (p := ⟨gb378, 1, none⟩) (Kd.R_far (p := ⟨gb378, 0, none⟩) (Kd.R_types (Kd.R_types HO377.out BK378.out (by decide)) BK379.out (by decide)) (fun _ hk => hk.1.2) (.int .u64 t370)) (fun _ hk => hk.1.2) (.slice Ao35 t371.length co35)) (fun _ hk => hk.2) (.int .u64 t374)) (fun _ hk => hk.2) (.slice Ao38 t375.length co38)) (fun _ h_ => h_.1)) (fun _ h_ => h_.1))) hb); replace BK364 := am (blk_below (g := gb364) (o := .cells #[.int .u64 a0_0, .slice A0_1 l0_1.length c0_1] 25 (0, 0)) (by (with_reducible repeat (first | refine blk_drewN ?_ _ | refine blk_drew ?_ | refine blk_alloc ?_ _)); refine blk_far ?_ NB364_379.out _; (with_reducible repeat (first | refine blk_drewN ?_ _ | refine blk_drew ?_ | refine blk_alloc ?_ _)); refine blk_far ?_ NB364_379.out _; (with_reducible repeat (first | refine blk_drewN ?_ _ | refine blk_drew ?_ | refine blk_alloc ?_ _)); refine blk_far ?_ NB364_378.out _; (with_reducible repeat (first | refine blk_drewN ?_ _ | refine blk_drew ?_ | refine blk_alloc ?_ _)); refine blk_far ?_ NB364_378.out _; (with_reducible repeat (first | refine blk_drewN ?_ _ | refine blk_drew ?_ | refine blk_alloc ?_ _)); exact BK364.out) hb); replace BK365 := am (blk_below (g := gb365) (o := .cells #[.int .u64 a1_0, .slice A1_1 l1_1.length c1_1] 25 (0, 0)) (by (with_reducible repeat (first | refine blk_drewN ?_ _ | refine blk_drew ?_ | refine blk_alloc ?_ _)); refine blk_far ?_ NB365_379.out _; (with_reducible repeat (first | refine blk_drewN ?_ _ | refine blk_drew ?_ | refine blk_alloc ?_ _)); refine blk_far ?_ NB365_379.out _; (with_reducible repeat (first | refine blk_drewN ?_ _ | refine blk_drew ?_ | refine blk_alloc ?_ _)); refine blk_far ?_ NB365_378.out _; (with_reducible repeat (first | refine blk_drewN ?_ _ | refine blk_drew ?_ | refine blk_alloc ?_ _)); refine blk_far ?_ NB365_378.out _; (with_reducible repeat (first | refine blk_drewN ?_ _ | refine blk_drew ?_ | refine blk_alloc ?_ _)); exact BK365.out) hb); replace BK366 := am (blk_below (g := gb366) (o := .cells #[.int .u64 0, .slice none 0 0] 25 (0, 0)) (by (with_reducible repeat (first | refine blk_drewN ?_ _ | refine blk_drew ?_ | refine blk_alloc ?_ _)); refine blk_far ?_ NB366_379.out _; (with_reducible repeat (first | refine blk_drewN ?_ _ | refine blk_drew ?_ | refine blk_alloc ?_ _)); refine blk_far ?_ NB366_379.out _; (with_reducible repeat (first | refine blk_drewN ?_ _ | refine blk_drew ?_ | refine blk_alloc ?_ _)); refine blk_far ?_ NB366_378.out _; (with_reducible repeat (first | refine blk_drewN ?_ _ | refine blk_drew ?_ | refine blk_alloc ?_ _)); refine blk_far ?_ NB366_378.out _; (with_reducible repeat (first | refine blk_drewN ?_ _ | refine blk_drew ?_ | refine blk_alloc ?_ _)); exact BK366.out) hb); replace BK378 := am (blk_below (g := gb378) (o := .cells #[.int .u64 t370, .slice Ao35 t371.length co35] 25 (0, 0)) (by (with_reducible repeat (first | refine blk_drewN ?_ _ | refine blk_drew ?_ | refine blk_alloc ?_ _)); refine blk_far ?_ NB378_379.out _; (with_reducible repeat (first | refine blk_drewN ?_ _ | refine blk_drew ?_ | refine blk_alloc ?_ _)); refine blk_far ?_ NB378_379.out _; (with_reducible repeat (first | refine blk_drewN ?_ _ | refine blk_drew ?_ | refine blk_alloc ?_ _)); refine blk_put (cs := #[.int .u64 t370, .slice none 0 0]) ?_ 1 _ rfl; (with_reducible repeat (first | refine blk_drewN ?_ _ | refine blk_drew ?_ | refine blk_alloc ?_ _)); refine blk_put (cs := #[.int .u64 0, .slice none 0 0]) ?_ 0 _ rfl; (with_reducible repeat (first | refine blk_drewN ?_ _ | refine blk_drew ?_ | refine blk_alloc ?_ _)); exact BK378.out) hb); replace BK379 := am (blk_below (g := gb379) (o := .cells #[.int .u64 t374, .slice Ao38 t375.length co38] 25 (0, 0)) (by (with_reducible repeat (first | refine blk_drewN ?_ _ | refine blk_drew ?_ | refine blk_alloc ?_ _)); refine blk_put (cs := #[.int .u64 t374, .slice none 0 0]) ?_ 1 _ rfl; (with_reducible repeat (first | refine blk_drewN ?_ _ | refine blk_drew ?_ | refine blk_alloc ?_ _)); refine blk_put (cs := #[.int .u64 0, .slice none 0 0]) ?_ 0 _ rfl; (with_reducible repeat (first | refine blk_drewN ?_ _ | refine blk_drew ?_ | refine blk_alloc ?_ _)); refine blk_far ?_ NB379_378.out _; (with_reducible repeat (first | refine blk_drewN ?_ _ | refine blk_drew ?_ | refine blk_alloc ?_ _)); refine blk_far ?_ NB379_378.out _; (with_reducible repeat (first | refine blk_drewN ?_ _ | refine blk_drew ?_ | refine blk_alloc ?_ _)); exact BK379.out) hb); clear HB; have HB := HBn; clear HBn; clear hb hbox hg; have hnb41 := NB380_364.out; have hnc41 := NB364_380.out; have hnb42 := NB380_365.out; have hnc42 := NB365_380.out; have hnb43 := NB380_366.out; have hnc43 := NB366_380.out; have hnb44 := NB380_378.out; have hnc44 := NB378_380.out; have hnb45 := NB380_379.out; have hnc45 := NB379_380.out; have hcz46_0 := ca BK380.out; have hcz46_1 := cb BK380.out; have hfz46_0 := blk_frozen BK380.out 0; have hfz46_1 := blk_frozen BK380.out 1))
    go_loopg [13, 14] kj4 (fun kq v13 v14 w' => ∃ (x13_2 : Int) (x14_2 : Int) (x381001_2 : List Int) (u381001 : Value), v13 = .int .i64 x13_2 ∧ v14 = .int .i64 x14_2 ∧ Aside0 (tallymanref17_of.l0 kq a2 x13_2 x14_2 t370 t371 t374 t375 t369 x381001_2 = some (r1, r2, r3)) ∧ Aside0 (kq ≤ kj4) ∧ Aside0 (Kd.R (Kd.int .u64) 22 w' w.heap.size (fun k_ => some k_ ≠ ((.slice Ao38 t375.length co38) : Value).ownBlock ∧ some k_ ≠ (u381001 : Value).ownBlock) (.slice Ao35 t371.length co35) t371) ∧ Aside0 (Kd.R (Kd.int .u64) 22 w' w.heap.size (fun k_ => some k_ ≠ ((.slice Ao35 t371.length co35) : Value).ownBlock ∧ some k_ ≠ (u381001 : Value).ownBlock) (.slice Ao38 t375.length co38) t375) ∧ Aside0 (Kd.R (Kd.int .u64) 22 w' w.heap.size (fun k_ => some k_ ≠ ((.slice Ao35 t371.length co35) : Value).ownBlock ∧ some k_ ≠ ((.slice Ao38 t375.length co38) : Value).ownBlock) u381001 x381001_2) ∧ Aside0 (w'.heap[gb364]? = some (.cells #[.int .u64 a0_0, (.slice A0_1 l0_1.length c0_1)] 25 (0, 0))) ∧ Aside0 (w'.heap[gb365]? = some (.cells #[.int .u64 a1_0, (.slice A1_1 l1_1.length c1_1)] 25 (0, 0))) ∧ Aside0 (w'.heap[gb366]? = some (.cells #[.int .u64 0, (.slice none 0 0)] 25 (0, 0))) ∧ Aside0 (w'.heap[gb378]? = some (.cells #[.int .u64 t370, (.slice Ao35 t371.length co35)] 25 (0, 0))) ∧ Aside0 (w'.heap[gb379]? = some (.cells #[.int .u64 t374, (.slice Ao38 t375.length co38)] 25 (0, 0))) ∧ Aside0 (w'.heap[gb380]? = some (.cells #[.int .u64 t369, u381001] 25 (0, 0))) ∧ Aside0 (Below w.heap.size w w'))
    case atStart => exact ⟨(0), (0), (([] : List Int)), (.slice none 0 0), (by first | rfl | (simp; done) | (simp [*]; done)), (by first | rfl | (simp; done) | (simp [*]; done)), H', ⟨Nat.le_refl _⟩, ⟨Kd.R_mono (rf HO373.out BK380.out (by decide)) (fun _ hk => ⟨hk, (by simp [Value.ownBlock])⟩)⟩, ⟨Kd.R_mono (rf HO377.out BK380.out (by decide)) (fun _ hk => ⟨hk, (by simp [Value.ownBlock])⟩)⟩, ⟨by first | exact Kd.R_nil _ _ _ _ _ | exact Kd.N_nil _ _ _ _ _ | exact Kd.V_nil _ _ _ _ _ | exact Kd.Q_nil _ _ _ _ _ | exact Kd.S_nil _ _ _ _ _⟩, ⟨bf NB364_380.out BK364.out⟩, ⟨bf NB365_380.out BK365.out⟩, ⟨bf NB366_380.out BK366.out⟩, ⟨bf NB378_380.out BK378.out⟩, ⟨bf NB379_380.out BK379.out⟩, ⟨by (with_reducible repeat (first | refine blk_drewN ?_ _ | refine blk_drew ?_ | refine blk_alloc ?_ _)); refine blk_put (cs := #[.int .u64 t369, .slice none 0 0]) ?_ 1 _ rfl; (with_reducible repeat (first | refine blk_drewN ?_ _ | refine blk_drew ?_ | refine blk_alloc ?_ _)); refine blk_put (cs := #[.int .u64 0, .slice none 0 0]) ?_ 0 _ rfl; (with_reducible repeat (first | refine blk_drewN ?_ _ | refine blk_drew ?_ | refine blk_alloc ?_ _)); exact BK380.out⟩, ⟨by repeat (first | (with_reducible first | exact HB.out | apply below_alloc | apply pw_below_drewN | apply below_drew1 | refine below_set ?_ (Aside0.out (by assumption))) | exact HB.out)⟩⟩
    case round =>
     clear H'
     try clear c1; try clear p2; try clear c4; try clear c7; try clear c41; try clear c42; try clear c43; try clear c44; try clear c45; try clear hcz46_0; try clear hcz46_1; try clear hfz46_0; try clear hfz46_1
     obtain ⟨x13_2, x14_2, out, u381001, rfl, rfl, HA, HK2, HO_379001, HO_380001, HO_381001, BK364, BK365, BK366, BK378, BK379, BK380, HB⟩ := hrel
     cases gk with
     | zero => exact absurd HA.out (by simp [tallymanref17_of.l0])
     | succ k2 =>
      obtain ⟨hb, hw⟩ := tallymanref17_of.ways HA.out
      clear HA
      have HBD := Aside0.mk hb
      obtain ⟨b1, b2, b3, b4, b5⟩ := hb
      have z1 : decide (0 ≤ x13_2) = true := decide_eq_true b1
      have z2 : decide (0 ≤ x14_2) = true := decide_eq_true b2
      clear b3 b4 b5
      obtain ⟨Ao9, co9, eo9⟩ := Kd.R_slice HO_381001.out
      subst eo9
      have hcz0 := ca BK378.out; have hcz1 := cb BK378.out; have hfz0 := blk_frozen BK378.out 0; have hfz1 := blk_frozen BK378.out 1
      have hcy0 := ca BK379.out; have hcy1 := cb BK379.out; have hfy0 := blk_frozen BK379.out 0; have hfy1 := blk_frozen BK379.out 1
      have hco0 := ca BK380.out; have hco1 := cb BK380.out; have hfo0 := blk_frozen BK380.out 0; have hfo1 := blk_frozen BK380.out 1
      rcases hw with ⟨d1, d2, d3, hv, vb, e1, e2, d4, d5, H⟩ | ⟨d1, d2, d3, va, hv, e1, e2, d4, d5, H⟩ | ⟨d1, d2, d3, hv, e1, e2, d4, H⟩ | ⟨d1, d2, d3, hv, e1, H⟩ | ⟨d1, d2, d3, hv, e2, H⟩ | ⟨d1, d2, H⟩
      rotate_left 3
      ·
        all_goals (try (obtain ⟨ax, ex, hx⟩ := Kd.at_int (Kd.R_reads' HO_379001.out).2.2 x13_2 (of_decide_eq_true z1) (of_decide_eq_true d1); have q1 := of_decide_eq_true d1; rw [e1] at hx; subst ex; clear e1))
        all_goals (try (obtain ⟨ay, ey, hy⟩ := Kd.at_int (Kd.R_reads' HO_380001.out).2.2 x14_2 (of_decide_eq_true z2) (of_decide_eq_true d2); have q2 := of_decide_eq_true d2; rw [e2] at hy; subst ey; clear e2))
        all_goals (go_wp2; go_quiet (fail); go_wp2; go_quiet (fail); go_upto_region 20 with (fail))
        all_goals (rcases how_ways a2 with ⟨w0, w1, w2, w3⟩ | ⟨w0, w1, w2, w3⟩ | ⟨w0, w1, w2, w3⟩ | ⟨w0, w1, w2, w3⟩ | ⟨w0, w1, w2, w3⟩)
        all_goals (rw [kpR, keepR, w0, w1, w2, w3] at H)
        all_goals as_aux_lemma =>
         first
         | (replace H : tallymanref17_of.l0 k2 _ _ _ _ _ _ _ _ (out ++ [hv]) = some (r1, r2, r3) := H
            obtain ⟨y390, hy390⟩ : ∃ y_ : List Int, y_ = out ++ [hv] := ⟨_, rfl⟩
            rw [← hy390] at H
            have Ny390 := Aside0.mk hy390
            clear hy390
            have H' := Aside0.mk H
            clear H
            go_wp2_with ((with_reducible refine gate_builtin (b := .append) (xs := #[.tmp 156, .tmp 158]) rfl ?_); (try (refine gate_guard (by rfl) ?_; dsimp only)); at_builtin; refine Kd.R_append (Kd.int .u64) (w0 := w) w.heap.size rfl (.tmp 156) (.tmp 158) 23 22 (.int .u64 0) 8 rfl Try.underlying23 info22 rfl (by decide) (by omega) (.slice Ao9 out.length co9) out hv [.int .u64 hv] (fun k_ => nb (some ax) t371.length co35 k_ ∧ nb Ao38 t375.length co38 k_) (fun _ => False) rfl rfl ?aP (fun _ hk => hk.elim) ?aF ?aO ?aB ?aS ?aL ?_; (case aP => exact rfl); (case aB => exact (hu HB.out)); (case aF => exact (fun k_ hk => ⟨Kd.fresh' (Kd.R_lt (ru (HO_379001.out))) k_ hk, Kd.fresh' (Kd.R_lt (ru (HO_380001.out))) k_ hk⟩)); (case aO => exact (ru (HO_381001.out))); (case aS => exact (below_size (hu HB.out))); (case aL => have := HBD.out.2.2.2.2; omega); intro v391 w128 ho hb hg hat; rw [← Ny390.out] at ho; have HO392 := am (ho); replace HO_379001 := am (Kd.R_after (ok := (fun k_ => nb Ao38 t375.length co38 k_)) (ru (HO_379001.out)) hg hat); replace HO_380001 := am (Kd.R_after (ok := (fun k_ => nb (some ax) t371.length co35 k_)) (ru (HO_380001.out)) hg hat); have BKx := BK380; replace BK364 := am (blk_grown (bu BK364.out) hg (Kd.R_ne HO_381001.out BK364.out (by decide))); replace BK365 := am (blk_grown (bu BK365.out) hg (Kd.R_ne HO_381001.out BK365.out (by decide))); replace BK366 := am (blk_grown (bu BK366.out) hg (Kd.R_ne HO_381001.out BK366.out (by decide))); replace BK378 := am (blk_grown (bu BK378.out) hg (Kd.R_ne HO_381001.out BK378.out (by decide))); replace BK379 := am (blk_grown (bu BK379.out) hg (Kd.R_ne HO_381001.out BK379.out (by decide))); replace BK380 := am (blk_grown (bu BK380.out) hg (Kd.R_ne HO_381001.out BK380.out (by decide))); replace HB := am (hb); clear HO_381001; clear ho hb hg hat BKx; obtain ⟨Ao129, co129, eo129⟩ := Kd.R_slice HO392.out; subst eo129; have hcz130_0 := ca BK380.out; have hcz130_1 := cb BK380.out; have hfz130_0 := blk_frozen BK380.out 0; have hfz130_1 := blk_frozen BK380.out 1)
            go_roundg k2
            case measure => omega
            case rel => exact ⟨_, _, y390, (.slice Ao129 y390.length co129), rfl, rfl, H', ⟨by have := HK2.out; omega⟩, ⟨Kd.R_mono (rf HO_379001.out BK380.out (by decide)) (fun _ hk => ⟨hk.1, hk.2⟩)⟩, ⟨Kd.R_mono (rf HO_380001.out BK380.out (by decide)) (fun _ hk => ⟨hk.1, hk.2⟩)⟩, ⟨Kd.R_mono (rf HO392.out BK380.out (by decide)) (fun _ hk => ⟨hk.1, hk.2⟩)⟩, ⟨bf NB364_380.out BK364.out⟩, ⟨bf NB365_380.out BK365.out⟩, ⟨bf NB366_380.out BK366.out⟩, ⟨bf NB378_380.out BK378.out⟩, ⟨bf NB379_380.out BK379.out⟩, ⟨by (with_reducible repeat (first | refine blk_drewN ?_ _ | refine blk_drew ?_ | refine blk_alloc ?_ _)); refine blk_put (cs := #[.int .u64 t369, .slice Ao9 out.length co9]) ?_ 1 _ rfl; (with_reducible repeat (first | refine blk_drewN ?_ _ | refine blk_drew ?_ | refine blk_alloc ?_ _)); exact BK380.out⟩, ⟨by repeat (first | (with_reducible first | exact HB.out | apply below_alloc | apply pw_below_drewN | apply below_drew1 | refine below_set ?_ (Aside0.out (by assumption))) | exact HB.out)⟩⟩)
         | (replace H : tallymanref17_of.l0 k2 _ _ _ _ _ _ _ _ out = some (r1, r2, r3) := H
            have H' := Aside0.mk H
            clear H
            go_wp2
            go_roundg k2
            case measure => omega
            case rel => exact ⟨_, _, out, (.slice Ao9 out.length co9), rfl, rfl, H', ⟨by have := HK2.out; omega⟩, ⟨ru HO_379001.out⟩, ⟨ru HO_380001.out⟩, ⟨ru HO_381001.out⟩, ⟨bu BK364.out⟩, ⟨bu BK365.out⟩, ⟨bu BK366.out⟩, ⟨bu BK378.out⟩, ⟨bu BK379.out⟩, ⟨bu BK380.out⟩, ⟨hu HB.out⟩⟩)
      ·
        all_goals (try (obtain ⟨ax, ex, hx⟩ := Kd.at_int (Kd.R_reads' HO_379001.out).2.2 x13_2 (of_decide_eq_true z1) (of_decide_eq_true d1); have q1 := of_decide_eq_true d1; rw [e1] at hx; subst ex; clear e1))
        all_goals (try (obtain ⟨ay, ey, hy⟩ := Kd.at_int (Kd.R_reads' HO_380001.out).2.2 x14_2 (of_decide_eq_true z2) (of_decide_eq_true d2); have q2 := of_decide_eq_true d2; rw [e2] at hy; subst ey; clear e2))
        all_goals (go_wp2; go_quiet (fail); go_wp2; go_quiet (fail); go_upto_region 20 with (fail))
        all_goals (rcases how_ways a2 with ⟨w0, w1, w2, w3⟩ | ⟨w0, w1, w2, w3⟩ | ⟨w0, w1, w2, w3⟩ | ⟨w0, w1, w2, w3⟩ | ⟨w0, w1, w2, w3⟩)
        all_goals (rw [kpR, keepR, w0, w1, w2, w3] at H)
        all_goals as_aux_lemma =>
         first
         | (replace H : tallymanref17_of.l0 k2 _ _ _ _ _ _ _ _ (out ++ [hv]) = some (r1, r2, r3) := H
            obtain ⟨y390, hy390⟩ : ∃ y_ : List Int, y_ = out ++ [hv] := ⟨_, rfl⟩
            rw [← hy390] at H
            have Ny390 := Aside0.mk hy390
            clear hy390
            have H' := Aside0.mk H
            clear H
            go_wp2_with ((with_reducible refine gate_builtin (b := .append) (xs := #[.tmp 156, .tmp 158]) rfl ?_); (try (refine gate_guard (by rfl) ?_; dsimp only)); at_builtin; refine Kd.R_append (Kd.int .u64) (w0 := w) w.heap.size rfl (.tmp 156) (.tmp 158) 23 22 (.int .u64 0) 8 rfl Try.underlying23 info22 rfl (by decide) (by omega) (.slice Ao9 out.length co9) out hv [.int .u64 hv] (fun k_ => nb Ao35 t371.length co35 k_ ∧ nb (some ay) t375.length co38 k_) (fun _ => False) rfl rfl ?aP (fun _ hk => hk.elim) ?aF ?aO ?aB ?aS ?aL ?_; (case aP => exact rfl); (case aB => exact (hu HB.out)); (case aF => exact (fun k_ hk => ⟨Kd.fresh' (Kd.R_lt (ru (HO_379001.out))) k_ hk, Kd.fresh' (Kd.R_lt (ru (HO_380001.out))) k_ hk⟩)); (case aO => exact (ru (HO_381001.out))); (case aS => exact (below_size (hu HB.out))); (case aL => have := HBD.out.2.2.2.2; omega); intro v391 w128 ho hb hg hat; rw [← Ny390.out] at ho; have HO392 := am (ho); replace HO_379001 := am (Kd.R_after (ok := (fun k_ => nb (some ay) t375.length co38 k_)) (ru (HO_379001.out)) hg hat); replace HO_380001 := am (Kd.R_after (ok := (fun k_ => nb Ao35 t371.length co35 k_)) (ru (HO_380001.out)) hg hat); have BKx := BK380; replace BK364 := am (blk_grown (bu BK364.out) hg (Kd.R_ne HO_381001.out BK364.out (by decide))); replace BK365 := am (blk_grown (bu BK365.out) hg (Kd.R_ne HO_381001.out BK365.out (by decide))); replace BK366 := am (blk_grown (bu BK366.out) hg (Kd.R_ne HO_381001.out BK366.out (by decide))); replace BK378 := am (blk_grown (bu BK378.out) hg (Kd.R_ne HO_381001.out BK378.out (by decide))); replace BK379 := am (blk_grown (bu BK379.out) hg (Kd.R_ne HO_381001.out BK379.out (by decide))); replace BK380 := am (blk_grown (bu BK380.out) hg (Kd.R_ne HO_381001.out BK380.out (by decide))); replace HB := am (hb); clear HO_381001; clear ho hb hg hat BKx; obtain ⟨Ao129, co129, eo129⟩ := Kd.R_slice HO392.out; subst eo129; have hcz130_0 := ca BK380.out; have hcz130_1 := cb BK380.out; have hfz130_0 := blk_frozen BK380.out 0; have hfz130_1 := blk_frozen BK380.out 1)
            go_roundg k2
            case measure => omega
            case rel => exact ⟨_, _, y390, (.slice Ao129 y390.length co129), rfl, rfl, H', ⟨by have := HK2.out; omega⟩, ⟨Kd.R_mono (rf HO_379001.out BK380.out (by decide)) (fun _ hk => ⟨hk.1, hk.2⟩)⟩, ⟨Kd.R_mono (rf HO_380001.out BK380.out (by decide)) (fun _ hk => ⟨hk.1, hk.2⟩)⟩, ⟨Kd.R_mono (rf HO392.out BK380.out (by decide)) (fun _ hk => ⟨hk.1, hk.2⟩)⟩, ⟨bf NB364_380.out BK364.out⟩, ⟨bf NB365_380.out BK365.out⟩, ⟨bf NB366_380.out BK366.out⟩, ⟨bf NB378_380.out BK378.out⟩, ⟨bf NB379_380.out BK379.out⟩, ⟨by (with_reducible repeat (first | refine blk_drewN ?_ _ | refine blk_drew ?_ | refine blk_alloc ?_ _)); refine blk_put (cs := #[.int .u64 t369, .slice Ao9 out.length co9]) ?_ 1 _ rfl; (with_reducible repeat (first | refine blk_drewN ?_ _ | refine blk_drew ?_ | refine blk_alloc ?_ _)); exact BK380.out⟩, ⟨by repeat (first | (with_reducible first | exact HB.out | apply below_alloc | apply pw_below_drewN | apply below_drew1 | refine below_set ?_ (Aside0.out (by assumption))) | exact HB.out)⟩⟩)
         | (replace H : tallymanref17_of.l0 k2 _ _ _ _ _ _ _ _ out = some (r1, r2, r3) := H
            have H' := Aside0.mk H
            clear H
            go_wp2
            go_roundg k2
            case measure => omega
            case rel => exact ⟨_, _, out, (.slice Ao9 out.length co9), rfl, rfl, H', ⟨by have := HK2.out; omega⟩, ⟨ru HO_379001.out⟩, ⟨ru HO_380001.out⟩, ⟨ru HO_381001.out⟩, ⟨bu BK364.out⟩, ⟨bu BK365.out⟩, ⟨bu BK366.out⟩, ⟨bu BK378.out⟩, ⟨bu BK379.out⟩, ⟨bu BK380.out⟩, ⟨hu HB.out⟩⟩)
      · have hr0 := ca BK366.out; have hr1 := cb BK366.out; have hs0 := blk_frozen BK366.out 0; have hs1 := blk_frozen BK366.out 1
        have hnb1 := NB380_366.out; have hnc1 := NB366_380.out; have hnb2 := NB378_366.out; have hnc2 := NB366_378.out; have hnb3 := NB379_366.out; have hnc3 := NB366_379.out
        by_cases c303 : 8192 < out.length
        · rw [if_pos c303] at H
          have c303b0 : decide (8192 < (out.length : Int)) = true := decide_eq_true (by omega)
          have c303b1 : decide (8192 < out.length) = true := decide_eq_true (by omega)
          clear c303
          simp only [Option.some.injEq, Prod.mk.injEq] at H
          obtain ⟨rfl, rfl, rfl⟩ := H
          go_wp2
          refine bodyPost_ret (results_ct rfl _ _ gb366 25 #[.int .u64 0, .slice none 0 0] (0, 0) _ rfl (by (with_reducible repeat (first | refine blk_drewN ?_ _ | refine blk_drew ?_ | refine blk_alloc ?_ _)); refine blk_put (cs := #[.int .u64 0, .slice none 0 0]) ?_ 1 _ rfl; (with_reducible repeat (first | refine blk_drewN ?_ _ | refine blk_drew ?_ | refine blk_alloc ?_ _)); refine blk_put (cs := #[.int .u64 0, .slice none 0 0]) ?_ 0 _ rfl; (with_reducible repeat (first | refine blk_drewN ?_ _ | refine blk_drew ?_ | refine blk_alloc ?_ _)); exact BK366.out) Try.underlying25 rfl (by kernel_rfl)) rfl ?_
          exact ⟨_, rfl, Kd.R_nil _ _ _ _ _, by repeat (first | (with_reducible first | exact HB.out | apply below_alloc | apply pw_below_drewN | apply below_drew1 | refine below_set ?_ (Aside0.out (by assumption))) | exact HB.out)⟩
        · rw [if_neg c303] at H
          have c303b0 : decide (8192 < (out.length : Int)) = false := decide_eq_false (by omega)
          have c303b1 : decide (8192 < out.length) = false := decide_eq_false (by omega)
          clear c303
          simp only [Option.some.injEq, Prod.mk.injEq] at H
          obtain ⟨rfl, rfl, rfl⟩ := H
          go_wp2
          refine bodyPost_ret (results_ct rfl _ _ gb366 25 #[.int .u64 t369, .slice Ao9 out.length co9] (0, 0) _ rfl (by (with_reducible repeat (first | refine blk_drewN ?_ _ | refine blk_drew ?_ | refine blk_alloc ?_ _)); refine blk_put (cs := #[.int .u64 t369, .slice none 0 0]) ?_ 1 _ rfl; (with_reducible repeat (first | refine blk_drewN ?_ _ | refine blk_drew ?_ | refine blk_alloc ?_ _)); refine blk_put (cs := #[.int .u64 0, .slice none 0 0]) ?_ 0 _ rfl; (with_reducible repeat (first | refine blk_drewN ?_ _ | refine blk_drew ?_ | refine blk_alloc ?_ _)); exact BK366.out) Try.underlying25 rfl (by kernel_rfl)) rfl ?_
          exact ⟨_, rfl, Kd.R_mono (rf HO_381001.out BK366.out (by decide)) (fun _ hk => trivial), by repeat (first | (with_reducible first | exact HB.out | apply below_alloc | apply pw_below_drewN | apply below_drew1 | refine below_set ?_ (Aside0.out (by assumption))) | exact HB.out)⟩
      all_goals (try (obtain ⟨ax, ex, hx⟩ := Kd.at_int (Kd.R_reads' HO_379001.out).2.2 x13_2 (of_decide_eq_true z1) (of_decide_eq_true d1); have q1 := of_decide_eq_true d1; rw [e1] at hx; subst ex; clear e1))
      all_goals (try (obtain ⟨ay, ey, hy⟩ := Kd.at_int (Kd.R_reads' HO_380001.out).2.2 x14_2 (of_decide_eq_true z2) (of_decide_eq_true d2); have q2 := of_decide_eq_true d2; rw [e2] at hy; subst ey; clear e2))
      all_goals (go_wp2; go_quiet (fail); go_wp2; go_quiet (fail); go_upto_region 20 with (fail))
      all_goals (rcases how_ways a2 with ⟨w0, w1, w2, w3⟩ | ⟨w0, w1, w2, w3⟩ | ⟨w0, w1, w2, w3⟩ | ⟨w0, w1, w2, w3⟩ | ⟨w0, w1, w2, w3⟩)
      all_goals (rw [kpR, keepR, w0, w1, w2, w3] at H)
      all_goals as_aux_lemma =>
       first
       | (replace H : tallymanref17_of.l0 k2 _ _ _ _ _ _ _ _ (out ++ [hv]) = some (r1, r2, r3) := H
          obtain ⟨y390, hy390⟩ : ∃ y_ : List Int, y_ = out ++ [hv] := ⟨_, rfl⟩
          rw [← hy390] at H
          have Ny390 := Aside0.mk hy390
          clear hy390
          have H' := Aside0.mk H
          clear H
          go_wp2_with ((with_reducible refine gate_builtin (b := .append) (xs := #[.tmp 156, .tmp 158]) rfl ?_); (try (refine gate_guard (by rfl) ?_; dsimp only)); at_builtin; refine Kd.R_append (Kd.int .u64) (w0 := w) w.heap.size rfl (.tmp 156) (.tmp 158) 23 22 (.int .u64 0) 8 rfl Try.underlying23 info22 rfl (by decide) (by omega) (.slice Ao9 out.length co9) out hv [.int .u64 hv] (fun k_ => nb (some ax) t371.length co35 k_ ∧ nb (some ay) t375.length co38 k_) (fun _ => False) rfl rfl ?aP (fun _ hk => hk.elim) ?aF ?aO ?aB ?aS ?aL ?_; (case aP => exact rfl); (case aB => exact (hu HB.out)); (case aF => exact (fun k_ hk => ⟨Kd.fresh' (Kd.R_lt (ru (HO_379001.out))) k_ hk, Kd.fresh' (Kd.R_lt (ru (HO_380001.out))) k_ hk⟩)); (case aO => exact (ru (HO_381001.out))); (case aS => exact (below_size (hu HB.out))); (case aL => have := HBD.out.2.2.2.2; omega); intro v391 w128 ho hb hg hat; rw [← Ny390.out] at ho; have HO392 := am (ho); replace HO_379001 := am (Kd.R_after (ok := (fun k_ => nb (some ay) t375.length co38 k_)) (ru (HO_379001.out)) hg hat); replace HO_380001 := am (Kd.R_after (ok := (fun k_ => nb (some ax) t371.length co35 k_)) (ru (HO_380001.out)) hg hat); have BKx := BK380; replace BK364 := am (blk_grown (bu BK364.out) hg (Kd.R_ne HO_381001.out BK364.out (by decide))); replace BK365 := am (blk_grown (bu BK365.out) hg (Kd.R_ne HO_381001.out BK365.out (by decide))); replace BK366 := am (blk_grown (bu BK366.out) hg (Kd.R_ne HO_381001.out BK366.out (by decide))); replace BK378 := am (blk_grown (bu BK378.out) hg (Kd.R_ne HO_381001.out BK378.out (by decide))); replace BK379 := am (blk_grown (bu BK379.out) hg (Kd.R_ne HO_381001.out BK379.out (by decide))); replace BK380 := am (blk_grown (bu BK380.out) hg (Kd.R_ne HO_381001.out BK380.out (by decide))); replace HB := am (hb); clear HO_381001; clear ho hb hg hat BKx; obtain ⟨Ao129, co129, eo129⟩ := Kd.R_slice HO392.out; subst eo129; have hcz130_0 := ca BK380.out; have hcz130_1 := cb BK380.out; have hfz130_0 := blk_frozen BK380.out 0; have hfz130_1 := blk_frozen BK380.out 1)
          go_roundg k2
          case measure => omega
          case rel => exact ⟨_, _, y390, (.slice Ao129 y390.length co129), rfl, rfl, H', ⟨by have := HK2.out; omega⟩, ⟨Kd.R_mono (rf HO_379001.out BK380.out (by decide)) (fun _ hk => ⟨hk.1, hk.2⟩)⟩, ⟨Kd.R_mono (rf HO_380001.out BK380.out (by decide)) (fun _ hk => ⟨hk.1, hk.2⟩)⟩, ⟨Kd.R_mono (rf HO392.out BK380.out (by decide)) (fun _ hk => ⟨hk.1, hk.2⟩)⟩, ⟨bf NB364_380.out BK364.out⟩, ⟨bf NB365_380.out BK365.out⟩, ⟨bf NB366_380.out BK366.out⟩, ⟨bf NB378_380.out BK378.out⟩, ⟨bf NB379_380.out BK379.out⟩, ⟨by (with_reducible repeat (first | refine blk_drewN ?_ _ | refine blk_drew ?_ | refine blk_alloc ?_ _)); refine blk_put (cs := #[.int .u64 t369, .slice Ao9 out.length co9]) ?_ 1 _ rfl; (with_reducible repeat (first | refine blk_drewN ?_ _ | refine blk_drew ?_ | refine blk_alloc ?_ _)); exact BK380.out⟩, ⟨by repeat (first | (with_reducible first | exact HB.out | apply below_alloc | apply pw_below_drewN | apply below_drew1 | refine below_set ?_ (Aside0.out (by assumption))) | exact HB.out)⟩⟩)
       | (replace H : tallymanref17_of.l0 k2 _ _ _ _ _ _ _ _ out = some (r1, r2, r3) := H
          have H' := Aside0.mk H
          clear H
          go_wp2
          go_roundg k2
          case measure => omega
          case rel => exact ⟨_, _, out, (.slice Ao9 out.length co9), rfl, rfl, H', ⟨by have := HK2.out; omega⟩, ⟨ru HO_379001.out⟩, ⟨ru HO_380001.out⟩, ⟨ru HO_381001.out⟩, ⟨bu BK364.out⟩, ⟨bu BK365.out⟩, ⟨bu BK366.out⟩, ⟨bu BK378.out⟩, ⟨bu BK379.out⟩, ⟨bu BK380.out⟩, ⟨hu HB.out⟩⟩)
   ·
    rw [if_neg c19] at H
    have c19b0 : (x8_4 == 0) = false := beq_eq_false_iff_ne.mpr c19
    have c19b1 : (x8_4 != 0) = true := bne_iff_ne.mpr c19
    simp only [Option.some.injEq, Prod.mk.injEq] at H
    obtain ⟨rfl, rfl, rfl⟩ := H
    have hnb328 := NB366_364.out
    have hnc328 := NB364_366.out
    have hnb329 := NB366_365.out
    have hnc329 := NB365_366.out
    have hcz330_0 := ca BK366.out
    have hcz330_1 := cb BK366.out
    have hfz330_0 := blk_frozen BK366.out 0
    have hfz330_1 := blk_frozen BK366.out 1
    go_wp2
    refine bodyPost_ret (results_ct rfl _ _ gb366 25 #[.int .u64 0, .slice none 0 0] (0, 0) _ rfl (by (with_reducible repeat (first | refine blk_drewN ?_ _ | refine blk_drew ?_ | refine blk_alloc ?_ _)); refine blk_put (cs := #[.int .u64 0, .slice none 0 0]) ?_ 1 _ rfl; (with_reducible repeat (first | refine blk_drewN ?_ _ | refine blk_drew ?_ | refine blk_alloc ?_ _)); refine blk_put (cs := #[.int .u64 0, .slice none 0 0]) ?_ 0 _ rfl; (with_reducible repeat (first | refine blk_drewN ?_ _ | refine blk_drew ?_ | refine blk_alloc ?_ _)); exact BK366.out) Try.underlying25 rfl (by kernel_rfl)) rfl ?_
    exact ⟨_, by first | rfl | (simp [errW_none, errW_some] <;> rfl) | (simp [*, errW_none, errW_some] <;> rfl), by first | exact Kd.R_nil _ _ _ _ _ | exact Kd.N_nil _ _ _ _ _ | exact Kd.V_nil _ _ _ _ _ | exact Kd.Q_nil _ _ _ _ _ | exact Kd.S_nil _ _ _ _ _, by repeat (first | (with_reducible first | exact HB.out | apply below_alloc | apply pw_below_drewN | apply below_drew1 | refine below_set ?_ (Aside0.out (by assumption))) | exact HB.out)⟩

end Go.Proofs.Ytpagondojdlknaa.H
