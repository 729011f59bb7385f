-- Made by this session's own call of the printer (functions that are proved by hand are taken from a text beside it).
import Derived.Test.YtbclnjinpcfpjaaZ2
import Derived.Test.YtbclnjinpcfpjaaH0
import Derived.Test.YtbclnjinpcfpjaaH2
import Derived.Test.YtbclnjinpcfpjaaH4
import Derived.Test.YtbclnjinpcfpjaaH5
import Derived.Test.YtbclnjinpcfpjaaH6
import Derived.Test.YtbclnjinpcfpjaaH8
import Derived.Test.YtbclnjinpcfpjaaH11
namespace Go.Proofs.Ytbclnjinpcfpjaa.H
open Go.RowKit Go.Proofs.YtbclnjinpcfpjaaW.PrintWords Go.Proofs.YtbclnjinpcfpjaaW.PrintLast Go.Proofs.YtbclnjinpcfpjaaW.PrintMore
attribute [local go_sem] max2_int min2_int max_two min_two max_three min_three max_four min_four   -- for this text's walks alone
set_option linter.unusedVariables false
set_option linter.unusedSimpArgs false

/-! ### tallymanref14_may: function 77 -/
def tallymanref14_may.f (a0 : Int) : Option (Bool) := if a0 ≥ 4 then (some (decide (a0 ≤ 16))) else (some false)
set_option maxHeartbeats 8000000 in
set_option maxRecDepth 100000 in
theorem tallymanref14_may.calls (a0 : Int) (r : Bool) (w : World) (h : tallymanref14_may.f a0 = some r) :
  Calls Try.prog 77 #[.int .i64 a0] w fun e w' => e = .returned (.bool r) ∧ Drawn0 w w' := by
 have H : (if a0 ≥ 4 then (some (decide (a0 ≤ 16))) else (some false)) = some r := h
 clear h
 by_cases c2 : a0 ≥ 4
 ·
  rw [if_pos c2] at H
  have c2b0 : decide (4 ≤ a0) = true := decide_eq_true c2
  clear c2
  obtain rfl := Option.some.inj H
  go_enter Try.func77, Try.ntmps77
  go_wp2
  go_ret
  exact ⟨by first | rfl | (simp; done) | (simp [*]; done), by repeat (first | exact Drawn0.refl _ | apply Drawn0.step)⟩
 ·
  rw [if_neg c2] at H
  have c2b0 : decide (4 ≤ a0) = false := decide_eq_false c2
  clear c2
  obtain rfl := Option.some.inj H
  go_enter Try.func77, Try.ntmps77
  go_wp2
  go_ret
  exact ⟨by first | rfl | (simp; done) | (simp [*]; done), by repeat (first | exact Drawn0.refl _ | apply Drawn0.step)⟩

/-! ### tallymanref14_Check: function 36 -/
mutual
def tallymanref14_Check.j0 : Nat → Bool → Int → List (S32) → Option (Int)
 | 0, _, _, _ => none
 | k + 1, x15, x557000, x557001 => if x15 = true then (some 2) else (tallymanref14_Check.l0 k (-1) 0 x557000 x557001)
def tallymanref14_Check.l0 : Nat → Int → Int → Int → List (S32) → Option (Int)
 | 0, _, _, _, _ => none
 | k + 1, x3, x4, x557000, x557001 => if x4 < (x557001.length : Int) then (if 0 ≤ x4 then (if ((rd_T32 x557001 x4).f0) ≤ x3 then (some 2) else (if 0 ≤ (IntKind.u64.wrap (x557000)) then (if ((rd_T32 x557001 x4).f0) ≥ (shl .i64 1 (IntKind.u64.wrap (x557000))) then (some 2) else (if ((rd_T32 x557001 x4).f1) < 1 then (some 2) else (if ((rd_T32 x557001 x4).f1) > (wrap64 (65 - x557000)) then (some 2) else (tallymanref14_Check.l0 k ((rd_T32 x557001 x4).f0) (wrap64 (x4 + 1)) x557000 x557001)))) else (none))) else (none)) else (some 0)
end
def tallymanref14_Check.f (k : Nat) (a0_0 : Int) (l0_1 : List (S32)) : Option (Int) := (tallymanref14_may.f a0_0).bind fun t557 => (if t557 = true then (tallymanref14_Check.j0 k (decide ((l0_1.length : Int) > 65536)) a0_0 l0_1) else (tallymanref14_Check.j0 k true a0_0 l0_1))
theorem tallymanref14_Check.mono_l : ∀ k, (∀ y0 y1 y2, LeO (tallymanref14_Check.j0 k y0 y1 y2) (tallymanref14_Check.j0 (k + 1) y0 y1 y2)) ∧ (∀ y0 y1 y2 y3, LeO (tallymanref14_Check.l0 k y0 y1 y2 y3) (tallymanref14_Check.l0 (k + 1) y0 y1 y2 y3))
 | 0 => ⟨fun _ _ _ r h => by simp [tallymanref14_Check.j0] at h, fun _ _ _ _ r h => by simp [tallymanref14_Check.l0] at h⟩
 | k + 1 => by
  obtain ⟨ih0, ih1⟩ := tallymanref14_Check.mono_l k
  refine ⟨?_, ?_⟩
  ·
   intro y0 y1 y2
   unfold tallymanref14_Check.j0
   repeat' first
   | (with_reducible exact ih0 _ _ _)
   | (with_reducible exact ih1 _ _ _ _)
   | (with_reducible exact LeO.refl _)
   | (with_reducible exact LeO.none _)
   | (with_reducible refine LeO.ite ?_ ?_)
   | (with_reducible refine LeO.bind ?_ (fun _ => ?_))
   | exact ih0 _ _ _
   | exact ih1 _ _ _ _
   | exact LeO.none _
   | refine LeO.ite ?_ ?_
   | refine LeO.bind ?_ (fun _ => ?_)
  ·
   intro y0 y1 y2 y3
   unfold tallymanref14_Check.l0
   repeat' first
   | (with_reducible exact ih0 _ _ _)
   | (with_reducible exact ih1 _ _ _ _)
   | (with_reducible exact LeO.refl _)
   | (with_reducible exact LeO.none _)
   | (with_reducible refine LeO.ite ?_ ?_)
   | (with_reducible refine LeO.bind ?_ (fun _ => ?_))
   | exact ih0 _ _ _
   | exact ih1 _ _ _ _
   | exact LeO.none _
   | refine LeO.ite ?_ ?_
   | refine LeO.bind ?_ (fun _ => ?_)
theorem tallymanref14_Check.mono : ∀ a0 a1 k, LeO (tallymanref14_Check.f k a0 a1) (tallymanref14_Check.f (k + 1) a0 a1) := by
 intro a0 a1 k
 obtain ⟨ih0, ih1⟩ := tallymanref14_Check.mono_l k
 unfold tallymanref14_Check.f
 repeat' first
   | (with_reducible exact ih0 _ _ _)
   | (with_reducible exact ih1 _ _ _ _)
   | (with_reducible exact LeO.refl _)
   | (with_reducible exact LeO.none _)
   | (with_reducible refine LeO.ite ?_ ?_)
   | (with_reducible refine LeO.bind ?_ (fun _ => ?_))
   | exact ih0 _ _ _
   | exact ih1 _ _ _ _
   | exact LeO.none _
   | refine LeO.ite ?_ ?_
   | refine LeO.bind ?_ (fun _ => ?_)
set_option maxHeartbeats 8000000 in
set_option maxRecDepth 100000 in
theorem tallymanref14_Check.calls (k : Nat) (a0_0 : Int) (A0_1 : Option Addr) (c0_1 : Nat) (l0_1 : List (S32)) (r : Int) (w : World) (hr0_1 : Kd.C k32 w A0_1 l0_1.length l0_1) (hc0_1 : l0_1.length ≤ c0_1) (h : tallymanref14_Check.f k a0_0 l0_1 = some r) :
  Calls Try.prog 36 #[.agg #[.int .i64 a0_0, .slice A0_1 l0_1.length c0_1]] w fun e w' => e = .returned (.int .i64 r) ∧ Below w.heap.size w w' := by
 have hu30 := Try.underlying30
 have hu32 := Try.underlying32
 have HR0_1 := Aside0.mk hr0_1
 have HC0_1 := Aside0.mk hc0_1
 clear hr0_1 hc0_1
 have HB := am (Below.refl w.heap.size w)
 have H : ((tallymanref14_may.f a0_0).bind fun t557 => (if t557 = true then (tallymanref14_Check.j0 k (decide ((l0_1.length : Int) > 65536)) a0_0 l0_1) else (tallymanref14_Check.j0 k true a0_0 l0_1))) = some r := h
 clear h
 have HC2 := Aside0.mk H
 clear H
 go_enter Try.func36, Try.ntmps36
 go_upto_region 1 with (first | ((with_reducible refine gate_dst (N := 1) rfl ?_); (try (refine gate_guard (by rfl) ?_; dsimp only)); refine box_event ?hg (N := 1) ?hd (cs := #[.int .i64 a0_0, .slice A0_1 l0_1.length c0_1]) (t := 30) ?hr ?_; (case hd => rfl); (case hg => rfl); (case hr => first | (go_simp; done) | (go_simp; rfl)); intro gb556 hg w3 hbox hb; obtain ⟨HBn, GW556⟩ := tri hg hb (hu HB.out); have GE556 := GW556; have BK556 := am (hbox); clear HB; have HB := HBn; clear HBn; clear hb hbox hg))
 (try simp only [Act.put, List.setIfInBounds_toArray, List.set_cons_zero, List.set_cons_succ])
 go_cut [15] (fun v15 wc => ∃ (kq : Nat) (x15_1 : Bool), v15 = .bool x15_1 ∧ Aside0 (tallymanref14_Check.j0 kq x15_1 a0_0 l0_1 = some r) ∧ Aside0 (kq ≤ k) ∧ Aside0 (wc.heap[gb556]? = some (.cells #[.int .i64 a0_0, (.slice A0_1 l0_1.length c0_1)] 30 (0, 0))) ∧ Aside0 (Below w.heap.size w wc))
 case first =>
  have H := HC2.out
  clear HC2
  replace H := Option.bind_eq_some_iff.mp H
  obtain ⟨t557, A40, H⟩ := H
  replace H : (if t557 = true then (tallymanref14_Check.j0 k (decide ((l0_1.length : Int) > 65536)) a0_0 l0_1) else (tallymanref14_Check.j0 k true a0_0 l0_1)) = some r := H
  have A4 := Aside0.mk A40
  clear A40
  by_cases c5 : t557 = true
  ·
   subst c5
   have H1 : (tallymanref14_Check.j0 k (decide ((l0_1.length : Int) > 65536)) a0_0 l0_1) = some r := by rw [if_pos rfl] at H; exact H
   clear H
   have H := H1
   clear H1
   have H' := Aside0.mk H
   clear H
   have hcz6_0 := ca BK556.out
   have hcz6_1 := cb BK556.out
   have hfz6_0 := blk_frozen BK556.out 0
   have hfz6_1 := blk_frozen BK556.out 1
   go_wp2_with (first | ((with_reducible refine gate_callee (f := 77) rfl ?_); refine goesL_ (some 8) rfl rfl Try.func77 (by kernel_rfl) rfl #[.int .i64 a0_0] rfl (by (try simp only [List.map_toArray, List.map_cons, List.map_nil]); first | done | rfl | (simp only [List.length_drop, List.length_take]; rfl)) ?_; (with_reducible refine (tallymanref14_may.calls a0_0 true _ A4.out).mono ?_); rintro e w' ⟨rfl, ⟨nd, rfl⟩⟩; refine ⟨_, rfl, ?_⟩))
   go_meet
   case rel => exact ⟨_, (decide ((l0_1.length : Int) > 65536)), (by first | rfl | (simp; done) | (simp [*]; done)), H', ⟨by first | omega | exact Nat.le_refl _⟩, ⟨bu BK556.out⟩, ⟨by repeat (first | (with_reducible first | exact HB.out | apply below_alloc | apply pw_below_drewN | apply below_drew1 | refine below_set ?_ (Aside0.out (by assumption))) | exact HB.out)⟩⟩
  ·
   replace c5 := Bool.eq_false_iff.mpr c5
   subst c5
   have H1 : (tallymanref14_Check.j0 k true a0_0 l0_1) = some r := by rw [if_neg (show ¬ (false = true) by decide)] at H; exact H
   clear H
   have H := H1
   clear H1
   have H' := Aside0.mk H
   clear H
   have hcz7_0 := ca BK556.out
   have hcz7_1 := cb BK556.out
   have hfz7_0 := blk_frozen BK556.out 0
   have hfz7_1 := blk_frozen BK556.out 1
   go_wp2_with (first | ((with_reducible refine gate_callee (f := 77) rfl ?_); refine goesL_ (some 8) rfl rfl Try.func77 (by kernel_rfl) rfl #[.int .i64 a0_0] rfl (by (try simp only [List.map_toArray, List.map_cons, List.map_nil]); first | done | rfl | (simp only [List.length_drop, List.length_take]; rfl)) ?_; (with_reducible refine (tallymanref14_may.calls a0_0 false _ A4.out).mono ?_); rintro e w' ⟨rfl, ⟨nd, rfl⟩⟩; refine ⟨_, rfl, ?_⟩))
   go_meet
   case rel => exact ⟨_, (true), (by first | rfl | (simp; done) | (simp [*]; done)), H', ⟨by first | omega | exact Nat.le_refl _⟩, ⟨bu BK556.out⟩, ⟨by repeat (first | (with_reducible first | exact HB.out | apply below_alloc | apply pw_below_drewN | apply below_drew1 | refine below_set ?_ (Aside0.out (by assumption))) | exact HB.out)⟩⟩
 case rest =>
  clear HC2
  try clear p2; try clear c3; try clear c5; try clear c7; try clear hcz6_0; try clear hcz6_1; try clear hcz7_0; try clear hcz7_1; try clear hfz6_0; try clear hfz6_1; try clear hfz7_0; try clear hfz7_1
  obtain ⟨kq, x15_1, rfl, HA, HJ1, BK556, HB⟩ := hcut
  cases kq with
  | zero => exact absurd HA.out (by simp [tallymanref14_Check.j0])
  | succ kj1 =>
   have H := HA.out
   clear HA
   simp only [tallymanref14_Check.j0] at H
   by_cases c8 : x15_1 = true
   ·
    subst c8
    have H1 : (some 2) = some r := by rw [if_pos rfl] at H; exact H
    clear H
    have H := H1
    clear H1
    obtain rfl := Option.some.inj H
    go_wp2
    go_ret
    exact ⟨by first | rfl | (simp [errW_none, errW_some] <;> rfl) | (simp [*, errW_none, errW_some] <;> rfl), by repeat (first | (with_reducible first | exact HB.out | apply below_alloc | apply pw_below_drewN | apply below_drew1 | refine below_set ?_ (Aside0.out (by assumption))) | exact HB.out)⟩
   ·
    replace c8 := Bool.eq_false_iff.mpr c8
    subst c8
    have H1 : (tallymanref14_Check.l0 kj1 (-1) 0 a0_0 l0_1) = some r := by rw [if_neg (show ¬ (false = true) by decide)] at H; exact H
    clear H
    have H := H1
    clear H1
    have H' := Aside0.mk H
    clear H
    go_wp2
    go_loopg [3, 4] kj1 (fun kq v3 v4 w' => ∃ (x3_2 : Int) (x4_2 : Int), v3 = .int .i64 x3_2 ∧ v4 = .int .i64 x4_2 ∧ Aside0 (tallymanref14_Check.l0 kq x3_2 x4_2 a0_0 l0_1 = some r) ∧ Aside0 (kq ≤ kj1) ∧ Aside0 (w'.heap[gb556]? = some (.cells #[.int .i64 a0_0, (.slice A0_1 l0_1.length c0_1)] 30 (0, 0))) ∧ Aside0 (Below w.heap.size w w'))
    case atStart => exact ⟨((-1)), (0), (by first | rfl | (simp; done) | (simp [*]; done)), (by first | rfl | (simp; done) | (simp [*]; done)), H', ⟨Nat.le_refl _⟩, ⟨bu BK556.out⟩, ⟨by repeat (first | (with_reducible first | exact HB.out | apply below_alloc | apply pw_below_drewN | apply below_drew1 | refine below_set ?_ (Aside0.out (by assumption))) | exact HB.out)⟩⟩
    case round =>
     clear H'
     try clear p2; try clear c3; try clear c5; try clear c7; try clear c8; try clear hcz6_0; try clear hcz6_1; try clear hcz7_0; try clear hcz7_1; try clear hfz6_0; try clear hfz6_1; try clear hfz7_0; try clear hfz7_1; try clear p2
     obtain ⟨x3_2, x4_2, rfl, rfl, HA, HK2, BK556, HB⟩ := hrel
     cases gk with
     | zero => exact absurd HA.out (by simp [tallymanref14_Check.l0])
     | succ k2 =>
      have H := HA.out
      clear HA
      simp only [tallymanref14_Check.l0] at H
      by_cases c9 : x4_2 < (l0_1.length : Int)
      ·
       rw [if_pos c9] at H
       have c9b0 : decide (x4_2 < (l0_1.length : Int)) = true := decide_eq_true c9
       clear c9
       by_cases c10 : 0 ≤ x4_2
       ·
        rw [if_pos c10] at H
        have c10b0 : decide (0 ≤ x4_2) = true := decide_eq_true c10
        clear c10
        by_cases c11 : ((rd_T32 l0_1 x4_2).f0) ≤ x3_2
        ·
         rw [if_pos c11] at H
         have c11b0 : decide (((rd_T32 l0_1 x4_2).f0) ≤ x3_2) = true := decide_eq_true c11
         clear c11
         obtain rfl := Option.some.inj H
         have hcz12_0 := ca BK556.out; have hcz12_1 := cb BK556.out; have hfz12_0 := blk_frozen BK556.out 0; have hfz12_1 := blk_frozen BK556.out 1
         have p558 : 0 ≤ (x4_2 : Int) := of_decide_eq_true (by first | (with_reducible assumption) | assumption)
         have q558 : x4_2 < (l0_1.length : Int) := of_decide_eq_true (by first | (with_reducible assumption) | assumption)
         obtain ⟨ad558, e558, hx558_0, hx558_1⟩ := at_T32 HR0_1.out x4_2 p558 q558
         cases e558
         replace hx558_0 := (HB.out.cell (World.block_lt_of_cell? w _ hx558_0)).trans hx558_0
         replace hx558_1 := (HB.out.cell (World.block_lt_of_cell? w _ hx558_1)).trans hx558_1
         replace p558 := eq_true p558
         replace q558 := eq_true q558
         go_wp2_with (first | ((with_reducible refine gate_dst (N := 5) rfl ?_); (try (refine gate_guard (by rfl) ?_; dsimp only)); refine box_event ?hg (N := 5) ?hd (cs := #[.int .i64 0, .int .i64 0]) (t := 32) ?hr ?_; (case hd => rfl); (case hg => rfl); (case hr => first | (go_simp; done) | (go_simp; rfl)); intro gb559 hg w13 hbox hb; obtain ⟨HBn, GW559⟩ := tri hg hb (by repeat (first | (with_reducible first | exact HB.out | apply below_alloc | apply pw_below_drewN | apply below_drew1 | refine below_set ?_ (Aside0.out (by assumption))) | exact HB.out)); have GE559 := GW559; have BK559 := am (hbox); have NB556_559 := nl hg (bu BK556.out); have NB559_556 := nr hg (bu BK556.out); replace BK556 := bb BK556 hb; clear HB; have HB := HBn; clear HBn; clear hb hbox hg; have hnb14 := NB559_556.out; have hnc14 := NB556_559.out; have hcz15_0 := ca BK559.out; have hcz15_1 := cb BK559.out; have hfz15_0 := blk_frozen BK559.out 0; have hfz15_1 := blk_frozen BK559.out 1))
         go_ret
         exact ⟨by first | rfl | (simp [errW_none, errW_some] <;> rfl) | (simp [*, errW_none, errW_some] <;> rfl), by repeat (first | (with_reducible first | exact HB.out | apply below_alloc | apply pw_below_drewN | apply below_drew1 | refine below_set ?_ (Aside0.out (by assumption))) | exact HB.out)⟩
        ·
         rw [if_neg c11] at H
         have c11b0 : decide (((rd_T32 l0_1 x4_2).f0) ≤ x3_2) = false := decide_eq_false c11
         clear c11
         obtain ⟨ji16, hji16⟩ : ∃ j_ : Int, (IntKind.u64.wrap (a0_0)) = j_ := ⟨_, rfl⟩
         replace H : (if 0 ≤ (ji16) then (if ((rd_T32 l0_1 x4_2).f0) ≥ (shl .i64 1 (ji16)) then (some 2) else (if ((rd_T32 l0_1 x4_2).f1) < 1 then (some 2) else (if ((rd_T32 l0_1 x4_2).f1) > (wrap64 (65 - a0_0)) then (some 2) else (tallymanref14_Check.l0 k2 ((rd_T32 l0_1 x4_2).f0) (wrap64 (x4_2 + 1)) a0_0 l0_1)))) else (none)) = some r := by first | (rw [hji16] at H; exact H) | (simp only [hji16] at H ⊢; exact H)
         by_cases c17 : 0 ≤ (ji16)
         ·
          rw [if_pos c17] at H
          have c17b0 := eq_true c17
          have c17b1 : decide (0 ≤ (ji16)) = true := decide_eq_true c17
          clear c17
          obtain ⟨ji18, hji18⟩ : ∃ j_ : Int, (shl .i64 1 (ji16)) = j_ := ⟨_, rfl⟩
          replace H : (if ((rd_T32 l0_1 x4_2).f0) ≥ (ji18) then (some 2) else (if ((rd_T32 l0_1 x4_2).f1) < 1 then (some 2) else (if ((rd_T32 l0_1 x4_2).f1) > (wrap64 (65 - a0_0)) then (some 2) else (tallymanref14_Check.l0 k2 ((rd_T32 l0_1 x4_2).f0) (wrap64 (x4_2 + 1)) a0_0 l0_1)))) = some r := by first | (rw [hji18] at H; exact H) | (simp only [hji18] at H ⊢; exact H)
          have hji18_ : (IntKind.i64.wrap (1 * 2 ^ min (ji16).toNat 64)) = ji18 := hji18
          have hji18z : (ji16) ≤ 64 → (IntKind.i64.wrap (1 * 2 ^ (ji16).toNat)) = ji18 := shl_small hji18
          have hji18u : (IntKind.i64.wrap (2 ^ min (ji16).toNat 64)) = ji18 := by have h_ := hji18_; rw [Int.one_mul] at h_; exact h_
          have hji18v : (ji16) ≤ 64 → (IntKind.i64.wrap (2 ^ (ji16).toNat)) = ji18 := fun hle_ => by have h_ := hji18z hle_; rw [Int.one_mul] at h_; exact h_
          have hji18y : (wrap64 (1 * 2 ^ min (ji16).toNat 64)) = ji18 := (i64_w _).symm.trans hji18_
          have hji18x : (ji16) ≤ 64 → (wrap64 (1 * 2 ^ (ji16).toNat)) = ji18 := fun h_ => (i64_w _).symm.trans (hji18z h_)
          by_cases c19 : ((rd_T32 l0_1 x4_2).f0) ≥ (ji18)
          ·
           rw [if_pos c19] at H
           have c19b0 : decide ((ji18) ≤ ((rd_T32 l0_1 x4_2).f0)) = true := decide_eq_true c19
           clear c19
           obtain rfl := Option.some.inj H
           have hcz20_0 := ca BK556.out; have hcz20_1 := cb BK556.out; have hfz20_0 := blk_frozen BK556.out 0; have hfz20_1 := blk_frozen BK556.out 1
           have p558 : 0 ≤ (x4_2 : Int) := of_decide_eq_true (by first | (with_reducible assumption) | assumption)
           have q558 : x4_2 < (l0_1.length : Int) := of_decide_eq_true (by first | (with_reducible assumption) | assumption)
           obtain ⟨ad558, e558, hx558_0, hx558_1⟩ := at_T32 HR0_1.out x4_2 p558 q558
           cases e558
           replace hx558_0 := (HB.out.cell (World.block_lt_of_cell? w _ hx558_0)).trans hx558_0
           replace hx558_1 := (HB.out.cell (World.block_lt_of_cell? w _ hx558_1)).trans hx558_1
           replace p558 := eq_true p558
           replace q558 := eq_true q558
           go_wp2_with (first | ((with_reducible refine gate_dst (N := 5) rfl ?_); (try (refine gate_guard (by rfl) ?_; dsimp only)); refine box_event ?hg (N := 5) ?hd (cs := #[.int .i64 0, .int .i64 0]) (t := 32) ?hr ?_; (case hd => rfl); (case hg => rfl); (case hr => first | (go_simp; done) | (go_simp; rfl)); intro gb559 hg w21 hbox hb; obtain ⟨HBn, GW559⟩ := tri hg hb (by repeat (first | (with_reducible first | exact HB.out | apply below_alloc | apply pw_below_drewN | apply below_drew1 | refine below_set ?_ (Aside0.out (by assumption))) | exact HB.out)); have GE559 := GW559; have BK559 := am (hbox); have NB556_559 := nl hg (bu BK556.out); have NB559_556 := nr hg (bu BK556.out); replace BK556 := bb BK556 hb; clear HB; have HB := HBn; clear HBn; clear hb hbox hg; have hnb22 := NB559_556.out; have hnc22 := NB556_559.out; have hcz23_0 := ca BK559.out; have hcz23_1 := cb BK559.out; have hfz23_0 := blk_frozen BK559.out 0; have hfz23_1 := blk_frozen BK559.out 1; have hcz24_0 := ca BK556.out; have hcz24_1 := cb BK556.out; have hfz24_0 := blk_frozen BK556.out 0; have hfz24_1 := blk_frozen BK556.out 1))
           go_ret
           exact ⟨by first | rfl | (simp [errW_none, errW_some] <;> rfl) | (simp only [← hji16, ← hji18]; first | rfl | (simp [errW_none, errW_some] <;> rfl)) | (simp [*, errW_none, errW_some] <;> rfl), by repeat (first | (with_reducible first | exact HB.out | apply below_alloc | apply pw_below_drewN | apply below_drew1 | refine below_set ?_ (Aside0.out (by assumption))) | exact HB.out)⟩
          ·
           rw [if_neg c19] at H
           have c19b0 : decide ((ji18) ≤ ((rd_T32 l0_1 x4_2).f0)) = false := decide_eq_false c19
           clear c19
           by_cases c25 : ((rd_T32 l0_1 x4_2).f1) < 1
           ·
            rw [if_pos c25] at H
            have c25b0 : decide (((rd_T32 l0_1 x4_2).f1) < 1) = true := decide_eq_true c25
            clear c25
            obtain rfl := Option.some.inj H
            have hcz26_0 := ca BK556.out; have hcz26_1 := cb BK556.out; have hfz26_0 := blk_frozen BK556.out 0; have hfz26_1 := blk_frozen BK556.out 1
            have p558 : 0 ≤ (x4_2 : Int) := of_decide_eq_true (by first | (with_reducible assumption) | assumption)
            have q558 : x4_2 < (l0_1.length : Int) := of_decide_eq_true (by first | (with_reducible assumption) | assumption)
            obtain ⟨ad558, e558, hx558_0, hx558_1⟩ := at_T32 HR0_1.out x4_2 p558 q558
            cases e558
            replace hx558_0 := (HB.out.cell (World.block_lt_of_cell? w _ hx558_0)).trans hx558_0
            replace hx558_1 := (HB.out.cell (World.block_lt_of_cell? w _ hx558_1)).trans hx558_1
            replace p558 := eq_true p558
            replace q558 := eq_true q558
            go_wp2_with (first | ((with_reducible refine gate_dst (N := 5) rfl ?_); (try (refine gate_guard (by rfl) ?_; dsimp only)); refine box_event ?hg (N := 5) ?hd (cs := #[.int .i64 0, .int .i64 0]) (t := 32) ?hr ?_; (case hd => rfl); (case hg => rfl); (case hr => first | (go_simp; done) | (go_simp; rfl)); intro gb559 hg w27 hbox hb; obtain ⟨HBn, GW559⟩ := tri hg hb (by repeat (first | (with_reducible first | exact HB.out | apply below_alloc | apply pw_below_drewN | apply below_drew1 | refine below_set ?_ (Aside0.out (by assumption))) | exact HB.out)); have GE559 := GW559; have BK559 := am (hbox); have NB556_559 := nl hg (bu BK556.out); have NB559_556 := nr hg (bu BK556.out); replace BK556 := bb BK556 hb; clear HB; have HB := HBn; clear HBn; clear hb hbox hg; have hnb28 := NB559_556.out; have hnc28 := NB556_559.out; have hcz29_0 := ca BK559.out; have hcz29_1 := cb BK559.out; have hfz29_0 := blk_frozen BK559.out 0; have hfz29_1 := blk_frozen BK559.out 1; have hcz30_0 := ca BK556.out; have hcz30_1 := cb BK556.out; have hfz30_0 := blk_frozen BK556.out 0; have hfz30_1 := blk_frozen BK556.out 1))
            go_ret
            exact ⟨by first | rfl | (simp [errW_none, errW_some] <;> rfl) | (simp only [← hji16, ← hji18]; first | rfl | (simp [errW_none, errW_some] <;> rfl)) | (simp [*, errW_none, errW_some] <;> rfl), by repeat (first | (with_reducible first | exact HB.out | apply below_alloc | apply pw_below_drewN | apply below_drew1 | refine below_set ?_ (Aside0.out (by assumption))) | exact HB.out)⟩
           ·
            rw [if_neg c25] at H
            have c25b0 : decide (((rd_T32 l0_1 x4_2).f1) < 1) = false := decide_eq_false c25
            clear c25
            by_cases c31 : ((rd_T32 l0_1 x4_2).f1) > (wrap64 (65 - a0_0))
            ·
             rw [if_pos c31] at H
             have c31b0 : decide ((wrap64 (65 - a0_0)) < ((rd_T32 l0_1 x4_2).f1)) = true := decide_eq_true c31
             clear c31
             obtain rfl := Option.some.inj H
             have hcz32_0 := ca BK556.out; have hcz32_1 := cb BK556.out; have hfz32_0 := blk_frozen BK556.out 0; have hfz32_1 := blk_frozen BK556.out 1
             have p558 : 0 ≤ (x4_2 : Int) := of_decide_eq_true (by first | (with_reducible assumption) | assumption)
             have q558 : x4_2 < (l0_1.length : Int) := of_decide_eq_true (by first | (with_reducible assumption) | assumption)
             obtain ⟨ad558, e558, hx558_0, hx558_1⟩ := at_T32 HR0_1.out x4_2 p558 q558
             cases e558
             replace hx558_0 := (HB.out.cell (World.block_lt_of_cell? w _ hx558_0)).trans hx558_0
             replace hx558_1 := (HB.out.cell (World.block_lt_of_cell? w _ hx558_1)).trans hx558_1
             replace p558 := eq_true p558
             replace q558 := eq_true q558
             go_wp2_with (first | ((with_reducible refine gate_dst (N := 5) rfl ?_); (try (refine gate_guard (by rfl) ?_; dsimp only)); refine box_event ?hg (N := 5) ?hd (cs := #[.int .i64 0, .int .i64 0]) (t := 32) ?hr ?_; (case hd => rfl); (case hg => rfl); (case hr => first | (go_simp; done) | (go_simp; rfl)); intro gb559 hg w33 hbox hb; obtain ⟨HBn, GW559⟩ := tri hg hb (by repeat (first | (with_reducible first | exact HB.out | apply below_alloc | apply pw_below_drewN | apply below_drew1 | refine below_set ?_ (Aside0.out (by assumption))) | exact HB.out)); have GE559 := GW559; have BK559 := am (hbox); have NB556_559 := nl hg (bu BK556.out); have NB559_556 := nr hg (bu BK556.out); replace BK556 := bb BK556 hb; clear HB; have HB := HBn; clear HBn; clear hb hbox hg; have hnb34 := NB559_556.out; have hnc34 := NB556_559.out; have hcz35_0 := ca BK559.out; have hcz35_1 := cb BK559.out; have hfz35_0 := blk_frozen BK559.out 0; have hfz35_1 := blk_frozen BK559.out 1; have hcz36_0 := ca BK556.out; have hcz36_1 := cb BK556.out; have hfz36_0 := blk_frozen BK556.out 0; have hfz36_1 := blk_frozen BK556.out 1))
             go_ret
             exact ⟨by first | rfl | (simp [errW_none, errW_some] <;> rfl) | (simp only [← hji16, ← hji18]; first | rfl | (simp [errW_none, errW_some] <;> rfl)) | (simp [*, errW_none, errW_some] <;> rfl), by repeat (first | (with_reducible first | exact HB.out | apply below_alloc | apply pw_below_drewN | apply below_drew1 | refine below_set ?_ (Aside0.out (by assumption))) | exact HB.out)⟩
            ·
             rw [if_neg c31] at H
             have c31b0 : decide ((wrap64 (65 - a0_0)) < ((rd_T32 l0_1 x4_2).f1)) = false := decide_eq_false c31
             clear c31
             have H' := Aside0.mk H
             clear H
             have hcz37_0 := ca BK556.out; have hcz37_1 := cb BK556.out; have hfz37_0 := blk_frozen BK556.out 0; have hfz37_1 := blk_frozen BK556.out 1
             have p558 : 0 ≤ (x4_2 : Int) := of_decide_eq_true (by first | (with_reducible assumption) | assumption)
             have q558 : x4_2 < (l0_1.length : Int) := of_decide_eq_true (by first | (with_reducible assumption) | assumption)
             obtain ⟨ad558, e558, hx558_0, hx558_1⟩ := at_T32 HR0_1.out x4_2 p558 q558
             cases e558
             replace hx558_0 := (HB.out.cell (World.block_lt_of_cell? w _ hx558_0)).trans hx558_0
             replace hx558_1 := (HB.out.cell (World.block_lt_of_cell? w _ hx558_1)).trans hx558_1
             replace p558 := eq_true p558
             replace q558 := eq_true q558
             go_wp2_with (first | ((with_reducible refine gate_dst (N := 5) rfl ?_); (try (refine gate_guard (by rfl) ?_; dsimp only)); refine box_event ?hg (N := 5) ?hd (cs := #[.int .i64 0, .int .i64 0]) (t := 32) ?hr ?_; (case hd => rfl); (case hg => rfl); (case hr => first | (go_simp; done) | (go_simp; rfl)); intro gb559 hg w38 hbox hb; obtain ⟨HBn, GW559⟩ := tri hg hb (by repeat (first | (with_reducible first | exact HB.out | apply below_alloc | apply pw_below_drewN | apply below_drew1 | refine below_set ?_ (Aside0.out (by assumption))) | exact HB.out)); have GE559 := GW559; have BK559 := am (hbox); have NB556_559 := nl hg (bu BK556.out); have NB559_556 := nr hg (bu BK556.out); replace BK556 := bb BK556 hb; clear HB; have HB := HBn; clear HBn; clear hb hbox hg; have hnb39 := NB559_556.out; have hnc39 := NB556_559.out; have hcz40_0 := ca BK559.out; have hcz40_1 := cb BK559.out; have hfz40_0 := blk_frozen BK559.out 0; have hfz40_1 := blk_frozen BK559.out 1; have hcz41_0 := ca BK556.out; have hcz41_1 := cb BK556.out; have hfz41_0 := blk_frozen BK556.out 0; have hfz41_1 := blk_frozen BK556.out 1))
             go_roundg k2
             case measure => have := HJ1.out; have := HK2.out; omega
             case rel => exact ⟨((rd_T32 l0_1 x4_2).f0), (wrap64 (x4_2 + 1)), (by first | rfl | (simp; done) | (simp [*]; done)), (by first | rfl | (simp; done) | (simp [*]; done)), H', ⟨by have := HJ1.out; have := HK2.out; omega⟩, ⟨bf NB556_559.out BK556.out⟩, ⟨by repeat (first | (with_reducible first | exact HB.out | apply below_alloc | apply pw_below_drewN | apply below_drew1 | refine below_set ?_ (Aside0.out (by assumption))) | exact HB.out)⟩⟩
         ·
          rw [if_neg c17] at H
          exact absurd H (by simp)
       ·
        rw [if_neg c10] at H
        exact absurd H (by simp)
      ·
       rw [if_neg c9] at H
       have c9b0 : decide (x4_2 < (l0_1.length : Int)) = false := decide_eq_false c9
       clear c9
       obtain rfl := Option.some.inj H
       have hcz42_0 := ca BK556.out; have hcz42_1 := cb BK556.out; have hfz42_0 := blk_frozen BK556.out 0; have hfz42_1 := blk_frozen BK556.out 1
       go_wp2
       go_ret
       exact ⟨by first | rfl | (simp [errW_none, errW_some] <;> rfl) | (simp [*, errW_none, errW_some] <;> rfl), by repeat (first | (with_reducible first | exact HB.out | apply below_alloc | apply pw_below_drewN | apply below_drew1 | refine below_set ?_ (Aside0.out (by assumption))) | exact HB.out)⟩

/-! ### tallymanref02_bits: function 100 -/
def tallymanref02_bits.f (a0 : Int) : Option (Int) := some (mx 0 (mn a0 64))
set_option maxHeartbeats 8000000 in
set_option maxRecDepth 100000 in
theorem tallymanref02_bits.calls (a0 : Int) (r : Int) (w : World) (h : tallymanref02_bits.f a0 = some r) :
  Calls Try.prog 100 #[.int .i64 a0] w fun e w' => e = .returned (.int .u64 r) ∧ Below w.heap.size w w' := by
 have HB := am (Below.refl w.heap.size w)
 have H : (some (mx 0 (mn a0 64))) = some r := h
 clear h
 obtain ⟨ji2, hji2⟩ : ∃ j_ : Int, (mn a0 64) = j_ := ⟨_, rfl⟩
 replace H : (some (mx 0 (ji2))) = some r := by first | (rw [hji2] at H; exact H) | (simp only [hji2] at H ⊢; exact H)
 (try (have hji2h : ji2 ≤ 64 := by (rw [← hji2]; unfold mn; (repeat' split) <;> omega)))
 (try (have hji2g : ji2 ≤ 64 := by omega))
 have hji2_ : (if 64 < a0 then 64 else a0) = ji2 := hji2
 obtain ⟨ji3, hji3⟩ : ∃ j_ : Int, (mx 0 (ji2)) = j_ := ⟨_, rfl⟩
 replace H : (some ji3) = some r := by first | (rw [hji3] at H; exact H) | (simp only [hji3] at H ⊢; exact H)
 have hji3_ : (if 0 < (ji2) then (ji2) else 0) = ji3 := hji3
 obtain rfl := Option.some.inj H
 go_enter Try.func100, Try.ntmps100
 go_wp2
 go_ret
 exact ⟨by first | rfl | (simp [errW_none, errW_some] <;> rfl) | (simp only [← hji2, ← hji3]; first | rfl | (simp [errW_none, errW_some] <;> rfl)) | (simp [*, errW_none, errW_some] <;> rfl), by repeat (first | (with_reducible first | exact HB.out | apply below_alloc | apply pw_below_drewN | apply below_drew1) | exact HB.out)⟩

/-! ### tallymanref02_High: function 81 -/
def tallymanref02_High.f (a0 : Int) (a1 : Int) : Option (Int) := (tallymanref02_bits.f a1).bind fun t560 => (if 0 ≤ (IntKind.u64.wrap (64 - t560)) then (some (shr .u64 a0 (IntKind.u64.wrap (64 - t560)))) else (none))
set_option maxHeartbeats 8000000 in
set_option maxRecDepth 100000 in
theorem tallymanref02_High.calls (a0 : Int) (a1 : Int) (r : Int) (w : World) (h : tallymanref02_High.f a0 a1 = some r) :
  Calls Try.prog 81 #[.int .u64 a0, .int .i64 a1] w fun e w' => e = .returned (.int .u64 r) ∧ Below w.heap.size w w' := by
 have HB := am (Below.refl w.heap.size w)
 have H : ((tallymanref02_bits.f a1).bind fun t560 => (if 0 ≤ (IntKind.u64.wrap (64 - t560)) then (some (shr .u64 a0 (IntKind.u64.wrap (64 - t560)))) else (none))) = some r := h
 clear h
 replace H := Option.bind_eq_some_iff.mp H
 obtain ⟨t560, A30, H⟩ := H
 replace H : (if 0 ≤ (IntKind.u64.wrap (64 - t560)) then (some (shr .u64 a0 (IntKind.u64.wrap (64 - t560)))) else (none)) = some r := H
 have A3 := Aside0.mk A30
 clear A30
 obtain ⟨ji4, hji4⟩ : ∃ j_ : Int, (IntKind.u64.wrap (64 - t560)) = j_ := ⟨_, rfl⟩
 replace H : (if 0 ≤ (ji4) then (some (shr .u64 a0 (ji4))) else (none)) = some r := by first | (rw [hji4] at H; exact H) | (simp only [hji4] at H ⊢; exact H)
 (try rw [hji4] at A3)
 by_cases c5 : 0 ≤ (ji4)
 ·
  rw [if_pos c5] at H
  have c5b0 := eq_true c5
  have c5b1 : decide (0 ≤ (ji4)) = true := decide_eq_true c5
  clear c5
  obtain ⟨ji6, hji6⟩ : ∃ j_ : Int, (shr .u64 a0 (ji4)) = j_ := ⟨_, rfl⟩
  replace H : (some ji6) = some r := by first | (rw [hji6] at H; exact H) | (simp only [hji6] at H ⊢; exact H)
  (try rw [hji6] at A3)
  have hji6_ : (a0 / 2 ^ min (ji4).toNat 64) = ji6 := hji6
  have hji6z : (ji4) ≤ 64 → (a0 / 2 ^ (ji4).toNat) = ji6 := shr_small hji6
  obtain rfl := Option.some.inj H
  go_enter Try.func81, Try.ntmps81
  go_wp2_with (first | ((with_reducible refine gate_callee (f := 100) rfl ?_); refine goesL_ (some 7) rfl rfl Try.func100 (by kernel_rfl) rfl #[.int .i64 a1] rfl (by (try simp only [List.map_toArray, List.map_cons, List.map_nil]); first | done | rfl | (simp only [List.length_drop, List.length_take]; rfl)) ?_; (with_reducible refine (tallymanref02_bits.calls a1 t560 _ A3.out).mono ?_); rintro e w7 ⟨rfl, hb⟩; refine ⟨_, rfl, ?_⟩; replace HB := am (below_step (hu HB.out) hb); (try clear hb); (try clear hb2); (try clear hk); (try clear hi)))
  go_ret
  exact ⟨by first | rfl | (simp [errW_none, errW_some] <;> rfl) | (simp only [← hji4, ← hji6]; first | rfl | (simp [errW_none, errW_some] <;> rfl)) | (simp [*, errW_none, errW_some] <;> rfl), by repeat (first | (with_reducible first | exact HB.out | apply below_alloc | apply pw_below_drewN | apply below_drew1) | exact HB.out)⟩
 ·
  rw [if_neg c5] at H
  exact absurd H (by simp)

end Go.Proofs.Ytbclnjinpcfpjaa.H
