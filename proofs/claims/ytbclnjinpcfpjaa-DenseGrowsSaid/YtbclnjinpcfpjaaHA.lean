-- Made by this session's own call of the printer (functions that are proved by hand are taken from a text beside it).
import Derived.Test.YtbclnjinpcfpjaaZ4
import Derived.Test.YtbclnjinpcfpjaaH0
import Derived.Test.YtbclnjinpcfpjaaH2
import Derived.Test.YtbclnjinpcfpjaaH4
import Derived.Test.YtbclnjinpcfpjaaH5
import Derived.Test.YtbclnjinpcfpjaaH7
import Derived.Test.YtbclnjinpcfpjaaH8
import Derived.Test.YtbclnjinpcfpjaaH11
namespace Go.Proofs.Ytbclnjinpcfpjaa.H
open Go.RowKit Go.Proofs.YtbclnjinpcfpjaaW.PrintWords Go.Proofs.YtbclnjinpcfpjaaW.PrintLast Go.Proofs.YtbclnjinpcfpjaaW.PrintMore
attribute [local go_sem] max2_int min2_int max_two min_two max_three min_three max_four min_four   -- for this text's walks alone
set_option linter.unusedVariables false
set_option linter.unusedSimpArgs false

/-! ### tallymanref01_Number: function 82 -/
def tallymanref01_Number.l0 : Nat → Int → List Int → Option (List Int)
 | 0, _, _ => none
 | k + 1, x1, x5 => if x1 ≥ 128 then (if x5.length < 140737488355328 then (tallymanref01_Number.l0 k (IntKind.u64.wrap (Int.tdiv x1 128)) (x5 ++ [(IntKind.u64.wrap (128 + (Int.tmod x1 128))) % 256])) else (none)) else (if x5.length < 140737488355328 then (some (x5 ++ [(x1) % 256])) else (none))
def tallymanref01_Number.f (k : Nat) (l0 : List Int) (a1 : Int) : Option (List Int) := (some (([] : List Int) : List Int)).bind fun y464 => (if y464.length + l0.length < 140737488355328 then (tallymanref01_Number.l0 k a1 (y464 ++ l0)) else (none))
theorem tallymanref01_Number.mono_l : ∀ k, (∀ y0 y1, LeO (tallymanref01_Number.l0 k y0 y1) (tallymanref01_Number.l0 (k + 1) y0 y1))
 | 0 => fun _ _ r h => by simp [tallymanref01_Number.l0] at h
 | k + 1 => by
  have ih0 := tallymanref01_Number.mono_l k
  ·
   intro y0 y1
   unfold tallymanref01_Number.l0
   repeat' first
   | (with_reducible exact ih0 _ _)
   | (with_reducible exact LeO.refl _)
   | (with_reducible exact LeO.none _)
   | (with_reducible refine LeO.ite ?_ ?_)
   | (with_reducible refine LeO.bind ?_ (fun _ => ?_))
theorem tallymanref01_Number.mono : ∀ a0 a1 k, LeO (tallymanref01_Number.f k a0 a1) (tallymanref01_Number.f (k + 1) a0 a1) := by
 intro a0 a1 k
 have ih0 := tallymanref01_Number.mono_l k
 unfold tallymanref01_Number.f
 repeat' first
   | (with_reducible exact ih0 _ _)
   | (with_reducible exact LeO.refl _)
   | (with_reducible exact LeO.none _)
   | (with_reducible refine LeO.ite ?_ ?_)
   | (with_reducible refine LeO.bind ?_ (fun _ => ?_))
set_option maxHeartbeats 8000000 in
set_option maxRecDepth 100000 in
theorem tallymanref01_Number.calls (k : Nat) (A0 : Option Addr) (c0 : Nat) (l0 : List Int) (a1 : Int) (r : List Int) (w : World) (hr0 : Kd.C (Kd.int .u8) w A0 l0.length l0) (hc0 : l0.length ≤ c0) (h : tallymanref01_Number.f k l0 a1 = some r) :
  Calls Try.prog 82 #[.slice A0 l0.length c0, .int .u64 a1] w fun e w' => ∃ v0_ : Value, e = .returned (v0_) ∧ Kd.R (Kd.int .u8) 5 w' w.heap.size (fun _ => True) v0_ r ∧ Below w.heap.size w w' := by
 have HR0 := Aside0.mk hr0
 have HC0 := Aside0.mk hc0
 clear hr0 hc0
 have HB := am (Below.refl w.heap.size w)
 have H : ((some (([] : List Int) : List Int)).bind fun y464 => (if y464.length + l0.length < 140737488355328 then (tallymanref01_Number.l0 k a1 (y464 ++ l0)) else (none))) = some r := h
 clear h
 obtain ⟨y464, hy464⟩ : ∃ y_ : List Int, y_ = (([] : List Int)) := ⟨_, rfl⟩
 replace H : (if y464.length + l0.length < 140737488355328 then (tallymanref01_Number.l0 k a1 (y464 ++ l0)) else (none)) = some r := by first | (rw [hy464]; with_reducible exact H) | (have H2_ := (Option.bind_some _ _).symm.trans H; rw [hy464]; with_reducible exact H2_) | (have H2_ := (Option.bind_some _ _).symm.trans H; with_reducible exact H2_) | with_reducible exact H | (rw [hy464]; exact H) | exact H
 have Ny464 := Aside0.mk hy464
 clear hy464
 by_cases c3 : y464.length + l0.length < 140737488355328
 ·
  rw [if_pos c3] at H
  have LMc3 := Aside0.mk c3
  clear c3
  obtain ⟨y467, hy467⟩ : ∃ y_ : List Int, y_ = (y464 ++ l0) := ⟨_, rfl⟩
  replace H : (tallymanref01_Number.l0 k a1 y467) = some r := by first | (rw [hy467]; with_reducible exact H) | (have H2_ := (Option.bind_some _ _).symm.trans H; rw [hy467]; with_reducible exact H2_) | (have H2_ := (Option.bind_some _ _).symm.trans H; with_reducible exact H2_) | with_reducible exact H | (rw [hy467]; exact H) | exact H
  have Ny467 := Aside0.mk hy467
  clear hy467
  have H' := Aside0.mk H
  clear H
  go_enter Try.func82, Try.ntmps82
  go_wp2_with (first | ((with_reducible refine gate_dst (N := 6) rfl ?_); refine Kd.R_lit (Kd.int .u8) _ 5 ?hg (N := 6) ?hd (xs := ([] : List Int)) (inner := []) (ok := fun _ => True) (okp := fun _ => True) ?hr ?hp (fun _ hk => hk) trivial (Below.refl _ _) (Nat.le_refl _) (by simp) ?_; (case hd => rfl); (case hg => rfl); (case hr => go_simp; try rfl); (case hp => exact (Reps.none _ _)); intro v465 w4 ho5 hb hg_ hnew_; clear hg_ hnew_; (first | rw [← Ny464.out] at ho5 | (simp only [Int.reduceToNat] at ho5; rw [← Ny464.out] at ho5)); have HO466 := am (Kd.R_lower ho5 (below_size (hu HB.out))); replace HB := am (below_step (hu HB.out) hb); clear hb ho5) | ((with_reducible refine gate_builtin (b := .append) (xs := #[.tmp 6, .tmp 7]) rfl ?_); at_builtin; refine Kd.R_append_rows (Kd.int .u8) (w0 := w) w.heap.size rfl (.tmp 6) (.tmp 7) 33 5 (.int .u8 0) 1 rfl Try.underlying33 info5 rfl (by decide) (by omega) v465 y464 l0 _ _ _ (fun _ => True) (fun _ => False) rfl rfl ?aO ?aR (fun _ _ h => h) (fun _ h => h.elim) ?aF ?aB ?aS ?aL ?_; (case aR => exact cu (Kd.C_below HR0.out HB.out)); (case aB => exact (hu HB.out)); (case aF => exact (fun _ _ => trivial)); (case aO => exact (ru (HO466.out))); (case aS => exact (below_size (hu HB.out))); (case aL => have := LMc3.out; omega); intro v468 w6 ho hb hg hat; rw [← Ny467.out] at ho; have HO469 := am (ho); replace HB := am (hb); clear HO466; clear ho hb hg hat))
  go_loopg [1, 5] k (fun kq v1 v5 w' => ∃ (x1_1 : Int) (x5_1 : List Int), v1 = .int .u64 x1_1 ∧ Aside0 (tallymanref01_Number.l0 kq x1_1 x5_1 = some r) ∧ Aside0 (kq ≤ k) ∧ Aside0 (Kd.R (Kd.int .u8) 5 w' w.heap.size (fun _ => True) v5 x5_1) ∧ Aside0 (Below w.heap.size w w'))
  case atStart => exact ⟨(a1), (y467), (by first | rfl | (simp; done) | (simp [*]; done)), H', ⟨Nat.le_refl _⟩, ⟨ru HO469.out⟩, ⟨by repeat (with_reducible first | exact HB.out | apply bA | apply bN | apply bD)⟩⟩
  case round =>
   clear H'
   obtain ⟨x1_1, x5_1, rfl, HA, HK1, HO_5, HB⟩ := hrel
   cases gk with
   | zero => exact absurd HA.out (by simp [tallymanref01_Number.l0])
   | succ k1 =>
    have H := HA.out
    clear HA
    simp only [tallymanref01_Number.l0] at H
    by_cases c7 : x1_1 ≥ 128
    ·
     rw [if_pos c7] at H
     have c7b0 : decide (128 ≤ x1_1) = true := decide_eq_true c7
     clear c7
     by_cases c8 : x5_1.length < 140737488355328
     ·
      rw [if_pos c8] at H
      have LMc8 := Aside0.mk c8
      clear c8
      obtain ⟨y470, hy470⟩ : ∃ y_ : List Int, y_ = (x5_1 ++ [(IntKind.u64.wrap (128 + (Int.tmod x1_1 128))) % 256]) := ⟨_, rfl⟩
      replace H : (tallymanref01_Number.l0 k1 (IntKind.u64.wrap (Int.tdiv x1_1 128)) y470) = some r := by first | (rw [hy470]; with_reducible exact H) | (have H2_ := (Option.bind_some _ _).symm.trans H; rw [hy470]; with_reducible exact H2_) | (have H2_ := (Option.bind_some _ _).symm.trans H; with_reducible exact H2_) | with_reducible exact H | (rw [hy470]; exact H) | exact H
      have Ny470 := Aside0.mk hy470
      clear hy470
      have H' := Aside0.mk H
      clear H
      go_wp2_with (first | ((with_reducible refine gate_builtin (b := .append) (xs := #[.tmp 11, .tmp 16]) rfl ?_); at_builtin; refine Kd.R_append (Kd.int .u8) (w0 := w) w.heap.size rfl (.tmp 11) (.tmp 16) 33 5 (.int .u8 0) 1 rfl Try.underlying33 info5 rfl (by decide) (by omega) u5 x5_1 ((IntKind.u64.wrap (128 + (Int.tmod x1_1 128))) % 256) [.int .u8 ((IntKind.u64.wrap (128 + (Int.tmod x1_1 128))) % 256)] (fun _ => True) (fun _ => False) rfl rfl ?aP (fun _ hk => hk.elim) ?aF ?aO ?aB ?aS ?aL ?_; (case aP => exact rfl); (case aB => exact (hu HB.out)); (case aF => exact (fun _ _ => trivial)); (case aO => exact (ru (HO_5.out))); (case aS => exact (below_size (hu HB.out))); (case aL => have := LMc8.out; omega); intro v471 w9 ho hb hg hat; rw [← Ny470.out] at ho; have HO472 := am (ho); replace HB := am (hb); clear HO_5; clear ho hb hg hat))
      go_roundg k1
      case measure => have := HK1.out; omega
      case rel => exact ⟨(IntKind.u64.wrap (Int.tdiv x1_1 128)), (y470), (by first | rfl | (simp; done) | (simp [*]; done)), H', ⟨by have := HK1.out; omega⟩, ⟨ru HO472.out⟩, ⟨by repeat (with_reducible first | exact HB.out | apply bA | apply bN | apply bD)⟩⟩
     ·
      rw [if_neg c8] at H
      exact absurd H (by simp)
    ·
     rw [if_neg c7] at H
     have c7b0 : decide (128 ≤ x1_1) = false := decide_eq_false c7
     clear c7
     by_cases c10 : x5_1.length < 140737488355328
     ·
      rw [if_pos c10] at H
      have LMc10 := Aside0.mk c10
      clear c10
      obtain ⟨y473, hy473⟩ : ∃ y_ : List Int, y_ = (x5_1 ++ [(x1_1) % 256]) := ⟨_, rfl⟩
      replace H : (some y473) = some r := by first | (rw [hy473]; with_reducible exact H) | (have H2_ := (Option.bind_some _ _).symm.trans H; rw [hy473]; with_reducible exact H2_) | (have H2_ := (Option.bind_some _ _).symm.trans H; with_reducible exact H2_) | with_reducible exact H | (rw [hy473]; exact H) | exact H
      have Ny473 := Aside0.mk hy473
      clear hy473
      obtain rfl := Option.some.inj H
      go_wp2_with (first | ((with_reducible refine gate_builtin (b := .append) (xs := #[.tmp 20, .tmp 23]) rfl ?_); at_builtin; refine Kd.R_append (Kd.int .u8) (w0 := w) w.heap.size rfl (.tmp 20) (.tmp 23) 33 5 (.int .u8 0) 1 rfl Try.underlying33 info5 rfl (by decide) (by omega) u5 x5_1 ((x1_1) % 256) [.int .u8 ((x1_1) % 256)] (fun _ => True) (fun _ => False) rfl rfl ?aP (fun _ hk => hk.elim) ?aF ?aO ?aB ?aS ?aL ?_; (case aP => exact rfl); (case aB => exact (hu HB.out)); (case aF => exact (fun _ _ => trivial)); (case aO => exact (ru (HO_5.out))); (case aS => exact (below_size (hu HB.out))); (case aL => have := LMc10.out; omega); intro v474 w11 ho hb hg hat; rw [← Ny473.out] at ho; have HO475 := am (ho); replace HB := am (hb); clear HO_5; clear ho hb hg hat))
      go_ret
      exact ⟨_, by first | rfl | (simp [errW_none, errW_some] <;> rfl) | (simp [*, errW_none, errW_some] <;> rfl), by (with_reducible repeat (first | apply Kd.R_alloc | apply Kd.R_drewN | apply Kd.R_drew)); exact HO475.out, by repeat (with_reducible first | exact HB.out | apply bA | apply bN | apply bD)⟩
     ·
      rw [if_neg c10] at H
      exact absurd H (by simp)
 ·
  rw [if_neg c3] at H
  exact absurd H (by simp)

/-! ### tallymanref15_Sparse: function 50 -/
def tallymanref15_Sparse.l0 : Nat → List Int → Int → Int → Int → List (S32) → Option (List Int × Int)
 | 0, _, _, _, _, _ => none
 | k + 1, x4, x5, x6, x477000, x477001 => if x6 < (x477001.length : Int) then (if 0 ≤ x6 then ((tallymanref01_Number.f k x4 (IntKind.u64.wrap (wrap64 ((wrap64 (((rd_T32 x477001 x6).f0) - x5)) - 1)))).bind fun t485 => (if t485.length < 140737488355328 then (tallymanref15_Sparse.l0 k (t485 ++ [((rd_T32 x477001 x6).f1) % 256]) ((rd_T32 x477001 x6).f0) (wrap64 (x6 + 1)) x477000 x477001) else (none))) else (none)) else (some (x4, 0))
def tallymanref15_Sparse.f (k : Nat) (a0_0 : Int) (l0_1 : List (S32)) : Option (List Int × Int) := (tallymanref14_Check.f k a0_0 l0_1).bind fun t477 => (if t477 = 0 then ((tallymanref01_Number.f k (([(a0_0) % 256, 0] : List Int)) (IntKind.u64.wrap ((l0_1.length : Int)))).bind fun t481 => (tallymanref15_Sparse.l0 k t481 (-1) 0 a0_0 l0_1)) else (some (([] : List Int), 2)))
theorem tallymanref15_Sparse.mono_l : ∀ k, (∀ y0 y1 y2 y3 y4, LeO (tallymanref15_Sparse.l0 k y0 y1 y2 y3 y4) (tallymanref15_Sparse.l0 (k + 1) y0 y1 y2 y3 y4))
 | 0 => fun _ _ _ _ _ r h => by simp [tallymanref15_Sparse.l0] at h
 | k + 1 => by
  have ih0 := tallymanref15_Sparse.mono_l k
  ·
   intro y0 y1 y2 y3 y4
   unfold tallymanref15_Sparse.l0
   repeat' first
   | (with_reducible exact ih0 _ _ _ _ _)
   | (with_reducible exact tallymanref01_Number.mono _ _ _)
   | (with_reducible exact tallymanref14_Check.mono _ _ _)
   | (with_reducible exact LeO.refl _)
   | (with_reducible exact LeO.none _)
   | (with_reducible refine LeO.ite ?_ ?_)
   | (with_reducible refine LeO.bind ?_ (fun _ => ?_))
theorem tallymanref15_Sparse.mono : ∀ a0 a1 k, LeO (tallymanref15_Sparse.f k a0 a1) (tallymanref15_Sparse.f (k + 1) a0 a1) := by
 intro a0 a1 k
 have ih0 := tallymanref15_Sparse.mono_l k
 unfold tallymanref15_Sparse.f
 repeat' first
   | (with_reducible exact ih0 _ _ _ _ _)
   | (with_reducible exact tallymanref01_Number.mono _ _ _)
   | (with_reducible exact tallymanref14_Check.mono _ _ _)
   | (with_reducible exact LeO.refl _)
   | (with_reducible exact LeO.none _)
   | (with_reducible refine LeO.ite ?_ ?_)
   | (with_reducible refine LeO.bind ?_ (fun _ => ?_))
set_option maxHeartbeats 8000000 in
set_option maxRecDepth 100000 in
theorem tallymanref15_Sparse.calls (k : Nat) (a0_0 : Int) (A0_1 : Option Addr) (c0_1 : Nat) (l0_1 : List (S32)) (r1 : List Int) (r2 : Int) (w : World) (hr0_1 : Kd.C k32 w A0_1 l0_1.length l0_1) (hc0_1 : l0_1.length ≤ c0_1) (h : tallymanref15_Sparse.f k a0_0 l0_1 = some (r1, r2)) :
  Calls Try.prog 50 #[.agg #[.int .i64 a0_0, .slice A0_1 l0_1.length c0_1]] w fun e w' => ∃ v0_ : Value, e = .returned (.tuple #[v0_, .int .i64 r2]) ∧ Kd.R (Kd.int .u8) 5 w' w.heap.size (fun _ => True) v0_ r1 ∧ Below w.heap.size w w' := by
 have hu30 := Try.underlying30
 have HR0_1 := Aside0.mk hr0_1
 have HC0_1 := Aside0.mk hc0_1
 clear hr0_1 hc0_1
 have HB := am (Below.refl w.heap.size w)
 have H : ((tallymanref14_Check.f k a0_0 l0_1).bind fun t477 => (if t477 = 0 then ((tallymanref01_Number.f k (([(a0_0) % 256, 0] : List Int)) (IntKind.u64.wrap ((l0_1.length : Int)))).bind fun t481 => (tallymanref15_Sparse.l0 k t481 (-1) 0 a0_0 l0_1)) else (some (([] : List Int), 2)))) = some (r1, r2) := h
 clear h
 replace H := Option.bind_eq_some_iff.mp H
 obtain ⟨t477, A20, H⟩ := H
 try dsimp only at H
 have A2 := Aside0.mk A20
 clear A20
 by_cases c3 : t477 = 0
 ·
  rw [if_pos c3] at H
  have c3b0 : (t477 == 0) = true := beq_iff_eq.mpr c3
  have c3b1 : (t477 != 0) = false := bne_eq_false_iff_eq.mpr c3
  clear c3
  obtain ⟨y478, hy478⟩ : ∃ y_ : List Int, y_ = (([(a0_0) % 256, 0] : List Int)) := ⟨_, rfl⟩
  replace H : ((tallymanref01_Number.f k y478 (IntKind.u64.wrap ((l0_1.length : Int)))).bind fun t481 => (tallymanref15_Sparse.l0 k t481 (-1) 0 a0_0 l0_1)) = some (r1, r2) := by first | (rw [hy478]; with_reducible exact H) | (have H2_ := (Option.bind_some _ _).symm.trans H; rw [hy478]; with_reducible exact H2_) | (have H2_ := (Option.bind_some _ _).symm.trans H; with_reducible exact H2_) | with_reducible exact H | (rw [hy478]; exact H) | exact H
  have Ny478 := Aside0.mk hy478
  clear hy478
  replace H := Option.bind_eq_some_iff.mp H
  obtain ⟨t481, A40, H⟩ := H
  try dsimp only at H
  have A4 := Aside0.mk A40
  clear A40
  have H' := Aside0.mk H
  clear H
  go_enter Try.func50, Try.ntmps50
  go_wp2_with (first | ((with_reducible refine gate_dst (N := 1) rfl ?_); refine box_event ?hg (N := 1) ?hd (cs := #[.int .i64 a0_0, .slice A0_1 l0_1.length c0_1]) (t := 30) ?hr ?_; (case hd => rfl); (case hg => rfl); (case hr => go_simp; try rfl); intro gb476 hg w5 hbox hb; obtain ⟨HBn, GW476⟩ := tri hg hb (hu HB.out); have GE476 := GW476; have BK476 := am (hbox); clear HB; have HB := HBn; clear HBn; clear hb hbox hg; obtain ⟨hcz6_0, hcz6_1, hfz6_0, hfz6_1⟩ := cf BK476.out) | ((with_reducible refine gate_callee (f := 36) rfl ?_); refine goesL_ (some 8) rfl rfl Try.func36 (by kernel_rfl) rfl #[.agg #[.int .i64 a0_0, .slice A0_1 l0_1.length c0_1]] rfl (by (try simp only [List.map_toArray, List.map_cons, List.map_nil]); first | done | rfl) ?_; (with_reducible refine (tallymanref14_Check.calls k a0_0 _ _ l0_1 t477 _ ?side1 ?side2 A2.out).mono ?_); (case side1 => exact cu (Kd.C_below HR0_1.out HB.out)); (case side2 => exact HC0_1.out); rintro e w7 ⟨rfl, hb⟩; refine ⟨_, rfl, ?_⟩; replace BK476 := bb BK476 hb; replace HB := am (below_step (by repeat (with_reducible first | exact HB.out | apply bA | apply bN | apply bD | refine bS ?_ ao)) hb); (try clear hb); obtain ⟨hcz8_0, hcz8_1, hfz8_0, hfz8_1⟩ := cf BK476.out) | ((with_reducible refine gate_dst (N := 13) rfl ?_); refine Kd.R_lit (Kd.int .u8) _ 5 ?hg (N := 13) ?hd (xs := ([(a0_0) % 256, 0] : List Int)) (inner := [.int .u8 ((a0_0) % 256), .int .u8 0]) (ok := fun _ => True) (okp := fun _ => True) ?hr ?hp (fun _ hk => hk) trivial (Below.refl _ _) (Nat.le_refl _) (by simp) ?_; (case hd => rfl); (case hg => rfl); (case hr => go_simp; try rfl); (case hp => exact (Reps.one (show Kd.M (Kd.int .u8) _ _ _ ((a0_0) % 256) [.int .u8 ((a0_0) % 256)] from rfl) (Reps.one (show Kd.M (Kd.int .u8) _ _ _ 0 [.int .u8 0] from rfl) (Reps.none _ _)))); intro v479 w9 ho10 hb hg_ hnew_; clear hg_ hnew_; (first | rw [← Ny478.out] at ho10 | (simp only [Int.reduceToNat] at ho10; rw [← Ny478.out] at ho10)); have HO480 := am (Kd.R_lower ho10 (below_size (by repeat (with_reducible first | exact HB.out | apply bA | apply bN | apply bD | refine bS ?_ ao)))); replace BK476 := bb BK476 hb; replace HB := am (below_step (by repeat (with_reducible first | exact HB.out | apply bA | apply bN | apply bD | refine bS ?_ ao)) hb); clear hb ho10; obtain ⟨hcz11_0, hcz11_1, hfz11_0, hfz11_1⟩ := cf BK476.out; obtain ⟨Ao12, co12, eo12⟩ := Kd.R_slice HO480.out; subst eo12) | ((with_reducible refine gate_callee (f := 82) rfl ?_); refine goesL_ (some 18) rfl rfl Try.func82 (by kernel_rfl) rfl #[.slice Ao12 y478.length co12, .int .u64 (IntKind.u64.wrap ((l0_1.length : Int)))] rfl (by (try simp only [List.map_toArray, List.map_cons, List.map_nil]); first | done | rfl) ?_; (with_reducible refine (tallymanref01_Number.calls k _ _ y478 (IntKind.u64.wrap ((l0_1.length : Int))) t481 _ ?side1 ?side2 A4.out).mono ?_); (case side1 => repeat (first | exact (Kd.R_reads' HO480.out).2.2 | (with_reducible refine Kd.C_alloc ?_ _) | (with_reducible refine Kd.C_drewN ?_ _) | (with_reducible refine Kd.C_drew ?_))); (case side2 => exact (Kd.R_reads' HO480.out).2.1); rintro e w13 ⟨v482, rfl, ho0, hb⟩; refine ⟨_, rfl, ?_⟩; have HO483 := am (Kd.R_lower (Kd.R_new' ho0 (Kd.R_lt (ru (HO480.out)))) (below_size (by repeat (with_reducible first | exact HB.out | apply bA | apply bN | apply bD | refine bS ?_ ao)))); replace HO480 := am (Kd.R_elder' (ru (HO480.out)) (Kd.R_base ho0) hb); replace BK476 := bb BK476 hb; replace HB := am (below_step (by repeat (with_reducible first | exact HB.out | apply bA | apply bN | apply bD | refine bS ?_ ao)) hb); (try clear hb); (try clear ho0)))
  (try simp only [Act.put, List.setIfInBounds_toArray, List.set_cons_zero, List.set_cons_succ])
  go_loopg [4, 5, 6] k (fun kq v4 v5 v6 w' => ∃ (x4_1 : List Int) (x5_1 : Int) (x6_1 : Int), v5 = .int .i64 x5_1 ∧ v6 = .int .i64 x6_1 ∧ Aside0 (tallymanref15_Sparse.l0 kq x4_1 x5_1 x6_1 a0_0 l0_1 = some (r1, r2)) ∧ Aside0 (kq ≤ k) ∧ Aside0 (Kd.R (Kd.int .u8) 5 w' w.heap.size (fun _ => True) v4 x4_1) ∧ Aside0 (w'.heap[gb476]? = some (.cells #[.int .i64 a0_0, (.slice A0_1 l0_1.length c0_1)] 30 (0, 0))) ∧ Aside0 (Below w.heap.size w w'))
  case atStart => exact ⟨(t481), ((-1)), (0), (by first | rfl | (simp; done) | (simp [*]; done)), (by first | rfl | (simp; done) | (simp [*]; done)), H', ⟨Nat.le_refl _⟩, ⟨by (with_reducible repeat (first | apply Kd.R_alloc | apply Kd.R_drewN | apply Kd.R_drew)); exact Kd.R_mono HO483.out (fun _ hk => trivial)⟩, ⟨bu BK476.out⟩, ⟨by repeat (with_reducible first | exact HB.out | apply bA | apply bN | apply bD | refine bS ?_ ao)⟩⟩
  case round =>
   clear H'
   obtain ⟨x4_1, x5_1, x6_1, rfl, rfl, HA, HK1, HO_4, BK476, HB⟩ := hrel
   cases gk with
   | zero => exact absurd HA.out (by simp [tallymanref15_Sparse.l0])
   | succ k1 =>
    have H := HA.out
    clear HA
    simp only [tallymanref15_Sparse.l0] at H
    by_cases c14 : x6_1 < (l0_1.length : Int)
    ·
     rw [if_pos c14] at H
     have c14b0 : decide (x6_1 < (l0_1.length : Int)) = true := decide_eq_true c14
     clear c14
     by_cases c15 : 0 ≤ x6_1
     ·
      rw [if_pos c15] at H
      have c15b0 : decide (0 ≤ x6_1) = true := decide_eq_true c15
      clear c15
      replace H := Option.bind_eq_some_iff.mp H
      obtain ⟨t485, A160, H⟩ := H
      try dsimp only at H
      have A16 := Aside0.mk A160
      clear A160
      by_cases c17 : t485.length < 140737488355328
      ·
       rw [if_pos c17] at H
       have LMc17 := Aside0.mk c17
       clear c17
       obtain ⟨y489, hy489⟩ : ∃ y_ : List Int, y_ = (t485 ++ [((rd_T32 l0_1 x6_1).f1) % 256]) := ⟨_, rfl⟩
       replace H : (tallymanref15_Sparse.l0 k1 y489 ((rd_T32 l0_1 x6_1).f0) (wrap64 (x6_1 + 1)) a0_0 l0_1) = some (r1, r2) := by first | (rw [hy489]; with_reducible exact H) | (have H2_ := (Option.bind_some _ _).symm.trans H; rw [hy489]; with_reducible exact H2_) | (have H2_ := (Option.bind_some _ _).symm.trans H; with_reducible exact H2_) | with_reducible exact H | (rw [hy489]; exact H) | exact H
       have Ny489 := Aside0.mk hy489
       clear hy489
       have H' := Aside0.mk H
       clear H
       obtain ⟨hcz18_0, hcz18_1, hfz18_0, hfz18_1⟩ := cf BK476.out
       have p484 : 0 ≤ (x6_1 : Int) := of_decide_eq_true (by first | (with_reducible assumption) | assumption)
       have q484 : x6_1 < (l0_1.length : Int) := of_decide_eq_true (by first | (with_reducible assumption) | assumption)
       obtain ⟨ad484, e484, hx484_0, hx484_1⟩ := at_T32 HR0_1.out x6_1 p484 q484
       cases e484
       replace hx484_0 := (HB.out.cell (World.block_lt_of_cell? w _ hx484_0)).trans hx484_0
       replace hx484_1 := (HB.out.cell (World.block_lt_of_cell? w _ hx484_1)).trans hx484_1
       replace p484 := eq_true p484
       replace q484 := eq_true q484
       obtain ⟨Ao19, co19, eo19⟩ := Kd.R_slice HO_4.out
       subst eo19
       go_wp2_with (first | ((with_reducible refine gate_callee (f := 82) rfl ?_); refine goesL_ (some 37) rfl rfl Try.func82 (by kernel_rfl) rfl #[.slice Ao19 x4_1.length co19, .int .u64 (IntKind.u64.wrap (wrap64 ((wrap64 (((rd_T32 l0_1 x6_1).f0) - x5_1)) - 1)))] rfl (by (try simp only [List.map_toArray, List.map_cons, List.map_nil]); first | done | rfl) ?_; (with_reducible refine (tallymanref01_Number.calls k1 _ _ x4_1 (IntKind.u64.wrap (wrap64 ((wrap64 (((rd_T32 l0_1 x6_1).f0) - x5_1)) - 1))) t485 _ ?side1 ?side2 A16.out).mono ?_); (case side1 => repeat (first | exact (Kd.R_reads' HO_4.out).2.2 | (with_reducible refine Kd.C_alloc ?_ _) | (with_reducible refine Kd.C_drewN ?_ _) | (with_reducible refine Kd.C_drew ?_))); (case side2 => exact (Kd.R_reads' HO_4.out).2.1); rintro e w20 ⟨v486, rfl, ho0, hb⟩; refine ⟨_, rfl, ?_⟩; have HO487 := am (Kd.R_lower (Kd.R_new' ho0 (Kd.R_lt (ru (HO_4.out)))) (below_size (by repeat (with_reducible first | exact HB.out | apply bA | apply bN | apply bD | refine bS ?_ ao)))); replace HO_4 := am (Kd.R_elder' (ru (HO_4.out)) (Kd.R_base ho0) hb); replace BK476 := bb BK476 hb; replace HB := am (below_step (by repeat (with_reducible first | exact HB.out | apply bA | apply bN | apply bD | refine bS ?_ ao)) hb); (try clear hb); (try clear ho0); obtain ⟨hcz21_0, hcz21_1, hfz21_0, hfz21_1⟩ := cf BK476.out; have p488 : 0 ≤ (x6_1 : Int) := of_decide_eq_true (by first | (with_reducible assumption) | assumption); have q488 : x6_1 < (l0_1.length : Int) := of_decide_eq_true (by first | (with_reducible assumption) | assumption); obtain ⟨ad488, e488, hx488_0, hx488_1⟩ := at_T32 HR0_1.out x6_1 p488 q488; obtain rfl : ad484 = ad488 := (by injection e488); replace hx488_0 := (HB.out.cell (World.block_lt_of_cell? w _ hx488_0)).trans hx488_0; replace hx488_1 := (HB.out.cell (World.block_lt_of_cell? w _ hx488_1)).trans hx488_1; replace p488 := eq_true p488; replace q488 := eq_true q488) | ((with_reducible refine gate_builtin (b := .append) (xs := #[.tmp 38, .tmp 46]) rfl ?_); at_builtin; refine Kd.R_append (Kd.int .u8) (w0 := w) w.heap.size rfl (.tmp 38) (.tmp 46) 33 5 (.int .u8 0) 1 rfl Try.underlying33 info5 rfl (by decide) (by omega) v486 t485 (((rd_T32 l0_1 x6_1).f1) % 256) [.int .u8 (((rd_T32 l0_1 x6_1).f1) % 256)] (fun k_ => nb Ao19 x4_1.length co19 k_) (fun _ => False) rfl rfl ?aP (fun _ hk => hk.elim) ?aF ?aO ?aB ?aS ?aL ?_; (case aP => exact rfl); (case aB => exact (by repeat (with_reducible first | exact HB.out | apply bA | apply bN | apply bD | refine bS ?_ ao))); (case aF => exact (fun k_ hk => Kd.fresh' (Kd.R_lt (ru (HO_4.out))) k_ hk)); (case aO => exact (ru (Kd.R_mono HO487.out (fun _ hk => hk.2)))); (case aS => exact (below_size (by repeat (with_reducible first | exact HB.out | apply bA | apply bN | apply bD | refine bS ?_ ao)))); (case aL => have := LMc17.out; omega); intro v490 w22 ho hb hg hat; rw [← Ny489.out] at ho; have HO491 := am (ho); replace HO_4 := am (Kd.R_after (ok := (fun _ => True)) (ru (HO_4.out)) hg hat); replace BK476 := am (blk_grown (g := gb476) (o := .cells #[.int .i64 a0_0, .slice (some ad484) l0_1.length c0_1] 30 (0, 0)) (bu BK476.out) hg (Kd.R_ne HO487.out BK476.out (by decide))); replace HB := am (hb); clear HO487; clear ho hb hg hat; obtain ⟨hcz23_0, hcz23_1, hfz23_0, hfz23_1⟩ := cf BK476.out; have p492 : 0 ≤ (x6_1 : Int) := of_decide_eq_true (by first | (with_reducible assumption) | assumption); have q492 : x6_1 < (l0_1.length : Int) := of_decide_eq_true (by first | (with_reducible assumption) | assumption); obtain ⟨ad492, e492, hx492_0, hx492_1⟩ := at_T32 HR0_1.out x6_1 p492 q492; obtain rfl : ad484 = ad492 := (by injection e492); replace hx492_0 := (HB.out.cell (World.block_lt_of_cell? w _ hx492_0)).trans hx492_0; replace hx492_1 := (HB.out.cell (World.block_lt_of_cell? w _ hx492_1)).trans hx492_1; replace p492 := eq_true p492; replace q492 := eq_true q492))
       go_roundg k1
       case measure => have := HK1.out; omega
       case rel => exact ⟨(y489), ((rd_T32 l0_1 x6_1).f0), (wrap64 (x6_1 + 1)), (by first | rfl | (simp; done) | (simp [*]; done)), (by first | rfl | (simp; done) | (simp [*]; done)), H', ⟨by have := HK1.out; omega⟩, ⟨by (with_reducible repeat (first | apply Kd.R_alloc | apply Kd.R_drewN | apply Kd.R_drew)); exact Kd.R_mono HO491.out (fun _ hk => trivial)⟩, ⟨bu BK476.out⟩, ⟨by repeat (with_reducible first | exact HB.out | apply bA | apply bN | apply bD | refine bS ?_ ao)⟩⟩
      ·
       rw [if_neg c17] at H
       exact absurd H (by simp)
     ·
      rw [if_neg c15] at H
      exact absurd H (by simp)
    ·
     rw [if_neg c14] at H
     have c14b0 : decide (x6_1 < (l0_1.length : Int)) = false := decide_eq_false c14
     clear c14
     simp only [Option.some.injEq, Prod.mk.injEq] at H
     obtain ⟨rfl, rfl⟩ := H
     obtain ⟨hcz24_0, hcz24_1, hfz24_0, hfz24_1⟩ := cf BK476.out
     go_wp2
     go_ret2
     exact ⟨_, by first | rfl | (simp [errW_none, errW_some] <;> rfl) | (simp [*, errW_none, errW_some] <;> rfl), by (with_reducible repeat (first | apply Kd.R_alloc | apply Kd.R_drewN | apply Kd.R_drew)); exact HO_4.out, by repeat (with_reducible first | exact HB.out | apply bA | apply bN | apply bD | refine bS ?_ ao)⟩
 ·
  rw [if_neg c3] at H
  have c3b0 : (t477 == 0) = false := beq_eq_false_iff_ne.mpr c3
  have c3b1 : (t477 != 0) = true := bne_iff_ne.mpr c3
  simp only [Option.some.injEq, Prod.mk.injEq] at H
  obtain ⟨rfl, rfl⟩ := H
  go_enter Try.func50, Try.ntmps50
  go_wp2_with (first | ((with_reducible refine gate_dst (N := 1) rfl ?_); refine box_event ?hg (N := 1) ?hd (cs := #[.int .i64 a0_0, .slice A0_1 l0_1.length c0_1]) (t := 30) ?hr ?_; (case hd => rfl); (case hg => rfl); (case hr => go_simp; try rfl); intro gb476 hg w25 hbox hb; obtain ⟨HBn, GW476⟩ := tri hg hb (hu HB.out); have GE476 := GW476; have BK476 := am (hbox); clear HB; have HB := HBn; clear HBn; clear hb hbox hg; obtain ⟨hcz26_0, hcz26_1, hfz26_0, hfz26_1⟩ := cf BK476.out) | ((with_reducible refine gate_callee (f := 36) rfl ?_); refine goesL_ (some 8) rfl rfl Try.func36 (by kernel_rfl) rfl #[.agg #[.int .i64 a0_0, .slice A0_1 l0_1.length c0_1]] rfl (by (try simp only [List.map_toArray, List.map_cons, List.map_nil]); first | done | rfl) ?_; (with_reducible refine (tallymanref14_Check.calls k a0_0 _ _ l0_1 t477 _ ?side1 ?side2 A2.out).mono ?_); (case side1 => exact cu (Kd.C_below HR0_1.out HB.out)); (case side2 => exact HC0_1.out); rintro e w27 ⟨rfl, hb⟩; refine ⟨_, rfl, ?_⟩; replace BK476 := bb BK476 hb; replace HB := am (below_step (by repeat (with_reducible first | exact HB.out | apply bA | apply bN | apply bD | refine bS ?_ ao)) hb); (try clear hb)))
  go_ret2
  exact ⟨_, by first | rfl | (simp [errW_none, errW_some] <;> rfl) | (simp [*, errW_none, errW_some] <;> rfl), by first | exact Kd.R_nil _ _ _ _ _ | exact Kd.V_nil _ _ _ _ _, by repeat (with_reducible first | exact HB.out | apply bA | apply bN | apply bD | refine bS ?_ ao)⟩

end Go.Proofs.Ytbclnjinpcfpjaa.H
