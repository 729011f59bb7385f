-- Made by this session's own call of the printer (functions that are proved by hand are taken from a text beside it).
import Derived.Test.YtbclnjinpcfpjaaH0
import Derived.Test.YtbclnjinpcfpjaaH3
import Derived.Test.YtbclnjinpcfpjaaH4
import Derived.Test.YtbclnjinpcfpjaaH5
namespace Go.Proofs.Ytbclnjinpcfpjaa.H
open Go.RowKit Go.Proofs.YtbclnjinpcfpjaaW.PrintWords Go.Proofs.YtbclnjinpcfpjaaW.PrintLast Go.Proofs.YtbclnjinpcfpjaaW.PrintMore
attribute [local go_sem] max2_int min2_int max_two min_two max_three min_three max_four min_four   -- for this text's walks alone
set_option linter.unusedVariables false
set_option linter.unusedSimpArgs false

/-! ### tallymanlaw15_DenseShort: function 4 -/
mutual
def tallymanlaw15_DenseShort.l0 : Nat → Int → Int → Int → Int → Int → List (S32) → Option (Bool)
  | 0, _, _, _, _, _, _ => none
  | k + 1, x0, x1, x2, x8, x211000, x211001 => if x8 < x1 then ((tallymankit_Pick.f x2 (wrap64 (65 - x0))).bind fun t211 => (if x211001.length < 8796093022208 then (tallymanlaw15_DenseShort.l0 k x0 x1 x2 (wrap64 (x8 + 1)) x211000 (x211001 ++ [(⟨x8, wrap64 (1 + t211)⟩ : S32)])) else (none))) else ((dense_Sparse.f k x211000 x211001).bind fun bt215 => ((dense_Dense.f k x211000 x211001).bind fun bt219 => ((dense_Bytes.f k x211000 x211001).bind fun bt223 => (if bt215.2 = 0 then (if bt219.2 = 0 then (tallymanlaw15_DenseShort.j1 k x0 x1 bt215.1 bt219.1 bt223.1 (bt223.2 != 0)) else (tallymanlaw15_DenseShort.j1 k x0 x1 bt215.1 bt219.1 bt223.1 true)) else (tallymanlaw15_DenseShort.j1 k x0 x1 bt215.1 bt219.1 bt223.1 true)))))
def tallymanlaw15_DenseShort.j1 : Nat → Int → Int → List Int → List Int → List Int → Bool → Option (Bool)
  | 0, _, _, _, _, _, _ => none
  | k + 1, x0, x1, x9, x11, x13, x71 => if x71 = true then (none) else (if x1 ≥ 128 then (if (x9.length : Int) < (x11.length : Int) then (if (x9.length : Int) = (wrap64 ((wrap64 (3 + (wrap64 (2 * x1)))) + 1)) then (if 0 ≤ (IntKind.u64.wrap (x0)) then (if (x11.length : Int) = (wrap64 (2 + (wrap64 (Int.tdiv (shl .i64 3 (IntKind.u64.wrap (x0))) 4)))) then (if (strOfNums x13).toList = (strOfNums x9).toList then (if 0 < (x13.length : Int) then (if (rd x13 0) = ((x0) % 256) then (if 1 < (x13.length : Int) then (some (((rd x13 1) == 0) == (decide ((x9.length : Int) < (x11.length : Int))))) else (none)) else (none)) else (none)) else (none)) else (none)) else (none)) else (none)) else (if (x9.length : Int) = (wrap64 ((wrap64 (3 + (wrap64 (2 * x1)))) + 1)) then (if 0 ≤ (IntKind.u64.wrap (x0)) then (if (x11.length : Int) = (wrap64 (2 + (wrap64 (Int.tdiv (shl .i64 3 (IntKind.u64.wrap (x0))) 4)))) then (if (strOfNums x13).toList = (strOfNums x11).toList then (if 0 < (x13.length : Int) then (if (rd x13 0) = ((x0) % 256) then (if 1 < (x13.length : Int) then (some (((rd x13 1) == 0) == (decide ((x9.length : Int) < (x11.length : Int))))) else (none)) else (none)) else (none)) else (none)) else (none)) else (none)) else (none))) else (if (x9.length : Int) < (x11.length : Int) then (if (x9.length : Int) = (wrap64 (3 + (wrap64 (2 * x1)))) then (if 0 ≤ (IntKind.u64.wrap (x0)) then (if (x11.length : Int) = (wrap64 (2 + (wrap64 (Int.tdiv (shl .i64 3 (IntKind.u64.wrap (x0))) 4)))) then (if (strOfNums x13).toList = (strOfNums x9).toList then (if 0 < (x13.length : Int) then (if (rd x13 0) = ((x0) % 256) then (if 1 < (x13.length : Int) then (some (((rd x13 1) == 0) == (decide ((x9.length : Int) < (x11.length : Int))))) else (none)) else (none)) else (none)) else (none)) else (none)) else (none)) else (none)) else (if (x9.length : Int) = (wrap64 (3 + (wrap64 (2 * x1)))) then (if 0 ≤ (IntKind.u64.wrap (x0)) then (if (x11.length : Int) = (wrap64 (2 + (wrap64 (Int.tdiv (shl .i64 3 (IntKind.u64.wrap (x0))) 4)))) then (if (strOfNums x13).toList = (strOfNums x11).toList then (if 0 < (x13.length : Int) then (if (rd x13 0) = ((x0) % 256) then (if 1 < (x13.length : Int) then (some (((rd x13 1) == 0) == (decide ((x9.length : Int) < (x11.length : Int))))) else (none)) else (none)) else (none)) else (none)) else (none)) else (none)) else (none))))
end
def tallymanlaw15_DenseShort.f (k : Nat) (a0 : Int) (a1 : Int) (a2 : Int) : Option (Bool) := (tallymanlaw15_lives.f k).bind fun t207 => (if t207 = true then ((tallymankit_Pick.f a0 6).bind fun t208 => (if 0 ≤ (IntKind.u64.wrap (wrap64 (4 + t208))) then ((tallymankit_Pick.f a1 (wrap64 ((shl .i64 1 (IntKind.u64.wrap (wrap64 (4 + t208)))) + 1))).bind fun t209 => (tallymanlaw15_DenseShort.l0 k (wrap64 (4 + t208)) t209 a2 0 (wrap64 (4 + t208)) ([] : List (S32)))) else (none))) else (none))
theorem tallymanlaw15_DenseShort.mono_l : ∀ k, (∀ y0 y1 y2 y3 y4 y5, LeO (tallymanlaw15_DenseShort.l0 k y0 y1 y2 y3 y4 y5) (tallymanlaw15_DenseShort.l0 (k + 1) y0 y1 y2 y3 y4 y5)) ∧ (∀ y0 y1 y2 y3 y4 y5, LeO (tallymanlaw15_DenseShort.j1 k y0 y1 y2 y3 y4 y5) (tallymanlaw15_DenseShort.j1 (k + 1) y0 y1 y2 y3 y4 y5))
  | 0 => ⟨fun _ _ _ _ _ _ r h => by simp [tallymanlaw15_DenseShort.l0] at h, fun _ _ _ _ _ _ r h => by simp [tallymanlaw15_DenseShort.j1] at h⟩
  | k + 1 => by
    obtain ⟨ih0, ih1⟩ := tallymanlaw15_DenseShort.mono_l k
    refine ⟨?_, ?_⟩
    · intro y0 y1 y2 y3 y4 y5
      unfold tallymanlaw15_DenseShort.l0
      repeat' first
      | (with_reducible exact ih0 _ _ _ _ _ _)
      | (with_reducible exact ih1 _ _ _ _ _ _)
      | (with_reducible exact dense_Bytes.mono _ _ _)
      | (with_reducible exact dense_Dense.mono _ _ _)
      | (with_reducible exact dense_Sparse.mono _ _ _)
      | (with_reducible exact tallymanlaw15_lives.mono _)
      | (with_reducible exact LeO.refl _)
      | (with_reducible exact LeO.none _)
      | (with_reducible refine LeO.ite ?_ ?_)
      | (with_reducible refine LeO.bind ?_ (fun _ => ?_))
      | exact ih0 _ _ _ _ _ _
      | exact ih1 _ _ _ _ _ _
      | exact dense_Bytes.mono _ _ _
      | exact dense_Dense.mono _ _ _
      | exact dense_Sparse.mono _ _ _
      | exact tallymanlaw15_lives.mono _
      | exact LeO.none _
      | refine LeO.ite ?_ ?_
      | refine LeO.bind ?_ (fun _ => ?_)
    · intro y0 y1 y2 y3 y4 y5
      unfold tallymanlaw15_DenseShort.j1
      repeat' first
      | (with_reducible exact ih0 _ _ _ _ _ _)
      | (with_reducible exact ih1 _ _ _ _ _ _)
      | (with_reducible exact dense_Bytes.mono _ _ _)
      | (with_reducible exact dense_Dense.mono _ _ _)
      | (with_reducible exact dense_Sparse.mono _ _ _)
      | (with_reducible exact tallymanlaw15_lives.mono _)
      | (with_reducible exact LeO.refl _)
      | (with_reducible exact LeO.none _)
      | (with_reducible refine LeO.ite ?_ ?_)
      | (with_reducible refine LeO.bind ?_ (fun _ => ?_))
      | exact ih0 _ _ _ _ _ _
      | exact ih1 _ _ _ _ _ _
      | exact dense_Bytes.mono _ _ _
      | exact dense_Dense.mono _ _ _
      | exact dense_Sparse.mono _ _ _
      | exact tallymanlaw15_lives.mono _
      | exact LeO.none _
      | refine LeO.ite ?_ ?_
      | refine LeO.bind ?_ (fun _ => ?_)
theorem tallymanlaw15_DenseShort.mono : ∀ a0 a1 a2 k, LeO (tallymanlaw15_DenseShort.f k a0 a1 a2) (tallymanlaw15_DenseShort.f (k + 1) a0 a1 a2) := by
  intro a0 a1 a2 k
  obtain ⟨ih0, ih1⟩ := tallymanlaw15_DenseShort.mono_l k
  unfold tallymanlaw15_DenseShort.f
  repeat' first
      | (with_reducible exact ih0 _ _ _ _ _ _)
      | (with_reducible exact ih1 _ _ _ _ _ _)
      | (with_reducible exact dense_Bytes.mono _ _ _)
      | (with_reducible exact dense_Dense.mono _ _ _)
      | (with_reducible exact dense_Sparse.mono _ _ _)
      | (with_reducible exact tallymanlaw15_lives.mono _)
      | (with_reducible exact LeO.refl _)
      | (with_reducible exact LeO.none _)
      | (with_reducible refine LeO.ite ?_ ?_)
      | (with_reducible refine LeO.bind ?_ (fun _ => ?_))
      | exact ih0 _ _ _ _ _ _
      | exact ih1 _ _ _ _ _ _
      | exact dense_Bytes.mono _ _ _
      | exact dense_Dense.mono _ _ _
      | exact dense_Sparse.mono _ _ _
      | exact tallymanlaw15_lives.mono _
      | exact LeO.none _
      | refine LeO.ite ?_ ?_
      | refine LeO.bind ?_ (fun _ => ?_)
def tallymanlaw15_DenseShort.T9 : Bool × List (List Nat × List Nat) := (true, [([], []), ([0], [0]), ([], []), ([], []), ([], []), ([4], [4]), ([3, 5], [3, 5]), ([6], [6]), ([2, 7], [2, 7]), ([8], [8]), ([1, 9, 6], [1, 9]), ([0, 1, 2, 3, 4, 5, 6, 7, 8, 9, 10], []), ([11, 10, 10, 0, 1, 2, 3, 4, 5, 6, 7, 8, 9, 10], [10, 11])])
def tallymanlaw15_DenseShort.B9 : List Nat := [0, 1, 0, 0, 0, 16, 56, 120, 252, 508, 1023, 2047, 4095]
theorem tallymanlaw15_DenseShort.tab9 : rtab .any (opsOf Try.f4 9) = tallymanlaw15_DenseShort.T9 := by kernel_rfl
theorem tallymanlaw15_DenseShort.bits9 : waitsOk tallymanlaw15_DenseShort.T9.2 tallymanlaw15_DenseShort.B9 = true := by kernel_rfl
set_option maxHeartbeats 8000000 in
set_option maxRecDepth 100000 in
theorem tallymanlaw15_DenseShort.calls (k : Nat) (a0 : Int) (a1 : Int) (a2 : Int) (r : Bool) (w : World) (h : tallymanlaw15_DenseShort.f k a0 a1 a2 = some r) :
    Calls Try.prog 4 #[.int .i64 a0, .int .i64 a1, .int .i64 a2] w fun e w' => e = .returned (.bool r) ∧ Below w.heap.size w w' := by
  have hu30 := Try.underlying30
  have hu32 := Try.underlying32
  have HB := Aside0.mk (Below.refl w.heap.size w)
  have H : ((tallymanlaw15_lives.f k).bind fun t207 => (if t207 = true then ((tallymankit_Pick.f a0 6).bind fun t208 => (if 0 ≤ (IntKind.u64.wrap (wrap64 (4 + t208))) then ((tallymankit_Pick.f a1 (wrap64 ((shl .i64 1 (IntKind.u64.wrap (wrap64 (4 + t208)))) + 1))).bind fun t209 => (tallymanlaw15_DenseShort.l0 k (wrap64 (4 + t208)) t209 a2 0 (wrap64 (4 + t208)) ([] : List (S32)))) else (none))) else (none))) = some r := h
  clear h
  replace H := Option.bind_eq_some_iff.mp H
  obtain ⟨t207, A40, H⟩ := H
  replace H : (if t207 = true then ((tallymankit_Pick.f a0 6).bind fun t208 => (if 0 ≤ (IntKind.u64.wrap (wrap64 (4 + t208))) then ((tallymankit_Pick.f a1 (wrap64 ((shl .i64 1 (IntKind.u64.wrap (wrap64 (4 + t208)))) + 1))).bind fun t209 => (tallymanlaw15_DenseShort.l0 k (wrap64 (4 + t208)) t209 a2 0 (wrap64 (4 + t208)) ([] : List (S32)))) else (none))) else (none)) = some r := H
  have A4 := Aside0.mk A40
  clear A40
  by_cases c5 : t207 = true
  · subst c5
    have H1 : ((tallymankit_Pick.f a0 6).bind fun t208 => (if 0 ≤ (IntKind.u64.wrap (wrap64 (4 + t208))) then ((tallymankit_Pick.f a1 (wrap64 ((shl .i64 1 (IntKind.u64.wrap (wrap64 (4 + t208)))) + 1))).bind fun t209 => (tallymanlaw15_DenseShort.l0 k (wrap64 (4 + t208)) t209 a2 0 (wrap64 (4 + t208)) ([] : List (S32)))) else (none))) = some r := by rw [if_pos rfl] at H; exact H
    clear H
    have H := H1
    clear H1
    replace H := Option.bind_eq_some_iff.mp H
    obtain ⟨t208, A60, H⟩ := H
    replace H : (if 0 ≤ (IntKind.u64.wrap (wrap64 (4 + t208))) then ((tallymankit_Pick.f a1 (wrap64 ((shl .i64 1 (IntKind.u64.wrap (wrap64 (4 + t208)))) + 1))).bind fun t209 => (tallymanlaw15_DenseShort.l0 k (wrap64 (4 + t208)) t209 a2 0 (wrap64 (4 + t208)) ([] : List (S32)))) else (none)) = some r := H
    have A6 := Aside0.mk A60
    clear A60
    obtain ⟨ji7, hji7⟩ : ∃ j_ : Int, (IntKind.u64.wrap (wrap64 (4 + t208))) = j_ := ⟨_, rfl⟩
    replace H : (if 0 ≤ (ji7) then ((tallymankit_Pick.f a1 (wrap64 ((shl .i64 1 (ji7)) + 1))).bind fun t209 => (tallymanlaw15_DenseShort.l0 k (wrap64 (4 + t208)) t209 a2 0 (wrap64 (4 + t208)) ([] : List (S32)))) else (none)) = some r := by first | (rw [hji7] at H; exact H) | (simp only [hji7] at H ⊢; exact H)
    (try rw [hji7] at A4)
    (try rw [hji7] at A6)
    by_cases c8 : 0 ≤ (ji7)
    · rw [if_pos c8] at H
      have c8b0 := eq_true c8
      have c8b1 : decide (0 ≤ (ji7)) = true := decide_eq_true c8
      clear c8
      obtain ⟨ji9, hji9⟩ : ∃ j_ : Int, (shl .i64 1 (ji7)) = j_ := ⟨_, rfl⟩
      replace H : ((tallymankit_Pick.f a1 (wrap64 ((ji9) + 1))).bind fun t209 => (tallymanlaw15_DenseShort.l0 k (wrap64 (4 + t208)) t209 a2 0 (wrap64 (4 + t208)) ([] : List (S32)))) = some r := by first | (rw [hji9] at H; exact H) | (simp only [hji9] at H ⊢; exact H)
      (try rw [hji9] at A4)
      (try rw [hji9] at A6)
      have hji9_ : (IntKind.i64.wrap (1 * 2 ^ min (ji7).toNat 64)) = ji9 := hji9
      have hji9z : (ji7) ≤ 64 → (IntKind.i64.wrap (1 * 2 ^ (ji7).toNat)) = ji9 := shl_small hji9
      have hji9u : (IntKind.i64.wrap (2 ^ min (ji7).toNat 64)) = ji9 := by have h_ := hji9_; rw [Int.one_mul] at h_; exact h_
      have hji9v : (ji7) ≤ 64 → (IntKind.i64.wrap (2 ^ (ji7).toNat)) = ji9 := fun hle_ => by have h_ := hji9z hle_; rw [Int.one_mul] at h_; exact h_
      have hji9y : (wrap64 (1 * 2 ^ min (ji7).toNat 64)) = ji9 := (i64_w _).symm.trans hji9_
      have hji9x : (ji7) ≤ 64 → (wrap64 (1 * 2 ^ (ji7).toNat)) = ji9 := fun h_ => (i64_w _).symm.trans (hji9z h_)
      replace H := Option.bind_eq_some_iff.mp H
      obtain ⟨t209, A100, H⟩ := H
      replace H : (tallymanlaw15_DenseShort.l0 k (wrap64 (4 + t208)) t209 a2 0 (wrap64 (4 + t208)) ([] : List (S32))) = some r := H
      have A10 := Aside0.mk A100
      clear A100
      have H' := Aside0.mk H
      clear H
      go_enter Try.func4, Try.ntmps4
      go_wp2_with (first | ((with_reducible refine gate_callee (f := 15) rfl ?_); refine goesL_ (some 17) rfl rfl Try.func15 (by kernel_rfl) rfl #[] rfl (by (try simp only [List.map_toArray, List.map_cons, List.map_nil]); first | done | rfl | (simp only [List.length_drop, List.length_take]; rfl)) ?_; (with_reducible refine (tallymanlaw15_lives.calls k  true _ A4.out).mono ?_); rintro e w11 ⟨rfl, hb⟩; refine ⟨_, rfl, ?_⟩; have n0_ := Aside0.mk (below_step (by repeat (first | (with_reducible first | exact HB.out | apply below_alloc | apply pw_below_drewN | apply below_drew1) | exact HB.out)) hb); clear HB; have HB := n0_; clear n0_; (try clear hb); (try clear hb2); (try clear hk); (try clear hi)) | ((with_reducible refine gate_callee (f := 17) rfl ?_); refine goesL_ (some 20) rfl rfl Try.func17 (by kernel_rfl) rfl #[.int .i64 a0, .int .i64 6] rfl (by (try simp only [List.map_toArray, List.map_cons, List.map_nil]); first | done | rfl | (simp only [List.length_drop, List.length_take]; rfl)) ?_; (with_reducible refine (tallymankit_Pick.calls a0 6 t208 _ A6.out).mono ?_); rintro e w' ⟨rfl, ⟨nd, rfl⟩⟩; refine ⟨_, rfl, ?_⟩; (try (rw [drewN_self w11]; generalize hq_ : World.drewN w11 _ = w11; have n0_ : Aside0 (Below w.heap.size w w11) := ⟨by rw [← hq_]; exact (by repeat (first | (with_reducible first | exact HB.out | apply below_alloc | apply pw_below_drewN | apply below_drew1) | exact HB.out))⟩; clear HB hq_; have HB := n0_; clear n0_))) | ((with_reducible refine gate_callee (f := 17) rfl ?_); refine goesL_ (some 27) rfl rfl Try.func17 (by kernel_rfl) rfl #[.int .i64 a1, .int .i64 (wrap64 ((ji9) + 1))] rfl (by (try simp only [List.map_toArray, List.map_cons, List.map_nil]); first | done | (simp only [hji9]; rfl) | rfl | (simp only [List.length_drop, List.length_take]; rfl)) ?_; (with_reducible refine (tallymankit_Pick.calls a1 (wrap64 ((ji9) + 1)) t209 _ A10.out).mono ?_); rintro e w' ⟨rfl, ⟨nd, rfl⟩⟩; refine ⟨_, rfl, ?_⟩; (try (rw [drewN_self w11]; generalize hq_ : World.drewN w11 _ = w11; have n0_ : Aside0 (Below w.heap.size w w11) := ⟨by rw [← hq_]; exact (by repeat (first | (with_reducible first | exact HB.out | apply below_alloc | apply pw_below_drewN | apply below_drew1) | exact HB.out))⟩; clear HB hq_; have HB := n0_; clear n0_))) | ((with_reducible refine gate_dst (N := 7) rfl ?_); (try (refine gate_guard (by rfl) ?_; dsimp only)); refine box_event ?hg (N := 7) ?hd (cs := #[.int .i64 0, .slice none 0 0]) (t := 30) ?hr ?_; (case hd => rfl); (case hg => rfl); (case hr => first | (go_simp; done) | (go_simp; rfl)); intro gb210 hg w12 hbox hb; have n0_ := Aside0.mk (below_step (by repeat (first | (with_reducible first | exact HB.out | apply below_alloc | apply pw_below_drewN | apply below_drew1) | exact HB.out)) hb); have n1_ := Aside0.mk (hbox); have n2_ := Aside0.mk ((by rw [hg]; exact (below_size (by repeat (first | (with_reducible first | exact HB.out | apply below_alloc | apply pw_below_drewN | apply below_drew1) | exact HB.out))) : w.heap.size ≤ gb210)); have n3_ := Aside0.mk ((by rw [hg]; exact (below_size (by repeat (first | (with_reducible first | exact HB.out | apply below_alloc | apply pw_below_drewN | apply below_drew1) | exact HB.out))) : w.heap.size ≤ gb210)); clear HB; have HB := n0_; have BK210 := n1_; have GW210 := n2_; have GE210 := n3_; clear n0_ n1_ n2_ n3_; clear hb hbox hg; have hcz13_0 : w12.cell? ⟨gb210, 0, none⟩ = some (.int .i64 0) := (blk_cell BK210.out 0).trans rfl; have hcz13_1 : w12.cell? ⟨gb210, 1, none⟩ = some (.slice none 0 0) := (blk_cell BK210.out 1).trans rfl; have hfz13_0 := blk_frozen BK210.out 0; have hfz13_1 := blk_frozen BK210.out 1))
      go_loopg [8] k (fun kq v8 w' => ∃ (x8_1 : Int) (x211001_1 : List (S32)) (u211001 : Value), v8 = .int .i64 x8_1 ∧ Aside0 (tallymanlaw15_DenseShort.l0 kq (wrap64 (4 + t208)) t209 a2 x8_1 (wrap64 (4 + t208)) x211001_1 = some r) ∧ Aside0 (kq ≤ k) ∧ Aside0 (Kd.R k32 32 w' w.heap.size (fun _ => True) u211001 x211001_1) ∧ Aside0 (w'.heap[gb210]? = some (.cells #[.int .i64 (wrap64 (4 + t208)), u211001] 30 (0, 0))) ∧ Aside0 (Below w.heap.size w w'))
      case atStart => exact ⟨(0), (([] : List (S32))), (.slice none 0 0), (by first | rfl | (simp; done) | (simp [*]; done)), H', ⟨Nat.le_refl _⟩, ⟨by first | exact Kd.R_nil _ _ _ _ _ | exact Kd.N_nil _ _ _ _ _ | exact Kd.V_nil _ _ _ _ _ | exact Kd.Q_nil _ _ _ _ _ | exact Kd.S_nil _ _ _ _ _⟩, ⟨by (with_reducible repeat (first | refine blk_drewN ?_ _ | refine blk_drew ?_ | refine blk_alloc ?_ _)); refine blk_put (cs := #[.int .i64 (wrap64 (4 + t208)), .slice none 0 0]) ?_ 1 _ rfl; (with_reducible repeat (first | refine blk_drewN ?_ _ | refine blk_drew ?_ | refine blk_alloc ?_ _)); refine blk_put (cs := #[.int .i64 0, .slice none 0 0]) ?_ 0 _ rfl; (with_reducible repeat (first | refine blk_drewN ?_ _ | refine blk_drew ?_ | refine blk_alloc ?_ _)); exact BK210.out⟩, ⟨by repeat (first | (with_reducible first | exact HB.out | apply below_alloc | apply pw_below_drewN | apply below_drew1 | refine below_set ?_ GE210.out) | exact HB.out)⟩⟩
      case round =>
        clear H'
        try clear c1
        try clear p2
        try clear c4
        try clear c5
        try clear p6
        try clear c8
        try clear c8b0
        try clear c8b1
        try clear hcz13_0
        try clear hcz13_1
        try clear hfz13_0
        try clear hfz13_1
        obtain ⟨x8_1, x211001_1, u211001, rfl, HA, HK1, HO_211001, BK210, HB⟩ := hrel
        cases gk with
        | zero => exact absurd HA.out (by simp [tallymanlaw15_DenseShort.l0])
        | succ k1 =>
          have H := HA.out
          clear HA
          simp only [tallymanlaw15_DenseShort.l0] at H
          by_cases c14 : x8_1 < t209
          · rw [if_pos c14] at H
            have c14b0 : decide (x8_1 < t209) = true := decide_eq_true c14
            clear c14
            replace H := Option.bind_eq_some_iff.mp H
            obtain ⟨t211, A150, H⟩ := H
            replace H : (if x211001_1.length < 8796093022208 then (tallymanlaw15_DenseShort.l0 k1 (wrap64 (4 + t208)) t209 a2 (wrap64 (x8_1 + 1)) (wrap64 (4 + t208)) (x211001_1 ++ [(⟨x8_1, wrap64 (1 + t211)⟩ : S32)])) else (none)) = some r := H
            have A15 := Aside0.mk A150
            clear A150
            by_cases c16 : x211001_1.length < 8796093022208
            · rw [if_pos c16] at H
              have LMc16 := Aside0.mk c16
              clear c16
              obtain ⟨y212, hy212⟩ : ∃ y_ : List (S32), y_ = (x211001_1 ++ [(⟨x8_1, wrap64 (1 + t211)⟩ : S32)]) := ⟨_, rfl⟩
              replace H : (tallymanlaw15_DenseShort.l0 k1 (wrap64 (4 + t208)) t209 a2 (wrap64 (x8_1 + 1)) (wrap64 (4 + t208)) y212) = some r := by first | (rw [hy212]; with_reducible exact H) | (have H2_ := (Option.bind_some _ _).symm.trans H; rw [hy212]; with_reducible exact H2_) | (have H2_ := (Option.bind_some _ _).symm.trans H; with_reducible exact H2_) | with_reducible exact H | (rw [hy212]; exact H) | exact H
              have Ny212 := Aside0.mk hy212
              clear hy212
              have H' := Aside0.mk H
              clear H
              try go_wp2
              have n0_ := Aside0.mk (Kd.R_drew HO_211001.out)
              have n1_ := Aside0.mk (blk_drew BK210.out)
              have n2_ := Aside0.mk (below_drew1 HB.out)
              clear HO_211001
              clear BK210
              clear HB
              have HO_211001 := n0_
              have BK210 := n1_
              have HB := n2_
              clear n0_ n1_ n2_
              refine start_ (n := 13) (S := fun w' => w'.cell? ⟨gb210, 0, none⟩ = some (.int .i64 (wrap64 (4 + t208))) ∧ w'.cell? ⟨gb210, 1, none⟩ = some (u211001)) (ds := [12]) #[false, false, false, false, false, false, false, false, false, false, false, false, false] (by kernel_rfl) rfl rfl ⟨(blk_cell BK210.out 0).trans rfl, (blk_cell BK210.out 1).trans rfl⟩ (fun hHeld => ?_); refine with_tabW tallymanlaw15_DenseShort.tab9 tallymanlaw15_DenseShort.bits9 (fun HT_ HW_ => ?_)
              generalize wr.drew = w17 at HO_211001 BK210 HB hHeld ⊢
              refine pure_ (i := 0) (N := some 35) (v := ?_) (a' := ?_) #[true, false, false, false, false, false, false, false, false, false, false, false, false] rfl rfl (any_of HT_.out (by kernel_rfl)) (fun _ _ _ h => h) (Or.inl ⟨by rfl, ?_⟩) ?_ ?_
              rotate_left
              · intro w'
                go_simp
                with_reducible rfl
              rotate_left
              · simp only [Act.put, List.setIfInBounds_toArray, List.set_cons_zero, List.set_cons_succ, i64_w, i32_w]
                rfl
              refine pure_ (i := 2) (N := some 37) (v := ?_) (a' := ?_) #[true, false, true, false, false, false, false, false, false, false, false, false, false] rfl rfl (any_of HT_.out (by kernel_rfl)) (fun _ _ _ h => h) (Or.inl ⟨by rfl, ?_⟩) ?_ ?_
              rotate_left
              · intro w'
                go_simp
                with_reducible rfl
              rotate_left
              · simp only [Act.put, List.setIfInBounds_toArray, List.set_cons_zero, List.set_cons_succ, i64_w, i32_w]
                rfl
              refine pure_ (i := 3) (N := some 38) (v := ?_) (a' := ?_) #[true, false, true, true, false, false, false, false, false, false, false, false, false] rfl rfl (any_of HT_.out (by kernel_rfl)) (fun _ _ _ h => h) (Or.inl ⟨by rfl, ?_⟩) ?_ ?_
              rotate_left
              · intro w'
                go_simp
                with_reducible rfl
              rotate_left
              · simp only [Act.put, List.setIfInBounds_toArray, List.set_cons_zero, List.set_cons_succ, i64_w, i32_w]
                rfl
              refine pure_ (i := 4) (N := some 39) (v := ?_) (a' := ?_) #[true, false, true, true, true, false, false, false, false, false, false, false, false] rfl rfl (any_of HT_.out (by kernel_rfl)) (fun _ _ _ h => h) (Or.inl ⟨by rfl, ?_⟩) ?_ ?_
              rotate_left
              · intro w'
                go_simp
                with_reducible rfl
              rotate_left
              · simp only [Act.put, List.setIfInBounds_toArray, List.set_cons_zero, List.set_cons_succ, i64_w, i32_w]
                rfl
              refine pure_ (i := 5) (N := some 40) (v := ?_) (a' := ?_) #[true, false, true, true, true, true, false, false, false, false, false, false, false] rfl rfl (any_of HT_.out (by kernel_rfl)) (fun _ _ _ h => h) (Or.inl ⟨by rfl, ?_⟩) ?_ ?_
              rotate_left
              · intro w'
                go_simp
                with_reducible rfl
              rotate_left
              · simp only [Act.put, List.setIfInBounds_toArray, List.set_cons_zero, List.set_cons_succ, i64_w, i32_w]
                rfl
              refine take_ (i := 1) (N := some 36) (v := ?_) (a' := ?_) #[true, true, true, true, true, true, false, false, false, false, false, false, false] rfl rfl (take_ofW HT_.out HW_.out (by kernel_rfl)) (fun _ _ _ h => h) (Or.inl ⟨by rfl, ?_⟩) hHeld ?_ ?_
              rotate_left
              · rintro w' ⟨s0, s1⟩
                go_simp
                with_reducible rfl
              rotate_left
              · simp only [Act.put, List.setIfInBounds_toArray, List.set_cons_zero, List.set_cons_succ, i64_w, i32_w]
                rfl
              refine one_ (i := 6) (N := some 41) #[true, true, true, true, true, true, true, false, false, false, false, false, false] rfl rfl (one_of HT_.out (by kernel_rfl)) (by decide) (fun K hK => ?_)
              refine goes_ Try.func17 (by kernel_rfl) rfl #[.int .i64 a2, .int .i64 (wrap64 (65 - (wrap64 (4 + t208))))] (by rfl) rfl rfl (by (try simp only [List.map_toArray, List.map_cons, List.map_nil]); first | done | rfl | (simp only [List.length_drop, List.length_take]; rfl)) ?_
              with_reducible refine (tallymankit_Pick.calls a2 (wrap64 (65 - (wrap64 (4 + t208)))) t211 _ A15.out).mono ?_
              rintro e w' ⟨rfl, ⟨nd, rfl⟩⟩
              refine ⟨_, rfl, ?_⟩
              refine hK.out _ _ ⟨(blk_cell BK210.out 0).trans rfl, (blk_cell BK210.out 1).trans rfl⟩ (fun hHeld => ?_)
              clear hK K
              refine norm_ (a' := ?_) ?_ ?_
              rotate_left
              · show Act.put _ (some 41) _ = _
                simp only [Act.put, List.setIfInBounds_toArray, List.set_cons_zero, List.set_cons_succ, i64_w, i32_w]
                rfl
              refine pure_ (i := 7) (N := some 42) (v := ?_) (a' := ?_) #[true, true, true, true, true, true, true, true, false, false, false, false, false] rfl rfl (any_of HT_.out (by kernel_rfl)) (fun _ _ _ h => h) (Or.inl ⟨by rfl, ?_⟩) ?_ ?_
              rotate_left
              · intro w'
                go_simp
                with_reducible rfl
              rotate_left
              · simp only [Act.put, List.setIfInBounds_toArray, List.set_cons_zero, List.set_cons_succ, i64_w, i32_w]
                rfl
              refine pure_ (i := 8) (N := some 43) (v := ?_) (a' := ?_) #[true, true, true, true, true, true, true, true, true, false, false, false, false] rfl rfl (any_of HT_.out (by kernel_rfl)) (fun _ _ _ h => h) (Or.inl ⟨by rfl, ?_⟩) ?_ ?_
              rotate_left
              · intro w'
                go_simp
                with_reducible rfl
              rotate_left
              · simp only [Act.put, List.setIfInBounds_toArray, List.set_cons_zero, List.set_cons_succ, i64_w, i32_w]
                rfl
              refine one_ (i := 9) (N := some 44) #[true, true, true, true, true, true, true, true, true, true, false, false, false] rfl rfl (one_of HT_.out (by kernel_rfl)) (by decide) (fun K hK => ?_)
              refine value_ (w1 := ?_) (v := ?_) (by rfl) rfl ?_ ?_
              rotate_left 2
              · go_simp
                constructor
                · rfl
                · rfl
              refine hK.out _ _ ⟨(blk_cell (blk_alloc BK210.out _) 0).trans rfl, (blk_cell (blk_alloc BK210.out _) 1).trans rfl⟩ (fun hHeld => ?_)
              clear hK K
              refine norm_ (a' := ?_) ?_ ?_
              rotate_left
              · show Act.put _ (some 44) _ = _
                simp only [Act.put, List.setIfInBounds_toArray, List.set_cons_zero, List.set_cons_succ, i64_w, i32_w]
                rfl
              refine one_ (i := 10) (N := some 45) #[true, true, true, true, true, true, true, true, true, true, true, false, false] rfl rfl (one_of HT_.out (by kernel_rfl)) (by decide) (fun K hK => ?_)
              refine Kd.R_append_step k32 (w0 := w) w.heap.size (by rfl) (.tmp 36) (.tmp 44) 28 32 (.agg #[(.int .i64 0), (.int .i64 0)]) 16 rfl Try.underlying28 info32 rfl (by decide) (by omega) u211001 x211001_1 (⟨x8_1, wrap64 (1 + t211)⟩ : S32) [.int .i64 x8_1, .int .i64 (wrap64 (1 + t211))] (fun _ => True) (fun _ => False) rfl rfl ?aP (fun _ hk => hk.elim) ?aF ?aO ?aB ?aS ?aL ?_
              (case aP => exact k32_mkM _ _ _ (⟨x8_1, wrap64 (1 + t211)⟩ : S32))
              (case aB => exact (by repeat (first | (with_reducible first | exact HB.out | apply below_alloc | apply pw_below_drewN | apply below_drew1 | refine below_set ?_ GE210.out) | exact HB.out)))
              (case aF => exact (fun _ _ => trivial))
              (case aO => exact (by (with_reducible repeat (first | apply Kd.R_alloc | apply Kd.R_drewN | apply Kd.R_drew)); exact HO_211001.out))
              (case aS => exact (below_size (by repeat (first | (with_reducible first | exact HB.out | apply below_alloc | apply pw_below_drewN | apply below_drew1 | refine below_set ?_ GE210.out) | exact HB.out))))
              (case aL => have := LMc16.out; omega)
              intro v213 w18 ho hb hg hat
              rw [← Ny212.out] at ho
              have n0_ := Aside0.mk (blk_grown (g := gb210) (o := .cells #[.int .i64 (wrap64 (4 + t208)), u211001] 30 (0, 0)) (by (with_reducible repeat (first | refine blk_drewN ?_ _ | refine blk_drew ?_ | refine blk_alloc ?_ _)); exact BK210.out) hg (Kd.R_ne HO_211001.out BK210.out (by decide)))
              have n1_ := Aside0.mk (hb)
              have n2_ := Aside0.mk (ho)
              clear BK210
              clear HB
              clear HO_211001
              have BK210 := n0_
              have HB := n1_
              have HO214 := n2_
              clear n0_ n1_ n2_
              clear ho hb hg hat
              obtain ⟨Ao19, co19, eo19⟩ := Kd.R_slice HO214.out
              (first | subst eo19 | (injection eo19 with f1_ f2_ f3_; have f4_ := f1_.symm; have f5_ := f3_.symm; clear f1_ f2_ f3_; subst f4_; subst f5_))
              refine hK.out _ _ ⟨(blk_cell BK210.out 0).trans rfl, (blk_cell BK210.out 1).trans rfl⟩ (fun hHeld => ?_)
              clear hK K
              refine norm_ (a' := ?_) ?_ ?_
              rotate_left
              · show Act.put _ (some 45) _ = _
                simp only [Act.put, List.setIfInBounds_toArray, List.set_cons_zero, List.set_cons_succ, i64_w, i32_w]
                rfl
              refine pure_ (i := 11) (N := some 46) (v := ?_) (a' := ?_) #[true, true, true, true, true, true, true, true, true, true, true, true, false] rfl rfl (any_of HT_.out (by kernel_rfl)) (fun _ _ _ h => h) (Or.inl ⟨by rfl, ?_⟩) ?_ ?_
              rotate_left
              · intro w'
                go_simp
                with_reducible rfl
              rotate_left
              · simp only [Act.put, List.setIfInBounds_toArray, List.set_cons_zero, List.set_cons_succ, i64_w, i32_w]
                rfl
              refine last_ (i := 12) (N := none) #[true, true, true, true, true, true, true, true, true, true, true, true, true] rfl rfl (one_of HT_.out (by kernel_rfl)) (by decide) (fun K hK => ?_)
              have hs20 : w18.cell? ⟨gb210, 1, none⟩ = some (u211001) := (blk_cell BK210.out 1).trans rfl
              have hfs20 := blk_frozen BK210.out 1
              refine skip_ (w1 := ?_) (by rfl) rfl ?_ ?_
              rotate_left
              · go_simp
                rfl
              refine hK.out _ _ ?_
              clear hK K
              refine done_ (done_of HT_.out (by kernel_rfl)) ?_
              try go_wp2
              go_roundg k1
              case measure => have := HK1.out; omega
              case rel => exact ⟨(wrap64 (x8_1 + 1)), (y212), (.slice Ao19 y212.length co19), (by first | rfl | (simp; done) | (simp [*]; done)), H', ⟨by have := HK1.out; omega⟩, ⟨by (with_reducible repeat (first | apply Kd.R_alloc | apply Kd.R_drewN | apply Kd.R_drew)); exact Kd.R_mono (Kd.R_far (p := ⟨gb210, 1, none⟩) (Kd.R_types HO214.out BK210.out (by decide)) (fun _ hk => hk.2) (.slice Ao19 y212.length co19)) (fun _ hk => trivial)⟩, ⟨by (with_reducible repeat (first | refine blk_drewN ?_ _ | refine blk_drew ?_ | refine blk_alloc ?_ _)); refine blk_put (cs := #[.int .i64 (wrap64 (4 + t208)), u211001]) ?_ 1 _ rfl; (with_reducible repeat (first | refine blk_drewN ?_ _ | refine blk_drew ?_ | refine blk_alloc ?_ _)); exact BK210.out⟩, ⟨by repeat (first | (with_reducible first | exact HB.out | apply below_alloc | apply pw_below_drewN | apply below_drew1 | refine below_set ?_ GE210.out) | exact HB.out)⟩⟩
            · rw [if_neg c16] at H
              exact absurd H (by simp)
          · rw [if_neg c14] at H
            have c14b0 : decide (x8_1 < t209) = false := decide_eq_false c14
            clear c14
            replace H := Option.bind_eq_some_iff.mp H
            obtain ⟨⟨t215, t218⟩, A210, H⟩ := H
            replace H : ((dense_Dense.f k1 (wrap64 (4 + t208)) x211001_1).bind fun bt219 => ((dense_Bytes.f k1 (wrap64 (4 + t208)) x211001_1).bind fun bt223 => (if t218 = 0 then (if bt219.2 = 0 then (tallymanlaw15_DenseShort.j1 k1 (wrap64 (4 + t208)) t209 t215 bt219.1 bt223.1 (bt223.2 != 0)) else (tallymanlaw15_DenseShort.j1 k1 (wrap64 (4 + t208)) t209 t215 bt219.1 bt223.1 true)) else (tallymanlaw15_DenseShort.j1 k1 (wrap64 (4 + t208)) t209 t215 bt219.1 bt223.1 true)))) = some r := H
            have A21 := Aside0.mk A210
            clear A210
            replace H := Option.bind_eq_some_iff.mp H
            obtain ⟨⟨t219, t222⟩, A220, H⟩ := H
            replace H : ((dense_Bytes.f k1 (wrap64 (4 + t208)) x211001_1).bind fun bt223 => (if t218 = 0 then (if t222 = 0 then (tallymanlaw15_DenseShort.j1 k1 (wrap64 (4 + t208)) t209 t215 t219 bt223.1 (bt223.2 != 0)) else (tallymanlaw15_DenseShort.j1 k1 (wrap64 (4 + t208)) t209 t215 t219 bt223.1 true)) else (tallymanlaw15_DenseShort.j1 k1 (wrap64 (4 + t208)) t209 t215 t219 bt223.1 true))) = some r := H
            have A22 := Aside0.mk A220
            clear A220
            replace H := Option.bind_eq_some_iff.mp H
            obtain ⟨⟨t223, t226⟩, A230, H⟩ := H
            replace H : (if t218 = 0 then (if t222 = 0 then (tallymanlaw15_DenseShort.j1 k1 (wrap64 (4 + t208)) t209 t215 t219 t223 (t226 != 0)) else (tallymanlaw15_DenseShort.j1 k1 (wrap64 (4 + t208)) t209 t215 t219 t223 true)) else (tallymanlaw15_DenseShort.j1 k1 (wrap64 (4 + t208)) t209 t215 t219 t223 true)) = some r := H
            have A23 := Aside0.mk A230
            clear A230
            have HC24 := Aside0.mk H
            clear H
            have hcz25_0 : wr.cell? ⟨gb210, 0, none⟩ = some (.int .i64 (wrap64 (4 + t208))) := (blk_cell BK210.out 0).trans rfl
            have hcz25_1 : wr.cell? ⟨gb210, 1, none⟩ = some (u211001) := (blk_cell BK210.out 1).trans rfl
            have hfz25_0 := blk_frozen BK210.out 0
            have hfz25_1 := blk_frozen BK210.out 1
            obtain ⟨Ao26, co26, eo26⟩ := Kd.R_slice HO_211001.out
            subst eo26
            go_upto_region 13 with (first | ((with_reducible refine gate_callee (f := 18) rfl ?_); refine goesL_ (some 49) rfl rfl Try.func18 (by kernel_rfl) rfl #[.agg #[.int .i64 (wrap64 (4 + t208)), .slice Ao26 x211001_1.length co26]] rfl (by (try simp only [List.map_toArray, List.map_cons, List.map_nil]); first | done | rfl | (simp only [List.length_drop, List.length_take]; rfl)) ?_; (with_reducible refine (dense_Sparse.calls k1 (wrap64 (4 + t208)) _ _ x211001_1 t215 t218 _ ?side1 ?side2 A21.out).mono ?_); (case side1 => repeat (first | exact (Kd.R_reads' HO_211001.out).2.2 | (with_reducible refine Kd.C_alloc ?_ _) | (with_reducible refine Kd.C_drewN ?_ _) | (with_reducible refine Kd.C_drew ?_))); (case side2 => exact (Kd.R_reads' HO_211001.out).2.1); rintro e w27 ⟨v216, rfl, ho0, hb⟩; refine ⟨_, rfl, ?_⟩; have n0_ := Aside0.mk (Kd.R_below (by (with_reducible repeat (first | apply Kd.R_alloc | apply Kd.R_drewN | apply Kd.R_drew)); exact HO_211001.out) hb); have n1_ := Aside0.mk (Kd.R_lower ho0 (below_size (by repeat (first | (with_reducible first | exact HB.out | apply below_alloc | apply pw_below_drewN | apply below_drew1 | refine below_set ?_ GE210.out) | exact HB.out)))); have n2_ := Aside0.mk (blk_below (g := gb210) (o := .cells #[.int .i64 (wrap64 (4 + t208)), .slice Ao26 x211001_1.length co26] 30 (0, 0)) (by (with_reducible repeat (first | refine blk_drewN ?_ _ | refine blk_drew ?_ | refine blk_alloc ?_ _)); exact BK210.out) hb); have n3_ := Aside0.mk (below_step (by repeat (first | (with_reducible first | exact HB.out | apply below_alloc | apply pw_below_drewN | apply below_drew1 | refine below_set ?_ GE210.out) | exact HB.out)) hb); clear HO_211001; clear BK210; clear HB; have HO_211001 := n0_; have HO217 := n1_; have BK210 := n2_; have HB := n3_; clear n0_ n1_ n2_ n3_; (try clear hb); (try clear hb2); (try clear hk); (try clear hi); (try clear ho0); have hcz28_0 : w27.cell? ⟨gb210, 0, none⟩ = some (.int .i64 (wrap64 (4 + t208))) := (blk_cell BK210.out 0).trans rfl; have hcz28_1 : w27.cell? ⟨gb210, 1, none⟩ = some (.slice Ao26 x211001_1.length co26) := (blk_cell BK210.out 1).trans rfl; have hfz28_0 := blk_frozen BK210.out 0; have hfz28_1 := blk_frozen BK210.out 1) | ((with_reducible refine gate_callee (f := 19) rfl ?_); refine goesL_ (some 54) rfl rfl Try.func19 (by kernel_rfl) rfl #[.agg #[.int .i64 (wrap64 (4 + t208)), .slice Ao26 x211001_1.length co26]] rfl (by (try simp only [List.map_toArray, List.map_cons, List.map_nil]); first | done | rfl | (simp only [List.length_drop, List.length_take]; rfl)) ?_; (with_reducible refine (dense_Dense.calls k1 (wrap64 (4 + t208)) _ _ x211001_1 t219 t222 _ ?side1 ?side2 A22.out).mono ?_); (case side1 => repeat (first | exact (Kd.R_reads' HO_211001.out).2.2 | (with_reducible refine Kd.C_alloc ?_ _) | (with_reducible refine Kd.C_drewN ?_ _) | (with_reducible refine Kd.C_drew ?_))); (case side2 => exact (Kd.R_reads' HO_211001.out).2.1); rintro e w29 ⟨v220, rfl, ho0, hb⟩; refine ⟨_, rfl, ?_⟩; have n0_ := Aside0.mk (Kd.R_below (by (with_reducible repeat (first | apply Kd.R_alloc | apply Kd.R_drewN | apply Kd.R_drew)); exact HO_211001.out) hb); have n1_ := Aside0.mk (Kd.R_elder' (by (with_reducible repeat (first | apply Kd.R_alloc | apply Kd.R_drewN | apply Kd.R_drew)); exact HO217.out) (Kd.R_base ho0) hb); have n2_ := Aside0.mk (Kd.R_lower (Kd.R_new' ho0 (Kd.R_lt (by (with_reducible repeat (first | apply Kd.R_alloc | apply Kd.R_drewN | apply Kd.R_drew)); exact HO217.out))) (below_size (by repeat (first | (with_reducible first | exact HB.out | apply below_alloc | apply pw_below_drewN | apply below_drew1 | refine below_set ?_ GE210.out) | exact HB.out)))); have n3_ := Aside0.mk (blk_below (g := gb210) (o := .cells #[.int .i64 (wrap64 (4 + t208)), .slice Ao26 x211001_1.length co26] 30 (0, 0)) (by (with_reducible repeat (first | refine blk_drewN ?_ _ | refine blk_drew ?_ | refine blk_alloc ?_ _)); exact BK210.out) hb); have n4_ := Aside0.mk (below_step (by repeat (first | (with_reducible first | exact HB.out | apply below_alloc | apply pw_below_drewN | apply below_drew1 | refine below_set ?_ GE210.out) | exact HB.out)) hb); clear HO_211001; clear HO217; clear BK210; clear HB; have HO_211001 := n0_; have HO217 := n1_; have HO221 := n2_; have BK210 := n3_; have HB := n4_; clear n0_ n1_ n2_ n3_ n4_; (try clear hb); (try clear hb2); (try clear hk); (try clear hi); (try clear ho0); have hcz30_0 : w29.cell? ⟨gb210, 0, none⟩ = some (.int .i64 (wrap64 (4 + t208))) := (blk_cell BK210.out 0).trans rfl; have hcz30_1 : w29.cell? ⟨gb210, 1, none⟩ = some (.slice Ao26 x211001_1.length co26) := (blk_cell BK210.out 1).trans rfl; have hfz30_0 := blk_frozen BK210.out 0; have hfz30_1 := blk_frozen BK210.out 1) | ((with_reducible refine gate_callee (f := 20) rfl ?_); refine goesL_ (some 59) rfl rfl Try.func20 (by kernel_rfl) rfl #[.agg #[.int .i64 (wrap64 (4 + t208)), .slice Ao26 x211001_1.length co26]] rfl (by (try simp only [List.map_toArray, List.map_cons, List.map_nil]); first | done | rfl | (simp only [List.length_drop, List.length_take]; rfl)) ?_; (with_reducible refine (dense_Bytes.calls k1 (wrap64 (4 + t208)) _ _ x211001_1 t223 t226 _ ?side1 ?side2 A23.out).mono ?_); (case side1 => repeat (first | exact (Kd.R_reads' HO_211001.out).2.2 | (with_reducible refine Kd.C_alloc ?_ _) | (with_reducible refine Kd.C_drewN ?_ _) | (with_reducible refine Kd.C_drew ?_))); (case side2 => exact (Kd.R_reads' HO_211001.out).2.1); rintro e w31 ⟨v224, rfl, ho0, hb⟩; refine ⟨_, rfl, ?_⟩; have n0_ := Aside0.mk (Kd.R_below (by (with_reducible repeat (first | apply Kd.R_alloc | apply Kd.R_drewN | apply Kd.R_drew)); exact HO_211001.out) hb); have n1_ := Aside0.mk (Kd.R_elder' (by (with_reducible repeat (first | apply Kd.R_alloc | apply Kd.R_drewN | apply Kd.R_drew)); exact HO217.out) (Kd.R_base ho0) hb); have n2_ := Aside0.mk (Kd.R_elder' (by (with_reducible repeat (first | apply Kd.R_alloc | apply Kd.R_drewN | apply Kd.R_drew)); exact HO221.out) (Kd.R_base ho0) hb); have n3_ := Aside0.mk (Kd.R_lower (Kd.R_new' (Kd.R_new' ho0 (Kd.R_lt (by (with_reducible repeat (first | apply Kd.R_alloc | apply Kd.R_drewN | apply Kd.R_drew)); exact HO217.out))) (Kd.R_lt (by (with_reducible repeat (first | apply Kd.R_alloc | apply Kd.R_drewN | apply Kd.R_drew)); exact HO221.out))) (below_size (by repeat (first | (with_reducible first | exact HB.out | apply below_alloc | apply pw_below_drewN | apply below_drew1 | refine below_set ?_ GE210.out) | exact HB.out)))); have n4_ := Aside0.mk (blk_below (g := gb210) (o := .cells #[.int .i64 (wrap64 (4 + t208)), .slice Ao26 x211001_1.length co26] 30 (0, 0)) (by (with_reducible repeat (first | refine blk_drewN ?_ _ | refine blk_drew ?_ | refine blk_alloc ?_ _)); exact BK210.out) hb); have n5_ := Aside0.mk (below_step (by repeat (first | (with_reducible first | exact HB.out | apply below_alloc | apply pw_below_drewN | apply below_drew1 | refine below_set ?_ GE210.out) | exact HB.out)) hb); clear HO_211001; clear HO217; clear HO221; clear BK210; clear HB; have HO_211001 := n0_; have HO217 := n1_; have HO221 := n2_; have HO225 := n3_; have BK210 := n4_; have HB := n5_; clear n0_ n1_ n2_ n3_ n4_ n5_; (try clear hb); (try clear hb2); (try clear hk); (try clear hi); (try clear ho0)))
            (try simp only [Act.put, List.setIfInBounds_toArray, List.set_cons_zero, List.set_cons_succ])
            go_cut [71] (fun v71 wc => ∃ (kq : Nat) (x71_23 : Bool), v71 = .bool x71_23 ∧ Aside0 (tallymanlaw15_DenseShort.j1 kq (wrap64 (4 + t208)) t209 t215 t219 t223 x71_23 = some r) ∧ Aside0 (kq ≤ k1) ∧ Aside0 (Kd.R (Kd.int .u8) 5 wc w.heap.size (fun k_ => some k_ ≠ (v220 : Value).ownBlock ∧ some k_ ≠ (v224 : Value).ownBlock) v216 t215) ∧ Aside0 (Kd.R (Kd.int .u8) 5 wc w.heap.size (fun k_ => some k_ ≠ (v216 : Value).ownBlock ∧ some k_ ≠ (v224 : Value).ownBlock) v220 t219) ∧ Aside0 (Kd.R (Kd.int .u8) 5 wc w.heap.size (fun k_ => some k_ ≠ (v216 : Value).ownBlock ∧ some k_ ≠ (v220 : Value).ownBlock) v224 t223) ∧ Aside0 (Kd.R k32 32 wc w.heap.size (fun _ => True) (.slice Ao26 x211001_1.length co26) x211001_1) ∧ Aside0 (wc.heap[gb210]? = some (.cells #[.int .i64 (wrap64 (4 + t208)), (.slice Ao26 x211001_1.length co26)] 30 (0, 0))) ∧ Aside0 (Below w.heap.size w wc))
            case first =>
              have H := HC24.out
              clear HC24
              by_cases c32 : t218 = 0
              · rw [if_pos c32] at H
                have c32b0 : (t218 == 0) = true := beq_iff_eq.mpr c32
                have c32b1 : (t218 != 0) = false := bne_eq_false_iff_eq.mpr c32
                clear c32
                (first | rw [c32b0] | (simp only [i64_w, i32_w]; rw [c32b0]) | skip)
                by_cases c33 : t222 = 0
                · rw [if_pos c33] at H
                  have c33b0 : (t222 == 0) = true := beq_iff_eq.mpr c33
                  have c33b1 : (t222 != 0) = false := bne_eq_false_iff_eq.mpr c33
                  clear c33
                  have H' := Aside0.mk H
                  clear H
                  go_wp2
                  go_meet
                  case rel => exact ⟨_, ((t226 != 0)), (by first | rfl | (simp; done) | (simp [*]; done)), H', ⟨by have := HK1.out; first | omega | exact Nat.le_refl _⟩, ⟨by (with_reducible repeat (first | apply Kd.R_alloc | apply Kd.R_drewN | apply Kd.R_drew)); exact Kd.R_mono HO217.out (fun _ hk => ⟨hk.1.2, hk.2⟩)⟩, ⟨by (with_reducible repeat (first | apply Kd.R_alloc | apply Kd.R_drewN | apply Kd.R_drew)); exact Kd.R_mono HO221.out (fun _ hk => ⟨hk.1.2, hk.2⟩)⟩, ⟨by (with_reducible repeat (first | apply Kd.R_alloc | apply Kd.R_drewN | apply Kd.R_drew)); exact Kd.R_mono HO225.out (fun _ hk => ⟨hk.1.2, hk.2⟩)⟩, ⟨by (with_reducible repeat (first | apply Kd.R_alloc | apply Kd.R_drewN | apply Kd.R_drew)); exact HO_211001.out⟩, ⟨by (with_reducible repeat (first | refine blk_drewN ?_ _ | refine blk_drew ?_ | refine blk_alloc ?_ _)); exact BK210.out⟩, ⟨by repeat (first | (with_reducible first | exact HB.out | apply below_alloc | apply pw_below_drewN | apply below_drew1 | refine below_set ?_ GE210.out) | exact HB.out)⟩⟩
                · rw [if_neg c33] at H
                  have c33b0 : (t222 == 0) = false := beq_eq_false_iff_ne.mpr c33
                  have c33b1 : (t222 != 0) = true := bne_iff_ne.mpr c33
                  have H' := Aside0.mk H
                  clear H
                  go_wp2
                  go_meet
                  case rel => exact ⟨_, (true), (by first | rfl | (simp; done) | (simp [*]; done)), H', ⟨by have := HK1.out; first | omega | exact Nat.le_refl _⟩, ⟨by (with_reducible repeat (first | apply Kd.R_alloc | apply Kd.R_drewN | apply Kd.R_drew)); exact Kd.R_mono HO217.out (fun _ hk => ⟨hk.1.2, hk.2⟩)⟩, ⟨by (with_reducible repeat (first | apply Kd.R_alloc | apply Kd.R_drewN | apply Kd.R_drew)); exact Kd.R_mono HO221.out (fun _ hk => ⟨hk.1.2, hk.2⟩)⟩, ⟨by (with_reducible repeat (first | apply Kd.R_alloc | apply Kd.R_drewN | apply Kd.R_drew)); exact Kd.R_mono HO225.out (fun _ hk => ⟨hk.1.2, hk.2⟩)⟩, ⟨by (with_reducible repeat (first | apply Kd.R_alloc | apply Kd.R_drewN | apply Kd.R_drew)); exact HO_211001.out⟩, ⟨by (with_reducible repeat (first | refine blk_drewN ?_ _ | refine blk_drew ?_ | refine blk_alloc ?_ _)); exact BK210.out⟩, ⟨by repeat (first | (with_reducible first | exact HB.out | apply below_alloc | apply pw_below_drewN | apply below_drew1 | refine below_set ?_ GE210.out) | exact HB.out)⟩⟩
              · rw [if_neg c32] at H
                have c32b0 : (t218 == 0) = false := beq_eq_false_iff_ne.mpr c32
                have c32b1 : (t218 != 0) = true := bne_iff_ne.mpr c32
                (first | rw [c32b0] | (simp only [i64_w, i32_w]; rw [c32b0]) | skip)
                have H' := Aside0.mk H
                clear H
                go_wp2
                go_meet
                case rel => exact ⟨_, (true), (by first | rfl | (simp; done) | (simp [*]; done)), H', ⟨by have := HK1.out; first | omega | exact Nat.le_refl _⟩, ⟨by (with_reducible repeat (first | apply Kd.R_alloc | apply Kd.R_drewN | apply Kd.R_drew)); exact Kd.R_mono HO217.out (fun _ hk => ⟨hk.1.2, hk.2⟩)⟩, ⟨by (with_reducible repeat (first | apply Kd.R_alloc | apply Kd.R_drewN | apply Kd.R_drew)); exact Kd.R_mono HO221.out (fun _ hk => ⟨hk.1.2, hk.2⟩)⟩, ⟨by (with_reducible repeat (first | apply Kd.R_alloc | apply Kd.R_drewN | apply Kd.R_drew)); exact Kd.R_mono HO225.out (fun _ hk => ⟨hk.1.2, hk.2⟩)⟩, ⟨by (with_reducible repeat (first | apply Kd.R_alloc | apply Kd.R_drewN | apply Kd.R_drew)); exact HO_211001.out⟩, ⟨by (with_reducible repeat (first | refine blk_drewN ?_ _ | refine blk_drew ?_ | refine blk_alloc ?_ _)); exact BK210.out⟩, ⟨by repeat (first | (with_reducible first | exact HB.out | apply below_alloc | apply pw_below_drewN | apply below_drew1 | refine below_set ?_ GE210.out) | exact HB.out)⟩⟩
            case rest =>
              clear HC24
              try clear c1
              try clear c2
              try clear p2
              try clear c3
              try clear c4
              try clear c5
              try clear p6
              try clear c8
              try clear c8b0
              try clear c8b1
              try clear c14
              try clear c14b0
              try clear c15
              try clear c16
              try clear c17
              try clear c18
              try clear c19
              try clear c20
              try clear c32
              try clear c32b0
              try clear c32b1
              try clear c33
              try clear c33b0
              try clear c33b1
              try clear hcz13_0
              try clear hcz13_1
              try clear hcz25_0
              try clear hcz25_1
              try clear hcz28_0
              try clear hcz28_1
              try clear hcz30_0
              try clear hcz30_1
              try clear hfz13_0
              try clear hfz13_1
              try clear hfz25_0
              try clear hfz25_1
              try clear hfz28_0
              try clear hfz28_1
              try clear hfz30_0
              try clear hfz30_1
              try clear p2
              try clear p6
              obtain ⟨kq, x71_23, rfl, HA, HJ23, HO_9, HO_11, HO_13, HO_211001, BK210, HB⟩ := hcut
              cases kq with
              | zero => exact absurd HA.out (by simp [tallymanlaw15_DenseShort.j1])
              | succ kj23 =>
                have H := HA.out
                clear HA
                simp only [tallymanlaw15_DenseShort.j1] at H
                by_cases c34 : x71_23 = true
                · subst c34
                  have H1 : (none) = some r := by rw [if_pos rfl] at H; exact H
                  clear H
                  have H := H1
                  clear H1
                  exact absurd H (by simp)
                · replace c34 := Bool.eq_false_iff.mpr c34
                  subst c34
                  have H1 : (if t209 ≥ 128 then (if (t215.length : Int) < (t219.length : Int) then (if (t215.length : Int) = (wrap64 ((wrap64 (3 + (wrap64 (2 * t209)))) + 1)) then (if 0 ≤ (IntKind.u64.wrap ((wrap64 (4 + t208)))) then (if (t219.length : Int) = (wrap64 (2 + (wrap64 (Int.tdiv (shl .i64 3 (IntKind.u64.wrap ((wrap64 (4 + t208))))) 4)))) then (if (strOfNums t223).toList = (strOfNums t215).toList then (if 0 < (t223.length : Int) then (if (rd t223 0) = (((wrap64 (4 + t208))) % 256) then (if 1 < (t223.length : Int) then (some (((rd t223 1) == 0) == (decide ((t215.length : Int) < (t219.length : Int))))) else (none)) else (none)) else (none)) else (none)) else (none)) else (none)) else (none)) else (if (t215.length : Int) = (wrap64 ((wrap64 (3 + (wrap64 (2 * t209)))) + 1)) then (if 0 ≤ (IntKind.u64.wrap ((wrap64 (4 + t208)))) then (if (t219.length : Int) = (wrap64 (2 + (wrap64 (Int.tdiv (shl .i64 3 (IntKind.u64.wrap ((wrap64 (4 + t208))))) 4)))) then (if (strOfNums t223).toList = (strOfNums t219).toList then (if 0 < (t223.length : Int) then (if (rd t223 0) = (((wrap64 (4 + t208))) % 256) then (if 1 < (t223.length : Int) then (some (((rd t223 1) == 0) == (decide ((t215.length : Int) < (t219.length : Int))))) else (none)) else (none)) else (none)) else (none)) else (none)) else (none)) else (none))) else (if (t215.length : Int) < (t219.length : Int) then (if (t215.length : Int) = (wrap64 (3 + (wrap64 (2 * t209)))) then (if 0 ≤ (IntKind.u64.wrap ((wrap64 (4 + t208)))) then (if (t219.length : Int) = (wrap64 (2 + (wrap64 (Int.tdiv (shl .i64 3 (IntKind.u64.wrap ((wrap64 (4 + t208))))) 4)))) then (if (strOfNums t223).toList = (strOfNums t215).toList then (if 0 < (t223.length : Int) then (if (rd t223 0) = (((wrap64 (4 + t208))) % 256) then (if 1 < (t223.length : Int) then (some (((rd t223 1) == 0) == (decide ((t215.length : Int) < (t219.length : Int))))) else (none)) else (none)) else (none)) else (none)) else (none)) else (none)) else (none)) else (if (t215.length : Int) = (wrap64 (3 + (wrap64 (2 * t209)))) then (if 0 ≤ (IntKind.u64.wrap ((wrap64 (4 + t208)))) then (if (t219.length : Int) = (wrap64 (2 + (wrap64 (Int.tdiv (shl .i64 3 (IntKind.u64.wrap ((wrap64 (4 + t208))))) 4)))) then (if (strOfNums t223).toList = (strOfNums t219).toList then (if 0 < (t223.length : Int) then (if (rd t223 0) = (((wrap64 (4 + t208))) % 256) then (if 1 < (t223.length : Int) then (some (((rd t223 1) == 0) == (decide ((t215.length : Int) < (t219.length : Int))))) else (none)) else (none)) else (none)) else (none)) else (none)) else (none)) else (none)))) = some r := by rw [if_neg (show ¬ (false = true) by decide)] at H; exact H
                  clear H
                  have H := H1
                  clear H1
                  by_cases c35 : t209 ≥ 128
                  · rw [if_pos c35] at H
                    have c35b0 : decide (128 ≤ t209) = true := decide_eq_true c35
                    clear c35
                    by_cases c36 : (t215.length : Int) < (t219.length : Int)
                    · rw [if_pos c36] at H
                      have c36b0 : decide ((t215.length : Int) < (t219.length : Int)) = true := decide_eq_true c36
                      have c36b1 : decide (t215.length < t219.length) = true := decide_eq_true (Int.ofNat_lt.mp c36)
                      clear c36
                      by_cases c37 : (t215.length : Int) = (wrap64 ((wrap64 (3 + (wrap64 (2 * t209)))) + 1))
                      · rw [if_pos c37] at H
                        have c37b0 : ((t215.length : Int) == (wrap64 ((wrap64 (3 + (wrap64 (2 * t209)))) + 1))) = true := beq_iff_eq.mpr c37
                        have c37b1 : ((t215.length : Int) != (wrap64 ((wrap64 (3 + (wrap64 (2 * t209)))) + 1))) = false := bne_eq_false_iff_eq.mpr c37
                        clear c37
                        obtain ⟨ji38, hji38⟩ : ∃ j_ : Int, (IntKind.u64.wrap ((wrap64 (4 + t208)))) = j_ := ⟨_, rfl⟩
                        obtain rfl : ji38 = ji7 := hji38.symm.trans hji7
                        replace H : (if 0 ≤ (ji38) then (if (t219.length : Int) = (wrap64 (2 + (wrap64 (Int.tdiv (shl .i64 3 (ji38)) 4)))) then (if (strOfNums t223).toList = (strOfNums t215).toList then (if 0 < (t223.length : Int) then (if (rd t223 0) = (((wrap64 (4 + t208))) % 256) then (if 1 < (t223.length : Int) then (some (((rd t223 1) == 0) == (decide ((t215.length : Int) < (t219.length : Int))))) else (none)) else (none)) else (none)) else (none)) else (none)) else (none)) = some r := by first | (rw [hji38] at H; exact H) | (simp only [hji38] at H ⊢; exact H)
                        by_cases c39 : 0 ≤ (ji38)
                        · rw [if_pos c39] at H
                          have c39b0 := eq_true c39
                          have c39b1 : decide (0 ≤ (ji38)) = true := decide_eq_true c39
                          clear c39
                          obtain ⟨ji40, hji40⟩ : ∃ j_ : Int, (shl .i64 3 (ji38)) = j_ := ⟨_, rfl⟩
                          replace H : (if (t219.length : Int) = (wrap64 (2 + (wrap64 (Int.tdiv (ji40) 4)))) then (if (strOfNums t223).toList = (strOfNums t215).toList then (if 0 < (t223.length : Int) then (if (rd t223 0) = (((wrap64 (4 + t208))) % 256) then (if 1 < (t223.length : Int) then (some (((rd t223 1) == 0) == (decide ((t215.length : Int) < (t219.length : Int))))) else (none)) else (none)) else (none)) else (none)) else (none)) = some r := by first | (rw [hji40] at H; exact H) | (simp only [hji40] at H ⊢; exact H)
                          have hji40_ : (IntKind.i64.wrap (3 * 2 ^ min (ji38).toNat 64)) = ji40 := hji40
                          have hji40z : (ji38) ≤ 64 → (IntKind.i64.wrap (3 * 2 ^ (ji38).toNat)) = ji40 := shl_small hji40
                          have hji40y : (wrap64 (3 * 2 ^ min (ji38).toNat 64)) = ji40 := (i64_w _).symm.trans hji40_
                          have hji40x : (ji38) ≤ 64 → (wrap64 (3 * 2 ^ (ji38).toNat)) = ji40 := fun h_ => (i64_w _).symm.trans (hji40z h_)
                          by_cases c41 : (t219.length : Int) = (wrap64 (2 + (wrap64 (Int.tdiv (ji40) 4))))
                          · rw [if_pos c41] at H
                            have c41b0 : ((t219.length : Int) == (wrap64 (2 + (wrap64 (Int.tdiv (ji40) 4))))) = true := beq_iff_eq.mpr c41
                            have c41b1 : ((t219.length : Int) != (wrap64 (2 + (wrap64 (Int.tdiv (ji40) 4))))) = false := bne_eq_false_iff_eq.mpr c41
                            clear c41
                            by_cases c42 : (strOfNums t223).toList = (strOfNums t215).toList
                            · rw [if_pos c42] at H
                              have c42b0 : ((strOfNums t223).toList == (strOfNums t215).toList) = true := beq_iff_eq.mpr c42
                              have c42b1 : ((strOfNums t223).toList != (strOfNums t215).toList) = false := bne_eq_false_iff_eq.mpr c42
                              clear c42
                              by_cases c43 : 0 < (t223.length : Int)
                              · rw [if_pos c43] at H
                                have c43b0 : decide (0 < (t223.length : Int)) = true := decide_eq_true c43
                                have c43b1 : decide (0 < t223.length) = true := decide_eq_true (by omega)
                                clear c43
                                by_cases c44 : (rd t223 0) = (((wrap64 (4 + t208))) % 256)
                                · rw [if_pos c44] at H
                                  have c44b0 : ((rd t223 0) == (((wrap64 (4 + t208))) % 256)) = true := beq_iff_eq.mpr c44
                                  have c44b1 : ((rd t223 0) != (((wrap64 (4 + t208))) % 256)) = false := bne_eq_false_iff_eq.mpr c44
                                  clear c44
                                  by_cases c45 : 1 < (t223.length : Int)
                                  · rw [if_pos c45] at H
                                    have c45b0 : decide (1 < (t223.length : Int)) = true := decide_eq_true c45
                                    have c45b1 : decide (1 < t223.length) = true := decide_eq_true (by omega)
                                    clear c45
                                    obtain rfl := Option.some.inj H
                                    obtain ⟨Ao46, co46, eo46⟩ := Kd.R_slice HO_9.out
                                    subst eo46
                                    obtain ⟨Ao47, co47, eo47⟩ := Kd.R_slice HO_11.out
                                    subst eo47
                                    have hcv48 := own_string (P := Try.prog) Try.underlying33 Try.underlying5 Try.underlying9 (Kd.own_of_R HO_13.out)
                                    have hcv49 := fun nq_ : Nat => own_string (P := Try.prog) Try.underlying33 Try.underlying5 Try.underlying9 (pw_own_drewN (Kd.own_of_R HO_13.out) nq_)
                                    have hcv50 := own_string (P := Try.prog) Try.underlying33 Try.underlying5 Try.underlying9 (Kd.own_of_R HO_9.out)
                                    have hcv51 := fun nq_ : Nat => own_string (P := Try.prog) Try.underlying33 Try.underlying5 Try.underlying9 (pw_own_drewN (Kd.own_of_R HO_9.out) nq_)
                                    obtain ⟨Ao52, co52, eo52⟩ := Kd.R_slice HO_13.out
                                    subst eo52
                                    have p227 : 0 ≤ (0 : Int) := (by omega)
                                    have q227 : 0 < (t223.length : Int) := of_decide_eq_true (by first | (with_reducible assumption) | assumption)
                                    obtain ⟨ad227, e227, hx227_0⟩ := Kd.at_int (Kd.R_reads' HO_13.out).2.2 0 p227 q227
                                    cases e227
                                    have qi227 : (0 < t223.length) = True := eq_true (by omega)
                                    (try rw [show ((0 : Int)).toNat = 0 from rfl] at hx227_0)
                                    (try rw [Addr.add_zero'] at hx227_0)
                                    replace p227 := eq_true p227
                                    replace q227 := eq_true q227
                                    have p228 : 0 ≤ (1 : Int) := (by omega)
                                    have q228 : 1 < (t223.length : Int) := of_decide_eq_true (by first | (with_reducible assumption) | assumption)
                                    obtain ⟨ad228, e228, hx228_0⟩ := Kd.at_int (Kd.R_reads' HO_13.out).2.2 1 p228 q228
                                    obtain rfl : ad227 = ad228 := (by injection e228)
                                    (try simp only [show (1 : Int).toNat = 1 from rfl, Nat.reduceMul, Nat.reduceEqDiff, Go.Addr.add, ↓reduceIte] at hx228_0)
                                    have qi228 : (1 < t223.length) = True := eq_true (by omega)
                                    (try rw [show ((1 : Int)).toNat = 1 from rfl] at hx228_0)
                                    replace p228 := eq_true p228
                                    replace q228 := eq_true q228
                                    go_wp2
                                    go_ret
                                    exact ⟨by first | rfl | (simp [errW_none, errW_some] <;> rfl) | (simp only [← hji7, ← hji9, ← hji38, ← hji40]; first | rfl | (simp [errW_none, errW_some] <;> rfl)) | (simp [*, errW_none, errW_some] <;> rfl), by repeat (first | (with_reducible first | exact HB.out | apply below_alloc | apply pw_below_drewN | apply below_drew1 | refine below_set ?_ GE210.out) | exact HB.out)⟩
                                  · rw [if_neg c45] at H
                                    exact absurd H (by simp)
                                · rw [if_neg c44] at H
                                  exact absurd H (by simp)
                              · rw [if_neg c43] at H
                                exact absurd H (by simp)
                            · rw [if_neg c42] at H
                              exact absurd H (by simp)
                          · rw [if_neg c41] at H
                            exact absurd H (by simp)
                        · rw [if_neg c39] at H
                          exact absurd H (by simp)
                      · rw [if_neg c37] at H
                        exact absurd H (by simp)
                    · rw [if_neg c36] at H
                      have c36b0 : decide ((t215.length : Int) < (t219.length : Int)) = false := decide_eq_false c36
                      have c36b1 : decide (t215.length < t219.length) = false := decide_eq_false (fun h => c36 (Int.ofNat_lt.mpr h))
                      clear c36
                      by_cases c53 : (t215.length : Int) = (wrap64 ((wrap64 (3 + (wrap64 (2 * t209)))) + 1))
                      · rw [if_pos c53] at H
                        have c53b0 : ((t215.length : Int) == (wrap64 ((wrap64 (3 + (wrap64 (2 * t209)))) + 1))) = true := beq_iff_eq.mpr c53
                        have c53b1 : ((t215.length : Int) != (wrap64 ((wrap64 (3 + (wrap64 (2 * t209)))) + 1))) = false := bne_eq_false_iff_eq.mpr c53
                        clear c53
                        obtain ⟨ji54, hji54⟩ : ∃ j_ : Int, (IntKind.u64.wrap ((wrap64 (4 + t208)))) = j_ := ⟨_, rfl⟩
                        obtain rfl : ji54 = ji7 := hji54.symm.trans hji7
                        replace H : (if 0 ≤ (ji54) then (if (t219.length : Int) = (wrap64 (2 + (wrap64 (Int.tdiv (shl .i64 3 (ji54)) 4)))) then (if (strOfNums t223).toList = (strOfNums t219).toList then (if 0 < (t223.length : Int) then (if (rd t223 0) = (((wrap64 (4 + t208))) % 256) then (if 1 < (t223.length : Int) then (some (((rd t223 1) == 0) == (decide ((t215.length : Int) < (t219.length : Int))))) else (none)) else (none)) else (none)) else (none)) else (none)) else (none)) = some r := by first | (rw [hji54] at H; exact H) | (simp only [hji54] at H ⊢; exact H)
                        by_cases c55 : 0 ≤ (ji54)
                        · rw [if_pos c55] at H
                          have c55b0 := eq_true c55
                          have c55b1 : decide (0 ≤ (ji54)) = true := decide_eq_true c55
                          clear c55
                          obtain ⟨ji56, hji56⟩ : ∃ j_ : Int, (shl .i64 3 (ji54)) = j_ := ⟨_, rfl⟩
                          replace H : (if (t219.length : Int) = (wrap64 (2 + (wrap64 (Int.tdiv (ji56) 4)))) then (if (strOfNums t223).toList = (strOfNums t219).toList then (if 0 < (t223.length : Int) then (if (rd t223 0) = (((wrap64 (4 + t208))) % 256) then (if 1 < (t223.length : Int) then (some (((rd t223 1) == 0) == (decide ((t215.length : Int) < (t219.length : Int))))) else (none)) else (none)) else (none)) else (none)) else (none)) = some r := by first | (rw [hji56] at H; exact H) | (simp only [hji56] at H ⊢; exact H)
                          have hji56_ : (IntKind.i64.wrap (3 * 2 ^ min (ji54).toNat 64)) = ji56 := hji56
                          have hji56z : (ji54) ≤ 64 → (IntKind.i64.wrap (3 * 2 ^ (ji54).toNat)) = ji56 := shl_small hji56
                          have hji56y : (wrap64 (3 * 2 ^ min (ji54).toNat 64)) = ji56 := (i64_w _).symm.trans hji56_
                          have hji56x : (ji54) ≤ 64 → (wrap64 (3 * 2 ^ (ji54).toNat)) = ji56 := fun h_ => (i64_w _).symm.trans (hji56z h_)
                          by_cases c57 : (t219.length : Int) = (wrap64 (2 + (wrap64 (Int.tdiv (ji56) 4))))
                          · rw [if_pos c57] at H
                            have c57b0 : ((t219.length : Int) == (wrap64 (2 + (wrap64 (Int.tdiv (ji56) 4))))) = true := beq_iff_eq.mpr c57
                            have c57b1 : ((t219.length : Int) != (wrap64 (2 + (wrap64 (Int.tdiv (ji56) 4))))) = false := bne_eq_false_iff_eq.mpr c57
                            clear c57
                            by_cases c58 : (strOfNums t223).toList = (strOfNums t219).toList
                            · rw [if_pos c58] at H
                              have c58b0 : ((strOfNums t223).toList == (strOfNums t219).toList) = true := beq_iff_eq.mpr c58
                              have c58b1 : ((strOfNums t223).toList != (strOfNums t219).toList) = false := bne_eq_false_iff_eq.mpr c58
                              clear c58
                              by_cases c59 : 0 < (t223.length : Int)
                              · rw [if_pos c59] at H
                                have c59b0 : decide (0 < (t223.length : Int)) = true := decide_eq_true c59
                                have c59b1 : decide (0 < t223.length) = true := decide_eq_true (by omega)
                                clear c59
                                by_cases c60 : (rd t223 0) = (((wrap64 (4 + t208))) % 256)
                                · rw [if_pos c60] at H
                                  have c60b0 : ((rd t223 0) == (((wrap64 (4 + t208))) % 256)) = true := beq_iff_eq.mpr c60
                                  have c60b1 : ((rd t223 0) != (((wrap64 (4 + t208))) % 256)) = false := bne_eq_false_iff_eq.mpr c60
                                  clear c60
                                  by_cases c61 : 1 < (t223.length : Int)
                                  · rw [if_pos c61] at H
                                    have c61b0 : decide (1 < (t223.length : Int)) = true := decide_eq_true c61
                                    have c61b1 : decide (1 < t223.length) = true := decide_eq_true (by omega)
                                    clear c61
                                    obtain rfl := Option.some.inj H
                                    obtain ⟨Ao62, co62, eo62⟩ := Kd.R_slice HO_9.out
                                    subst eo62
                                    obtain ⟨Ao63, co63, eo63⟩ := Kd.R_slice HO_11.out
                                    subst eo63
                                    have hcv64 := own_string (P := Try.prog) Try.underlying33 Try.underlying5 Try.underlying9 (Kd.own_of_R HO_13.out)
                                    have hcv65 := fun nq_ : Nat => own_string (P := Try.prog) Try.underlying33 Try.underlying5 Try.underlying9 (pw_own_drewN (Kd.own_of_R HO_13.out) nq_)
                                    have hcv66 := own_string (P := Try.prog) Try.underlying33 Try.underlying5 Try.underlying9 (Kd.own_of_R HO_11.out)
                                    have hcv67 := fun nq_ : Nat => own_string (P := Try.prog) Try.underlying33 Try.underlying5 Try.underlying9 (pw_own_drewN (Kd.own_of_R HO_11.out) nq_)
                                    obtain ⟨Ao68, co68, eo68⟩ := Kd.R_slice HO_13.out
                                    subst eo68
                                    have p229 : 0 ≤ (0 : Int) := (by omega)
                                    have q229 : 0 < (t223.length : Int) := of_decide_eq_true (by first | (with_reducible assumption) | assumption)
                                    obtain ⟨ad229, e229, hx229_0⟩ := Kd.at_int (Kd.R_reads' HO_13.out).2.2 0 p229 q229
                                    cases e229
                                    have qi229 : (0 < t223.length) = True := eq_true (by omega)
                                    (try rw [show ((0 : Int)).toNat = 0 from rfl] at hx229_0)
                                    (try rw [Addr.add_zero'] at hx229_0)
                                    replace p229 := eq_true p229
                                    replace q229 := eq_true q229
                                    have p230 : 0 ≤ (1 : Int) := (by omega)
                                    have q230 : 1 < (t223.length : Int) := of_decide_eq_true (by first | (with_reducible assumption) | assumption)
                                    obtain ⟨ad230, e230, hx230_0⟩ := Kd.at_int (Kd.R_reads' HO_13.out).2.2 1 p230 q230
                                    obtain rfl : ad229 = ad230 := (by injection e230)
                                    (try simp only [show (1 : Int).toNat = 1 from rfl, Nat.reduceMul, Nat.reduceEqDiff, Go.Addr.add, ↓reduceIte] at hx230_0)
                                    have qi230 : (1 < t223.length) = True := eq_true (by omega)
                                    (try rw [show ((1 : Int)).toNat = 1 from rfl] at hx230_0)
                                    replace p230 := eq_true p230
                                    replace q230 := eq_true q230
                                    go_wp2
                                    go_ret
                                    exact ⟨by first | rfl | (simp [errW_none, errW_some] <;> rfl) | (simp only [← hji7, ← hji9, ← hji54, ← hji56]; first | rfl | (simp [errW_none, errW_some] <;> rfl)) | (simp [*, errW_none, errW_some] <;> rfl), by repeat (first | (with_reducible first | exact HB.out | apply below_alloc | apply pw_below_drewN | apply below_drew1 | refine below_set ?_ GE210.out) | exact HB.out)⟩
                                  · rw [if_neg c61] at H
                                    exact absurd H (by simp)
                                · rw [if_neg c60] at H
                                  exact absurd H (by simp)
                              · rw [if_neg c59] at H
                                exact absurd H (by simp)
                            · rw [if_neg c58] at H
                              exact absurd H (by simp)
                          · rw [if_neg c57] at H
                            exact absurd H (by simp)
                        · rw [if_neg c55] at H
                          exact absurd H (by simp)
                      · rw [if_neg c53] at H
                        exact absurd H (by simp)
                  · rw [if_neg c35] at H
                    have c35b0 : decide (128 ≤ t209) = false := decide_eq_false c35
                    clear c35
                    by_cases c69 : (t215.length : Int) < (t219.length : Int)
                    · rw [if_pos c69] at H
                      have c69b0 : decide ((t215.length : Int) < (t219.length : Int)) = true := decide_eq_true c69
                      have c69b1 : decide (t215.length < t219.length) = true := decide_eq_true (Int.ofNat_lt.mp c69)
                      clear c69
                      by_cases c70 : (t215.length : Int) = (wrap64 (3 + (wrap64 (2 * t209))))
                      · rw [if_pos c70] at H
                        have c70b0 : ((t215.length : Int) == (wrap64 (3 + (wrap64 (2 * t209))))) = true := beq_iff_eq.mpr c70
                        have c70b1 : ((t215.length : Int) != (wrap64 (3 + (wrap64 (2 * t209))))) = false := bne_eq_false_iff_eq.mpr c70
                        clear c70
                        obtain ⟨ji71, hji71⟩ : ∃ j_ : Int, (IntKind.u64.wrap ((wrap64 (4 + t208)))) = j_ := ⟨_, rfl⟩
                        obtain rfl : ji71 = ji7 := hji71.symm.trans hji7
                        replace H : (if 0 ≤ (ji71) then (if (t219.length : Int) = (wrap64 (2 + (wrap64 (Int.tdiv (shl .i64 3 (ji71)) 4)))) then (if (strOfNums t223).toList = (strOfNums t215).toList then (if 0 < (t223.length : Int) then (if (rd t223 0) = (((wrap64 (4 + t208))) % 256) then (if 1 < (t223.length : Int) then (some (((rd t223 1) == 0) == (decide ((t215.length : Int) < (t219.length : Int))))) else (none)) else (none)) else (none)) else (none)) else (none)) else (none)) = some r := by first | (rw [hji71] at H; exact H) | (simp only [hji71] at H ⊢; exact H)
                        by_cases c72 : 0 ≤ (ji71)
                        · rw [if_pos c72] at H
                          have c72b0 := eq_true c72
                          have c72b1 : decide (0 ≤ (ji71)) = true := decide_eq_true c72
                          clear c72
                          obtain ⟨ji73, hji73⟩ : ∃ j_ : Int, (shl .i64 3 (ji71)) = j_ := ⟨_, rfl⟩
                          replace H : (if (t219.length : Int) = (wrap64 (2 + (wrap64 (Int.tdiv (ji73) 4)))) then (if (strOfNums t223).toList = (strOfNums t215).toList then (if 0 < (t223.length : Int) then (if (rd t223 0) = (((wrap64 (4 + t208))) % 256) then (if 1 < (t223.length : Int) then (some (((rd t223 1) == 0) == (decide ((t215.length : Int) < (t219.length : Int))))) else (none)) else (none)) else (none)) else (none)) else (none)) = some r := by first | (rw [hji73] at H; exact H) | (simp only [hji73] at H ⊢; exact H)
                          have hji73_ : (IntKind.i64.wrap (3 * 2 ^ min (ji71).toNat 64)) = ji73 := hji73
                          have hji73z : (ji71) ≤ 64 → (IntKind.i64.wrap (3 * 2 ^ (ji71).toNat)) = ji73 := shl_small hji73
                          have hji73y : (wrap64 (3 * 2 ^ min (ji71).toNat 64)) = ji73 := (i64_w _).symm.trans hji73_
                          have hji73x : (ji71) ≤ 64 → (wrap64 (3 * 2 ^ (ji71).toNat)) = ji73 := fun h_ => (i64_w _).symm.trans (hji73z h_)
                          by_cases c74 : (t219.length : Int) = (wrap64 (2 + (wrap64 (Int.tdiv (ji73) 4))))
                          · rw [if_pos c74] at H
                            have c74b0 : ((t219.length : Int) == (wrap64 (2 + (wrap64 (Int.tdiv (ji73) 4))))) = true := beq_iff_eq.mpr c74
                            have c74b1 : ((t219.length : Int) != (wrap64 (2 + (wrap64 (Int.tdiv (ji73) 4))))) = false := bne_eq_false_iff_eq.mpr c74
                            clear c74
                            by_cases c75 : (strOfNums t223).toList = (strOfNums t215).toList
                            · rw [if_pos c75] at H
                              have c75b0 : ((strOfNums t223).toList == (strOfNums t215).toList) = true := beq_iff_eq.mpr c75
                              have c75b1 : ((strOfNums t223).toList != (strOfNums t215).toList) = false := bne_eq_false_iff_eq.mpr c75
                              clear c75
                              by_cases c76 : 0 < (t223.length : Int)
                              · rw [if_pos c76] at H
                                have c76b0 : decide (0 < (t223.length : Int)) = true := decide_eq_true c76
                                have c76b1 : decide (0 < t223.length) = true := decide_eq_true (by omega)
                                clear c76
                                by_cases c77 : (rd t223 0) = (((wrap64 (4 + t208))) % 256)
                                · rw [if_pos c77] at H
                                  have c77b0 : ((rd t223 0) == (((wrap64 (4 + t208))) % 256)) = true := beq_iff_eq.mpr c77
                                  have c77b1 : ((rd t223 0) != (((wrap64 (4 + t208))) % 256)) = false := bne_eq_false_iff_eq.mpr c77
                                  clear c77
                                  by_cases c78 : 1 < (t223.length : Int)
                                  · rw [if_pos c78] at H
                                    have c78b0 : decide (1 < (t223.length : Int)) = true := decide_eq_true c78
                                    have c78b1 : decide (1 < t223.length) = true := decide_eq_true (by omega)
                                    clear c78
                                    obtain rfl := Option.some.inj H
                                    obtain ⟨Ao79, co79, eo79⟩ := Kd.R_slice HO_9.out
                                    subst eo79
                                    obtain ⟨Ao80, co80, eo80⟩ := Kd.R_slice HO_11.out
                                    subst eo80
                                    have hcv81 := own_string (P := Try.prog) Try.underlying33 Try.underlying5 Try.underlying9 (Kd.own_of_R HO_13.out)
                                    have hcv82 := fun nq_ : Nat => own_string (P := Try.prog) Try.underlying33 Try.underlying5 Try.underlying9 (pw_own_drewN (Kd.own_of_R HO_13.out) nq_)
                                    have hcv83 := own_string (P := Try.prog) Try.underlying33 Try.underlying5 Try.underlying9 (Kd.own_of_R HO_9.out)
                                    have hcv84 := fun nq_ : Nat => own_string (P := Try.prog) Try.underlying33 Try.underlying5 Try.underlying9 (pw_own_drewN (Kd.own_of_R HO_9.out) nq_)
                                    obtain ⟨Ao85, co85, eo85⟩ := Kd.R_slice HO_13.out
                                    subst eo85
                                    have p231 : 0 ≤ (0 : Int) := (by omega)
                                    have q231 : 0 < (t223.length : Int) := of_decide_eq_true (by first | (with_reducible assumption) | assumption)
                                    obtain ⟨ad231, e231, hx231_0⟩ := Kd.at_int (Kd.R_reads' HO_13.out).2.2 0 p231 q231
                                    cases e231
                                    have qi231 : (0 < t223.length) = True := eq_true (by omega)
                                    (try rw [show ((0 : Int)).toNat = 0 from rfl] at hx231_0)
                                    (try rw [Addr.add_zero'] at hx231_0)
                                    replace p231 := eq_true p231
                                    replace q231 := eq_true q231
                                    have p232 : 0 ≤ (1 : Int) := (by omega)
                                    have q232 : 1 < (t223.length : Int) := of_decide_eq_true (by first | (with_reducible assumption) | assumption)
                                    obtain ⟨ad232, e232, hx232_0⟩ := Kd.at_int (Kd.R_reads' HO_13.out).2.2 1 p232 q232
                                    obtain rfl : ad231 = ad232 := (by injection e232)
                                    (try simp only [show (1 : Int).toNat = 1 from rfl, Nat.reduceMul, Nat.reduceEqDiff, Go.Addr.add, ↓reduceIte] at hx232_0)
                                    have qi232 : (1 < t223.length) = True := eq_true (by omega)
                                    (try rw [show ((1 : Int)).toNat = 1 from rfl] at hx232_0)
                                    replace p232 := eq_true p232
                                    replace q232 := eq_true q232
                                    go_wp2
                                    go_ret
                                    exact ⟨by first | rfl | (simp [errW_none, errW_some] <;> rfl) | (simp only [← hji7, ← hji9, ← hji71, ← hji73]; first | rfl | (simp [errW_none, errW_some] <;> rfl)) | (simp [*, errW_none, errW_some] <;> rfl), by repeat (first | (with_reducible first | exact HB.out | apply below_alloc | apply pw_below_drewN | apply below_drew1 | refine below_set ?_ GE210.out) | exact HB.out)⟩
                                  · rw [if_neg c78] at H
                                    exact absurd H (by simp)
                                · rw [if_neg c77] at H
                                  exact absurd H (by simp)
                              · rw [if_neg c76] at H
                                exact absurd H (by simp)
                            · rw [if_neg c75] at H
                              exact absurd H (by simp)
                          · rw [if_neg c74] at H
                            exact absurd H (by simp)
                        · rw [if_neg c72] at H
                          exact absurd H (by simp)
                      · rw [if_neg c70] at H
                        exact absurd H (by simp)
                    · rw [if_neg c69] at H
                      have c69b0 : decide ((t215.length : Int) < (t219.length : Int)) = false := decide_eq_false c69
                      have c69b1 : decide (t215.length < t219.length) = false := decide_eq_false (fun h => c69 (Int.ofNat_lt.mpr h))
                      clear c69
                      by_cases c86 : (t215.length : Int) = (wrap64 (3 + (wrap64 (2 * t209))))
                      · rw [if_pos c86] at H
                        have c86b0 : ((t215.length : Int) == (wrap64 (3 + (wrap64 (2 * t209))))) = true := beq_iff_eq.mpr c86
                        have c86b1 : ((t215.length : Int) != (wrap64 (3 + (wrap64 (2 * t209))))) = false := bne_eq_false_iff_eq.mpr c86
                        clear c86
                        obtain ⟨ji87, hji87⟩ : ∃ j_ : Int, (IntKind.u64.wrap ((wrap64 (4 + t208)))) = j_ := ⟨_, rfl⟩
                        obtain rfl : ji87 = ji7 := hji87.symm.trans hji7
                        replace H : (if 0 ≤ (ji87) then (if (t219.length : Int) = (wrap64 (2 + (wrap64 (Int.tdiv (shl .i64 3 (ji87)) 4)))) then (if (strOfNums t223).toList = (strOfNums t219).toList then (if 0 < (t223.length : Int) then (if (rd t223 0) = (((wrap64 (4 + t208))) % 256) then (if 1 < (t223.length : Int) then (some (((rd t223 1) == 0) == (decide ((t215.length : Int) < (t219.length : Int))))) else (none)) else (none)) else (none)) else (none)) else (none)) else (none)) = some r := by first | (rw [hji87] at H; exact H) | (simp only [hji87] at H ⊢; exact H)
                        by_cases c88 : 0 ≤ (ji87)
                        · rw [if_pos c88] at H
                          have c88b0 := eq_true c88
                          have c88b1 : decide (0 ≤ (ji87)) = true := decide_eq_true c88
                          clear c88
                          obtain ⟨ji89, hji89⟩ : ∃ j_ : Int, (shl .i64 3 (ji87)) = j_ := ⟨_, rfl⟩
                          replace H : (if (t219.length : Int) = (wrap64 (2 + (wrap64 (Int.tdiv (ji89) 4)))) then (if (strOfNums t223).toList = (strOfNums t219).toList then (if 0 < (t223.length : Int) then (if (rd t223 0) = (((wrap64 (4 + t208))) % 256) then (if 1 < (t223.length : Int) then (some (((rd t223 1) == 0) == (decide ((t215.length : Int) < (t219.length : Int))))) else (none)) else (none)) else (none)) else (none)) else (none)) = some r := by first | (rw [hji89] at H; exact H) | (simp only [hji89] at H ⊢; exact H)
                          have hji89_ : (IntKind.i64.wrap (3 * 2 ^ min (ji87).toNat 64)) = ji89 := hji89
                          have hji89z : (ji87) ≤ 64 → (IntKind.i64.wrap (3 * 2 ^ (ji87).toNat)) = ji89 := shl_small hji89
                          have hji89y : (wrap64 (3 * 2 ^ min (ji87).toNat 64)) = ji89 := (i64_w _).symm.trans hji89_
                          have hji89x : (ji87) ≤ 64 → (wrap64 (3 * 2 ^ (ji87).toNat)) = ji89 := fun h_ => (i64_w _).symm.trans (hji89z h_)
                          by_cases c90 : (t219.length : Int) = (wrap64 (2 + (wrap64 (Int.tdiv (ji89) 4))))
                          · rw [if_pos c90] at H
                            have c90b0 : ((t219.length : Int) == (wrap64 (2 + (wrap64 (Int.tdiv (ji89) 4))))) = true := beq_iff_eq.mpr c90
                            have c90b1 : ((t219.length : Int) != (wrap64 (2 + (wrap64 (Int.tdiv (ji89) 4))))) = false := bne_eq_false_iff_eq.mpr c90
                            clear c90
                            by_cases c91 : (strOfNums t223).toList = (strOfNums t219).toList
                            · rw [if_pos c91] at H
                              have c91b0 : ((strOfNums t223).toList == (strOfNums t219).toList) = true := beq_iff_eq.mpr c91
                              have c91b1 : ((strOfNums t223).toList != (strOfNums t219).toList) = false := bne_eq_false_iff_eq.mpr c91
                              clear c91
                              by_cases c92 : 0 < (t223.length : Int)
                              · rw [if_pos c92] at H
                                have c92b0 : decide (0 < (t223.length : Int)) = true := decide_eq_true c92
                                have c92b1 : decide (0 < t223.length) = true := decide_eq_true (by omega)
                                clear c92
                                by_cases c93 : (rd t223 0) = (((wrap64 (4 + t208))) % 256)
                                · rw [if_pos c93] at H
                                  have c93b0 : ((rd t223 0) == (((wrap64 (4 + t208))) % 256)) = true := beq_iff_eq.mpr c93
                                  have c93b1 : ((rd t223 0) != (((wrap64 (4 + t208))) % 256)) = false := bne_eq_false_iff_eq.mpr c93
                                  clear c93
                                  by_cases c94 : 1 < (t223.length : Int)
                                  · rw [if_pos c94] at H
                                    have c94b0 : decide (1 < (t223.length : Int)) = true := decide_eq_true c94
                                    have c94b1 : decide (1 < t223.length) = true := decide_eq_true (by omega)
                                    clear c94
                                    obtain rfl := Option.some.inj H
                                    obtain ⟨Ao95, co95, eo95⟩ := Kd.R_slice HO_9.out
                                    subst eo95
                                    obtain ⟨Ao96, co96, eo96⟩ := Kd.R_slice HO_11.out
                                    subst eo96
                                    have hcv97 := own_string (P := Try.prog) Try.underlying33 Try.underlying5 Try.underlying9 (Kd.own_of_R HO_13.out)
                                    have hcv98 := fun nq_ : Nat => own_string (P := Try.prog) Try.underlying33 Try.underlying5 Try.underlying9 (pw_own_drewN (Kd.own_of_R HO_13.out) nq_)
                                    have hcv99 := own_string (P := Try.prog) Try.underlying33 Try.underlying5 Try.underlying9 (Kd.own_of_R HO_11.out)
                                    have hcv100 := fun nq_ : Nat => own_string (P := Try.prog) Try.underlying33 Try.underlying5 Try.underlying9 (pw_own_drewN (Kd.own_of_R HO_11.out) nq_)
                                    obtain ⟨Ao101, co101, eo101⟩ := Kd.R_slice HO_13.out
                                    subst eo101
                                    have p233 : 0 ≤ (0 : Int) := (by omega)
                                    have q233 : 0 < (t223.length : Int) := of_decide_eq_true (by first | (with_reducible assumption) | assumption)
                                    obtain ⟨ad233, e233, hx233_0⟩ := Kd.at_int (Kd.R_reads' HO_13.out).2.2 0 p233 q233
                                    cases e233
                                    have qi233 : (0 < t223.length) = True := eq_true (by omega)
                                    (try rw [show ((0 : Int)).toNat = 0 from rfl] at hx233_0)
                                    (try rw [Addr.add_zero'] at hx233_0)
                                    replace p233 := eq_true p233
                                    replace q233 := eq_true q233
                                    have p234 : 0 ≤ (1 : Int) := (by omega)
                                    have q234 : 1 < (t223.length : Int) := of_decide_eq_true (by first | (with_reducible assumption) | assumption)
                                    obtain ⟨ad234, e234, hx234_0⟩ := Kd.at_int (Kd.R_reads' HO_13.out).2.2 1 p234 q234
                                    obtain rfl : ad233 = ad234 := (by injection e234)
                                    (try simp only [show (1 : Int).toNat = 1 from rfl, Nat.reduceMul, Nat.reduceEqDiff, Go.Addr.add, ↓reduceIte] at hx234_0)
                                    have qi234 : (1 < t223.length) = True := eq_true (by omega)
                                    (try rw [show ((1 : Int)).toNat = 1 from rfl] at hx234_0)
                                    replace p234 := eq_true p234
                                    replace q234 := eq_true q234
                                    go_wp2
                                    go_ret
                                    exact ⟨by first | rfl | (simp [errW_none, errW_some] <;> rfl) | (simp only [← hji7, ← hji9, ← hji87, ← hji89]; first | rfl | (simp [errW_none, errW_some] <;> rfl)) | (simp [*, errW_none, errW_some] <;> rfl), by repeat (first | (with_reducible first | exact HB.out | apply below_alloc | apply pw_below_drewN | apply below_drew1 | refine below_set ?_ GE210.out) | exact HB.out)⟩
                                  · rw [if_neg c94] at H
                                    exact absurd H (by simp)
                                · rw [if_neg c93] at H
                                  exact absurd H (by simp)
                              · rw [if_neg c92] at H
                                exact absurd H (by simp)
                            · rw [if_neg c91] at H
                              exact absurd H (by simp)
                          · rw [if_neg c90] at H
                            exact absurd H (by simp)
                        · rw [if_neg c88] at H
                          exact absurd H (by simp)
                      · rw [if_neg c86] at H
                        exact absurd H (by simp)
    · rw [if_neg c8] at H
      exact absurd H (by simp)
  · replace c5 := Bool.eq_false_iff.mpr c5
    subst c5
    have H1 : (none) = some r := by rw [if_neg (show ¬ (false = true) by decide)] at H; exact H
    clear H
    have H := H1
    clear H1
    exact absurd H (by simp)

/-- THE ONE PURE STATEMENT of tallymanlaw15_DenseShort: yours. -/
def tallymanlaw15_DenseShort.Pure : Prop := ∀ (a0 : Int) (a1 : Int) (a2 : Int), (Lit.int .i64 a0).wf = true → (Lit.int .i64 a1).wf = true → (Lit.int .i64 a2).wf = true → ∃ k, tallymanlaw15_DenseShort.f k a0 a1 a2 = some true
theorem tallymanlaw15_DenseShort.walk (P : tallymanlaw15_DenseShort.Pure) (a0 : Int) (a1 : Int) (a2 : Int) (w : World) (w0 : (Lit.int .i64 a0).wf = true) (w1 : (Lit.int .i64 a1).wf = true) (w2 : (Lit.int .i64 a2).wf = true) :
    Calls Try.prog 4 #[.int .i64 a0, .int .i64 a1, .int .i64 a2] w fun e w' => e = .returned (.bool true) ∧ Below w.heap.size w w' := by
  obtain ⟨k, h⟩ := P a0 a1 a2 w0 w1 w2
  refine (tallymanlaw15_DenseShort.calls k a0 a1 a2 true w h).mono ?_
  rintro e w' ⟨rfl, hd⟩
  exact ⟨rfl, hd⟩

end Go.Proofs.Ytbclnjinpcfpjaa.H
