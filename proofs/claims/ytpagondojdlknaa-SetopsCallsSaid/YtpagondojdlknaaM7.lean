/- Contracts of Go functions, walked by hand: each call comes to the Lean function beside it and leaves what was there before. -/
import Derived.Test.YtpagondojdlknaaProg
import Derived.Below
import Derived.Deep.Draws
import Derived.Deep.AppendLies
import Derived.Maps.AppendAt
import Derived.OwnWalk
import Derived.Laws.BytesArg
import Derived.Laws.MakeOwn
import Derived.Laws.OwnMore
import Derived.Deep.OwnRows
import Derived.Tactics
import Derived.Lib.ConvBytes
import Derived.Laws.Slices
import Derived.WalkKit
import Derived.KernelRfl
import Derived.RowKit3
import Derived.Deep.LoopGhost
import Derived.Deep.QuietTactic
import Derived.BigQuiet
import Derived.WideLaws
import Derived.Deep.DeepCutAuto
import Derived.Deep.CutBlock
import Derived.Deep.RegionHeld3
import Derived.Laws.Rows
import Derived.Lib.AppendStr
import Derived.ArgAppend
import Derived.Laws.IdiomCopy
import Derived.OrdersHeld
import Derived.Laws.BitsLemmas
import Derived.RowKit
import Derived.WalkSpells
import Derived.WalkLawsBesides
import Derived.Laws.Bits64b
import Derived.Laws.BitsAllLaws
import Derived.Maps.OwnSet
import Derived.Test.YtpagondojdlknaaVU
import Derived.Test.YtpagondojdlknaaM4
namespace Go.Proofs.Ytpagondojdlknaa.H
open Go.RowKit Go.Proofs.YtpagondojdlknaaW.PrintWords Go.Proofs.YtpagondojdlknaaW.PrintLast Go.Proofs.YtpagondojdlknaaW.PrintMore
attribute [local go_sem] max2_int min2_int max_two min_two max_three min_three max_four min_four
set_option linter.unusedVariables false
set_option linter.unusedSimpArgs false

/-- A slice that is nil has no elements. -/
theorem C_none_nil {α : Type} {d : Kd α} {w : World} {n : Nat} {xs : List α} (h : Kd.C d w none n xs) : xs = [] := by
  obtain ⟨h1, _, h3⟩ := h
  rcases Nat.eq_zero_or_pos n with h0 | h0
  · exact List.eq_nil_of_length_eq_zero (h1.trans h0)
  · obtain ⟨ad, e, _⟩ := h3 h0
    cases e
def slices_Clone_uint64_uint64.f (l0 : List Int) : Option (List Int) := if l0.length < 140737488355328 / 8 then some l0 else none
set_option maxHeartbeats 8000000 in
set_option maxRecDepth 100000 in
theorem slices_Clone_uint64_uint64.calls (A0 : Option Addr) (c0 : Nat) (l0 : List Int) (r : List Int) (w : World) (hr0 : Kd.C (Kd.int .u64) w A0 l0.length l0) (hc0 : l0.length ≤ c0) (h : slices_Clone_uint64_uint64.f l0 = some r) :
    Calls Try.prog 75 #[.slice A0 l0.length c0] w fun e w' => ∃ v0_ : Value, e = .returned (v0_) ∧ Kd.R (Kd.int .u64) 22 w' w.heap.size (fun _ => True) v0_ r ∧ Below w.heap.size w w' := by
  unfold slices_Clone_uint64_uint64.f at h
  split at h
  case isFalse => cases h
  case isTrue hl =>
  obtain rfl := Option.some.inj h
  clear h
  have heq := fun (wx : World) (a : Option Addr) (n c : Nat) => Lib.run_eql_slice_nil (P := Try.prog) wx 23 22 a n c 0 0 Try.underlying23
  cases A0 with
  | none =>
    obtain rfl := C_none_nil hr0
    clear hr0
    go_enter Try.func75, Try.ntmps75
    go_wp2
    go_ret
    exact ⟨_, rfl, Kd.R_nil _ _ _ _ _, Below.refl _ _⟩
  | some ad =>
    have HR0 := Aside0.mk hr0
    have LM := Aside0.mk hl
    clear hr0 hl
    have HB := Aside0.mk (Below.refl w.heap.size w)
    go_enter Try.func75, Try.ntmps75
    go_wp2_with (first
      | ((with_reducible refine gate_dst (N := 5) rfl ?_); refine Kd.R_lit (Kd.int .u64) _ 22 ?hg (N := 5) ?hd (xs := ([] : List Int)) (inner := []) (ok := fun _ => True) (okp := fun _ => True) ?hr ?hp (fun _ hk => hk) trivial (Below.refl _ _) (Nat.le_refl _) (by simp) ?_; (case hd => rfl); (case hg => rfl); (case hr => first | (go_simp; done) | (go_simp; rfl)); (case hp => exact (Reps.none _ _)); intro v225 w3 ho4 hb hg_ hnew_; clear hg_ hnew_; have n0_ := Aside0.mk (Kd.R_lower ho4 (below_size (by repeat (first | (with_reducible first | exact HB.out | apply below_alloc | apply pw_below_drewN | apply below_drew1) | exact HB.out)))); have n1_ := Aside0.mk (below_step (by repeat (first | (with_reducible first | exact HB.out | apply below_alloc | apply pw_below_drewN | apply below_drew1) | exact HB.out)) hb); clear HB; have HO226 := n0_; have HB := n1_; clear n0_ n1_; clear hb ho4)
      | ((with_reducible refine gate_builtin (b := .append) (xs := #[.tmp 5, .tmp 6]) rfl ?_); at_builtin; refine Kd.R_append_rows (Kd.int .u64) (w0 := w) w.heap.size rfl (.tmp 5) (.tmp 6) 23 22 (.int .u64 0) 8 rfl Try.underlying23 minfo_u64 rfl (by decide) (by omega) v225 [] l0 _ _ _ (fun _ => True) (fun _ => False) rfl rfl ?aO ?aR (fun _ _ h => h) (fun _ h => h.elim) ?aF ?aB ?aS ?aL ?_; (case aR => repeat (first | exact (Kd.C_below HR0.out HB.out) | (with_reducible refine Kd.C_alloc ?_ _) | (with_reducible refine Kd.C_drewN ?_ _) | (with_reducible refine Kd.C_drew ?_))); (case aB => exact (by repeat (first | (with_reducible first | exact HB.out | apply below_alloc | apply pw_below_drewN | apply below_drew1) | exact HB.out))); (case aF => exact (fun _ _ => trivial)); (case aO => exact (by (with_reducible repeat (first | apply Kd.R_alloc | apply Kd.R_drewN | apply Kd.R_drew)); exact HO226.out)); (case aS => exact (below_size (by repeat (first | (with_reducible first | exact HB.out | apply below_alloc | apply pw_below_drewN | apply below_drew1) | exact HB.out)))); (case aL => have := LM.out; simp; omega); intro v228 w5 ho hb hg hat; have n0_ := Aside0.mk (hb); have n1_ := Aside0.mk (ho); clear HB; clear HO226; have HB := n0_; have HO229 := n1_; clear n0_ n1_; clear ho hb hg hat))
    go_ret
    exact ⟨_, rfl, by (with_reducible repeat (first | apply Kd.R_alloc | apply Kd.R_drewN | apply Kd.R_drew)); simpa using HO229.out, by repeat (first | (with_reducible first | exact HB.out | apply below_alloc | apply pw_below_drewN | apply below_drew1) | exact HB.out)⟩
/-! ### setops.Cut -/
def cutS (la : Int) (a : List Int) (x : Int) : Int × List Int × Int :=
  if vchk la a = 0 then (if x = 0 ∨ (¬ la = 0 ∧ la < x) then (0, [], 2) else (x, belowS a x, 0)) else (0, [], vchk la a)
def setops_Cut.f (a0_0 : Int) (l0_1 : List Int) (a1 : Int) : Option (Int × List Int × Int) := some (cutS a0_0 l0_1 a1)
set_option maxHeartbeats 2000000 in
set_option maxRecDepth 100000 in
theorem setops_Cut.calls (a0_0 : Int) (A0_1 : Option Addr) (c0_1 : Nat) (l0_1 : List Int) (a1 : Int) (r1 : Int) (r2 : List Int) (r3 : Int) (w : World) (hr0_1 : Kd.C (Kd.int .u64) w A0_1 l0_1.length l0_1) (hc0_1 : l0_1.length ≤ c0_1) (h : setops_Cut.f a0_0 l0_1 a1 = some (r1, r2, r3)) :
    Calls Try.prog 28 #[.agg #[.int .u64 a0_0, .slice A0_1 l0_1.length c0_1], .int .u64 a1] w fun e w' => ∃ v1_ : Value, e = .returned (.tuple #[.agg #[.int .u64 r1, v1_], .int .i64 r3]) ∧ Kd.R (Kd.int .u64) 22 w' w.heap.size (fun _ => True) v1_ r2 ∧ Below w.heap.size w w' := by
  have h := Option.some.inj h
  have HV := Aside0.mk h
  have HR0 := Aside0.mk hr0_1
  have HC0 := Aside0.mk hc0_1
  have HB := Aside0.mk (Below.refl w.heap.size w)
  obtain ⟨k1, hk1⟩ := check_ev a0_0 l0_1
  obtain ⟨e1, he1⟩ : ∃ e1, vchk a0_0 l0_1 = e1 := ⟨_, rfl⟩
  rw [he1] at hk1
  have HK1 := Aside0.mk hk1
  have HE1 := Aside0.mk he1
  clear h hr0_1 hc0_1 hk1 he1
  have hu25 := Try.underlying25
  by_cases h1 : e1 = 0
  · have t1 : (e1 != 0) = false := by simpa using h1
    have HZ1 := Aside0.mk h1
    clear h1
    by_cases h2 : a1 = 0 ∨ (¬ a0_0 = 0 ∧ a0_0 < a1)
    · have hv : cutS a0_0 l0_1 a1 = (0, [], 2) := by unfold cutS; rw [HE1.out, if_pos HZ1.out, if_pos h2]
      rw [HV.out] at hv
      injection hv with hv1 hv
      injection hv with hv2 hv3
      subst hv1
      subst hv2
      subst hv3
      have hcs : ((a1 == 0) = true) ∨ ((a1 == 0) = false ∧ (a0_0 != 0) = true ∧ decide (a0_0 < a1) = true) := by
        by_cases h3 : a1 = 0
        · exact .inl (by simpa using h3)
        · rcases h2 with h2 | h2
          · exact absurd h2 h3
          · exact .inr ⟨by simpa using h3, by simpa using h2.1, by simpa using h2.2⟩
      clear h2
      rcases hcs with t2 | ⟨t2, t3, t4⟩
      all_goals
        go_enter Try.func28, Try.ntmps28
        go_wp2_with (first
          | ((with_reducible refine gate_dst (N := 2) rfl ?_); refine box_event ?hg (N := 2) ?hd (cs := #[.int .u64 a0_0, .slice A0_1 l0_1.length c0_1]) (t := 25) ?hr ?_; (case hd => rfl); (case hg => rfl); (case hr => first | (go_simp; done) | (go_simp; rfl)); intro ga hg w2 hbox hb; have GA := Aside0.mk (by have := HB.out.size; omega : w.heap.size ≤ ga); have NNBA := Aside0.mk (Nat.le_of_eq hg.symm); have hB2 := below_step HB.out hb; clear HB ; have HB := Aside0.mk hB2; clear hB2 ; have BA := Aside0.mk hbox; clear hbox hb hg)
          | (((with_reducible refine gate_dst (N := 4) rfl ?_); refine box_event ?hg (N := 4) ?hd (cs := #[.int .u64 0, .slice none 0 0]) (t := 25) ?hr ?_; (case hd => rfl); (case hg => rfl); (case hr => first | (go_simp; done) | (go_simp; rfl)); intro gr hg w4 hbox hb; have GR := Aside0.mk (by have := HB.out.size; omega : w.heap.size ≤ gr); have NNBR := Aside0.mk (Nat.le_of_eq hg.symm); have hB2 := below_step HB.out hb; have z_BA := blk_below BA.out hb; clear HB BA; have HB := Aside0.mk hB2; have BA := Aside0.mk z_BA; clear hB2 z_BA; have BR := Aside0.mk hbox; clear hbox hb hg); have hca0 := blk_cell BA.out 0; have hca1 := blk_cell BA.out 1)
          | (go_at_call 16; refine (B.setops_Check.calls k1 a0_0 A0_1 c0_1 l0_1 e1 _ (Kd.C_below HR0.out HB.out) HC0.out HK1.out).mono ?_; rintro e w7 ⟨rfl, hb⟩; have hB2 := below_step HB.out hb; have z_BA := blk_below BA.out hb; have z_BR := blk_below BR.out hb; clear HB BA BR; have HB := Aside0.mk hB2; have BA := Aside0.mk z_BA; have BR := Aside0.mk z_BR; clear hB2 z_BA z_BR; clear hb hca0 hca1; have hca0 := blk_cell BA.out 0; have hca1 := blk_cell BA.out 1; have hr0 := blk_cell BR.out 0; have hr1 := blk_cell BR.out 1; have hf0 := blk_frozen BR.out 0; have hf1 := blk_frozen BR.out 1))
        repeat (go_quiet (fail); try go_wp2)
        refine bodyPost_ret (results_ct rfl _ _ gr 25 #[.int .u64 0, .slice none 0 0] (0, 0) _ rfl (by (with_reducible repeat (first | refine blk_drewN ?_ _ | refine blk_drew ?_ | refine blk_alloc ?_ _)); refine blk_put (cs := #[.int .u64 0, .slice none 0 0]) (blk_put (cs := #[.int .u64 0, .slice none 0 0]) BR.out 0 _ rfl) 1 _ rfl) Try.underlying25 rfl (by kernel_rfl)) rfl ?_
        exact ⟨_, rfl, Kd.R_nil _ _ _ _ _, by repeat (first | (with_reducible exact HB.out) | (with_reducible refine Below.drew ?_) | (with_reducible refine pw_below_drewN ?_ _) | refine below_set ?_ GR.out)⟩
    · have hn1 : ¬ a1 = 0 := fun h => h2 (.inl h)
      have hn2 : a0_0 = 0 ∨ ¬ a0_0 < a1 := by
        by_cases h3 : a0_0 = 0
        · exact .inl h3
        · exact .inr (fun h => h2 (.inr ⟨h3, h⟩))
      have hv : cutS a0_0 l0_1 a1 = (a1, belowS l0_1 a1, 0) := by unfold cutS; rw [HE1.out, if_pos HZ1.out, if_neg h2]
      rw [HV.out] at hv
      injection hv with hv1 hv
      injection hv with hv2 hv3
      obtain ⟨X, hX⟩ : ∃ X, belowS l0_1 a1 = X := ⟨_, rfl⟩
      rw [hX] at hv2
      have HXL : Aside0 (X.length ≤ l0_1.length ∧ l0_1.length ≤ 8192) := ⟨by rw [← hX]; unfold belowS; split; exact Nat.le_refl _; rw [List.length_take]; omega, (vchk_inc (HE1.out.trans HZ1.out)).2⟩
      have HXC : Aside0 (∀ W, Kd.C (Kd.int .u64) W A0_1 l0_1.length l0_1 → Kd.C (Kd.int .u64) W A0_1 X.length X) := ⟨fun W h => by rw [← hX]; exact belowS_C a1 h⟩
      have HBL : Aside0 (∀ W, Below w.heap.size w W → Calls Try.prog 77 #[.slice A0_1 l0_1.length c0_1, .int .u64 a1] W fun e W' => e = .returned (.slice A0_1 X.length c0_1) ∧ Drawn0 W W') := ⟨fun W hW => by have := setops_below_any A0_1 c0_1 l0_1 a1 W (Kd.C_below HR0.out hW) HC0.out (vchk_inc (HE1.out.trans HZ1.out)).1 (vchk_inc (HE1.out.trans HZ1.out)).2; rw [hX] at this; exact this⟩
      have t2 : (a1 == 0) = false := by simpa using hn1
      have hcs : ((a0_0 != 0) = false) ∨ ((a0_0 != 0) = true ∧ decide (a0_0 < a1) = false) := by
        by_cases h3 : a0_0 = 0
        · exact .inl (by simpa using h3)
        · rcases hn2 with h4 | h4
          · exact absurd h4 h3
          · exact .inr ⟨by simpa using h3, by simpa using h4⟩
      subst hv1
      subst hv2
      subst hv3
      clear h2 hn1 hn2 hX
      rcases hcs with t3 | ⟨t3, t4⟩
      all_goals
        go_enter Try.func28, Try.ntmps28
        go_wp2_with (first
          | ((with_reducible refine gate_dst (N := 2) rfl ?_); refine box_event ?hg (N := 2) ?hd (cs := #[.int .u64 a0_0, .slice A0_1 l0_1.length c0_1]) (t := 25) ?hr ?_; (case hd => rfl); (case hg => rfl); (case hr => first | (go_simp; done) | (go_simp; rfl)); intro ga hg w2 hbox hb; have GA := Aside0.mk (by have := HB.out.size; omega : w.heap.size ≤ ga); have NNBA := Aside0.mk (Nat.le_of_eq hg.symm); have hB2 := below_step HB.out hb; clear HB ; have HB := Aside0.mk hB2; clear hB2 ; have BA := Aside0.mk hbox; clear hbox hb hg)
          | (((with_reducible refine gate_dst (N := 4) rfl ?_); refine box_event ?hg (N := 4) ?hd (cs := #[.int .u64 0, .slice none 0 0]) (t := 25) ?hr ?_; (case hd => rfl); (case hg => rfl); (case hr => first | (go_simp; done) | (go_simp; rfl)); intro gr hg w4 hbox hb; have GR := Aside0.mk (by have := HB.out.size; omega : w.heap.size ≤ gr); have NNBR := Aside0.mk (Nat.le_of_eq hg.symm); have hB2 := below_step HB.out hb; have z_BA := blk_below BA.out hb; clear HB BA; have HB := Aside0.mk hB2; have BA := Aside0.mk z_BA; clear hB2 z_BA; have BR := Aside0.mk hbox; clear hbox hb hg); have hca0 := blk_cell BA.out 0; have hca1 := blk_cell BA.out 1)
          | (go_at_call 16; refine (B.setops_Check.calls k1 a0_0 A0_1 c0_1 l0_1 e1 _ (Kd.C_below HR0.out HB.out) HC0.out HK1.out).mono ?_; rintro e w7 ⟨rfl, hb⟩; have hB2 := below_step HB.out hb; have z_BA := blk_below BA.out hb; have z_BR := blk_below BR.out hb; clear HB BA BR; have HB := Aside0.mk hB2; have BA := Aside0.mk z_BA; have BR := Aside0.mk z_BR; clear hB2 z_BA z_BR; clear hb hca0 hca1; have hca0 := blk_cell BA.out 0; have hca1 := blk_cell BA.out 1; have hr0 := blk_cell BR.out 0; have hr1 := blk_cell BR.out 1; have hf0 := blk_frozen BR.out 0; have hf1 := blk_frozen BR.out 1)
          | (go_at_call 77; refine (HBL.out _ HB.out).mono ?_; rintro e w9 ⟨rfl, hd⟩; have hb := hd.below; have hB2 := below_step HB.out hb; have z_BA := blk_below BA.out hb; have z_BR := blk_below BR.out hb; clear HB BA BR; have HB := Aside0.mk hB2; have BA := Aside0.mk z_BA; have BR := Aside0.mk z_BR; clear hB2 z_BA z_BR; clear hd hb; have hr0 := blk_cell BR.out 0; have hr1 := blk_cell BR.out 1; have hf0 := blk_frozen BR.out 0; have hf1 := blk_frozen BR.out 1)
          | (go_at_call 75; refine (slices_Clone_uint64_uint64.calls A0_1 c0_1 r2 r2 _ (HXC.out _ (Kd.C_below HR0.out HB.out)) (by have := HXL.out; have := HC0.out; omega) (by unfold slices_Clone_uint64_uint64.f; rw [if_pos (by have := HXL.out; omega)])).mono ?_; rintro e w10 ⟨v, rfl, ho, hb⟩; have HO := Aside0.mk (Kd.R_lower ho HB.out.size); have hB2 := below_step HB.out hb; have z_BA := blk_below BA.out hb; have z_BR := blk_below BR.out hb; clear HB BA BR; have HB := Aside0.mk hB2; have BA := Aside0.mk z_BA; have BR := Aside0.mk z_BR; clear hB2 z_BA z_BR; obtain ⟨Az, cz, ev⟩ := Kd.R_slice HO.out; subst ev; clear ho hb hr0 hr1 hf0 hf1; have hr0 := blk_cell BR.out 0; have hr1 := blk_cell BR.out 1; have hf0 := blk_frozen BR.out 0; have hf1 := blk_frozen BR.out 1))
        repeat (go_quiet (fail); try go_wp2)
        refine bodyPost_ret (results_ct rfl _ _ gr 25 #[.int .u64 r1, .slice Az r2.length cz] (0, 0) _ rfl (by (with_reducible repeat (first | refine blk_drewN ?_ _ | refine blk_drew ?_ | refine blk_alloc ?_ _)); refine blk_put (cs := #[.int .u64 r1, .slice none 0 0]) (blk_put (cs := #[.int .u64 0, .slice none 0 0]) BR.out 0 _ rfl) 1 _ rfl) Try.underlying25 rfl (by kernel_rfl)) rfl ?_
        exact ⟨_, rfl, by (with_reducible repeat (first | apply Kd.R_alloc | apply Kd.R_drewN | apply Kd.R_drew)); exact Kd.R_mono (Kd.R_far (p := ⟨gr, 1, none⟩) (Kd.R_far (p := ⟨gr, 0, none⟩) (Kd.R_types HO.out BR.out (by decide)) (fun _ hk => hk.2) _) (fun _ hk => hk.2) _) (fun _ _ => trivial), by repeat (first | (with_reducible exact HB.out) | (with_reducible refine Below.drew ?_) | (with_reducible refine pw_below_drewN ?_ _) | refine below_set ?_ GR.out)⟩
  · have t1 : (e1 != 0) = true := by simpa using h1
    have hv : cutS a0_0 l0_1 a1 = (0, [], e1) := by unfold cutS; rw [HE1.out, if_neg h1]
    rw [HV.out] at hv
    injection hv with hv1 hv
    injection hv with hv2 hv3
    subst hv1
    subst hv2
    obtain rfl := hv3.symm
    clear h1
    go_enter Try.func28, Try.ntmps28
    go_wp2_with (first
      | ((with_reducible refine gate_dst (N := 2) rfl ?_); refine box_event ?hg (N := 2) ?hd (cs := #[.int .u64 a0_0, .slice A0_1 l0_1.length c0_1]) (t := 25) ?hr ?_; (case hd => rfl); (case hg => rfl); (case hr => first | (go_simp; done) | (go_simp; rfl)); intro ga hg w2 hbox hb; have GA := Aside0.mk (by have := HB.out.size; omega : w.heap.size ≤ ga); have NNBA := Aside0.mk (Nat.le_of_eq hg.symm); have hB2 := below_step HB.out hb; clear HB ; have HB := Aside0.mk hB2; clear hB2 ; have BA := Aside0.mk hbox; clear hbox hb hg)
      | (((with_reducible refine gate_dst (N := 4) rfl ?_); refine box_event ?hg (N := 4) ?hd (cs := #[.int .u64 0, .slice none 0 0]) (t := 25) ?hr ?_; (case hd => rfl); (case hg => rfl); (case hr => first | (go_simp; done) | (go_simp; rfl)); intro gr hg w4 hbox hb; have GR := Aside0.mk (by have := HB.out.size; omega : w.heap.size ≤ gr); have NNBR := Aside0.mk (Nat.le_of_eq hg.symm); have hB2 := below_step HB.out hb; have z_BA := blk_below BA.out hb; clear HB BA; have HB := Aside0.mk hB2; have BA := Aside0.mk z_BA; clear hB2 z_BA; have BR := Aside0.mk hbox; clear hbox hb hg); have hca0 := blk_cell BA.out 0; have hca1 := blk_cell BA.out 1)
      | (go_at_call 16; refine (B.setops_Check.calls k1 a0_0 A0_1 c0_1 l0_1 e1 _ (Kd.C_below HR0.out HB.out) HC0.out HK1.out).mono ?_; rintro e w7 ⟨rfl, hb⟩; have hB2 := below_step HB.out hb; have z_BA := blk_below BA.out hb; have z_BR := blk_below BR.out hb; clear HB BA BR; have HB := Aside0.mk hB2; have BA := Aside0.mk z_BA; have BR := Aside0.mk z_BR; clear hB2 z_BA z_BR; clear hb hca0 hca1; have hca0 := blk_cell BA.out 0; have hca1 := blk_cell BA.out 1; have hr0 := blk_cell BR.out 0; have hr1 := blk_cell BR.out 1; have hf0 := blk_frozen BR.out 0; have hf1 := blk_frozen BR.out 1))
    refine bodyPost_ret (results_ct rfl _ _ gr 25 #[.int .u64 0, .slice none 0 0] (0, 0) _ rfl (by refine blk_put (cs := #[.int .u64 0, .slice none 0 0]) (blk_put (cs := #[.int .u64 0, .slice none 0 0]) BR.out 0 _ rfl) 1 _ rfl) Try.underlying25 rfl (by kernel_rfl)) rfl ?_
    exact ⟨_, rfl, Kd.R_nil _ _ _ _ _, below_set (below_set HB.out GR.out) GR.out⟩

end Go.Proofs.Ytpagondojdlknaa.H
