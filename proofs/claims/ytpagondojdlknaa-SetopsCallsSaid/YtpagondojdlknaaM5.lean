/- Contracts of Go functions, walked by hand: each call comes to the Lean function beside it and leaves what was there before. -/
import Derived.Test.YtpagondojdlknaaProg
import Derived.Below
import Derived.Deep.Draws
import Derived.Deep.AppendLies
import Derived.Maps.AppendAt
import Derived.OwnWalk
import Derived.Laws.BytesArg
import Derived.Laws.MakeOwn
import Derived.Laws.OwnMore
import Derived.Deep.OwnRows
import Derived.Tactics
import Derived.Lib.ConvBytes
import Derived.Laws.Slices
import Derived.WalkKit
import Derived.KernelRfl
import Derived.RowKit3
import Derived.Deep.LoopGhost
import Derived.Deep.QuietTactic
import Derived.BigQuiet
import Derived.WideLaws
import Derived.Deep.DeepCutAuto
import Derived.Deep.CutBlock
import Derived.Deep.RegionHeld3
import Derived.Laws.Rows
import Derived.Lib.AppendStr
import Derived.ArgAppend
import Derived.Laws.IdiomCopy
import Derived.OrdersHeld
import Derived.Laws.BitsLemmas
import Derived.RowKit
import Derived.WalkSpells
import Derived.WalkLawsBesides
import Derived.Laws.Bits64b
import Derived.Laws.BitsAllLaws
import Derived.Maps.OwnSet
import Derived.Test.YtpagondojdlknaaVU
import Derived.Test.YtpagondojdlknaaM4
namespace Go.Proofs.Ytpagondojdlknaa.H
open Go.RowKit Go.Proofs.YtpagondojdlknaaW.PrintWords Go.Proofs.YtpagondojdlknaaW.PrintLast Go.Proofs.YtpagondojdlknaaW.PrintMore
attribute [local go_sem] max2_int min2_int max_two min_two max_three min_three max_four min_four
set_option linter.unusedVariables false
set_option linter.unusedSimpArgs false

/-! ### The rules, and what is made by them -/
theorem KB.toBelow {w W : World} (h : KB (fun _ => False) w W) : Below w.heap.size w W := ⟨h.os, h.tape, h.output, h.size, fun k hk => h.block k hk (fun hf => hf)⟩

theorem in_either_any (a b : Bool) (w : World) : Calls Try.prog 67 #[.agg #[.bool a, .bool b]] w fun e w' => e = .returned (.bool (a || b)) ∧ Below w.heap.size w w' := by
  cases a <;> cases b <;>
  (go_enter Try.func67, Try.ntmps67
   go_wp2
   try go_quiet (fail)
   try go_wp2
   go_ret
   exact ⟨rfl, by repeat (first | with_reducible exact Below.refl _ _ | refine Below.drew ?_ | refine Below.alloc ?_ (by simp) _)⟩)
def pEither : P3 → Bool := fun x => x.2.1 || x.2.2
def setops_Either.f (a0_0 : Int) (l0_1 : List Int) (a1_0 : Int) (l1_1 : List Int) : Option (Int × List Int × Int) := some ((madeF pEither a0_0 l0_1 a1_0 l1_1).1.1, (madeF pEither a0_0 l0_1 a1_0 l1_1).1.2, (madeF pEither a0_0 l0_1 a1_0 l1_1).2)

set_option maxHeartbeats 1000000 in
set_option maxRecDepth 100000 in
theorem setops_Either.calls (a0_0 : Int) (A0_1 : Option Addr) (c0_1 : Nat) (l0_1 : List Int) (a1_0 : Int) (A1_1 : Option Addr) (c1_1 : Nat) (l1_1 : List Int) (r1 : Int) (r2 : List Int) (r3 : Int) (w : World) (hr0_1 : Kd.C (Kd.int .u64) w A0_1 l0_1.length l0_1) (hc0_1 : l0_1.length ≤ c0_1) (hr1_1 : Kd.C (Kd.int .u64) w A1_1 l1_1.length l1_1) (hc1_1 : l1_1.length ≤ c1_1) (h : setops_Either.f a0_0 l0_1 a1_0 l1_1 = some (r1, r2, r3)) :
    Calls Try.prog 17 #[.agg #[.int .u64 a0_0, .slice A0_1 l0_1.length c0_1], .agg #[.int .u64 a1_0, .slice A1_1 l1_1.length c1_1]] w fun e w' => ∃ v1_ : Value, e = .returned (.tuple #[.agg #[.int .u64 r1, v1_], .int .i64 r3]) ∧ Kd.R (Kd.int .u64) 22 w' w.heap.size (fun _ => True) v1_ r2 ∧ Below w.heap.size w w' := by
  have h := Option.some.inj h
  rw [madeF_eq] at h
  injection h with e1 h
  injection h with e2 e3
  obtain ⟨m, hm⟩ : ∃ m, madeS pEither a0_0 l0_1 a1_0 l1_1 = m := ⟨_, rfl⟩
  rw [hm] at e1 e2 e3
  subst e1
  subst e2
  subst e3
  have HM := Aside0.mk hm
  have HR0 := Aside0.mk hr0_1
  have HC0 := Aside0.mk hc0_1
  have HR1 := Aside0.mk hr1_1
  have HC1 := Aside0.mk hc1_1
  have HB := Aside0.mk (Below.refl w.heap.size w)
  clear hm hr0_1 hc0_1 hr1_1 hc1_1
  have HMD : Aside0 (∀ W, Below w.heap.size w W → Calls Try.prog 66 #[.agg #[.int .u64 a0_0, .slice A0_1 l0_1.length c0_1], .agg #[.int .u64 a1_0, .slice A1_1 l1_1.length c1_1], .func (.func 67) #[] #[]] W fun e W' => ∃ A c, e = .returned (.tuple #[.agg #[.int .u64 m.1.1, .slice A m.1.2.length c], .int .i64 m.2]) ∧ Kd.R (Kd.int .u64) 22 W' W.heap.size (fun _ => True) (.slice A m.1.2.length c) m.1.2 ∧ Below W.heap.size W W') := ⟨fun W hW =>
    (made_any 67 #[] (enters_ Try.func67 (by kernel_rfl) rfl) (fun _ => False) pEither (fun _ _ => True) a0_0 a1_0 A0_1 A1_1 c0_1 c1_1 l0_1 l1_1 W (Kd.C_below HR0.out hW) HC0.out (Kd.C_below HR1.out hW) HC1.out (fun k hk => hk.elim) (fun _ _ _ hk => hk) (fun _ _ _ hk => hk) (fun _ _ _ _ _ => trivial)
      (fun pre z W' _ => (in_either_any z.2.1 z.2.2 W').mono (fun e W2 he => ⟨he.1, trivial, KB.of_below he.2⟩)) trivial).mono (fun e W' he => by
        obtain ⟨v, h1, h2, h3, _⟩ := he
        rw [HM.out] at h1 h2
        obtain ⟨A, c, ev⟩ := Kd.R_slice h2
        subst ev
        exact ⟨A, c, h1, h2, h3.toBelow⟩)⟩
  have hu25 := Try.underlying25
  go_enter Try.func17, Try.ntmps17
  go_wp2_with (first
    | ((with_reducible refine gate_dst (N := 2) rfl ?_); refine box_event ?hg (N := 2) ?hd (cs := #[.int .u64 a0_0, .slice A0_1 l0_1.length c0_1]) (t := 25) ?hr ?_; (case hd => rfl); (case hg => rfl); (case hr => first | (go_simp; done) | (go_simp; rfl)); intro ga hg w2 hbox hb; have GA := Aside0.mk (by have := HB.out.size; omega : w.heap.size ≤ ga); have NNBA := Aside0.mk (Nat.le_of_eq hg.symm); have hB2 := below_step HB.out hb; clear HB ; have HB := Aside0.mk hB2; clear hB2 ; have BA := Aside0.mk hbox; clear hbox hb hg)
    | ((with_reducible refine gate_dst (N := 3) rfl ?_); refine box_event ?hg (N := 3) ?hd (cs := #[.int .u64 a1_0, .slice A1_1 l1_1.length c1_1]) (t := 25) ?hr ?_; (case hd => rfl); (case hg => rfl); (case hr => first | (go_simp; done) | (go_simp; rfl)); intro gb hg w3 hbox hb; have GB := Aside0.mk (by have := HB.out.size; omega : w.heap.size ≤ gb); have NNBB := Aside0.mk (Nat.le_of_eq hg.symm); have hB2 := below_step HB.out hb; have z_BA := blk_below BA.out hb; clear HB BA; have HB := Aside0.mk hB2; have BA := Aside0.mk z_BA; clear hB2 z_BA; have BB := Aside0.mk hbox; clear hbox hb hg)
    | (((with_reducible refine gate_dst (N := 4) rfl ?_); refine box_event ?hg (N := 4) ?hd (cs := #[.int .u64 0, .slice none 0 0]) (t := 25) ?hr ?_; (case hd => rfl); (case hg => rfl); (case hr => first | (go_simp; done) | (go_simp; rfl)); intro gr hg w4 hbox hb; have GR := Aside0.mk (by have := HB.out.size; omega : w.heap.size ≤ gr); have NNBR := Aside0.mk (Nat.le_of_eq hg.symm); have hB2 := below_step HB.out hb; have z_BA := blk_below BA.out hb; have z_BB := blk_below BB.out hb; clear HB BA BB; have HB := Aside0.mk hB2; have BA := Aside0.mk z_BA; have BB := Aside0.mk z_BB; clear hB2 z_BA z_BB; have BR := Aside0.mk hbox; clear hbox hb hg); have hca0 := blk_cell BA.out 0; have hca1 := blk_cell BA.out 1; have hcb0 := blk_cell BB.out 0; have hcb1 := blk_cell BB.out 1)
    | (go_at_call 66; refine (HMD.out _ HB.out).mono ?_; rintro e w9 ⟨A, c, rfl, hR, hb⟩; have HRR := Aside0.mk (Kd.R_lower hR HB.out.size); have hB2 := below_step HB.out hb; have z_BA := blk_below BA.out hb; have z_BB := blk_below BB.out hb; have z_BR := blk_below BR.out hb; clear HB BA BB BR; have HB := Aside0.mk hB2; have BA := Aside0.mk z_BA; have BB := Aside0.mk z_BB; have BR := Aside0.mk z_BR; clear hB2 z_BA z_BB z_BR; clear hR hb hca0 hca1 hcb0 hcb1; have hr0 := blk_cell BR.out 0; have hr1 := blk_cell BR.out 1; have hf0 := blk_frozen BR.out 0; have hf1 := blk_frozen BR.out 1))
  refine bodyPost_ret (results_ct rfl _ _ gr 25 #[.int .u64 m.1.1, .slice A m.1.2.length c] (0, 0) _ rfl (by refine blk_put (cs := #[.int .u64 m.1.1, .slice none 0 0]) (blk_put (cs := #[.int .u64 0, .slice none 0 0]) BR.out 0 _ rfl) 1 _ rfl) Try.underlying25 rfl (by kernel_rfl)) rfl ?_
  exact ⟨_, rfl, Kd.R_mono (Kd.R_far (p := ⟨gr, 1, none⟩) (Kd.R_far (p := ⟨gr, 0, none⟩) (Kd.R_types HRR.out BR.out (by decide)) (fun _ hk => hk.2) _) (fun _ hk => hk.2) _) (fun _ _ => trivial), below_set (below_set HB.out GR.out) GR.out⟩

theorem in_both_any (a b : Bool) (w : World) : Calls Try.prog 68 #[.agg #[.bool a, .bool b]] w fun e w' => e = .returned (.bool (a && b)) ∧ Below w.heap.size w w' := by
  cases a <;> cases b <;>
  (go_enter Try.func68, Try.ntmps68
   go_wp2
   try go_quiet (fail)
   try go_wp2
   go_ret
   exact ⟨rfl, by repeat (first | with_reducible exact Below.refl _ _ | refine Below.drew ?_ | refine Below.alloc ?_ (by simp) _)⟩)
def pBoth : P3 → Bool := fun x => x.2.1 && x.2.2
def setops_Both.f (a0_0 : Int) (l0_1 : List Int) (a1_0 : Int) (l1_1 : List Int) : Option (Int × List Int × Int) := some ((madeF pBoth a0_0 l0_1 a1_0 l1_1).1.1, (madeF pBoth a0_0 l0_1 a1_0 l1_1).1.2, (madeF pBoth a0_0 l0_1 a1_0 l1_1).2)

set_option maxHeartbeats 1000000 in
set_option maxRecDepth 100000 in
theorem setops_Both.calls (a0_0 : Int) (A0_1 : Option Addr) (c0_1 : Nat) (l0_1 : List Int) (a1_0 : Int) (A1_1 : Option Addr) (c1_1 : Nat) (l1_1 : List Int) (r1 : Int) (r2 : List Int) (r3 : Int) (w : World) (hr0_1 : Kd.C (Kd.int .u64) w A0_1 l0_1.length l0_1) (hc0_1 : l0_1.length ≤ c0_1) (hr1_1 : Kd.C (Kd.int .u64) w A1_1 l1_1.length l1_1) (hc1_1 : l1_1.length ≤ c1_1) (h : setops_Both.f a0_0 l0_1 a1_0 l1_1 = some (r1, r2, r3)) :
    Calls Try.prog 18 #[.agg #[.int .u64 a0_0, .slice A0_1 l0_1.length c0_1], .agg #[.int .u64 a1_0, .slice A1_1 l1_1.length c1_1]] w fun e w' => ∃ v1_ : Value, e = .returned (.tuple #[.agg #[.int .u64 r1, v1_], .int .i64 r3]) ∧ Kd.R (Kd.int .u64) 22 w' w.heap.size (fun _ => True) v1_ r2 ∧ Below w.heap.size w w' := by
  have h := Option.some.inj h
  rw [madeF_eq] at h
  injection h with e1 h
  injection h with e2 e3
  obtain ⟨m, hm⟩ : ∃ m, madeS pBoth a0_0 l0_1 a1_0 l1_1 = m := ⟨_, rfl⟩
  rw [hm] at e1 e2 e3
  subst e1
  subst e2
  subst e3
  have HM := Aside0.mk hm
  have HR0 := Aside0.mk hr0_1
  have HC0 := Aside0.mk hc0_1
  have HR1 := Aside0.mk hr1_1
  have HC1 := Aside0.mk hc1_1
  have HB := Aside0.mk (Below.refl w.heap.size w)
  clear hm hr0_1 hc0_1 hr1_1 hc1_1
  have HMD : Aside0 (∀ W, Below w.heap.size w W → Calls Try.prog 66 #[.agg #[.int .u64 a0_0, .slice A0_1 l0_1.length c0_1], .agg #[.int .u64 a1_0, .slice A1_1 l1_1.length c1_1], .func (.func 68) #[] #[]] W fun e W' => ∃ A c, e = .returned (.tuple #[.agg #[.int .u64 m.1.1, .slice A m.1.2.length c], .int .i64 m.2]) ∧ Kd.R (Kd.int .u64) 22 W' W.heap.size (fun _ => True) (.slice A m.1.2.length c) m.1.2 ∧ Below W.heap.size W W') := ⟨fun W hW =>
    (made_any 68 #[] (enters_ Try.func68 (by kernel_rfl) rfl) (fun _ => False) pBoth (fun _ _ => True) a0_0 a1_0 A0_1 A1_1 c0_1 c1_1 l0_1 l1_1 W (Kd.C_below HR0.out hW) HC0.out (Kd.C_below HR1.out hW) HC1.out (fun k hk => hk.elim) (fun _ _ _ hk => hk) (fun _ _ _ hk => hk) (fun _ _ _ _ _ => trivial)
      (fun pre z W' _ => (in_both_any z.2.1 z.2.2 W').mono (fun e W2 he => ⟨he.1, trivial, KB.of_below he.2⟩)) trivial).mono (fun e W' he => by
        obtain ⟨v, h1, h2, h3, _⟩ := he
        rw [HM.out] at h1 h2
        obtain ⟨A, c, ev⟩ := Kd.R_slice h2
        subst ev
        exact ⟨A, c, h1, h2, h3.toBelow⟩)⟩
  have hu25 := Try.underlying25
  go_enter Try.func18, Try.ntmps18
  go_wp2_with (first
    | ((with_reducible refine gate_dst (N := 2) rfl ?_); refine box_event ?hg (N := 2) ?hd (cs := #[.int .u64 a0_0, .slice A0_1 l0_1.length c0_1]) (t := 25) ?hr ?_; (case hd => rfl); (case hg => rfl); (case hr => first | (go_simp; done) | (go_simp; rfl)); intro ga hg w2 hbox hb; have GA := Aside0.mk (by have := HB.out.size; omega : w.heap.size ≤ ga); have NNBA := Aside0.mk (Nat.le_of_eq hg.symm); have hB2 := below_step HB.out hb; clear HB ; have HB := Aside0.mk hB2; clear hB2 ; have BA := Aside0.mk hbox; clear hbox hb hg)
    | ((with_reducible refine gate_dst (N := 3) rfl ?_); refine box_event ?hg (N := 3) ?hd (cs := #[.int .u64 a1_0, .slice A1_1 l1_1.length c1_1]) (t := 25) ?hr ?_; (case hd => rfl); (case hg => rfl); (case hr => first | (go_simp; done) | (go_simp; rfl)); intro gb hg w3 hbox hb; have GB := Aside0.mk (by have := HB.out.size; omega : w.heap.size ≤ gb); have NNBB := Aside0.mk (Nat.le_of_eq hg.symm); have hB2 := below_step HB.out hb; have z_BA := blk_below BA.out hb; clear HB BA; have HB := Aside0.mk hB2; have BA := Aside0.mk z_BA; clear hB2 z_BA; have BB := Aside0.mk hbox; clear hbox hb hg)
    | (((with_reducible refine gate_dst (N := 4) rfl ?_); refine box_event ?hg (N := 4) ?hd (cs := #[.int .u64 0, .slice none 0 0]) (t := 25) ?hr ?_; (case hd => rfl); (case hg => rfl); (case hr => first | (go_simp; done) | (go_simp; rfl)); intro gr hg w4 hbox hb; have GR := Aside0.mk (by have := HB.out.size; omega : w.heap.size ≤ gr); have NNBR := Aside0.mk (Nat.le_of_eq hg.symm); have hB2 := below_step HB.out hb; have z_BA := blk_below BA.out hb; have z_BB := blk_below BB.out hb; clear HB BA BB; have HB := Aside0.mk hB2; have BA := Aside0.mk z_BA; have BB := Aside0.mk z_BB; clear hB2 z_BA z_BB; have BR := Aside0.mk hbox; clear hbox hb hg); have hca0 := blk_cell BA.out 0; have hca1 := blk_cell BA.out 1; have hcb0 := blk_cell BB.out 0; have hcb1 := blk_cell BB.out 1)
    | (go_at_call 66; refine (HMD.out _ HB.out).mono ?_; rintro e w9 ⟨A, c, rfl, hR, hb⟩; have HRR := Aside0.mk (Kd.R_lower hR HB.out.size); have hB2 := below_step HB.out hb; have z_BA := blk_below BA.out hb; have z_BB := blk_below BB.out hb; have z_BR := blk_below BR.out hb; clear HB BA BB BR; have HB := Aside0.mk hB2; have BA := Aside0.mk z_BA; have BB := Aside0.mk z_BB; have BR := Aside0.mk z_BR; clear hB2 z_BA z_BB z_BR; clear hR hb hca0 hca1 hcb0 hcb1; have hr0 := blk_cell BR.out 0; have hr1 := blk_cell BR.out 1; have hf0 := blk_frozen BR.out 0; have hf1 := blk_frozen BR.out 1))
  refine bodyPost_ret (results_ct rfl _ _ gr 25 #[.int .u64 m.1.1, .slice A m.1.2.length c] (0, 0) _ rfl (by refine blk_put (cs := #[.int .u64 m.1.1, .slice none 0 0]) (blk_put (cs := #[.int .u64 0, .slice none 0 0]) BR.out 0 _ rfl) 1 _ rfl) Try.underlying25 rfl (by kernel_rfl)) rfl ?_
  exact ⟨_, rfl, Kd.R_mono (Kd.R_far (p := ⟨gr, 1, none⟩) (Kd.R_far (p := ⟨gr, 0, none⟩) (Kd.R_types HRR.out BR.out (by decide)) (fun _ hk => hk.2) _) (fun _ hk => hk.2) _) (fun _ _ => trivial), below_set (below_set HB.out GR.out) GR.out⟩

theorem in_less_any (a b : Bool) (w : World) : Calls Try.prog 69 #[.agg #[.bool a, .bool b]] w fun e w' => e = .returned (.bool (a && !b)) ∧ Below w.heap.size w w' := by
  cases a <;> cases b <;>
  (go_enter Try.func69, Try.ntmps69
   go_wp2
   try go_quiet (fail)
   try go_wp2
   go_ret
   exact ⟨rfl, by repeat (first | with_reducible exact Below.refl _ _ | refine Below.drew ?_ | refine Below.alloc ?_ (by simp) _)⟩)
def pLess : P3 → Bool := fun x => x.2.1 && !x.2.2
def setops_Less.f (a0_0 : Int) (l0_1 : List Int) (a1_0 : Int) (l1_1 : List Int) : Option (Int × List Int × Int) := some ((madeF pLess a0_0 l0_1 a1_0 l1_1).1.1, (madeF pLess a0_0 l0_1 a1_0 l1_1).1.2, (madeF pLess a0_0 l0_1 a1_0 l1_1).2)

set_option maxHeartbeats 1000000 in
set_option maxRecDepth 100000 in
theorem setops_Less.calls (a0_0 : Int) (A0_1 : Option Addr) (c0_1 : Nat) (l0_1 : List Int) (a1_0 : Int) (A1_1 : Option Addr) (c1_1 : Nat) (l1_1 : List Int) (r1 : Int) (r2 : List Int) (r3 : Int) (w : World) (hr0_1 : Kd.C (Kd.int .u64) w A0_1 l0_1.length l0_1) (hc0_1 : l0_1.length ≤ c0_1) (hr1_1 : Kd.C (Kd.int .u64) w A1_1 l1_1.length l1_1) (hc1_1 : l1_1.length ≤ c1_1) (h : setops_Less.f a0_0 l0_1 a1_0 l1_1 = some (r1, r2, r3)) :
    Calls Try.prog 19 #[.agg #[.int .u64 a0_0, .slice A0_1 l0_1.length c0_1], .agg #[.int .u64 a1_0, .slice A1_1 l1_1.length c1_1]] w fun e w' => ∃ v1_ : Value, e = .returned (.tuple #[.agg #[.int .u64 r1, v1_], .int .i64 r3]) ∧ Kd.R (Kd.int .u64) 22 w' w.heap.size (fun _ => True) v1_ r2 ∧ Below w.heap.size w w' := by
  have h := Option.some.inj h
  rw [madeF_eq] at h
  injection h with e1 h
  injection h with e2 e3
  obtain ⟨m, hm⟩ : ∃ m, madeS pLess a0_0 l0_1 a1_0 l1_1 = m := ⟨_, rfl⟩
  rw [hm] at e1 e2 e3
  subst e1
  subst e2
  subst e3
  have HM := Aside0.mk hm
  have HR0 := Aside0.mk hr0_1
  have HC0 := Aside0.mk hc0_1
  have HR1 := Aside0.mk hr1_1
  have HC1 := Aside0.mk hc1_1
  have HB := Aside0.mk (Below.refl w.heap.size w)
  clear hm hr0_1 hc0_1 hr1_1 hc1_1
  have HMD : Aside0 (∀ W, Below w.heap.size w W → Calls Try.prog 66 #[.agg #[.int .u64 a0_0, .slice A0_1 l0_1.length c0_1], .agg #[.int .u64 a1_0, .slice A1_1 l1_1.length c1_1], .func (.func 69) #[] #[]] W fun e W' => ∃ A c, e = .returned (.tuple #[.agg #[.int .u64 m.1.1, .slice A m.1.2.length c], .int .i64 m.2]) ∧ Kd.R (Kd.int .u64) 22 W' W.heap.size (fun _ => True) (.slice A m.1.2.length c) m.1.2 ∧ Below W.heap.size W W') := ⟨fun W hW =>
    (made_any 69 #[] (enters_ Try.func69 (by kernel_rfl) rfl) (fun _ => False) pLess (fun _ _ => True) a0_0 a1_0 A0_1 A1_1 c0_1 c1_1 l0_1 l1_1 W (Kd.C_below HR0.out hW) HC0.out (Kd.C_below HR1.out hW) HC1.out (fun k hk => hk.elim) (fun _ _ _ hk => hk) (fun _ _ _ hk => hk) (fun _ _ _ _ _ => trivial)
      (fun pre z W' _ => (in_less_any z.2.1 z.2.2 W').mono (fun e W2 he => ⟨he.1, trivial, KB.of_below he.2⟩)) trivial).mono (fun e W' he => by
        obtain ⟨v, h1, h2, h3, _⟩ := he
        rw [HM.out] at h1 h2
        obtain ⟨A, c, ev⟩ := Kd.R_slice h2
        subst ev
        exact ⟨A, c, h1, h2, h3.toBelow⟩)⟩
  have hu25 := Try.underlying25
  go_enter Try.func19, Try.ntmps19
  go_wp2_with (first
    | ((with_reducible refine gate_dst (N := 2) rfl ?_); refine box_event ?hg (N := 2) ?hd (cs := #[.int .u64 a0_0, .slice A0_1 l0_1.length c0_1]) (t := 25) ?hr ?_; (case hd => rfl); (case hg => rfl); (case hr => first | (go_simp; done) | (go_simp; rfl)); intro ga hg w2 hbox hb; have GA := Aside0.mk (by have := HB.out.size; omega : w.heap.size ≤ ga); have NNBA := Aside0.mk (Nat.le_of_eq hg.symm); have hB2 := below_step HB.out hb; clear HB ; have HB := Aside0.mk hB2; clear hB2 ; have BA := Aside0.mk hbox; clear hbox hb hg)
    | ((with_reducible refine gate_dst (N := 3) rfl ?_); refine box_event ?hg (N := 3) ?hd (cs := #[.int .u64 a1_0, .slice A1_1 l1_1.length c1_1]) (t := 25) ?hr ?_; (case hd => rfl); (case hg => rfl); (case hr => first | (go_simp; done) | (go_simp; rfl)); intro gb hg w3 hbox hb; have GB := Aside0.mk (by have := HB.out.size; omega : w.heap.size ≤ gb); have NNBB := Aside0.mk (Nat.le_of_eq hg.symm); have hB2 := below_step HB.out hb; have z_BA := blk_below BA.out hb; clear HB BA; have HB := Aside0.mk hB2; have BA := Aside0.mk z_BA; clear hB2 z_BA; have BB := Aside0.mk hbox; clear hbox hb hg)
    | (((with_reducible refine gate_dst (N := 4) rfl ?_); refine box_event ?hg (N := 4) ?hd (cs := #[.int .u64 0, .slice none 0 0]) (t := 25) ?hr ?_; (case hd => rfl); (case hg => rfl); (case hr => first | (go_simp; done) | (go_simp; rfl)); intro gr hg w4 hbox hb; have GR := Aside0.mk (by have := HB.out.size; omega : w.heap.size ≤ gr); have NNBR := Aside0.mk (Nat.le_of_eq hg.symm); have hB2 := below_step HB.out hb; have z_BA := blk_below BA.out hb; have z_BB := blk_below BB.out hb; clear HB BA BB; have HB := Aside0.mk hB2; have BA := Aside0.mk z_BA; have BB := Aside0.mk z_BB; clear hB2 z_BA z_BB; have BR := Aside0.mk hbox; clear hbox hb hg); have hca0 := blk_cell BA.out 0; have hca1 := blk_cell BA.out 1; have hcb0 := blk_cell BB.out 0; have hcb1 := blk_cell BB.out 1)
    | (go_at_call 66; refine (HMD.out _ HB.out).mono ?_; rintro e w9 ⟨A, c, rfl, hR, hb⟩; have HRR := Aside0.mk (Kd.R_lower hR HB.out.size); have hB2 := below_step HB.out hb; have z_BA := blk_below BA.out hb; have z_BB := blk_below BB.out hb; have z_BR := blk_below BR.out hb; clear HB BA BB BR; have HB := Aside0.mk hB2; have BA := Aside0.mk z_BA; have BB := Aside0.mk z_BB; have BR := Aside0.mk z_BR; clear hB2 z_BA z_BB z_BR; clear hR hb hca0 hca1 hcb0 hcb1; have hr0 := blk_cell BR.out 0; have hr1 := blk_cell BR.out 1; have hf0 := blk_frozen BR.out 0; have hf1 := blk_frozen BR.out 1))
  refine bodyPost_ret (results_ct rfl _ _ gr 25 #[.int .u64 m.1.1, .slice A m.1.2.length c] (0, 0) _ rfl (by refine blk_put (cs := #[.int .u64 m.1.1, .slice none 0 0]) (blk_put (cs := #[.int .u64 0, .slice none 0 0]) BR.out 0 _ rfl) 1 _ rfl) Try.underlying25 rfl (by kernel_rfl)) rfl ?_
  exact ⟨_, rfl, Kd.R_mono (Kd.R_far (p := ⟨gr, 1, none⟩) (Kd.R_far (p := ⟨gr, 0, none⟩) (Kd.R_types HRR.out BR.out (by decide)) (fun _ hk => hk.2) _) (fun _ hk => hk.2) _) (fun _ _ => trivial), below_set (below_set HB.out GR.out) GR.out⟩

theorem in_one_any (a b : Bool) (w : World) : Calls Try.prog 70 #[.agg #[.bool a, .bool b]] w fun e w' => e = .returned (.bool (a != b)) ∧ Below w.heap.size w w' := by
  cases a <;> cases b <;>
  (go_enter Try.func70, Try.ntmps70
   go_wp2
   try go_quiet (fail)
   try go_wp2
   go_ret
   exact ⟨rfl, by repeat (first | with_reducible exact Below.refl _ _ | refine Below.drew ?_ | refine Below.alloc ?_ (by simp) _)⟩)
def pOne : P3 → Bool := fun x => x.2.1 != x.2.2
def setops_One.f (a0_0 : Int) (l0_1 : List Int) (a1_0 : Int) (l1_1 : List Int) : Option (Int × List Int × Int) := some ((madeF pOne a0_0 l0_1 a1_0 l1_1).1.1, (madeF pOne a0_0 l0_1 a1_0 l1_1).1.2, (madeF pOne a0_0 l0_1 a1_0 l1_1).2)

set_option maxHeartbeats 1000000 in
set_option maxRecDepth 100000 in
theorem setops_One.calls (a0_0 : Int) (A0_1 : Option Addr) (c0_1 : Nat) (l0_1 : List Int) (a1_0 : Int) (A1_1 : Option Addr) (c1_1 : Nat) (l1_1 : List Int) (r1 : Int) (r2 : List Int) (r3 : Int) (w : World) (hr0_1 : Kd.C (Kd.int .u64) w A0_1 l0_1.length l0_1) (hc0_1 : l0_1.length ≤ c0_1) (hr1_1 : Kd.C (Kd.int .u64) w A1_1 l1_1.length l1_1) (hc1_1 : l1_1.length ≤ c1_1) (h : setops_One.f a0_0 l0_1 a1_0 l1_1 = some (r1, r2, r3)) :
    Calls Try.prog 20 #[.agg #[.int .u64 a0_0, .slice A0_1 l0_1.length c0_1], .agg #[.int .u64 a1_0, .slice A1_1 l1_1.length c1_1]] w fun e w' => ∃ v1_ : Value, e = .returned (.tuple #[.agg #[.int .u64 r1, v1_], .int .i64 r3]) ∧ Kd.R (Kd.int .u64) 22 w' w.heap.size (fun _ => True) v1_ r2 ∧ Below w.heap.size w w' := by
  have h := Option.some.inj h
  rw [madeF_eq] at h
  injection h with e1 h
  injection h with e2 e3
  obtain ⟨m, hm⟩ : ∃ m, madeS pOne a0_0 l0_1 a1_0 l1_1 = m := ⟨_, rfl⟩
  rw [hm] at e1 e2 e3
  subst e1
  subst e2
  subst e3
  have HM := Aside0.mk hm
  have HR0 := Aside0.mk hr0_1
  have HC0 := Aside0.mk hc0_1
  have HR1 := Aside0.mk hr1_1
  have HC1 := Aside0.mk hc1_1
  have HB := Aside0.mk (Below.refl w.heap.size w)
  clear hm hr0_1 hc0_1 hr1_1 hc1_1
  have HMD : Aside0 (∀ W, Below w.heap.size w W → Calls Try.prog 66 #[.agg #[.int .u64 a0_0, .slice A0_1 l0_1.length c0_1], .agg #[.int .u64 a1_0, .slice A1_1 l1_1.length c1_1], .func (.func 70) #[] #[]] W fun e W' => ∃ A c, e = .returned (.tuple #[.agg #[.int .u64 m.1.1, .slice A m.1.2.length c], .int .i64 m.2]) ∧ Kd.R (Kd.int .u64) 22 W' W.heap.size (fun _ => True) (.slice A m.1.2.length c) m.1.2 ∧ Below W.heap.size W W') := ⟨fun W hW =>
    (made_any 70 #[] (enters_ Try.func70 (by kernel_rfl) rfl) (fun _ => False) pOne (fun _ _ => True) a0_0 a1_0 A0_1 A1_1 c0_1 c1_1 l0_1 l1_1 W (Kd.C_below HR0.out hW) HC0.out (Kd.C_below HR1.out hW) HC1.out (fun k hk => hk.elim) (fun _ _ _ hk => hk) (fun _ _ _ hk => hk) (fun _ _ _ _ _ => trivial)
      (fun pre z W' _ => (in_one_any z.2.1 z.2.2 W').mono (fun e W2 he => ⟨he.1, trivial, KB.of_below he.2⟩)) trivial).mono (fun e W' he => by
        obtain ⟨v, h1, h2, h3, _⟩ := he
        rw [HM.out] at h1 h2
        obtain ⟨A, c, ev⟩ := Kd.R_slice h2
        subst ev
        exact ⟨A, c, h1, h2, h3.toBelow⟩)⟩
  have hu25 := Try.underlying25
  go_enter Try.func20, Try.ntmps20
  go_wp2_with (first
    | ((with_reducible refine gate_dst (N := 2) rfl ?_); refine box_event ?hg (N := 2) ?hd (cs := #[.int .u64 a0_0, .slice A0_1 l0_1.length c0_1]) (t := 25) ?hr ?_; (case hd => rfl); (case hg => rfl); (case hr => first | (go_simp; done) | (go_simp; rfl)); intro ga hg w2 hbox hb; have GA := Aside0.mk (by have := HB.out.size; omega : w.heap.size ≤ ga); have NNBA := Aside0.mk (Nat.le_of_eq hg.symm); have hB2 := below_step HB.out hb; clear HB ; have HB := Aside0.mk hB2; clear hB2 ; have BA := Aside0.mk hbox; clear hbox hb hg)
    | ((with_reducible refine gate_dst (N := 3) rfl ?_); refine box_event ?hg (N := 3) ?hd (cs := #[.int .u64 a1_0, .slice A1_1 l1_1.length c1_1]) (t := 25) ?hr ?_; (case hd => rfl); (case hg => rfl); (case hr => first | (go_simp; done) | (go_simp; rfl)); intro gb hg w3 hbox hb; have GB := Aside0.mk (by have := HB.out.size; omega : w.heap.size ≤ gb); have NNBB := Aside0.mk (Nat.le_of_eq hg.symm); have hB2 := below_step HB.out hb; have z_BA := blk_below BA.out hb; clear HB BA; have HB := Aside0.mk hB2; have BA := Aside0.mk z_BA; clear hB2 z_BA; have BB := Aside0.mk hbox; clear hbox hb hg)
    | (((with_reducible refine gate_dst (N := 4) rfl ?_); refine box_event ?hg (N := 4) ?hd (cs := #[.int .u64 0, .slice none 0 0]) (t := 25) ?hr ?_; (case hd => rfl); (case hg => rfl); (case hr => first | (go_simp; done) | (go_simp; rfl)); intro gr hg w4 hbox hb; have GR := Aside0.mk (by have := HB.out.size; omega : w.heap.size ≤ gr); have NNBR := Aside0.mk (Nat.le_of_eq hg.symm); have hB2 := below_step HB.out hb; have z_BA := blk_below BA.out hb; have z_BB := blk_below BB.out hb; clear HB BA BB; have HB := Aside0.mk hB2; have BA := Aside0.mk z_BA; have BB := Aside0.mk z_BB; clear hB2 z_BA z_BB; have BR := Aside0.mk hbox; clear hbox hb hg); have hca0 := blk_cell BA.out 0; have hca1 := blk_cell BA.out 1; have hcb0 := blk_cell BB.out 0; have hcb1 := blk_cell BB.out 1)
    | (go_at_call 66; refine (HMD.out _ HB.out).mono ?_; rintro e w9 ⟨A, c, rfl, hR, hb⟩; have HRR := Aside0.mk (Kd.R_lower hR HB.out.size); have hB2 := below_step HB.out hb; have z_BA := blk_below BA.out hb; have z_BB := blk_below BB.out hb; have z_BR := blk_below BR.out hb; clear HB BA BB BR; have HB := Aside0.mk hB2; have BA := Aside0.mk z_BA; have BB := Aside0.mk z_BB; have BR := Aside0.mk z_BR; clear hB2 z_BA z_BB z_BR; clear hR hb hca0 hca1 hcb0 hcb1; have hr0 := blk_cell BR.out 0; have hr1 := blk_cell BR.out 1; have hf0 := blk_frozen BR.out 0; have hf1 := blk_frozen BR.out 1))
  refine bodyPost_ret (results_ct rfl _ _ gr 25 #[.int .u64 m.1.1, .slice A m.1.2.length c] (0, 0) _ rfl (by refine blk_put (cs := #[.int .u64 m.1.1, .slice none 0 0]) (blk_put (cs := #[.int .u64 0, .slice none 0 0]) BR.out 0 _ rfl) 1 _ rfl) Try.underlying25 rfl (by kernel_rfl)) rfl ?_
  exact ⟨_, rfl, Kd.R_mono (Kd.R_far (p := ⟨gr, 1, none⟩) (Kd.R_far (p := ⟨gr, 0, none⟩) (Kd.R_types HRR.out BR.out (by decide)) (fun _ hk => hk.2) _) (fun _ hk => hk.2) _) (fun _ _ => trivial), below_set (below_set HB.out GR.out) GR.out⟩

end Go.Proofs.Ytpagondojdlknaa.H
