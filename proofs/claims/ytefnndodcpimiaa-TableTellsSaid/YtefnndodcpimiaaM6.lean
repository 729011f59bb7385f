/- Contracts of Go functions, walked by hand: each call comes to the Lean function beside it and leaves what was there before. -/
import Derived.Test.YtefnndodcpimiaaProg
import Derived.Below
import Derived.Deep.Draws
import Derived.Deep.AppendLies
import Derived.Maps.AppendAt
import Derived.OwnWalk
import Derived.Laws.BytesArg
import Derived.Laws.MakeOwn
import Derived.Laws.OwnMore
import Derived.Deep.OwnRows
import Derived.Tactics
import Derived.Lib.ConvBytes
import Derived.Laws.Slices
import Derived.WalkKit
import Derived.KernelRfl
import Derived.RowKit3
import Derived.Deep.LoopGhost
import Derived.Deep.QuietTactic
import Derived.BigQuiet
import Derived.WideLaws
import Derived.Deep.DeepCutAuto
import Derived.Deep.CutBlock
import Derived.Deep.RegionHeld3
import Derived.Laws.Rows
import Derived.Lib.AppendStr
import Derived.ArgAppend
import Derived.Laws.IdiomCopy
import Derived.OrdersHeld
import Derived.Laws.BitsLemmas
import Derived.RowKit
import Derived.WalkSpells
import Derived.WalkLawsBesides
import Derived.Laws.Bits64b
import Derived.Laws.BitsAllLaws
import Derived.Maps.OwnSet
import Derived.Test.YtefnndodcpimiaaVTT
import Derived.Test.YtefnndodcpimiaaM1
namespace Go.Proofs.Ytefnndodcpimiaa.H
open Go.RowKit Go.Proofs.YtefnndodcpimiaaW.PrintWords Go.Proofs.YtefnndodcpimiaaW.PrintLast Go.Proofs.YtefnndodcpimiaaW.PrintMore
attribute [local go_sem] max2_int min2_int max_two min_two max_three min_three max_four min_four
set_option linter.unusedVariables false
set_option linter.unusedSimpArgs false


/-! ### tallymanref10.Check -/
def tallymanref10_Check.f (l0_0 : List Int) : Option Int := table_Check.f l0_0
theorem zero_int (w : World) : (zeroValue 3).run Try.prog w = .ok (.int .i64 0) w := by kernel_rfl

def oneD (acc : List Int) : DataW Unit := Maps.setOf (.lit (.int .i64 1)) (acc.map (Lit.int .i64))
theorem oneD_snoc (acc : List Int) (x : Int) : oneD (acc ++ [x]) = (oneD acc).put (.int .i64 x) (.lit (.int .i64 1)) := by
  unfold oneD
  rw [List.map_append]
  exact Maps.setOf_snoc _ _ _
theorem oneD_isMap (acc : List Int) : Maps.IsMap (oneD acc) := by
  unfold oneD Maps.setOf
  generalize hD : (DataW.map [] : DataW Unit) = D
  have h0 : Maps.IsMap D := hD ▸ Maps.isMap_empty
  clear hD
  induction acc generalizing D with
  | nil => exact h0
  | cons a r ih =>
    refine ih _ ?_
    obtain ⟨es, rfl⟩ := h0
    exact ⟨_, rfl⟩
theorem oneD_at (x : Int) (acc : List Int) : (oneD acc).atKey (.int .i64 x) (.lit (.int .i64 0)) = .lit (.int .i64 (if acc.contains x = true then 1 else 0)) := by
  have key : ∀ r : List Int, (oneD r.reverse).atKey (.int .i64 x) (.lit (.int .i64 0)) = .lit (.int .i64 (if r.reverse.contains x = true then 1 else 0)) := by
    intro r
    induction r with
    | nil => rfl
    | cons a r ih =>
      rw [List.reverse_cons, oneD_snoc]
      by_cases e : x = a
      · subst e
        rw [Maps.atKey_put_same (oneD_isMap _) (by trivial)]
        simp
      · rw [Maps.atKey_put_other (by intro h; injection h with _ h; exact e h), ih]
        simp [e]
  have := key acc.reverse
  rwa [List.reverse_reverse] at this

set_option maxHeartbeats 1000000 in
set_option maxRecDepth 100000 in
theorem refCheck_long (A0 : Option Addr) (c0 : Nat) (l : List Int) (w : World) (h : 65536 < l.length) :
    Calls Try.prog 29 #[.agg #[.slice A0 l.length c0]] w fun e w' => e = .returned (.int .i64 2) ∧ Below w.heap.size w w' := by
  have h1 : decide ((65536 : Int) < (l.length : Int)) = true := by simp; omega
  have h2 : decide (65536 < l.length) = true := by simp; omega
  have H := Aside0.mk h
  clear h
  go_enter Try.func29, Try.ntmps29
  go_wp2_with (first | ((with_reducible refine gate_dst (N := 1) rfl ?_); refine box_event ?hg (N := 1) ?hd (cs := #[.slice A0 l.length c0]) (t := 24) ?hr ?_; (case hd => rfl); (case hg => rfl); (case hr => first | (go_simp; done) | (go_simp; rfl)); intro gb hg w6 hbox hb; have hcz : w6.cell? ⟨gb, 0, none⟩ = some (.slice A0 l.length c0) := (blk_cell hbox 0).trans rfl; have HB := Aside0.mk hb; clear hb hbox hg))
  repeat (go_quiet (fail); try go_wp2)
  go_ret
  exact ⟨rfl, HB.out⟩

set_option maxHeartbeats 1000000 in
set_option maxRecDepth 100000 in
theorem refCheck_tail (A0 : Option Addr) (c0 : Nat) (l : List Int) (w : World) (hr0 : Kd.C (Kd.int .i64) w A0 l.length l) (h : l.length ≤ 65536) (hp : 0 < l.length) (hl : rd l ((l.length : Int) - 1) = 0) :
    Calls Try.prog 29 #[.agg #[.slice A0 l.length c0]] w fun e w' => e = .returned (.int .i64 2) ∧ Below w.heap.size w w' := by
  have h1 : decide ((65536 : Int) < (l.length : Int)) = false := by simp; omega
  have h2 : decide (65536 < l.length) = false := by simp; omega
  have h3 : decide (0 < l.length) = true := by simpa using hp
  have h4 : decide ((0 : Int) < (l.length : Int)) = true := by simp; omega
  obtain ⟨ad, e, hc⟩ := Kd.at_int hr0 ((l.length : Int) - 1) (by omega) (by omega)
  rw [hl, show ((l.length : Int) - 1).toNat = l.length - 1 by omega] at hc
  cases e
  have HC := Aside0.mk hc
  have i1 : (0 : Int) ≤ (l.length : Int) - 1 := by omega
  have i2 : (l.length : Int) - 1 < (l.length : Int) := by omega
  have wr1 : wrap64 ((l.length : Int) - 1) = (l.length : Int) - 1 := by unfold wrap64; omega
  have wr2 : IntKind.i64.wrap ((l.length : Int) - 1) = (l.length : Int) - 1 := (i64_w _).trans wr1
  have H := Aside0.mk h
  clear hl hr0 hc h
  go_enter Try.func29, Try.ntmps29
  go_wp2_with (first | ((with_reducible refine gate_dst (N := 1) rfl ?_); refine box_event ?hg (N := 1) ?hd (cs := #[.slice (some ad) l.length c0]) (t := 24) ?hr ?_; (case hd => rfl); (case hg => rfl); (case hr => first | (go_simp; done) | (go_simp; rfl)); intro gb hg w6 hbox hb; have hcz : w6.cell? ⟨gb, 0, none⟩ = some (.slice (some ad) l.length c0) := (blk_cell hbox 0).trans rfl; have hcw := pw_cell_below hb HC.out; have HB := Aside0.mk hb; clear hb hbox hg))
  repeat (go_quiet (fail); try go_wp2)
  go_ret
  exact ⟨rfl, HB.out⟩

open Go.Maps in
set_option maxHeartbeats 2000000 in
set_option maxRecDepth 100000 in
theorem refCheck_loop (A0 : Option Addr) (c0 : Nat) (l : List Int) (w : World) (hr0 : Kd.C (Kd.int .i64) w A0 l.length l) (hwf : l.all inI64 = true) (h : l.length ≤ 65536) (hl : l = [] ∨ ¬ rd l ((l.length : Int) - 1) = 0) :
    Calls Try.prog 29 #[.agg #[.slice A0 l.length c0]] w fun e w' => e = .returned (.int .i64 (chkRes l)) ∧ Below w.heap.size w w' := by
  have hmm := @run_makeMap Try.prog
  have h1 : decide ((65536 : Int) < (l.length : Int)) = false := by simp; omega
  have h2 : decide (65536 < l.length) = false := by simp; omega
  have HR := Aside0.mk hr0
  have HWF := Aside0.mk hwf
  obtain ⟨Q, hQ⟩ : ∃ Q : Prop, Q = (l = [] ∨ ∃ ad, A0 = some ad ∧ w.cell? (ad.add (l.length - 1)) = some (.int .i64 (rd l ((l.length : Int) - 1))) ∧ ¬ rd l ((l.length : Int) - 1) = 0) := ⟨_, rfl⟩
  have HQ : Q := by
    rw [hQ]
    rcases hl with hl | hl
    · exact .inl hl
    · by_cases e : l = []
      · exact .inl e
      · have := List.length_pos_iff.mpr e
        obtain ⟨ad, e2, hc⟩ := Kd.at_int hr0 ((l.length : Int) - 1) (by omega) (by omega)
        rw [show ((l.length : Int) - 1).toNat = l.length - 1 by omega] at hc
        exact .inr ⟨ad, e2, hc, hl⟩
  have H := Aside0.mk h
  clear hr0 hwf hl h
  rcases hQ ▸ HQ with e | ⟨ad, e, hc, hl⟩
  · clear HQ hQ Q
    subst e
    have h3 : decide (0 < ([] : List Int).length) = false := rfl
    have hnil : ([] : List Int).length = 0 := rfl
    rw [hnil]
    go_enter Try.func29, Try.ntmps29
    go_wp2_with (first | ((with_reducible refine gate_dst (N := 1) rfl ?_); refine box_event ?hg (N := 1) ?hd (cs := #[.slice A0 0 c0]) (t := 24) ?hr ?_; (case hd => rfl); (case hg => rfl); (case hr => first | (go_simp; done) | (go_simp; rfl)); intro gb hg w6 hbox hb; have hcz : w6.cell? ⟨gb, 0, none⟩ = some (.slice A0 0 c0) := (blk_cell hbox 0).trans rfl; have hcz' : ∀ o, (w6.alloc o).cell? ⟨gb, 0, none⟩ = some (.slice A0 0 c0) := fun o => pw_cell_below (below_alloc (Below.refl _ _) o) hcz; have HB := Aside0.mk hb; clear hb hbox hg))
    repeat (go_quiet (fail); try go_wp2)
    refine wp_loop_rounds 1 ?_
    rw [rounds_succ]
    go_wp2
    go_ret
    exact ⟨rfl, below_alloc HB.out _⟩
  · clear HQ hQ Q
    have hp : 0 < l.length := by
      rcases Nat.eq_zero_or_pos l.length with h0 | h0
      · exact absurd (by rw [List.eq_nil_of_length_eq_zero h0]; rfl) hl
      · exact h0
    have h3 : decide (0 < l.length) = true := by simpa using hp
    have h4 : decide ((0 : Int) < (l.length : Int)) = true := by simp; omega
    have h5 : (rd l ((l.length : Int) - 1) == 0) = false := by simpa using hl
    have HC := Aside0.mk hc
    have i1 : (0 : Int) ≤ (l.length : Int) - 1 := by omega
    have i2 : (l.length : Int) - 1 < (l.length : Int) := by omega
    have wr1 : wrap64 ((l.length : Int) - 1) = (l.length : Int) - 1 := by have := H.out; unfold wrap64; omega
    have wr2 : IntKind.i64.wrap ((l.length : Int) - 1) = (l.length : Int) - 1 := (i64_w _).trans wr1
    have HLN := Aside0.mk hl
    clear hl hc
    cases e
    go_enter Try.func29, Try.ntmps29
    go_wp2_with (first | ((with_reducible refine gate_dst (N := 1) rfl ?_); refine box_event ?hg (N := 1) ?hd (cs := #[.slice (some ad) l.length c0]) (t := 24) ?hr ?_; (case hd => rfl); (case hg => rfl); (case hr => first | (go_simp; done) | (go_simp; rfl)); intro gb hg w6 hbox hb; have hcz : w6.cell? ⟨gb, 0, none⟩ = some (.slice (some ad) l.length c0) := (blk_cell hbox 0).trans rfl; have hcz' : ∀ o, (w6.alloc o).cell? ⟨gb, 0, none⟩ = some (.slice (some ad) l.length c0) := fun o => pw_cell_below (below_alloc (Below.refl _ _) o) hcz; have hcw := pw_cell_below hb HC.out; have HB := Aside0.mk hb; clear hb hbox hg))
    repeat (go_quiet (fail); try go_wp2)
    have HCZ := Aside0.mk hcz
    clear hcz' hcw
    go_loopw [5] (fun i wr => ∃ (k : Nat) (acc acc' : List Int), k ≤ l.length ∧ i = .int .i64 k ∧ Aside0 (chkPre l k = some acc ∧ ∀ x, x ≠ 0 → acc'.contains x = acc.contains x) ∧ wr.ownsMap Try.prog 3 (plainElem Try.prog 3) w6.heap.size k (oneD acc') ∧ Aside0 (Below w6.heap.size w6 wr) ∧ Aside0 (w6.heap.size < wr.heap.size))
      (fun i _ => l.length - (intOf i).toNat)
    case atStart => exact ⟨0, [], [], Nat.zero_le _, rfl, ⟨rfl, fun _ _ => rfl⟩, World.ownsMap_made _ _ _ _, ⟨below_alloc (Below.refl _ _) _⟩, ⟨by simp⟩⟩
    case round =>
      obtain ⟨k, acc, acc', hk, rfl, HP, hown, HBr, HS⟩ := hrel
      have hcr := pw_cell_below HBr.out HCZ.out
      have HBB : Aside0 (∀ ww, Below w6.heap.size w6 ww → Below w.heap.size w ww) := ⟨fun ww hh => below_then HB.out HB.out.size hh⟩
      by_cases hlt : k < l.length
      · obtain ⟨ad', e', hcell⟩ := Kd.at_int (Kd.C_below HR.out (HBB.out _ HBr.out)) (k : Int) (by omega) (by omega)
        cases e'
        rw [show ((k : Int)).toNat = k by omega] at hcell
        have hin : inI64 (rd l k) = true := by
          refine List.all_eq_true.mp HWF.out _ ?_
          simp only [rd, Int.toNat_natCast, List.getD_eq_getElem?_getD, List.getElem?_eq_getElem hlt, Option.getD_some]
          exact List.getElem_mem hlt
        have hkey : keyOf Try.prog 3 (.int .i64 (rd l k)) = some (.int .i64 (rd l k)) := keyOf_int_mk Try.underlying3 (wf_inI64 hin)
        have HE : Aside0 (chkPre l (k + 1) = chkStep (some acc) (rd l k)) := ⟨by rw [chkPre_succ l k hlt, HP.out.1]; simp [rd]⟩
        have HI := Aside0.mk hin
        have d1 : decide (k < l.length) = true := by simpa using hlt
        have d2 : decide ((k : Int) < (l.length : Int)) = true := by simp; omega
        have wk : wrap64 ((k : Int) + 1) = (k : Int) + 1 := by have := H.out; unfold wrap64; omega
        have wk2 : IntKind.i64.wrap ((k : Int) + 1) = (k : Int) + 1 := (i64_w _).trans wk
        have hu : plainElem (H := Unit) Try.prog 3 (.int .i64 1) = some (.lit (.int .i64 1), []) := plainElem_int Try.underlying3 (by decide)
        clear hin
        by_cases hz : rd l k = 0
        · have z1 : (rd l k == 0) = true := by simpa using hz
          have z2 : (rd l k != 0) = false := by simpa using hz
          have HZ := Aside0.mk hz
          clear hz
          go_wp2_with (first
            | (at_mapUpdate; refine wpList_mapUpdate_own _ rfl _ _ _ 48 rfl 3 3 keyed_int Try.underlying48 (plainElem Try.prog 3) w6.heap.size k _ rfl hown (by unfold maxLen; have := H.out; omega) _ _ _ rfl rfl hkey _ [] hu ?_; intro w1 hown1 hgrow1))
          have s1 := hgrow1.size
          go_roundw
          case rel => exact ⟨k + 1, acc, acc' ++ [rd l k], by omega, by go_num, ⟨by rw [HE.out]; simp [chkStep, HZ.out], by intro x hx; rw [← HP.out.2 x hx]; simp [HZ.out, hx]⟩, by rw [oneD_snoc]; exact hown1, ⟨HBr.out.grown hgrow1 (by have := HS.out; omega) (fun j hj => by cases hj; exact Nat.le_refl _)⟩, ⟨by have := HS.out; omega⟩⟩
          case measure => simp [intOf]; omega
        · have z1 : (rd l k == 0) = false := by simpa using hz
          have z2 : (rd l k != 0) = true := by simpa using hz
          have HZ := Aside0.mk hz
          clear hz
          by_cases hp2 : rd l k < 2
          · have z3 : decide (rd l k < 2) = true := by simpa using hp2
            have HP2 := Aside0.mk hp2
            clear hp2
            go_wp2
            repeat (go_quiet (fail); try go_wp2)
            go_ret
            have hpg : isPageB (rd l k) = false := by unfold isPageB; have := HP2.out; rw [decide_eq_false (by omega)]; rfl
            exact ⟨by rw [chkRes_none l (chkPre_none l (k + 1) (by rw [HE.out]; simp only [chkStep]; rw [if_neg HZ.out, hpg]; simp))]; rfl, HBB.out _ HBr.out⟩
          · have z3 : decide (rd l k < 2) = false := by simpa using hp2
            have HP2 := Aside0.mk hp2
            clear hp2
            by_cases hp3 : 4096 ≤ rd l k
            · have z4 : decide (4096 ≤ rd l k) = true := by simpa using hp3
              have z5 : decide (rd l k ≥ 4096) = true := by simpa using hp3
              have HP3 := Aside0.mk hp3
              clear hp3
              go_wp2
              repeat (go_quiet (fail); try go_wp2)
              go_ret
              have hpg : isPageB (rd l k) = false := by unfold isPageB; have := HP3.out; rw [decide_eq_false (p := rd l k < 4096) (by omega)]; simp
              exact ⟨by rw [chkRes_none l (chkPre_none l (k + 1) (by rw [HE.out]; simp only [chkStep]; rw [if_neg HZ.out, hpg]; simp))]; rfl, HBB.out _ HBr.out⟩
            · have z4 : decide (4096 ≤ rd l k) = false := by simpa using hp3
              have z5 : decide (rd l k ≥ 4096) = false := by simpa using hp3
              have hpg : Aside0 (isPageB (rd l k) = true) := ⟨by unfold isPageB; have := HP2.out; rw [decide_eq_true (by omega), decide_eq_true (by omega)]; rfl⟩
              clear hp3
              have hat0 := oneD_at (rd l k) acc'
              have HCC := Aside0.mk (HP.out.2 _ HZ.out)
              cases hb1 : acc.contains (rd l k) with
              | true =>
                rw [HCC.out, hb1] at hat0
                have HAT := Aside0.mk hat0
                have HB1 := Aside0.mk hb1
                clear hb1 hat0
                go_wp2_with (first
                  | (at_lookup; refine gate_guard rfl ?_; refine wpList_lookup_own_int _ rfl _ _ 48 rfl 3 3 .i64 keyed_int Try.underlying48 Try.underlying3 (zero_int _) w6.heap.size k _ rfl hown _ _ rfl hkey ?_; intro c hat hwc; (have hc1 : c = 1 := by (rw [HAT.out] at hat; injection hat with hat; injection hat with _ hat; exact hat.symm)); clear hat hwc; subst hc1))
                repeat (go_quiet (fail); try go_wp2)
                go_ret
                exact ⟨by rw [chkRes_none l (chkPre_none l (k + 1) (by rw [HE.out]; simp only [chkStep]; rw [if_neg HZ.out, HB1.out]; rfl))]; rfl, HBB.out _ HBr.out⟩
              | false =>
                rw [HCC.out, hb1] at hat0
                have HAT := Aside0.mk hat0
                have HB1 := Aside0.mk hb1
                clear hb1 hat0
                go_wp2_with (first
                  | (at_lookup; refine gate_guard rfl ?_; refine wpList_lookup_own_int _ rfl _ _ 48 rfl 3 3 .i64 keyed_int Try.underlying48 Try.underlying3 (zero_int _) w6.heap.size k _ rfl hown _ _ rfl hkey ?_; intro c hat hwc; (have hc1 : c = 0 := by (rw [HAT.out] at hat; injection hat with hat; injection hat with _ hat; exact hat.symm)); clear hat hwc; subst hc1)
                  | (at_mapUpdate; refine wpList_mapUpdate_own _ rfl _ _ _ 48 rfl 3 3 keyed_int Try.underlying48 (plainElem Try.prog 3) w6.heap.size k _ rfl hown (by unfold maxLen; have := H.out; omega) _ _ _ rfl rfl hkey _ [] hu ?_; intro w1 hown1 hgrow1))
                have s1 := hgrow1.size
                go_roundw
                case rel => exact ⟨k + 1, acc ++ [rd l k], acc' ++ [rd l k], by omega, by go_num, ⟨by rw [HE.out]; simp only [chkStep]; rw [if_neg HZ.out, HB1.out, hpg.out]; rfl, by intro x hx; have := HP.out.2 x hx; simp only [List.contains_append, this]⟩, by rw [oneD_snoc]; exact hown1, ⟨HBr.out.grown hgrow1 (by have := HS.out; omega) (fun j hj => by cases hj; exact Nat.le_refl _)⟩, ⟨by have := HS.out; omega⟩⟩
                case measure => simp [intOf]; omega
      · have d1 : decide (k < l.length) = false := by simpa using hlt
        have d2 : decide ((k : Int) < (l.length : Int)) = false := by simp; omega
        go_wp2
        go_ret
        have : k = l.length := by omega
        subst this
        exact ⟨by rw [chkRes_some l acc HP.out.1]; rfl, HBB.out _ HBr.out⟩

theorem tallymanref10_Check.calls (A0_0 : Option Addr) (c0_0 : Nat) (l0_0 : List Int) (r : Int) (w : World) (hr0_0 : Kd.C (Kd.int .i64) w A0_0 l0_0.length l0_0) (hc0_0 : l0_0.length ≤ c0_0) (h : tallymanref10_Check.f l0_0 = some r) :
    Calls Try.prog 29 #[.agg #[.slice A0_0 l0_0.length c0_0]] w fun e w' => e = .returned (.int .i64 r) ∧ Below w.heap.size w w' := by
  unfold tallymanref10_Check.f table_Check.f at h
  by_cases hwf : l0_0.all inI64 = true
  · rw [if_pos hwf] at h
    obtain rfl := Option.some.inj h
    clear h
    by_cases hl : l0_0.length ≤ 65536
    · by_cases hz : l0_0 = [] ∨ ¬ rd l0_0 ((l0_0.length : Int) - 1) = 0
      · have e : chkRes l0_0 = (if chkOk l0_0 = true then 0 else 2) := by
          unfold chkOk chkRes
          have hz' : (l0_0.isEmpty || !(l0_0.getLastD 0 == 0)) = true := by
            rcases hz with hz | hz
            · subst hz; rfl
            · by_cases e : l0_0 = []
              · subst e; rfl
              · rw [getLast_rd _ e]; simp [hz]
          rw [hz', decide_eq_true hl]
          simp
        rw [← e]
        exact refCheck_loop _ _ _ _ hr0_0 hwf hl hz
      · have hz1 : ¬ l0_0 = [] := fun e => hz (.inl e)
        have hz2 : rd l0_0 ((l0_0.length : Int) - 1) = 0 := Classical.not_not.mp fun e => hz (.inr e)
        have e : (if chkOk l0_0 = true then (0 : Int) else 2) = 2 := by
          unfold chkOk
          rw [getLast_rd _ hz1, hz2]
          simp [hz1]
        rw [e]
        exact refCheck_tail _ _ _ _ hr0_0 hl (List.length_pos_iff.mpr hz1) hz2
    · have e : (if chkOk l0_0 = true then (0 : Int) else 2) = 2 := by
        unfold chkOk
        rw [decide_eq_false hl]
        simp
      rw [e]
      exact refCheck_long _ _ _ _ (by omega)
  · rw [if_neg hwf] at h
    cases h

end Go.Proofs.Ytefnndodcpimiaa.H
