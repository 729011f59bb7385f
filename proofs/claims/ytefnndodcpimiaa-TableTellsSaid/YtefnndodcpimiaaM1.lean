/- Contracts of Go functions, walked by hand: each call comes to the Lean function beside it and leaves what was there before. -/
import Derived.Test.YtefnndodcpimiaaProg
import Derived.Below
import Derived.Deep.Draws
import Derived.Deep.AppendLies
import Derived.Maps.AppendAt
import Derived.OwnWalk
import Derived.Laws.BytesArg
import Derived.Laws.MakeOwn
import Derived.Laws.OwnMore
import Derived.Deep.OwnRows
import Derived.Tactics
import Derived.Lib.ConvBytes
import Derived.Laws.Slices
import Derived.WalkKit
import Derived.KernelRfl
import Derived.RowKit3
import Derived.Deep.LoopGhost
import Derived.Deep.QuietTactic
import Derived.BigQuiet
import Derived.WideLaws
import Derived.Deep.DeepCutAuto
import Derived.Deep.CutBlock
import Derived.Deep.RegionHeld3
import Derived.Laws.Rows
import Derived.Lib.AppendStr
import Derived.ArgAppend
import Derived.Laws.IdiomCopy
import Derived.OrdersHeld
import Derived.Laws.BitsLemmas
import Derived.RowKit
import Derived.WalkSpells
import Derived.WalkLawsBesides
import Derived.Laws.Bits64b
import Derived.Laws.BitsAllLaws
import Derived.Maps.OwnSet
import Derived.Test.YtefnndodcpimiaaVTT
namespace Go.Proofs.Ytefnndodcpimiaa.H
open Go.RowKit Go.Proofs.YtefnndodcpimiaaW.PrintWords Go.Proofs.YtefnndodcpimiaaW.PrintLast Go.Proofs.YtefnndodcpimiaaW.PrintMore
attribute [local go_sem] max2_int min2_int max_two min_two max_three min_three max_four min_four
set_option linter.unusedVariables false
set_option linter.unusedSimpArgs false


/-! ### table.Check -/
def isPageB (n : Int) : Bool := decide (2 ≤ n) && decide (n < 4096)
def chkStep : Option (List Int) → Int → Option (List Int)
  | none, _ => none
  | some acc, n => if n = 0 then some acc else if (acc.contains n || !isPageB n) = true then none else some (acc ++ [n])
def inI64 (x : Int) : Bool := decide (-9223372036854775808 ≤ x) && decide (x ≤ 9223372036854775807)
def chkPre (l : List Int) (k : Nat) : Option (List Int) := (l.take k).foldl chkStep (some [])
def chkOk (l : List Int) : Bool := decide (l.length ≤ 65536) && (l.isEmpty || !(l.getLastD 0 == 0)) && (chkPre l l.length).isSome
def table_Check.f (l0_0 : List Int) : Option Int := if l0_0.all inI64 = true then some (if chkOk l0_0 = true then 0 else 2) else none

theorem chkPre_succ (l : List Int) (k : Nat) (hk : k < l.length) : chkPre l (k + 1) = chkStep (chkPre l k) (l.getD k 0) := by
  unfold chkPre
  rw [List.take_add_one, List.foldl_append]
  simp [List.getD, List.getElem?_eq_getElem hk]
theorem chkStep_none (l : List Int) : l.foldl chkStep none = none := by
  induction l with
  | nil => rfl
  | cons a r ih => rw [List.foldl_cons]; exact ih
theorem chkPre_none (l : List Int) (k : Nat) (h : chkPre l k = none) : chkPre l l.length = none := by
  unfold chkPre at *
  rw [List.take_length]
  conv => lhs; rw [← List.take_append_drop k l]
  rw [List.foldl_append, h, chkStep_none]
theorem chk_any (x : Int) : ∀ l : List Int, l.any ((fun y : Lit => y.sameKey (.int .i64 x)) ∘ Lit.int .i64) = l.contains x
  | [] => rfl
  | a :: r => by
    rw [List.any_cons, List.contains_cons, chk_any x r]
    congr 1
    show decide (IntKind.i64 = IntKind.i64 ∧ a = x) = (x == a)
    by_cases e : a = x
    · subst e
      simp
    · have e' : ¬ x = a := fun h => e h.symm
      simp [e, e']
def seenD (acc : List Int) : DataW Unit := Maps.setOf (.agg []) (acc.map (Lit.int .i64))
theorem has_seenD (acc : List Int) (x : Int) : Maps.has (seenD acc) (.int .i64 x) = acc.contains x := by
  unfold seenD
  rw [Maps.has_setOf _ _ _ (fun y hy => by obtain ⟨_, _, rfl⟩ := List.mem_map.1 hy; trivial), List.any_map]
  exact chk_any x _
theorem seenD_snoc (acc : List Int) (x : Int) : seenD (acc ++ [x]) = (seenD acc).put (.int .i64 x) (.agg []) := by
  unfold seenD
  rw [List.map_append, List.map_singleton, Maps.setOf_snoc]
theorem wf_inI64 {x : Int} (h : inI64 x = true) : (Lit.int .i64 x).wf = true := by
  unfold inI64 at h
  simp at h
  simp [Lit.wf, IntKind.min, IntKind.max, IntKind.signed, IntKind.bits]
  omega
theorem keyed_int : Go.Maps.Keyed Try.prog 3 := Go.Maps.int_keyed Try.underlying3
theorem zero_unit (w : World) : (zeroValue 53).run Try.prog w = .ok (.agg #[]) w := by kernel_rfl

set_option maxHeartbeats 1000000 in
set_option maxRecDepth 100000 in
theorem table_Check_long (A0 : Option Addr) (c0 : Nat) (l : List Int) (w : World) (h : 65536 < l.length) :
    Calls Try.prog 9 #[.agg #[.slice A0 l.length c0]] w fun e w' => e = .returned (.int .i64 2) ∧ Below w.heap.size w w' := by
  have hmm := @run_makeMap Try.prog
  have h1 : decide ((65536 : Int) < (l.length : Int)) = true := by simp; omega
  have h2 : decide (65536 < l.length) = true := by simp; omega
  go_enter Try.func9, Try.ntmps9
  go_wp2
  try go_quiet (fail)
  try go_wp2
  go_ret
  exact ⟨rfl, (Below.refl _ _).alloc (Nat.le_refl _) _⟩

theorem getLast_rd (l : List Int) (h : l ≠ []) : l.getLastD 0 = rd l ((l.length : Int) - 1) := by
  unfold rd
  rw [List.getLastD_eq_getLast?, List.getLast?_eq_getElem?, List.getD_eq_getElem?_getD]
  congr 2
  have := List.length_pos_iff.mpr h
  omega

set_option maxHeartbeats 1000000 in
set_option maxRecDepth 100000 in
theorem table_Check_tail (A0 : Option Addr) (c0 : Nat) (l : List Int) (w : World) (hr0 : Kd.C (Kd.int .i64) w A0 l.length l) (h : l.length ≤ 65536) (hp : 0 < l.length) (hl : rd l ((l.length : Int) - 1) = 0) :
    Calls Try.prog 9 #[.agg #[.slice A0 l.length c0]] w fun e w' => e = .returned (.int .i64 2) ∧ Below w.heap.size w w' := by
  have hmm := @run_makeMap Try.prog
  have h1 : decide ((65536 : Int) < (l.length : Int)) = false := by simp; omega
  have h2 : decide (65536 < l.length) = false := by simp; omega
  have h3 : decide (0 < l.length) = true := by simpa using hp
  have h4 : decide ((0 : Int) < (l.length : Int)) = true := by simp; omega
  obtain ⟨ad, e, hc⟩ := Kd.at_int hr0 ((l.length : Int) - 1) (by omega) (by omega)
  rw [hl, show ((l.length : Int) - 1).toNat = l.length - 1 by omega] at hc
  cases e
  have HC := Aside0.mk hc
  have i1 : (0 : Int) ≤ (l.length : Int) - 1 := by omega
  have i2 : (l.length : Int) - 1 < (l.length : Int) := by omega
  clear hl hr0 hc
  go_enter Try.func9, Try.ntmps9
  go_wp2_with (first | ((with_reducible refine gate_dst (N := 1) rfl ?_); refine box_event ?hg (N := 1) ?hd (cs := #[.slice (some ad) l.length c0]) (t := 24) ?hr ?_; (case hd => rfl); (case hg => rfl); (case hr => first | (go_simp; done) | (go_simp; rfl)); intro gb hg w6 hbox hb; have hcz : w6.cell? ⟨gb, 0, none⟩ = some (.slice (some ad) l.length c0) := (blk_cell hbox 0).trans rfl; have hcw := pw_cell_below hb HC.out; have HB := Aside0.mk hb; clear hb hbox hg))
  repeat (go_quiet (fail); try go_wp2)
  go_ret
  exact ⟨rfl, by repeat (first | exact HB.out | apply below_alloc | apply pw_below_drewN | apply below_drew1)⟩

theorem isPage_any (n : Int) (w : World) : Calls Try.prog 31 #[.int .i64 n] w fun e w' => e = .returned (.bool (isPageB n)) ∧ w = w' := by
  unfold isPageB
  by_cases h : 2 ≤ n
  · have h1 : decide (2 ≤ n) = true := by simpa using h
    go_enter Try.func31, Try.ntmps31
    go_wp2
    go_ret
    exact ⟨by simp [h], rfl⟩
  · have h1 : decide (2 ≤ n) = false := by simpa using h
    go_enter Try.func31, Try.ntmps31
    go_wp2
    go_ret
    exact ⟨by simp [h], rfl⟩

def chkRes (l : List Int) : Int := if (chkPre l l.length).isSome = true then 0 else 2
theorem chkRes_none (l : List Int) (h : chkPre l l.length = none) : chkRes l = 2 := by unfold chkRes; rw [h]; rfl
theorem chkRes_some (l acc : List Int) (h : chkPre l l.length = some acc) : chkRes l = 0 := by unfold chkRes; rw [h]; rfl

open Go.Maps in
set_option maxHeartbeats 1000000 in
set_option maxRecDepth 100000 in
theorem table_Check_loop (A0 : Option Addr) (c0 : Nat) (l : List Int) (w : World) (hr0 : Kd.C (Kd.int .i64) w A0 l.length l) (hwf : l.all inI64 = true) (h : l.length ≤ 65536) (hl : l = [] ∨ ¬ rd l ((l.length : Int) - 1) = 0) :
    Calls Try.prog 9 #[.agg #[.slice A0 l.length c0]] w fun e w' => e = .returned (.int .i64 (chkRes l)) ∧ Below w.heap.size w w' := by
  have hmm := @run_makeMap Try.prog
  have h1 : decide ((65536 : Int) < (l.length : Int)) = false := by simp; omega
  have h2 : decide (65536 < l.length) = false := by simp; omega
  have HR := Aside0.mk hr0
  have HWF := Aside0.mk hwf
  obtain ⟨Q, hQ⟩ : ∃ Q : Prop, Q = (l = [] ∨ ∃ ad, A0 = some ad ∧ w.cell? (ad.add (l.length - 1)) = some (.int .i64 (rd l ((l.length : Int) - 1))) ∧ ¬ rd l ((l.length : Int) - 1) = 0) := ⟨_, rfl⟩
  have HQ : Q := by
    rw [hQ]
    rcases hl with hl | hl
    · exact .inl hl
    · by_cases e : l = []
      · exact .inl e
      · have := List.length_pos_iff.mpr e
        obtain ⟨ad, e2, hc⟩ := Kd.at_int hr0 ((l.length : Int) - 1) (by omega) (by omega)
        rw [show ((l.length : Int) - 1).toNat = l.length - 1 by omega] at hc
        exact .inr ⟨ad, e2, hc, hl⟩
  clear hr0 hwf hl
  rcases hQ ▸ HQ with e | ⟨ad, e, hc, hl⟩
  · clear HQ hQ Q
    subst e
    have h3 : decide (0 < ([] : List Int).length) = false := rfl
    have hnil : ([] : List Int).length = 0 := rfl
    rw [hnil]
    go_enter Try.func9, Try.ntmps9
    go_wp2_with (first | ((with_reducible refine gate_dst (N := 1) rfl ?_); refine box_event ?hg (N := 1) ?hd (cs := #[.slice A0 0 c0]) (t := 24) ?hr ?_; (case hd => rfl); (case hg => rfl); (case hr => first | (go_simp; done) | (go_simp; rfl)); intro gb hg w6 hbox hb; have hcz : w6.cell? ⟨gb, 0, none⟩ = some (.slice A0 0 c0) := (blk_cell hbox 0).trans rfl; have hcz' : ∀ o, (w6.alloc o).cell? ⟨gb, 0, none⟩ = some (.slice A0 0 c0) := fun o => pw_cell_below (below_alloc (Below.refl _ _) o) hcz; have HB := Aside0.mk hb; clear hb hbox hg))
    repeat (go_quiet (fail); try go_wp2)
    refine wp_loop_rounds 1 ?_
    rw [rounds_succ]
    go_wp2
    go_ret
    exact ⟨rfl, below_alloc HB.out _⟩
  · clear HQ hQ Q
    have hp : 0 < l.length := by
      rcases Nat.eq_zero_or_pos l.length with h0 | h0
      · exact absurd (by rw [List.eq_nil_of_length_eq_zero h0]; rfl) hl
      · exact h0
    have h3 : decide (0 < l.length) = true := by simpa using hp
    have h4 : decide ((0 : Int) < (l.length : Int)) = true := by simp; omega
    have h5 : (rd l ((l.length : Int) - 1) == 0) = false := by simpa using hl
    have HC := Aside0.mk hc
    have i1 : (0 : Int) ≤ (l.length : Int) - 1 := by omega
    have i2 : (l.length : Int) - 1 < (l.length : Int) := by omega
    have HLN := Aside0.mk hl
    clear hl hc
    cases e
    go_enter Try.func9, Try.ntmps9
    go_wp2_with (first | ((with_reducible refine gate_dst (N := 1) rfl ?_); refine box_event ?hg (N := 1) ?hd (cs := #[.slice (some ad) l.length c0]) (t := 24) ?hr ?_; (case hd => rfl); (case hg => rfl); (case hr => first | (go_simp; done) | (go_simp; rfl)); intro gb hg w6 hbox hb; have hcz : w6.cell? ⟨gb, 0, none⟩ = some (.slice (some ad) l.length c0) := (blk_cell hbox 0).trans rfl; have hcz' : ∀ o, (w6.alloc o).cell? ⟨gb, 0, none⟩ = some (.slice (some ad) l.length c0) := fun o => pw_cell_below (below_alloc (Below.refl _ _) o) hcz; have hcw := pw_cell_below hb HC.out; have HB := Aside0.mk hb; clear hb hbox hg))
    repeat (go_quiet (fail); try go_wp2)
    go_loopw [31] (fun i wr => ∃ (k : Nat) (acc : List Int), k ≤ l.length ∧ i = .int .i64 k ∧ Aside0 (chkPre l k = some acc ∧ acc.length ≤ k) ∧ wr.ownsMap Try.prog 3 unitElem w6.heap.size k (seenD acc) ∧ Aside0 (Below w.heap.size w wr) ∧ Aside0 (w6.heap.size < wr.heap.size))
      (fun i _ => l.length - (intOf i).toNat)
    case atStart => exact ⟨0, [], Nat.zero_le _, rfl, ⟨rfl, by simp⟩, World.ownsMap_made _ _ _ _, ⟨below_alloc HB.out _⟩, ⟨by simp⟩⟩
    case round =>
      obtain ⟨k, acc, hk, rfl, HP, hown, HBr, HS⟩ := hrel
      by_cases hlt : k < l.length
      · obtain ⟨ad', e', hcell⟩ := Kd.at_int (Kd.C_below HR.out HBr.out) (k : Int) (by omega) (by omega)
        cases e'
        rw [show ((k : Int)).toNat = k by omega] at hcell
        have hin : inI64 (rd l k) = true := by
          refine List.all_eq_true.mp HWF.out _ ?_
          simp only [rd, Int.toNat_natCast, List.getD_eq_getElem?_getD, List.getElem?_eq_getElem hlt, Option.getD_some]
          exact List.getElem_mem hlt
        have hkey : keyOf Try.prog 3 (.int .i64 (rd l k)) = some (.int .i64 (rd l k)) := keyOf_int_mk Try.underlying3 (wf_inI64 hin)
        have HE : Aside0 (chkPre l (k + 1) = chkStep (some acc) (rd l k)) := ⟨by rw [chkPre_succ l k hlt, HP.out.1]; simp [rd]⟩
        have HI := Aside0.mk hin
        clear hin
        have d1 : decide (k < l.length) = true := by simpa using hlt
        have d2 : decide ((k : Int) < (l.length : Int)) = true := by simp; omega
        by_cases hz : rd l k = 0
        · have z1 : (rd l k == 0) = true := by simpa using hz
          have HZ := Aside0.mk hz
          clear hz
          go_wp2
          go_roundw
          case rel => exact ⟨k + 1, acc, by omega, by go_num, ⟨by rw [HE.out]; simp [chkStep, HZ.out], by have := HP.out.2; omega⟩, hown.mono (Nat.le_succ _), HBr, HS⟩
          case measure => simp [intOf]; omega
        · have z1 : (rd l k == 0) = false := by simpa using hz
          have HZ := Aside0.mk hz
          clear hz
          have hhas := has_seenD acc (rd l k)
          cases hb1 : acc.contains (rd l k) with
          | true =>
            rw [hb1] at hhas
            have HB1 := Aside0.mk hb1
            clear hb1
            go_wp2_with (first
              | (at_lookup; refine wpList_lookup_own_unit _ rfl _ _ 52 rfl 3 53 keyed_int Try.underlying52 (zero_unit _) w6.heap.size k _ rfl hown _ _ rfl hkey ?_))
            repeat (go_quiet (fail); try go_wp2)
            go_ret
            exact ⟨by rw [chkRes_none l (chkPre_none l (k + 1) (by rw [HE.out]; simp only [chkStep]; rw [if_neg HZ.out, HB1.out]; rfl))]; rfl, below_alloc HBr.out _⟩
          | false =>
            rw [hb1] at hhas
            have HB1 := Aside0.mk hb1
            clear hb1
            cases hb2 : isPageB (rd l k) with
            | false =>
              have HB2 := Aside0.mk hb2
              go_wp2_with (first
                | (at_lookup; refine wpList_lookup_own_unit _ rfl _ _ 52 rfl 3 53 keyed_int Try.underlying52 (zero_unit _) w6.heap.size k _ rfl hown _ _ rfl hkey ?_)
                | (go_at_call 31; refine (isPage_any _ _).mono ?_; rintro e w' ⟨rfl, rfl⟩))
              repeat (go_quiet (fail); try go_wp2)
              go_ret
              exact ⟨by rw [chkRes_none l (chkPre_none l (k + 1) (by rw [HE.out]; simp only [chkStep]; rw [if_neg HZ.out, HB1.out, HB2.out]; rfl))]; rfl, below_alloc HBr.out _⟩
            | true =>
              have HB2 := Aside0.mk hb2
              go_wp2_with (first
                | (at_lookup; refine wpList_lookup_own_unit _ rfl _ _ 52 rfl 3 53 keyed_int Try.underlying52 (zero_unit _) w6.heap.size k _ rfl hown _ _ rfl hkey ?_)
                | (go_at_call 31; refine (isPage_any _ _).mono ?_; rintro e w' ⟨rfl, rfl⟩)
                | (at_mapUpdate; refine wpList_mapUpdate_own _ rfl _ _ _ 52 rfl 3 53 keyed_int Try.underlying52 (unitElem (H := Unit)) w6.heap.size k _ rfl (hown.alloc _) (by unfold maxLen; omega) _ _ _ rfl rfl hkey _ [] unitElem_mk ?_; intro w1 hown1 hgrow1))
              have s1 := hgrow1.size
              simp at s1
              go_roundw
              case rel => exact ⟨k + 1, acc ++ [rd l k], by omega, by go_num, ⟨by rw [HE.out]; simp only [chkStep]; rw [if_neg HZ.out, HB1.out, HB2.out]; rfl, by have := HP.out.2; simp; omega⟩, by rw [seenD_snoc]; exact hown1, ⟨(below_alloc HBr.out _).grown hgrow1 (by have := HBr.out.size; simp; omega) (fun j hj => by cases hj; exact HB.out.size)⟩, ⟨by have := HS.out; omega⟩⟩
              case measure => simp [intOf]; omega
      · have d1 : decide (k < l.length) = false := by simpa using hlt
        have d2 : decide ((k : Int) < (l.length : Int)) = false := by simp; omega
        go_wp2
        go_ret
        have : k = l.length := by omega
        subst this
        exact ⟨by rw [chkRes_some l acc HP.out.1]; rfl, HBr.out⟩

theorem table_Check.calls (A0_0 : Option Addr) (c0_0 : Nat) (l0_0 : List Int) (r : Int) (w : World) (hr0_0 : Kd.C (Kd.int .i64) w A0_0 l0_0.length l0_0) (hc0_0 : l0_0.length ≤ c0_0) (h : table_Check.f l0_0 = some r) :
    Calls Try.prog 9 #[.agg #[.slice A0_0 l0_0.length c0_0]] w fun e w' => e = .returned (.int .i64 r) ∧ Below w.heap.size w w' := by
  unfold table_Check.f at h
  by_cases hwf : l0_0.all inI64 = true
  · rw [if_pos hwf] at h
    obtain rfl := Option.some.inj h
    clear h
    by_cases hl : l0_0.length ≤ 65536
    · by_cases hz : l0_0 = [] ∨ ¬ rd l0_0 ((l0_0.length : Int) - 1) = 0
      · have e : chkRes l0_0 = (if chkOk l0_0 = true then 0 else 2) := by
          unfold chkOk chkRes
          have hz' : (l0_0.isEmpty || !(l0_0.getLastD 0 == 0)) = true := by
            rcases hz with hz | hz
            · subst hz; rfl
            · by_cases e : l0_0 = []
              · subst e; rfl
              · rw [getLast_rd _ e]; simp [hz]
          rw [hz', decide_eq_true hl]
          simp
        rw [← e]
        exact table_Check_loop _ _ _ _ hr0_0 hwf hl hz
      · have hz1 : ¬ l0_0 = [] := fun e => hz (.inl e)
        have hz2 : rd l0_0 ((l0_0.length : Int) - 1) = 0 := Classical.not_not.mp fun e => hz (.inr e)
        have e : (if chkOk l0_0 = true then (0 : Int) else 2) = 2 := by
          unfold chkOk
          rw [getLast_rd _ hz1, hz2]
          simp [hz1]
        rw [e]
        exact table_Check_tail _ _ _ _ hr0_0 hl (List.length_pos_iff.mpr hz1) hz2
    · have e : (if chkOk l0_0 = true then (0 : Int) else 2) = 2 := by
        unfold chkOk
        rw [decide_eq_false hl]
        simp
      rw [e]
      exact table_Check_long _ _ _ _ (by omega)
  · rw [if_neg hwf] at h
    cases h

end Go.Proofs.Ytefnndodcpimiaa.H
