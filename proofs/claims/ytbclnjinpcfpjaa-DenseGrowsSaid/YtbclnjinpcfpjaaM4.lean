/- Contracts of Go functions, walked by hand: each call comes to the Lean function beside it and leaves what was there before. -/
import Derived.Test.YtbclnjinpcfpjaaProg
import Derived.Below
import Derived.Deep.Draws
import Derived.Deep.AppendLies
import Derived.Maps.AppendAt
import Derived.OwnWalk
import Derived.Laws.BytesArg
import Derived.Laws.MakeOwn
import Derived.Laws.OwnMore
import Derived.Deep.OwnRows
import Derived.Tactics
import Derived.Lib.ConvBytes
import Derived.Laws.Slices
import Derived.WalkKit
import Derived.KernelRfl
import Derived.RowKit3
import Derived.Deep.LoopGhost
import Derived.Deep.QuietTactic
import Derived.BigQuiet
import Derived.WideLaws
import Derived.Deep.DeepCutAuto
import Derived.Deep.CutBlock
import Derived.Deep.RegionHeld3
import Derived.Laws.Rows
import Derived.Lib.AppendStr
import Derived.ArgAppend
import Derived.Laws.IdiomCopy
import Derived.OrdersHeld
import Derived.Laws.BitsLemmas
import Derived.RowKit
import Derived.WalkSpells
import Derived.WalkLawsBesides
import Derived.Laws.Bits64b
import Derived.Laws.BitsAllLaws
import Derived.Maps.OwnSet
import Derived.Test.YtbclnjinpcfpjaaVC
import Derived.Test.YtbclnjinpcfpjaaM3
namespace Go.Proofs.Ytbclnjinpcfpjaa.H
open Go.RowKit Go.Proofs.YtbclnjinpcfpjaaW.PrintWords Go.Proofs.YtbclnjinpcfpjaaW.PrintLast Go.Proofs.YtbclnjinpcfpjaaW.PrintMore
attribute [local go_sem] max2_int min2_int max_two min_two max_three min_three max_four min_four
set_option linter.unusedVariables false
set_option linter.unusedSimpArgs false

theorem r_one {k1 k2 : IntKind} {a b c d : Int} {p q : Bool} (h1 : a = b) (h2 : c = d) (h3 : p = q) : Ending.returned (.tuple #[.int k1 a, .int k2 c, .bool p]) = .returned (.tuple #[.int k1 b, .int k2 d, .bool q]) := by rw [h1, h2, h3]
def numE (rest : List Int) (err : Int) : Int := if (numR rest 0 0).1 = 0 then err else (numR rest 0 0).1
def numOk (rest : List Int) : Bool := (numR rest 0 0).1 == 0
def numV (rest : List Int) : Int := (numR rest 0 0).2.1
def numZ (rest : List Int) : Int := (numR rest 0 0).2.2
/-- How far the number has been read. -/
structure NumAt (rest : List Int) (i : Nat) (n : Int) : Prop where
  le : i ≤ rest.length
  nine : i ≤ 9
  eq : numR rest 0 0 = numR (rest.drop i) i n
  lo : 0 ≤ n
  hi : n < 2 ^ (7 * i)
theorem NumAt.step {rest : List Int} {i : Nat} {n c : Int} (h : NumAt rest i n) (hi : i < rest.length) (hc : rd rest (i : Int) = c) : numR rest 0 0 = if (i = 9 ∧ 1 < c) ∨ (0 < i ∧ c = 0) then (4, 0, 0) else if c < 128 then (0, n + c % 128 * 2 ^ (7 * i), i + 1) else numR (rest.drop (i + 1)) (i + 1) (n + c % 128 * 2 ^ (7 * i)) := by
  rw [h.eq]
  have e : rest.drop i = c :: rest.drop (i + 1) := by
    rw [← hc]
    unfold rd
    rw [Int.toNat_natCast, List.getD_eq_getElem?_getD, List.getElem?_eq_getElem hi]
    exact List.drop_eq_getElem_cons hi
  rw [e]
  rfl
theorem NumAt.next {rest : List Int} {i : Nat} {n c : Int} (h : NumAt rest i n) (hi : i < rest.length) (hc : rd rest (i : Int) = c) (h0 : 0 ≤ c) (h1 : c ≤ 255) (ha : ¬ ((i = 9 ∧ 1 < c) ∨ (0 < i ∧ c = 0))) (hb : ¬ c < 128) : NumAt rest (i + 1) (n + c % 128 * 2 ^ (7 * i)) := by
  have h9 := h.nine
  refine ⟨by omega, ?_, ?_, ?_, ?_⟩
  · rcases Nat.lt_or_ge i 9 with h2 | h2
    · omega
    · exact absurd (.inl ⟨by omega, by omega⟩) ha
  · rw [h.step hi hc, if_neg ha, if_neg hb]
  · have := h.lo
    have h2 : (0 : Int) ≤ c % 128 * 2 ^ (7 * i) := Int.mul_nonneg (by omega) (Int.le_of_lt (Int.pow_pos (by omega)))
    omega
  · have h3 := h.hi
    have h2 : c % 128 * 2 ^ (7 * i) ≤ 127 * 2 ^ (7 * i) := Int.mul_le_mul_of_nonneg_right (by omega) (Int.le_of_lt (Int.pow_pos (by omega)))
    have h4 : (2 : Int) ^ (7 * (i + 1)) = 128 * 2 ^ (7 * i) := by rw [show 7 * (i + 1) = 7 * i + 7 by omega, Int.pow_add]; omega
    omega
/-- The bits of a further byte. -/
theorem or_shift (n c : Int) (i : Nat) (h0 : 0 ≤ n) (h1 : n < 2 ^ (7 * i)) (hc0 : 0 ≤ c) (hc : c < 128) (hi : i ≤ 9) (h9 : i = 9 → c ≤ 1) : Go.bits .or .u64 n (shl .u64 c (7 * (i : Int))) = n + c * 2 ^ (7 * i) ∧ shl .u64 c (7 * (i : Int)) = c * 2 ^ (7 * i) := by
  have hp : (0 : Int) < 2 ^ (7 * i) := Int.pow_pos (by omega)
  have hle : c * 2 ^ (7 * i) + 2 ^ (7 * i) ≤ 18446744073709551616 := by
    rcases Nat.lt_or_ge i 9 with h2 | h2
    · have h3 : (2 : Int) ^ (7 * i) ≤ 2 ^ 56 := by
        have : (2 : Nat) ^ (7 * i) ≤ 2 ^ 56 := Nat.pow_le_pow_right (by omega) (by omega)
        exact_mod_cast this
      have h4 : c * 2 ^ (7 * i) ≤ 127 * 2 ^ (7 * i) := Int.mul_le_mul_of_nonneg_right (by omega) (Int.le_of_lt hp)
      omega
    · have h3 : i = 9 := by omega
      subst h3
      have := h9 rfl
      have h4 : c * 2 ^ (7 * 9) ≤ 1 * 2 ^ (7 * 9) := Int.mul_le_mul_of_nonneg_right this (Int.le_of_lt hp)
      omega
  have hs : shl .u64 c (7 * (i : Int)) = c * 2 ^ (7 * i) := by
    unfold shl
    have h2 : min (7 * (i : Int)).toNat (IntKind.bits .u64) = 7 * i := by
      have : (7 * (i : Int)).toNat = 7 * i := by omega
      rw [this]
      show min (7 * i) 64 = 7 * i
      omega
    rw [h2]
    have h5 : (0 : Int) ≤ c * 2 ^ (7 * i) := Int.mul_nonneg hc0 (Int.le_of_lt hp)
    have h6 : c * 2 ^ (7 * i) < 18446744073709551616 := by omega
    simp only [IntKind.wrap, IntKind.bits, IntKind.signed]
    generalize c * 2 ^ (7 * i) = z at *
    simp
    omega
  refine ⟨?_, hs⟩
  rw [hs]
  obtain ⟨a, rfl⟩ := Int.eq_ofNat_of_zero_le h0
  obtain ⟨b, rfl⟩ := Int.eq_ofNat_of_zero_le hc0
  have e1 : ((b : Int) * 2 ^ (7 * i)) = ((b * 2 ^ (7 * i) : Nat) : Int) := by push_cast; rfl
  rw [e1]
  have h1' : a < 2 ^ (7 * i) := by exact_mod_cast h1
  have e2 : ((2 ^ (7 * i) : Nat) : Int) = 2 ^ (7 * i) := by push_cast; rfl
  have hle' : b * 2 ^ (7 * i) + 2 ^ (7 * i) ≤ 18446744073709551616 := by
    rw [e1, ← e2] at hle
    omega
  have hp' : 0 < 2 ^ (7 * i) := Nat.pow_pos (by omega)
  have hA : a < 18446744073709551616 := by omega
  have hB : b * 2 ^ (7 * i) < 18446744073709551616 := by omega
  rw [bits_or_u64_nat a (b * 2 ^ (7 * i)) hA hB]
  have := Nat.two_pow_add_eq_or_of_lt h1' b
  rw [Nat.or_comm, Nat.mul_comm b, ← this]
  push_cast
  omega
theorem or_wrap (n c : Int) (i : Nat) (h0 : 0 ≤ n) (h1 : n < 2 ^ (7 * i)) (hc0 : 0 ≤ c) (hc : c < 128) (hi : i ≤ 9) (h9 : i = 9 → c ≤ 1) : Go.bits .or .u64 n (IntKind.u64.wrap (c * 2 ^ (7 * i))) = n + c * 2 ^ (7 * i) := by
  obtain ⟨a, b⟩ := or_shift n c i h0 h1 hc0 hc hi h9
  rw [b] at a
  have e : IntKind.u64.wrap (c * 2 ^ (7 * i)) = c * 2 ^ (7 * i) := by
    have hp : (0 : Int) < 2 ^ (7 * i) := Int.pow_pos (by omega)
    have h3 : (2 : Int) ^ (7 * i) ≤ 2 ^ 63 := by
      have : (2 : Nat) ^ (7 * i) ≤ 2 ^ 63 := Nat.pow_le_pow_right (by omega) (by omega)
      exact_mod_cast this
    have h5 : (0 : Int) ≤ c * 2 ^ (7 * i) := Int.mul_nonneg hc0 (Int.le_of_lt hp)
    have h6 : c * 2 ^ (7 * i) < 18446744073709551616 := by
      rcases Nat.lt_or_ge i 9 with h2 | h2
      · have h3 : (2 : Int) ^ (7 * i) ≤ 2 ^ 56 := by
          have : (2 : Nat) ^ (7 * i) ≤ 2 ^ 56 := Nat.pow_le_pow_right (by omega) (by omega)
          exact_mod_cast this
        have h4 : c * 2 ^ (7 * i) ≤ 127 * 2 ^ (7 * i) := Int.mul_le_mul_of_nonneg_right (by omega) (Int.le_of_lt hp)
        omega
      · have h8 := h9 (by omega)
        have h4 : c * 2 ^ (7 * i) ≤ 1 * 2 ^ (7 * i) := Int.mul_le_mul_of_nonneg_right h8 (Int.le_of_lt hp)
        omega
    simp only [IntKind.wrap, IntKind.bits, IntKind.signed]
    generalize c * 2 ^ (7 * i) = z at *
    simp
    omega
  rw [e]
  exact a
theorem and127 (x : Int) (h0 : 0 ≤ x) (h1 : x < 128) : Go.bits .and .u8 x 127 = x := by
  have h := bits_mask .u8 8 (by decide) wraps_u8 7 (by decide) x h0 (by omega)
  have e : (2 ^ 7 - 1 : Int) = 127 := by decide
  rw [e] at h
  rw [h]
  show x % 128 = x
  omega
theorem and127' (x : Int) (h0 : 0 ≤ x) (h1 : x < 256) : Go.bits .and .u8 x 127 = x % 128 := by
  have h := bits_mask .u8 8 (by decide) wraps_u8 7 (by decide) x h0 (by omega)
  have e : (2 ^ 7 - 1 : Int) = 127 := by decide
  rw [e] at h
  exact h
set_option maxRecDepth 100000 in
theorem octet_fail_is (g r0_ : Nat) (bs : List Int) (p err : Int) (is : Bool) (x : Int) (w0 w : World) (hI : IsS101 w0 w g r0_ bs p err is) :
    Calls Try.prog 96 #[.pointer (some ⟨g, 0, none⟩), .int .i64 x] w fun e w' => e = .returned (.tuple #[]) ∧ IsS101 w0 w' g r0_ bs p x is ∧ OnlyAt w w' g := by
  have HR := Aside0.mk hI
  obtain ⟨A, c, h1, _⟩ := hI
  have hc2 : w.cell? ⟨g, 2, none⟩ = some (.int .i64 err) := cellS101_2 h1
  have hf := blk_frozen h1 2
  clear h1
  go_enter Try.func96, Try.ntmps96
  go_wp2
  repeat (go_quiet (fail); try go_wp2)
  first | go_end0 | ((try simp only [Exit.inBlock, Exit.then]); refine bodyPost_ret (results_none rfl _ _ _) rfl ?_)
  exact ⟨rfl, by repeat (first | exact HR.out.set_2 x | apply IsS101.drew | apply IsS101.drewN | (apply IsS101.set_2; exact HR.out)), by repeat (first | exact OnlyAt.refl _ _ | apply OnlyAt.set | apply OnlyAt.drew | apply OnlyAt.drewN)⟩
set_option maxHeartbeats 1000000 in
set_option maxRecDepth 100000 in
theorem octet_number_is (g r0_ : Nat) (bs : List Int) (p : Nat) (err : Int) (is : Bool) (w0 w : World) (hI : IsS101 w0 w g r0_ bs p err is) (h3 : p ≤ bs.length) (h5 : bs.all isByte = true) (h6 : bs.length < 140737488355328) (rest : List Int) (h4 : rest = bs.drop p) :
    Calls Try.prog 106 #[.pointer (some ⟨g, 0, none⟩)] w fun e w' => e = .returned (.tuple #[.int .u64 (numV rest), .int .i64 (numZ rest), .bool (numOk rest)]) ∧ IsS101 w0 w' g r0_ bs p (numE rest err) is ∧ OnlyAt w w' g := by
  have HR := Aside0.mk hI
  have HBY : Aside0 (rest.all isByte = true) := ⟨by rw [h4, List.all_eq_true]; exact fun x hx => List.all_eq_true.mp h5 x (List.mem_of_mem_drop hx)⟩
  have HLN : Aside0 (rest.length < 140737488355328) := ⟨by rw [h4, List.length_drop]; omega⟩
  obtain ⟨A, c, h1, h2, h7, h8⟩ := hI
  have hc0 : w.cell? ⟨g, 0, none⟩ = some (.slice A bs.length c) := cellS101_0 h1
  have hc1 : w.cell? ⟨g, 1, none⟩ = some (.int .i64 p) := cellS101_1 h1
  obtain ⟨i0, hi0, _, hsz, _⟩ := info_parts minfo_byte
  have hC := (Kd.R_reads' h7).2.2
  have hcap := (Kd.R_reads' h7).2.1
  have p0 : (0 : Int) ≤ (p : Int) := by omega
  have p1 : (p : Int) ≤ (bs.length : Int) := by omega
  have hcut := cut_from (P := Try.prog) 33 5 .i64 Try.underlying33 hi0 1 hsz A bs.length c (p : Int) p0 (by omega)
  rw [show ((p : Int)).toNat = p by omega] at hcut
  have hD := Kd.C_drop (m := p) hC h3 hcap
  obtain ⟨A', hA'⟩ : ∃ A', A' = (if c = p then A else A.map (·.add (p * 1))) := ⟨_, rfl⟩
  obtain ⟨c', hc'⟩ : ∃ c', c' = c - p := ⟨_, rfl⟩
  have hlen : rest.length = bs.length - p := by rw [h4, List.length_drop]
  rw [← hA', ← hc', ← hlen] at hcut
  have HD : Aside0 (Kd.C (Kd.int .u8) w A' rest.length rest) := ⟨by rw [hA', h4]; exact hD⟩
  have q2 : (0 : Int) ≤ (p : Int) := by omega
  clear h1 h2 h3 h4 h5 h6 h7 h8 hi0 hsz hC hcap hD hA' hc' hlen
  go_enter Try.func106, Try.ntmps106
  go_wp2
  repeat (go_quiet (fail); try go_wp2)
  go_loopw [2, 19] (fun vn vi W => ∃ (i : Nat) (n : Int), vi = .int .i64 i ∧ vn = .int .u64 n ∧ Aside0 (NumAt rest i n) ∧ Drawn0 w W) (fun _ vi _ => rest.length - (intOf vi).toNat)
  case atStart => exact ⟨0, 0, rfl, rfl, ⟨⟨Nat.zero_le _, by omega, by rw [List.drop_zero], by omega, by simp⟩⟩, by repeat (first | exact Drawn0.refl _ | apply Drawn0.step)⟩
  case round =>
    obtain ⟨i, n, rfl, rfl, HN, ⟨m, rfl⟩⟩ := hrel
    by_cases hlt : i < rest.length
    · have d1 : decide (i < rest.length) = true := by simpa using hlt
      have d2 : decide ((i : Int) < (rest.length : Int)) = true := by simp; omega
      obtain ⟨ad, e, hcell⟩ := Kd.at_int HD.out (i : Int) (by omega) (by omega)
      cases e
      rw [show ((i : Int)).toNat = i by omega] at hcell
      have hby : isByte (rd rest i) = true := List.all_eq_true.mp HBY.out _ (by simp only [rd, Int.toNat_natCast, List.getD_eq_getElem?_getD, List.getElem?_eq_getElem hlt, Option.getD_some]; exact List.getElem_mem hlt)
      obtain ⟨x, hx⟩ : ∃ x, rd rest i = x := ⟨_, rfl⟩
      have HX := Aside0.mk hx
      rw [hx] at hcell hby
      clear hx
      have hb0 : 0 ≤ x := by unfold isByte at hby; simp at hby; omega
      have hb1 : x ≤ 255 := by unfold isByte at hby; simp at hby; omega
      clear hby
      have HS := Aside0.mk (HN.out.step hlt HX.out)
      have h9 := HN.out.nine
      by_cases hc128 : x < 128
      · have e5 : decide (x < 128) = true := by simpa using hc128
        by_cases hbad : (i = 9 ∧ 1 < x) ∨ (0 < i ∧ x = 0)
        · have hq : numR rest 0 0 = (4, 0, 0) := by rw [HS.out, if_pos hbad]
          have HQ := Aside0.mk hq
          clear hq
          have t3 : decide (0 < i) = true := by simp; omega
          have t5 : decide ((0 : Int) < (i : Int)) = true := by simp; omega
          by_cases hx0 : x = 0
          · have t4 : (x == 0) = true := by simp; omega
            have t2 : decide (1 < x) = false := by simp; omega
            have HX0 := Aside0.mk hx0
            clear hx0 hbad
            cases t1 : ((i : Int) == 9) with
            | true =>
              go_wp2_with (go_at_call 96; refine (octet_fail_is g r0_ bs p err is _ w0 _ (HR.out.drewN m)).mono ?_; rintro e w2 ⟨rfl, ho, hk⟩)
              go_ret3
              exact ⟨r_one (by unfold numV; rw [HQ.out]) (by unfold numZ; rw [HQ.out]; rfl) (by unfold numOk; rw [HQ.out]; rfl), by unfold numE; rw [HQ.out]; exact ho, ((OnlyAt.refl w g).drewN m).trans hk⟩
            | false =>
              go_wp2_with (go_at_call 96; refine (octet_fail_is g r0_ bs p err is _ w0 _ (HR.out.drewN m)).mono ?_; rintro e w2 ⟨rfl, ho, hk⟩)
              go_ret3
              exact ⟨r_one (by unfold numV; rw [HQ.out]) (by unfold numZ; rw [HQ.out]; rfl) (by unfold numOk; rw [HQ.out]; rfl), by unfold numE; rw [HQ.out]; exact ho, ((OnlyAt.refl w g).drewN m).trans hk⟩
          · have t4 : (x == 0) = false := by simp; omega
            have t1 : ((i : Int) == 9) = true := by simp; omega
            have t2 : decide (1 < x) = true := by simp; omega
            clear hx0 hbad
            go_wp2_with (go_at_call 96; refine (octet_fail_is g r0_ bs p err is _ w0 _ (HR.out.drewN m)).mono ?_; rintro e w2 ⟨rfl, ho, hk⟩)
            go_ret3
            exact ⟨r_one (by unfold numV; rw [HQ.out]) (by unfold numZ; rw [HQ.out]; rfl) (by unfold numOk; rw [HQ.out]; rfl), by unfold numE; rw [HQ.out]; exact ho, ((OnlyAt.refl w g).drewN m).trans hk⟩
        · have ho := or_wrap n x i HN.out.lo HN.out.hi hb0 hc128 h9 (fun e => by omega)
          have HO := Aside0.mk ho
          clear ho
          have hq : numR rest 0 0 = (0, n + x * 2 ^ (7 * i), i + 1) := by rw [HS.out, if_neg hbad, if_pos hc128, show x % 128 = x by omega]
          have HQ := Aside0.mk hq
          clear hq
          have hand : Go.bits .and .u8 x 127 = x := and127 x hb0 hc128
          by_cases hi9 : i = 9
          · have t1 : ((i : Int) == 9) = true := by simp; omega
            have t2 : decide (1 < x) = false := by simp; omega
            have t3 : decide (0 < i) = true := by simp; omega
            have t4 : (x == 0) = false := by simp; omega
            have t5 : decide ((0 : Int) < (i : Int)) = true := by simp; omega
            have HI9 := Aside0.mk hi9
            clear hi9
            go_wp2
            go_ret3
            exact ⟨r_one (by rw [HO.out]; unfold numV; rw [HQ.out]) (by unfold numZ; rw [HQ.out]; rfl) (by unfold numOk; rw [HQ.out]; rfl), by unfold numE; rw [HQ.out]; exact HR.out.drewN m, (OnlyAt.refl w g).drewN m⟩
          · have t1 : ((i : Int) == 9) = false := by simp; omega
            by_cases hi0 : 0 < i
            · have t3 : decide (0 < i) = true := by simp; omega
              have t4 : (x == 0) = false := by simp; omega
              have t5 : decide ((0 : Int) < (i : Int)) = true := by simp; omega
              have HI9 := Aside0.mk hi9
              clear hi9
              go_wp2
              go_ret3
              exact ⟨r_one (by rw [HO.out]; unfold numV; rw [HQ.out]) (by unfold numZ; rw [HQ.out]; rfl) (by unfold numOk; rw [HQ.out]; rfl), by unfold numE; rw [HQ.out]; exact HR.out.drewN m, (OnlyAt.refl w g).drewN m⟩
            · have t3 : decide (0 < i) = false := by simp; omega
              have t5 : decide ((0 : Int) < (i : Int)) = false := by simp; omega
              have HI9 := Aside0.mk hi9
              clear hi0
              clear hi9
              go_wp2
              go_ret3
              exact ⟨r_one (by rw [HO.out]; unfold numV; rw [HQ.out]) (by unfold numZ; rw [HQ.out]; rfl) (by unfold numOk; rw [HQ.out]; rfl), by unfold numE; rw [HQ.out]; exact HR.out.drewN m, (OnlyAt.refl w g).drewN m⟩
      · have e5 : decide (x < 128) = false := by simpa using hc128
        by_cases hi9 : i = 9
        · have hq : numR rest 0 0 = (4, 0, 0) := by rw [HS.out, if_pos (.inl ⟨hi9, by omega⟩)]
          have HQ := Aside0.mk hq
          clear hq
          have t1 : ((i : Int) == 9) = true := by simp; omega
          have t2 : decide (1 < x) = true := by simp; omega
          have HI9 := Aside0.mk hi9
          clear hi9
          go_wp2_with (go_at_call 96; refine (octet_fail_is g r0_ bs p err is _ w0 _ (HR.out.drewN m)).mono ?_; rintro e w2 ⟨rfl, ho, hk⟩)
          go_ret3
          exact ⟨r_one (by unfold numV; rw [HQ.out]) (by unfold numZ; rw [HQ.out]; rfl) (by unfold numOk; rw [HQ.out]; rfl), by unfold numE; rw [HQ.out]; exact ho, ((OnlyAt.refl w g).drewN m).trans hk⟩
        · have t1 : ((i : Int) == 9) = false := by simp; omega
          have t4 : (x == 0) = false := by simp; omega
          have hnx := HN.out.next hlt HX.out hb0 hb1 (fun h => by omega) hc128
          have HNX := Aside0.mk hnx
          have hand : Go.bits .and .u8 x 127 = x % 128 := and127' x hb0 (by omega)
          have hm0 : 0 ≤ x % 128 := by omega
          have hm1 : x % 128 < 128 := by omega
          have ho := or_wrap n (x % 128) i HN.out.lo HN.out.hi hm0 hm1 h9 (fun e => absurd e hi9)
          have HO := Aside0.mk ho
          obtain ⟨y, hy⟩ : ∃ y, x % 128 = y := ⟨_, rfl⟩
          rw [hy] at hand hm0 hm1
          have HY := Aside0.mk hy
          clear hy ho hnx hi9
          cases t3 : decide (0 < i) with
          | true =>
            have t5 : decide ((0 : Int) < (i : Int)) = true := by simp at t3 ⊢; omega
            go_wp2
            go_roundw
            case rel => exact ⟨i + 1, n + y * 2 ^ (7 * i), by go_num, by rw [← HY.out, HO.out], by rw [← HY.out]; exact HNX, by repeat (first | exact Drawn0.refl _ | apply Drawn0.step)⟩
            case measure => simp [intOf]; omega
          | false =>
            have t5 : decide ((0 : Int) < (i : Int)) = false := by simp at t3 ⊢; omega
            go_wp2
            go_roundw
            case rel => exact ⟨i + 1, n + y * 2 ^ (7 * i), by go_num, by rw [← HY.out, HO.out], by rw [← HY.out]; exact HNX, by repeat (first | exact Drawn0.refl _ | apply Drawn0.step)⟩
            case measure => simp [intOf]; omega
    · have d1 : decide (i < rest.length) = false := by simpa using hlt
      have d2 : decide ((i : Int) < (rest.length : Int)) = false := by simp; omega
      go_wp2_with (go_at_call 96; refine (octet_fail_is g r0_ bs p err is _ w0 _ (HR.out.drewN m)).mono ?_; rintro e w2 ⟨rfl, ho, hk⟩)
      go_ret3
      have hi : i = rest.length := by have := HN.out.le; omega
      have hn : numR rest 0 0 = (5, 0, 0) := by rw [HN.out.eq, List.drop_of_length_le (by omega)]; rfl
      exact ⟨r_one (by unfold numV; rw [hn]) (by unfold numZ; rw [hn]; rfl) (by unfold numOk; rw [hn]; rfl), by unfold numE; rw [hn]; exact ho, ((OnlyAt.refl w g).drewN m).trans hk⟩

def octet_Reader_number.f (s0_0 : List Int) (s0_1 : Int) (s0_2 : Int) (s0_3 : Bool) : Option (Int × Int × Bool × Int × Int × Bool) :=
  if 0 ≤ s0_1 ∧ s0_1 ≤ s0_0.length ∧ s0_0.all isByte = true ∧ s0_0.length < 140737488355328 then some (numV (s0_0.drop s0_1.toNat), numZ (s0_0.drop s0_1.toNat), numOk (s0_0.drop s0_1.toNat), s0_1, numE (s0_0.drop s0_1.toNat) s0_2, s0_3) else none
theorem octet_Reader_number.calls (g r0_ : Nat) (s0_0 : List Int) (s0_1 : Int) (s0_2 : Int) (s0_3 : Bool) (r1 r2 : Int) (r3 : Bool) (r4 r5 : Int) (r6 : Bool) (w0 w : World) (hI : IsS101 w0 w g r0_ s0_0 s0_1 s0_2 s0_3) (hB : Below w0.heap.size w0 w) (h : octet_Reader_number.f s0_0 s0_1 s0_2 s0_3 = some (r1, r2, r3, r4, r5, r6)) :
    Calls Try.prog 106 #[.pointer (some ⟨g, 0, none⟩)] w fun e w' => e = .returned (.tuple #[.int .u64 r1, .int .i64 r2, .bool r3]) ∧ IsS101 w0 w' g r0_ s0_0 r4 r5 r6 ∧ Below w0.heap.size w0 w' ∧ KeepBut w w' g none := by
  unfold octet_Reader_number.f at h
  split at h
  case isFalse => cases h
  case isTrue hl =>
  obtain ⟨h1, h2, h3, h4⟩ := hl
  simp only [Option.some.injEq, Prod.mk.injEq] at h
  obtain ⟨rfl, rfl, rfl, rfl, rfl, rfl⟩ := h
  obtain ⟨p, rfl⟩ : ∃ p : Nat, s0_1 = p := ⟨s0_1.toNat, by omega⟩
  refine (octet_number_is g r0_ s0_0 p s0_2 s0_3 w0 w hI (by omega) h3 h4 _ rfl).mono ?_
  rintro e w' ⟨he, h5, h6⟩
  exact ⟨he, h5, h6.below hB hI.ge, h6.keep⟩

end Go.Proofs.Ytbclnjinpcfpjaa.H
