/- Contracts of Go functions, walked by hand: each call comes to the Lean function beside it and leaves what was there before. -/
import Derived.Test.YtefnndodcpimiaaProg
import Derived.Below
import Derived.Deep.Draws
import Derived.Deep.AppendLies
import Derived.Maps.AppendAt
import Derived.OwnWalk
import Derived.Laws.BytesArg
import Derived.Laws.MakeOwn
import Derived.Laws.OwnMore
import Derived.Deep.OwnRows
import Derived.Tactics
import Derived.Lib.ConvBytes
import Derived.Laws.Slices
import Derived.WalkKit
import Derived.KernelRfl
import Derived.RowKit3
import Derived.Deep.LoopGhost
import Derived.Deep.QuietTactic
import Derived.BigQuiet
import Derived.WideLaws
import Derived.Deep.DeepCutAuto
import Derived.Deep.CutBlock
import Derived.Deep.RegionHeld3
import Derived.Laws.Rows
import Derived.Lib.AppendStr
import Derived.ArgAppend
import Derived.Laws.IdiomCopy
import Derived.OrdersHeld
import Derived.Laws.BitsLemmas
import Derived.RowKit
import Derived.WalkSpells
import Derived.WalkLawsBesides
import Derived.Laws.Bits64b
import Derived.Laws.BitsAllLaws
import Derived.Maps.OwnSet
import Derived.Test.YtefnndodcpimiaaVTT
import Derived.Test.YtefnndodcpimiaaM0
import Derived.Test.YtefnndodcpimiaaM3
namespace Go.Proofs.Ytefnndodcpimiaa.H
open Go.RowKit Go.Proofs.YtefnndodcpimiaaW.PrintWords Go.Proofs.YtefnndodcpimiaaW.PrintLast Go.Proofs.YtefnndodcpimiaaW.PrintMore
attribute [local go_sem] max2_int min2_int max_two min_two max_three min_three max_four min_four
set_option linter.unusedVariables false
set_option linter.unusedSimpArgs false

/-! ### tallymanref01.Reader -/
def RRd (base : Nat) (W : World) (g : Nat) (rest : List Int) (err : Int) : Prop :=
  ∃ (v : Value) (P : Nat → Prop), W.heap[g]? = some (.cells #[v, .int .i64 err] 75 (0, 0)) ∧ base ≤ g ∧ Kd.V (Kd.int .u8) 5 W base P v rest ∧ (∀ k, P k → ∃ cells, W.heap[k]? = some (.cells cells 5 (0, 0))) ∧ rest.all isByte = true ∧ rest.length < 140737488355328
theorem RRd.below {base : Nat} {W W' : World} {g : Nat} {rest : List Int} {err : Int} (h : RRd base W g rest err) (hb : Below W.heap.size W W') : RRd base W' g rest err := by
  obtain ⟨v, P, h1, h2, h3, h4, h5, h6⟩ := h
  exact ⟨v, P, blk_below h1 hb, h2, Kd.V_below h3 hb, fun k hk => by obtain ⟨cs, hc⟩ := h4 k hk; exact ⟨cs, blk_below hc hb⟩, h5, h6⟩
theorem RRd.drewN {base : Nat} {W : World} {g : Nat} {rest : List Int} {err : Int} (h : RRd base W g rest err) (n : Nat) : RRd base (W.drewN n) g rest err := by
  obtain ⟨v, P, h1, h2, h3, h4, h5, h6⟩ := h
  exact ⟨v, P, h1, h2, Kd.V_drewN h3 n, h4, h5, h6⟩
theorem RRd.alloc {base : Nat} {W : World} {g : Nat} {rest : List Int} {err : Int} (h : RRd base W g rest err) (o : Obj) : RRd base (W.alloc o) g rest err := h.below (below_alloc (Below.refl _ _) o)
theorem typed_ne {W : World} {k b t : Nat} {cs cs' : Array Value} (h : W.heap[k]? = some (.cells cs 5 (0, 0))) (hb : W.heap[b]? = some (.cells cs' t (0, 0))) (ht : 5 ≠ t) : k ≠ b := blk_ne h hb ht
theorem RRd.set {base : Nat} {W : World} {g b t : Nat} {cs : Array Value} {rest : List Int} {err : Int} (h : RRd base W g rest err) (hb : W.heap[b]? = some (.cells cs t (0, 0))) (hne : g ≠ b) (ht : 5 ≠ t) (j : Nat) (u : Value) : RRd base (W.setCell ⟨b, j, none⟩ u) g rest err := by
  obtain ⟨v, P, h1, h2, h3, h4, h5, h6⟩ := h
  have hk2 : ∀ k, P k → k ≠ b := fun k hk => by obtain ⟨cs', hc⟩ := h4 k hk; exact blk_ne hc hb ht
  exact ⟨v, P, blk_far h1 hne u, h2, Kd.V_far (p := ⟨b, j, none⟩) h3 hk2 u, fun k hk => by obtain ⟨cs', hc⟩ := h4 k hk; exact ⟨cs', blk_far hc (hk2 k hk) u⟩, h5, h6⟩
theorem RRd.over {base : Nat} {W w1 : World} {g : Nat} {rest : List Int} {err : Int} {α : Type} {d' : Kd α} {e' b' : Nat} {ok' : Nat → Prop} {u : Value} {ys : List α} (h : RRd base W g rest err) (hv : d'.R e' W b' ok' u ys) (h1 : 5 ≠ e') (h2 : e' ≠ 75) (hg : W.grownBy w1 u.ownBlock) : RRd base w1 g rest err := by
  obtain ⟨v, P, k1, k2, k3, k4, k5, k6⟩ := h
  have hk2 : ∀ k, P k → some k ≠ u.ownBlock := fun k hk => by obtain ⟨cs', hc⟩ := k4 k hk; exact Kd.R_ne hv hc (Ne.symm h1)
  exact ⟨v, P, blk_grown k1 hg (Kd.R_ne hv k1 h2), k2, Kd.V_grown k3 hg hk2, fun k hk => by obtain ⟨cs', hc⟩ := k4 k hk; exact ⟨cs', blk_grown hc hg (hk2 k hk)⟩, k5, k6⟩
theorem RRd.ge {base : Nat} {W : World} {g : Nat} {rest : List Int} {err : Int} (h : RRd base W g rest err) : base ≤ g := by
  obtain ⟨v, P, _, h2, _⟩ := h
  exact h2
theorem RRd.ne {base : Nat} {W : World} {g b t : Nat} {cs : Array Value} {rest : List Int} {err : Int} (h : RRd base W g rest err) (hb : W.heap[b]? = some (.cells cs t (0, 0))) (ht : t ≠ 75) : g ≠ b := by
  obtain ⟨v, P, h1, _⟩ := h
  exact blk_ne h1 hb (Ne.symm ht)
theorem RRd.err {base : Nat} {W : World} {g : Nat} {rest : List Int} {err : Int} (h : RRd base W g rest err) (x : Int) : RRd base (W.setCell ⟨g, 1, none⟩ (.int .i64 x)) g rest x := by
  obtain ⟨v, P, h1, h2, h3, h4, h5, h6⟩ := h
  have hk2 : ∀ k, P k → k ≠ g := fun k hk => by obtain ⟨cs', hc⟩ := h4 k hk; exact blk_ne hc h1 (by decide)
  exact ⟨v, P, blk_set h1 1 (.int .i64 x), h2, Kd.V_far (p := ⟨g, 1, none⟩) h3 hk2 _, fun k hk => by obtain ⟨cs', hc⟩ := h4 k hk; exact ⟨cs', blk_far hc (hk2 k hk) _⟩, h5, h6⟩
theorem RRd.cut {base : Nat} {W : World} {g : Nat} {rest : List Int} {err : Int} (h : RRd base W g rest err) (m : Nat) (hm : m ≤ rest.length) : ∃ (A A' : Option Addr) (c c' : Nat), W.cell? ⟨g, 0, none⟩ = some (.slice A rest.length c) ∧ rest.length ≤ c ∧ (A' = if c = m then A else A.map (·.add (m * 1))) ∧ c' = c - m ∧ RRd base (W.setCell ⟨g, 0, none⟩ (.slice A' (rest.length - m) c')) g (rest.drop m) err := by
  obtain ⟨v, P, h1, h2, h3, h4, h5, h6⟩ := h
  obtain ⟨A, c, rfl, hl, hf⟩ := h3
  have hk2 : ∀ k, P k → k ≠ g := fun k hk => by obtain ⟨cs', hc⟩ := h4 k hk; exact blk_ne hc h1 (by decide)
  refine ⟨A, _, c, _, (blk_cell h1 0).trans rfl, hl, rfl, rfl, ?_⟩
  have h7 := Kd.F_cut (m := m) (c := c) hf hm hl
  refine ⟨_, P, blk_set h1 0 _, h2, ?_, fun k hk => by obtain ⟨cs', hc⟩ := h4 k hk; exact ⟨cs', blk_far hc (hk2 k hk) _⟩, ?_, ?_⟩
  · have h8 := Kd.V_mk (e := 5) (base := base) (c := c - m) (by rw [List.length_drop]; omega) h7
    rw [List.length_drop] at h8
    exact Kd.V_far (p := ⟨g, 0, none⟩) h8 hk2 _
  · rw [List.all_eq_true] at h5 ⊢
    exact fun x hx => h5 x (List.mem_of_mem_drop hx)
  · rw [List.length_drop]; omega
theorem add_wrap (n c : Int) (i : Nat) (h0 : 0 ≤ n) (h1 : n < 2 ^ (7 * i)) (hc0 : 0 ≤ c) (hc : c < 128) (hi : i ≤ 9) (h9 : i = 9 → c ≤ 1) : IntKind.u64.wrap (n + IntKind.u64.wrap (c * 2 ^ (7 * i))) = n + c * 2 ^ (7 * i) := by
  have hp : (0 : Int) < 2 ^ (7 * i) := Int.pow_pos (by omega)
  have h3 : (2 : Int) ^ (7 * i) ≤ 2 ^ 63 := by
    have : (2 : Nat) ^ (7 * i) ≤ 2 ^ 63 := Nat.pow_le_pow_right (by omega) (by omega)
    exact_mod_cast this
  have h5 : (0 : Int) ≤ c * 2 ^ (7 * i) := Int.mul_nonneg hc0 (Int.le_of_lt hp)
  have h6 : c * 2 ^ (7 * i) + 2 ^ (7 * i) ≤ 18446744073709551616 := by
    rcases Nat.lt_or_ge i 9 with h2 | h2
    · have h3 : (2 : Int) ^ (7 * i) ≤ 2 ^ 56 := by
        have : (2 : Nat) ^ (7 * i) ≤ 2 ^ 56 := Nat.pow_le_pow_right (by omega) (by omega)
        exact_mod_cast this
      have h4 : c * 2 ^ (7 * i) ≤ 127 * 2 ^ (7 * i) := Int.mul_le_mul_of_nonneg_right (by omega) (Int.le_of_lt hp)
      omega
    · have h8 := h9 (by omega)
      have h4 : c * 2 ^ (7 * i) ≤ 1 * 2 ^ (7 * i) := Int.mul_le_mul_of_nonneg_right h8 (Int.le_of_lt hp)
      omega
  simp only [IntKind.wrap, IntKind.bits, IntKind.signed]
  generalize hz : c * 2 ^ (7 * i) = z at *
  generalize (2 : Int) ^ (7 * i) = y at *
  simp
  omega
set_option maxHeartbeats 1000000 in
set_option maxRecDepth 100000 in
theorem ref_Number_any (base g : Nat) (rest : List Int) (err : Int) (w : World) (h : RRd base w g rest err) :
    Calls Try.prog 52 #[.pointer (some ⟨g, 0, none⟩)] w fun e w' => e = .returned (.int .u64 (rdNum rest err).1) ∧ RRd base w' g (rdNum rest err).2.1 (rdNum rest err).2.2 ∧ OnlyAt w w' g := by
  have HR := Aside0.mk h
  obtain ⟨v, P, h1, h2, h3, h4, h5, h6⟩ := h
  have hc1 : w.cell? ⟨g, 1, none⟩ = some (.int .i64 err) := (blk_cell h1 1).trans rfl
  have hf1 := blk_frozen h1 1
  have hf0 := blk_frozen h1 0
  by_cases he : err = 0
  · have e1 : (err == 0) = true := by simpa using he
    have e2 : (err != 0) = false := by simpa using he
    have HE := Aside0.mk he
    clear he
    obtain ⟨A, c, rfl, hl, hf⟩ := h3
    have hc0 : w.cell? ⟨g, 0, none⟩ = some (.slice A rest.length c) := (blk_cell h1 0).trans rfl
    have HD := Aside0.mk (Kd.F_now hf)
    have HBY := Aside0.mk h5
    have HL := Aside0.mk hl
    have HLN := Aside0.mk h6
    clear h1 h2 h4 h5 h6 hl hf
    go_enter Try.func52, Try.ntmps52
    go_wp2
    repeat (go_quiet (fail); try go_wp2)
    go_loopw [3, 4] (fun vn vi W => ∃ (i : Nat) (n : Int), vi = .int .i64 i ∧ vn = .int .u64 n ∧ Aside0 (NumAt rest i n) ∧ Drawn0 w W) (fun _ vi _ => rest.length - (intOf vi).toNat)
    case atStart => exact ⟨0, 0, rfl, rfl, ⟨⟨Nat.zero_le _, by omega, by rw [List.drop_zero], by omega, by simp⟩⟩, by repeat (first | exact Drawn0.refl _ | apply Drawn0.step)⟩
    case round =>
      obtain ⟨i, n, rfl, rfl, HN, ⟨m, rfl⟩⟩ := hrel
      by_cases hlt : i < rest.length
      · have d1 : decide (i < rest.length) = true := by simpa using hlt
        have d2 : decide ((i : Int) < (rest.length : Int)) = true := by simp; omega
        obtain ⟨ad, e, hcell⟩ := Kd.at_int HD.out (i : Int) (by omega) (by omega)
        cases e
        rw [show ((i : Int)).toNat = i by omega] at hcell
        have hby : isByte (rd rest i) = true := List.all_eq_true.mp HBY.out _ (by simp only [rd, Int.toNat_natCast, List.getD_eq_getElem?_getD, List.getElem?_eq_getElem hlt, Option.getD_some]; exact List.getElem_mem hlt)
        obtain ⟨x, hx⟩ : ∃ x, rd rest i = x := ⟨_, rfl⟩
        have HX := Aside0.mk hx
        rw [hx] at hcell hby
        clear hx
        have hb0 : 0 ≤ x := by unfold isByte at hby; simp at hby; omega
        have hb1 : x ≤ 255 := by unfold isByte at hby; simp at hby; omega
        clear hby
        have HS := Aside0.mk (HN.out.step hlt HX.out)
        have h9 := HN.out.nine
        have t5 : decide ((0 : Int) < (i : Int)) = decide (0 < i) := by simp
        by_cases ha : i = 9 ∧ 1 < x
        · have hq : numR rest 0 0 = (4, 0, 0) := by rw [HS.out, if_pos (.inl ha)]
          have HQ := Aside0.mk hq
          clear hq
          have t1 : ((i : Int) == 9) = true := by simp; omega
          have t2 : decide (1 < x) = true := by simp; omega
          clear ha
          go_wp2
          repeat (go_quiet (fail); try go_wp2)
          go_ret
          have hv : rdNum rest err = (0, rest, 4) := by unfold rdNum; rw [if_pos HE.out, HQ.out]; rfl
          rw [hv]
          exact ⟨rfl, (HR.out.drewN m).err 4, ((OnlyAt.refl w g).drewN m).set 1 _⟩
        · by_cases hc128 : x < 128
          · have t6 : decide (x < 128) = true := by simpa using hc128
            have hm : x % 128 = x := by omega
            by_cases hb : 0 < i ∧ x = 0
            · have hq : numR rest 0 0 = (4, 0, 0) := by rw [HS.out, if_pos (.inr hb)]
              have HQ := Aside0.mk hq
              have t3 : decide (0 < i) = true := by simp; omega
              have t4 : (x == 0) = true := by simp; omega
              have t2 : decide (1 < x) = false := by simp; omega
              have t5 : decide ((0 : Int) < (i : Int)) = true := by simp; omega
              have HM := Aside0.mk hm
              clear hq hb ha hm
              cases t1 : ((i : Int) == 9) with
              | true =>
                go_wp2
                repeat (go_quiet (fail); try go_wp2)
                go_ret
                have hv : rdNum rest err = (0, rest, 4) := by unfold rdNum; rw [if_pos HE.out, HQ.out]; rfl
                rw [hv]
                exact ⟨rfl, (HR.out.drewN m).err 4, ((OnlyAt.refl w g).drewN m).set 1 _⟩
              | false =>
                go_wp2
                repeat (go_quiet (fail); try go_wp2)
                go_ret
                have hv : rdNum rest err = (0, rest, 4) := by unfold rdNum; rw [if_pos HE.out, HQ.out]; rfl
                rw [hv]
                exact ⟨rfl, (HR.out.drewN m).err 4, ((OnlyAt.refl w g).drewN m).set 1 _⟩
            · have hq : numR rest 0 0 = (0, n + x * 2 ^ (7 * i), i + 1) := by rw [HS.out, if_neg (by omega), if_pos hc128, hm]
              have HQ := Aside0.mk hq
              have ho := add_wrap n x i HN.out.lo HN.out.hi hb0 hc128 h9 (fun e => by omega)
              have HO := Aside0.mk ho
              obtain ⟨A0, A', c0, c', ec, hle, hA', hc', hcutR⟩ := (HR.out.drewN m).cut (i + 1) (by omega)
              have e0 : (w.drewN m).cell? ⟨g, 0, none⟩ = w.cell? ⟨g, 0, none⟩ := rfl
              rw [e0, hc0] at ec
              injection ec with ec
              injection ec with ea_ en_ ec_
              subst ea_ ec_
              obtain ⟨i0, hi0, _, hsz, _⟩ := info_parts minfo_byte
              have hcut := cut_from (P := Try.prog) 40 5 .i64 Try.underlying40 hi0 1 hsz (some ad) rest.length c ((i : Int) + 1) (by omega) (by omega)
              rw [show ((i : Int) + 1).toNat = i + 1 by omega, ← hA', ← hc'] at hcut
              have HCUT := Aside0.mk hcutR
              have q1 : (i : Int) + 1 ≤ (rest.length : Int) := by omega
              have q2 : (0 : Int) ≤ (i : Int) + 1 := by omega
              clear hq ho hi0 hsz hA' hc' hcutR hle
              by_cases hi0 : 0 < i
              · have t3 : decide (0 < i) = true := by simp; omega
                have t4 : (x == 0) = false := by simp; omega
                have t5 : decide ((0 : Int) < (i : Int)) = true := by simp; omega
                cases t1 : ((i : Int) == 9) with
                | true =>
                  have t2 : decide (1 < x) = false := by simp at t1 ⊢; omega
                  clear ha hb
                  go_wp2
                  repeat (go_quiet (fail); try go_wp2)
                  go_ret
                  have hv : rdNum rest err = (n + x * 2 ^ (7 * i), rest.drop (i + 1), 0) := by unfold rdNum; rw [if_pos HE.out, HQ.out]; rfl
                  rw [hv]
                  refine ⟨returned_int (by first | exact HO.out | rfl), ?_, ((OnlyAt.refl w g).drewN m).set 0 _⟩
                  have h := HCUT.out
                  rw [HE.out] at h
                  exact h
                | false =>
                  clear ha hb
                  go_wp2
                  repeat (go_quiet (fail); try go_wp2)
                  go_ret
                  have hv : rdNum rest err = (n + x * 2 ^ (7 * i), rest.drop (i + 1), 0) := by unfold rdNum; rw [if_pos HE.out, HQ.out]; rfl
                  rw [hv]
                  refine ⟨returned_int (by first | exact HO.out | rfl), ?_, ((OnlyAt.refl w g).drewN m).set 0 _⟩
                  have h := HCUT.out
                  rw [HE.out] at h
                  exact h
              · have t3 : decide (0 < i) = false := by simp; omega
                have t5 : decide ((0 : Int) < (i : Int)) = false := by simp; omega
                have t1 : ((i : Int) == 9) = false := by simp; omega
                clear ha hb hi0
                go_wp2
                repeat (go_quiet (fail); try go_wp2)
                go_ret
                have hv : rdNum rest err = (n + x * 2 ^ (7 * i), rest.drop (i + 1), 0) := by unfold rdNum; rw [if_pos HE.out, HQ.out]; rfl
                rw [hv]
                refine ⟨returned_int (by first | exact HO.out | rfl), ?_, ((OnlyAt.refl w g).drewN m).set 0 _⟩
                have h := HCUT.out
                rw [HE.out] at h
                exact h
          · have t6 : decide (x < 128) = false := by simpa using hc128
            have t1 : ((i : Int) == 9) = false := by simp; omega
            have hnx := HN.out.next hlt HX.out hb0 hb1 (fun h => by omega) hc128
            have HNX := Aside0.mk hnx
            have hm0 : 0 ≤ x % 128 := by omega
            have hm1 : x % 128 < 128 := by omega
            have ho := add_wrap n (x % 128) i HN.out.lo HN.out.hi hm0 hm1 h9 (fun e => by omega)
            have HO := Aside0.mk ho
            obtain ⟨y, hy⟩ : ∃ y, x % 128 = y := ⟨_, rfl⟩
            rw [hy] at hm0 hm1
            have HY := Aside0.mk hy
            clear ho hnx ha
            go_wp2
            repeat (go_quiet (fail); try go_wp2)
            go_roundw
            case rel => exact ⟨i + 1, n + y * 2 ^ (7 * i), by go_num, by rw [← HY.out, HO.out], by rw [← HY.out]; exact HNX, by repeat (first | exact Drawn0.refl _ | apply Drawn0.step)⟩
            case measure => simp [intOf]; omega
      · have d1 : decide (i < rest.length) = false := by simpa using hlt
        have d2 : decide ((i : Int) < (rest.length : Int)) = false := by simp; omega
        go_wp2
        repeat (go_quiet (fail); try go_wp2)
        go_ret
        have hi : i = rest.length := by have := HN.out.le; omega
        have hn : numR rest 0 0 = (5, 0, 0) := by rw [HN.out.eq, List.drop_of_length_le (by omega)]; rfl
        have hv : rdNum rest err = (0, rest, 5) := by unfold rdNum; rw [if_pos HE.out, hn]; rfl
        rw [hv]
        exact ⟨rfl, (HR.out.drewN m).err 5, ((OnlyAt.refl w g).drewN m).set 1 _⟩
  · have e1 : (err == 0) = false := by simpa using he
    have e2 : (err != 0) = true := by simpa using he
    have HE := Aside0.mk he
    clear he h1 h2 h3 h4 h5 h6
    go_enter Try.func52, Try.ntmps52
    go_wp2
    repeat (go_quiet (fail); try go_wp2)
    go_ret
    have hv : rdNum rest err = (0, rest, err) := by unfold rdNum; rw [if_neg HE.out]
    rw [hv]
    first | exact ⟨rfl, HR.out, OnlyAt.refl w g⟩ | exact ⟨rfl, HR.out.drewN _, (OnlyAt.refl w g).drewN _⟩
set_option maxHeartbeats 1000000 in
set_option maxRecDepth 100000 in
theorem ref_Upto_any (base g : Nat) (rest : List Int) (err most : Int) (w : World) (h : RRd base w g rest err) :
    Calls Try.prog 42 #[.pointer (some ⟨g, 0, none⟩), .int .u64 most] w fun e w' => e = .returned (.int .u64 (rdUpto most rest err).1) ∧ RRd base w' g (rdUpto most rest err).2.1 (rdUpto most rest err).2.2 ∧ OnlyAt w w' g := by
  have HR := Aside0.mk h
  clear h
  obtain ⟨n, hn⟩ : ∃ n, (rdNum rest err).1 = n := ⟨_, rfl⟩
  obtain ⟨r2, hr2⟩ : ∃ r2, (rdNum rest err).2.1 = r2 := ⟨_, rfl⟩
  obtain ⟨e2, he2⟩ : ∃ e2, (rdNum rest err).2.2 = e2 := ⟨_, rfl⟩
  have HN : Aside0 (rdNum rest err = (n, r2, e2)) := ⟨by rw [← hn, ← hr2, ← he2]⟩
  have HC : Aside0 (∀ w, RRd base w g rest err → Calls Try.prog 52 #[.pointer (some ⟨g, 0, none⟩)] w fun e w' => e = .returned (.int .u64 n) ∧ RRd base w' g r2 e2 ∧ OnlyAt w w' g) := ⟨fun w h => by rw [← hn, ← hr2, ← he2]; exact ref_Number_any base g rest err w h⟩
  clear hn hr2 he2
  cases h1 : (e2 == 0) with
  | true =>
    cases h2 : decide (most < n) with
    | true =>
      have h3 : e2 = 0 := by simpa using h1
      have h4 : most < n := by simpa using h2
      have HV : Aside0 (rdUpto most rest err = (0, r2, 3)) := ⟨by unfold rdUpto; rw [HN.out]; exact if_pos ⟨h3, h4⟩⟩
      clear h3 h4
      go_enter Try.func42, Try.ntmps42
      go_wp2_with (go_at_call 52; refine (HC.out _ HR.out).mono ?_; rintro e w1 ⟨rfl, ho, hk⟩; have HO := Aside0.mk ho; have HK := Aside0.mk hk; obtain ⟨v, P, b1, _⟩ := ho; have hd1 : w1.cell? ⟨g, 1, none⟩ = some (.int .i64 e2) := (blk_cell b1 1).trans rfl; have hf1 := blk_frozen b1 1; clear hk b1)
      repeat (go_quiet (fail); try go_wp2)
      go_ret
      rw [HV.out]
      first | exact ⟨rfl, HO.out.err 3, HK.out.set 1 _⟩ | exact ⟨rfl, (HO.out.drewN _).err 3, (HK.out.drewN _).set 1 _⟩
    | false =>
      have h4 : ¬ most < n := by simpa using h2
      have HV : Aside0 (rdUpto most rest err = (n, r2, e2)) := ⟨by unfold rdUpto; rw [HN.out]; exact if_neg (fun h => h4 h.2)⟩
      clear h4
      go_enter Try.func42, Try.ntmps42
      go_wp2_with (go_at_call 52; refine (HC.out _ HR.out).mono ?_; rintro e w1 ⟨rfl, ho, hk⟩; have HO := Aside0.mk ho; have HK := Aside0.mk hk; obtain ⟨v, P, b1, _⟩ := ho; have hd1 : w1.cell? ⟨g, 1, none⟩ = some (.int .i64 e2) := (blk_cell b1 1).trans rfl; clear hk b1)
      repeat (go_quiet (fail); try go_wp2)
      go_ret
      rw [HV.out]
      first | exact ⟨rfl, HO.out, HK.out⟩ | exact ⟨rfl, HO.out.drewN _, HK.out.drewN _⟩
  | false =>
    have h3 : ¬ e2 = 0 := by simpa using h1
    have HV : Aside0 (rdUpto most rest err = (n, r2, e2)) := ⟨by unfold rdUpto; rw [HN.out]; exact if_neg (fun h => h3 h.1)⟩
    clear h3
    go_enter Try.func42, Try.ntmps42
    go_wp2_with (go_at_call 52; refine (HC.out _ HR.out).mono ?_; rintro e w1 ⟨rfl, ho, hk⟩; have HO := Aside0.mk ho; have HK := Aside0.mk hk; obtain ⟨v, P, b1, _⟩ := ho; have hd1 : w1.cell? ⟨g, 1, none⟩ = some (.int .i64 e2) := (blk_cell b1 1).trans rfl; clear hk b1)
    repeat (go_quiet (fail); try go_wp2)
    go_ret
    rw [HV.out]
    first | exact ⟨rfl, HO.out, HK.out⟩ | exact ⟨rfl, HO.out.drewN _, HK.out.drewN _⟩
set_option maxHeartbeats 1000000 in
set_option maxRecDepth 100000 in
theorem ref_Err_any (base g : Nat) (rest : List Int) (err : Int) (w : World) (h : RRd base w g rest err) :
    Calls Try.prog 43 #[.pointer (some ⟨g, 0, none⟩)] w fun e w' => e = .returned (.int .i64 err) ∧ Drawn0 w w' := by
  obtain ⟨v, P, h1, _⟩ := h
  have hc1 : w.cell? ⟨g, 1, none⟩ = some (.int .i64 err) := (blk_cell h1 1).trans rfl
  clear h1
  go_enter Try.func43, Try.ntmps43
  go_wp2
  repeat (go_quiet (fail); try go_wp2)
  go_ret
  exact ⟨rfl, by repeat (first | exact Drawn0.refl _ | apply Drawn0.step)⟩
set_option maxHeartbeats 1000000 in
set_option maxRecDepth 100000 in
theorem ref_End_any (base g : Nat) (rest : List Int) (err : Int) (w : World) (h : RRd base w g rest err) :
    Calls Try.prog 44 #[.pointer (some ⟨g, 0, none⟩)] w fun e w' => e = .returned (.int .i64 (rdEnd rest err)) ∧ RRd base w' g rest (rdEnd rest err) ∧ OnlyAt w w' g := by
  have HR := Aside0.mk h
  obtain ⟨v, P, h1, h2, ⟨A, c, rfl, _⟩, _⟩ := h
  have hc0 : w.cell? ⟨g, 0, none⟩ = some (.slice A rest.length c) := (blk_cell h1 0).trans rfl
  have hc1 : w.cell? ⟨g, 1, none⟩ = some (.int .i64 err) := (blk_cell h1 1).trans rfl
  have hf1 := blk_frozen h1 1
  clear h1 h2
  cases t1 : (err == 0) with
  | true =>
    cases t2 : decide (0 < rest.length) with
    | true =>
      have t3 : decide ((0 : Int) < (rest.length : Int)) = true := by simp at t2 ⊢; first | exact t2 | omega
      have HV : Aside0 (rdEnd rest err = 4) := ⟨by unfold rdEnd; refine if_pos ⟨by simpa using t1, fun e => ?_⟩; rw [e] at t2; simp at t2⟩
      go_enter Try.func44, Try.ntmps44
      go_wp2
      repeat (go_quiet (fail); try go_wp2)
      go_ret
      rw [HV.out]
      first | exact ⟨rfl, HR.out.err 4, (OnlyAt.refl w g).set 1 _⟩ | exact ⟨rfl, (HR.out.drewN _).err 4, ((OnlyAt.refl w g).drewN _).set 1 _⟩
    | false =>
      have t3 : decide ((0 : Int) < (rest.length : Int)) = false := by simp at t2 ⊢; first | exact t2 | omega
      have HV : Aside0 (rdEnd rest err = err) := ⟨by unfold rdEnd; refine if_neg (fun h => h.2 (List.eq_nil_of_length_eq_zero ?_)); simp at t2; first | (rw [t2]; rfl) | omega⟩
      go_enter Try.func44, Try.ntmps44
      go_wp2
      repeat (go_quiet (fail); try go_wp2)
      go_ret
      rw [HV.out]
      first | exact ⟨rfl, HR.out, OnlyAt.refl w g⟩ | exact ⟨rfl, HR.out.drewN _, (OnlyAt.refl w g).drewN _⟩
  | false =>
    have HV : Aside0 (rdEnd rest err = err) := ⟨by unfold rdEnd; refine if_neg (fun h => ?_); rw [h.1] at t1; simp at t1⟩
    go_enter Try.func44, Try.ntmps44
    go_wp2
    repeat (go_quiet (fail); try go_wp2)
    go_ret
    rw [HV.out]
    first | exact ⟨rfl, HR.out, OnlyAt.refl w g⟩ | exact ⟨rfl, HR.out.drewN _, (OnlyAt.refl w g).drewN _⟩
theorem RRd.mk_own {base : Nat} {w W : World} {v : Value} {l : List Int} (hO : Kd.R (Kd.int .u8) 5 W base (fun _ => True) v l) (hb : base ≤ W.heap.size) (hB : l.all isByte = true) (hL : l.length < 140737488355328) : RRd base (W.alloc (.cells #[v, .int .i64 0] 75)) W.heap.size l 0 := by
  have h2 := Kd.R_mono (Kd.R_bound hO) (ok' := fun k => ∃ cells, W.heap[k]? = some (.cells cells 5 (0, 0))) (fun k hk => by
    obtain ⟨_, _, _, q, hq, hc⟩ := hk
    simp [Kd.int, Kd.scalar] at hq
    subst hq
    exact hc)
  refine ⟨v, _, by simpa using heap_alloc_new W _, hb, Kd.V_alloc (Kd.R_V h2) _, fun k hk => ?_, hB, hL⟩
  obtain ⟨cs, hc⟩ := hk
  exact ⟨cs, blk_alloc hc _⟩
set_option maxHeartbeats 1000000 in
set_option maxRecDepth 100000 in
theorem ref_New_any (A : Option Addr) (c : Nat) (l : List Int) (w : World) (hr : Kd.C (Kd.int .u8) w A l.length l) (hc : l.length ≤ c) (hb : l.all isByte = true) (hl : l.length < 140737488355328) :
    Calls Try.prog 41 #[.slice A l.length c] w fun e w' => ∃ g : Nat, e = .returned (.pointer (some ⟨g, 0, none⟩)) ∧ RRd w.heap.size w' g l 0 ∧ Below w.heap.size w w' := by
  have HR0 := Aside0.mk hr
  have HBY := Aside0.mk hb
  have LM := Aside0.mk hl
  have HB := Aside0.mk (Below.refl w.heap.size w)
  clear hr hc hb hl
  go_enter Try.func41, Try.ntmps41
  go_wp2_with (first
    | ((with_reducible refine gate_dst (N := 3) rfl ?_); refine Kd.R_lit (Kd.int .u8) _ 5 ?hg (N := 3) ?hd (xs := ([] : List Int)) (inner := []) (ok := fun _ => True) (okp := fun _ => True) ?hr ?hp (fun _ hk => hk) trivial (Below.refl _ _) (Nat.le_refl _) (by simp) ?_; (case hd => rfl); (case hg => rfl); (case hr => first | (go_simp; done) | (go_simp; rfl)); (case hp => exact (Reps.none _ _)); intro v225 w3 ho4 hb hg_ hnew_; clear hg_ hnew_; have n0_ := Aside0.mk (Kd.R_lower ho4 (below_size (by repeat (first | (with_reducible first | exact HB.out | apply below_alloc | apply pw_below_drewN | apply below_drew1) | exact HB.out)))); have n1_ := Aside0.mk (below_step (by repeat (first | (with_reducible first | exact HB.out | apply below_alloc | apply pw_below_drewN | apply below_drew1) | exact HB.out)) hb); clear HB; have HO226 := n0_; have HB := n1_; clear n0_ n1_; clear hb ho4)
    | ((with_reducible refine gate_builtin (b := .append) (xs := #[.tmp 3, .tmp 4]) rfl ?_); at_builtin; refine Kd.R_append_rows (Kd.int .u8) (w0 := w) w.heap.size rfl (.tmp 3) (.tmp 4) 40 5 (.int .u8 0) 1 rfl Try.underlying40 minfo_byte rfl (by decide) (by omega) v225 [] l _ _ _ (fun _ => True) (fun _ => False) rfl rfl ?aO ?aR (fun _ _ h => h) (fun _ h => h.elim) ?aF ?aB ?aS ?aL ?_; (case aR => repeat (first | exact (Kd.C_below HR0.out HB.out) | (with_reducible refine Kd.C_alloc ?_ _) | (with_reducible refine Kd.C_drewN ?_ _) | (with_reducible refine Kd.C_drew ?_))); (case aB => exact (by repeat (first | (with_reducible first | exact HB.out | apply below_alloc | apply pw_below_drewN | apply below_drew1) | exact HB.out))); (case aF => exact (fun _ _ => trivial)); (case aO => exact (by (with_reducible repeat (first | apply Kd.R_alloc | apply Kd.R_drewN | apply Kd.R_drew)); exact HO226.out)); (case aS => exact (below_size (by repeat (first | (with_reducible first | exact HB.out | apply below_alloc | apply pw_below_drewN | apply below_drew1) | exact HB.out)))); (case aL => have := LM.out; simp; omega); intro v228 w5 ho hb hg hat; rw [List.nil_append] at ho; have n0_ := Aside0.mk (hb); have n1_ := Aside0.mk (ho); obtain ⟨A2, c2, ev⟩ := Kd.R_slice ho; subst ev; clear HB; clear HO226; have HB := n0_; have HO229 := n1_; clear n0_ n1_; clear ho hb hg hat))
  go_ret
  exact ⟨_, rfl, RRd.mk_own (w := w) HO229.out HB.out.size HBY.out LM.out, below_alloc HB.out _⟩

end Go.Proofs.Ytefnndodcpimiaa.H
