/- Contracts of Go functions, walked by hand: each call comes to the Lean function beside it and leaves what was there before. -/
import Derived.Test.YtefnndodcpimiaaProg
import Derived.Below
import Derived.Deep.Draws
import Derived.Deep.AppendLies
import Derived.Maps.AppendAt
import Derived.OwnWalk
import Derived.Laws.BytesArg
import Derived.Laws.MakeOwn
import Derived.Laws.OwnMore
import Derived.Deep.OwnRows
import Derived.Tactics
import Derived.Lib.ConvBytes
import Derived.Laws.Slices
import Derived.WalkKit
import Derived.KernelRfl
import Derived.RowKit3
import Derived.Deep.LoopGhost
import Derived.Deep.QuietTactic
import Derived.BigQuiet
import Derived.WideLaws
import Derived.Deep.DeepCutAuto
import Derived.Deep.CutBlock
import Derived.Deep.RegionHeld3
import Derived.Laws.Rows
import Derived.Lib.AppendStr
import Derived.ArgAppend
import Derived.Laws.IdiomCopy
import Derived.OrdersHeld
import Derived.Laws.BitsLemmas
import Derived.RowKit
import Derived.WalkSpells
import Derived.WalkLawsBesides
import Derived.Laws.Bits64b
import Derived.Laws.BitsAllLaws
import Derived.Maps.OwnSet
import Derived.Test.YtefnndodcpimiaaVTT
import Derived.Test.YtefnndodcpimiaaM0
import Derived.Test.YtefnndodcpimiaaM1
import Derived.Test.YtefnndodcpimiaaM3
import Derived.Test.YtefnndodcpimiaaM4
namespace Go.Proofs.Ytefnndodcpimiaa.H
open Go.RowKit Go.Proofs.YtefnndodcpimiaaW.PrintWords Go.Proofs.YtefnndodcpimiaaW.PrintLast Go.Proofs.YtefnndodcpimiaaW.PrintMore
attribute [local go_sem] max2_int min2_int max_two min_two max_three min_three max_four min_four
set_option linter.unusedVariables false
set_option linter.unusedSimpArgs false

/-! ### table.Read -/
def readGo : Nat → List Int → List Int → Option (List Int × List Int)
  | 0, rest, acc => some (acc, rest)
  | k + 1, rest, acc => if (rdUpto 4096 rest 0).2.2 = 0 then readGo k (rdUpto 4096 rest 0).2.1 (acc ++ [(rdUpto 4096 rest 0).1]) else none
def readT (b : List Int) : List Int × Int := if (rdUpto 65536 b 0).2.2 = 0 then (match readGo (rdUpto 65536 b 0).1.toNat (rdUpto 65536 b 0).2.1 [] with
    | none => ([], 4)
    | some (acc, rest) => if rdEnd rest 0 = 0 ∧ chkOk acc = true then (acc, 0) else ([], 4)) else ([], 4)
def table_Read.f (l0 : List Int) : Option (List Int × Int) := if l0.all isByte = true ∧ l0.length < 140737488355328 then some (readT l0) else none
theorem numR_nonneg : ∀ (l : List Int) (i : Nat) (n : Int), 0 ≤ n → (∀ x ∈ l, 0 ≤ x) → 0 ≤ (numR l i n).2.1
  | [], i, n, h, _ => by simp [numR]
  | c :: r, i, n, h, hl => by
    have h2 : (0 : Int) ≤ c % 128 * 2 ^ (7 * i) := Int.mul_nonneg (by omega) (Int.le_of_lt (Int.pow_pos (by omega)))
    unfold numR
    split
    · simp
    · split
      · show 0 ≤ n + _
        omega
      · exact numR_nonneg r (i + 1) _ (by omega) (fun x hx => hl x (List.mem_cons_of_mem _ hx))
theorem rdNum_nonneg (l : List Int) (e : Int) (hl : l.all isByte = true) : 0 ≤ (rdNum l e).1 := by
  have h : ∀ x ∈ l, 0 ≤ x := fun x hx => by
    have := List.all_eq_true.mp hl x hx
    unfold isByte at this
    simp at this
    omega
  unfold rdNum
  split
  · split
    · exact numR_nonneg l 0 0 (by omega) h
    · simp
  · simp
theorem rdUpto_bounds (most : Int) (l : List Int) (e : Int) (hm : 0 ≤ most) (hl : l.all isByte = true) (he : (rdUpto most l e).2.2 = 0) : 0 ≤ (rdUpto most l e).1 ∧ (rdUpto most l e).1 ≤ most := by
  have h := rdNum_nonneg l e hl
  unfold rdUpto at he ⊢
  split
  · exact ⟨by simp, hm⟩
  · rename_i h1
    rw [if_neg h1] at he
    exact ⟨h, by omega⟩
theorem rdUpto_err (most : Int) (l : List Int) (e : Int) (he : ¬ (rdUpto most l e).2.2 = 0) : (rdUpto most l e).1 = 0 := by
  unfold rdUpto at he ⊢
  split
  · rfl
  · rename_i h1
    rw [if_neg h1] at he
    unfold rdNum at he ⊢
    split
    · rename_i h2
      rw [if_pos h2] at he
      split
      · rename_i h3
        rw [if_pos h3] at he
        simp at he
      · rfl
    · rfl
theorem R_only {α : Type} {d : Kd α} {e t base g : Nat} {cs : Array Value} {W W1 : World} {v : Value} {xs : List α} (hR : d.R e W base (fun _ => True) v xs) (hb : W.heap[g]? = some (.cells cs t (0, 0))) (ht : ∀ q, q ∈ e :: d.E → q ≠ t) (hk : OnlyAt W W1 g) : d.R e W1 base (fun _ => True) v xs :=
  Kd.R_mono (Kd.R_keep (Kd.R_types hR hb ht) hk.keep (fun _ h => h.2)) (fun _ _ => trivial)
theorem ORd.blk {base : Nat} {W : World} {g : Nat} {rest : List Int} {err : Int} (h : ORd base W g rest err) : ∃ cs, W.heap[g]? = some (.cells cs 69 (0, 0)) := by
  obtain ⟨v, bs, p, h1, _⟩ := h
  exact ⟨_, h1⟩
theorem RRd.blk {base : Nat} {W : World} {g : Nat} {rest : List Int} {err : Int} (h : RRd base W g rest err) : ∃ cs, W.heap[g]? = some (.cells cs 75 (0, 0)) := by
  obtain ⟨v, P, h1, _⟩ := h
  exact ⟨_, h1⟩
theorem RRd.bytes {base : Nat} {W : World} {g : Nat} {rest : List Int} {err : Int} (h : RRd base W g rest err) : rest.all isByte = true := by
  obtain ⟨v, P, h1, h2, h3, h4, h5, h6⟩ := h
  exact h5
def ReadPost (w : World) (r1 : List Int) (r2 : Int) (e : Ending) (w' : World) : Prop := ∃ v0_ : Value, e = .returned (.tuple #[.agg #[v0_], .int .i64 r2]) ∧ Kd.R (Kd.int .i64) 3 w' w.heap.size (fun _ => True) v0_ r1 ∧ Below w.heap.size w w'
set_option maxHeartbeats 4000000 in
set_option maxRecDepth 100000 in
theorem table_Read_walk (A0 : Option Addr) (c0 : Nat) (l0 : List Int) (w : World) (hr0 : Kd.C (Kd.int .u8) w A0 l0.length l0) (hc0 : l0.length ≤ c0) (hb0 : l0.all isByte = true) (hl0 : l0.length < 140737488355328) :
    Calls Try.prog 19 #[.slice A0 l0.length c0] w (ReadPost w (readT l0).1 (readT l0).2) := by
  have HR := Aside0.mk hr0
  have HC := Aside0.mk hc0
  have HBY := Aside0.mk hb0
  have HLN := Aside0.mk hl0
  have HB := Aside0.mk (Below.refl w.heap.size w)
  clear hr0 hc0 hb0 hl0
  obtain ⟨n, hn⟩ : ∃ n, (rdUpto 65536 l0 0).1 = n := ⟨_, rfl⟩
  obtain ⟨r1, hr1⟩ : ∃ r1, (rdUpto 65536 l0 0).2.1 = r1 := ⟨_, rfl⟩
  obtain ⟨e1, he1⟩ : ∃ e1, (rdUpto 65536 l0 0).2.2 = e1 := ⟨_, rfl⟩
  have HN : Aside0 (rdUpto 65536 l0 0 = (n, r1, e1)) := ⟨by rw [← hn, ← hr1, ← he1]⟩
  have HCU : Aside0 (∀ (g : Nat) w1, ORd w.heap.size w1 g l0 0 → Calls Try.prog 35 #[.pointer (some ⟨g, 0, none⟩), .int .u64 65536] w1 fun e w' => e = .returned (.int .u64 n) ∧ ORd w.heap.size w' g r1 e1 ∧ OnlyAt w1 w' g) := ⟨fun g w1 h => by rw [← hn, ← hr1, ← he1]; exact octet_Upto_any w.heap.size g l0 0 65536 w1 h⟩
  have hnb : 0 ≤ n ∧ n ≤ 65536 ∧ (¬ e1 = 0 → n = 0) := by
    rw [← hn, ← he1]
    by_cases h : (rdUpto 65536 l0 0).2.2 = 0
    · have := rdUpto_bounds 65536 l0 0 (by omega) HBY.out h
      exact ⟨this.1, this.2, fun h2 => absurd h h2⟩
    · rw [rdUpto_err _ _ _ h]
      exact ⟨by omega, by omega, fun _ => rfl⟩
  have HNB := Aside0.mk hnb
  clear hn hr1 he1 hnb
  obtain ⟨N, hN⟩ : ∃ N : Nat, n = N := ⟨n.toNat, by have := HNB.out.1; omega⟩
  subst hN
  have hu24 := Try.underlying24
  go_enter Try.func19, Try.ntmps19
  go_wp2_with (first
    | ((with_reducible refine gate_dst (N := 2) rfl ?_); refine box_event ?hg (N := 2) ?hd (cs := #[.slice none 0 0]) (t := 24) ?hr ?_; (case hd => rfl); (case hg => rfl); (case hr => first | (go_simp; done) | (go_simp; rfl)); intro gr hg w1 hbox hb; have BR := Aside0.mk hbox; have GR := Aside0.mk (by rw [hg]; exact Nat.le_refl _ : w.heap.size ≤ gr); have hB2 := below_step HB.out hb; clear HB; have HB := Aside0.mk hB2; clear hB2 hb hbox hg)
    | (go_at_call 34; (with_reducible refine (octet_New_any _ _ l0 _ ?s1 ?s2 ?s3 ?s4).mono ?_); (case s1 => exact Kd.C_below HR.out HB.out); (case s2 => exact HC.out); (case s3 => exact HBY.out); (case s4 => exact HLN.out); rintro e w2 ⟨g, rfl, ho, hb⟩; have HO : Aside0 (ORd w.heap.size w2 g l0 0) := ⟨by obtain ⟨v, bs, p, h1, h2, h3, h4, h5, h6, h7⟩ := ho; exact ⟨v, bs, p, h1, Nat.le_trans HB.out.size h2, h3, h4, h5, h6, Kd.R_lower h7 HB.out.size⟩⟩; have hB2 := below_step HB.out hb; have hR2 := blk_below BR.out hb; clear HB BR; have HB := Aside0.mk hB2; have BR := Aside0.mk hR2; clear hB2 hR2 ho hb)
    | ((with_reducible refine gate_dst (N := 5) rfl ?_); refine box_event ?hg (N := 5) ?hd (cs := #[.slice none 0 0]) (t := 24) ?hr ?_; (case hd => rfl); (case hg => rfl); (case hr => first | (go_simp; done) | (go_simp; rfl)); go_loud (intro gt hg w3 hbox hb; have BT := Aside0.mk hbox; have GT := Aside0.mk (by have := HB.out.size; omega : w.heap.size ≤ gt); have hne : gr ≠ gt := Nat.ne_of_lt (Nat.lt_of_lt_of_le (blk_lt BR.out) (Nat.le_of_eq hg.symm)); have NRT := Aside0.mk hne; have hB2 := below_step HB.out hb; have hR2 := blk_below BR.out hb; have hO2 := HO.out.below hb; clear HB BR HO; have HB := Aside0.mk hB2; have BR := Aside0.mk hR2; have HO := Aside0.mk hO2; clear hB2 hR2 hO2 hne hb hbox hg))
    | (go_at_call 35; refine (HCU.out g _ HO.out).mono ?_; rintro e w4 ⟨rfl, ho, hk⟩; have hR2 := hk.blk BR.out (Ne.symm (HO.out.ne BR.out (by decide))); have hT2 := hk.blk BT.out (Ne.symm (HO.out.ne BT.out (by decide))); have hB2 := hk.below HB.out HO.out.ge; clear HB BR BT HO; have HB := Aside0.mk hB2; have BR := Aside0.mk hR2; have BT := Aside0.mk hT2; have HO := Aside0.mk ho; clear hB2 hR2 hT2 ho hk))
  go_loopw [11] (fun vi W => ∃ (i : Nat) (rest acc : List Int) (v : Value), vi = .int .u64 i ∧ Aside0 (i ≤ N ∧ acc.length = i ∧ readGo N r1 [] = readGo (N - i) rest acc ∧ (∀ x ∈ acc, 0 ≤ x ∧ x ≤ 4096)) ∧ Aside0 (ORd w.heap.size W g rest e1) ∧ Aside0 (W.heap[gt]? = some (.cells #[v] 24 (0, 0))) ∧ Aside0 (Kd.R (Kd.int .i64) 3 W w.heap.size (fun _ => True) v acc) ∧ Aside0 (W.heap[gr]? = some (.cells #[.slice none 0 0] 24 (0, 0))) ∧ Aside0 (Below w.heap.size w W))
    (fun vi _ => N - (intOf vi).toNat)
  case atStart => exact ⟨0, r1, [], _, rfl, ⟨Nat.zero_le _, rfl, rfl, fun x hx => by cases hx⟩, HO, BT, ⟨Kd.R_nil _ _ _ _ _⟩, BR, HB⟩
  case round =>
    clear HO BT BR HB
    obtain ⟨i, rest, acc, v, rfl, HI, HO, BT, HA, BR, HB⟩ := hrel
    by_cases hlt : i < N
    · have d1 : decide (i < N) = true := by simpa using hlt
      have d2 : decide ((i : Int) < (N : Int)) = true := by simp; omega
      have he1 : e1 = 0 := Classical.byContradiction fun h => by have := HNB.out.2.2 h; omega
      have HE := Aside0.mk he1
      rw [he1] at HO
      clear he1
      obtain ⟨n2, hn⟩ : ∃ n2, (rdUpto 4096 rest 0).1 = n2 := ⟨_, rfl⟩
      obtain ⟨r2, hr2⟩ : ∃ r2, (rdUpto 4096 rest 0).2.1 = r2 := ⟨_, rfl⟩
      obtain ⟨e2, he2⟩ : ∃ e2, (rdUpto 4096 rest 0).2.2 = e2 := ⟨_, rfl⟩
      have HN2 : Aside0 (rdUpto 4096 rest 0 = (n2, r2, e2)) := ⟨by rw [← hn, ← hr2, ← he2]⟩
      have HCU2 : Aside0 (∀ w1, ORd w.heap.size w1 g rest 0 → Calls Try.prog 35 #[.pointer (some ⟨g, 0, none⟩), .int .u64 4096] w1 fun e w' => e = .returned (.int .u64 n2) ∧ ORd w.heap.size w' g r2 e2 ∧ OnlyAt w1 w' g) := ⟨fun w1 h => by rw [← hn, ← hr2, ← he2]; exact octet_Upto_any w.heap.size g rest 0 4096 w1 h⟩
      have hst : readGo (N - i) rest acc = if e2 = 0 then readGo (N - (i + 1)) r2 (acc ++ [n2]) else none := by
        rw [show N - i = (N - (i + 1)) + 1 by omega]
        show (if (rdUpto 4096 rest 0).2.2 = 0 then _ else _) = _
        rw [HN2.out]
      have HST := Aside0.mk hst
      have hb2 : e2 = 0 → 0 ≤ n2 ∧ n2 ≤ 4096 := fun h => by
        have := rdUpto_bounds 4096 rest 0 (by omega) HO.out.bytes (by rw [he2]; exact h)
        rw [hn] at this
        exact this
      clear hn hr2 he2 hst
      by_cases h2 : e2 = 0
      · have t1 : (e2 == 0) = true := by simpa using h2
        have t2 : (e2 != 0) = false := by simpa using h2
        obtain ⟨hn0, hn1⟩ := hb2 h2
        have HE2 := Aside0.mk h2
        have hal : acc.length = i := HI.out.2.1
        have HAL := Aside0.mk hal
        obtain ⟨L2, hL2⟩ : ∃ L2 : List Int, L2 = acc ++ [n2] := ⟨_, rfl⟩
        have HL2 := Aside0.mk hL2
        have hwi : IntKind.u64.wrap ((i : Int) + 1) = (i : Int) + 1 := by have := HNB.out.2.1; simp [IntKind.wrap, IntKind.bits, IntKind.signed]; omega
        clear hL2
        have HNN := Aside0.mk HNB.out.2.1
        clear h2 hb2 hal
        go_wp2_with (first
          | (go_at_call 35; refine (HCU2.out _ HO.out).mono ?_; rintro e w5 ⟨rfl, ho, hk⟩; have hR2 := hk.blk BR.out (Ne.symm (HO.out.ne BR.out (by decide))); have hT2 := hk.blk BT.out (Ne.symm (HO.out.ne BT.out (by decide))); have hA2 : Kd.R (Kd.int .i64) 3 w5 w.heap.size (fun _ => True) v acc := (by obtain ⟨cs, hcs⟩ := HO.out.blk; exact R_only HA.out hcs (by intro q hq; simp [Kd.int, Kd.scalar] at hq; omega) hk); have hB2 := hk.below HB.out HO.out.ge; clear HB BR BT HO HA; have HB := Aside0.mk hB2; have BR := Aside0.mk hR2; have BT := Aside0.mk hT2; have HO := Aside0.mk ho; have HA := Aside0.mk hA2; clear hB2 hR2 hT2 ho hk hA2)
          | (go_at_call 36; refine (octet_Err_any _ g r2 e2 _ HO.out).mono ?_; rintro e w6 ⟨rfl, ⟨m, rfl⟩⟩; have hcz : (w5.drewN m).cell? ⟨gt, 0, none⟩ = some v := (blk_cell BT.out 0).trans rfl)
          | (at_builtin; refine Kd.R_append (Kd.int .i64) (w0 := w) w.heap.size rfl (.tmp 20) (.tmp 23) 22 3 (.int .i64 0) 8 rfl Try.underlying22 minfo_int rfl (by decide) (by omega) v acc n2 [.int .i64 n2] (fun _ => True) (fun _ => False) rfl rfl ?aP (fun _ hk => hk.elim) ?aF ?aO ?aB ?aS ?aL ?_; (case aP => exact rfl); (case aB => exact pw_below_drewN HB.out _); (case aF => exact (fun _ _ => trivial)); (case aO => exact HA.out); (case aS => exact HB.out.size); (case aL => have := HAL.out; have := HNN.out; omega); intro v2 w7 ho hb hg hat; rw [← HL2.out] at ho; have HA2 := Aside0.mk ho; have HB2 := Aside0.mk hb; have BR2 := Aside0.mk (blk_grown (show (w5.drewN m).heap[gr]? = _ from BR.out) hg (Kd.R_ne (show Kd.R (Kd.int .i64) 3 (w5.drewN m) w.heap.size (fun _ => True) v acc from HA.out) BR.out (by decide))); have BT2 := Aside0.mk (blk_grown (show (w5.drewN m).heap[gt]? = _ from BT.out) hg (Kd.R_ne (show Kd.R (Kd.int .i64) 3 (w5.drewN m) w.heap.size (fun _ => True) v acc from HA.out) BT.out (by decide))); have HO2 := Aside0.mk ((HO.out.drewN m).over (show Kd.R (Kd.int .i64) 3 (w5.drewN m) w.heap.size (fun _ => True) v acc from HA.out) (by decide) (by decide) hg); have hcz2 : w7.cell? ⟨gt, 0, none⟩ = some v := (blk_cell BT2.out 0).trans rfl; have hfz2 := blk_frozen BT2.out 0; obtain ⟨A2, c2, ev⟩ := Kd.R_slice ho; subst ev; clear ho hb hg hat))
        repeat (go_quiet (fail); try go_wp2)
        go_roundw
        case rel => exact ⟨i + 1, r2, L2, _, by go_num, ⟨by omega, by rw [HL2.out]; simp; exact HAL.out, by rw [HI.out.2.2.1, HST.out, if_pos HE2.out, HL2.out], fun x hx => by
            rw [HL2.out] at hx
            rcases List.mem_append.mp hx with hx | hx
            · exact HI.out.2.2.2 x hx
            · rw [List.mem_singleton.mp hx]; exact ⟨hn0, hn1⟩⟩, ⟨by
            have h := HO2.out.set BT2.out (HO2.out.ne BT2.out (by decide)) (by decide) 0 (.slice A2 L2.length c2)
            rw [HE2.out] at h
            rw [HE.out]
            exact h⟩, ⟨blk_set BT2.out 0 _⟩, ⟨Kd.R_set HA2.out BT2.out (by intro q hq; simp [Kd.int, Kd.scalar] at hq; omega) 0 _⟩, ⟨blk_far BR2.out NRT.out _⟩, ⟨below_set HB2.out GT.out⟩⟩
        case measure => simp [intOf]; omega
      · have t1 : (e2 == 0) = false := by simpa using h2
        have t2 : (e2 != 0) = true := by simpa using h2
        have HE2 := Aside0.mk h2
        clear h2 hb2
        go_wp2_with (first
          | (go_at_call 35; refine (HCU2.out _ HO.out).mono ?_; rintro e w5 ⟨rfl, ho, hk⟩; have hR2 := hk.blk BR.out (Ne.symm (HO.out.ne BR.out (by decide))); have hB2 := hk.below HB.out HO.out.ge; clear HB BR HO; have HB := Aside0.mk hB2; have BR := Aside0.mk hR2; have HO := Aside0.mk ho; clear hB2 hR2 ho hk)
          | (go_at_call 36; refine (octet_Err_any _ g r2 e2 _ HO.out).mono ?_; rintro e w6 ⟨rfl, ⟨m, rfl⟩⟩; have hcz : (w5.drewN m).cell? ⟨gr, 0, none⟩ = some (.slice none 0 0) := (blk_cell BR.out 0).trans rfl; have hfz : (w5.drewN m).frozen? ⟨gr, 0, none⟩ = false := blk_frozen BR.out 0))
        repeat (go_quiet (fail); try go_wp2)
        refine bodyPost_ret (results_ct rfl _ _ gr 24 #[.slice none 0 0] (0, 0) _ rfl (by refine blk_put (cs := #[.slice none 0 0]) BR.out 0 _ rfl) Try.underlying24 rfl (by kernel_rfl)) rfl ?_
        have hv : readT l0 = ([], 4) := by
          unfold readT
          rw [HN.out]
          simp only [Int.toNat_natCast]
          rw [if_pos HE.out, HI.out.2.2.1, HST.out, if_neg HE2.out]
        rw [hv]
        exact ⟨_, rfl, Kd.R_nil _ _ _ _ _, below_set (pw_below_drewN HB.out _) GR.out⟩
    · have d1 : decide (i < N) = false := by simpa using hlt
      have d2 : decide ((i : Int) < (N : Int)) = false := by simp; omega
      have hin : i = N := by have := HI.out.1; omega
      have HG : Aside0 (readGo N r1 [] = some (acc, rest)) := ⟨by rw [HI.out.2.2.1, hin, Nat.sub_self]; rfl⟩
      clear hin
      obtain ⟨ee, hee⟩ : ∃ ee, rdEnd rest e1 = ee := ⟨_, rfl⟩
      have HEE := Aside0.mk hee
      have HCE : Aside0 (∀ w1, ORd w.heap.size w1 g rest e1 → Calls Try.prog 37 #[.pointer (some ⟨g, 0, none⟩)] w1 fun e w' => e = .returned (.int .i64 ee) ∧ ORd w.heap.size w' g rest ee ∧ OnlyAt w1 w' g) := ⟨fun w1 h => by rw [← hee]; exact octet_End_any w.heap.size g rest e1 w1 h⟩
      clear hee
      obtain ⟨A1, c1, ev⟩ := Kd.R_slice HA.out
      subst ev
      by_cases h2 : ee = 0
      · have t1 : (ee == 0) = true := by simpa using h2
        have t2 : (ee != 0) = false := by simpa using h2
        have HE2 := Aside0.mk h2
        have HCK : Aside0 (table_Check.f acc = some (if chkOk acc = true then 0 else 2)) := ⟨by
          unfold table_Check.f
          rw [if_pos]
          rw [List.all_eq_true]
          intro x hx
          have := HI.out.2.2.2 x hx
          unfold inI64
          simp
          omega⟩
        clear h2
        cases hck : chkOk acc with
        | true =>
          have HCK2 : Aside0 (table_Check.f acc = some 0) := ⟨by rw [HCK.out, hck]; rfl⟩
          have HKK := Aside0.mk hck
          clear hck
          go_wp2_with (first
            | (go_at_call 37; refine (HCE.out _ HO.out).mono ?_; rintro e w5 ⟨rfl, ho, hk⟩; have hR2 := hk.blk BR.out (Ne.symm (HO.out.ne BR.out (by decide))); have hT2 := hk.blk BT.out (Ne.symm (HO.out.ne BT.out (by decide))); have hA2 : Kd.R (Kd.int .i64) 3 w5 w.heap.size (fun _ => True) (.slice A1 acc.length c1) acc := (by obtain ⟨cs, hcs⟩ := HO.out.blk; exact R_only HA.out hcs (by intro q hq; simp [Kd.int, Kd.scalar] at hq; omega) hk); have hB2 := hk.below HB.out HO.out.ge; clear HB BR BT HO HA; have HB := Aside0.mk hB2; have BR := Aside0.mk hR2; have BT := Aside0.mk hT2; have HA := Aside0.mk hA2; have hcz : w5.cell? ⟨gt, 0, none⟩ = some (.slice A1 acc.length c1) := (blk_cell hT2 0).trans rfl; clear hB2 hR2 hT2 ho hk hA2)
            | (go_at_call 9; refine (table_Check.calls _ _ acc 0 _ ?k1 ?k2 HCK2.out).mono ?_; (case k1 => exact (Kd.R_reads' HA.out).2.2); (case k2 => exact (Kd.R_reads' HA.out).2.1); rintro e w6 ⟨rfl, hb⟩; have hR2 := blk_below BR.out hb; have hT2 := blk_below BT.out hb; have hA2 := Kd.R_below HA.out hb; have hB2 := below_step HB.out hb; clear HB BR BT HA; have HB := Aside0.mk hB2; have BR := Aside0.mk hR2; have BT := Aside0.mk hT2; have HA := Aside0.mk hA2; have hcz2 : w6.cell? ⟨gt, 0, none⟩ = some (.slice A1 acc.length c1) := (blk_cell hT2 0).trans rfl; have hcy : w6.cell? ⟨gr, 0, none⟩ = some (.slice none 0 0) := (blk_cell hR2 0).trans rfl; have hfy := blk_frozen hR2 0; clear hB2 hR2 hT2 hA2 hb))
          repeat (go_quiet (fail); try go_wp2)
          refine bodyPost_ret (results_ct rfl _ _ gr 24 #[.slice A1 acc.length c1] (0, 0) _ rfl (by refine blk_put (cs := #[.slice none 0 0]) BR.out 0 _ rfl) Try.underlying24 rfl (by kernel_rfl)) rfl ?_
          have hv : readT l0 = (acc, 0) := by
            unfold readT
            rw [HN.out]
            simp only [Int.toNat_natCast]
            have he1 : e1 = 0 := Classical.byContradiction fun h => by
              have h3 := HEE.out
              unfold rdEnd at h3
              rw [if_neg (fun h2 => h h2.1), HE2.out] at h3
              exact h h3
            rw [if_pos he1, HG.out]
            have h3 := HEE.out
            rw [he1, HE2.out] at h3
            exact if_pos ⟨h3, HKK.out⟩
          rw [hv]
          exact ⟨_, rfl, Kd.R_set HA.out BR.out (by intro q hq; simp [Kd.int, Kd.scalar] at hq; omega) 0 _, below_set HB.out GR.out⟩
        | false =>
          have HCK2 : Aside0 (table_Check.f acc = some 2) := ⟨by rw [HCK.out, hck]; rfl⟩
          have HKK := Aside0.mk hck
          clear hck
          go_wp2_with (first
            | (go_at_call 37; refine (HCE.out _ HO.out).mono ?_; rintro e w5 ⟨rfl, ho, hk⟩; have hR2 := hk.blk BR.out (Ne.symm (HO.out.ne BR.out (by decide))); have hT2 := hk.blk BT.out (Ne.symm (HO.out.ne BT.out (by decide))); have hA2 : Kd.R (Kd.int .i64) 3 w5 w.heap.size (fun _ => True) (.slice A1 acc.length c1) acc := (by obtain ⟨cs, hcs⟩ := HO.out.blk; exact R_only HA.out hcs (by intro q hq; simp [Kd.int, Kd.scalar] at hq; omega) hk); have hB2 := hk.below HB.out HO.out.ge; clear HB BR BT HO HA; have HB := Aside0.mk hB2; have BR := Aside0.mk hR2; have BT := Aside0.mk hT2; have HA := Aside0.mk hA2; have hcz : w5.cell? ⟨gt, 0, none⟩ = some (.slice A1 acc.length c1) := (blk_cell hT2 0).trans rfl; have hcx : w5.cell? ⟨gr, 0, none⟩ = some (.slice none 0 0) := (blk_cell hR2 0).trans rfl; have hfx := blk_frozen hR2 0; clear hB2 hR2 hT2 ho hk hA2)
            | (go_at_call 9; refine (table_Check.calls _ _ acc 2 _ ?k1 ?k2 HCK2.out).mono ?_; (case k1 => exact (Kd.R_reads' HA.out).2.2); (case k2 => exact (Kd.R_reads' HA.out).2.1); rintro e w6 ⟨rfl, hb⟩; have hR2 := blk_below BR.out hb; have hB2 := below_step HB.out hb; clear HB BR; have HB := Aside0.mk hB2; have BR := Aside0.mk hR2; have hcy : w6.cell? ⟨gr, 0, none⟩ = some (.slice none 0 0) := (blk_cell hR2 0).trans rfl; have hfy := blk_frozen hR2 0; clear hB2 hR2 hb))
          repeat (go_quiet (fail); try go_wp2)
          refine bodyPost_ret (results_ct rfl _ _ gr 24 #[.slice none 0 0] (0, 0) _ rfl (by refine blk_put (cs := #[.slice none 0 0]) BR.out 0 _ rfl) Try.underlying24 rfl (by kernel_rfl)) rfl ?_
          have hv : readT l0 = ([], 4) := by
            unfold readT
            rw [HN.out]
            simp only [Int.toNat_natCast]
            by_cases he1 : e1 = 0
            · rw [if_pos he1, HG.out]
              exact if_neg (fun h => by have h2 := h.2; rw [HKK.out] at h2; cases h2)
            · rw [if_neg he1]
          rw [hv]
          exact ⟨_, rfl, Kd.R_nil _ _ _ _ _, below_set HB.out GR.out⟩
      · have t1 : (ee == 0) = false := by simpa using h2
        have t2 : (ee != 0) = true := by simpa using h2
        have HE2 := Aside0.mk h2
        clear h2
        go_wp2_with (first
          | (go_at_call 37; refine (HCE.out _ HO.out).mono ?_; rintro e w5 ⟨rfl, ho, hk⟩; have hR2 := hk.blk BR.out (Ne.symm (HO.out.ne BR.out (by decide))); have hT2 := hk.blk BT.out (Ne.symm (HO.out.ne BT.out (by decide))); have hA2 : Kd.R (Kd.int .i64) 3 w5 w.heap.size (fun _ => True) (.slice A1 acc.length c1) acc := (by obtain ⟨cs, hcs⟩ := HO.out.blk; exact R_only HA.out hcs (by intro q hq; simp [Kd.int, Kd.scalar] at hq; omega) hk); have hB2 := hk.below HB.out HO.out.ge; clear HB BR BT HO HA; have HB := Aside0.mk hB2; have BR := Aside0.mk hR2; have BT := Aside0.mk hT2; have HA := Aside0.mk hA2; have hcz : w5.cell? ⟨gt, 0, none⟩ = some (.slice A1 acc.length c1) := (blk_cell hT2 0).trans rfl; have hcx : w5.cell? ⟨gr, 0, none⟩ = some (.slice none 0 0) := (blk_cell hR2 0).trans rfl; have hfx := blk_frozen hR2 0; clear hB2 hR2 hT2 ho hk hA2))
        repeat (go_quiet (fail); try go_wp2)
        refine bodyPost_ret (results_ct rfl _ _ gr 24 #[.slice none 0 0] (0, 0) _ rfl (by refine blk_put (cs := #[.slice none 0 0]) BR.out 0 _ rfl) Try.underlying24 rfl (by kernel_rfl)) rfl ?_
        have hv : readT l0 = ([], 4) := by
          unfold readT
          rw [HN.out]
          simp only [Int.toNat_natCast]
          by_cases he1 : e1 = 0
          · rw [if_pos he1, HG.out]
            exact if_neg (fun h => HE2.out (by rw [← HEE.out, he1]; exact h.1))
          · rw [if_neg he1]
        rw [hv]
        exact ⟨_, rfl, Kd.R_nil _ _ _ _ _, below_set HB.out GR.out⟩

theorem table_Read.calls (A0 : Option Addr) (c0 : Nat) (l0 : List Int) (r1 : List Int) (r2 : Int) (w : World) (hr0 : Kd.C (Kd.int .u8) w A0 l0.length l0) (hc0 : l0.length ≤ c0) (h : table_Read.f l0 = some (r1, r2)) :
    Calls Try.prog 19 #[.slice A0 l0.length c0] w fun e w' => ∃ v0_ : Value, e = .returned (.tuple #[.agg #[v0_], .int .i64 r2]) ∧ Kd.R (Kd.int .i64) 3 w' w.heap.size (fun _ => True) v0_ r1 ∧ Below w.heap.size w w' := by
  unfold table_Read.f at h
  split at h
  case isFalse => cases h
  case isTrue hb =>
  have h := Option.some.inj h
  have e1 : r1 = (readT l0).1 := by rw [h]
  have e2 : r2 = (readT l0).2 := by rw [h]
  rw [e1, e2]
  exact table_Read_walk A0 c0 l0 w hr0 hc0 hb.1 hb.2

end Go.Proofs.Ytefnndodcpimiaa.H
