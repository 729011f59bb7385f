/- Contracts of Go functions, walked by hand: each call comes to the Lean function beside it and leaves what was there before. -/
import Derived.Test.YtefnndodcpimiaaProg
import Derived.Below
import Derived.Deep.Draws
import Derived.Deep.AppendLies
import Derived.Maps.AppendAt
import Derived.OwnWalk
import Derived.Laws.BytesArg
import Derived.Laws.MakeOwn
import Derived.Laws.OwnMore
import Derived.Deep.OwnRows
import Derived.Tactics
import Derived.Lib.ConvBytes
import Derived.Laws.Slices
import Derived.WalkKit
import Derived.KernelRfl
import Derived.RowKit3
import Derived.Deep.LoopGhost
import Derived.Deep.QuietTactic
import Derived.BigQuiet
import Derived.WideLaws
import Derived.Deep.DeepCutAuto
import Derived.Deep.CutBlock
import Derived.Deep.RegionHeld3
import Derived.Laws.Rows
import Derived.Lib.AppendStr
import Derived.ArgAppend
import Derived.Laws.IdiomCopy
import Derived.OrdersHeld
import Derived.Laws.BitsLemmas
import Derived.RowKit
import Derived.WalkSpells
import Derived.WalkLawsBesides
import Derived.Laws.Bits64b
import Derived.Laws.BitsAllLaws
import Derived.Maps.OwnSet
import Derived.Test.YtefnndodcpimiaaVTT
import Derived.Test.YtefnndodcpimiaaM5
import Derived.Test.YtefnndodcpimiaaM6
namespace Go.Proofs.Ytefnndodcpimiaa.H
open Go.RowKit Go.Proofs.YtefnndodcpimiaaW.PrintWords Go.Proofs.YtefnndodcpimiaaW.PrintLast Go.Proofs.YtefnndodcpimiaaW.PrintMore
attribute [local go_sem] max2_int min2_int max_two min_two max_three min_three max_four min_four
set_option linter.unusedVariables false
set_option linter.unusedSimpArgs false

/-! ### tallymanref10.Read -/
theorem RRd.lower {b b' : Nat} {W : World} {g : Nat} {rest : List Int} {err : Int} (h : RRd b' W g rest err) (hb : b ≤ b') : RRd b W g rest err := by
  obtain ⟨v, P, h1, h2, h3, h4, h5, h6⟩ := h
  exact ⟨v, P, h1, Nat.le_trans hb h2, h3, h4, h5, h6⟩
def tallymanref10_Read.f (l0 : List Int) : Option (List Int × Int) := table_Read.f l0
theorem readT_bad (l0 : List Int) (N : Nat) (r1 : List Int) (e1 : Int) (hN : rdUpto 65536 l0 0 = ((N : Int), r1, e1)) (h : ¬ e1 = 0 ∨ readGo N r1 [] = none) : readT l0 = ([], 4) := by
  unfold readT
  rw [hN]
  simp only [Int.toNat_natCast]
  rcases h with h | h
  · rw [if_neg h]
  · split
    · rw [h]
    · rfl
set_option maxHeartbeats 4000000 in
set_option maxRecDepth 100000 in
theorem refRead_walk (A0 : Option Addr) (c0 : Nat) (l0 : List Int) (w : World) (hr0 : Kd.C (Kd.int .u8) w A0 l0.length l0) (hc0 : l0.length ≤ c0) (hb0 : l0.all isByte = true) (hl0 : l0.length < 140737488355328) :
    Calls Try.prog 28 #[.slice A0 l0.length c0] w (ReadPost w (readT l0).1 (readT l0).2) := by
  have HR := Aside0.mk hr0
  have HC := Aside0.mk hc0
  have HBY := Aside0.mk hb0
  have HLN := Aside0.mk hl0
  have HB := Aside0.mk (Below.refl w.heap.size w)
  clear hr0 hc0 hb0 hl0
  obtain ⟨n, hn⟩ : ∃ n, (rdUpto 65536 l0 0).1 = n := ⟨_, rfl⟩
  obtain ⟨r1, hr1⟩ : ∃ r1, (rdUpto 65536 l0 0).2.1 = r1 := ⟨_, rfl⟩
  obtain ⟨e1, he1⟩ : ∃ e1, (rdUpto 65536 l0 0).2.2 = e1 := ⟨_, rfl⟩
  have HN : Aside0 (rdUpto 65536 l0 0 = (n, r1, e1)) := ⟨by rw [← hn, ← hr1, ← he1]⟩
  have HCU : Aside0 (∀ (g : Nat) w1, RRd w.heap.size w1 g l0 0 → Calls Try.prog 42 #[.pointer (some ⟨g, 0, none⟩), .int .u64 65536] w1 fun e w' => e = .returned (.int .u64 n) ∧ RRd w.heap.size w' g r1 e1 ∧ OnlyAt w1 w' g) := ⟨fun g w1 h => by rw [← hn, ← hr1, ← he1]; exact ref_Upto_any w.heap.size g l0 0 65536 w1 h⟩
  have hnb : 0 ≤ n ∧ n ≤ 65536 ∧ (¬ e1 = 0 → n = 0) := by
    rw [← hn, ← he1]
    by_cases h : (rdUpto 65536 l0 0).2.2 = 0
    · have := rdUpto_bounds 65536 l0 0 (by omega) HBY.out h
      exact ⟨this.1, this.2, fun h2 => absurd h h2⟩
    · rw [rdUpto_err _ _ _ h]
      exact ⟨by omega, by omega, fun _ => rfl⟩
  have HNB := Aside0.mk hnb
  clear hn hr1 he1 hnb
  obtain ⟨N, hN⟩ : ∃ N : Nat, n = N := ⟨n.toNat, by have := HNB.out.1; omega⟩
  subst hN
  have hwN : wrap64 (N : Int) = (N : Int) := by have := HNB.out.2.1; unfold wrap64; omega
  have hwN2 : IntKind.i64.wrap (N : Int) = (N : Int) := (i64_w _).trans hwN
  have hu24 := Try.underlying24
  go_enter Try.func28, Try.ntmps28
  go_wp2_with (first
    | ((with_reducible refine gate_dst (N := 2) rfl ?_); refine box_event ?hg (N := 2) ?hd (cs := #[.slice none 0 0]) (t := 24) ?hr ?_; (case hd => rfl); (case hg => rfl); (case hr => first | (go_simp; done) | (go_simp; rfl)); intro gr hg w1 hbox hb; have BR := Aside0.mk hbox; have GR := Aside0.mk (by rw [hg]; exact Nat.le_refl _ : w.heap.size ≤ gr); have hB2 := below_step HB.out hb; clear HB; have HB := Aside0.mk hB2; clear hB2 hb hbox hg)
    | (go_at_call 41; (with_reducible refine (ref_New_any _ _ l0 _ ?s1 ?s2 ?s3 ?s4).mono ?_); (case s1 => exact Kd.C_below HR.out HB.out); (case s2 => exact HC.out); (case s3 => exact HBY.out); (case s4 => exact HLN.out); rintro e w2 ⟨g, rfl, ho, hb⟩; have HO : Aside0 (RRd w.heap.size w2 g l0 0) := ⟨ho.lower HB.out.size⟩; have hB2 := below_step HB.out hb; have hR2 := blk_below BR.out hb; clear HB BR; have HB := Aside0.mk hB2; have BR := Aside0.mk hR2; clear hB2 hR2 ho hb)
    | ((with_reducible refine gate_dst (N := 6) rfl ?_); refine box_event ?hg (N := 6) ?hd (cs := #[.slice none 0 0]) (t := 24) ?hr ?_; (case hd => rfl); (case hg => rfl); (case hr => first | (go_simp; done) | (go_simp; rfl)); go_loud (intro gt hg w3 hbox hb; have BT := Aside0.mk hbox; have GT := Aside0.mk (by have := HB.out.size; omega : w.heap.size ≤ gt); have hne : gr ≠ gt := Nat.ne_of_lt (Nat.lt_of_lt_of_le (blk_lt BR.out) (Nat.le_of_eq hg.symm)); have NRT := Aside0.mk hne; have hB2 := below_step HB.out hb; have hR2 := blk_below BR.out hb; have hO2 := HO.out.below hb; clear HB BR HO; have HB := Aside0.mk hB2; have BR := Aside0.mk hR2; have HO := Aside0.mk hO2; clear hB2 hR2 hO2 hne hb hbox hg))
    | (go_at_call 42; refine (HCU.out g _ HO.out).mono ?_; rintro e w4 ⟨rfl, ho, hk⟩; have hR2 := hk.blk BR.out (Ne.symm (HO.out.ne BR.out (by decide))); have hB2 := hk.below HB.out HO.out.ge; clear HB BR HO; have HB := Aside0.mk hB2; have BR := Aside0.mk hR2; have HO := Aside0.mk ho; clear hB2 hR2 ho hk))
  go_loopw [7] (fun vi W => ∃ (i : Nat) (rest acc : List Int) (err : Int) (v : Value), vi = .int .i64 i ∧ Aside0 (i ≤ N ∧ acc.length = i ∧ (err = 0 → e1 = 0 ∧ readGo N r1 [] = readGo (N - i) rest acc ∧ (∀ x ∈ acc, 0 ≤ x ∧ x ≤ 4096)) ∧ (¬ err = 0 → ¬ e1 = 0 ∨ readGo N r1 [] = none)) ∧ Aside0 (RRd w.heap.size W g rest err) ∧ Aside0 (W.heap[gt]? = some (.cells #[v] 24 (0, 0))) ∧ Aside0 (Kd.R (Kd.int .i64) 3 W w.heap.size (fun _ => True) v acc) ∧ Aside0 (W.heap[gr]? = some (.cells #[.slice none 0 0] 24 (0, 0))) ∧ Aside0 (Below w.heap.size w W))
    (fun vi _ => N - (intOf vi).toNat)
  case atStart => exact ⟨0, r1, [], e1, _, rfl, ⟨Nat.zero_le _, rfl, fun h => ⟨h, rfl, fun x hx => by cases hx⟩, fun h => .inl h⟩, HO, BT, ⟨Kd.R_nil _ _ _ _ _⟩, BR, HB⟩
  case round =>
    clear HO BT BR HB
    obtain ⟨i, rest, acc, err, v, rfl, HI, HO, BT, HA, BR, HB⟩ := hrel
    by_cases hlt : i < N
    · have d1 : decide (i < N) = true := by simpa using hlt
      have d2 : decide ((i : Int) < (N : Int)) = true := by simp; omega
      by_cases her : err = 0
      · have t1 : (err == 0) = true := by simpa using her
        have he1 := (HI.out.2.2.1 her).1
        have HE := Aside0.mk he1
        have HG0 := Aside0.mk (HI.out.2.2.1 her).2.1
        have HBD := Aside0.mk (HI.out.2.2.1 her).2.2
        subst her
        clear he1
        obtain ⟨n2, hn⟩ : ∃ n2, (rdUpto 4096 rest 0).1 = n2 := ⟨_, rfl⟩
        obtain ⟨r2, hr2⟩ : ∃ r2, (rdUpto 4096 rest 0).2.1 = r2 := ⟨_, rfl⟩
        obtain ⟨e2, he2⟩ : ∃ e2, (rdUpto 4096 rest 0).2.2 = e2 := ⟨_, rfl⟩
        have HN2 : Aside0 (rdUpto 4096 rest 0 = (n2, r2, e2)) := ⟨by rw [← hn, ← hr2, ← he2]⟩
        have HCU2 : Aside0 (∀ w1, RRd w.heap.size w1 g rest 0 → Calls Try.prog 42 #[.pointer (some ⟨g, 0, none⟩), .int .u64 4096] w1 fun e w' => e = .returned (.int .u64 n2) ∧ RRd w.heap.size w' g r2 e2 ∧ OnlyAt w1 w' g) := ⟨fun w1 h => by rw [← hn, ← hr2, ← he2]; exact ref_Upto_any w.heap.size g rest 0 4096 w1 h⟩
        have hst : readGo (N - i) rest acc = if e2 = 0 then readGo (N - (i + 1)) r2 (acc ++ [n2]) else none := by
          rw [show N - i = (N - (i + 1)) + 1 by omega]
          show (if (rdUpto 4096 rest 0).2.2 = 0 then _ else _) = _
          rw [HN2.out]
        have HST := Aside0.mk hst
        have hb2 : 0 ≤ n2 ∧ n2 ≤ 4096 := by
          rw [← hn]
          by_cases h : (rdUpto 4096 rest 0).2.2 = 0
          · exact rdUpto_bounds 4096 rest 0 (by omega) HO.out.bytes h
          · rw [rdUpto_err _ _ _ h]
            omega
        have HN4 := Aside0.mk hb2
        clear hn hr2 he2 hst hb2
        have hal : acc.length = i := HI.out.2.1
        have HAL := Aside0.mk hal
        obtain ⟨L2, hL2⟩ : ∃ L2 : List Int, L2 = acc ++ [n2] := ⟨_, rfl⟩
        have HL2 := Aside0.mk hL2
        have HNN := Aside0.mk HNB.out.2.1
        have hw2 : wrap64 n2 = n2 := by have := HN4.out; unfold wrap64; omega
        have hw3 : IntKind.i64.wrap n2 = n2 := (i64_w _).trans hw2
        have hwi : wrap64 ((i : Int) + 1) = (i : Int) + 1 := by have := HNN.out; unfold wrap64; omega
        have hwi2 : IntKind.i64.wrap ((i : Int) + 1) = (i : Int) + 1 := (i64_w _).trans hwi
        clear hL2 hal
        go_wp2_with (first
          | (go_at_call 43; refine (ref_Err_any _ g rest 0 _ HO.out).mono ?_; rintro e w6 ⟨rfl, ⟨m, rfl⟩⟩; have hB2 := pw_below_drewN HB.out m; have hO2 := HO.out.drewN m; have hA2 := Kd.R_drewN HA.out m; have hT2 := blk_drewN BT.out m; have hR2 := blk_drewN BR.out m; clear HB HO HA BT BR; have HB := Aside0.mk hB2; have HO := Aside0.mk hO2; have HA := Aside0.mk hA2; have BT := Aside0.mk hT2; have BR := Aside0.mk hR2; clear hB2 hO2 hA2 hT2 hR2))
        refine start_ (n := 9) (S := fun w' => w'.cell? ⟨gt, 0, none⟩ = some v) (ds := [8]) #[false, false, false, false, false, false, false, false, false] (by kernel_rfl) rfl rfl ((blk_cell (blk_drew BT.out) 0).trans rfl) (fun hHeld => ?_)
        have HB3 := Aside0.mk (below_drew1 HB.out); have BT3 := Aside0.mk (blk_drew BT.out); have BR3 := Aside0.mk (blk_drew BR.out); have HA3 := Aside0.mk (Kd.R_drew HA.out); have HO3 := Aside0.mk (HO.out.below (Below.drew (Below.refl _ _)))
        clear HB BT BR HA HO
        generalize World.drew _ = wd at HB3 BT3 BR3 HA3 HO3 hHeld ⊢
        refine pure_ (i := 0) (N := some 23) (v := ?_) (a' := ?_) #[true, false, false, false, false, false, false, false, false] rfl rfl (by kernel_rfl) (fun _ _ _ h => h) (Or.inl ⟨by rfl, ?_⟩) ?_ ?_
        rotate_left
        · intro w'
          go_simp
          with_reducible rfl
        rotate_left
        · simp only [Act.put, List.setIfInBounds_toArray, List.set_cons_zero, List.set_cons_succ, i64_w, i32_w]
          rfl
        refine pure_ (i := 2) (N := some 25) (v := ?_) (a' := ?_) #[true, false, true, false, false, false, false, false, false] rfl rfl (by kernel_rfl) (fun _ _ _ h => h) (Or.inl ⟨by rfl, ?_⟩) ?_ ?_
        rotate_left
        · intro w'
          go_simp
          with_reducible rfl
        rotate_left
        · simp only [Act.put, List.setIfInBounds_toArray, List.set_cons_zero, List.set_cons_succ, i64_w, i32_w]
          rfl
        refine take_ (i := 1) (N := some 24) (v := ?_) (a' := ?_) #[true, true, true, false, false, false, false, false, false] rfl rfl (by kernel_rfl) (fun _ _ _ h => h) (Or.inl ⟨by rfl, ?_⟩) hHeld ?_ ?_
        rotate_left
        · intro w' s0
          go_simp
          with_reducible rfl
        rotate_left
        · simp only [Act.put, List.setIfInBounds_toArray, List.set_cons_zero, List.set_cons_succ, i64_w, i32_w]
          rfl
        refine one_ (i := 3) (N := some 26) #[true, true, true, true, false, false, false, false, false] rfl rfl (by kernel_rfl) (by decide) (fun K hK => ?_)
        refine goes_ Try.func42 (by kernel_rfl) rfl #[.pointer (some ⟨g, 0, none⟩), .int .u64 4096] (by rfl) rfl rfl (by (try simp only [List.map_toArray, List.map_cons, List.map_nil]); first | done | rfl) ?_
        refine (HCU2.out _ HO3.out).mono ?_
        rintro e w5 ⟨rfl, ho, hk⟩
        have hR2 := hk.blk BR3.out (Ne.symm (HO3.out.ne BR3.out (by decide)))
        have hT2 := hk.blk BT3.out (Ne.symm (HO3.out.ne BT3.out (by decide)))
        have hA2 : Kd.R (Kd.int .i64) 3 w5 w.heap.size (fun _ => True) v acc := by
          obtain ⟨cs, hcs⟩ := HO3.out.blk
          exact R_only HA3.out hcs (by intro q hq; simp [Kd.int, Kd.scalar] at hq; omega) hk
        have hB2 := hk.below HB3.out HO3.out.ge
        clear HB3 BR3 BT3 HO3 HA3
        have HB := Aside0.mk hB2
        have BR := Aside0.mk hR2
        have BT := Aside0.mk hT2
        have HO := Aside0.mk ho
        have HA := Aside0.mk hA2
        clear hB2 hR2 hT2 ho hk hA2
        refine ⟨_, rfl, ?_⟩
        refine hK.out _ _ ((blk_cell BT.out 0).trans rfl) (fun hHeld => ?_)
        clear hK K
        refine norm_ (a' := ?_) ?_ ?_
        rotate_left
        · show Act.put _ (some 26) _ = _
          simp only [Act.put, List.setIfInBounds_toArray, List.set_cons_zero, List.set_cons_succ, i64_w, i32_w]
          rfl
        refine pure_ (i := 4) (N := some 27) (v := ?_) (a' := ?_) #[true, true, true, true, true, false, false, false, false] rfl rfl (by kernel_rfl) (fun _ _ _ h => h) (Or.inl ⟨by rfl, ?_⟩) ?_ ?_
        rotate_left
        · intro w'
          go_simp
          with_reducible rfl
        rotate_left
        · simp only [Act.put, List.setIfInBounds_toArray, List.set_cons_zero, List.set_cons_succ, i64_w, i32_w]
          rfl
        refine one_ (i := 5) (N := some 28) #[true, true, true, true, true, true, false, false, false] rfl rfl (by kernel_rfl) (by decide) (fun K hK => ?_)
        refine value_ (w1 := ?_) (v := ?_) (by rfl) rfl ?_ ?_
        rotate_left 2
        · go_simp
          constructor
          · rfl
          · rfl
        refine hK.out _ _ ((blk_cell (blk_alloc BT.out _) 0).trans rfl) (fun hHeld => ?_)
        clear hK K
        refine norm_ (a' := ?_) ?_ ?_
        rotate_left
        · show Act.put _ (some 28) _ = _
          simp only [Act.put, List.setIfInBounds_toArray, List.set_cons_zero, List.set_cons_succ, i64_w, i32_w]
          rfl
        refine one_ (i := 6) (N := some 29) #[true, true, true, true, true, true, true, false, false] rfl rfl (by kernel_rfl) (by decide) (fun K hK => ?_)
        refine Kd.R_append_step (Kd.int .i64) (w0 := w) w.heap.size (by rfl) (.tmp 24) (.tmp 28) 22 3 (.int .i64 0) 8 rfl Try.underlying22 minfo_int rfl (by decide) (by omega) v acc n2 [.int .i64 n2] (fun _ => True) (fun _ => False) rfl rfl ?aP (fun _ hk => hk.elim) ?aF ?aO ?aB ?aS ?aL ?_
        (case aP => exact rfl)
        (case aB => exact HB.out)
        (case aF => exact (fun _ _ => trivial))
        (case aO => exact HA.out)
        (case aS => exact below_size HB.out)
        (case aL => have := HAL.out; have := HNN.out; omega)
        intro v2 w7 ho hb hg hat
        rw [← HL2.out] at ho
        have HA2 := Aside0.mk ho
        have HB2 := Aside0.mk hb
        have BR2 := Aside0.mk (blk_grown BR.out hg (Kd.R_ne HA.out BR.out (by decide)))
        have BT2 := Aside0.mk (blk_grown BT.out hg (Kd.R_ne HA.out BT.out (by decide)))
        have HO2 := Aside0.mk (HO.out.over HA.out (by decide) (by decide) hg)
        obtain ⟨A2, c2, ev⟩ := Kd.R_slice ho
        subst ev
        clear ho hb hg hat
        refine hK.out _ _ ((blk_cell BT2.out 0).trans rfl) (fun hHeld => ?_)
        clear hK K
        refine norm_ (a' := ?_) ?_ ?_
        rotate_left
        · show Act.put _ (some 29) _ = _
          simp only [Act.put, List.setIfInBounds_toArray, List.set_cons_zero, List.set_cons_succ, i64_w, i32_w]
          rfl
        refine pure_ (i := 7) (N := some 30) (v := ?_) (a' := ?_) #[true, true, true, true, true, true, true, true, false] rfl rfl (by kernel_rfl) (fun _ _ _ h => h) (Or.inl ⟨by rfl, ?_⟩) ?_ ?_
        rotate_left
        · intro w'
          go_simp
          with_reducible rfl
        rotate_left
        · simp only [Act.put, List.setIfInBounds_toArray, List.set_cons_zero, List.set_cons_succ, i64_w, i32_w]
          rfl
        refine last_ (i := 8) (N := none) #[true, true, true, true, true, true, true, true, true] rfl rfl (by kernel_rfl) (by decide) (fun K hK => ?_)
        have hs20 : w7.cell? ⟨gt, 0, none⟩ = some v := (blk_cell BT2.out 0).trans rfl
        have hfs20 := blk_frozen BT2.out 0
        refine skip_ (w1 := ?_) (by rfl) rfl ?_ ?_
        rotate_left
        · go_simp
          rfl
        refine hK.out _ _ ?_
        clear hK K
        refine done_ (by kernel_rfl) ?_
        try go_wp2
        go_roundw
        case rel => exact ⟨i + 1, r2, L2, e2, _, by go_num, ⟨by omega, by rw [HL2.out]; simp; exact HAL.out, fun h => ⟨HE.out, by rw [HG0.out, HST.out, if_pos h, HL2.out], fun x hx => by
            rw [HL2.out] at hx
            rcases List.mem_append.mp hx with hx | hx
            · exact HBD.out x hx
            · rw [List.mem_singleton.mp hx]; exact HN4.out⟩, fun h => .inr (by rw [HG0.out, HST.out, if_neg h])⟩, ⟨HO2.out.set BT2.out (HO2.out.ne BT2.out (by decide)) (by decide) 0 (.slice A2 L2.length c2)⟩, ⟨blk_set BT2.out 0 _⟩, ⟨Kd.R_set HA2.out BT2.out (by intro q hq; simp [Kd.int, Kd.scalar] at hq; omega) 0 _⟩, ⟨blk_far BR2.out NRT.out _⟩, ⟨below_set HB2.out GT.out⟩⟩
        case measure => simp [intOf]; omega
      · have t1 : (err == 0) = false := by simpa using her
        have HER := Aside0.mk her
        clear her
        obtain ⟨A1, c1, ev⟩ := Kd.R_slice HA.out
        subst ev
        have hee : rdEnd rest err = err := by unfold rdEnd; exact if_neg (fun h => HER.out h.1)
        have HCE : Aside0 (∀ w1, RRd w.heap.size w1 g rest err → Calls Try.prog 44 #[.pointer (some ⟨g, 0, none⟩)] w1 fun e w' => e = .returned (.int .i64 err) ∧ RRd w.heap.size w' g rest err ∧ OnlyAt w1 w' g) := ⟨fun w1 h => by have := ref_End_any w.heap.size g rest err w1 h; rw [hee] at this; exact this⟩
        have t2 : (err != 0) = true := by simpa using HER.out
        clear hee
        go_wp2_with (first
          | (go_at_call 43; refine (ref_Err_any _ g rest err _ HO.out).mono ?_; rintro e w6 ⟨rfl, ⟨m, rfl⟩⟩; have hB2 := pw_below_drewN HB.out m; have hO2 := HO.out.drewN m; have hT2 := blk_drewN BT.out m; have hR2 := blk_drewN BR.out m; clear HB HO BT BR; have HB := Aside0.mk hB2; have HO := Aside0.mk hO2; have BT := Aside0.mk hT2; have BR := Aside0.mk hR2; clear hB2 hO2 hT2 hR2)
          | (go_at_call 44; refine (HCE.out _ HO.out).mono ?_; rintro e w5 ⟨rfl, ho, hk⟩; have hR2 := hk.blk BR.out (Ne.symm (HO.out.ne BR.out (by decide))); have hT2 := hk.blk BT.out (Ne.symm (HO.out.ne BT.out (by decide))); have hB2 := hk.below HB.out HO.out.ge; clear HB BR BT HO; have HB := Aside0.mk hB2; have BR := Aside0.mk hR2; have BT := Aside0.mk hT2; have hcz : w5.cell? ⟨gt, 0, none⟩ = some (.slice A1 acc.length c1) := (blk_cell hT2 0).trans rfl; have hcx : w5.cell? ⟨gr, 0, none⟩ = some (.slice none 0 0) := (blk_cell hR2 0).trans rfl; have hfx := blk_frozen hR2 0; clear hB2 hR2 hT2 ho hk))
        repeat (go_quiet (fail); try go_wp2)
        refine bodyPost_ret (results_ct rfl _ _ gr 24 #[.slice none 0 0] (0, 0) _ rfl (by refine blk_put (cs := #[.slice none 0 0]) BR.out 0 _ rfl) Try.underlying24 rfl (by kernel_rfl)) rfl ?_
        rw [readT_bad l0 N r1 e1 HN.out (HI.out.2.2.2 HER.out)]
        exact ⟨_, rfl, Kd.R_nil _ _ _ _ _, below_set HB.out GR.out⟩
    · have d1 : decide (i < N) = false := by simpa using hlt
      have d2 : decide ((i : Int) < (N : Int)) = false := by simp; omega
      by_cases her : err = 0
      · have HE0 := Aside0.mk (HI.out.2.2.1 her).1
        have HG0 := Aside0.mk (HI.out.2.2.1 her).2.1
        have HBD := Aside0.mk (HI.out.2.2.1 her).2.2
        subst her
        have hin : i = N := by have := HI.out.1; omega
        have HG : Aside0 (readGo N r1 [] = some (acc, rest)) := ⟨by rw [HG0.out, hin, Nat.sub_self]; rfl⟩
        clear hin
        obtain ⟨ee, hee⟩ : ∃ ee, rdEnd rest 0 = ee := ⟨_, rfl⟩
        have HEE := Aside0.mk hee
        have HCE : Aside0 (∀ w1, RRd w.heap.size w1 g rest 0 → Calls Try.prog 44 #[.pointer (some ⟨g, 0, none⟩)] w1 fun e w' => e = .returned (.int .i64 ee) ∧ RRd w.heap.size w' g rest ee ∧ OnlyAt w1 w' g) := ⟨fun w1 h => by rw [← hee]; exact ref_End_any w.heap.size g rest 0 w1 h⟩
        clear hee
        obtain ⟨A1, c1, ev⟩ := Kd.R_slice HA.out
        subst ev
        by_cases h2 : ee = 0
        · have t1 : (ee == 0) = true := by simpa using h2
          have t2 : (ee != 0) = false := by simpa using h2
          have HE2 := Aside0.mk h2
          have HCK : Aside0 (tallymanref10_Check.f acc = some (if chkOk acc = true then 0 else 2)) := ⟨by
            unfold tallymanref10_Check.f table_Check.f
            rw [if_pos]
            rw [List.all_eq_true]
            intro x hx
            have := HBD.out x hx
            unfold inI64
            simp
            omega⟩
          clear h2
          cases hck : chkOk acc with
          | true =>
            have HCK2 : Aside0 (tallymanref10_Check.f acc = some 0) := ⟨by rw [HCK.out, hck]; rfl⟩
            have HKK := Aside0.mk hck
            clear hck
            go_wp2_with (first
              | (go_at_call 44; refine (HCE.out _ HO.out).mono ?_; rintro e w5 ⟨rfl, ho, hk⟩; have hR2 := hk.blk BR.out (Ne.symm (HO.out.ne BR.out (by decide))); have hT2 := hk.blk BT.out (Ne.symm (HO.out.ne BT.out (by decide))); have hA2 : Kd.R (Kd.int .i64) 3 w5 w.heap.size (fun _ => True) (.slice A1 acc.length c1) acc := (by obtain ⟨cs, hcs⟩ := HO.out.blk; exact R_only HA.out hcs (by intro q hq; simp [Kd.int, Kd.scalar] at hq; omega) hk); have hB2 := hk.below HB.out HO.out.ge; clear HB BR BT HO HA; have HB := Aside0.mk hB2; have BR := Aside0.mk hR2; have BT := Aside0.mk hT2; have HA := Aside0.mk hA2; have hcz : w5.cell? ⟨gt, 0, none⟩ = some (.slice A1 acc.length c1) := (blk_cell hT2 0).trans rfl; clear hB2 hR2 hT2 ho hk hA2)
              | (go_at_call 29; refine (tallymanref10_Check.calls _ _ acc 0 _ ?k1 ?k2 HCK2.out).mono ?_; (case k1 => exact (Kd.R_reads' HA.out).2.2); (case k2 => exact (Kd.R_reads' HA.out).2.1); rintro e w6 ⟨rfl, hb⟩; have hR2 := blk_below BR.out hb; have hT2 := blk_below BT.out hb; have hA2 := Kd.R_below HA.out hb; have hB2 := below_step HB.out hb; clear HB BR BT HA; have HB := Aside0.mk hB2; have BR := Aside0.mk hR2; have BT := Aside0.mk hT2; have HA := Aside0.mk hA2; have hcz2 : w6.cell? ⟨gt, 0, none⟩ = some (.slice A1 acc.length c1) := (blk_cell hT2 0).trans rfl; have hcy : w6.cell? ⟨gr, 0, none⟩ = some (.slice none 0 0) := (blk_cell hR2 0).trans rfl; have hfy := blk_frozen hR2 0; clear hB2 hR2 hT2 hA2 hb))
            repeat (go_quiet (fail); try go_wp2)
            refine bodyPost_ret (results_ct rfl _ _ gr 24 #[.slice A1 acc.length c1] (0, 0) _ rfl (by refine blk_put (cs := #[.slice none 0 0]) BR.out 0 _ rfl) Try.underlying24 rfl (by kernel_rfl)) rfl ?_
            have hv : readT l0 = (acc, 0) := by
              unfold readT
              rw [HN.out]
              simp only [Int.toNat_natCast]
              have he1 : e1 = 0 := HE0.out
              rw [if_pos he1, HG.out]
              have h3 := HEE.out
              rw [HE2.out] at h3
              exact if_pos ⟨h3, HKK.out⟩
            rw [hv]
            exact ⟨_, rfl, Kd.R_set HA.out BR.out (by intro q hq; simp [Kd.int, Kd.scalar] at hq; omega) 0 _, below_set HB.out GR.out⟩
          | false =>
            have HCK2 : Aside0 (tallymanref10_Check.f acc = some 2) := ⟨by rw [HCK.out, hck]; rfl⟩
            have HKK := Aside0.mk hck
            clear hck
            go_wp2_with (first
              | (go_at_call 44; refine (HCE.out _ HO.out).mono ?_; rintro e w5 ⟨rfl, ho, hk⟩; have hR2 := hk.blk BR.out (Ne.symm (HO.out.ne BR.out (by decide))); have hT2 := hk.blk BT.out (Ne.symm (HO.out.ne BT.out (by decide))); have hA2 : Kd.R (Kd.int .i64) 3 w5 w.heap.size (fun _ => True) (.slice A1 acc.length c1) acc := (by obtain ⟨cs, hcs⟩ := HO.out.blk; exact R_only HA.out hcs (by intro q hq; simp [Kd.int, Kd.scalar] at hq; omega) hk); have hB2 := hk.below HB.out HO.out.ge; clear HB BR BT HO HA; have HB := Aside0.mk hB2; have BR := Aside0.mk hR2; have BT := Aside0.mk hT2; have HA := Aside0.mk hA2; have hcz : w5.cell? ⟨gt, 0, none⟩ = some (.slice A1 acc.length c1) := (blk_cell hT2 0).trans rfl; have hcx : w5.cell? ⟨gr, 0, none⟩ = some (.slice none 0 0) := (blk_cell hR2 0).trans rfl; have hfx := blk_frozen hR2 0; clear hB2 hR2 hT2 ho hk hA2)
              | (go_at_call 29; refine (tallymanref10_Check.calls _ _ acc 2 _ ?k1 ?k2 HCK2.out).mono ?_; (case k1 => exact (Kd.R_reads' HA.out).2.2); (case k2 => exact (Kd.R_reads' HA.out).2.1); rintro e w6 ⟨rfl, hb⟩; have hR2 := blk_below BR.out hb; have hB2 := below_step HB.out hb; clear HB BR; have HB := Aside0.mk hB2; have BR := Aside0.mk hR2; have hcy : w6.cell? ⟨gr, 0, none⟩ = some (.slice none 0 0) := (blk_cell hR2 0).trans rfl; have hfy := blk_frozen hR2 0; clear hB2 hR2 hb))
            repeat (go_quiet (fail); try go_wp2)
            refine bodyPost_ret (results_ct rfl _ _ gr 24 #[.slice none 0 0] (0, 0) _ rfl (by refine blk_put (cs := #[.slice none 0 0]) BR.out 0 _ rfl) Try.underlying24 rfl (by kernel_rfl)) rfl ?_
            have hv : readT l0 = ([], 4) := by
              unfold readT
              rw [HN.out]
              simp only [Int.toNat_natCast]
              by_cases he1 : e1 = 0
              · rw [if_pos he1, HG.out]
                exact if_neg (fun h => by have h2 := h.2; rw [HKK.out] at h2; cases h2)
              · rw [if_neg he1]
            rw [hv]
            exact ⟨_, rfl, Kd.R_nil _ _ _ _ _, below_set HB.out GR.out⟩
        · have t1 : (ee == 0) = false := by simpa using h2
          have t2 : (ee != 0) = true := by simpa using h2
          have HE2 := Aside0.mk h2
          clear h2
          go_wp2_with (first
            | (go_at_call 44; refine (HCE.out _ HO.out).mono ?_; rintro e w5 ⟨rfl, ho, hk⟩; have hR2 := hk.blk BR.out (Ne.symm (HO.out.ne BR.out (by decide))); have hT2 := hk.blk BT.out (Ne.symm (HO.out.ne BT.out (by decide))); have hA2 : Kd.R (Kd.int .i64) 3 w5 w.heap.size (fun _ => True) (.slice A1 acc.length c1) acc := (by obtain ⟨cs, hcs⟩ := HO.out.blk; exact R_only HA.out hcs (by intro q hq; simp [Kd.int, Kd.scalar] at hq; omega) hk); have hB2 := hk.below HB.out HO.out.ge; clear HB BR BT HO HA; have HB := Aside0.mk hB2; have BR := Aside0.mk hR2; have BT := Aside0.mk hT2; have HA := Aside0.mk hA2; have hcz : w5.cell? ⟨gt, 0, none⟩ = some (.slice A1 acc.length c1) := (blk_cell hT2 0).trans rfl; have hcx : w5.cell? ⟨gr, 0, none⟩ = some (.slice none 0 0) := (blk_cell hR2 0).trans rfl; have hfx := blk_frozen hR2 0; clear hB2 hR2 hT2 ho hk hA2))
          repeat (go_quiet (fail); try go_wp2)
          refine bodyPost_ret (results_ct rfl _ _ gr 24 #[.slice none 0 0] (0, 0) _ rfl (by refine blk_put (cs := #[.slice none 0 0]) BR.out 0 _ rfl) Try.underlying24 rfl (by kernel_rfl)) rfl ?_
          have hv : readT l0 = ([], 4) := by
            unfold readT
            rw [HN.out]
            simp only [Int.toNat_natCast]
            by_cases he1 : e1 = 0
            · rw [if_pos he1, HG.out]
              exact if_neg (fun h => HE2.out (by rw [← HEE.out]; exact h.1))
            · rw [if_neg he1]
          rw [hv]
          exact ⟨_, rfl, Kd.R_nil _ _ _ _ _, below_set HB.out GR.out⟩
      · have HER := Aside0.mk her
        clear her
        obtain ⟨A1, c1, ev⟩ := Kd.R_slice HA.out
        subst ev
        have hee : rdEnd rest err = err := by unfold rdEnd; exact if_neg (fun h => HER.out h.1)
        have HCE : Aside0 (∀ w1, RRd w.heap.size w1 g rest err → Calls Try.prog 44 #[.pointer (some ⟨g, 0, none⟩)] w1 fun e w' => e = .returned (.int .i64 err) ∧ RRd w.heap.size w' g rest err ∧ OnlyAt w1 w' g) := ⟨fun w1 h => by have := ref_End_any w.heap.size g rest err w1 h; rw [hee] at this; exact this⟩
        have t2 : (err != 0) = true := by simpa using HER.out
        clear hee
        go_wp2_with (first
          | (go_at_call 44; refine (HCE.out _ HO.out).mono ?_; rintro e w5 ⟨rfl, ho, hk⟩; have hR2 := hk.blk BR.out (Ne.symm (HO.out.ne BR.out (by decide))); have hT2 := hk.blk BT.out (Ne.symm (HO.out.ne BT.out (by decide))); have hB2 := hk.below HB.out HO.out.ge; clear HB BR BT HO; have HB := Aside0.mk hB2; have BR := Aside0.mk hR2; have BT := Aside0.mk hT2; have hcz : w5.cell? ⟨gt, 0, none⟩ = some (.slice A1 acc.length c1) := (blk_cell hT2 0).trans rfl; have hcx : w5.cell? ⟨gr, 0, none⟩ = some (.slice none 0 0) := (blk_cell hR2 0).trans rfl; have hfx := blk_frozen hR2 0; clear hB2 hR2 hT2 ho hk))
        repeat (go_quiet (fail); try go_wp2)
        refine bodyPost_ret (results_ct rfl _ _ gr 24 #[.slice none 0 0] (0, 0) _ rfl (by refine blk_put (cs := #[.slice none 0 0]) BR.out 0 _ rfl) Try.underlying24 rfl (by kernel_rfl)) rfl ?_
        rw [readT_bad l0 N r1 e1 HN.out (HI.out.2.2.2 HER.out)]
        exact ⟨_, rfl, Kd.R_nil _ _ _ _ _, below_set HB.out GR.out⟩

theorem tallymanref10_Read.calls (A0 : Option Addr) (c0 : Nat) (l0 : List Int) (r1 : List Int) (r2 : Int) (w : World) (hr0 : Kd.C (Kd.int .u8) w A0 l0.length l0) (hc0 : l0.length ≤ c0) (h : tallymanref10_Read.f l0 = some (r1, r2)) :
    Calls Try.prog 28 #[.slice A0 l0.length c0] w fun e w' => ∃ v0_ : Value, e = .returned (.tuple #[.agg #[v0_], .int .i64 r2]) ∧ Kd.R (Kd.int .i64) 3 w' w.heap.size (fun _ => True) v0_ r1 ∧ Below w.heap.size w w' := by
  unfold tallymanref10_Read.f table_Read.f at h
  split at h
  case isFalse => cases h
  case isTrue hb =>
  have h := Option.some.inj h
  have e1 : r1 = (readT l0).1 := by rw [h]
  have e2 : r2 = (readT l0).2 := by rw [h]
  rw [e1, e2]
  exact refRead_walk A0 c0 l0 w hr0 hc0 hb.1 hb.2

end Go.Proofs.Ytefnndodcpimiaa.H
