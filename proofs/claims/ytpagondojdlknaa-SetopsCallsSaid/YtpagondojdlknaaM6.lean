/- Contracts of Go functions, walked by hand: each call comes to the Lean function beside it and leaves what was there before. -/
import Derived.Test.YtpagondojdlknaaProg
import Derived.Below
import Derived.Deep.Draws
import Derived.Deep.AppendLies
import Derived.Maps.AppendAt
import Derived.OwnWalk
import Derived.Laws.BytesArg
import Derived.Laws.MakeOwn
import Derived.Laws.OwnMore
import Derived.Deep.OwnRows
import Derived.Tactics
import Derived.Lib.ConvBytes
import Derived.Laws.Slices
import Derived.WalkKit
import Derived.KernelRfl
import Derived.RowKit3
import Derived.Deep.LoopGhost
import Derived.Deep.QuietTactic
import Derived.BigQuiet
import Derived.WideLaws
import Derived.Deep.DeepCutAuto
import Derived.Deep.CutBlock
import Derived.Deep.RegionHeld3
import Derived.Laws.Rows
import Derived.Lib.AppendStr
import Derived.ArgAppend
import Derived.Laws.IdiomCopy
import Derived.OrdersHeld
import Derived.Laws.BitsLemmas
import Derived.RowKit
import Derived.WalkSpells
import Derived.WalkLawsBesides
import Derived.Laws.Bits64b
import Derived.Laws.BitsAllLaws
import Derived.Maps.OwnSet
import Derived.Test.YtpagondojdlknaaVU
import Derived.Test.YtpagondojdlknaaM5
namespace Go.Proofs.Ytpagondojdlknaa.H
open Go.RowKit Go.Proofs.YtpagondojdlknaaW.PrintWords Go.Proofs.YtpagondojdlknaaW.PrintLast Go.Proofs.YtpagondojdlknaaW.PrintMore
attribute [local go_sem] max2_int min2_int max_two min_two max_three min_three max_four min_four
set_option linter.unusedVariables false
set_option linter.unusedSimpArgs false

/-! ### setops.Like -/
def cw (n : Nat) : Int := wrap64 (n : Int)
theorem cw_zero : cw 0 = 0 := by unfold cw wrap64; rfl
theorem cw_succ (n : Nat) : wrap64 (cw n + 1) = cw (n + 1) := by unfold cw wrap64; omega
theorem cw_small {n : Nat} (h : n ≤ 1000000) : cw n = (n : Int) := by unfold cw wrap64; omega
theorem KB.setS {S0 : Nat → Prop} {w W : World} (h : KB S0 w W) {b i : Nat} (hb : S0 b ∨ w.heap.size ≤ b) (u : Value) : KB S0 w (W.setCell ⟨b, i, none⟩ u) :=
  ⟨h.os, h.tape, h.output, by simp [World.setCell]; exact h.size, fun k hk hs => (Below.heap_setCell W ⟨b, i, none⟩ u k (by show k ≠ b; rintro rfl; rcases hb with hb | hb; exact hs hb; omega)).trans (h.block k hk hs)⟩
def SLike (gl gn : Nat) : Nat → Prop := fun k => k = gl ∨ k = gn
set_option maxHeartbeats 1000000 in
theorem like1_any (gl gn : Nat) (hne : gl ≠ gn) (n m : Nat) (a b : Bool) (w : World) (hl : w.heap[gl]? = some (.cells #[.int .i64 (cw n)] 3 (0, 0))) (hn : w.heap[gn]? = some (.cells #[.int .i64 (cw m)] 3 (0, 0))) :
    Calls Try.prog 76 #[.agg #[.bool a, .bool b], .pointer (some ⟨gl, 0, none⟩), .pointer (some ⟨gn, 0, none⟩)] w fun e w' => e = .returned (.bool false) ∧ w'.heap[gl]? = some (.cells #[.int .i64 (cw (n + 1))] 3 (0, 0)) ∧ w'.heap[gn]? = some (.cells #[.int .i64 (cw (if (a && b) = true then m + 1 else m))] 3 (0, 0)) ∧ KB (SLike gl gn) w w' := by
  have HL := Aside0.mk hl
  have HN := Aside0.mk hn
  have HNE := Aside0.mk hne
  have HKB := Aside0.mk (KB.refl (SLike gl gn) w)
  have q1 : wrap64 (cw n + 1) = cw (n + 1) := cw_succ n
  have q2 : IntKind.i64.wrap (cw n + 1) = cw (n + 1) := (i64_w _).trans q1
  have r1 : wrap64 (cw m + 1) = cw (m + 1) := cw_succ m
  have r2 : IntKind.i64.wrap (cw m + 1) = cw (m + 1) := (i64_w _).trans r1
  clear hl hn hne
  have HX : ∀ W : World, W.heap[gl]? = some (.cells #[.int .i64 (cw (n + 1))] 3 (0, 0)) → True := fun _ _ => trivial
  clear HX
  cases hab : (a && b) with
  | false =>
    have HBC : Aside0 (∀ W : World, Calls Try.prog 68 #[.agg #[.bool a, .bool b]] W fun e W' => e = .returned (.bool false) ∧ Below W.heap.size W W') := ⟨fun W => by have := in_both_any a b W; rw [hab] at this; exact this⟩
    clear hab
    go_enter Try.func76, Try.ntmps76
    go_upto_region 2 with (first | ((with_reducible refine gate_dst (N := 3) rfl ?_); refine box_event ?hg (N := 3) ?hd (cs := #[.bool a, .bool b]) (t := 73) ?hr ?_; (case hd => rfl); (case hg => rfl); (case hr => first | (go_simp; done) | (go_simp; rfl)); intro gx hg w1 hbox hb; have BX := Aside0.mk hbox; have z1 := blk_below HL.out hb; have z2 := blk_below HN.out hb; have z3 := HKB.out.below hb; clear HL HN HKB; have HL := Aside0.mk z1; have HN := Aside0.mk z2; have HKB := Aside0.mk z3; clear z1 z2 z3 hb hbox hg; have hc1 := blk_cell HL.out 0; have hf1 := blk_frozen HL.out 0))
    obtain ⟨w2, hw2⟩ : ∃ wz, wz = (w1.setCell ⟨gl, 0, none⟩ (.int .i64 (cw (n + 1)))) := ⟨_, rfl⟩
    have HL2 : Aside0 (w2.heap[gl]? = some (.cells #[.int .i64 (cw (n + 1))] 3 (0, 0))) := ⟨by rw [hw2]; exact blk_put HL.out 0 _ rfl⟩
    have HN2 : Aside0 (w2.heap[gn]? = some (.cells #[.int .i64 (cw m)] 3 (0, 0))) := ⟨by rw [hw2]; exact blk_far HN.out (Ne.symm HNE.out) _⟩
    have hx2 : w2.heap[gx]? = some (.cells #[.bool a, .bool b] 73 (0, 0)) := by rw [hw2]; exact blk_far BX.out (blk_ne BX.out HL.out (by decide)) _
    have HKB2 : Aside0 (KB (SLike gl gn) w w2) := ⟨by rw [hw2]; exact HKB.out.setS (.inl (.inl rfl)) _⟩
    rw [← hw2]
    have hcx0 := blk_cell hx2 0
    have hcx1 := blk_cell hx2 1
    clear hw2 HL HN HKB BX hc1 hf1 hx2
    go_wp2_with (go_at_call 68; refine (HBC.out _).mono ?_; rintro e w3 ⟨rfl, hb⟩; have z1 := blk_below HL2.out hb; have z2 := blk_below HN2.out hb; have z3 := HKB2.out.below hb; clear HL2 HN2 HKB2 hcx0 hcx1; have HL2 := Aside0.mk z1; have HN2 := Aside0.mk z2; have HKB2 := Aside0.mk z3; clear z1 z2 z3 hb)
    go_ret
    exact ⟨rfl, HL2.out, HN2.out, HKB2.out⟩
  | true =>
    have HBC : Aside0 (∀ W : World, Calls Try.prog 68 #[.agg #[.bool a, .bool b]] W fun e W' => e = .returned (.bool true) ∧ Below W.heap.size W W') := ⟨fun W => by have := in_both_any a b W; rw [hab] at this; exact this⟩
    clear hab
    go_enter Try.func76, Try.ntmps76
    go_upto_region 2 with (first | ((with_reducible refine gate_dst (N := 3) rfl ?_); refine box_event ?hg (N := 3) ?hd (cs := #[.bool a, .bool b]) (t := 73) ?hr ?_; (case hd => rfl); (case hg => rfl); (case hr => first | (go_simp; done) | (go_simp; rfl)); intro gx hg w1 hbox hb; have BX := Aside0.mk hbox; have z1 := blk_below HL.out hb; have z2 := blk_below HN.out hb; have z3 := HKB.out.below hb; clear HL HN HKB; have HL := Aside0.mk z1; have HN := Aside0.mk z2; have HKB := Aside0.mk z3; clear z1 z2 z3 hb hbox hg; have hc1 := blk_cell HL.out 0; have hf1 := blk_frozen HL.out 0))
    obtain ⟨w2, hw2⟩ : ∃ wz, wz = (w1.setCell ⟨gl, 0, none⟩ (.int .i64 (cw (n + 1)))) := ⟨_, rfl⟩
    have HL2 : Aside0 (w2.heap[gl]? = some (.cells #[.int .i64 (cw (n + 1))] 3 (0, 0))) := ⟨by rw [hw2]; exact blk_put HL.out 0 _ rfl⟩
    have HN2 : Aside0 (w2.heap[gn]? = some (.cells #[.int .i64 (cw m)] 3 (0, 0))) := ⟨by rw [hw2]; exact blk_far HN.out (Ne.symm HNE.out) _⟩
    have hx2 : w2.heap[gx]? = some (.cells #[.bool a, .bool b] 73 (0, 0)) := by rw [hw2]; exact blk_far BX.out (blk_ne BX.out HL.out (by decide)) _
    have HKB2 : Aside0 (KB (SLike gl gn) w w2) := ⟨by rw [hw2]; exact HKB.out.setS (.inl (.inl rfl)) _⟩
    rw [← hw2]
    have hcx0 := blk_cell hx2 0
    have hcx1 := blk_cell hx2 1
    clear hw2 HL HN HKB BX hc1 hf1 hx2
    go_wp2_with (go_at_call 68; refine (HBC.out _).mono ?_; rintro e w3 ⟨rfl, hb⟩; have z1 := blk_below HL2.out hb; have z2 := blk_below HN2.out hb; have z3 := HKB2.out.below hb; clear HL2 HN2 HKB2 hcx0 hcx1; have HL2 := Aside0.mk z1; have HN2 := Aside0.mk z2; have HKB2 := Aside0.mk z3; clear z1 z2 z3 hb; have hn0 := blk_cell HN2.out 0; have hnf := blk_frozen HN2.out 0)
    go_ret
    exact ⟨rfl, blk_far HL2.out HNE.out _, blk_put HN2.out 0 _ rfl, HKB2.out.setS (.inl (.inr rfl)) _⟩
def likeS (la : Int) (a : List Int) (lb : Int) (b : List Int) : Int × Int :=
  if (madeS (fun _ => false) la a lb b).2 = 0 then (if (madeP la a lb b).length = 0 then (65536, 0) else (65536 * (((madeP la a lb b).filter pBoth).length : Int) / ((madeP la a lb b).length : Int), 0)) else (0, (madeS (fun _ => false) la a lb b).2)
def likeF (la : Int) (a : List Int) (lb : Int) (b : List Int) : Int × Int :=
  if (madeF (fun _ => false) la a lb b).2 = 0 then (if (madePF la a lb b).length = 0 then (65536, 0) else (65536 * (((madePF la a lb b).filter pBoth).length : Int) / ((madePF la a lb b).length : Int), 0)) else (0, (madeF (fun _ => false) la a lb b).2)
theorem likeF_eq (la : Int) (a : List Int) (lb : Int) (b : List Int) : likeF la a lb b = likeS la a lb b := by unfold likeF likeS; rw [madeF_eq, madePF_eq]
def setops_Like.f (a0_0 : Int) (l0_1 : List Int) (a1_0 : Int) (l1_1 : List Int) : Option (Int × Int) := some (likeF a0_0 l0_1 a1_0 l1_1)
theorem madeP_len (la : Int) (a : List Int) (lb : Int) (b : List Int) : (madeP la a lb b).length ≤ 16384 := by
  unfold madeP
  split
  · rename_i h
    have h1 := (vchk_inc h.1).2
    have h2 := (vchk_inc h.2).2
    have h3 := pairsS_len (belowS a (limS la lb)) (belowS b (limS la lb))
    have h4 : ∀ (l : List Int) (x : Int), (belowS l x).length ≤ l.length := fun l x => by
      unfold belowS
      split
      · exact Nat.le_refl _
      · rw [List.length_take]; omega
    have := h4 a (limS la lb)
    have := h4 b (limS la lb)
    omega
  · simp
set_option maxHeartbeats 1000000 in
set_option maxRecDepth 100000 in
theorem setops_Like.calls (a0_0 : Int) (A0_1 : Option Addr) (c0_1 : Nat) (l0_1 : List Int) (a1_0 : Int) (A1_1 : Option Addr) (c1_1 : Nat) (l1_1 : List Int) (r1 : Int) (r2 : Int) (w : World) (hr0_1 : Kd.C (Kd.int .u64) w A0_1 l0_1.length l0_1) (hc0_1 : l0_1.length ≤ c0_1) (hr1_1 : Kd.C (Kd.int .u64) w A1_1 l1_1.length l1_1) (hc1_1 : l1_1.length ≤ c1_1) (h : setops_Like.f a0_0 l0_1 a1_0 l1_1 = some (r1, r2)) :
    Calls Try.prog 27 #[.agg #[.int .u64 a0_0, .slice A0_1 l0_1.length c0_1], .agg #[.int .u64 a1_0, .slice A1_1 l1_1.length c1_1]] w fun e w' => e = .returned (.tuple #[.int .i64 r1, .int .i64 r2]) ∧ Below w.heap.size w w' := by
  have h := Option.some.inj h
  rw [likeF_eq] at h
  have HV := Aside0.mk h
  have HR0 := Aside0.mk hr0_1
  have HC0 := Aside0.mk hc0_1
  have HR1 := Aside0.mk hr1_1
  have HC1 := Aside0.mk hc1_1
  have HB := Aside0.mk (Below.refl w.heap.size w)
  obtain ⟨m, hm⟩ : ∃ m, (madeS (fun _ => false) a0_0 l0_1 a1_0 l1_1) = m := ⟨_, rfl⟩
  obtain ⟨P, hP⟩ : ∃ P, madeP a0_0 l0_1 a1_0 l1_1 = P := ⟨_, rfl⟩
  have HM := Aside0.mk hm
  have HP := Aside0.mk hP
  have HPL : Aside0 (P.length ≤ 16384 ∧ (P.filter pBoth).length ≤ P.length) := ⟨by rw [← hP]; exact ⟨madeP_len _ _ _ _, List.length_filter_le _ _⟩⟩
  clear hm hP h hr0_1 hc0_1 hr1_1 hc1_1
  have HMD : Aside0 (∀ (W : World) (gl gn : Nat), Below w.heap.size w W → gl ≠ gn → w.heap.size ≤ gl → w.heap.size ≤ gn → W.heap[gl]? = some (.cells #[.int .i64 0] 3 (0, 0)) → W.heap[gn]? = some (.cells #[.int .i64 0] 3 (0, 0)) →
      Calls Try.prog 66 #[.agg #[.int .u64 a0_0, .slice A0_1 l0_1.length c0_1], .agg #[.int .u64 a1_0, .slice A1_1 l1_1.length c1_1], .func (.func 76) #[] #[.pointer (some ⟨gl, 0, none⟩), .pointer (some ⟨gn, 0, none⟩)]] W fun e W' => ∃ A c, e = .returned (.tuple #[.agg #[.int .u64 m.1.1, .slice A m.1.2.length c], .int .i64 m.2]) ∧ Below w.heap.size w W' ∧ W'.heap[gl]? = some (.cells #[.int .i64 (P.length : Int)] 3 (0, 0)) ∧ W'.heap[gn]? = some (.cells #[.int .i64 ((P.filter pBoth).length : Int)] 3 (0, 0))) := ⟨fun W gl gn hW hne hgl hgn bl bn => by
    have hnS : ∀ (A : Option Addr) (l : List Int), Kd.C (Kd.int .u64) w A l.length l → ∀ ad, A = some ad → 0 < l.length → ¬ SLike gl gn ad.block := fun A l hc ad e hp hs => by
      subst e
      have := Kd.C_lt hc hp (by decide)
      rcases hs with hs | hs <;> omega
    refine (made_any 76 #[.pointer (some ⟨gl, 0, none⟩), .pointer (some ⟨gn, 0, none⟩)] (enters_ Try.func76 (by kernel_rfl) rfl) (SLike gl gn) (fun _ => false)
      (fun pre W => W.heap[gl]? = some (.cells #[.int .i64 (cw pre.length)] 3 (0, 0)) ∧ W.heap[gn]? = some (.cells #[.int .i64 (cw (pre.filter pBoth).length)] 3 (0, 0)))
      a0_0 a1_0 A0_1 A1_1 c0_1 c1_1 l0_1 l1_1 W (Kd.C_below HR0.out hW) HC0.out (Kd.C_below HR1.out hW) HC1.out (fun k hk => by rcases hk with rfl | rfl; exact blk_lt bl; exact blk_lt bn)
      (hnS _ _ HR0.out) (hnS _ _ HR1.out) (fun s W W' hs hk => ⟨(hk gl (.inl rfl)).trans hs.1, (hk gn (.inr rfl)).trans hs.2⟩)
      (fun pre z W' hs => (like1_any gl gn hne pre.length (pre.filter pBoth).length z.2.1 z.2.2 W' hs.1 hs.2).mono (fun e W2 he => ⟨he.1, ⟨by rw [List.length_append]; exact he.2.1, by
        have e1 : ((pre ++ [z]).filter pBoth).length = if (z.2.1 && z.2.2) = true then (pre.filter pBoth).length + 1 else (pre.filter pBoth).length := by
          rw [List.filter_append, List.length_append]
          by_cases hz : (z.2.1 && z.2.2) = true
          · rw [if_pos hz]; simp [pBoth, hz]
          · rw [if_neg hz]; simp [pBoth, hz]
        rw [e1]
        exact he.2.2.1⟩, he.2.2.2⟩)) ⟨by rw [List.length_nil, cw_zero]; exact bl, by rw [List.filter_nil, List.length_nil, cw_zero]; exact bn⟩).mono (fun e W' he => ?_)
    obtain ⟨v, h1, h2, h3, h4, h5⟩ := he
    rw [HM.out] at h1 h2
    rw [HP.out, cw_small (by have := HPL.out; omega)] at h4
    rw [HP.out, cw_small (by have := HPL.out; omega)] at h5
    obtain ⟨A, c, ev⟩ := Kd.R_slice h2
    subst ev
    refine ⟨A, c, h1, ⟨h3.os.trans hW.os, h3.tape.trans hW.tape, h3.output.trans hW.output, Nat.le_trans hW.size h3.size, fun k hk => (h3.block k (Nat.lt_of_lt_of_le hk hW.size) (fun hs => by rcases hs with hs | hs <;> omega)).trans (hW.block k hk)⟩, h4, h5⟩⟩
  have hu25 := Try.underlying25
  go_enter Try.func27, Try.ntmps27
  go_upto_region 2 with (first
    | ((with_reducible refine gate_dst (N := 2) rfl ?_); refine box_event ?hg (N := 2) ?hd (cs := #[.int .u64 a0_0, .slice A0_1 l0_1.length c0_1]) (t := 25) ?hr ?_; (case hd => rfl); (case hg => rfl); (case hr => first | (go_simp; done) | (go_simp; rfl)); intro ga hg w2 hbox hb; have GA := Aside0.mk (by have := HB.out.size; omega : w.heap.size ≤ ga); have NNBA := Aside0.mk (Nat.le_of_eq hg.symm); have hB2 := below_step HB.out hb; clear HB ; have HB := Aside0.mk hB2; clear hB2 ; have BA := Aside0.mk hbox; clear hbox hb hg)
    | ((with_reducible refine gate_dst (N := 3) rfl ?_); refine box_event ?hg (N := 3) ?hd (cs := #[.int .u64 a1_0, .slice A1_1 l1_1.length c1_1]) (t := 25) ?hr ?_; (case hd => rfl); (case hg => rfl); (case hr => first | (go_simp; done) | (go_simp; rfl)); intro gb hg w3 hbox hb; have GB := Aside0.mk (by have := HB.out.size; omega : w.heap.size ≤ gb); have NNBB := Aside0.mk (Nat.le_of_eq hg.symm); have hB2 := below_step HB.out hb; have z_BA := blk_below BA.out hb; clear HB BA; have HB := Aside0.mk hB2; have BA := Aside0.mk z_BA; clear hB2 z_BA; have BB := Aside0.mk hbox; clear hbox hb hg)
    | (((with_reducible refine gate_dst (N := 6) rfl ?_); refine box_event ?hg (N := 6) ?hd (cs := #[.int .i64 0]) (t := 3) ?hr ?_; (case hd => rfl); (case hg => rfl); (case hr => first | (go_simp; done) | (go_simp; rfl)); intro gn hg w6 hbox hb; have GK := Aside0.mk (by have := HB.out.size; omega : w.heap.size ≤ gn); have NNBK := Aside0.mk (Nat.le_of_eq hg.symm); have hB2 := below_step HB.out hb; have z_BA := blk_below BA.out hb; have z_BB := blk_below BB.out hb; clear HB BA BB; have HB := Aside0.mk hB2; have BA := Aside0.mk z_BA; have BB := Aside0.mk z_BB; clear hB2 z_BA z_BB; have BK := Aside0.mk hbox; clear hbox hb hg); have NKW := Aside0.mk (blk_lt BK.out))
    | (((with_reducible refine gate_dst (N := 7) rfl ?_); refine box_event ?hg (N := 7) ?hd (cs := #[.int .i64 0]) (t := 3) ?hr ?_; (case hd => rfl); (case hg => rfl); (case hr => first | (go_simp; done) | (go_simp; rfl)); intro gl hg w7 hbox hb; have GO := Aside0.mk (by have := HB.out.size; omega : w.heap.size ≤ gl); have NNBO := Aside0.mk (Nat.le_of_eq hg.symm); have hB2 := below_step HB.out hb; have z_BA := blk_below BA.out hb; have z_BB := blk_below BB.out hb; have z_BK := blk_below BK.out hb; clear HB BA BB BK; have HB := Aside0.mk hB2; have BA := Aside0.mk z_BA; have BB := Aside0.mk z_BB; have BK := Aside0.mk z_BK; clear hB2 z_BA z_BB z_BK; have BO := Aside0.mk hbox; clear hbox hb hg); have hn0 := blk_cell BK.out 0; have hnf := blk_frozen BK.out 0)
    | ((with_reducible refine gate_store (t := 3) (p := 6) rfl ?_); refine store_event (t := 3) (p := 6) (v := ?vo) (w1 := (w7.setCell ⟨gn, 0, none⟩ (.int .i64 0))) ?hg ?ho ?hn ?hr ?_; (case ho => rfl); (case hg => rfl); (case hn => rfl); (case hr => first | (go_simp; done) | (go_simp; rfl)); intro w8 hw; have hne : gl ≠ gn := (by have := NKW.out; have := NNBO.out; omega); have NLN := Aside0.mk hne; have z1 : w8.heap[ga]? = some (.cells #[.int .u64 a0_0, .slice A0_1 l0_1.length c0_1] 25 (0, 0)) := (by rw [hw]; exact blk_far BA.out (blk_ne BA.out BK.out (by decide)) _); have z2 : w8.heap[gb]? = some (.cells #[.int .u64 a1_0, .slice A1_1 l1_1.length c1_1] 25 (0, 0)) := (by rw [hw]; exact blk_far BB.out (blk_ne BB.out BK.out (by decide)) _); have z3 : w8.heap[gn]? = some (.cells #[.int .i64 0] 3 (0, 0)) := (by rw [hw]; exact blk_put BK.out 0 _ rfl); have z4 : w8.heap[gl]? = some (.cells #[.int .i64 0] 3 (0, 0)) := (by rw [hw]; exact blk_far BO.out hne _); have z5 : Below w.heap.size w w8 := (by rw [hw]; exact below_set HB.out GK.out); clear hw hn0 hnf BA BB BK BO HB hne; have BA := Aside0.mk z1; have BB := Aside0.mk z2; have BK := Aside0.mk z3; have BO := Aside0.mk z4; have HB := Aside0.mk z5; clear z1 z2 z3 z4 z5; have hl0 := blk_cell BO.out 0; have hlf := blk_frozen BO.out 0)
    | ((with_reducible refine gate_store (t := 3) (p := 7) rfl ?_); refine store_event (t := 3) (p := 7) (v := ?vo) (w1 := (w8.setCell ⟨gl, 0, none⟩ (.int .i64 0))) ?hg ?ho ?hn ?hr ?_; (case ho => rfl); (case hg => rfl); (case hn => rfl); (case hr => first | (go_simp; done) | (go_simp; rfl)); intro w9 hw; have z1 : w9.heap[ga]? = some (.cells #[.int .u64 a0_0, .slice A0_1 l0_1.length c0_1] 25 (0, 0)) := (by rw [hw]; exact blk_far BA.out (blk_ne BA.out BO.out (by decide)) _); have z2 : w9.heap[gb]? = some (.cells #[.int .u64 a1_0, .slice A1_1 l1_1.length c1_1] 25 (0, 0)) := (by rw [hw]; exact blk_far BB.out (blk_ne BB.out BO.out (by decide)) _); have z3 : w9.heap[gn]? = some (.cells #[.int .i64 0] 3 (0, 0)) := (by rw [hw]; exact blk_far BK.out (Ne.symm NLN.out) _); have z4 : w9.heap[gl]? = some (.cells #[.int .i64 0] 3 (0, 0)) := (by rw [hw]; exact blk_put BO.out 0 _ rfl); have z5 : Below w.heap.size w w9 := (by rw [hw]; exact below_set HB.out GO.out); clear hw hl0 hlf BA BB BK BO HB; have BA := Aside0.mk z1; have BB := Aside0.mk z2; have BK := Aside0.mk z3; have BO := Aside0.mk z4; have HB := Aside0.mk z5; clear z1 z2 z3 z4 z5))
  have hca0 := blk_cell BA.out 0
  have hca1 := blk_cell BA.out 1
  have hcb0 := blk_cell BB.out 0
  have hcb1 := blk_cell BB.out 1
  clear NKW NNBA NNBB NNBK NNBO
  go_upto_region 3 with (first
    | (go_at_call 66; refine (HMD.out _ gl gn HB.out NLN.out GO.out GK.out BO.out BK.out).mono ?_; clear HMD; rintro e w10 ⟨A, c, rfl, hb, hl, hn⟩; clear HB BA BB BK BO hca0 hca1 hcb0 hcb1; have HB := Aside0.mk hb; have BK := Aside0.mk hn; have BO := Aside0.mk hl; clear hb hn hl)
    | (((with_reducible refine gate_dst (N := 8) rfl ?_); refine box_event ?hg (N := 8) ?hd (cs := #[.int .u64 0, .slice none 0 0]) (t := 25) ?hr ?_; (case hd => rfl); (case hg => rfl); (case hr => first | (go_simp; done) | (go_simp; rfl)); intro gr hg w8 hbox hb; have GR := Aside0.mk (by have := HB.out.size; omega : w.heap.size ≤ gr); have NNBR := Aside0.mk (Nat.le_of_eq hg.symm); have hB2 := below_step HB.out hb; have z_BK := blk_below BK.out hb; have z_BO := blk_below BO.out hb; clear HB BK BO; have HB := Aside0.mk hB2; have BK := Aside0.mk z_BK; have BO := Aside0.mk z_BO; clear hB2 z_BK z_BO; have BR := Aside0.mk hbox; clear hbox hb hg); have hr0 := blk_cell BR.out 0; have hr1 := blk_cell BR.out 1; have hf0 := blk_frozen BR.out 0; have hf1 := blk_frozen BR.out 1))
  obtain ⟨w11, hw⟩ : ∃ wz, wz = ((w8.setCell ⟨gr, 0, none⟩ (.int .u64 m.1.1)).setCell ⟨gr, 1, none⟩ (.slice A m.1.2.length c)) := ⟨_, rfl⟩
  have z1 : w11.heap[gn]? = some (.cells #[.int .i64 ((P.filter pBoth).length : Int)] 3 (0, 0)) := by rw [hw]; exact blk_far (blk_far BK.out (blk_ne BK.out BR.out (by decide)) _) (blk_ne BK.out BR.out (by decide)) _
  have z2 : w11.heap[gl]? = some (.cells #[.int .i64 (P.length : Int)] 3 (0, 0)) := by rw [hw]; exact blk_far (blk_far BO.out (blk_ne BO.out BR.out (by decide)) _) (blk_ne BO.out BR.out (by decide)) _
  have z3 : Below w.heap.size w w11 := by rw [hw]; exact below_set (below_set HB.out GR.out) GR.out
  rw [← hw]
  have HB11 := Aside0.mk z3
  have hn0 := blk_cell z1 0
  have hl0 := blk_cell z2 0
  clear hw HB BK BO BR hr0 hr1 hf0 hf1 z1 z2 z3
  by_cases h1 : m.2 = 0
  · have t1 : (m.2 != 0) = false := by simpa using h1
    have HZ1 := Aside0.mk h1
    clear h1
    by_cases h2 : P.length = 0
    · have HZ2 := Aside0.mk h2
      have t2 : ((P.length : Int) == 0) = true := by simpa using h2
      have hv : likeS a0_0 l0_1 a1_0 l1_1 = (65536, 0) := by unfold likeS; rw [HM.out, HP.out, if_pos HZ1.out, if_pos HZ2.out]
      rw [HV.out] at hv
      injection hv with hv1 hv2
      subst hv1
      subst hv2
      clear h2
      go_wp2
      go_ret2
      exact ⟨rfl, HB11.out⟩
    · have HZ2 := Aside0.mk h2
      have t2 : ((P.length : Int) == 0) = false := by simpa using h2
      obtain ⟨n, hn⟩ : ∃ n, (P.filter pBoth).length = n := ⟨_, rfl⟩
      obtain ⟨k, hk⟩ : ∃ k, P.length = k := ⟨_, rfl⟩
      have hv : likeS a0_0 l0_1 a1_0 l1_1 = (65536 * (n : Int) / (k : Int), 0) := by unfold likeS; rw [HM.out, HP.out, if_pos HZ1.out, if_neg HZ2.out, hn, hk]
      rw [HV.out] at hv
      injection hv with hv1 hv2
      subst hv1
      subst hv2
      rw [hn] at hn0
      rw [hk] at hl0 t2
      have hb1 : n ≤ 16384 := by have := HPL.out; omega
      have hb2 : 0 < k := by omega
      have hb3 : k ≤ 16384 := by have := HPL.out; omega
      clear h2 hn hk HPL
      go_wp2
      go_ret2
      exact ⟨rfl, HB11.out⟩
  · have t1 : (m.2 != 0) = true := by simpa using h1
    have HZ1 := Aside0.mk h1
    clear h1
    have hv : likeS a0_0 l0_1 a1_0 l1_1 = (0, m.2) := by unfold likeS; rw [HM.out, if_neg HZ1.out]
    rw [HV.out] at hv
    injection hv with hv1 hv2
    subst hv1
    subst hv2
    go_wp2
    go_ret2
    exact ⟨rfl, HB11.out⟩

end Go.Proofs.Ytpagondojdlknaa.H
