/- Contracts of Go functions, walked by hand: each call comes to the Lean function beside it and leaves what was there before. -/
import Derived.Test.YtpagondojdlknaaZ3
import Derived.Test.YtpagondojdlknaaProg
import Derived.Below
import Derived.Deep.Draws
import Derived.Deep.AppendLies
import Derived.Maps.AppendAt
import Derived.OwnWalk
import Derived.Laws.BytesArg
import Derived.Laws.MakeOwn
import Derived.Laws.OwnMore
import Derived.Deep.OwnRows
import Derived.Tactics
import Derived.Lib.ConvBytes
import Derived.Laws.Slices
import Derived.WalkKit
import Derived.KernelRfl
import Derived.RowKit3
import Derived.Deep.LoopGhost
import Derived.Deep.QuietTactic
import Derived.BigQuiet
import Derived.WideLaws
import Derived.Deep.DeepCutAuto
import Derived.Deep.CutBlock
import Derived.Deep.RegionHeld3
import Derived.Laws.Rows
import Derived.Lib.AppendStr
import Derived.ArgAppend
import Derived.Laws.IdiomCopy
import Derived.OrdersHeld
import Derived.Laws.BitsLemmas
import Derived.RowKit
import Derived.WalkSpells
import Derived.WalkLawsBesides
import Derived.Laws.Bits64b
import Derived.Laws.BitsAllLaws
import Derived.Maps.OwnSet
import Derived.Test.YtpagondojdlknaaVU
import Derived.Test.YtpagondojdlknaaM1
import Derived.Test.YtpagondojdlknaaZ
import Derived.RangeFuncNested
import Derived.RangeFuncBound
import Derived.RangeFuncCalls
import Derived.RangeFuncLeaves
import Derived.Shelf.Abstract
import Derived.Shelf.RegionOpen
import Derived.OwnWalkIn
import Derived.TacticsInMore
import Derived.LoopNIn
import Derived.LoopIn
namespace Go.Proofs.Ytpagondojdlknaa.H
open Go.RowKit Go.Proofs.YtpagondojdlknaaW.PrintWords Go.Proofs.YtpagondojdlknaaW.PrintLast Go.Proofs.YtpagondojdlknaaW.PrintMore
attribute [local go_sem] max2_int min2_int max_two min_two max_three min_three max_four min_four
set_option linter.unusedVariables false
set_option linter.unusedSimpArgs false

/-! ### setops.pairs$1: the iterator -/
abbrev P3 := Int × Bool × Bool
def enc3 (x : P3) : Array Value := #[.int .u64 x.1, .agg #[.bool x.2.1, .bool x.2.2]]
def sl1 (W : World) (g : Nat) (A : Option Addr) (n c : Nat) : Prop := W.heap[g]? = some (.cells #[.slice A n c] 23 (0, 0))
theorem sl1_ne {W : World} {g b n c t : Nat} {A : Option Addr} {cs : Array Value} (hx : W.heap[g]? = some (.cells cs t (0, 0))) (h : sl1 W b A n c) (ht : t ≠ 23) : g ≠ b := blk_ne hx h ht
/-- Ba and Bb hold what is left of two rows. -/
structure Left (xa xb : List Int) (Aa Ab : Option Addr) (Ba Bb : Nat) (W : World) (x y : List Int) : Prop where
  a : ∃ A c, sl1 W Ba A x.length c ∧ x.length ≤ c ∧ ∀ W, Kd.C (Kd.int .u64) W Aa xa.length xa → Kd.C (Kd.int .u64) W A x.length x
  b : ∃ A c, sl1 W Bb A y.length c ∧ y.length ≤ c ∧ ∀ W, Kd.C (Kd.int .u64) W Ab xb.length xb → Kd.C (Kd.int .u64) W A y.length y
set_option maxHeartbeats 2000000 in
set_option maxRecDepth 100000 in
theorem pairs1_any (l Ba Bb : Nat) (hne : Ba ≠ Bb) (Aa Ab : Option Addr) (xa xb : List Int) (J : List P3 → World → Prop)
    (hJb : ∀ s W W', J s W → Below W.heap.size W W' → J s W')
    (hJs : ∀ s W b u, (b = Ba ∨ b = Bb) → J s W → J s (W.setCell ⟨b, 0, none⟩ u))
    (hJC : ∀ s W, J s W → Kd.C (Kd.int .u64) W Aa xa.length xa ∧ Kd.C (Kd.int .u64) W Ab xb.length xb)
    (hY : ∀ pre z rest W, J pre W → pairsS xa xb = pre ++ z :: rest → ∀ x y, Left xa xb Aa Ab Ba Bb W x y → YieldAt Fence.wide 3 Try.prog l (enc3 z) W fun e W' => e = .returned (.bool true) ∧ J (pre ++ [z]) W' ∧ Left xa xb Aa Ab Ba Bb W' x y)
    (W : World) (hL : Left xa xb Aa Ab Ba Bb W xa xb) (h0 : J [] W) :
    Calls Try.prog 124 #[.func (.yield l) #[] #[], .pointer (some ⟨Ba, 0, none⟩), .pointer (some ⟨Bb, 0, none⟩)] W fun e W' => (∃ v, e = .returned v) ∧ J (pairsS xa xb) W' := by
  have HNE := Aside0.mk hne
  have HJB := Aside0.mk hJb
  have HJS := Aside0.mk hJs
  have HJC := Aside0.mk hJC
  have HY := Aside0.mk hY
  have HL := Aside0.mk hL
  have H0 := Aside0.mk h0
  clear hne hJb hJs hJC hY hL h0
  go_enter Try.func124, Try.ntmps124
  go_wp2
  go_loopg [] (xa.length + xb.length + 1) (fun kq wr => ∃ (pre : List P3) (x y : List Int), Aside0 (pairsS xa xb = pre ++ pairsS x y) ∧ Aside0 (x.length + y.length < kq) ∧ Aside0 (J pre wr) ∧ Aside0 (Left xa xb Aa Ab Ba Bb wr x y))
  case atStart => exact ⟨[], xa, xb, ⟨rfl⟩, ⟨by omega⟩, H0, HL⟩
  case round =>
    clear H0 HL
    obtain ⟨pre, x, y, HP, HN, HJ, HL⟩ := hrel
    obtain ⟨A1, c1, ha, hac, hca⟩ := HL.out.a
    obtain ⟨A2, c2, hb, hbc, hcb⟩ := HL.out.b
    have hsa := blk_cell ha 0
    have hsb := blk_cell hb 0
    cases x with
    | nil =>
      cases y with
      | nil =>
        go_wp2
        go_end0
        exact ⟨⟨_, rfl⟩, by have := HP.out; simp [pairsS] at this; rw [this]; exact HJ.out⟩
      | cons y0 y =>
        have HS0 : Aside0 (wr.drew.cell? ⟨Ba, 0, none⟩ = some (.slice A1 0 c1) ∧ wr.drew.cell? ⟨Bb, 0, none⟩ = some (.slice A2 (y.length + 1) c2)) := ⟨⟨hsa, hsb⟩⟩
        have HA0 : Aside0 (wr.drew.cell? ⟨Ba, 0, none⟩ = some (.slice A1 0 c1) ∧ wr.drew.cell? ⟨Bb, 0, none⟩ = some (.slice A2 (y.length + 1) c2) → (wr.drew.alloc (.cells #[.bool false, .bool false] 73 (0, 0))).cell? ⟨Ba, 0, none⟩ = some (.slice A1 0 c1) ∧ (wr.drew.alloc (.cells #[.bool false, .bool false] 73 (0, 0))).cell? ⟨Bb, 0, none⟩ = some (.slice A2 (y.length + 1) c2)) := ⟨fun h => ⟨pw_cell_below (below_alloc (Below.refl _ _) _) h.1, pw_cell_below (below_alloc (Below.refl _ _) _) h.2⟩⟩
        go_upto_region 1 with (fail)
        refine start_ (n := 37) (S := fun w' => w'.cell? ⟨Ba, 0, none⟩ = some (.slice A1 0 c1) ∧ w'.cell? ⟨Bb, 0, none⟩ = some (.slice A2 (y.length + 1) c2)) (ds := [36]) (tb 0 37) (by kernel_rfl) rfl rfl HS0.out (fun hHeld => ?_)
        refine tk 0 (some 14) (v := ?_) (a' := ?_) (tb 1 37) rfl rfl (by kernel_rfl) (fun _ _ _ h => h) ⟨by rfl, ?_⟩ hHeld ?_ ?_; rotate_left; · (rintro w' ⟨s0, s1⟩; go_simp; with_reducible rfl)
        rotate_left; · (simp only [Act.put, sa_, sb_, sc_, i64_w, i32_w]; rfl)
        refine pu 1 (some 15) (v := ?_) (a' := ?_) (tb 2 37) rfl rfl (by kernel_rfl) (fun _ _ _ h => h) ⟨by rfl, ?_⟩ ?_ ?_; rotate_left; · (intro w'; go_simp; with_reducible rfl)
        rotate_left; · (simp only [Act.put, sa_, sb_, sc_, i64_w, i32_w]; rfl)
        refine pu 2 (some 16) (v := ?_) (a' := ?_) (tb 3 37) rfl rfl (by kernel_rfl) (fun _ _ _ h => h) ⟨by rfl, ?_⟩ ?_ ?_; rotate_left; · (intro w'; go_simp; with_reducible rfl)
        rotate_left; · (simp only [Act.put, sa_, sb_, sc_, i64_w, i32_w]; rfl)
        refine pu 3 (some 17) (v := ?_) (a' := ?_) (tb 4 37) rfl rfl (by kernel_rfl) (fun _ _ _ h => h) ⟨by rfl, ?_⟩ ?_ ?_; rotate_left; · (intro w'; go_simp; with_reducible rfl)
        rotate_left; · (simp only [Act.put, sa_, sb_, sc_, i64_w, i32_w]; rfl)
        refine pure_ (i := 4) (N := some 18) (v := undef) (a' := ?_) (tb 5 37) rfl rfl (by kernel_rfl) (fun _ _ _ h => h) (Or.inr ⟨by rfl, rfl⟩) ?_ ?_
        rotate_left
        · simp only [Act.put, List.setIfInBounds_toArray, List.set_cons_zero, List.set_cons_succ, i64_w, i32_w]
          rfl
        refine pure_ (i := 5) (N := some 19) (v := undef) (a' := ?_) (tb 6 37) rfl rfl (by kernel_rfl) (fun _ _ _ h => h) (Or.inr ⟨by rfl, rfl⟩) ?_ ?_
        rotate_left
        · simp only [Act.put, List.setIfInBounds_toArray, List.set_cons_zero, List.set_cons_succ, i64_w, i32_w]
          rfl
        refine pure_ (i := 6) (N := some 20) (v := undef) (a' := ?_) (tb 7 37) rfl rfl (by kernel_rfl) (fun _ _ _ h => h) (Or.inr ⟨by rfl, rfl⟩) ?_ ?_
        rotate_left
        · simp only [Act.put, List.setIfInBounds_toArray, List.set_cons_zero, List.set_cons_succ, i64_w, i32_w]
          rfl
        refine pure_ (i := 7) (N := some 21) (v := undef) (a' := ?_) (tb 8 37) rfl rfl (by kernel_rfl) (fun _ _ _ h => h) (Or.inr ⟨by rfl, rfl⟩) ?_ ?_
        rotate_left
        · simp only [Act.put, List.setIfInBounds_toArray, List.set_cons_zero, List.set_cons_succ, i64_w, i32_w]
          rfl
        refine pure_ (i := 8) (N := some 22) (v := undef) (a' := ?_) (tb 9 37) rfl rfl (by kernel_rfl) (fun _ _ _ h => h) (Or.inr ⟨by rfl, rfl⟩) ?_ ?_
        rotate_left
        · simp only [Act.put, List.setIfInBounds_toArray, List.set_cons_zero, List.set_cons_succ, i64_w, i32_w]
          rfl
        refine pure_ (i := 9) (N := some 23) (v := undef) (a' := ?_) (tb 10 37) rfl rfl (by kernel_rfl) (fun _ _ _ h => h) (Or.inr ⟨by rfl, rfl⟩) ?_ ?_
        rotate_left
        · simp only [Act.put, List.setIfInBounds_toArray, List.set_cons_zero, List.set_cons_succ, i64_w, i32_w]
          rfl
        refine pure_ (i := 10) (N := some 24) (v := undef) (a' := ?_) (tb 11 37) rfl rfl (by kernel_rfl) (fun _ _ _ h => h) (Or.inr ⟨by rfl, rfl⟩) ?_ ?_
        rotate_left
        · simp only [Act.put, List.setIfInBounds_toArray, List.set_cons_zero, List.set_cons_succ, i64_w, i32_w]
          rfl
        refine pure_ (i := 11) (N := some 25) (v := undef) (a' := ?_) (tb 12 37) rfl rfl (by kernel_rfl) (fun _ _ _ h => h) (Or.inr ⟨by rfl, rfl⟩) ?_ ?_
        rotate_left
        · simp only [Act.put, List.setIfInBounds_toArray, List.set_cons_zero, List.set_cons_succ, i64_w, i32_w]
          rfl
        refine pure_ (i := 12) (N := some 26) (v := undef) (a' := ?_) (tb 13 37) rfl rfl (by kernel_rfl) (fun _ _ _ h => h) (Or.inr ⟨by rfl, rfl⟩) ?_ ?_
        rotate_left
        · simp only [Act.put, List.setIfInBounds_toArray, List.set_cons_zero, List.set_cons_succ, i64_w, i32_w]
          rfl
        refine pure_ (i := 13) (N := some 27) (v := undef) (a' := ?_) (tb 14 37) rfl rfl (by kernel_rfl) (fun _ _ _ h => h) (Or.inr ⟨by rfl, rfl⟩) ?_ ?_
        rotate_left
        · simp only [Act.put, List.setIfInBounds_toArray, List.set_cons_zero, List.set_cons_succ, i64_w, i32_w]
          rfl
        refine pure_ (i := 14) (N := some 28) (v := undef) (a' := ?_) (tb 15 37) rfl rfl (by kernel_rfl) (fun _ _ _ h => h) (Or.inr ⟨by rfl, rfl⟩) ?_ ?_
        rotate_left
        · simp only [Act.put, List.setIfInBounds_toArray, List.set_cons_zero, List.set_cons_succ, i64_w, i32_w]
          rfl
        refine pure_ (i := 15) (N := some 29) (v := undef) (a' := ?_) (tb 16 37) rfl rfl (by kernel_rfl) (fun _ _ _ h => h) (Or.inr ⟨by rfl, rfl⟩) ?_ ?_
        rotate_left
        · simp only [Act.put, List.setIfInBounds_toArray, List.set_cons_zero, List.set_cons_succ, i64_w, i32_w]
          rfl
        refine pu 16 (some 30) (v := ?_) (a' := ?_) (tb 17 37) rfl rfl (by kernel_rfl) (fun _ _ _ h => h) ⟨by rfl, ?_⟩ ?_ ?_; rotate_left; · (intro w'; go_simp; with_reducible rfl)
        rotate_left; · (simp only [Act.put, sa_, sb_, sc_, i64_w, i32_w]; rfl)
        refine tk 17 (some 31) (v := ?_) (a' := ?_) (tb 18 37) rfl rfl (by kernel_rfl) (fun _ _ _ h => h) ⟨by rfl, ?_⟩ hHeld ?_ ?_; rotate_left; · (rintro w' ⟨s0, s1⟩; go_simp; with_reducible rfl)
        rotate_left; · (simp only [Act.put, sa_, sb_, sc_, i64_w, i32_w]; rfl)
        refine pu 18 (some 32) (v := ?_) (a' := ?_) (tb 19 37) rfl rfl (by kernel_rfl) (fun _ _ _ h => h) ⟨by rfl, ?_⟩ ?_ ?_; rotate_left; · (intro w'; go_simp; with_reducible rfl)
        rotate_left; · (simp only [Act.put, sa_, sb_, sc_, i64_w, i32_w]; rfl)
        refine pu 19 (some 33) (v := ?_) (a' := ?_) (tb 20 37) rfl rfl (by kernel_rfl) (fun _ _ _ h => h) ⟨by rfl, ?_⟩ ?_ ?_; rotate_left; · (intro w'; go_simp; with_reducible rfl)
        rotate_left; · (simp only [Act.put, sa_, sb_, sc_, i64_w, i32_w]; rfl)
        refine pu 20 (some 34) (v := ?_) (a' := ?_) (tb 21 37) rfl rfl (by kernel_rfl) (fun _ _ _ h => h) ⟨by rfl, ?_⟩ ?_ ?_; rotate_left; · (intro w'; go_simp; with_reducible rfl)
        rotate_left; · (simp only [Act.put, sa_, sb_, sc_, i64_w, i32_w]; rfl)
        refine tk 21 (some 35) (v := ?_) (a' := ?_) (tb 22 37) rfl rfl (by kernel_rfl) (fun _ _ _ h => h) ⟨by rfl, ?_⟩ hHeld ?_ ?_; rotate_left; · (rintro w' ⟨s0, s1⟩; go_simp; with_reducible rfl)
        rotate_left; · (simp only [Act.put, sa_, sb_, sc_, i64_w, i32_w]; rfl)
        refine pu 22 (some 36) (v := ?_) (a' := ?_) (tb 23 37) rfl rfl (by kernel_rfl) (fun _ _ _ h => h) ⟨by rfl, ?_⟩ ?_ ?_; rotate_left; · (intro w'; go_simp; with_reducible rfl)
        rotate_left; · (simp only [Act.put, sa_, sb_, sc_, i64_w, i32_w]; rfl)
        refine pu 23 (some 37) (v := ?_) (a' := ?_) (tb 24 37) rfl rfl (by kernel_rfl) (fun _ _ _ h => h) ⟨by rfl, ?_⟩ ?_ ?_; rotate_left; · (intro w'; go_simp; with_reducible rfl)
        rotate_left; · (simp only [Act.put, sa_, sb_, sc_, i64_w, i32_w]; rfl)
        refine pu 24 (some 38) (v := ?_) (a' := ?_) (tb 25 37) rfl rfl (by kernel_rfl) (fun _ _ _ h => h) ⟨by rfl, ?_⟩ ?_ ?_; rotate_left; · (intro w'; go_simp; with_reducible rfl)
        rotate_left; · (simp only [Act.put, sa_, sb_, sc_, i64_w, i32_w]; rfl)
        refine pure_ (i := 25) (N := some 39) (v := undef) (a' := ?_) (tb 26 37) rfl rfl (by kernel_rfl) (fun _ _ _ h => h) (Or.inr ⟨by rfl, rfl⟩) ?_ ?_
        rotate_left
        · simp only [Act.put, List.setIfInBounds_toArray, List.set_cons_zero, List.set_cons_succ, i64_w, i32_w]
          rfl
        refine pure_ (i := 26) (N := some 40) (v := undef) (a' := ?_) (tb 27 37) rfl rfl (by kernel_rfl) (fun _ _ _ h => h) (Or.inr ⟨by rfl, rfl⟩) ?_ ?_
        rotate_left
        · simp only [Act.put, List.setIfInBounds_toArray, List.set_cons_zero, List.set_cons_succ, i64_w, i32_w]
          rfl
        refine pure_ (i := 27) (N := some 41) (v := undef) (a' := ?_) (tb 28 37) rfl rfl (by kernel_rfl) (fun _ _ _ h => h) (Or.inr ⟨by rfl, rfl⟩) ?_ ?_
        rotate_left
        · simp only [Act.put, List.setIfInBounds_toArray, List.set_cons_zero, List.set_cons_succ, i64_w, i32_w]
          rfl
        refine pure_ (i := 28) (N := some 42) (v := undef) (a' := ?_) (tb 29 37) rfl rfl (by kernel_rfl) (fun _ _ _ h => h) (Or.inr ⟨by rfl, rfl⟩) ?_ ?_
        rotate_left
        · simp only [Act.put, List.setIfInBounds_toArray, List.set_cons_zero, List.set_cons_succ, i64_w, i32_w]
          rfl
        refine pure_ (i := 29) (N := some 43) (v := undef) (a' := ?_) (tb 30 37) rfl rfl (by kernel_rfl) (fun _ _ _ h => h) (Or.inr ⟨by rfl, rfl⟩) ?_ ?_
        rotate_left
        · simp only [Act.put, List.setIfInBounds_toArray, List.set_cons_zero, List.set_cons_succ, i64_w, i32_w]
          rfl
        refine pure_ (i := 30) (N := some 44) (v := undef) (a' := ?_) (tb 31 37) rfl rfl (by kernel_rfl) (fun _ _ _ h => h) (Or.inr ⟨by rfl, rfl⟩) ?_ ?_
        rotate_left
        · simp only [Act.put, List.setIfInBounds_toArray, List.set_cons_zero, List.set_cons_succ, i64_w, i32_w]
          rfl
        refine pure_ (i := 31) (N := some 45) (v := undef) (a' := ?_) (tb 32 37) rfl rfl (by kernel_rfl) (fun _ _ _ h => h) (Or.inr ⟨by rfl, rfl⟩) ?_ ?_
        rotate_left
        · simp only [Act.put, List.setIfInBounds_toArray, List.set_cons_zero, List.set_cons_succ, i64_w, i32_w]
          rfl
        refine pu 32 (some 46) (v := ?_) (a' := ?_) (tb 33 37) rfl rfl (by kernel_rfl) (fun _ _ _ h => h) ⟨by rfl, ?_⟩ ?_ ?_; rotate_left; · (intro w'; go_simp; with_reducible rfl)
        rotate_left; · (simp only [Act.put, sa_, sb_, sc_, i64_w, i32_w]; rfl)
        refine pu 33 (some 47) (v := ?_) (a' := ?_) (tb 34 37) rfl rfl (by kernel_rfl) (fun _ _ _ h => h) ⟨by rfl, ?_⟩ ?_ ?_; rotate_left; · (intro w'; go_simp; with_reducible rfl)
        rotate_left; · (simp only [Act.put, sa_, sb_, sc_, i64_w, i32_w]; rfl)
        refine pu 34 (some 48) (v := ?_) (a' := ?_) (tb 35 37) rfl rfl (by kernel_rfl) (fun _ _ _ h => h) ⟨by rfl, ?_⟩ ?_ ?_; rotate_left; · (intro w'; go_simp; with_reducible rfl)
        rotate_left; · (simp only [Act.put, sa_, sb_, sc_, i64_w, i32_w]; rfl)
        refine one_ (i := 35) (N := some 4) (tb 36 37) rfl rfl (by kernel_rfl) (by decide) (fun K hK => ?_)
        refine value_ (w1 := ?_) (v := ?_) (by rfl) rfl ?_ ?_
        rotate_left 2
        · go_simp
          constructor
          · rfl
          · rfl
        refine hK.out _ _ (HA0.out hHeld) (fun hHeld => ?_)
        clear hK K
        refine norm_ (a' := ?_) ?_ ?_
        rotate_left
        · show Act.put _ (some 4) _ = _
          simp only [Act.put, List.setIfInBounds_toArray, List.set_cons_zero, List.set_cons_succ, i64_w, i32_w]
          rfl
        refine last_ (i := 36) (N := none) (tb 37 37) rfl rfl (by kernel_rfl) (by decide) (fun K hK => ?_)
        have hs20 := blk_cell (blk_new wr.drew (.cells #[.bool false, .bool false] 73 (0, 0))) 0
        have hs21 := blk_cell (blk_new wr.drew (.cells #[.bool false, .bool false] 73 (0, 0))) 1
        have hf20 := blk_frozen (blk_new wr.drew (.cells #[.bool false, .bool false] 73 (0, 0))) 0
        have hf21 := blk_frozen (blk_new wr.drew (.cells #[.bool false, .bool false] 73 (0, 0))) 1
        refine skip_ (w1 := ?_) (by rfl) rfl ?_ ?_
        rotate_left
        · go_simp
          rfl
        refine hK.out _ _ ?_
        clear hK K
        refine done_ (by kernel_rfl) ?_
        obtain ⟨w3, hw3⟩ : ∃ w3, w3 = (wr.alloc (Obj.cells #[Value.bool false, Value.bool true] 73)).drew := ⟨_, rfl⟩
        have hb3 : Below wr.heap.size wr w3 := by rw [hw3]; exact ((Below.refl _ _).alloc (Nat.le_refl _) _).drew
        have hx3 : w3.heap[wr.heap.size]? = some (.cells #[.bool false, .bool true] 73 (0, 0)) := by rw [hw3]; exact blk_drew (blk_new _ _)
        rw [← hw3]
        clear hw3
        have HX3 := Aside0.mk hx3
        have HJ3 : Aside0 (J pre w3) := ⟨HJB.out _ _ _ HJ.out hb3⟩
        have HA3 : Aside0 (sl1 w3 Ba A1 0 c1) := ⟨blk_below ha hb3⟩
        have HB3 : Aside0 (sl1 w3 Bb A2 (y.length + 1) c2) := ⟨blk_below hb hb3⟩
        repeat clear hHeld
        clear HS0 HA0 HJ HL ha hb hsa hsb hb3 hs20 hs21 hf20 hf21
        generalize wr.heap.size = gx at hx3 HX3 ⊢
        obtain ⟨ad2, e1, hc1⟩ := Kd.at_int (hcb w3 (HJC.out _ _ HJ3.out).2) 0 (by omega) (by simp)
        subst e1
        rw [show (0 : Int).toNat = 0 from rfl, Addr.add_zero'] at hc1
        have hcx0 := blk_cell HX3.out 0
        have hcx1 := blk_cell HX3.out 1
        go_upto_region 6 with (fail)
        have hs3 := blk_cell HB3.out 0
        have hf3 := blk_frozen HB3.out 0
        have HS1 : Aside0 (w3.drew.cell? ⟨Bb, 0, none⟩ = some (.slice (some ad2) (y.length + 1) c2) ∧ w3.drew.cell? ad2 = some (.int .u64 y0)) := ⟨⟨hs3, hc1⟩⟩
        obtain ⟨i0, hi0, _, hsz, _⟩ := info_parts minfo_u64
        have hcut := cut_from (P := Try.prog) 23 22 .i64 Try.underlying23 hi0 1 hsz (some ad2) (y.length + 1) c2 1 (by omega) (by omega)
        clear hi0 hsz
        have hdr2 : ∀ W, Kd.C (Kd.int .u64) W Ab xb.length xb → Kd.C (Kd.int .u64) W (if c2 = 1 then some ad2 else (some ad2).map (·.add (1 * 1))) y.length y := fun W h => Kd.C_drop (m := 1) (hcb W h) (by simp) hbc
        obtain ⟨A2n, hA2n⟩ : ∃ A', A' = (if c2 = 1 then some ad2 else (some ad2).map (·.add (1 * 1))) := ⟨_, rfl⟩
        obtain ⟨c2n, hc2n⟩ : ∃ c', c' = c2 - 1 := ⟨_, rfl⟩
        rw [show (1 : Int).toNat = 1 from rfl, show y.length + 1 - 1 = y.length by omega, ← hc2n] at hcut
        rw [← hA2n] at hcut hdr2
        have hcn2 : y.length ≤ c2n := by simp at hbc; omega
        clear hA2n hc2n
        refine start_ (n := 7) (S := fun w' => w'.cell? ⟨Bb, 0, none⟩ = some (.slice (some ad2) (y.length + 1) c2) ∧ w'.cell? ad2 = some (.int .u64 y0)) (ds := [6]) (tb 0 7) (by kernel_rfl) rfl rfl HS1.out (fun hHeld => ?_)
        refine tk 0 (some 58) (v := ?_) (a' := ?_) (tb 1 7) rfl rfl (by kernel_rfl) (fun _ _ _ h => h) ⟨by rfl, ?_⟩ hHeld ?_ ?_; rotate_left; · (rintro w' ⟨s0, s1⟩; go_simp; with_reducible rfl)
        rotate_left; · (simp only [Act.put, sa_, sb_, sc_, i64_w, i32_w]; rfl)
        refine pu 1 (some 59) (v := ?_) (a' := ?_) (tb 2 7) rfl rfl (by kernel_rfl) (fun _ _ _ h => h) ⟨by rfl, ?_⟩ ?_ ?_; rotate_left; · (intro w'; go_simp; with_reducible rfl)
        rotate_left; · (simp only [Act.put, sa_, sb_, sc_, i64_w, i32_w]; rfl)
        refine tk 2 (some 60) (v := ?_) (a' := ?_) (tb 3 7) rfl rfl (by kernel_rfl) (fun _ _ _ h => h) ⟨by rfl, ?_⟩ hHeld ?_ ?_; rotate_left; · (rintro w' ⟨s0, s1⟩; go_simp; with_reducible rfl)
        rotate_left; · (simp only [Act.put, sa_, sb_, sc_, i64_w, i32_w]; rfl)
        refine tk 3 (some 61) (v := ?_) (a' := ?_) (tb 4 7) rfl rfl (by kernel_rfl) (fun _ _ _ h => h) ⟨by rfl, ?_⟩ hHeld ?_ ?_; rotate_left; · (rintro w' ⟨s0, s1⟩; go_simp; with_reducible rfl)
        rotate_left; · (simp only [Act.put, sa_, sb_, sc_, i64_w, i32_w]; rfl)
        refine pu 4 (some 62) (v := ?_) (a' := ?_) (tb 5 7) rfl rfl (by kernel_rfl) (fun _ _ _ h => h) ⟨by rfl, ?_⟩ ?_ ?_; rotate_left; · (intro w'; go_simp; with_reducible rfl)
        rotate_left; · (simp only [Act.put, sa_, sb_, sc_, i64_w, i32_w]; rfl)
        refine pu 5 (some 5) (v := ?_) (a' := ?_) (tb 6 7) rfl rfl (by kernel_rfl) (fun _ _ _ h => h) ⟨by rfl, ?_⟩ ?_ ?_; rotate_left; · (intro w'; go_simp; with_reducible rfl)
        rotate_left; · (simp only [Act.put, sa_, sb_, sc_, i64_w, i32_w]; rfl)
        refine last_ (i := 6) (N := none) (tb 7 7) rfl rfl (by kernel_rfl) (by decide) (fun K hK => ?_)
        refine skip_ (w1 := ?_) (by rfl) rfl ?_ ?_
        rotate_left
        · go_simp
          rfl
        refine hK.out _ _ ?_
        clear hK K
        refine done_ (by kernel_rfl) ?_
        obtain ⟨w4, hw4⟩ : ∃ wz, wz = (w3.setCell ⟨Bb, 0, none⟩ (.slice A2n y.length c2n)).drew := ⟨_, rfl⟩
        have HJ4 : Aside0 (J pre w4) := ⟨by rw [hw4]; exact HJB.out _ _ _ (HJS.out _ _ Bb (.slice A2n y.length c2n) (.inr rfl) HJ3.out) (Below.refl _ _).drew⟩
        have HB4 : Aside0 (sl1 w4 Bb A2n y.length c2n) := ⟨by rw [hw4]; exact blk_drew (blk_put HB3.out 0 _ rfl)⟩
        have HA4 : Aside0 (sl1 w4 Ba A1 0 c1) := ⟨by rw [hw4]; exact blk_drew (blk_far HA3.out HNE.out _)⟩
        have hx4 : w4.heap[gx]? = some (.cells #[.bool false, .bool true] 73 (0, 0)) := by rw [hw4]; exact blk_drew (blk_far HX3.out (sl1_ne HX3.out HB3.out (by decide)) _)
        rw [← hw4]
        clear hw4
        have HX4 := Aside0.mk hx4
        clear hx4
        repeat clear hHeld
        clear HJ3 HA3 HB3 HX3 hcx0 hcx1 hs3 hf3 HS1 hc1 hcut hx3
        have HQ : Aside0 (pairsS xa xb = pre ++ (y0, false, true) :: pairsS [] y) := ⟨by have := HP.out; rw [pairsS] at this; exact this⟩
        have HL4 : Aside0 (Left xa xb Aa Ab Ba Bb w4 [] y) := ⟨⟨_, _, HA4.out, hac, hca⟩, ⟨_, _, HB4.out, hcn2, hdr2⟩⟩
        have hcx0 := blk_cell HX4.out 0
        have hcx1 := blk_cell HX4.out 1
        go_upto_region 7 with (fail)
        obtain ⟨fn, tmps, assign, body, hy, hR⟩ := HY.out pre (y0, false, true) (pairsS [] y) w4 HJ4.out HQ.out [] y HL4.out
        dsimp only [enc3] at hy
        refine (wpIn_wide (n := 4)).1 ?_
        gi_wp2
        refine hR.mono ?_
        rintro e W5 ⟨rfl, hJ5, hL5⟩
        gi_wp2
        go_wp2
        cases gk with
        | zero => have := HN.out; omega
        | succ k1 =>
          go_roundg k1
          case measure => omega
          case rel => exact ⟨pre ++ [(y0, false, true)], [], y, ⟨by rw [HQ.out, List.append_assoc]; rfl⟩, ⟨by have := HN.out; simp at this ⊢; omega⟩, ⟨hJ5⟩, ⟨hL5⟩⟩
    | cons x0 x =>
      cases y with
      | nil =>
        have HS0 : Aside0 (wr.drew.cell? ⟨Ba, 0, none⟩ = some (.slice A1 (x.length + 1) c1) ∧ wr.drew.cell? ⟨Bb, 0, none⟩ = some (.slice A2 0 c2)) := ⟨⟨hsa, hsb⟩⟩
        have HA0 : Aside0 (wr.drew.cell? ⟨Ba, 0, none⟩ = some (.slice A1 (x.length + 1) c1) ∧ wr.drew.cell? ⟨Bb, 0, none⟩ = some (.slice A2 0 c2) → (wr.drew.alloc (.cells #[.bool false, .bool false] 73 (0, 0))).cell? ⟨Ba, 0, none⟩ = some (.slice A1 (x.length + 1) c1) ∧ (wr.drew.alloc (.cells #[.bool false, .bool false] 73 (0, 0))).cell? ⟨Bb, 0, none⟩ = some (.slice A2 0 c2)) := ⟨fun h => ⟨pw_cell_below (below_alloc (Below.refl _ _) _) h.1, pw_cell_below (below_alloc (Below.refl _ _) _) h.2⟩⟩
        go_upto_region 1 with (fail)
        refine start_ (n := 37) (S := fun w' => w'.cell? ⟨Ba, 0, none⟩ = some (.slice A1 (x.length + 1) c1) ∧ w'.cell? ⟨Bb, 0, none⟩ = some (.slice A2 0 c2)) (ds := [36]) (tb 0 37) (by kernel_rfl) rfl rfl HS0.out (fun hHeld => ?_)
        refine tk 0 (some 14) (v := ?_) (a' := ?_) (tb 1 37) rfl rfl (by kernel_rfl) (fun _ _ _ h => h) ⟨by rfl, ?_⟩ hHeld ?_ ?_; rotate_left; · (rintro w' ⟨s0, s1⟩; go_simp; with_reducible rfl)
        rotate_left; · (simp only [Act.put, sa_, sb_, sc_, i64_w, i32_w]; rfl)
        refine pu 1 (some 15) (v := ?_) (a' := ?_) (tb 2 37) rfl rfl (by kernel_rfl) (fun _ _ _ h => h) ⟨by rfl, ?_⟩ ?_ ?_; rotate_left; · (intro w'; go_simp; with_reducible rfl)
        rotate_left; · (simp only [Act.put, sa_, sb_, sc_, i64_w, i32_w]; rfl)
        refine pu 2 (some 16) (v := ?_) (a' := ?_) (tb 3 37) rfl rfl (by kernel_rfl) (fun _ _ _ h => h) ⟨by rfl, ?_⟩ ?_ ?_; rotate_left; · (intro w'; go_simp; with_reducible rfl)
        rotate_left; · (simp only [Act.put, sa_, sb_, sc_, i64_w, i32_w]; rfl)
        refine pu 3 (some 17) (v := ?_) (a' := ?_) (tb 4 37) rfl rfl (by kernel_rfl) (fun _ _ _ h => h) ⟨by rfl, ?_⟩ ?_ ?_; rotate_left; · (intro w'; go_simp; with_reducible rfl)
        rotate_left; · (simp only [Act.put, sa_, sb_, sc_, i64_w, i32_w]; rfl)
        refine tk 4 (some 18) (v := ?_) (a' := ?_) (tb 5 37) rfl rfl (by kernel_rfl) (fun _ _ _ h => h) ⟨by rfl, ?_⟩ hHeld ?_ ?_; rotate_left; · (rintro w' ⟨s0, s1⟩; go_simp; with_reducible rfl)
        rotate_left; · (simp only [Act.put, sa_, sb_, sc_, i64_w, i32_w]; rfl)
        refine pu 5 (some 19) (v := ?_) (a' := ?_) (tb 6 37) rfl rfl (by kernel_rfl) (fun _ _ _ h => h) ⟨by rfl, ?_⟩ ?_ ?_; rotate_left; · (intro w'; go_simp; with_reducible rfl)
        rotate_left; · (simp only [Act.put, sa_, sb_, sc_, i64_w, i32_w]; rfl)
        refine pu 6 (some 20) (v := ?_) (a' := ?_) (tb 7 37) rfl rfl (by kernel_rfl) (fun _ _ _ h => h) ⟨by rfl, ?_⟩ ?_ ?_; rotate_left; · (intro w'; go_simp; with_reducible rfl)
        rotate_left; · (simp only [Act.put, sa_, sb_, sc_, i64_w, i32_w]; rfl)
        refine pu 7 (some 21) (v := ?_) (a' := ?_) (tb 8 37) rfl rfl (by kernel_rfl) (fun _ _ _ h => h) ⟨by rfl, ?_⟩ ?_ ?_; rotate_left; · (intro w'; go_simp; with_reducible rfl)
        rotate_left; · (simp only [Act.put, sa_, sb_, sc_, i64_w, i32_w]; rfl)
        refine pure_ (i := 8) (N := some 22) (v := undef) (a' := ?_) (tb 9 37) rfl rfl (by kernel_rfl) (fun _ _ _ h => h) (Or.inr ⟨by rfl, rfl⟩) ?_ ?_
        rotate_left
        · simp only [Act.put, List.setIfInBounds_toArray, List.set_cons_zero, List.set_cons_succ, i64_w, i32_w]
          rfl
        refine pure_ (i := 9) (N := some 23) (v := undef) (a' := ?_) (tb 10 37) rfl rfl (by kernel_rfl) (fun _ _ _ h => h) (Or.inr ⟨by rfl, rfl⟩) ?_ ?_
        rotate_left
        · simp only [Act.put, List.setIfInBounds_toArray, List.set_cons_zero, List.set_cons_succ, i64_w, i32_w]
          rfl
        refine pure_ (i := 10) (N := some 24) (v := undef) (a' := ?_) (tb 11 37) rfl rfl (by kernel_rfl) (fun _ _ _ h => h) (Or.inr ⟨by rfl, rfl⟩) ?_ ?_
        rotate_left
        · simp only [Act.put, List.setIfInBounds_toArray, List.set_cons_zero, List.set_cons_succ, i64_w, i32_w]
          rfl
        refine pure_ (i := 11) (N := some 25) (v := undef) (a' := ?_) (tb 12 37) rfl rfl (by kernel_rfl) (fun _ _ _ h => h) (Or.inr ⟨by rfl, rfl⟩) ?_ ?_
        rotate_left
        · simp only [Act.put, List.setIfInBounds_toArray, List.set_cons_zero, List.set_cons_succ, i64_w, i32_w]
          rfl
        refine pure_ (i := 12) (N := some 26) (v := undef) (a' := ?_) (tb 13 37) rfl rfl (by kernel_rfl) (fun _ _ _ h => h) (Or.inr ⟨by rfl, rfl⟩) ?_ ?_
        rotate_left
        · simp only [Act.put, List.setIfInBounds_toArray, List.set_cons_zero, List.set_cons_succ, i64_w, i32_w]
          rfl
        refine pure_ (i := 13) (N := some 27) (v := undef) (a' := ?_) (tb 14 37) rfl rfl (by kernel_rfl) (fun _ _ _ h => h) (Or.inr ⟨by rfl, rfl⟩) ?_ ?_
        rotate_left
        · simp only [Act.put, List.setIfInBounds_toArray, List.set_cons_zero, List.set_cons_succ, i64_w, i32_w]
          rfl
        refine pure_ (i := 14) (N := some 28) (v := undef) (a' := ?_) (tb 15 37) rfl rfl (by kernel_rfl) (fun _ _ _ h => h) (Or.inr ⟨by rfl, rfl⟩) ?_ ?_
        rotate_left
        · simp only [Act.put, List.setIfInBounds_toArray, List.set_cons_zero, List.set_cons_succ, i64_w, i32_w]
          rfl
        refine pu 15 (some 29) (v := ?_) (a' := ?_) (tb 16 37) rfl rfl (by kernel_rfl) (fun _ _ _ h => h) ⟨by rfl, ?_⟩ ?_ ?_; rotate_left; · (intro w'; go_simp; with_reducible rfl)
        rotate_left; · (simp only [Act.put, sa_, sb_, sc_, i64_w, i32_w]; rfl)
        refine pu 16 (some 30) (v := ?_) (a' := ?_) (tb 17 37) rfl rfl (by kernel_rfl) (fun _ _ _ h => h) ⟨by rfl, ?_⟩ ?_ ?_; rotate_left; · (intro w'; go_simp; with_reducible rfl)
        rotate_left; · (simp only [Act.put, sa_, sb_, sc_, i64_w, i32_w]; rfl)
        refine tk 17 (some 31) (v := ?_) (a' := ?_) (tb 18 37) rfl rfl (by kernel_rfl) (fun _ _ _ h => h) ⟨by rfl, ?_⟩ hHeld ?_ ?_; rotate_left; · (rintro w' ⟨s0, s1⟩; go_simp; with_reducible rfl)
        rotate_left; · (simp only [Act.put, sa_, sb_, sc_, i64_w, i32_w]; rfl)
        refine pu 18 (some 32) (v := ?_) (a' := ?_) (tb 19 37) rfl rfl (by kernel_rfl) (fun _ _ _ h => h) ⟨by rfl, ?_⟩ ?_ ?_; rotate_left; · (intro w'; go_simp; with_reducible rfl)
        rotate_left; · (simp only [Act.put, sa_, sb_, sc_, i64_w, i32_w]; rfl)
        refine pu 19 (some 33) (v := ?_) (a' := ?_) (tb 20 37) rfl rfl (by kernel_rfl) (fun _ _ _ h => h) ⟨by rfl, ?_⟩ ?_ ?_; rotate_left; · (intro w'; go_simp; with_reducible rfl)
        rotate_left; · (simp only [Act.put, sa_, sb_, sc_, i64_w, i32_w]; rfl)
        refine pu 20 (some 34) (v := ?_) (a' := ?_) (tb 21 37) rfl rfl (by kernel_rfl) (fun _ _ _ h => h) ⟨by rfl, ?_⟩ ?_ ?_; rotate_left; · (intro w'; go_simp; with_reducible rfl)
        rotate_left; · (simp only [Act.put, sa_, sb_, sc_, i64_w, i32_w]; rfl)
        refine pure_ (i := 21) (N := some 35) (v := undef) (a' := ?_) (tb 22 37) rfl rfl (by kernel_rfl) (fun _ _ _ h => h) (Or.inr ⟨by rfl, rfl⟩) ?_ ?_
        rotate_left
        · simp only [Act.put, List.setIfInBounds_toArray, List.set_cons_zero, List.set_cons_succ, i64_w, i32_w]
          rfl
        refine pure_ (i := 22) (N := some 36) (v := undef) (a' := ?_) (tb 23 37) rfl rfl (by kernel_rfl) (fun _ _ _ h => h) (Or.inr ⟨by rfl, rfl⟩) ?_ ?_
        rotate_left
        · simp only [Act.put, List.setIfInBounds_toArray, List.set_cons_zero, List.set_cons_succ, i64_w, i32_w]
          rfl
        refine pure_ (i := 23) (N := some 37) (v := undef) (a' := ?_) (tb 24 37) rfl rfl (by kernel_rfl) (fun _ _ _ h => h) (Or.inr ⟨by rfl, rfl⟩) ?_ ?_
        rotate_left
        · simp only [Act.put, List.setIfInBounds_toArray, List.set_cons_zero, List.set_cons_succ, i64_w, i32_w]
          rfl
        refine pure_ (i := 24) (N := some 38) (v := undef) (a' := ?_) (tb 25 37) rfl rfl (by kernel_rfl) (fun _ _ _ h => h) (Or.inr ⟨by rfl, rfl⟩) ?_ ?_
        rotate_left
        · simp only [Act.put, List.setIfInBounds_toArray, List.set_cons_zero, List.set_cons_succ, i64_w, i32_w]
          rfl
        refine pure_ (i := 25) (N := some 39) (v := undef) (a' := ?_) (tb 26 37) rfl rfl (by kernel_rfl) (fun _ _ _ h => h) (Or.inr ⟨by rfl, rfl⟩) ?_ ?_
        rotate_left
        · simp only [Act.put, List.setIfInBounds_toArray, List.set_cons_zero, List.set_cons_succ, i64_w, i32_w]
          rfl
        refine pure_ (i := 26) (N := some 40) (v := undef) (a' := ?_) (tb 27 37) rfl rfl (by kernel_rfl) (fun _ _ _ h => h) (Or.inr ⟨by rfl, rfl⟩) ?_ ?_
        rotate_left
        · simp only [Act.put, List.setIfInBounds_toArray, List.set_cons_zero, List.set_cons_succ, i64_w, i32_w]
          rfl
        refine pure_ (i := 27) (N := some 41) (v := undef) (a' := ?_) (tb 28 37) rfl rfl (by kernel_rfl) (fun _ _ _ h => h) (Or.inr ⟨by rfl, rfl⟩) ?_ ?_
        rotate_left
        · simp only [Act.put, List.setIfInBounds_toArray, List.set_cons_zero, List.set_cons_succ, i64_w, i32_w]
          rfl
        refine pure_ (i := 28) (N := some 42) (v := undef) (a' := ?_) (tb 29 37) rfl rfl (by kernel_rfl) (fun _ _ _ h => h) (Or.inr ⟨by rfl, rfl⟩) ?_ ?_
        rotate_left
        · simp only [Act.put, List.setIfInBounds_toArray, List.set_cons_zero, List.set_cons_succ, i64_w, i32_w]
          rfl
        refine pure_ (i := 29) (N := some 43) (v := undef) (a' := ?_) (tb 30 37) rfl rfl (by kernel_rfl) (fun _ _ _ h => h) (Or.inr ⟨by rfl, rfl⟩) ?_ ?_
        rotate_left
        · simp only [Act.put, List.setIfInBounds_toArray, List.set_cons_zero, List.set_cons_succ, i64_w, i32_w]
          rfl
        refine pure_ (i := 30) (N := some 44) (v := undef) (a' := ?_) (tb 31 37) rfl rfl (by kernel_rfl) (fun _ _ _ h => h) (Or.inr ⟨by rfl, rfl⟩) ?_ ?_
        rotate_left
        · simp only [Act.put, List.setIfInBounds_toArray, List.set_cons_zero, List.set_cons_succ, i64_w, i32_w]
          rfl
        refine pure_ (i := 31) (N := some 45) (v := undef) (a' := ?_) (tb 32 37) rfl rfl (by kernel_rfl) (fun _ _ _ h => h) (Or.inr ⟨by rfl, rfl⟩) ?_ ?_
        rotate_left
        · simp only [Act.put, List.setIfInBounds_toArray, List.set_cons_zero, List.set_cons_succ, i64_w, i32_w]
          rfl
        refine pure_ (i := 32) (N := some 46) (v := undef) (a' := ?_) (tb 33 37) rfl rfl (by kernel_rfl) (fun _ _ _ h => h) (Or.inr ⟨by rfl, rfl⟩) ?_ ?_
        rotate_left
        · simp only [Act.put, List.setIfInBounds_toArray, List.set_cons_zero, List.set_cons_succ, i64_w, i32_w]
          rfl
        refine pu 33 (some 47) (v := ?_) (a' := ?_) (tb 34 37) rfl rfl (by kernel_rfl) (fun _ _ _ h => h) ⟨by rfl, ?_⟩ ?_ ?_; rotate_left; · (intro w'; go_simp; with_reducible rfl)
        rotate_left; · (simp only [Act.put, sa_, sb_, sc_, i64_w, i32_w]; rfl)
        refine pu 34 (some 48) (v := ?_) (a' := ?_) (tb 35 37) rfl rfl (by kernel_rfl) (fun _ _ _ h => h) ⟨by rfl, ?_⟩ ?_ ?_; rotate_left; · (intro w'; go_simp; with_reducible rfl)
        rotate_left; · (simp only [Act.put, sa_, sb_, sc_, i64_w, i32_w]; rfl)
        refine one_ (i := 35) (N := some 4) (tb 36 37) rfl rfl (by kernel_rfl) (by decide) (fun K hK => ?_)
        refine value_ (w1 := ?_) (v := ?_) (by rfl) rfl ?_ ?_
        rotate_left 2
        · go_simp
          constructor
          · rfl
          · rfl
        refine hK.out _ _ (HA0.out hHeld) (fun hHeld => ?_)
        clear hK K
        refine norm_ (a' := ?_) ?_ ?_
        rotate_left
        · show Act.put _ (some 4) _ = _
          simp only [Act.put, List.setIfInBounds_toArray, List.set_cons_zero, List.set_cons_succ, i64_w, i32_w]
          rfl
        refine last_ (i := 36) (N := none) (tb 37 37) rfl rfl (by kernel_rfl) (by decide) (fun K hK => ?_)
        have hs20 := blk_cell (blk_new wr.drew (.cells #[.bool false, .bool false] 73 (0, 0))) 0
        have hs21 := blk_cell (blk_new wr.drew (.cells #[.bool false, .bool false] 73 (0, 0))) 1
        have hf20 := blk_frozen (blk_new wr.drew (.cells #[.bool false, .bool false] 73 (0, 0))) 0
        have hf21 := blk_frozen (blk_new wr.drew (.cells #[.bool false, .bool false] 73 (0, 0))) 1
        refine skip_ (w1 := ?_) (by rfl) rfl ?_ ?_
        rotate_left
        · go_simp
          rfl
        refine hK.out _ _ ?_
        clear hK K
        refine done_ (by kernel_rfl) ?_
        obtain ⟨w3, hw3⟩ : ∃ w3, w3 = (wr.alloc (Obj.cells #[Value.bool true, Value.bool false] 73)).drew := ⟨_, rfl⟩
        have hb3 : Below wr.heap.size wr w3 := by rw [hw3]; exact ((Below.refl _ _).alloc (Nat.le_refl _) _).drew
        have hx3 : w3.heap[wr.heap.size]? = some (.cells #[.bool true, .bool false] 73 (0, 0)) := by rw [hw3]; exact blk_drew (blk_new _ _)
        rw [← hw3]
        clear hw3
        have HX3 := Aside0.mk hx3
        have HJ3 : Aside0 (J pre w3) := ⟨HJB.out _ _ _ HJ.out hb3⟩
        have HA3 : Aside0 (sl1 w3 Ba A1 (x.length + 1) c1) := ⟨blk_below ha hb3⟩
        have HB3 : Aside0 (sl1 w3 Bb A2 0 c2) := ⟨blk_below hb hb3⟩
        repeat clear hHeld
        clear HS0 HA0 HJ HL ha hb hsa hsb hb3 hs20 hs21 hf20 hf21
        generalize wr.heap.size = gx at hx3 HX3 ⊢
        obtain ⟨ad1, e1, hc1⟩ := Kd.at_int (hca w3 (HJC.out _ _ HJ3.out).1) 0 (by omega) (by simp)
        subst e1
        rw [show (0 : Int).toNat = 0 from rfl, Addr.add_zero'] at hc1
        have hcx0 := blk_cell HX3.out 0
        have hcx1 := blk_cell HX3.out 1
        go_upto_region 4 with (fail)
        have hs3 := blk_cell HA3.out 0
        have hf3 := blk_frozen HA3.out 0
        have HS1 : Aside0 (w3.drew.cell? ⟨Ba, 0, none⟩ = some (.slice (some ad1) (x.length + 1) c1) ∧ w3.drew.cell? ad1 = some (.int .u64 x0)) := ⟨⟨hs3, hc1⟩⟩
        obtain ⟨i0, hi0, _, hsz, _⟩ := info_parts minfo_u64
        have hcut := cut_from (P := Try.prog) 23 22 .i64 Try.underlying23 hi0 1 hsz (some ad1) (x.length + 1) c1 1 (by omega) (by omega)
        clear hi0 hsz
        have hdr1 : ∀ W, Kd.C (Kd.int .u64) W Aa xa.length xa → Kd.C (Kd.int .u64) W (if c1 = 1 then some ad1 else (some ad1).map (·.add (1 * 1))) x.length x := fun W h => Kd.C_drop (m := 1) (hca W h) (by simp) hac
        obtain ⟨A1n, hA1n⟩ : ∃ A', A' = (if c1 = 1 then some ad1 else (some ad1).map (·.add (1 * 1))) := ⟨_, rfl⟩
        obtain ⟨c1n, hc1n⟩ : ∃ c', c' = c1 - 1 := ⟨_, rfl⟩
        rw [show (1 : Int).toNat = 1 from rfl, show x.length + 1 - 1 = x.length by omega, ← hc1n] at hcut
        rw [← hA1n] at hcut hdr1
        have hcn1 : x.length ≤ c1n := by simp at hac; omega
        clear hA1n hc1n
        refine start_ (n := 7) (S := fun w' => w'.cell? ⟨Ba, 0, none⟩ = some (.slice (some ad1) (x.length + 1) c1) ∧ w'.cell? ad1 = some (.int .u64 x0)) (ds := [6]) (tb 0 7) (by kernel_rfl) rfl rfl HS1.out (fun hHeld => ?_)
        refine tk 0 (some 51) (v := ?_) (a' := ?_) (tb 1 7) rfl rfl (by kernel_rfl) (fun _ _ _ h => h) ⟨by rfl, ?_⟩ hHeld ?_ ?_; rotate_left; · (rintro w' ⟨s0, s1⟩; go_simp; with_reducible rfl)
        rotate_left; · (simp only [Act.put, sa_, sb_, sc_, i64_w, i32_w]; rfl)
        refine pu 1 (some 52) (v := ?_) (a' := ?_) (tb 2 7) rfl rfl (by kernel_rfl) (fun _ _ _ h => h) ⟨by rfl, ?_⟩ ?_ ?_; rotate_left; · (intro w'; go_simp; with_reducible rfl)
        rotate_left; · (simp only [Act.put, sa_, sb_, sc_, i64_w, i32_w]; rfl)
        refine tk 2 (some 53) (v := ?_) (a' := ?_) (tb 3 7) rfl rfl (by kernel_rfl) (fun _ _ _ h => h) ⟨by rfl, ?_⟩ hHeld ?_ ?_; rotate_left; · (rintro w' ⟨s0, s1⟩; go_simp; with_reducible rfl)
        rotate_left; · (simp only [Act.put, sa_, sb_, sc_, i64_w, i32_w]; rfl)
        refine tk 3 (some 54) (v := ?_) (a' := ?_) (tb 4 7) rfl rfl (by kernel_rfl) (fun _ _ _ h => h) ⟨by rfl, ?_⟩ hHeld ?_ ?_; rotate_left; · (rintro w' ⟨s0, s1⟩; go_simp; with_reducible rfl)
        rotate_left; · (simp only [Act.put, sa_, sb_, sc_, i64_w, i32_w]; rfl)
        refine pu 4 (some 55) (v := ?_) (a' := ?_) (tb 5 7) rfl rfl (by kernel_rfl) (fun _ _ _ h => h) ⟨by rfl, ?_⟩ ?_ ?_; rotate_left; · (intro w'; go_simp; with_reducible rfl)
        rotate_left; · (simp only [Act.put, sa_, sb_, sc_, i64_w, i32_w]; rfl)
        refine pu 5 (some 5) (v := ?_) (a' := ?_) (tb 6 7) rfl rfl (by kernel_rfl) (fun _ _ _ h => h) ⟨by rfl, ?_⟩ ?_ ?_; rotate_left; · (intro w'; go_simp; with_reducible rfl)
        rotate_left; · (simp only [Act.put, sa_, sb_, sc_, i64_w, i32_w]; rfl)
        refine last_ (i := 6) (N := none) (tb 7 7) rfl rfl (by kernel_rfl) (by decide) (fun K hK => ?_)
        refine skip_ (w1 := ?_) (by rfl) rfl ?_ ?_
        rotate_left
        · go_simp
          rfl
        refine hK.out _ _ ?_
        clear hK K
        refine done_ (by kernel_rfl) ?_
        obtain ⟨w4, hw4⟩ : ∃ wz, wz = (w3.setCell ⟨Ba, 0, none⟩ (.slice A1n x.length c1n)).drew := ⟨_, rfl⟩
        have HJ4 : Aside0 (J pre w4) := ⟨by rw [hw4]; exact HJB.out _ _ _ (HJS.out _ _ Ba (.slice A1n x.length c1n) (.inl rfl) HJ3.out) (Below.refl _ _).drew⟩
        have HA4 : Aside0 (sl1 w4 Ba A1n x.length c1n) := ⟨by rw [hw4]; exact blk_drew (blk_put HA3.out 0 _ rfl)⟩
        have HB4 : Aside0 (sl1 w4 Bb A2 0 c2) := ⟨by rw [hw4]; exact blk_drew (blk_far HB3.out (Ne.symm HNE.out) _)⟩
        have hx4 : w4.heap[gx]? = some (.cells #[.bool true, .bool false] 73 (0, 0)) := by rw [hw4]; exact blk_drew (blk_far HX3.out (sl1_ne HX3.out HA3.out (by decide)) _)
        rw [← hw4]
        clear hw4
        have HX4 := Aside0.mk hx4
        clear hx4
        repeat clear hHeld
        clear HJ3 HA3 HB3 HX3 hcx0 hcx1 hs3 hf3 HS1 hc1 hcut hx3
        have HQ : Aside0 (pairsS xa xb = pre ++ (x0, true, false) :: pairsS x []) := ⟨by have := HP.out; rw [pairsS] at this; exact this⟩
        have HL4 : Aside0 (Left xa xb Aa Ab Ba Bb w4 x []) := ⟨⟨_, _, HA4.out, hcn1, hdr1⟩, ⟨_, _, HB4.out, hbc, hcb⟩⟩
        have hcx0 := blk_cell HX4.out 0
        have hcx1 := blk_cell HX4.out 1
        go_upto_region 7 with (fail)
        obtain ⟨fn, tmps, assign, body, hy, hR⟩ := HY.out pre (x0, true, false) (pairsS x []) w4 HJ4.out HQ.out x [] HL4.out
        dsimp only [enc3] at hy
        refine (wpIn_wide (n := 4)).1 ?_
        gi_wp2
        refine hR.mono ?_
        rintro e W5 ⟨rfl, hJ5, hL5⟩
        gi_wp2
        go_wp2
        cases gk with
        | zero => have := HN.out; omega
        | succ k1 =>
          go_roundg k1
          case measure => omega
          case rel => exact ⟨pre ++ [(x0, true, false)], x, [], ⟨by rw [HQ.out, List.append_assoc]; rfl⟩, ⟨by have := HN.out; simp at this ⊢; omega⟩, ⟨hJ5⟩, ⟨hL5⟩⟩
      | cons y0 y =>
        rcases Int.lt_trichotomy x0 y0 with hlt | heq | hgt
        · have d1 : decide (x0 ≤ y0) = true := by simp; omega
          have d2 : decide (y0 ≤ x0) = false := by simp; omega
          have dz1 : ((x.length : Int) + 1 == 0) = false := by simp; omega
          have dz2 : ((y.length : Int) + 1 == 0) = false := by simp; omega
          obtain ⟨ad1, e1, hc1⟩ := Kd.at_int (hca wr (HJC.out _ _ HJ.out).1) 0 (by omega) (by simp)
          obtain ⟨ad2, e2, hc2⟩ := Kd.at_int (hcb wr (HJC.out _ _ HJ.out).2) 0 (by omega) (by simp)
          subst e1
          subst e2
          rw [show (0 : Int).toNat = 0 from rfl, Addr.add_zero'] at hc1 hc2
          have HS0 : Aside0 (wr.drew.cell? ⟨Ba, 0, none⟩ = some (.slice (some ad1) (x.length + 1) c1) ∧ wr.drew.cell? ⟨Bb, 0, none⟩ = some (.slice (some ad2) (y.length + 1) c2) ∧ wr.drew.cell? ad1 = some (.int .u64 x0) ∧ wr.drew.cell? ad2 = some (.int .u64 y0)) := ⟨⟨hsa, hsb, hc1, hc2⟩⟩
          have HA0 : Aside0 (wr.drew.cell? ⟨Ba, 0, none⟩ = some (.slice (some ad1) (x.length + 1) c1) ∧ wr.drew.cell? ⟨Bb, 0, none⟩ = some (.slice (some ad2) (y.length + 1) c2) ∧ wr.drew.cell? ad1 = some (.int .u64 x0) ∧ wr.drew.cell? ad2 = some (.int .u64 y0) → (wr.drew.alloc (.cells #[.bool false, .bool false] 73 (0, 0))).cell? ⟨Ba, 0, none⟩ = some (.slice (some ad1) (x.length + 1) c1) ∧ (wr.drew.alloc (.cells #[.bool false, .bool false] 73 (0, 0))).cell? ⟨Bb, 0, none⟩ = some (.slice (some ad2) (y.length + 1) c2) ∧ (wr.drew.alloc (.cells #[.bool false, .bool false] 73 (0, 0))).cell? ad1 = some (.int .u64 x0) ∧ (wr.drew.alloc (.cells #[.bool false, .bool false] 73 (0, 0))).cell? ad2 = some (.int .u64 y0)) := ⟨fun h => ⟨pw_cell_below (below_alloc (Below.refl _ _) _) h.1, pw_cell_below (below_alloc (Below.refl _ _) _) h.2.1, pw_cell_below (below_alloc (Below.refl _ _) _) h.2.2.1, pw_cell_below (below_alloc (Below.refl _ _) _) h.2.2.2⟩⟩
          go_upto_region 1 with (fail)
          refine start_ (n := 37) (S := fun w' => w'.cell? ⟨Ba, 0, none⟩ = some (.slice (some ad1) (x.length + 1) c1) ∧ w'.cell? ⟨Bb, 0, none⟩ = some (.slice (some ad2) (y.length + 1) c2) ∧ w'.cell? ad1 = some (.int .u64 x0) ∧ w'.cell? ad2 = some (.int .u64 y0)) (ds := [36]) (tb 0 37) (by kernel_rfl) rfl rfl HS0.out (fun hHeld => ?_)
          refine tk 0 (some 14) (v := ?_) (a' := ?_) (tb 1 37) rfl rfl (by kernel_rfl) (fun _ _ _ h => h) ⟨by rfl, ?_⟩ hHeld ?_ ?_; rotate_left; · (rintro w' ⟨s0, s1, s2, s3⟩; go_simp; with_reducible rfl)
          rotate_left; · (simp only [Act.put, sa_, sb_, sc_, i64_w, i32_w]; rfl)
          refine pu 1 (some 15) (v := ?_) (a' := ?_) (tb 2 37) rfl rfl (by kernel_rfl) (fun _ _ _ h => h) ⟨by rfl, ?_⟩ ?_ ?_; rotate_left; · (intro w'; go_simp; with_reducible rfl)
          rotate_left; · (simp only [Act.put, sa_, sb_, sc_, i64_w, i32_w]; rfl)
          refine pu 2 (some 16) (v := ?_) (a' := ?_) (tb 3 37) rfl rfl (by kernel_rfl) (fun _ _ _ h => h) ⟨by rfl, ?_⟩ ?_ ?_; rotate_left; · (intro w'; go_simp; with_reducible rfl)
          rotate_left; · (simp only [Act.put, sa_, sb_, sc_, i64_w, i32_w]; rfl)
          refine pu 3 (some 17) (v := ?_) (a' := ?_) (tb 4 37) rfl rfl (by kernel_rfl) (fun _ _ _ h => h) ⟨by rfl, ?_⟩ ?_ ?_; rotate_left; · (intro w'; go_simp; with_reducible rfl)
          rotate_left; · (simp only [Act.put, sa_, sb_, sc_, i64_w, i32_w]; rfl)
          refine tk 4 (some 18) (v := ?_) (a' := ?_) (tb 5 37) rfl rfl (by kernel_rfl) (fun _ _ _ h => h) ⟨by rfl, ?_⟩ hHeld ?_ ?_; rotate_left; · (rintro w' ⟨s0, s1, s2, s3⟩; go_simp; with_reducible rfl)
          rotate_left; · (simp only [Act.put, sa_, sb_, sc_, i64_w, i32_w]; rfl)
          refine pu 5 (some 19) (v := ?_) (a' := ?_) (tb 6 37) rfl rfl (by kernel_rfl) (fun _ _ _ h => h) ⟨by rfl, ?_⟩ ?_ ?_; rotate_left; · (intro w'; go_simp; with_reducible rfl)
          rotate_left; · (simp only [Act.put, sa_, sb_, sc_, i64_w, i32_w]; rfl)
          refine pu 6 (some 20) (v := ?_) (a' := ?_) (tb 7 37) rfl rfl (by kernel_rfl) (fun _ _ _ h => h) ⟨by rfl, ?_⟩ ?_ ?_; rotate_left; · (intro w'; go_simp; with_reducible rfl)
          rotate_left; · (simp only [Act.put, sa_, sb_, sc_, i64_w, i32_w]; rfl)
          refine pu 7 (some 21) (v := ?_) (a' := ?_) (tb 8 37) rfl rfl (by kernel_rfl) (fun _ _ _ h => h) ⟨by rfl, ?_⟩ ?_ ?_; rotate_left; · (intro w'; go_simp; with_reducible rfl)
          rotate_left; · (simp only [Act.put, sa_, sb_, sc_, i64_w, i32_w]; rfl)
          refine tk 8 (some 22) (v := ?_) (a' := ?_) (tb 9 37) rfl rfl (by kernel_rfl) (fun _ _ _ h => h) ⟨by rfl, ?_⟩ hHeld ?_ ?_; rotate_left; · (rintro w' ⟨s0, s1, s2, s3⟩; go_simp; with_reducible rfl)
          rotate_left; · (simp only [Act.put, sa_, sb_, sc_, i64_w, i32_w]; rfl)
          refine pu 9 (some 23) (v := ?_) (a' := ?_) (tb 10 37) rfl rfl (by kernel_rfl) (fun _ _ _ h => h) ⟨by rfl, ?_⟩ ?_ ?_; rotate_left; · (intro w'; go_simp; with_reducible rfl)
          rotate_left; · (simp only [Act.put, sa_, sb_, sc_, i64_w, i32_w]; rfl)
          refine tk 10 (some 24) (v := ?_) (a' := ?_) (tb 11 37) rfl rfl (by kernel_rfl) (fun _ _ _ h => h) ⟨by rfl, ?_⟩ hHeld ?_ ?_; rotate_left; · (rintro w' ⟨s0, s1, s2, s3⟩; go_simp; with_reducible rfl)
          rotate_left; · (simp only [Act.put, sa_, sb_, sc_, i64_w, i32_w]; rfl)
          refine tk 11 (some 25) (v := ?_) (a' := ?_) (tb 12 37) rfl rfl (by kernel_rfl) (fun _ _ _ h => h) ⟨by rfl, ?_⟩ hHeld ?_ ?_; rotate_left; · (rintro w' ⟨s0, s1, s2, s3⟩; go_simp; with_reducible rfl)
          rotate_left; · (simp only [Act.put, sa_, sb_, sc_, i64_w, i32_w]; rfl)
          refine pu 12 (some 26) (v := ?_) (a' := ?_) (tb 13 37) rfl rfl (by kernel_rfl) (fun _ _ _ h => h) ⟨by rfl, ?_⟩ ?_ ?_; rotate_left; · (intro w'; go_simp; with_reducible rfl)
          rotate_left; · (simp only [Act.put, sa_, sb_, sc_, i64_w, i32_w]; rfl)
          refine tk 13 (some 27) (v := ?_) (a' := ?_) (tb 14 37) rfl rfl (by kernel_rfl) (fun _ _ _ h => h) ⟨by rfl, ?_⟩ hHeld ?_ ?_; rotate_left; · (rintro w' ⟨s0, s1, s2, s3⟩; go_simp; with_reducible rfl)
          rotate_left; · (simp only [Act.put, sa_, sb_, sc_, i64_w, i32_w]; rfl)
          refine pu 14 (some 28) (v := ?_) (a' := ?_) (tb 15 37) rfl rfl (by kernel_rfl) (fun _ _ _ h => h) ⟨by rfl, ?_⟩ ?_ ?_; rotate_left; · (intro w'; go_simp; with_reducible rfl)
          rotate_left; · (simp only [Act.put, sa_, sb_, sc_, i64_w, i32_w]; rfl)
          refine pu 15 (some 29) (v := ?_) (a' := ?_) (tb 16 37) rfl rfl (by kernel_rfl) (fun _ _ _ h => h) ⟨by rfl, ?_⟩ ?_ ?_; rotate_left; · (intro w'; go_simp; with_reducible rfl)
          rotate_left; · (simp only [Act.put, sa_, sb_, sc_, i64_w, i32_w]; rfl)
          refine pu 16 (some 30) (v := ?_) (a' := ?_) (tb 17 37) rfl rfl (by kernel_rfl) (fun _ _ _ h => h) ⟨by rfl, ?_⟩ ?_ ?_; rotate_left; · (intro w'; go_simp; with_reducible rfl)
          rotate_left; · (simp only [Act.put, sa_, sb_, sc_, i64_w, i32_w]; rfl)
          refine tk 17 (some 31) (v := ?_) (a' := ?_) (tb 18 37) rfl rfl (by kernel_rfl) (fun _ _ _ h => h) ⟨by rfl, ?_⟩ hHeld ?_ ?_; rotate_left; · (rintro w' ⟨s0, s1, s2, s3⟩; go_simp; with_reducible rfl)
          rotate_left; · (simp only [Act.put, sa_, sb_, sc_, i64_w, i32_w]; rfl)
          refine pu 18 (some 32) (v := ?_) (a' := ?_) (tb 19 37) rfl rfl (by kernel_rfl) (fun _ _ _ h => h) ⟨by rfl, ?_⟩ ?_ ?_; rotate_left; · (intro w'; go_simp; with_reducible rfl)
          rotate_left; · (simp only [Act.put, sa_, sb_, sc_, i64_w, i32_w]; rfl)
          refine pu 19 (some 33) (v := ?_) (a' := ?_) (tb 20 37) rfl rfl (by kernel_rfl) (fun _ _ _ h => h) ⟨by rfl, ?_⟩ ?_ ?_; rotate_left; · (intro w'; go_simp; with_reducible rfl)
          rotate_left; · (simp only [Act.put, sa_, sb_, sc_, i64_w, i32_w]; rfl)
          refine pu 20 (some 34) (v := ?_) (a' := ?_) (tb 21 37) rfl rfl (by kernel_rfl) (fun _ _ _ h => h) ⟨by rfl, ?_⟩ ?_ ?_; rotate_left; · (intro w'; go_simp; with_reducible rfl)
          rotate_left; · (simp only [Act.put, sa_, sb_, sc_, i64_w, i32_w]; rfl)
          refine tk 21 (some 35) (v := ?_) (a' := ?_) (tb 22 37) rfl rfl (by kernel_rfl) (fun _ _ _ h => h) ⟨by rfl, ?_⟩ hHeld ?_ ?_; rotate_left; · (rintro w' ⟨s0, s1, s2, s3⟩; go_simp; with_reducible rfl)
          rotate_left; · (simp only [Act.put, sa_, sb_, sc_, i64_w, i32_w]; rfl)
          refine pu 22 (some 36) (v := ?_) (a' := ?_) (tb 23 37) rfl rfl (by kernel_rfl) (fun _ _ _ h => h) ⟨by rfl, ?_⟩ ?_ ?_; rotate_left; · (intro w'; go_simp; with_reducible rfl)
          rotate_left; · (simp only [Act.put, sa_, sb_, sc_, i64_w, i32_w]; rfl)
          refine pu 23 (some 37) (v := ?_) (a' := ?_) (tb 24 37) rfl rfl (by kernel_rfl) (fun _ _ _ h => h) ⟨by rfl, ?_⟩ ?_ ?_; rotate_left; · (intro w'; go_simp; with_reducible rfl)
          rotate_left; · (simp only [Act.put, sa_, sb_, sc_, i64_w, i32_w]; rfl)
          refine pu 24 (some 38) (v := ?_) (a' := ?_) (tb 25 37) rfl rfl (by kernel_rfl) (fun _ _ _ h => h) ⟨by rfl, ?_⟩ ?_ ?_; rotate_left; · (intro w'; go_simp; with_reducible rfl)
          rotate_left; · (simp only [Act.put, sa_, sb_, sc_, i64_w, i32_w]; rfl)
          refine tk 25 (some 39) (v := ?_) (a' := ?_) (tb 26 37) rfl rfl (by kernel_rfl) (fun _ _ _ h => h) ⟨by rfl, ?_⟩ hHeld ?_ ?_; rotate_left; · (rintro w' ⟨s0, s1, s2, s3⟩; go_simp; with_reducible rfl)
          rotate_left; · (simp only [Act.put, sa_, sb_, sc_, i64_w, i32_w]; rfl)
          refine pu 26 (some 40) (v := ?_) (a' := ?_) (tb 27 37) rfl rfl (by kernel_rfl) (fun _ _ _ h => h) ⟨by rfl, ?_⟩ ?_ ?_; rotate_left; · (intro w'; go_simp; with_reducible rfl)
          rotate_left; · (simp only [Act.put, sa_, sb_, sc_, i64_w, i32_w]; rfl)
          refine tk 27 (some 41) (v := ?_) (a' := ?_) (tb 28 37) rfl rfl (by kernel_rfl) (fun _ _ _ h => h) ⟨by rfl, ?_⟩ hHeld ?_ ?_; rotate_left; · (rintro w' ⟨s0, s1, s2, s3⟩; go_simp; with_reducible rfl)
          rotate_left; · (simp only [Act.put, sa_, sb_, sc_, i64_w, i32_w]; rfl)
          refine tk 28 (some 42) (v := ?_) (a' := ?_) (tb 29 37) rfl rfl (by kernel_rfl) (fun _ _ _ h => h) ⟨by rfl, ?_⟩ hHeld ?_ ?_; rotate_left; · (rintro w' ⟨s0, s1, s2, s3⟩; go_simp; with_reducible rfl)
          rotate_left; · (simp only [Act.put, sa_, sb_, sc_, i64_w, i32_w]; rfl)
          refine pu 29 (some 43) (v := ?_) (a' := ?_) (tb 30 37) rfl rfl (by kernel_rfl) (fun _ _ _ h => h) ⟨by rfl, ?_⟩ ?_ ?_; rotate_left; · (intro w'; go_simp; with_reducible rfl)
          rotate_left; · (simp only [Act.put, sa_, sb_, sc_, i64_w, i32_w]; rfl)
          refine tk 30 (some 44) (v := ?_) (a' := ?_) (tb 31 37) rfl rfl (by kernel_rfl) (fun _ _ _ h => h) ⟨by rfl, ?_⟩ hHeld ?_ ?_; rotate_left; · (rintro w' ⟨s0, s1, s2, s3⟩; go_simp; with_reducible rfl)
          rotate_left; · (simp only [Act.put, sa_, sb_, sc_, i64_w, i32_w]; rfl)
          refine pu 31 (some 45) (v := ?_) (a' := ?_) (tb 32 37) rfl rfl (by kernel_rfl) (fun _ _ _ h => h) ⟨by rfl, ?_⟩ ?_ ?_; rotate_left; · (intro w'; go_simp; with_reducible rfl)
          rotate_left; · (simp only [Act.put, sa_, sb_, sc_, i64_w, i32_w]; rfl)
          refine pu 32 (some 46) (v := ?_) (a' := ?_) (tb 33 37) rfl rfl (by kernel_rfl) (fun _ _ _ h => h) ⟨by rfl, ?_⟩ ?_ ?_; rotate_left; · (intro w'; go_simp; with_reducible rfl)
          rotate_left; · (simp only [Act.put, sa_, sb_, sc_, i64_w, i32_w]; rfl)
          refine pu 33 (some 47) (v := ?_) (a' := ?_) (tb 34 37) rfl rfl (by kernel_rfl) (fun _ _ _ h => h) ⟨by rfl, ?_⟩ ?_ ?_; rotate_left; · (intro w'; go_simp; with_reducible rfl)
          rotate_left; · (simp only [Act.put, sa_, sb_, sc_, i64_w, i32_w]; rfl)
          refine pu 34 (some 48) (v := ?_) (a' := ?_) (tb 35 37) rfl rfl (by kernel_rfl) (fun _ _ _ h => h) ⟨by rfl, ?_⟩ ?_ ?_; rotate_left; · (intro w'; go_simp; with_reducible rfl)
          rotate_left; · (simp only [Act.put, sa_, sb_, sc_, i64_w, i32_w]; rfl)
          refine one_ (i := 35) (N := some 4) (tb 36 37) rfl rfl (by kernel_rfl) (by decide) (fun K hK => ?_)
          refine value_ (w1 := ?_) (v := ?_) (by rfl) rfl ?_ ?_
          rotate_left 2
          · go_simp
            constructor
            · rfl
            · rfl
          refine hK.out _ _ (HA0.out hHeld) (fun hHeld => ?_)
          clear hK K
          refine norm_ (a' := ?_) ?_ ?_
          rotate_left
          · show Act.put _ (some 4) _ = _
            simp only [Act.put, List.setIfInBounds_toArray, List.set_cons_zero, List.set_cons_succ, i64_w, i32_w]
            rfl
          refine last_ (i := 36) (N := none) (tb 37 37) rfl rfl (by kernel_rfl) (by decide) (fun K hK => ?_)
          have hs20 := blk_cell (blk_new wr.drew (.cells #[.bool false, .bool false] 73 (0, 0))) 0
          have hs21 := blk_cell (blk_new wr.drew (.cells #[.bool false, .bool false] 73 (0, 0))) 1
          have hf20 := blk_frozen (blk_new wr.drew (.cells #[.bool false, .bool false] 73 (0, 0))) 0
          have hf21 := blk_frozen (blk_new wr.drew (.cells #[.bool false, .bool false] 73 (0, 0))) 1
          refine skip_ (w1 := ?_) (by rfl) rfl ?_ ?_
          rotate_left
          · go_simp
            rfl
          refine hK.out _ _ ?_
          clear hK K
          refine done_ (by kernel_rfl) ?_
          obtain ⟨w3, hw3⟩ : ∃ w3, w3 = (wr.alloc (Obj.cells #[Value.bool true, Value.bool false] 73)).drew := ⟨_, rfl⟩
          have hb3 : Below wr.heap.size wr w3 := by rw [hw3]; exact ((Below.refl _ _).alloc (Nat.le_refl _) _).drew
          have hx3 : w3.heap[wr.heap.size]? = some (.cells #[.bool true, .bool false] 73 (0, 0)) := by rw [hw3]; exact blk_drew (blk_new _ _)
          rw [← hw3]
          clear hw3
          have HX3 := Aside0.mk hx3
          have HJ3 : Aside0 (J pre w3) := ⟨HJB.out _ _ _ HJ.out hb3⟩
          have HA3 : Aside0 (sl1 w3 Ba (some ad1) (x.length + 1) c1) := ⟨blk_below ha hb3⟩
          have HB3 : Aside0 (sl1 w3 Bb (some ad2) (y.length + 1) c2) := ⟨blk_below hb hb3⟩
          repeat clear hHeld
          clear HS0 HA0 HJ HL ha hb hsa hsb hb3 hs20 hs21 hf20 hf21 hc1 hc2
          generalize wr.heap.size = gx at hx3 HX3 ⊢
          obtain ⟨ad1', e1, hc1⟩ := Kd.at_int (hca w3 (HJC.out _ _ HJ3.out).1) 0 (by omega) (by simp)
          injection e1 with e1
          subst e1
          rw [show (0 : Int).toNat = 0 from rfl, Addr.add_zero'] at hc1
          have hcx0 := blk_cell HX3.out 0
          have hcx1 := blk_cell HX3.out 1
          go_upto_region 4 with (fail)
          have hs3 := blk_cell HA3.out 0
          have hf3 := blk_frozen HA3.out 0
          have HS1 : Aside0 (w3.drew.cell? ⟨Ba, 0, none⟩ = some (.slice (some ad1) (x.length + 1) c1) ∧ w3.drew.cell? ad1 = some (.int .u64 x0)) := ⟨⟨hs3, hc1⟩⟩
          obtain ⟨i0, hi0, _, hsz, _⟩ := info_parts minfo_u64
          have hcut := cut_from (P := Try.prog) 23 22 .i64 Try.underlying23 hi0 1 hsz (some ad1) (x.length + 1) c1 1 (by omega) (by omega)
          clear hi0 hsz
          have hdr1 : ∀ W, Kd.C (Kd.int .u64) W Aa xa.length xa → Kd.C (Kd.int .u64) W (if c1 = 1 then some ad1 else (some ad1).map (·.add (1 * 1))) x.length x := fun W h => Kd.C_drop (m := 1) (hca W h) (by simp) hac
          obtain ⟨A1n, hA1n⟩ : ∃ A', A' = (if c1 = 1 then some ad1 else (some ad1).map (·.add (1 * 1))) := ⟨_, rfl⟩
          obtain ⟨c1n, hc1n⟩ : ∃ c', c' = c1 - 1 := ⟨_, rfl⟩
          rw [show (1 : Int).toNat = 1 from rfl, show x.length + 1 - 1 = x.length by omega, ← hc1n] at hcut
          rw [← hA1n] at hcut hdr1
          have hcn1 : x.length ≤ c1n := by simp at hac; omega
          clear hA1n hc1n
          refine start_ (n := 7) (S := fun w' => w'.cell? ⟨Ba, 0, none⟩ = some (.slice (some ad1) (x.length + 1) c1) ∧ w'.cell? ad1 = some (.int .u64 x0)) (ds := [6]) (tb 0 7) (by kernel_rfl) rfl rfl HS1.out (fun hHeld => ?_)
          refine tk 0 (some 51) (v := ?_) (a' := ?_) (tb 1 7) rfl rfl (by kernel_rfl) (fun _ _ _ h => h) ⟨by rfl, ?_⟩ hHeld ?_ ?_; rotate_left; · (rintro w' ⟨s0, s1⟩; go_simp; with_reducible rfl)
          rotate_left; · (simp only [Act.put, sa_, sb_, sc_, i64_w, i32_w]; rfl)
          refine pu 1 (some 52) (v := ?_) (a' := ?_) (tb 2 7) rfl rfl (by kernel_rfl) (fun _ _ _ h => h) ⟨by rfl, ?_⟩ ?_ ?_; rotate_left; · (intro w'; go_simp; with_reducible rfl)
          rotate_left; · (simp only [Act.put, sa_, sb_, sc_, i64_w, i32_w]; rfl)
          refine tk 2 (some 53) (v := ?_) (a' := ?_) (tb 3 7) rfl rfl (by kernel_rfl) (fun _ _ _ h => h) ⟨by rfl, ?_⟩ hHeld ?_ ?_; rotate_left; · (rintro w' ⟨s0, s1⟩; go_simp; with_reducible rfl)
          rotate_left; · (simp only [Act.put, sa_, sb_, sc_, i64_w, i32_w]; rfl)
          refine tk 3 (some 54) (v := ?_) (a' := ?_) (tb 4 7) rfl rfl (by kernel_rfl) (fun _ _ _ h => h) ⟨by rfl, ?_⟩ hHeld ?_ ?_; rotate_left; · (rintro w' ⟨s0, s1⟩; go_simp; with_reducible rfl)
          rotate_left; · (simp only [Act.put, sa_, sb_, sc_, i64_w, i32_w]; rfl)
          refine pu 4 (some 55) (v := ?_) (a' := ?_) (tb 5 7) rfl rfl (by kernel_rfl) (fun _ _ _ h => h) ⟨by rfl, ?_⟩ ?_ ?_; rotate_left; · (intro w'; go_simp; with_reducible rfl)
          rotate_left; · (simp only [Act.put, sa_, sb_, sc_, i64_w, i32_w]; rfl)
          refine pu 5 (some 5) (v := ?_) (a' := ?_) (tb 6 7) rfl rfl (by kernel_rfl) (fun _ _ _ h => h) ⟨by rfl, ?_⟩ ?_ ?_; rotate_left; · (intro w'; go_simp; with_reducible rfl)
          rotate_left; · (simp only [Act.put, sa_, sb_, sc_, i64_w, i32_w]; rfl)
          refine last_ (i := 6) (N := none) (tb 7 7) rfl rfl (by kernel_rfl) (by decide) (fun K hK => ?_)
          refine skip_ (w1 := ?_) (by rfl) rfl ?_ ?_
          rotate_left
          · go_simp
            rfl
          refine hK.out _ _ ?_
          clear hK K
          refine done_ (by kernel_rfl) ?_
          obtain ⟨w4, hw4⟩ : ∃ wz, wz = (w3.setCell ⟨Ba, 0, none⟩ (.slice A1n x.length c1n)).drew := ⟨_, rfl⟩
          have HJ4 : Aside0 (J pre w4) := ⟨by rw [hw4]; exact HJB.out _ _ _ (HJS.out _ _ Ba (.slice A1n x.length c1n) (.inl rfl) HJ3.out) (Below.refl _ _).drew⟩
          have HA4 : Aside0 (sl1 w4 Ba A1n x.length c1n) := ⟨by rw [hw4]; exact blk_drew (blk_put HA3.out 0 _ rfl)⟩
          have HB4 : Aside0 (sl1 w4 Bb (some ad2) (y.length + 1) c2) := ⟨by rw [hw4]; exact blk_drew (blk_far HB3.out (Ne.symm HNE.out) _)⟩
          have hx4 : w4.heap[gx]? = some (.cells #[.bool true, .bool false] 73 (0, 0)) := by rw [hw4]; exact blk_drew (blk_far HX3.out (sl1_ne HX3.out HA3.out (by decide)) _)
          rw [← hw4]
          clear hw4
          have HX4 := Aside0.mk hx4
          clear hx4
          repeat clear hHeld
          clear HJ3 HA3 HB3 HX3 hcx0 hcx1 hs3 hf3 HS1 hc1 hcut hx3
          have HQ : Aside0 (pairsS xa xb = pre ++ (x0, true, false) :: pairsS x (y0 :: y)) := ⟨by have := HP.out; rw [pairsS, if_pos hlt] at this; exact this⟩
          have HL4 : Aside0 (Left xa xb Aa Ab Ba Bb w4 x (y0 :: y)) := ⟨⟨_, _, HA4.out, hcn1, hdr1⟩, ⟨_, _, HB4.out, hbc, hcb⟩⟩
          have hcx0 := blk_cell HX4.out 0
          have hcx1 := blk_cell HX4.out 1
          go_upto_region 7 with (fail)
          obtain ⟨fn, tmps, assign, body, hy, hR⟩ := HY.out pre (x0, true, false) (pairsS x (y0 :: y)) w4 HJ4.out HQ.out x (y0 :: y) HL4.out
          dsimp only [enc3] at hy
          refine (wpIn_wide (n := 4)).1 ?_
          gi_wp2
          refine hR.mono ?_
          rintro e W5 ⟨rfl, hJ5, hL5⟩
          gi_wp2
          go_wp2
          cases gk with
          | zero => have := HN.out; omega
          | succ k1 =>
            go_roundg k1
            case measure => omega
            case rel => exact ⟨pre ++ [(x0, true, false)], x, (y0 :: y), ⟨by rw [HQ.out, List.append_assoc]; rfl⟩, ⟨by have := HN.out; simp at this ⊢; omega⟩, ⟨hJ5⟩, ⟨hL5⟩⟩
        · subst heq
          have d1 : decide (x0 ≤ x0) = true := by simp
          have dz1 : ((x.length : Int) + 1 == 0) = false := by simp; omega
          have dz2 : ((y.length : Int) + 1 == 0) = false := by simp; omega
          obtain ⟨ad1, e1, hc1⟩ := Kd.at_int (hca wr (HJC.out _ _ HJ.out).1) 0 (by omega) (by simp)
          obtain ⟨ad2, e2, hc2⟩ := Kd.at_int (hcb wr (HJC.out _ _ HJ.out).2) 0 (by omega) (by simp)
          subst e1
          subst e2
          rw [show (0 : Int).toNat = 0 from rfl, Addr.add_zero'] at hc1 hc2
          have HS0 : Aside0 (wr.drew.cell? ⟨Ba, 0, none⟩ = some (.slice (some ad1) (x.length + 1) c1) ∧ wr.drew.cell? ⟨Bb, 0, none⟩ = some (.slice (some ad2) (y.length + 1) c2) ∧ wr.drew.cell? ad1 = some (.int .u64 x0) ∧ wr.drew.cell? ad2 = some (.int .u64 x0)) := ⟨⟨hsa, hsb, hc1, hc2⟩⟩
          have HA0 : Aside0 (wr.drew.cell? ⟨Ba, 0, none⟩ = some (.slice (some ad1) (x.length + 1) c1) ∧ wr.drew.cell? ⟨Bb, 0, none⟩ = some (.slice (some ad2) (y.length + 1) c2) ∧ wr.drew.cell? ad1 = some (.int .u64 x0) ∧ wr.drew.cell? ad2 = some (.int .u64 x0) → (wr.drew.alloc (.cells #[.bool false, .bool false] 73 (0, 0))).cell? ⟨Ba, 0, none⟩ = some (.slice (some ad1) (x.length + 1) c1) ∧ (wr.drew.alloc (.cells #[.bool false, .bool false] 73 (0, 0))).cell? ⟨Bb, 0, none⟩ = some (.slice (some ad2) (y.length + 1) c2) ∧ (wr.drew.alloc (.cells #[.bool false, .bool false] 73 (0, 0))).cell? ad1 = some (.int .u64 x0) ∧ (wr.drew.alloc (.cells #[.bool false, .bool false] 73 (0, 0))).cell? ad2 = some (.int .u64 x0)) := ⟨fun h => ⟨pw_cell_below (below_alloc (Below.refl _ _) _) h.1, pw_cell_below (below_alloc (Below.refl _ _) _) h.2.1, pw_cell_below (below_alloc (Below.refl _ _) _) h.2.2.1, pw_cell_below (below_alloc (Below.refl _ _) _) h.2.2.2⟩⟩
          go_upto_region 1 with (fail)
          refine start_ (n := 37) (S := fun w' => w'.cell? ⟨Ba, 0, none⟩ = some (.slice (some ad1) (x.length + 1) c1) ∧ w'.cell? ⟨Bb, 0, none⟩ = some (.slice (some ad2) (y.length + 1) c2) ∧ w'.cell? ad1 = some (.int .u64 x0) ∧ w'.cell? ad2 = some (.int .u64 x0)) (ds := [36]) (tb 0 37) (by kernel_rfl) rfl rfl HS0.out (fun hHeld => ?_)
          refine tk 0 (some 14) (v := ?_) (a' := ?_) (tb 1 37) rfl rfl (by kernel_rfl) (fun _ _ _ h => h) ⟨by rfl, ?_⟩ hHeld ?_ ?_; rotate_left; · (rintro w' ⟨s0, s1, s2, s3⟩; go_simp; with_reducible rfl)
          rotate_left; · (simp only [Act.put, sa_, sb_, sc_, i64_w, i32_w]; rfl)
          refine pu 1 (some 15) (v := ?_) (a' := ?_) (tb 2 37) rfl rfl (by kernel_rfl) (fun _ _ _ h => h) ⟨by rfl, ?_⟩ ?_ ?_; rotate_left; · (intro w'; go_simp; with_reducible rfl)
          rotate_left; · (simp only [Act.put, sa_, sb_, sc_, i64_w, i32_w]; rfl)
          refine pu 2 (some 16) (v := ?_) (a' := ?_) (tb 3 37) rfl rfl (by kernel_rfl) (fun _ _ _ h => h) ⟨by rfl, ?_⟩ ?_ ?_; rotate_left; · (intro w'; go_simp; with_reducible rfl)
          rotate_left; · (simp only [Act.put, sa_, sb_, sc_, i64_w, i32_w]; rfl)
          refine pu 3 (some 17) (v := ?_) (a' := ?_) (tb 4 37) rfl rfl (by kernel_rfl) (fun _ _ _ h => h) ⟨by rfl, ?_⟩ ?_ ?_; rotate_left; · (intro w'; go_simp; with_reducible rfl)
          rotate_left; · (simp only [Act.put, sa_, sb_, sc_, i64_w, i32_w]; rfl)
          refine tk 4 (some 18) (v := ?_) (a' := ?_) (tb 5 37) rfl rfl (by kernel_rfl) (fun _ _ _ h => h) ⟨by rfl, ?_⟩ hHeld ?_ ?_; rotate_left; · (rintro w' ⟨s0, s1, s2, s3⟩; go_simp; with_reducible rfl)
          rotate_left; · (simp only [Act.put, sa_, sb_, sc_, i64_w, i32_w]; rfl)
          refine pu 5 (some 19) (v := ?_) (a' := ?_) (tb 6 37) rfl rfl (by kernel_rfl) (fun _ _ _ h => h) ⟨by rfl, ?_⟩ ?_ ?_; rotate_left; · (intro w'; go_simp; with_reducible rfl)
          rotate_left; · (simp only [Act.put, sa_, sb_, sc_, i64_w, i32_w]; rfl)
          refine pu 6 (some 20) (v := ?_) (a' := ?_) (tb 7 37) rfl rfl (by kernel_rfl) (fun _ _ _ h => h) ⟨by rfl, ?_⟩ ?_ ?_; rotate_left; · (intro w'; go_simp; with_reducible rfl)
          rotate_left; · (simp only [Act.put, sa_, sb_, sc_, i64_w, i32_w]; rfl)
          refine pu 7 (some 21) (v := ?_) (a' := ?_) (tb 8 37) rfl rfl (by kernel_rfl) (fun _ _ _ h => h) ⟨by rfl, ?_⟩ ?_ ?_; rotate_left; · (intro w'; go_simp; with_reducible rfl)
          rotate_left; · (simp only [Act.put, sa_, sb_, sc_, i64_w, i32_w]; rfl)
          refine tk 8 (some 22) (v := ?_) (a' := ?_) (tb 9 37) rfl rfl (by kernel_rfl) (fun _ _ _ h => h) ⟨by rfl, ?_⟩ hHeld ?_ ?_; rotate_left; · (rintro w' ⟨s0, s1, s2, s3⟩; go_simp; with_reducible rfl)
          rotate_left; · (simp only [Act.put, sa_, sb_, sc_, i64_w, i32_w]; rfl)
          refine pu 9 (some 23) (v := ?_) (a' := ?_) (tb 10 37) rfl rfl (by kernel_rfl) (fun _ _ _ h => h) ⟨by rfl, ?_⟩ ?_ ?_; rotate_left; · (intro w'; go_simp; with_reducible rfl)
          rotate_left; · (simp only [Act.put, sa_, sb_, sc_, i64_w, i32_w]; rfl)
          refine tk 10 (some 24) (v := ?_) (a' := ?_) (tb 11 37) rfl rfl (by kernel_rfl) (fun _ _ _ h => h) ⟨by rfl, ?_⟩ hHeld ?_ ?_; rotate_left; · (rintro w' ⟨s0, s1, s2, s3⟩; go_simp; with_reducible rfl)
          rotate_left; · (simp only [Act.put, sa_, sb_, sc_, i64_w, i32_w]; rfl)
          refine tk 11 (some 25) (v := ?_) (a' := ?_) (tb 12 37) rfl rfl (by kernel_rfl) (fun _ _ _ h => h) ⟨by rfl, ?_⟩ hHeld ?_ ?_; rotate_left; · (rintro w' ⟨s0, s1, s2, s3⟩; go_simp; with_reducible rfl)
          rotate_left; · (simp only [Act.put, sa_, sb_, sc_, i64_w, i32_w]; rfl)
          refine pu 12 (some 26) (v := ?_) (a' := ?_) (tb 13 37) rfl rfl (by kernel_rfl) (fun _ _ _ h => h) ⟨by rfl, ?_⟩ ?_ ?_; rotate_left; · (intro w'; go_simp; with_reducible rfl)
          rotate_left; · (simp only [Act.put, sa_, sb_, sc_, i64_w, i32_w]; rfl)
          refine tk 13 (some 27) (v := ?_) (a' := ?_) (tb 14 37) rfl rfl (by kernel_rfl) (fun _ _ _ h => h) ⟨by rfl, ?_⟩ hHeld ?_ ?_; rotate_left; · (rintro w' ⟨s0, s1, s2, s3⟩; go_simp; with_reducible rfl)
          rotate_left; · (simp only [Act.put, sa_, sb_, sc_, i64_w, i32_w]; rfl)
          refine pu 14 (some 28) (v := ?_) (a' := ?_) (tb 15 37) rfl rfl (by kernel_rfl) (fun _ _ _ h => h) ⟨by rfl, ?_⟩ ?_ ?_; rotate_left; · (intro w'; go_simp; with_reducible rfl)
          rotate_left; · (simp only [Act.put, sa_, sb_, sc_, i64_w, i32_w]; rfl)
          refine pu 15 (some 29) (v := ?_) (a' := ?_) (tb 16 37) rfl rfl (by kernel_rfl) (fun _ _ _ h => h) ⟨by rfl, ?_⟩ ?_ ?_; rotate_left; · (intro w'; go_simp; with_reducible rfl)
          rotate_left; · (simp only [Act.put, sa_, sb_, sc_, i64_w, i32_w]; rfl)
          refine pu 16 (some 30) (v := ?_) (a' := ?_) (tb 17 37) rfl rfl (by kernel_rfl) (fun _ _ _ h => h) ⟨by rfl, ?_⟩ ?_ ?_; rotate_left; · (intro w'; go_simp; with_reducible rfl)
          rotate_left; · (simp only [Act.put, sa_, sb_, sc_, i64_w, i32_w]; rfl)
          refine tk 17 (some 31) (v := ?_) (a' := ?_) (tb 18 37) rfl rfl (by kernel_rfl) (fun _ _ _ h => h) ⟨by rfl, ?_⟩ hHeld ?_ ?_; rotate_left; · (rintro w' ⟨s0, s1, s2, s3⟩; go_simp; with_reducible rfl)
          rotate_left; · (simp only [Act.put, sa_, sb_, sc_, i64_w, i32_w]; rfl)
          refine pu 18 (some 32) (v := ?_) (a' := ?_) (tb 19 37) rfl rfl (by kernel_rfl) (fun _ _ _ h => h) ⟨by rfl, ?_⟩ ?_ ?_; rotate_left; · (intro w'; go_simp; with_reducible rfl)
          rotate_left; · (simp only [Act.put, sa_, sb_, sc_, i64_w, i32_w]; rfl)
          refine pu 19 (some 33) (v := ?_) (a' := ?_) (tb 20 37) rfl rfl (by kernel_rfl) (fun _ _ _ h => h) ⟨by rfl, ?_⟩ ?_ ?_; rotate_left; · (intro w'; go_simp; with_reducible rfl)
          rotate_left; · (simp only [Act.put, sa_, sb_, sc_, i64_w, i32_w]; rfl)
          refine pu 20 (some 34) (v := ?_) (a' := ?_) (tb 21 37) rfl rfl (by kernel_rfl) (fun _ _ _ h => h) ⟨by rfl, ?_⟩ ?_ ?_; rotate_left; · (intro w'; go_simp; with_reducible rfl)
          rotate_left; · (simp only [Act.put, sa_, sb_, sc_, i64_w, i32_w]; rfl)
          refine tk 21 (some 35) (v := ?_) (a' := ?_) (tb 22 37) rfl rfl (by kernel_rfl) (fun _ _ _ h => h) ⟨by rfl, ?_⟩ hHeld ?_ ?_; rotate_left; · (rintro w' ⟨s0, s1, s2, s3⟩; go_simp; with_reducible rfl)
          rotate_left; · (simp only [Act.put, sa_, sb_, sc_, i64_w, i32_w]; rfl)
          refine pu 22 (some 36) (v := ?_) (a' := ?_) (tb 23 37) rfl rfl (by kernel_rfl) (fun _ _ _ h => h) ⟨by rfl, ?_⟩ ?_ ?_; rotate_left; · (intro w'; go_simp; with_reducible rfl)
          rotate_left; · (simp only [Act.put, sa_, sb_, sc_, i64_w, i32_w]; rfl)
          refine pu 23 (some 37) (v := ?_) (a' := ?_) (tb 24 37) rfl rfl (by kernel_rfl) (fun _ _ _ h => h) ⟨by rfl, ?_⟩ ?_ ?_; rotate_left; · (intro w'; go_simp; with_reducible rfl)
          rotate_left; · (simp only [Act.put, sa_, sb_, sc_, i64_w, i32_w]; rfl)
          refine pu 24 (some 38) (v := ?_) (a' := ?_) (tb 25 37) rfl rfl (by kernel_rfl) (fun _ _ _ h => h) ⟨by rfl, ?_⟩ ?_ ?_; rotate_left; · (intro w'; go_simp; with_reducible rfl)
          rotate_left; · (simp only [Act.put, sa_, sb_, sc_, i64_w, i32_w]; rfl)
          refine tk 25 (some 39) (v := ?_) (a' := ?_) (tb 26 37) rfl rfl (by kernel_rfl) (fun _ _ _ h => h) ⟨by rfl, ?_⟩ hHeld ?_ ?_; rotate_left; · (rintro w' ⟨s0, s1, s2, s3⟩; go_simp; with_reducible rfl)
          rotate_left; · (simp only [Act.put, sa_, sb_, sc_, i64_w, i32_w]; rfl)
          refine pu 26 (some 40) (v := ?_) (a' := ?_) (tb 27 37) rfl rfl (by kernel_rfl) (fun _ _ _ h => h) ⟨by rfl, ?_⟩ ?_ ?_; rotate_left; · (intro w'; go_simp; with_reducible rfl)
          rotate_left; · (simp only [Act.put, sa_, sb_, sc_, i64_w, i32_w]; rfl)
          refine tk 27 (some 41) (v := ?_) (a' := ?_) (tb 28 37) rfl rfl (by kernel_rfl) (fun _ _ _ h => h) ⟨by rfl, ?_⟩ hHeld ?_ ?_; rotate_left; · (rintro w' ⟨s0, s1, s2, s3⟩; go_simp; with_reducible rfl)
          rotate_left; · (simp only [Act.put, sa_, sb_, sc_, i64_w, i32_w]; rfl)
          refine tk 28 (some 42) (v := ?_) (a' := ?_) (tb 29 37) rfl rfl (by kernel_rfl) (fun _ _ _ h => h) ⟨by rfl, ?_⟩ hHeld ?_ ?_; rotate_left; · (rintro w' ⟨s0, s1, s2, s3⟩; go_simp; with_reducible rfl)
          rotate_left; · (simp only [Act.put, sa_, sb_, sc_, i64_w, i32_w]; rfl)
          refine pu 29 (some 43) (v := ?_) (a' := ?_) (tb 30 37) rfl rfl (by kernel_rfl) (fun _ _ _ h => h) ⟨by rfl, ?_⟩ ?_ ?_; rotate_left; · (intro w'; go_simp; with_reducible rfl)
          rotate_left; · (simp only [Act.put, sa_, sb_, sc_, i64_w, i32_w]; rfl)
          refine tk 30 (some 44) (v := ?_) (a' := ?_) (tb 31 37) rfl rfl (by kernel_rfl) (fun _ _ _ h => h) ⟨by rfl, ?_⟩ hHeld ?_ ?_; rotate_left; · (rintro w' ⟨s0, s1, s2, s3⟩; go_simp; with_reducible rfl)
          rotate_left; · (simp only [Act.put, sa_, sb_, sc_, i64_w, i32_w]; rfl)
          refine pu 31 (some 45) (v := ?_) (a' := ?_) (tb 32 37) rfl rfl (by kernel_rfl) (fun _ _ _ h => h) ⟨by rfl, ?_⟩ ?_ ?_; rotate_left; · (intro w'; go_simp; with_reducible rfl)
          rotate_left; · (simp only [Act.put, sa_, sb_, sc_, i64_w, i32_w]; rfl)
          refine pu 32 (some 46) (v := ?_) (a' := ?_) (tb 33 37) rfl rfl (by kernel_rfl) (fun _ _ _ h => h) ⟨by rfl, ?_⟩ ?_ ?_; rotate_left; · (intro w'; go_simp; with_reducible rfl)
          rotate_left; · (simp only [Act.put, sa_, sb_, sc_, i64_w, i32_w]; rfl)
          refine pu 33 (some 47) (v := ?_) (a' := ?_) (tb 34 37) rfl rfl (by kernel_rfl) (fun _ _ _ h => h) ⟨by rfl, ?_⟩ ?_ ?_; rotate_left; · (intro w'; go_simp; with_reducible rfl)
          rotate_left; · (simp only [Act.put, sa_, sb_, sc_, i64_w, i32_w]; rfl)
          refine pu 34 (some 48) (v := ?_) (a' := ?_) (tb 35 37) rfl rfl (by kernel_rfl) (fun _ _ _ h => h) ⟨by rfl, ?_⟩ ?_ ?_; rotate_left; · (intro w'; go_simp; with_reducible rfl)
          rotate_left; · (simp only [Act.put, sa_, sb_, sc_, i64_w, i32_w]; rfl)
          refine one_ (i := 35) (N := some 4) (tb 36 37) rfl rfl (by kernel_rfl) (by decide) (fun K hK => ?_)
          refine value_ (w1 := ?_) (v := ?_) (by rfl) rfl ?_ ?_
          rotate_left 2
          · go_simp
            constructor
            · rfl
            · rfl
          refine hK.out _ _ (HA0.out hHeld) (fun hHeld => ?_)
          clear hK K
          refine norm_ (a' := ?_) ?_ ?_
          rotate_left
          · show Act.put _ (some 4) _ = _
            simp only [Act.put, List.setIfInBounds_toArray, List.set_cons_zero, List.set_cons_succ, i64_w, i32_w]
            rfl
          refine last_ (i := 36) (N := none) (tb 37 37) rfl rfl (by kernel_rfl) (by decide) (fun K hK => ?_)
          have hs20 := blk_cell (blk_new wr.drew (.cells #[.bool false, .bool false] 73 (0, 0))) 0
          have hs21 := blk_cell (blk_new wr.drew (.cells #[.bool false, .bool false] 73 (0, 0))) 1
          have hf20 := blk_frozen (blk_new wr.drew (.cells #[.bool false, .bool false] 73 (0, 0))) 0
          have hf21 := blk_frozen (blk_new wr.drew (.cells #[.bool false, .bool false] 73 (0, 0))) 1
          refine skip_ (w1 := ?_) (by rfl) rfl ?_ ?_
          rotate_left
          · go_simp
            rfl
          refine hK.out _ _ ?_
          clear hK K
          refine done_ (by kernel_rfl) ?_
          obtain ⟨w3, hw3⟩ : ∃ w3, w3 = (wr.alloc (Obj.cells #[Value.bool true, Value.bool true] 73)).drew := ⟨_, rfl⟩
          have hb3 : Below wr.heap.size wr w3 := by rw [hw3]; exact ((Below.refl _ _).alloc (Nat.le_refl _) _).drew
          have hx3 : w3.heap[wr.heap.size]? = some (.cells #[.bool true, .bool true] 73 (0, 0)) := by rw [hw3]; exact blk_drew (blk_new _ _)
          rw [← hw3]
          clear hw3
          have HX3 := Aside0.mk hx3
          have HJ3 : Aside0 (J pre w3) := ⟨HJB.out _ _ _ HJ.out hb3⟩
          have HA3 : Aside0 (sl1 w3 Ba (some ad1) (x.length + 1) c1) := ⟨blk_below ha hb3⟩
          have HB3 : Aside0 (sl1 w3 Bb (some ad2) (y.length + 1) c2) := ⟨blk_below hb hb3⟩
          repeat clear hHeld
          clear HS0 HA0 HJ HL ha hb hsa hsb hb3 hs20 hs21 hf20 hf21 hc1 hc2
          generalize wr.heap.size = gx at hx3 HX3 ⊢
          obtain ⟨ad1', e1, hc1⟩ := Kd.at_int (hca w3 (HJC.out _ _ HJ3.out).1) 0 (by omega) (by simp)
          injection e1 with e1
          subst e1
          rw [show (0 : Int).toNat = 0 from rfl, Addr.add_zero'] at hc1
          have hcx0 := blk_cell HX3.out 0
          have hcx1 := blk_cell HX3.out 1
          go_upto_region 4 with (fail)
          have hs3 := blk_cell HA3.out 0
          have hf3 := blk_frozen HA3.out 0
          have HS1 : Aside0 (w3.drew.cell? ⟨Ba, 0, none⟩ = some (.slice (some ad1) (x.length + 1) c1) ∧ w3.drew.cell? ad1 = some (.int .u64 x0)) := ⟨⟨hs3, hc1⟩⟩
          obtain ⟨i0, hi0, _, hsz, _⟩ := info_parts minfo_u64
          have hcut := cut_from (P := Try.prog) 23 22 .i64 Try.underlying23 hi0 1 hsz (some ad1) (x.length + 1) c1 1 (by omega) (by omega)
          clear hi0 hsz
          have hdr1 : ∀ W, Kd.C (Kd.int .u64) W Aa xa.length xa → Kd.C (Kd.int .u64) W (if c1 = 1 then some ad1 else (some ad1).map (·.add (1 * 1))) x.length x := fun W h => Kd.C_drop (m := 1) (hca W h) (by simp) hac
          obtain ⟨A1n, hA1n⟩ : ∃ A', A' = (if c1 = 1 then some ad1 else (some ad1).map (·.add (1 * 1))) := ⟨_, rfl⟩
          obtain ⟨c1n, hc1n⟩ : ∃ c', c' = c1 - 1 := ⟨_, rfl⟩
          rw [show (1 : Int).toNat = 1 from rfl, show x.length + 1 - 1 = x.length by omega, ← hc1n] at hcut
          rw [← hA1n] at hcut hdr1
          have hcn1 : x.length ≤ c1n := by simp at hac; omega
          clear hA1n hc1n
          refine start_ (n := 7) (S := fun w' => w'.cell? ⟨Ba, 0, none⟩ = some (.slice (some ad1) (x.length + 1) c1) ∧ w'.cell? ad1 = some (.int .u64 x0)) (ds := [6]) (tb 0 7) (by kernel_rfl) rfl rfl HS1.out (fun hHeld => ?_)
          refine tk 0 (some 51) (v := ?_) (a' := ?_) (tb 1 7) rfl rfl (by kernel_rfl) (fun _ _ _ h => h) ⟨by rfl, ?_⟩ hHeld ?_ ?_; rotate_left; · (rintro w' ⟨s0, s1⟩; go_simp; with_reducible rfl)
          rotate_left; · (simp only [Act.put, sa_, sb_, sc_, i64_w, i32_w]; rfl)
          refine pu 1 (some 52) (v := ?_) (a' := ?_) (tb 2 7) rfl rfl (by kernel_rfl) (fun _ _ _ h => h) ⟨by rfl, ?_⟩ ?_ ?_; rotate_left; · (intro w'; go_simp; with_reducible rfl)
          rotate_left; · (simp only [Act.put, sa_, sb_, sc_, i64_w, i32_w]; rfl)
          refine tk 2 (some 53) (v := ?_) (a' := ?_) (tb 3 7) rfl rfl (by kernel_rfl) (fun _ _ _ h => h) ⟨by rfl, ?_⟩ hHeld ?_ ?_; rotate_left; · (rintro w' ⟨s0, s1⟩; go_simp; with_reducible rfl)
          rotate_left; · (simp only [Act.put, sa_, sb_, sc_, i64_w, i32_w]; rfl)
          refine tk 3 (some 54) (v := ?_) (a' := ?_) (tb 4 7) rfl rfl (by kernel_rfl) (fun _ _ _ h => h) ⟨by rfl, ?_⟩ hHeld ?_ ?_; rotate_left; · (rintro w' ⟨s0, s1⟩; go_simp; with_reducible rfl)
          rotate_left; · (simp only [Act.put, sa_, sb_, sc_, i64_w, i32_w]; rfl)
          refine pu 4 (some 55) (v := ?_) (a' := ?_) (tb 5 7) rfl rfl (by kernel_rfl) (fun _ _ _ h => h) ⟨by rfl, ?_⟩ ?_ ?_; rotate_left; · (intro w'; go_simp; with_reducible rfl)
          rotate_left; · (simp only [Act.put, sa_, sb_, sc_, i64_w, i32_w]; rfl)
          refine pu 5 (some 5) (v := ?_) (a' := ?_) (tb 6 7) rfl rfl (by kernel_rfl) (fun _ _ _ h => h) ⟨by rfl, ?_⟩ ?_ ?_; rotate_left; · (intro w'; go_simp; with_reducible rfl)
          rotate_left; · (simp only [Act.put, sa_, sb_, sc_, i64_w, i32_w]; rfl)
          refine last_ (i := 6) (N := none) (tb 7 7) rfl rfl (by kernel_rfl) (by decide) (fun K hK => ?_)
          refine skip_ (w1 := ?_) (by rfl) rfl ?_ ?_
          rotate_left
          · go_simp
            rfl
          refine hK.out _ _ ?_
          clear hK K
          refine done_ (by kernel_rfl) ?_
          obtain ⟨w4, hw4⟩ : ∃ wz, wz = (w3.setCell ⟨Ba, 0, none⟩ (.slice A1n x.length c1n)).drew := ⟨_, rfl⟩
          have HJ4 : Aside0 (J pre w4) := ⟨by rw [hw4]; exact HJB.out _ _ _ (HJS.out _ _ Ba (.slice A1n x.length c1n) (.inl rfl) HJ3.out) (Below.refl _ _).drew⟩
          have HA4 : Aside0 (sl1 w4 Ba A1n x.length c1n) := ⟨by rw [hw4]; exact blk_drew (blk_put HA3.out 0 _ rfl)⟩
          have HB4 : Aside0 (sl1 w4 Bb (some ad2) (y.length + 1) c2) := ⟨by rw [hw4]; exact blk_drew (blk_far HB3.out (Ne.symm HNE.out) _)⟩
          have hx4 : w4.heap[gx]? = some (.cells #[.bool true, .bool true] 73 (0, 0)) := by rw [hw4]; exact blk_drew (blk_far HX3.out (sl1_ne HX3.out HA3.out (by decide)) _)
          rw [← hw4]
          clear hw4
          have HX4 := Aside0.mk hx4
          clear hx4
          repeat clear hHeld
          clear HJ3 HA3 HB3 HX3 hcx0 hcx1 hs3 hf3 HS1 hc1 hcut hx3
          obtain ⟨ad2', e1, hc1⟩ := Kd.at_int (hcb w4 (HJC.out _ _ HJ4.out).2) 0 (by omega) (by simp)
          injection e1 with e1
          subst e1
          rw [show (0 : Int).toNat = 0 from rfl, Addr.add_zero'] at hc1
          have hcx0 := blk_cell HX4.out 0
          have hcx1 := blk_cell HX4.out 1
          go_upto_region 6 with (fail)
          have hs3 := blk_cell HB4.out 0
          have hf3 := blk_frozen HB4.out 0
          have HS1 : Aside0 (w4.drew.cell? ⟨Bb, 0, none⟩ = some (.slice (some ad2) (y.length + 1) c2) ∧ w4.drew.cell? ad2 = some (.int .u64 x0)) := ⟨⟨hs3, hc1⟩⟩
          obtain ⟨i0, hi0, _, hsz, _⟩ := info_parts minfo_u64
          have hcut := cut_from (P := Try.prog) 23 22 .i64 Try.underlying23 hi0 1 hsz (some ad2) (y.length + 1) c2 1 (by omega) (by omega)
          clear hi0 hsz
          have hdr2 : ∀ W, Kd.C (Kd.int .u64) W Ab xb.length xb → Kd.C (Kd.int .u64) W (if c2 = 1 then some ad2 else (some ad2).map (·.add (1 * 1))) y.length y := fun W h => Kd.C_drop (m := 1) (hcb W h) (by simp) hbc
          obtain ⟨A2n, hA2n⟩ : ∃ A', A' = (if c2 = 1 then some ad2 else (some ad2).map (·.add (1 * 1))) := ⟨_, rfl⟩
          obtain ⟨c2n, hc2n⟩ : ∃ c', c' = c2 - 1 := ⟨_, rfl⟩
          rw [show (1 : Int).toNat = 1 from rfl, show y.length + 1 - 1 = y.length by omega, ← hc2n] at hcut
          rw [← hA2n] at hcut hdr2
          have hcn2 : y.length ≤ c2n := by simp at hbc; omega
          clear hA2n hc2n
          refine start_ (n := 7) (S := fun w' => w'.cell? ⟨Bb, 0, none⟩ = some (.slice (some ad2) (y.length + 1) c2) ∧ w'.cell? ad2 = some (.int .u64 x0)) (ds := [6]) (tb 0 7) (by kernel_rfl) rfl rfl HS1.out (fun hHeld => ?_)
          refine tk 0 (some 58) (v := ?_) (a' := ?_) (tb 1 7) rfl rfl (by kernel_rfl) (fun _ _ _ h => h) ⟨by rfl, ?_⟩ hHeld ?_ ?_; rotate_left; · (rintro w' ⟨s0, s1⟩; go_simp; with_reducible rfl)
          rotate_left; · (simp only [Act.put, sa_, sb_, sc_, i64_w, i32_w]; rfl)
          refine pu 1 (some 59) (v := ?_) (a' := ?_) (tb 2 7) rfl rfl (by kernel_rfl) (fun _ _ _ h => h) ⟨by rfl, ?_⟩ ?_ ?_; rotate_left; · (intro w'; go_simp; with_reducible rfl)
          rotate_left; · (simp only [Act.put, sa_, sb_, sc_, i64_w, i32_w]; rfl)
          refine tk 2 (some 60) (v := ?_) (a' := ?_) (tb 3 7) rfl rfl (by kernel_rfl) (fun _ _ _ h => h) ⟨by rfl, ?_⟩ hHeld ?_ ?_; rotate_left; · (rintro w' ⟨s0, s1⟩; go_simp; with_reducible rfl)
          rotate_left; · (simp only [Act.put, sa_, sb_, sc_, i64_w, i32_w]; rfl)
          refine tk 3 (some 61) (v := ?_) (a' := ?_) (tb 4 7) rfl rfl (by kernel_rfl) (fun _ _ _ h => h) ⟨by rfl, ?_⟩ hHeld ?_ ?_; rotate_left; · (rintro w' ⟨s0, s1⟩; go_simp; with_reducible rfl)
          rotate_left; · (simp only [Act.put, sa_, sb_, sc_, i64_w, i32_w]; rfl)
          refine pu 4 (some 62) (v := ?_) (a' := ?_) (tb 5 7) rfl rfl (by kernel_rfl) (fun _ _ _ h => h) ⟨by rfl, ?_⟩ ?_ ?_; rotate_left; · (intro w'; go_simp; with_reducible rfl)
          rotate_left; · (simp only [Act.put, sa_, sb_, sc_, i64_w, i32_w]; rfl)
          refine pu 5 (some 5) (v := ?_) (a' := ?_) (tb 6 7) rfl rfl (by kernel_rfl) (fun _ _ _ h => h) ⟨by rfl, ?_⟩ ?_ ?_; rotate_left; · (intro w'; go_simp; with_reducible rfl)
          rotate_left; · (simp only [Act.put, sa_, sb_, sc_, i64_w, i32_w]; rfl)
          refine last_ (i := 6) (N := none) (tb 7 7) rfl rfl (by kernel_rfl) (by decide) (fun K hK => ?_)
          refine skip_ (w1 := ?_) (by rfl) rfl ?_ ?_
          rotate_left
          · go_simp
            rfl
          refine hK.out _ _ ?_
          clear hK K
          refine done_ (by kernel_rfl) ?_
          obtain ⟨w5, hw5⟩ : ∃ wz, wz = (w4.setCell ⟨Bb, 0, none⟩ (.slice A2n y.length c2n)).drew := ⟨_, rfl⟩
          have HJ5 : Aside0 (J pre w5) := ⟨by rw [hw5]; exact HJB.out _ _ _ (HJS.out _ _ Bb (.slice A2n y.length c2n) (.inr rfl) HJ4.out) (Below.refl _ _).drew⟩
          have HB5 : Aside0 (sl1 w5 Bb A2n y.length c2n) := ⟨by rw [hw5]; exact blk_drew (blk_put HB4.out 0 _ rfl)⟩
          have HA5 : Aside0 (sl1 w5 Ba A1n x.length c1n) := ⟨by rw [hw5]; exact blk_drew (blk_far HA4.out HNE.out _)⟩
          have hx4 : w5.heap[gx]? = some (.cells #[.bool true, .bool true] 73 (0, 0)) := by rw [hw5]; exact blk_drew (blk_far HX4.out (sl1_ne HX4.out HB4.out (by decide)) _)
          rw [← hw5]
          clear hw5
          have HX5 := Aside0.mk hx4
          clear hx4
          repeat clear hHeld
          clear HJ4 HA4 HB4 HX4 hcx0 hcx1 hs3 hf3 HS1 hc1 hcut
          have HQ : Aside0 (pairsS xa xb = pre ++ (x0, true, true) :: pairsS x y) := ⟨by have := HP.out; rw [pairsS, if_neg (by omega), if_neg (by omega)] at this; exact this⟩
          have HL5 : Aside0 (Left xa xb Aa Ab Ba Bb w5 x y) := ⟨⟨_, _, HA5.out, hcn1, hdr1⟩, ⟨_, _, HB5.out, hcn2, hdr2⟩⟩
          have hcx0 := blk_cell HX5.out 0
          have hcx1 := blk_cell HX5.out 1
          go_upto_region 7 with (fail)
          obtain ⟨fn, tmps, assign, body, hy, hR⟩ := HY.out pre (x0, true, true) (pairsS x y) w5 HJ5.out HQ.out x y HL5.out
          dsimp only [enc3] at hy
          refine (wpIn_wide (n := 4)).1 ?_
          gi_wp2
          refine hR.mono ?_
          rintro e W5 ⟨rfl, hJ5, hL5⟩
          gi_wp2
          go_wp2
          cases gk with
          | zero => have := HN.out; omega
          | succ k1 =>
            go_roundg k1
            case measure => omega
            case rel => exact ⟨pre ++ [(x0, true, true)], x, y, ⟨by rw [HQ.out, List.append_assoc]; rfl⟩, ⟨by have := HN.out; simp at this ⊢; omega⟩, ⟨hJ5⟩, ⟨hL5⟩⟩
        · have d1 : decide (x0 ≤ y0) = false := by simp; omega
          have d2 : decide (y0 ≤ x0) = true := by simp; omega
          have dz1 : ((x.length : Int) + 1 == 0) = false := by simp; omega
          have dz2 : ((y.length : Int) + 1 == 0) = false := by simp; omega
          obtain ⟨ad1, e1, hc1⟩ := Kd.at_int (hca wr (HJC.out _ _ HJ.out).1) 0 (by omega) (by simp)
          obtain ⟨ad2, e2, hc2⟩ := Kd.at_int (hcb wr (HJC.out _ _ HJ.out).2) 0 (by omega) (by simp)
          subst e1
          subst e2
          rw [show (0 : Int).toNat = 0 from rfl, Addr.add_zero'] at hc1 hc2
          have HS0 : Aside0 (wr.drew.cell? ⟨Ba, 0, none⟩ = some (.slice (some ad1) (x.length + 1) c1) ∧ wr.drew.cell? ⟨Bb, 0, none⟩ = some (.slice (some ad2) (y.length + 1) c2) ∧ wr.drew.cell? ad1 = some (.int .u64 x0) ∧ wr.drew.cell? ad2 = some (.int .u64 y0)) := ⟨⟨hsa, hsb, hc1, hc2⟩⟩
          have HA0 : Aside0 (wr.drew.cell? ⟨Ba, 0, none⟩ = some (.slice (some ad1) (x.length + 1) c1) ∧ wr.drew.cell? ⟨Bb, 0, none⟩ = some (.slice (some ad2) (y.length + 1) c2) ∧ wr.drew.cell? ad1 = some (.int .u64 x0) ∧ wr.drew.cell? ad2 = some (.int .u64 y0) → (wr.drew.alloc (.cells #[.bool false, .bool false] 73 (0, 0))).cell? ⟨Ba, 0, none⟩ = some (.slice (some ad1) (x.length + 1) c1) ∧ (wr.drew.alloc (.cells #[.bool false, .bool false] 73 (0, 0))).cell? ⟨Bb, 0, none⟩ = some (.slice (some ad2) (y.length + 1) c2) ∧ (wr.drew.alloc (.cells #[.bool false, .bool false] 73 (0, 0))).cell? ad1 = some (.int .u64 x0) ∧ (wr.drew.alloc (.cells #[.bool false, .bool false] 73 (0, 0))).cell? ad2 = some (.int .u64 y0)) := ⟨fun h => ⟨pw_cell_below (below_alloc (Below.refl _ _) _) h.1, pw_cell_below (below_alloc (Below.refl _ _) _) h.2.1, pw_cell_below (below_alloc (Below.refl _ _) _) h.2.2.1, pw_cell_below (below_alloc (Below.refl _ _) _) h.2.2.2⟩⟩
          go_upto_region 1 with (fail)
          refine start_ (n := 37) (S := fun w' => w'.cell? ⟨Ba, 0, none⟩ = some (.slice (some ad1) (x.length + 1) c1) ∧ w'.cell? ⟨Bb, 0, none⟩ = some (.slice (some ad2) (y.length + 1) c2) ∧ w'.cell? ad1 = some (.int .u64 x0) ∧ w'.cell? ad2 = some (.int .u64 y0)) (ds := [36]) (tb 0 37) (by kernel_rfl) rfl rfl HS0.out (fun hHeld => ?_)
          refine tk 0 (some 14) (v := ?_) (a' := ?_) (tb 1 37) rfl rfl (by kernel_rfl) (fun _ _ _ h => h) ⟨by rfl, ?_⟩ hHeld ?_ ?_; rotate_left; · (rintro w' ⟨s0, s1, s2, s3⟩; go_simp; with_reducible rfl)
          rotate_left; · (simp only [Act.put, sa_, sb_, sc_, i64_w, i32_w]; rfl)
          refine pu 1 (some 15) (v := ?_) (a' := ?_) (tb 2 37) rfl rfl (by kernel_rfl) (fun _ _ _ h => h) ⟨by rfl, ?_⟩ ?_ ?_; rotate_left; · (intro w'; go_simp; with_reducible rfl)
          rotate_left; · (simp only [Act.put, sa_, sb_, sc_, i64_w, i32_w]; rfl)
          refine pu 2 (some 16) (v := ?_) (a' := ?_) (tb 3 37) rfl rfl (by kernel_rfl) (fun _ _ _ h => h) ⟨by rfl, ?_⟩ ?_ ?_; rotate_left; · (intro w'; go_simp; with_reducible rfl)
          rotate_left; · (simp only [Act.put, sa_, sb_, sc_, i64_w, i32_w]; rfl)
          refine pu 3 (some 17) (v := ?_) (a' := ?_) (tb 4 37) rfl rfl (by kernel_rfl) (fun _ _ _ h => h) ⟨by rfl, ?_⟩ ?_ ?_; rotate_left; · (intro w'; go_simp; with_reducible rfl)
          rotate_left; · (simp only [Act.put, sa_, sb_, sc_, i64_w, i32_w]; rfl)
          refine tk 4 (some 18) (v := ?_) (a' := ?_) (tb 5 37) rfl rfl (by kernel_rfl) (fun _ _ _ h => h) ⟨by rfl, ?_⟩ hHeld ?_ ?_; rotate_left; · (rintro w' ⟨s0, s1, s2, s3⟩; go_simp; with_reducible rfl)
          rotate_left; · (simp only [Act.put, sa_, sb_, sc_, i64_w, i32_w]; rfl)
          refine pu 5 (some 19) (v := ?_) (a' := ?_) (tb 6 37) rfl rfl (by kernel_rfl) (fun _ _ _ h => h) ⟨by rfl, ?_⟩ ?_ ?_; rotate_left; · (intro w'; go_simp; with_reducible rfl)
          rotate_left; · (simp only [Act.put, sa_, sb_, sc_, i64_w, i32_w]; rfl)
          refine pu 6 (some 20) (v := ?_) (a' := ?_) (tb 7 37) rfl rfl (by kernel_rfl) (fun _ _ _ h => h) ⟨by rfl, ?_⟩ ?_ ?_; rotate_left; · (intro w'; go_simp; with_reducible rfl)
          rotate_left; · (simp only [Act.put, sa_, sb_, sc_, i64_w, i32_w]; rfl)
          refine pu 7 (some 21) (v := ?_) (a' := ?_) (tb 8 37) rfl rfl (by kernel_rfl) (fun _ _ _ h => h) ⟨by rfl, ?_⟩ ?_ ?_; rotate_left; · (intro w'; go_simp; with_reducible rfl)
          rotate_left; · (simp only [Act.put, sa_, sb_, sc_, i64_w, i32_w]; rfl)
          refine tk 8 (some 22) (v := ?_) (a' := ?_) (tb 9 37) rfl rfl (by kernel_rfl) (fun _ _ _ h => h) ⟨by rfl, ?_⟩ hHeld ?_ ?_; rotate_left; · (rintro w' ⟨s0, s1, s2, s3⟩; go_simp; with_reducible rfl)
          rotate_left; · (simp only [Act.put, sa_, sb_, sc_, i64_w, i32_w]; rfl)
          refine pu 9 (some 23) (v := ?_) (a' := ?_) (tb 10 37) rfl rfl (by kernel_rfl) (fun _ _ _ h => h) ⟨by rfl, ?_⟩ ?_ ?_; rotate_left; · (intro w'; go_simp; with_reducible rfl)
          rotate_left; · (simp only [Act.put, sa_, sb_, sc_, i64_w, i32_w]; rfl)
          refine tk 10 (some 24) (v := ?_) (a' := ?_) (tb 11 37) rfl rfl (by kernel_rfl) (fun _ _ _ h => h) ⟨by rfl, ?_⟩ hHeld ?_ ?_; rotate_left; · (rintro w' ⟨s0, s1, s2, s3⟩; go_simp; with_reducible rfl)
          rotate_left; · (simp only [Act.put, sa_, sb_, sc_, i64_w, i32_w]; rfl)
          refine tk 11 (some 25) (v := ?_) (a' := ?_) (tb 12 37) rfl rfl (by kernel_rfl) (fun _ _ _ h => h) ⟨by rfl, ?_⟩ hHeld ?_ ?_; rotate_left; · (rintro w' ⟨s0, s1, s2, s3⟩; go_simp; with_reducible rfl)
          rotate_left; · (simp only [Act.put, sa_, sb_, sc_, i64_w, i32_w]; rfl)
          refine pu 12 (some 26) (v := ?_) (a' := ?_) (tb 13 37) rfl rfl (by kernel_rfl) (fun _ _ _ h => h) ⟨by rfl, ?_⟩ ?_ ?_; rotate_left; · (intro w'; go_simp; with_reducible rfl)
          rotate_left; · (simp only [Act.put, sa_, sb_, sc_, i64_w, i32_w]; rfl)
          refine tk 13 (some 27) (v := ?_) (a' := ?_) (tb 14 37) rfl rfl (by kernel_rfl) (fun _ _ _ h => h) ⟨by rfl, ?_⟩ hHeld ?_ ?_; rotate_left; · (rintro w' ⟨s0, s1, s2, s3⟩; go_simp; with_reducible rfl)
          rotate_left; · (simp only [Act.put, sa_, sb_, sc_, i64_w, i32_w]; rfl)
          refine pu 14 (some 28) (v := ?_) (a' := ?_) (tb 15 37) rfl rfl (by kernel_rfl) (fun _ _ _ h => h) ⟨by rfl, ?_⟩ ?_ ?_; rotate_left; · (intro w'; go_simp; with_reducible rfl)
          rotate_left; · (simp only [Act.put, sa_, sb_, sc_, i64_w, i32_w]; rfl)
          refine pu 15 (some 29) (v := ?_) (a' := ?_) (tb 16 37) rfl rfl (by kernel_rfl) (fun _ _ _ h => h) ⟨by rfl, ?_⟩ ?_ ?_; rotate_left; · (intro w'; go_simp; with_reducible rfl)
          rotate_left; · (simp only [Act.put, sa_, sb_, sc_, i64_w, i32_w]; rfl)
          refine pu 16 (some 30) (v := ?_) (a' := ?_) (tb 17 37) rfl rfl (by kernel_rfl) (fun _ _ _ h => h) ⟨by rfl, ?_⟩ ?_ ?_; rotate_left; · (intro w'; go_simp; with_reducible rfl)
          rotate_left; · (simp only [Act.put, sa_, sb_, sc_, i64_w, i32_w]; rfl)
          refine tk 17 (some 31) (v := ?_) (a' := ?_) (tb 18 37) rfl rfl (by kernel_rfl) (fun _ _ _ h => h) ⟨by rfl, ?_⟩ hHeld ?_ ?_; rotate_left; · (rintro w' ⟨s0, s1, s2, s3⟩; go_simp; with_reducible rfl)
          rotate_left; · (simp only [Act.put, sa_, sb_, sc_, i64_w, i32_w]; rfl)
          refine pu 18 (some 32) (v := ?_) (a' := ?_) (tb 19 37) rfl rfl (by kernel_rfl) (fun _ _ _ h => h) ⟨by rfl, ?_⟩ ?_ ?_; rotate_left; · (intro w'; go_simp; with_reducible rfl)
          rotate_left; · (simp only [Act.put, sa_, sb_, sc_, i64_w, i32_w]; rfl)
          refine pu 19 (some 33) (v := ?_) (a' := ?_) (tb 20 37) rfl rfl (by kernel_rfl) (fun _ _ _ h => h) ⟨by rfl, ?_⟩ ?_ ?_; rotate_left; · (intro w'; go_simp; with_reducible rfl)
          rotate_left; · (simp only [Act.put, sa_, sb_, sc_, i64_w, i32_w]; rfl)
          refine pu 20 (some 34) (v := ?_) (a' := ?_) (tb 21 37) rfl rfl (by kernel_rfl) (fun _ _ _ h => h) ⟨by rfl, ?_⟩ ?_ ?_; rotate_left; · (intro w'; go_simp; with_reducible rfl)
          rotate_left; · (simp only [Act.put, sa_, sb_, sc_, i64_w, i32_w]; rfl)
          refine tk 21 (some 35) (v := ?_) (a' := ?_) (tb 22 37) rfl rfl (by kernel_rfl) (fun _ _ _ h => h) ⟨by rfl, ?_⟩ hHeld ?_ ?_; rotate_left; · (rintro w' ⟨s0, s1, s2, s3⟩; go_simp; with_reducible rfl)
          rotate_left; · (simp only [Act.put, sa_, sb_, sc_, i64_w, i32_w]; rfl)
          refine pu 22 (some 36) (v := ?_) (a' := ?_) (tb 23 37) rfl rfl (by kernel_rfl) (fun _ _ _ h => h) ⟨by rfl, ?_⟩ ?_ ?_; rotate_left; · (intro w'; go_simp; with_reducible rfl)
          rotate_left; · (simp only [Act.put, sa_, sb_, sc_, i64_w, i32_w]; rfl)
          refine pu 23 (some 37) (v := ?_) (a' := ?_) (tb 24 37) rfl rfl (by kernel_rfl) (fun _ _ _ h => h) ⟨by rfl, ?_⟩ ?_ ?_; rotate_left; · (intro w'; go_simp; with_reducible rfl)
          rotate_left; · (simp only [Act.put, sa_, sb_, sc_, i64_w, i32_w]; rfl)
          refine pu 24 (some 38) (v := ?_) (a' := ?_) (tb 25 37) rfl rfl (by kernel_rfl) (fun _ _ _ h => h) ⟨by rfl, ?_⟩ ?_ ?_; rotate_left; · (intro w'; go_simp; with_reducible rfl)
          rotate_left; · (simp only [Act.put, sa_, sb_, sc_, i64_w, i32_w]; rfl)
          refine tk 25 (some 39) (v := ?_) (a' := ?_) (tb 26 37) rfl rfl (by kernel_rfl) (fun _ _ _ h => h) ⟨by rfl, ?_⟩ hHeld ?_ ?_; rotate_left; · (rintro w' ⟨s0, s1, s2, s3⟩; go_simp; with_reducible rfl)
          rotate_left; · (simp only [Act.put, sa_, sb_, sc_, i64_w, i32_w]; rfl)
          refine pu 26 (some 40) (v := ?_) (a' := ?_) (tb 27 37) rfl rfl (by kernel_rfl) (fun _ _ _ h => h) ⟨by rfl, ?_⟩ ?_ ?_; rotate_left; · (intro w'; go_simp; with_reducible rfl)
          rotate_left; · (simp only [Act.put, sa_, sb_, sc_, i64_w, i32_w]; rfl)
          refine tk 27 (some 41) (v := ?_) (a' := ?_) (tb 28 37) rfl rfl (by kernel_rfl) (fun _ _ _ h => h) ⟨by rfl, ?_⟩ hHeld ?_ ?_; rotate_left; · (rintro w' ⟨s0, s1, s2, s3⟩; go_simp; with_reducible rfl)
          rotate_left; · (simp only [Act.put, sa_, sb_, sc_, i64_w, i32_w]; rfl)
          refine tk 28 (some 42) (v := ?_) (a' := ?_) (tb 29 37) rfl rfl (by kernel_rfl) (fun _ _ _ h => h) ⟨by rfl, ?_⟩ hHeld ?_ ?_; rotate_left; · (rintro w' ⟨s0, s1, s2, s3⟩; go_simp; with_reducible rfl)
          rotate_left; · (simp only [Act.put, sa_, sb_, sc_, i64_w, i32_w]; rfl)
          refine pu 29 (some 43) (v := ?_) (a' := ?_) (tb 30 37) rfl rfl (by kernel_rfl) (fun _ _ _ h => h) ⟨by rfl, ?_⟩ ?_ ?_; rotate_left; · (intro w'; go_simp; with_reducible rfl)
          rotate_left; · (simp only [Act.put, sa_, sb_, sc_, i64_w, i32_w]; rfl)
          refine tk 30 (some 44) (v := ?_) (a' := ?_) (tb 31 37) rfl rfl (by kernel_rfl) (fun _ _ _ h => h) ⟨by rfl, ?_⟩ hHeld ?_ ?_; rotate_left; · (rintro w' ⟨s0, s1, s2, s3⟩; go_simp; with_reducible rfl)
          rotate_left; · (simp only [Act.put, sa_, sb_, sc_, i64_w, i32_w]; rfl)
          refine pu 31 (some 45) (v := ?_) (a' := ?_) (tb 32 37) rfl rfl (by kernel_rfl) (fun _ _ _ h => h) ⟨by rfl, ?_⟩ ?_ ?_; rotate_left; · (intro w'; go_simp; with_reducible rfl)
          rotate_left; · (simp only [Act.put, sa_, sb_, sc_, i64_w, i32_w]; rfl)
          refine pu 32 (some 46) (v := ?_) (a' := ?_) (tb 33 37) rfl rfl (by kernel_rfl) (fun _ _ _ h => h) ⟨by rfl, ?_⟩ ?_ ?_; rotate_left; · (intro w'; go_simp; with_reducible rfl)
          rotate_left; · (simp only [Act.put, sa_, sb_, sc_, i64_w, i32_w]; rfl)
          refine pu 33 (some 47) (v := ?_) (a' := ?_) (tb 34 37) rfl rfl (by kernel_rfl) (fun _ _ _ h => h) ⟨by rfl, ?_⟩ ?_ ?_; rotate_left; · (intro w'; go_simp; with_reducible rfl)
          rotate_left; · (simp only [Act.put, sa_, sb_, sc_, i64_w, i32_w]; rfl)
          refine pu 34 (some 48) (v := ?_) (a' := ?_) (tb 35 37) rfl rfl (by kernel_rfl) (fun _ _ _ h => h) ⟨by rfl, ?_⟩ ?_ ?_; rotate_left; · (intro w'; go_simp; with_reducible rfl)
          rotate_left; · (simp only [Act.put, sa_, sb_, sc_, i64_w, i32_w]; rfl)
          refine one_ (i := 35) (N := some 4) (tb 36 37) rfl rfl (by kernel_rfl) (by decide) (fun K hK => ?_)
          refine value_ (w1 := ?_) (v := ?_) (by rfl) rfl ?_ ?_
          rotate_left 2
          · go_simp
            constructor
            · rfl
            · rfl
          refine hK.out _ _ (HA0.out hHeld) (fun hHeld => ?_)
          clear hK K
          refine norm_ (a' := ?_) ?_ ?_
          rotate_left
          · show Act.put _ (some 4) _ = _
            simp only [Act.put, List.setIfInBounds_toArray, List.set_cons_zero, List.set_cons_succ, i64_w, i32_w]
            rfl
          refine last_ (i := 36) (N := none) (tb 37 37) rfl rfl (by kernel_rfl) (by decide) (fun K hK => ?_)
          have hs20 := blk_cell (blk_new wr.drew (.cells #[.bool false, .bool false] 73 (0, 0))) 0
          have hs21 := blk_cell (blk_new wr.drew (.cells #[.bool false, .bool false] 73 (0, 0))) 1
          have hf20 := blk_frozen (blk_new wr.drew (.cells #[.bool false, .bool false] 73 (0, 0))) 0
          have hf21 := blk_frozen (blk_new wr.drew (.cells #[.bool false, .bool false] 73 (0, 0))) 1
          refine skip_ (w1 := ?_) (by rfl) rfl ?_ ?_
          rotate_left
          · go_simp
            rfl
          refine hK.out _ _ ?_
          clear hK K
          refine done_ (by kernel_rfl) ?_
          obtain ⟨w3, hw3⟩ : ∃ w3, w3 = (wr.alloc (Obj.cells #[Value.bool false, Value.bool true] 73)).drew := ⟨_, rfl⟩
          have hb3 : Below wr.heap.size wr w3 := by rw [hw3]; exact ((Below.refl _ _).alloc (Nat.le_refl _) _).drew
          have hx3 : w3.heap[wr.heap.size]? = some (.cells #[.bool false, .bool true] 73 (0, 0)) := by rw [hw3]; exact blk_drew (blk_new _ _)
          rw [← hw3]
          clear hw3
          have HX3 := Aside0.mk hx3
          have HJ3 : Aside0 (J pre w3) := ⟨HJB.out _ _ _ HJ.out hb3⟩
          have HA3 : Aside0 (sl1 w3 Ba (some ad1) (x.length + 1) c1) := ⟨blk_below ha hb3⟩
          have HB3 : Aside0 (sl1 w3 Bb (some ad2) (y.length + 1) c2) := ⟨blk_below hb hb3⟩
          repeat clear hHeld
          clear HS0 HA0 HJ HL ha hb hsa hsb hb3 hs20 hs21 hf20 hf21 hc1 hc2
          generalize wr.heap.size = gx at hx3 HX3 ⊢
          obtain ⟨ad2', e1, hc1⟩ := Kd.at_int (hcb w3 (HJC.out _ _ HJ3.out).2) 0 (by omega) (by simp)
          injection e1 with e1
          subst e1
          rw [show (0 : Int).toNat = 0 from rfl, Addr.add_zero'] at hc1
          have hcx0 := blk_cell HX3.out 0
          have hcx1 := blk_cell HX3.out 1
          go_upto_region 6 with (fail)
          have hs3 := blk_cell HB3.out 0
          have hf3 := blk_frozen HB3.out 0
          have HS1 : Aside0 (w3.drew.cell? ⟨Bb, 0, none⟩ = some (.slice (some ad2) (y.length + 1) c2) ∧ w3.drew.cell? ad2 = some (.int .u64 y0)) := ⟨⟨hs3, hc1⟩⟩
          obtain ⟨i0, hi0, _, hsz, _⟩ := info_parts minfo_u64
          have hcut := cut_from (P := Try.prog) 23 22 .i64 Try.underlying23 hi0 1 hsz (some ad2) (y.length + 1) c2 1 (by omega) (by omega)
          clear hi0 hsz
          have hdr2 : ∀ W, Kd.C (Kd.int .u64) W Ab xb.length xb → Kd.C (Kd.int .u64) W (if c2 = 1 then some ad2 else (some ad2).map (·.add (1 * 1))) y.length y := fun W h => Kd.C_drop (m := 1) (hcb W h) (by simp) hbc
          obtain ⟨A2n, hA2n⟩ : ∃ A', A' = (if c2 = 1 then some ad2 else (some ad2).map (·.add (1 * 1))) := ⟨_, rfl⟩
          obtain ⟨c2n, hc2n⟩ : ∃ c', c' = c2 - 1 := ⟨_, rfl⟩
          rw [show (1 : Int).toNat = 1 from rfl, show y.length + 1 - 1 = y.length by omega, ← hc2n] at hcut
          rw [← hA2n] at hcut hdr2
          have hcn2 : y.length ≤ c2n := by simp at hbc; omega
          clear hA2n hc2n
          refine start_ (n := 7) (S := fun w' => w'.cell? ⟨Bb, 0, none⟩ = some (.slice (some ad2) (y.length + 1) c2) ∧ w'.cell? ad2 = some (.int .u64 y0)) (ds := [6]) (tb 0 7) (by kernel_rfl) rfl rfl HS1.out (fun hHeld => ?_)
          refine tk 0 (some 58) (v := ?_) (a' := ?_) (tb 1 7) rfl rfl (by kernel_rfl) (fun _ _ _ h => h) ⟨by rfl, ?_⟩ hHeld ?_ ?_; rotate_left; · (rintro w' ⟨s0, s1⟩; go_simp; with_reducible rfl)
          rotate_left; · (simp only [Act.put, sa_, sb_, sc_, i64_w, i32_w]; rfl)
          refine pu 1 (some 59) (v := ?_) (a' := ?_) (tb 2 7) rfl rfl (by kernel_rfl) (fun _ _ _ h => h) ⟨by rfl, ?_⟩ ?_ ?_; rotate_left; · (intro w'; go_simp; with_reducible rfl)
          rotate_left; · (simp only [Act.put, sa_, sb_, sc_, i64_w, i32_w]; rfl)
          refine tk 2 (some 60) (v := ?_) (a' := ?_) (tb 3 7) rfl rfl (by kernel_rfl) (fun _ _ _ h => h) ⟨by rfl, ?_⟩ hHeld ?_ ?_; rotate_left; · (rintro w' ⟨s0, s1⟩; go_simp; with_reducible rfl)
          rotate_left; · (simp only [Act.put, sa_, sb_, sc_, i64_w, i32_w]; rfl)
          refine tk 3 (some 61) (v := ?_) (a' := ?_) (tb 4 7) rfl rfl (by kernel_rfl) (fun _ _ _ h => h) ⟨by rfl, ?_⟩ hHeld ?_ ?_; rotate_left; · (rintro w' ⟨s0, s1⟩; go_simp; with_reducible rfl)
          rotate_left; · (simp only [Act.put, sa_, sb_, sc_, i64_w, i32_w]; rfl)
          refine pu 4 (some 62) (v := ?_) (a' := ?_) (tb 5 7) rfl rfl (by kernel_rfl) (fun _ _ _ h => h) ⟨by rfl, ?_⟩ ?_ ?_; rotate_left; · (intro w'; go_simp; with_reducible rfl)
          rotate_left; · (simp only [Act.put, sa_, sb_, sc_, i64_w, i32_w]; rfl)
          refine pu 5 (some 5) (v := ?_) (a' := ?_) (tb 6 7) rfl rfl (by kernel_rfl) (fun _ _ _ h => h) ⟨by rfl, ?_⟩ ?_ ?_; rotate_left; · (intro w'; go_simp; with_reducible rfl)
          rotate_left; · (simp only [Act.put, sa_, sb_, sc_, i64_w, i32_w]; rfl)
          refine last_ (i := 6) (N := none) (tb 7 7) rfl rfl (by kernel_rfl) (by decide) (fun K hK => ?_)
          refine skip_ (w1 := ?_) (by rfl) rfl ?_ ?_
          rotate_left
          · go_simp
            rfl
          refine hK.out _ _ ?_
          clear hK K
          refine done_ (by kernel_rfl) ?_
          obtain ⟨w4, hw4⟩ : ∃ wz, wz = (w3.setCell ⟨Bb, 0, none⟩ (.slice A2n y.length c2n)).drew := ⟨_, rfl⟩
          have HJ4 : Aside0 (J pre w4) := ⟨by rw [hw4]; exact HJB.out _ _ _ (HJS.out _ _ Bb (.slice A2n y.length c2n) (.inr rfl) HJ3.out) (Below.refl _ _).drew⟩
          have HB4 : Aside0 (sl1 w4 Bb A2n y.length c2n) := ⟨by rw [hw4]; exact blk_drew (blk_put HB3.out 0 _ rfl)⟩
          have HA4 : Aside0 (sl1 w4 Ba (some ad1) (x.length + 1) c1) := ⟨by rw [hw4]; exact blk_drew (blk_far HA3.out HNE.out _)⟩
          have hx4 : w4.heap[gx]? = some (.cells #[.bool false, .bool true] 73 (0, 0)) := by rw [hw4]; exact blk_drew (blk_far HX3.out (sl1_ne HX3.out HB3.out (by decide)) _)
          rw [← hw4]
          clear hw4
          have HX4 := Aside0.mk hx4
          clear hx4
          repeat clear hHeld
          clear HJ3 HA3 HB3 HX3 hcx0 hcx1 hs3 hf3 HS1 hc1 hcut hx3
          have HQ : Aside0 (pairsS xa xb = pre ++ (y0, false, true) :: pairsS (x0 :: x) y) := ⟨by have := HP.out; rw [pairsS, if_neg (by omega), if_pos hgt] at this; exact this⟩
          have HL4 : Aside0 (Left xa xb Aa Ab Ba Bb w4 (x0 :: x) y) := ⟨⟨_, _, HA4.out, hac, hca⟩, ⟨_, _, HB4.out, hcn2, hdr2⟩⟩
          have hcx0 := blk_cell HX4.out 0
          have hcx1 := blk_cell HX4.out 1
          go_upto_region 7 with (fail)
          obtain ⟨fn, tmps, assign, body, hy, hR⟩ := HY.out pre (y0, false, true) (pairsS (x0 :: x) y) w4 HJ4.out HQ.out (x0 :: x) y HL4.out
          dsimp only [enc3] at hy
          refine (wpIn_wide (n := 4)).1 ?_
          gi_wp2
          refine hR.mono ?_
          rintro e W5 ⟨rfl, hJ5, hL5⟩
          gi_wp2
          go_wp2
          cases gk with
          | zero => have := HN.out; omega
          | succ k1 =>
            go_roundg k1
            case measure => omega
            case rel => exact ⟨pre ++ [(y0, false, true)], (x0 :: x), y, ⟨by rw [HQ.out, List.append_assoc]; rfl⟩, ⟨by have := HN.out; simp at this ⊢; omega⟩, ⟨hJ5⟩, ⟨hL5⟩⟩

end Go.Proofs.Ytpagondojdlknaa.H
