/- Contracts of Go functions, walked by hand: each call comes to the Lean function beside it and leaves what was there before. -/
import Derived.Test.YtpagondojdlknaaProg
import Derived.Below
import Derived.Deep.Draws
import Derived.Deep.AppendLies
import Derived.Maps.AppendAt
import Derived.OwnWalk
import Derived.Laws.BytesArg
import Derived.Laws.MakeOwn
import Derived.Laws.OwnMore
import Derived.Deep.OwnRows
import Derived.Tactics
import Derived.Lib.ConvBytes
import Derived.Laws.Slices
import Derived.WalkKit
import Derived.KernelRfl
import Derived.RowKit3
import Derived.Deep.LoopGhost
import Derived.Deep.QuietTactic
import Derived.BigQuiet
import Derived.WideLaws
import Derived.Deep.DeepCutAuto
import Derived.Deep.CutBlock
import Derived.Deep.RegionHeld3
import Derived.Laws.Rows
import Derived.Lib.AppendStr
import Derived.ArgAppend
import Derived.Laws.IdiomCopy
import Derived.OrdersHeld
import Derived.Laws.BitsLemmas
import Derived.RowKit
import Derived.WalkSpells
import Derived.WalkLawsBesides
import Derived.Laws.Bits64b
import Derived.Laws.BitsAllLaws
import Derived.Maps.OwnSet
import Derived.Test.YtpagondojdlknaaVU
import Derived.Test.YtpagondojdlknaaM2
import Derived.RangeFuncNested
import Derived.RangeFuncBound
import Derived.RangeFuncCalls
import Derived.RangeFuncLeaves
import Derived.Shelf.Abstract
import Derived.Shelf.RegionOpen
import Derived.OwnWalkIn
import Derived.TacticsInMore
import Derived.LoopNIn
import Derived.LoopIn
namespace Go.Proofs.Ytpagondojdlknaa.H
open Go.RowKit Go.Proofs.YtpagondojdlknaaW.PrintWords Go.Proofs.YtpagondojdlknaaW.PrintLast Go.Proofs.YtpagondojdlknaaW.PrintMore
attribute [local go_sem] max2_int min2_int max_two min_two max_three min_three max_four min_four
set_option linter.unusedVariables false
set_option linter.unusedSimpArgs false

/-! ### A range over the pairs -/
/-- The statement 'for h, x := range pairs(..)', where no round leaves early: what is asked of a round, and what holds behind it. -/
theorem range_pairs {g : Operand} {p1 p2 : Tmp} {assign body : Code} {Q : Exit → Act → World → Prop} {a : Act} {w : World} (Ba Bb : Nat) (hne : Ba ≠ Bb) (hBa : Ba < w.heap.size) (hBb : Bb < w.heap.size) (Aa Ab : Option Addr) (xa xb : List Int)
    (hg : a.eval g = .func (.func 124) #[] #[.pointer (some ⟨Ba, 0, none⟩), .pointer (some ⟨Bb, 0, none⟩)])
    (I : List P3 → World → Prop) (hIb : ∀ s W W', I s W → Below W.heap.size W W' → I s W') (hIs : ∀ s W b u, (b = Ba ∨ b = Bb) → I s W → I s (W.setCell ⟨b, 0, none⟩ u))
    (hIC : ∀ s W, I s W → Kd.C (Kd.int .u64) W Aa xa.length xa ∧ Kd.C (Kd.int .u64) W Ab xb.length xb)
    (hIp : ∀ s W k o o', I s W → w.heap.size ≤ k → W.heap[k]? = some o → o.isCells = false → I s (W.putObj k o'))
    (Ax : P3 → Act → World → Prop) (hAp : ∀ z a' W k o o', Ax z a' W → w.heap.size ≤ k → W.heap[k]? = some o → o.isCells = false → Ax z a' (W.putObj k o'))
    (hL : Left xa xb Aa Ab Ba Bb w xa xb) (h0 : I [] w)
    (hassign : ∀ l pre z W x y (K : Act → World → Prop), I pre W → Left xa xb Aa Ab Ba Bb W x y → (∀ a' W', KeepsFrom w.heap.size W W' → I pre W' → Left xa xb Aa Ab Ba Bb W' x y → Ax z a' W' → K a' W') →
      assign.wpIn (Fence.wide.inRound l) 3 Try.prog (Exit.then K (fun _ _ _ => False)) { tmps := (a.tmps.setIfInBounds p1 (.int .u64 z.1)).setIfInBounds p2 (.agg #[.bool z.2.1, .bool z.2.2]), defers := [] } W)
    (hbody : ∀ l pre z rest a' W x y, I pre W → Left xa xb Aa Ab Ba Bb W x y → Ax z a' W → pairsS xa xb = pre ++ z :: rest →
      body.wpIn (Fence.wide.inRound l) 3 Try.prog (Exit.then (fun _ W' => KeepsFrom w.heap.size W W' ∧ I (pre ++ [z]) W' ∧ Left xa xb Aa Ab Ba Bb W' x y) (fun _ _ _ => False)) a' W)
    (hdone : ∀ (D : Nat) (W : World), w.heap.size ≤ D → I (pairsS xa xb) W → W.heap[D]? = some (.deferred (some [])) → Q .normal { a with defers := { target := .collected D, args := #[] } :: a.defers } W) :
    (Code.rangeFunc g #[p1, p2] assign body).wp Try.prog Q a w := by
  refine (wpIn_wide (n := 4)).1 (wpIn_rangeFunc ?_)
  intro fn hfn
  obtain ⟨rec, hrec⟩ : ∃ rec : LoopState → Loop, rec = fun st => { state := st, pending := none, fn, tmps := a.tmps, params := #[p1, p2], assign, body, defers := w.heap.size } := ⟨_, rfl⟩
  obtain ⟨W1, hW1⟩ : ∃ W1, (w.alloc (.deferred (some []))).alloc (.loop (rec .ready)) = W1 := ⟨_, rfl⟩
  have hb1 : Below w.heap.size w W1 := by rw [← hW1]; exact ((Below.refl _ w).alloc (Nat.le_refl _) _).alloc (by simp) _
  have hL1 : W1.heap[w.heap.size + 1]? = some (.loop (rec .ready)) := by
    rw [← hW1]; have := World.alloc_heap_new (w.alloc (.deferred (some []))) (.loop (rec .ready)); rwa [World.size_alloc] at this
  have hK1 : W1.heap[w.heap.size]? = some (.deferred (some [])) := by
    rw [← hW1]; exact (Below.heap_alloc _ _ _ (by simp)).trans (World.alloc_heap_new w _)
  refine ⟨w.heap.size + 1, [{ target := .collected w.heap.size, args := #[] }], W1, { target := .fn (.func 124) #[.pointer (some ⟨Ba, 0, none⟩), .pointer (some ⟨Bb, 0, none⟩)], args := #[.func (.yield (w.heap.size + 1)) #[] #[]] }, W1, 124,
    #[.func (.yield (w.heap.size + 1)) #[] #[], .pointer (some ⟨Ba, 0, none⟩), .pointer (some ⟨Bb, 0, none⟩)], W1, ?_, ?_, ?_, ?_, fun _ => by omega, ?_⟩
  · rw [← hW1, hrec]; exact run_enterLoop_outer _ _ _ _ _
  · simp only [resolve, hg]
    simp [go_sem]
  · intro f' hf'; trivial
  · have eg := enters_ Try.func124 (by kernel_rfl) rfl
    simp [invoke, go_sem, eg]
  · have hne1 : w.heap.size + 1 ≠ Ba ∧ w.heap.size + 1 ≠ Bb ∧ w.heap.size ≠ Ba ∧ w.heap.size ≠ Bb := by omega
    refine callsIn_wide.2 ((pairs1_any (w.heap.size + 1) Ba Bb hne Aa Ab xa xb
      (fun pre W => I pre W ∧ W.heap[w.heap.size + 1]? = some (.loop (rec .ready)) ∧ W.heap[w.heap.size]? = some (.deferred (some [])))
      (fun s W W' h hb => ⟨hIb _ _ _ h.1 hb, blk_below h.2.1 hb, blk_below h.2.2 hb⟩)
      (fun s W b u hb h => ⟨hIs _ _ _ _ hb h.1, (Below.heap_setCell _ _ _ _ (by rcases hb with rfl | rfl <;> simp <;> omega)).trans h.2.1, (Below.heap_setCell _ _ _ _ (by rcases hb with rfl | rfl <;> simp <;> omega)).trans h.2.2⟩)
      (fun s W h => hIC _ _ h.1) ?_ W1 ⟨?_, ?_⟩ ⟨hIb _ _ _ h0 hb1, hL1, hK1⟩).mono ?_)
    · rintro pre z rest W ⟨hi, hl, hk⟩ heq x y hLW
      have hy := run_yield (P := Try.prog) (args := enc3 z) hl (by rw [hrec]; rfl)
      rw [hrec] at hy
      have hfold : (#[p1, p2].zip (enc3 z)).foldl (fun t (p, v) => t.setIfInBounds p v) a.tmps = (a.tmps.setIfInBounds p1 (.int .u64 z.1)).setIfInBounds p2 (.agg #[.bool z.2.1, .bool z.2.2]) := by simp [enc3]
      dsimp only at hy
      rw [hfold] at hy
      refine ⟨fn, _, assign, body, hy, roundIn_of_wpIn hfn (hassign _ pre z W x y _ hi hLW ?_)⟩
      clear hy
      intro a' Wa hkf hia hLa hax
      replace hl := hkf.same _ _ (by omega) hl rfl
      replace hk := hkf.same _ _ (Nat.le_refl _) hk rfl
      have hlt : w.heap.size + 1 < Wa.heap.size := (Array.getElem?_eq_some_iff.1 hl).1
      refine ⟨_, run_beginRound hl (by rw [hrec]), ?_⟩
      have hl2 : (Wa.putObj (w.heap.size + 1) (.loop { rec .ready with state := .busy })).heap[w.heap.size + 1]? = some (.loop { rec .ready with state := .busy }) := World.putObj_heap_same hlt
      have hk2 : (Wa.putObj (w.heap.size + 1) (.loop { rec .ready with state := .busy })).heap[w.heap.size]? = some (.deferred (some [])) := (World.putObj_heap_other (by omega)).trans hk
      have hputL : ∀ (V : World) (o' : Obj) x y, Left xa xb Aa Ab Ba Bb V x y → Left xa xb Aa Ab Ba Bb (V.putObj (w.heap.size + 1) o') x y := fun V o' x y h => by
        obtain ⟨⟨A1, c1, h1, h2, h3⟩, ⟨A2, c2, h4, h5, h6⟩⟩ := h
        exact ⟨⟨A1, c1, (World.putObj_heap_other (by omega)).trans h1, h2, h3⟩, ⟨A2, c2, (World.putObj_heap_other (by omega)).trans h4, h5, h6⟩⟩
      refine wpIn_mono (hbody _ pre z rest a' _ x y (hIp _ _ _ _ _ hia (by omega) hl rfl) (hputL _ _ _ _ hLa) (hAp _ _ _ _ _ _ hax (by omega) hl rfl) heq) ?_
      rintro e a3 W3 hp
      cases e with
      | normal =>
        obtain ⟨hk3, hi3, hL3⟩ := hp
        have hl3 := hk3.same _ _ (by omega) hl2 rfl
        have hr := run_endRound (P := Try.prog) none hl3
        rw [hrec] at hr hl3
        refine ⟨_, _, hr, rfl, ⟨hIp _ _ _ _ _ hi3 (by omega) hl3 rfl, ?_, ?_⟩, hputL _ _ _ _ hL3⟩
        · rw [hrec]; exact World.putObj_heap_same (Array.getElem?_eq_some_iff.1 hl3).1
        · exact (World.putObj_heap_other (by omega)).trans (hk3.same _ _ (Nat.le_refl _) hk2 rfl)
      | ret => exact hp.elim
      | exit id => exact hp.elim
      | goto t => exact hp.elim
      | panic ch => exact hp.elim
      | outgrown => exact hp.elim
    · obtain ⟨A1, c1, h1, h2, h3⟩ := hL.a
      exact ⟨A1, c1, blk_below h1 hb1, h2, h3⟩
    · obtain ⟨A2, c2, h1, h2, h3⟩ := hL.b
      exact ⟨A2, c2, blk_below h1 hb1, h2, h3⟩
    · rintro e W2 ⟨⟨v, rfl⟩, hi, hl, hk⟩
      exact ⟨none, _, by have := run_endLoop (P := Try.prog) hl (by rw [hrec]; simp); rw [hrec] at this; exact this, hdone _ _ (Nat.le_refl _) (hIp _ _ _ _ _ hi (by omega) hl rfl) ((World.putObj_heap_other (by omega)).trans hk)⟩
/-! ### setops.pairs -/
set_option maxHeartbeats 1000000 in
theorem setops_pairs_any (A1 A2 : Option Addr) (n1 n2 c1 c2 : Nat) (w : World) :
    Calls Try.prog 104 #[.slice A1 n1 c1, .slice A2 n2 c2] w fun e w' => ∃ Ba Bb, e = .returned (.func (.func 124) #[] #[.pointer (some ⟨Ba, 0, none⟩), .pointer (some ⟨Bb, 0, none⟩)]) ∧ Ba ≠ Bb ∧ w.heap.size ≤ Ba ∧ w.heap.size ≤ Bb ∧ sl1 w' Ba A1 n1 c1 ∧ sl1 w' Bb A2 n2 c2 ∧ Below w.heap.size w w' := by
  go_enter Try.func104, Try.ntmps104
  go_wp2
  go_ret
  refine ⟨w.heap.size, w.heap.size + 1, rfl, by omega, Nat.le_refl _, by omega, ?_, ?_, ((Below.refl _ _).alloc (Nat.le_refl _) _).alloc (by simp) _⟩
  · exact blk_alloc (blk_new _ _) _
  · have := blk_new (w.alloc (.cells #[.slice A1 n1 c1] 23 (0, 0))) (.cells #[.slice A2 n2 c2] 23 (0, 0))
    rwa [World.size_alloc] at this

end Go.Proofs.Ytpagondojdlknaa.H
