/- Contracts of Go functions, walked by hand: each call comes to the Lean function beside it and leaves what was there before. -/
import Derived.Test.YtpagondojdlknaaProg
import Derived.Below
import Derived.Deep.Draws
import Derived.Deep.AppendLies
import Derived.Maps.AppendAt
import Derived.OwnWalk
import Derived.Laws.BytesArg
import Derived.Laws.MakeOwn
import Derived.Laws.OwnMore
import Derived.Deep.OwnRows
import Derived.Tactics
import Derived.Lib.ConvBytes
import Derived.Laws.Slices
import Derived.WalkKit
import Derived.KernelRfl
import Derived.RowKit3
import Derived.Deep.LoopGhost
import Derived.Deep.QuietTactic
import Derived.BigQuiet
import Derived.WideLaws
import Derived.Deep.DeepCutAuto
import Derived.Deep.CutBlock
import Derived.Deep.RegionHeld3
import Derived.Laws.Rows
import Derived.Lib.AppendStr
import Derived.ArgAppend
import Derived.Laws.IdiomCopy
import Derived.OrdersHeld
import Derived.Laws.BitsLemmas
import Derived.RowKit
import Derived.WalkSpells
import Derived.WalkLawsBesides
import Derived.Laws.Bits64b
import Derived.Laws.BitsAllLaws
import Derived.Maps.OwnSet
import Derived.Test.YtpagondojdlknaaVU
import Derived.Test.YtpagondojdlknaaM3
import Derived.RangeFuncNested
import Derived.RangeFuncBound
import Derived.RangeFuncCalls
import Derived.RangeFuncLeaves
import Derived.Shelf.Abstract
import Derived.Shelf.RegionOpen
import Derived.OwnWalkIn
import Derived.TacticsInMore
import Derived.LoopNIn
import Derived.LoopIn
namespace Go.Proofs.Ytpagondojdlknaa.H
open Go.RowKit Go.Proofs.YtpagondojdlknaaW.PrintWords Go.Proofs.YtpagondojdlknaaW.PrintLast Go.Proofs.YtpagondojdlknaaW.PrintMore
attribute [local go_sem] max2_int min2_int max_two min_two max_three min_three max_four min_four
set_option linter.unusedVariables false
set_option linter.unusedSimpArgs false

/-! ### setops.made -/
/-- What was there stays, but for the blocks of S0; the streams are as they were. -/
structure KB (S0 : Nat → Prop) (w W : World) : Prop where
  os : W.os = w.os
  tape : W.tape = w.tape
  output : W.output = w.output
  size : w.heap.size ≤ W.heap.size
  block : ∀ k, k < w.heap.size → ¬ S0 k → W.heap[k]? = w.heap[k]?
theorem KB.refl (S0 : Nat → Prop) (w : World) : KB S0 w w := ⟨rfl, rfl, rfl, Nat.le_refl _, fun _ _ _ => rfl⟩
theorem KB.step {S0 : Nat → Prop} {w W W2 : World} (h : KB S0 w W) (k : KB S0 W W2) : KB S0 w W2 :=
  ⟨k.os.trans h.os, k.tape.trans h.tape, k.output.trans h.output, Nat.le_trans h.size k.size, fun i hi hs => (k.block i (Nat.lt_of_lt_of_le hi h.size) hs).trans (h.block i hi hs)⟩
theorem KB.of_below {S0 : Nat → Prop} {w W : World} (h : Below w.heap.size w W) : KB S0 w W := ⟨h.os, h.tape, h.output, h.size, fun k hk _ => h.block k hk⟩
theorem KB.below {S0 : Nat → Prop} {w W W2 : World} (h : KB S0 w W) (hb : Below W.heap.size W W2) : KB S0 w W2 := h.step (KB.of_below hb)
theorem KB.set {S0 : Nat → Prop} {w W : World} (h : KB S0 w W) {b i : Nat} (hb : w.heap.size ≤ b) (u : Value) : KB S0 w (W.setCell ⟨b, i, none⟩ u) :=
  ⟨h.os, h.tape, h.output, by simp [World.setCell]; exact h.size, fun k hk hs => (Below.heap_setCell W ⟨b, i, none⟩ u k (by show k ≠ b; omega)).trans (h.block k hk hs)⟩
theorem KB.put {S0 : Nat → Prop} {w W : World} (h : KB S0 w W) {k : Nat} (hk : w.heap.size ≤ k) (o' : Obj) : KB S0 w (W.putObj k o') :=
  ⟨h.os, h.tape, h.output, by rw [World.putObj_size]; exact h.size, fun i hi hs => (World.putObj_heap_other (by omega)).trans (h.block i hi hs)⟩
theorem KB.grown {S0 : Nat → Prop} {w W W2 : World} {row : Option Nat} (h : KB S0 w W) (hg : W.grownBy W2 row) (hr : ∀ k, row = some k → w.heap.size ≤ k) : KB S0 w W2 :=
  ⟨hg.os.trans h.os, hg.tape.trans h.tape, hg.output.trans h.output, Nat.le_trans h.size hg.size, fun k hk hs => (hg.block k (Nat.lt_of_lt_of_le hk h.size) (fun e => by have := hr k e.symm; omega)).trans (h.block k hk hs)⟩
theorem KB.C {S0 : Nat → Prop} {w W : World} (h : KB S0 w W) {A : Option Addr} {xs : List Int} (hc : Kd.C (Kd.int .u64) w A xs.length xs) (hs : ∀ ad, A = some ad → 0 < xs.length → ¬ S0 ad.block) : Kd.C (Kd.int .u64) W A xs.length xs :=
  Kd.C_foot_neS (S := S0) (fun h => h) hc hs W ⟨h.size, fun k hk hn => h.block k hk hn⟩
theorem Left.below {xa xb : List Int} {Aa Ab : Option Addr} {Ba Bb : Nat} {W W2 : World} {x y : List Int} (h : Left xa xb Aa Ab Ba Bb W x y) (hb : Below W.heap.size W W2) : Left xa xb Aa Ab Ba Bb W2 x y := by
  obtain ⟨⟨A1, c1, h1, h2, h3⟩, ⟨A2, c2, h4, h5, h6⟩⟩ := h
  exact ⟨⟨A1, c1, blk_below h1 hb, h2, h3⟩, ⟨A2, c2, blk_below h4 hb, h5, h6⟩⟩
/-- Between two rounds of made. -/
structure MI (S0 : Nat → Prop) (KI : List P3 → World → Prop) (p : P3 → Bool) (w : World) (kv : Value) (L : Int) (gk gr go Ba Bb : Nat) (pre : List P3) (W : World) : Prop where
  kb : KB S0 w W
  ki : KI pre W
  bk : W.heap[gk]? = some (.cells #[kv] 71 (0, 0))
  br : W.heap[gr]? = some (.cells #[.int .u64 0, .slice none 0 0] 25 (0, 0))
  out : ∃ v, W.heap[go]? = some (.cells #[.int .u64 L, v] 25 (0, 0)) ∧ W.ownsRow w.heap.size 22 1 v ((pre.filter p).map (·.1)).length (nums .u64 ((pre.filter p).map (·.1))) ∧ some Ba ≠ v.ownBlock ∧ some Bb ≠ v.ownBlock
section
variable {S0 : Nat → Prop} {KI : List P3 → World → Prop} {p : P3 → Bool} {w : World} {kv : Value} {L : Int} {gk gr go Ba Bb : Nat} {pre : List P3} {W W2 : World}
theorem own_ne {base n g t : Nat} {e : TypeId} {size : Nat} {v : Value} {xs : List Value} {cs : Array Value} (h : W.ownsRow base e size v n xs) (hb : W.heap[g]? = some (.cells cs t (0, 0))) (ht : e ≠ t) : some g ≠ v.ownBlock := fun he => by
  obtain ⟨cells, hc⟩ := own_typed h g he.symm
  rw [hb] at hc
  injection hc with hc
  injection hc with _ hc
  exact ht hc.symm
theorem own_blk_lt {base n : Nat} {e : TypeId} {size : Nat} {v : Value} {xs : List Value} (h : W.ownsRow base e size v n xs) : ∀ k, v.ownBlock = some k → k < W.heap.size := fun k hk => by
  obtain ⟨cells, hc⟩ := own_typed h k hk
  exact blk_lt hc
theorem MI.below (h : MI S0 KI p w kv L gk gr go Ba Bb pre W) (hS0 : ∀ k, S0 k → k < w.heap.size) (hKI : ∀ s W W', KI s W → (∀ k, S0 k → W'.heap[k]? = W.heap[k]?) → KI s W') (hb : Below W.heap.size W W2) : MI S0 KI p w kv L gk gr go Ba Bb pre W2 := by
  obtain ⟨v, h1, h2, h3⟩ := h.out
  exact ⟨h.kb.below hb, hKI _ _ _ h.ki (fun k hk => hb.block k (Nat.lt_of_lt_of_le (hS0 k hk) h.kb.size)), blk_below h.bk hb, blk_below h.br hb, v, blk_below h1 hb, own_move h2 (fun k hk => hb.block k (own_blk_lt h2 k hk)), h3⟩
theorem MI.set (h : MI S0 KI p w kv L gk gr go Ba Bb pre W) (hS0 : ∀ k, S0 k → k < w.heap.size) (hKI : ∀ s W W', KI s W → (∀ k, S0 k → W'.heap[k]? = W.heap[k]?) → KI s W') {b : Nat} (hb : b = Ba ∨ b = Bb) (hw : w.heap.size ≤ b) (h1 : gk ≠ b) (h2 : gr ≠ b) (h3 : go ≠ b) (u : Value) : MI S0 KI p w kv L gk gr go Ba Bb pre (W.setCell ⟨b, 0, none⟩ u) := by
  obtain ⟨v, g1, g2, g3⟩ := h.out
  refine ⟨h.kb.set hw u, hKI _ _ _ h.ki (fun k hk => Below.heap_setCell W ⟨b, 0, none⟩ u k (by have := hS0 k hk; show k ≠ b; omega)), blk_far h.bk h1 u, blk_far h.br h2 u, v, blk_far g1 h3 u, ownsRow_setCell_other g2 ?_ u, g3⟩
  rcases hb with rfl | rfl
  · exact Ne.symm g3.1
  · exact Ne.symm g3.2
theorem MI.put (h : MI S0 KI p w kv L gk gr go Ba Bb pre W) (hS0 : ∀ k, S0 k → k < w.heap.size) (hKI : ∀ s W W', KI s W → (∀ k, S0 k → W'.heap[k]? = W.heap[k]?) → KI s W') {k : Nat} {o : Obj} (o' : Obj) (hw : w.heap.size ≤ k) (hk : W.heap[k]? = some o) (ho : o.isCells = false) : MI S0 KI p w kv L gk gr go Ba Bb pre (W.putObj k o') := by
  obtain ⟨v, g1, g2, g3⟩ := h.out
  have hne : ∀ {g t : Nat} {cs : Array Value}, W.heap[g]? = some (.cells cs t (0, 0)) → g ≠ k := fun hg e => by
    subst e
    rw [hg] at hk
    injection hk with hk
    subst hk
    cases ho
  exact ⟨h.kb.put hw o', hKI _ _ _ h.ki (fun i hi => World.putObj_heap_other (by have := hS0 i hi; omega)), (World.putObj_heap_other (hne h.bk)).trans h.bk, (World.putObj_heap_other (hne h.br)).trans h.br, v, (World.putObj_heap_other (hne g1)).trans g1, ownsRow_putObj g2 o' hk ho, g3⟩
theorem MI.over {W1 : World} (h : MI S0 KI p w kv L gk gr go Ba Bb pre W) (hS0 : ∀ k, S0 k → k < w.heap.size) (hkb : KB S0 W W1) (h1 : w.heap.size ≤ gk) (h2 : w.heap.size ≤ gr) (h3 : w.heap.size ≤ go) :
    KB S0 w W1 ∧ W1.heap[gk]? = some (.cells #[kv] 71 (0, 0)) ∧ W1.heap[gr]? = some (.cells #[.int .u64 0, .slice none 0 0] 25 (0, 0)) ∧
    ∃ v, W1.heap[go]? = some (.cells #[.int .u64 L, v] 25 (0, 0)) ∧ W1.ownsRow w.heap.size 22 1 v ((pre.filter p).map (·.1)).length (nums .u64 ((pre.filter p).map (·.1))) ∧ some Ba ≠ v.ownBlock ∧ some Bb ≠ v.ownBlock := by
  have hn : ∀ k, w.heap.size ≤ k → ¬ S0 k := fun k hk hs => by have := hS0 k hs; omega
  obtain ⟨v, g1, g2, g3⟩ := h.out
  refine ⟨h.kb.step hkb, (hkb.block gk (blk_lt h.bk) (hn _ h1)).trans h.bk, (hkb.block gr (blk_lt h.br) (hn _ h2)).trans h.br, v, (hkb.block go (blk_lt g1) (hn _ h3)).trans g1, own_move g2 (fun k hk => hkb.block k (own_blk_lt g2 k hk) (hn _ (own_base g2 k hk))), g3⟩
theorem KB.keeps {W1 : World} (hkb : KB S0 W W1) (hS0 : ∀ k, S0 k → k < w.heap.size) {B : Nat} (hB : w.heap.size ≤ B) : KeepsFrom B W W1 :=
  ⟨hkb.size, fun k o hk h0 ho => (hkb.block k (blk_lt h0) (fun hs => by have := hS0 k hs; omega)).trans h0⟩
theorem Left.over {xa xb : List Int} {Aa Ab : Option Addr} {x y : List Int} (h : Left xa xb Aa Ab Ba Bb W x y) (ha : W2.heap[Ba]? = W.heap[Ba]?) (hb : W2.heap[Bb]? = W.heap[Bb]?) : Left xa xb Aa Ab Ba Bb W2 x y := by
  obtain ⟨⟨A1, c1, h1, h2, h3⟩, ⟨A2, c2, h4, h5, h6⟩⟩ := h
  exact ⟨⟨A1, c1, ha.trans h1, h2, h3⟩, ⟨A2, c2, hb.trans h4, h5, h6⟩⟩
theorem Left.types {xa xb : List Int} {Aa Ab : Option Addr} {x y : List Int} (h : Left xa xb Aa Ab Ba Bb W x y) : (∃ cs, W.heap[Ba]? = some (.cells cs 23 (0, 0))) ∧ (∃ cs, W.heap[Bb]? = some (.cells cs 23 (0, 0))) := by
  obtain ⟨⟨A1, c1, h1, _⟩, ⟨A2, c2, h4, _⟩⟩ := h
  exact ⟨⟨_, h1⟩, ⟨_, h4⟩⟩
end
theorem belowS_C {W : World} {A : Option Addr} {l : List Int} (x : Int) (h : Kd.C (Kd.int .u64) W A l.length l) : Kd.C (Kd.int .u64) W A (belowS l x).length (belowS l x) := by
  unfold belowS
  split
  · exact h
  · exact Kd.C_take h (cntB_le l x)
def madeS (p : P3 → Bool) (la : Int) (a : List Int) (lb : Int) (b : List Int) : (Int × List Int) × Int :=
  if vchk la a = 0 then (if vchk lb b = 0 then (if 8192 < (((pairsS (belowS a (limS la lb)) (belowS b (limS la lb))).filter p).map (·.1)).length then ((0, []), 3)
    else ((limS la lb, ((pairsS (belowS a (limS la lb)) (belowS b (limS la lb))).filter p).map (·.1)), 0)) else ((0, []), vchk lb b)) else ((0, []), vchk la a)
def madeP (la : Int) (a : List Int) (lb : Int) (b : List Int) : List P3 := if vchk la a = 0 ∧ vchk lb b = 0 then pairsS (belowS a (limS la lb)) (belowS b (limS la lb)) else []
/-! The same by counting, so that it can be reckoned. -/
def pairsF : Nat → List Int → List Int → List P3
  | 0, _, _ => []
  | _ + 1, [], [] => []
  | n + 1, a :: x, [] => (a, true, false) :: pairsF n x []
  | n + 1, [], b :: y => (b, false, true) :: pairsF n [] y
  | n + 1, a :: x, b :: y => if a < b then (a, true, false) :: pairsF n x (b :: y) else if b < a then (b, false, true) :: pairsF n (a :: x) y else (a, true, true) :: pairsF n x y
theorem pairsF_eq : ∀ (n : Nat) (x y : List Int), x.length + y.length ≤ n → pairsF n x y = pairsS x y
  | 0, [], [], _ => by rw [pairsS]; rfl
  | 0, a :: x, y, h => by simp at h
  | 0, [], b :: y, h => by simp at h
  | n + 1, [], [], _ => by rw [pairsS]; rfl
  | n + 1, a :: x, [], h => by rw [pairsS]; show _ :: pairsF n x [] = _; rw [pairsF_eq n x [] (by simp at h ⊢; omega)]
  | n + 1, [], b :: y, h => by rw [pairsS]; show _ :: pairsF n [] y = _; rw [pairsF_eq n [] y (by simp at h ⊢; omega)]
  | n + 1, a :: x, b :: y, h => by
    rw [pairsS]
    show (if a < b then _ :: pairsF n x (b :: y) else if b < a then _ :: pairsF n (a :: x) y else _ :: pairsF n x y) = _
    rw [pairsF_eq n x (b :: y) (by simp at h ⊢; omega), pairsF_eq n (a :: x) y (by simp at h ⊢; omega), pairsF_eq n x y (by simp at h ⊢; omega)]
def pairsC (x y : List Int) : List P3 := pairsF (x.length + y.length) x y
theorem pairsC_eq (x y : List Int) : pairsC x y = pairsS x y := pairsF_eq _ x y (Nat.le_refl _)
def madeF (p : P3 → Bool) (la : Int) (a : List Int) (lb : Int) (b : List Int) : (Int × List Int) × Int :=
  if vchk la a = 0 then (if vchk lb b = 0 then (if 8192 < (((pairsC (belowS a (limS la lb)) (belowS b (limS la lb))).filter p).map (·.1)).length then ((0, []), 3)
    else ((limS la lb, ((pairsC (belowS a (limS la lb)) (belowS b (limS la lb))).filter p).map (·.1)), 0)) else ((0, []), vchk lb b)) else ((0, []), vchk la a)
theorem madeF_eq (p : P3 → Bool) (la : Int) (a : List Int) (lb : Int) (b : List Int) : madeF p la a lb b = madeS p la a lb b := by unfold madeF madeS; rw [pairsC_eq]
def madePF (la : Int) (a : List Int) (lb : Int) (b : List Int) : List P3 := if vchk la a = 0 ∧ vchk lb b = 0 then pairsC (belowS a (limS la lb)) (belowS b (limS la lb)) else []
theorem madePF_eq (la : Int) (a : List Int) (lb : Int) (b : List Int) : madePF la a lb b = madeP la a lb b := by unfold madePF madeP; rw [pairsC_eq]
def MadePost (S0 : Nat → Prop) (KI : List P3 → World → Prop) (p : P3 → Bool) (w : World) (la : Int) (a : List Int) (lb : Int) (b : List Int) (e : Ending) (w' : World) : Prop :=
  ∃ v : Value, e = .returned (.tuple #[.agg #[.int .u64 (madeS p la a lb b).1.1, v], .int .i64 (madeS p la a lb b).2]) ∧ Kd.R (Kd.int .u64) 22 w' w.heap.size (fun _ => True) v (madeS p la a lb b).1.2 ∧ KB S0 w w' ∧ KI (madeP la a lb b) w'
/-- What is asked at made's end; no way panics. -/
def madeQ (R : Ending → World → Prop) : Exit → Act → World → Prop
  | .normal, a, w => LeavesInM Fence.wide 4 Try.prog Try.f66 a.tmps R a.defers .returning w
  | .ret, a, w => LeavesInM Fence.wide 4 Try.prog Try.f66 a.tmps R a.defers .returning w
  | _, _, _ => False
theorem madeQ_ret {R : Ending → World → Prop} {a : Act} {w : World} {v : Value} (h : (results Try.f66 a.tmps).run Try.prog w = .ok v w) (hd : a.defers = []) (hr : R (.returned v) w) : madeQ R .ret a w := by
  show LeavesInM Fence.wide 4 Try.prog Try.f66 a.tmps R a.defers .returning w
  rw [hd]
  exact ⟨v, h, hr⟩
theorem madeQ_ret1 {R : Ending → World → Prop} {a : Act} {w : World} {v : Value} {D : Nat} (hk : w.heap[D]? = some (.deferred (some []))) (h : (results Try.f66 a.tmps).run Try.prog (w.putObj D (.deferred none)) = .ok v (w.putObj D (.deferred none))) (hd : a.defers = [{ target := .collected D, args := #[] }]) (hr : R (.returned v) (w.putObj D (.deferred none))) : madeQ R .ret a w := by
  show LeavesInM Fence.wide 4 Try.prog Try.f66 a.tmps R a.defers .returning w
  rw [hd]
  exact ⟨by simp, .inl ⟨_, _, rfl, run_takeDeferred hk, v, h, hr⟩⟩
attribute [local go_sem] Oper.semAt_some
set_option maxHeartbeats 4000000 in
set_option maxRecDepth 100000 in
theorem made_any (K : Nat) (fb : Array Value) (eK : ∀ args w, (callFunc K args).run Try.prog w = .ok (.enter K args) w) (S0 : Nat → Prop) (p : P3 → Bool) (KI : List P3 → World → Prop)
    (la lb : Int) (Aa Ab : Option Addr) (ca cb : Nat) (xa xb : List Int) (w : World)
    (hra : Kd.C (Kd.int .u64) w Aa xa.length xa) (hca : xa.length ≤ ca) (hrb : Kd.C (Kd.int .u64) w Ab xb.length xb) (hcb : xb.length ≤ cb)
    (hS0 : ∀ k, S0 k → k < w.heap.size) (hSa : ∀ ad, Aa = some ad → 0 < xa.length → ¬ S0 ad.block) (hSb : ∀ ad, Ab = some ad → 0 < xb.length → ¬ S0 ad.block)
    (hKI : ∀ s W W', KI s W → (∀ k, S0 k → W'.heap[k]? = W.heap[k]?) → KI s W')
    (hKp : ∀ pre z W, KI pre W → Calls Try.prog K (#[.agg #[.bool z.2.1, .bool z.2.2]] ++ fb) W fun e W' => e = .returned (.bool (p z)) ∧ KI (pre ++ [z]) W' ∧ KB S0 W W')
    (h0 : KI [] w) :
    Calls Try.prog 66 #[.agg #[.int .u64 la, .slice Aa xa.length ca], .agg #[.int .u64 lb, .slice Ab xb.length cb], .func (.func K) #[] fb] w (MadePost S0 KI p w la xa lb xb) := by
  have EK := Aside0.mk eK
  have HRA := Aside0.mk hra
  have HCA := Aside0.mk hca
  have HRB := Aside0.mk hrb
  have HCB := Aside0.mk hcb
  have HS0 := Aside0.mk hS0
  have HSA := Aside0.mk hSa
  have HSB := Aside0.mk hSb
  have HKI := Aside0.mk hKI
  have HKP := Aside0.mk hKp
  have H0 := Aside0.mk h0
  have HB := Aside0.mk (Below.refl w.heap.size w)
  obtain ⟨k1, hk1⟩ := check_ev la xa
  obtain ⟨k2, hk2⟩ := check_ev lb xb
  have HK1 := Aside0.mk hk1
  have HK2 := Aside0.mk hk2
  clear eK hra hca hrb hcb hS0 hSa hSb hKI hKp h0 hk1 hk2
  obtain ⟨e1, he1⟩ : ∃ e1, vchk la xa = e1 := ⟨_, rfl⟩
  obtain ⟨e2, he2⟩ : ∃ e2, vchk lb xb = e2 := ⟨_, rfl⟩
  rw [he1] at HK1
  rw [he2] at HK2
  have HE1 := Aside0.mk he1
  have HE2 := Aside0.mk he2
  clear he1 he2
  have hu25 := Try.underlying25
  refine callsIn_wide.1 (callsIn_of_wp_marks (n := 4) Try.func66 rfl trivial ?_ rfl)
  refine wpIn_mono (Q := madeQ (MadePost S0 KI p w la xa lb xb)) (wpIn_wide.2 ?_) (fun e a w h => by cases e <;> first | exact h | exact False.elim h)
  simp only [Try.ntmps66, List.size_toArray, List.length_cons, List.length_nil, Nat.reduceAdd, Nat.reduceSub, Array.replicate_succ, Array.replicate_zero, List.push_toArray, List.append_toArray, List.nil_append, List.cons_append]
  have hend : ∀ (W : World) (gr : Nat) (c : Int), ¬ c = 0 → madeS p la xa lb xb = ((0, []), c) → madeP la xa lb xb = [] → W.heap[gr]? = some (.cells #[.int .u64 0, .slice none 0 0] 25 (0, 0)) → Below w.heap.size w W → MadePost S0 KI p w la xa lb xb (.returned (.tuple #[.agg #[.int .u64 0, .slice none 0 0], .int .i64 c])) W := fun W gr c _ h1 h2 _ h4 => by
    unfold MadePost
    rw [h1, h2]
    exact ⟨_, rfl, Kd.R_nil _ _ _ _ _, KB.of_below h4, HKI.out _ _ _ H0.out (fun k hk => h4.block k (HS0.out k hk))⟩
  have HEND := Aside0.mk hend
  clear hend
  by_cases h1 : e1 = 0
  · have t1 : (e1 != 0) = false := by simpa using h1
    have HZ1 := Aside0.mk h1
    clear h1
    by_cases h2 : e2 = 0
    · have t2 : (e2 != 0) = false := by simpa using h2
      have HZ2 := Aside0.mk h2
      clear h2
      obtain ⟨L, hL⟩ : ∃ L, limS la lb = L := ⟨_, rfl⟩
      have HLM := Aside0.mk hL
      have HLF : Aside0 (B.setops_limit.f la lb = some L) := ⟨by rw [limit_eq, hL]⟩
      clear hL
      go_upto_region 8 with (first
        | ((with_reducible refine gate_dst (N := 3) rfl ?_); refine box_event ?hg (N := 3) ?hd (cs := #[.int .u64 la, .slice Aa xa.length ca]) (t := 25) ?hr ?_; (case hd => rfl); (case hg => rfl); (case hr => first | (go_simp; done) | (go_simp; rfl)); intro ga hg w3 hbox hb; have GA := Aside0.mk (by have := HB.out.size; omega : w.heap.size ≤ ga); have NNBA := Aside0.mk (Nat.le_of_eq hg.symm); have hB2 := below_step HB.out hb; clear HB ; have HB := Aside0.mk hB2; clear hB2 ; have BA := Aside0.mk hbox; clear hbox hb hg)
        | ((with_reducible refine gate_dst (N := 4) rfl ?_); refine box_event ?hg (N := 4) ?hd (cs := #[.int .u64 lb, .slice Ab xb.length cb]) (t := 25) ?hr ?_; (case hd => rfl); (case hg => rfl); (case hr => first | (go_simp; done) | (go_simp; rfl)); intro gb hg w4 hbox hb; have GB := Aside0.mk (by have := HB.out.size; omega : w.heap.size ≤ gb); have NNBB := Aside0.mk (Nat.le_of_eq hg.symm); have hB2 := below_step HB.out hb; have z_BA := blk_below BA.out hb; clear HB BA; have HB := Aside0.mk hB2; have BA := Aside0.mk z_BA; clear hB2 z_BA; have BB := Aside0.mk hbox; clear hbox hb hg)
        | ((with_reducible refine gate_dst (N := 5) rfl ?_); refine box_event ?hg (N := 5) ?hd (cs := #[.func (.func K) #[] fb]) (t := 71) ?hr ?_; (case hd => rfl); (case hg => rfl); (case hr => first | (go_simp; done) | (go_simp; rfl)); intro gk hg w5 hbox hb; have GK := Aside0.mk (by have := HB.out.size; omega : w.heap.size ≤ gk); have NNBK := Aside0.mk (Nat.le_of_eq hg.symm); have hB2 := below_step HB.out hb; have z_BA := blk_below BA.out hb; have z_BB := blk_below BB.out hb; clear HB BA BB; have HB := Aside0.mk hB2; have BA := Aside0.mk z_BA; have BB := Aside0.mk z_BB; clear hB2 z_BA z_BB; have BK := Aside0.mk hbox; clear hbox hb hg)
        | (((with_reducible refine gate_dst (N := 6) rfl ?_); refine box_event ?hg (N := 6) ?hd (cs := #[.int .u64 0, .slice none 0 0]) (t := 25) ?hr ?_; (case hd => rfl); (case hg => rfl); (case hr => first | (go_simp; done) | (go_simp; rfl)); intro gr hg w6 hbox hb; have GR := Aside0.mk (by have := HB.out.size; omega : w.heap.size ≤ gr); have NNBR := Aside0.mk (Nat.le_of_eq hg.symm); have hB2 := below_step HB.out hb; have z_BA := blk_below BA.out hb; have z_BB := blk_below BB.out hb; have z_BK := blk_below BK.out hb; clear HB BA BB BK; have HB := Aside0.mk hB2; have BA := Aside0.mk z_BA; have BB := Aside0.mk z_BB; have BK := Aside0.mk z_BK; clear hB2 z_BA z_BB z_BK; have BR := Aside0.mk hbox; clear hbox hb hg); have hca0 := blk_cell BA.out 0; have hca1 := blk_cell BA.out 1)
        | (go_at_call 16; refine (B.setops_Check.calls k1 la Aa ca xa e1 _ (Kd.C_below HRA.out HB.out) HCA.out HK1.out).mono ?_; clear HK1; rintro e w7 ⟨rfl, hb⟩; have hB2 := below_step HB.out hb; have z_BA := blk_below BA.out hb; have z_BB := blk_below BB.out hb; have z_BK := blk_below BK.out hb; have z_BR := blk_below BR.out hb; clear HB BA BB BK BR; have HB := Aside0.mk hB2; have BA := Aside0.mk z_BA; have BB := Aside0.mk z_BB; have BK := Aside0.mk z_BK; have BR := Aside0.mk z_BR; clear hB2 z_BA z_BB z_BK z_BR; clear hb hca0 hca1; have hcb0 := blk_cell BB.out 0; have hcb1 := blk_cell BB.out 1)
        | (go_at_call 16; refine (B.setops_Check.calls k2 lb Ab cb xb e2 _ (Kd.C_below HRB.out HB.out) HCB.out HK2.out).mono ?_; clear HK2; rintro e w8 ⟨rfl, hb⟩; have hB2 := below_step HB.out hb; have z_BA := blk_below BA.out hb; have z_BB := blk_below BB.out hb; have z_BK := blk_below BK.out hb; have z_BR := blk_below BR.out hb; clear HB BA BB BK BR; have HB := Aside0.mk hB2; have BA := Aside0.mk z_BA; have BB := Aside0.mk z_BB; have BK := Aside0.mk z_BK; have BR := Aside0.mk z_BR; clear hB2 z_BA z_BB z_BK z_BR; clear hb hcb0 hcb1; have hca0 := blk_cell BA.out 0; have hcb0 := blk_cell BB.out 0)
        | (go_at_call 103; refine (B.setops_limit.calls la lb L _ HLF.out).mono ?_; clear HLF; rintro e w9 ⟨rfl, hd⟩; have hb := hd.below; have hB2 := below_step HB.out hb; have z_BA := blk_below BA.out hb; have z_BB := blk_below BB.out hb; have z_BK := blk_below BK.out hb; have z_BR := blk_below BR.out hb; clear HB BA BB BK BR; have HB := Aside0.mk hB2; have BA := Aside0.mk z_BA; have BB := Aside0.mk z_BB; have BK := Aside0.mk z_BK; have BR := Aside0.mk z_BR; clear hB2 z_BA z_BB z_BK z_BR; clear hd hb hca0 hcb0; have NRW := Aside0.mk (And.intro (blk_lt BA.out) (And.intro (blk_lt BB.out) (blk_lt BR.out))))
        | (((with_reducible refine gate_dst (N := 10) rfl ?_); refine box_event ?hg (N := 10) ?hd (cs := #[.int .u64 0, .slice none 0 0]) (t := 25) ?hr ?_; (case hd => rfl); (case hg => rfl); (case hr => first | (go_simp; done) | (go_simp; rfl)); intro go hg w10 hbox hb; have GO := Aside0.mk (by have := HB.out.size; omega : w.heap.size ≤ go); have NNBO := Aside0.mk (Nat.le_of_eq hg.symm); have hB2 := below_step HB.out hb; have z_BA := blk_below BA.out hb; have z_BB := blk_below BB.out hb; have z_BK := blk_below BK.out hb; have z_BR := blk_below BR.out hb; clear HB BA BB BK BR; have HB := Aside0.mk hB2; have BA := Aside0.mk z_BA; have BB := Aside0.mk z_BB; have BK := Aside0.mk z_BK; have BR := Aside0.mk z_BR; clear hB2 z_BA z_BB z_BK z_BR; have BO := Aside0.mk hbox; clear hbox hb hg); have ho0 := blk_cell BO.out 0; have ho1 := blk_cell BO.out 1; have hf0 := blk_frozen BO.out 0; have hf1 := blk_frozen BO.out 1))
      have NA : Aside0 (ga ≠ go ∧ gb ≠ go ∧ gr ≠ go) := ⟨by have := NRW.out; have := NNBO.out; omega⟩
      clear NRW NNBA NNBB NNBK NNBR NNBO ho0 ho1 hf0 hf1
      obtain ⟨w11, hw11⟩ : ∃ wz, wz = ((w10.setCell ⟨go, 0, none⟩ (.int .u64 L)).setCell ⟨go, 1, none⟩ (.slice none 0 0)) := ⟨_, rfl⟩
      have z1 : w11.heap[ga]? = some (.cells #[.int .u64 la, .slice Aa xa.length ca] 25 (0, 0)) := by rw [hw11]; exact blk_far (blk_far BA.out NA.out.1 _) NA.out.1 _
      have z2 : w11.heap[gb]? = some (.cells #[.int .u64 lb, .slice Ab xb.length cb] 25 (0, 0)) := by rw [hw11]; exact blk_far (blk_far BB.out NA.out.2.1 _) NA.out.2.1 _
      have z3 : w11.heap[gk]? = some (.cells #[.func (.func K) #[] fb] 71 (0, 0)) := by rw [hw11]; exact blk_far (blk_far BK.out (blk_ne BK.out BO.out (by decide)) _) (blk_ne BK.out BO.out (by decide)) _
      have z4 : w11.heap[gr]? = some (.cells #[.int .u64 0, .slice none 0 0] 25 (0, 0)) := by rw [hw11]; exact blk_far (blk_far BR.out NA.out.2.2 _) NA.out.2.2 _
      have z5 : w11.heap[go]? = some (.cells #[.int .u64 L, .slice none 0 0] 25 (0, 0)) := by rw [hw11]; exact blk_put (blk_put BO.out 0 _ rfl) 1 _ rfl
      have z6 : Below w.heap.size w w11 := by rw [hw11]; exact below_set (below_set HB.out GO.out) GO.out
      rw [← hw11]
      clear hw11 BA BB BK BR BO HB
      have BA := Aside0.mk z1
      have BB := Aside0.mk z2
      have BK := Aside0.mk z3
      have BR := Aside0.mk z4
      have BO := Aside0.mk z5
      have HB := Aside0.mk z6
      clear z1 z2 z3 z4 z5 z6
      have HS0 : Aside0 (w11.drew.cell? ⟨ga, 1, none⟩ = some (.slice Aa xa.length ca) ∧ w11.drew.cell? ⟨gb, 1, none⟩ = some (.slice Ab xb.length cb) ∧ w11.drew.cell? ⟨go, 0, none⟩ = some (.int .u64 L)) := ⟨⟨blk_cell BA.out 1, blk_cell BB.out 1, blk_cell BO.out 0⟩⟩
      /- S8: fun w' => w'.cell? ⟨ga, 1, none⟩ = some (.slice Aa xa.length ca) ∧ w'.cell? ⟨gb, 1, none⟩ = some (.slice Ab xb.length cb) ∧ w'.cell? ⟨go, 0, none⟩ = some (.int .u64 L) -/
      refine start_ (n := 11) (S := fun w' => w'.cell? ⟨ga, 1, none⟩ = some (.slice Aa xa.length ca) ∧ w'.cell? ⟨gb, 1, none⟩ = some (.slice Ab xb.length cb) ∧ w'.cell? ⟨go, 0, none⟩ = some (.int .u64 L)) (ds := []) #[false, false, false, false, false, false, false, false, false, false, false] (by kernel_rfl) rfl rfl HS0.out (fun hHeld => ?_)
      refine pure_ (i := 0) (N := some 31) (v := ?_) (a' := ?_) #[true, false, false, false, false, false, false, false, false, false, false] rfl rfl (by kernel_rfl) (fun _ _ _ h => h) (Or.inl ⟨by rfl, ?_⟩) ?_ ?_
      rotate_left
      · intro w'
        go_simp
        with_reducible rfl
      rotate_left
      · simp only [Act.put, List.setIfInBounds_toArray, List.set_cons_zero, List.set_cons_succ, i64_w, i32_w]
        rfl
      refine take_ (i := 1) (N := some 32) (v := ?_) (a' := ?_) #[true, true, false, false, false, false, false, false, false, false, false] rfl rfl (by kernel_rfl) (fun _ _ _ h => h) (Or.inl ⟨by rfl, ?_⟩) hHeld ?_ ?_
      rotate_left
      · rintro w' ⟨s0, s1, s2⟩
        go_simp
        with_reducible rfl
      rotate_left
      · simp only [Act.put, List.setIfInBounds_toArray, List.set_cons_zero, List.set_cons_succ, i64_w, i32_w]
        rfl
      refine pure_ (i := 2) (N := some 33) (v := ?_) (a' := ?_) #[true, true, true, false, false, false, false, false, false, false, false] rfl rfl (by kernel_rfl) (fun _ _ _ h => h) (Or.inl ⟨by rfl, ?_⟩) ?_ ?_
      rotate_left
      · intro w'
        go_simp
        with_reducible rfl
      rotate_left
      · simp only [Act.put, List.setIfInBounds_toArray, List.set_cons_zero, List.set_cons_succ, i64_w, i32_w]
        rfl
      refine take_ (i := 3) (N := some 34) (v := ?_) (a' := ?_) #[true, true, true, true, false, false, false, false, false, false, false] rfl rfl (by kernel_rfl) (fun _ _ _ h => h) (Or.inl ⟨by rfl, ?_⟩) hHeld ?_ ?_
      rotate_left
      · rintro w' ⟨s0, s1, s2⟩
        go_simp
        with_reducible rfl
      rotate_left
      · simp only [Act.put, List.setIfInBounds_toArray, List.set_cons_zero, List.set_cons_succ, i64_w, i32_w]
        rfl
      refine pure_ (i := 5) (N := some 36) (v := ?_) (a' := ?_) #[true, true, true, true, false, true, false, false, false, false, false] rfl rfl (by kernel_rfl) (fun _ _ _ h => h) (Or.inl ⟨by rfl, ?_⟩) ?_ ?_
      rotate_left
      · intro w'
        go_simp
        with_reducible rfl
      rotate_left
      · simp only [Act.put, List.setIfInBounds_toArray, List.set_cons_zero, List.set_cons_succ, i64_w, i32_w]
        rfl
      refine take_ (i := 6) (N := some 37) (v := ?_) (a' := ?_) #[true, true, true, true, false, true, true, false, false, false, false] rfl rfl (by kernel_rfl) (fun _ _ _ h => h) (Or.inl ⟨by rfl, ?_⟩) hHeld ?_ ?_
      rotate_left
      · rintro w' ⟨s0, s1, s2⟩
        go_simp
        with_reducible rfl
      rotate_left
      · simp only [Act.put, List.setIfInBounds_toArray, List.set_cons_zero, List.set_cons_succ, i64_w, i32_w]
        rfl
      refine pure_ (i := 7) (N := some 38) (v := ?_) (a' := ?_) #[true, true, true, true, false, true, true, true, false, false, false] rfl rfl (by kernel_rfl) (fun _ _ _ h => h) (Or.inl ⟨by rfl, ?_⟩) ?_ ?_
      rotate_left
      · intro w'
        go_simp
        with_reducible rfl
      rotate_left
      · simp only [Act.put, List.setIfInBounds_toArray, List.set_cons_zero, List.set_cons_succ, i64_w, i32_w]
        rfl
      refine take_ (i := 8) (N := some 39) (v := ?_) (a' := ?_) #[true, true, true, true, false, true, true, true, true, false, false] rfl rfl (by kernel_rfl) (fun _ _ _ h => h) (Or.inl ⟨by rfl, ?_⟩) hHeld ?_ ?_
      rotate_left
      · rintro w' ⟨s0, s1, s2⟩
        go_simp
        with_reducible rfl
      rotate_left
      · simp only [Act.put, List.setIfInBounds_toArray, List.set_cons_zero, List.set_cons_succ, i64_w, i32_w]
        rfl
      have hB2 := below_step HB.out (Below.drew (Below.refl _ w11)); have z_BA := blk_below BA.out (Below.drew (Below.refl _ w11)); have z_BB := blk_below BB.out (Below.drew (Below.refl _ w11)); have z_BK := blk_below BK.out (Below.drew (Below.refl _ w11)); have z_BR := blk_below BR.out (Below.drew (Below.refl _ w11)); have z_BO := blk_below BO.out (Below.drew (Below.refl _ w11)); clear HB BA BB BK BR BO; have HB := Aside0.mk hB2; have BA := Aside0.mk z_BA; have BB := Aside0.mk z_BB; have BK := Aside0.mk z_BK; have BR := Aside0.mk z_BR; have BO := Aside0.mk z_BO; clear hB2 z_BA z_BB z_BK z_BR z_BO
      generalize w11.drew = w12 at BA BB BK BR BO HB hHeld ⊢
      clear HS0
      refine one_ (i := 4) (N := some 35) #[true, true, true, true, true, true, true, true, true, false, false] rfl rfl (by kernel_rfl) (by decide) (fun Kq hK => ?_)
      refine goes_ Try.func77 (by kernel_rfl) rfl #[.slice Aa xa.length ca, .int .u64 L] (by rfl) rfl rfl (by (try simp only [List.map_toArray, List.map_cons, List.map_nil]); first | done | rfl) ?_
      refine (setops_below_any Aa ca xa L _ (Kd.C_below HRA.out HB.out) HCA.out (vchk_inc (HE1.out.trans HZ1.out)).1 (vchk_inc (HE1.out.trans HZ1.out)).2).mono ?_
      rintro e w13 ⟨rfl, hd⟩
      have hb := hd.below
      have hB2 := below_step HB.out hb; have z_BA := blk_below BA.out hb; have z_BB := blk_below BB.out hb; have z_BK := blk_below BK.out hb; have z_BR := blk_below BR.out hb; have z_BO := blk_below BO.out hb; clear HB BA BB BK BR BO; have HB := Aside0.mk hB2; have BA := Aside0.mk z_BA; have BB := Aside0.mk z_BB; have BK := Aside0.mk z_BK; have BR := Aside0.mk z_BR; have BO := Aside0.mk z_BO; clear hB2 z_BA z_BB z_BK z_BR z_BO
      refine ⟨_, rfl, ?_⟩
      refine hK.out _ _ ⟨blk_cell BA.out 1, blk_cell BB.out 1, blk_cell BO.out 0⟩ (fun hHeld => ?_)
      clear hK Kq hd hb
      refine norm_ (a' := ?_) ?_ ?_
      rotate_left
      · show Act.put _ (some 35) _ = _
        simp only [Act.put, List.setIfInBounds_toArray, List.set_cons_zero, List.set_cons_succ, i64_w, i32_w]
        rfl
      refine one_ (i := 9) (N := some 40) #[true, true, true, true, true, true, true, true, true, true, false] rfl rfl (by kernel_rfl) (by decide) (fun Kq hK => ?_)
      refine goes_ Try.func77 (by kernel_rfl) rfl #[.slice Ab xb.length cb, .int .u64 L] (by rfl) rfl rfl (by (try simp only [List.map_toArray, List.map_cons, List.map_nil]); first | done | rfl) ?_
      refine (setops_below_any Ab cb xb L _ (Kd.C_below HRB.out HB.out) HCB.out (vchk_inc (HE2.out.trans HZ2.out)).1 (vchk_inc (HE2.out.trans HZ2.out)).2).mono ?_
      rintro e w14 ⟨rfl, hd⟩
      have hb := hd.below
      have hB2 := below_step HB.out hb; have z_BA := blk_below BA.out hb; have z_BB := blk_below BB.out hb; have z_BK := blk_below BK.out hb; have z_BR := blk_below BR.out hb; have z_BO := blk_below BO.out hb; clear HB BA BB BK BR BO; have HB := Aside0.mk hB2; have BA := Aside0.mk z_BA; have BB := Aside0.mk z_BB; have BK := Aside0.mk z_BK; have BR := Aside0.mk z_BR; have BO := Aside0.mk z_BO; clear hB2 z_BA z_BB z_BK z_BR z_BO
      refine ⟨_, rfl, ?_⟩
      refine hK.out _ _ ⟨blk_cell BA.out 1, blk_cell BB.out 1, blk_cell BO.out 0⟩ (fun hHeld => ?_)
      clear hK Kq hd hb
      refine norm_ (a' := ?_) ?_ ?_
      rotate_left
      · show Act.put _ (some 40) _ = _
        simp only [Act.put, List.setIfInBounds_toArray, List.set_cons_zero, List.set_cons_succ, i64_w, i32_w]
        rfl
      refine one_ (i := 10) (N := some 41) #[true, true, true, true, true, true, true, true, true, true, true] rfl rfl (by kernel_rfl) (by decide) (fun Kq hK => ?_)
      refine goes_ Try.func104 (by kernel_rfl) rfl #[.slice Aa (belowS xa L).length ca, .slice Ab (belowS xb L).length cb] (by rfl) rfl rfl (by (try simp only [List.map_toArray, List.map_cons, List.map_nil]); first | done | rfl) ?_
      refine (setops_pairs_any Aa Ab (belowS xa L).length (belowS xb L).length ca cb _).mono ?_
      rintro e w15 ⟨Ba, Bb, rfl, hne, hBa, hBb, sa, sb, hb⟩
      have NB : Aside0 (Ba ≠ Bb ∧ w.heap.size ≤ Ba ∧ w.heap.size ≤ Bb ∧ (gk < Ba ∧ gr < Ba ∧ go < Ba) ∧ (gk < Bb ∧ gr < Bb ∧ go < Bb)) := ⟨by have := HB.out.size; have := blk_lt BK.out; have := blk_lt BR.out; have := blk_lt BO.out; omega⟩
      have SA := Aside0.mk sa
      have SB := Aside0.mk sb
      have hB2 := below_step HB.out hb; have z_BA := blk_below BA.out hb; have z_BB := blk_below BB.out hb; have z_BK := blk_below BK.out hb; have z_BR := blk_below BR.out hb; have z_BO := blk_below BO.out hb; clear HB BA BB BK BR BO; have HB := Aside0.mk hB2; have BA := Aside0.mk z_BA; have BB := Aside0.mk z_BB; have BK := Aside0.mk z_BK; have BR := Aside0.mk z_BR; have BO := Aside0.mk z_BO; clear hB2 z_BA z_BB z_BK z_BR z_BO
      refine ⟨_, rfl, ?_⟩
      refine hK.out _ _ ⟨blk_cell BA.out 1, blk_cell BB.out 1, blk_cell BO.out 0⟩ (fun hHeld => ?_)
      clear hK Kq hb hne hBa hBb sa sb
      refine norm_ (a' := ?_) ?_ ?_
      rotate_left
      · show Act.put _ (some 41) _ = _
        simp only [Act.put, List.setIfInBounds_toArray, List.set_cons_zero, List.set_cons_succ, i64_w, i32_w]
        rfl
      refine done_ (by kernel_rfl) ?_
      repeat clear hHeld
      clear BA BB
      obtain ⟨X, hX⟩ : ∃ X, belowS xa L = X := ⟨_, rfl⟩
      obtain ⟨Y, hY⟩ : ∃ Y, belowS xb L = Y := ⟨_, rfl⟩
      have HCX : Aside0 (∀ W, Kd.C (Kd.int .u64) W Aa xa.length xa → Kd.C (Kd.int .u64) W Aa X.length X) := ⟨fun W h => by rw [← hX]; exact belowS_C L h⟩
      have HCY : Aside0 (∀ W, Kd.C (Kd.int .u64) W Ab xb.length xb → Kd.C (Kd.int .u64) W Ab Y.length Y) := ⟨fun W h => by rw [← hY]; exact belowS_C L h⟩
      have HLL : Aside0 (X.length ≤ xa.length ∧ Y.length ≤ xb.length) := ⟨by rw [← hX, ← hY]; unfold belowS; constructor <;> (split; exact Nat.le_refl _; rw [List.length_take]; omega)⟩
      have HLA : Aside0 (xa.length ≤ 8192 ∧ xb.length ≤ 8192) := ⟨⟨(vchk_inc (HE1.out.trans HZ1.out)).2, (vchk_inc (HE2.out.trans HZ2.out)).2⟩⟩
      have HMS : Aside0 (madeS p la xa lb xb = if 8192 < (((pairsS X Y).filter p).map (·.1)).length then ((0, []), 3) else ((L, ((pairsS X Y).filter p).map (·.1)), 0)) := ⟨by unfold madeS; rw [HE1.out, HE2.out, if_pos HZ1.out, if_pos HZ2.out, HLM.out, hX, hY]⟩
      have HMP : Aside0 (madeP la xa lb xb = pairsS X Y) := ⟨by unfold madeP; rw [HE1.out, HE2.out, if_pos ⟨HZ1.out, HZ2.out⟩, HLM.out, hX, hY]⟩
      rw [hX] at SA
      rw [hY] at SB
      rw [hX, hY]
      clear hX hY
      have hsz := HB.out.size
      have hSB := blk_lt SB.out
      have hSA := blk_lt SA.out
      have HSZ := Aside0.mk (And.intro hsz (And.intro hSA hSB))
      have hinv : MI S0 KI p w (.func (.func K) #[] fb) L gk gr go Ba Bb [] w15 := ⟨KB.of_below HB.out, HKI.out _ _ _ H0.out (fun k hk => HB.out.block k (HS0.out k hk)), BK.out, BR.out, _, BO.out, World.ownsRow_nil _ _ _ _, by simp [Value.ownBlock], by simp [Value.ownBlock]⟩
      have HIV := Aside0.mk hinv
      clear hsz hSA hSB hinv HEND
      go_wp2_with (fail)
      refine range_pairs Ba Bb NB.out.1 HSZ.out.2.1 HSZ.out.2.2 Aa Ab X Y rfl (MI S0 KI p w (.func (.func K) #[] fb) L gk gr go Ba Bb)
        (fun s W W' h hb => h.below HS0.out HKI.out hb)
        (fun s W b u hb h => h.set HS0.out HKI.out hb (by have := NB.out; rcases hb with rfl | rfl <;> omega) (by have := NB.out; rcases hb with rfl | rfl <;> omega) (by have := NB.out; rcases hb with rfl | rfl <;> omega) (by have := NB.out; rcases hb with rfl | rfl <;> omega) u)
        (fun s W h => ⟨HCX.out _ (h.kb.C HRA.out HSA.out), HCY.out _ (h.kb.C HRB.out HSB.out)⟩)
        (fun s W k o o' h hk ho hc => h.put HS0.out HKI.out o' (Nat.le_trans HSZ.out.1 hk) ho hc)
        (fun z a' W => ∃ bx, W.heap[bx]? = some (.cells #[.bool z.2.1, .bool z.2.2] 73 (0, 0)) ∧ a' = { tmps := #[.agg #[.int .u64 la, .slice Aa xa.length ca], .agg #[.int .u64 lb, .slice Ab xb.length cb], .func (.func K) #[] fb, .pointer (some ⟨ga, 0, none⟩), .pointer (some ⟨gb, 0, none⟩), .pointer (some ⟨gk, 0, none⟩), .pointer (some ⟨gr, 0, none⟩), .int .i64 0, .int .i64 e1, .int .i64 e2, .pointer (some ⟨go, 0, none⟩), .int .u64 z.1, .pointer (some ⟨bx, 0, none⟩), .agg #[.int .u64 la, .slice Aa xa.length ca], .int .i64 e1, .int .i64 e1, .bool false, undef, undef, .agg #[.int .u64 lb, .slice Ab xb.length cb], .int .i64 e2, .int .i64 e2, .bool false, undef, undef, .pointer (some ⟨ga, 0, none⟩), .int .u64 la, .pointer (some ⟨gb, 0, none⟩), .int .u64 lb, .int .u64 L, .agg #[.int .u64 L, .slice none 0 0], .pointer (some ⟨ga, 1, none⟩), .slice Aa xa.length ca, .pointer (some ⟨go, 0, none⟩), .int .u64 L, .slice Aa X.length ca, .pointer (some ⟨gb, 1, none⟩), .slice Ab xb.length cb, .pointer (some ⟨go, 0, none⟩), .int .u64 L, .slice Ab Y.length cb, .func (.func 124) #[] #[.pointer (some ⟨Ba, 0, none⟩), .pointer (some ⟨Bb, 0, none⟩)], .int .u64 z.1, .agg #[.bool z.2.1, .bool z.2.2], undef, undef, undef, undef, undef, undef, undef, undef, undef, undef, undef, undef, undef, undef, undef], defers := [] })
        (fun z a' W k o o' h hk ho hc => ?hAp)
        ⟨⟨Aa, ca, SA.out, by have := HLL.out; have := HCA.out; omega, fun W h => h⟩, ⟨Ab, cb, SB.out, by have := HLL.out; have := HCB.out; omega, fun W h => h⟩⟩ HIV.out ?assign ?body ?done
      case hAp =>
        obtain ⟨bx, hbx, ea⟩ := h
        refine ⟨bx, (World.putObj_heap_other (fun e => ?_)).trans hbx, ea⟩
        subst e
        rw [hbx] at ho
        injection ho with ho
        subst ho
        cases hc
      case assign =>
        intro l pre z W x y Kq hI hL hK
        simp only [List.setIfInBounds_toArray, List.set_cons_zero, List.set_cons_succ]
        gi_wp2
        exact hK _ _ ((KeepsOthers.alloc _ _).from _) (hI.below HS0.out HKI.out ((Below.refl _ _).alloc (Nat.le_refl _) _)) (hL.below ((Below.refl _ _).alloc (Nat.le_refl _) _)) ⟨W.heap.size, blk_new _ _, rfl⟩
      case body =>
        rintro l pre z rest a' W x y hI hL ⟨bx, hbx, rfl⟩ heq
        obtain ⟨zh, za, zb⟩ := z
        have HQ := Aside0.mk heq
        have HL := Aside0.mk hL
        have HX := Aside0.mk hbx
        have HI := Aside0.mk hI
        have hc0 := blk_cell HI.out.bk 0
        have hx0 := blk_cell HX.out 0
        have hx1 := blk_cell HX.out 1
        clear heq hL hbx hI
        have HKW : Aside0 (∀ k, w.heap.size ≤ k → ¬ S0 k) := ⟨fun k hk hs => by have := HS0.out k hs; omega⟩
        obtain ⟨b, hb⟩ : ∃ b, p (zh, za, zb) = b := ⟨_, rfl⟩
        have HPZ := Aside0.mk hb
        have HKC : Aside0 (Calls Try.prog K (#[.agg #[.bool za, .bool zb]] ++ fb) W fun e W' => e = .returned (.bool b) ∧ KI (pre ++ [(zh, za, zb)]) W' ∧ KB S0 W W') := ⟨by rw [← hb]; exact HKP.out pre (zh, za, zb) W HI.out.ki⟩
        clear hb
        gi_wp2_with (fail)
        refine ⟨trivial, ?_⟩
        rw [EK.out, Oper.uponIn_enter]
        refine ⟨fun _ => by omega, (CallsIn.inRound l (callsIn_wide.2 HKC.out)).mono ?_⟩
        rintro e W1 ⟨rfl, hki, hkb⟩
        obtain ⟨o1, o2, o3, v, o4, o5, o6, o7⟩ := HI.out.over HS0.out hkb GK.out GR.out GO.out
        have HF1 := hkb.keeps HS0.out HSZ.out.1
        have HL1 : Left X Y Aa Ab Ba Bb W1 x y := HL.out.over (hkb.block Ba (by obtain ⟨_, h⟩ := HL.out.types.1; exact blk_lt h) (HKW.out _ NB.out.2.1)) (hkb.block Bb (by obtain ⟨_, h⟩ := HL.out.types.2; exact blk_lt h) (HKW.out _ NB.out.2.2.1))
        cases b with
        | false =>
          clear hc0 hx0 hx1
          have ef : (pre ++ [(zh, za, zb)]).filter p = pre.filter p := by rw [List.filter_append]; simp [HPZ.out]
          have HFIN : Aside0 (MI S0 KI p w (.func (.func K) #[] fb) L gk gr go Ba Bb (pre ++ [(zh, za, zb)]) W1) := ⟨⟨o1, hki, o2, o3, v, o4, by rw [ef]; exact o5, o6, o7⟩⟩
          have HF2 := Aside0.mk HF1
          have HL2 := Aside0.mk HL1
          clear HF1 HL1 o1 o2 o3 o4 o5 o6 o7 hki hkb ef
          gi_wp2
          exact ⟨HF2.out, HFIN.out, HL2.out⟩
        | true =>
          have ef : (pre ++ [(zh, za, zb)]).filter p = pre.filter p ++ [(zh, za, zb)] := by rw [List.filter_append]; simp [HPZ.out]
          have EF := Aside0.mk ef
          have hlen : ((pre.filter p).map (·.1)).length ≤ 16384 := by
            have h1 := List.length_filter_le p pre
            have h2 := pairsS_len X Y
            rw [HQ.out, List.length_append] at h2
            have := HLL.out
            have := HLA.out
            rw [List.length_map]
            omega
          obtain ⟨q, hq⟩ : ∃ q, (pre.filter p).map (·.1) = q := ⟨_, rfl⟩
          rw [hq] at hlen o5
          have HQQ := Aside0.mk hq
          have hg1 := blk_cell o4 1
          have O1 := Aside0.mk o1
          have O2 := Aside0.mk o2
          have O3 := Aside0.mk o3
          have O4 := Aside0.mk o4
          have O5 := Aside0.mk o5
          have HKI2 := Aside0.mk hki
          have HF2 := Aside0.mk HF1
          have HL2 := Aside0.mk HL1
          have O6 := Aside0.mk (And.intro o6 o7)
          have HS1 : Aside0 (w.heap.size ≤ W1.heap.size) := ⟨o1.size⟩
          clear HF1 HL1 o1 o2 o3 o4 o5 o6 o7 hki hkb ef hq hc0 hx0 hx1
          obtain ⟨i0, hi, hz0, hz1, hz2⟩ := info_parts minfo_u64
          have hml : q.length + 1 ≤ maxLen := by unfold maxLen; omega
          gi_wp2_with (gi_at_builtin; refine wpListIn_append_own _ rfl _ _ 23 rfl w.heap.size 22 i0 (.int .u64 0) 1 8 Try.underlying23 hi hz0 hz1 hz2 rfl (by decide) v q.length _ rfl (O5.out.alloc _) ⟨W1.heap.size, 0, none⟩ 1 1 [.int .u64 zh] rfl rfl (cell_one_new _ _ _) (by simp [Value.oneCell']) hml (by omega) (by have := HS1.out; simp; omega) ?_; intro v' w2 hown' hgrow _; obtain ⟨g', cap', rfl⟩ := ownsRow_succ hown'; have HOWN := Aside0.mk hown'; have HGR := Aside0.mk hgrow; have hg2 := blk_cell (blk_grown (blk_alloc O4.out _) hgrow (own_ne O5.out O4.out (by decide))) 1; have hf2 := blk_frozen (blk_grown (blk_alloc O4.out _) hgrow (own_ne O5.out O4.out (by decide))) 1; clear hown' hgrow hg1)
          have HT : ∀ k o, W1.heap[k]? = some o → some k ≠ v.ownBlock → k ≠ go → (w2.setCell ⟨go, 1, none⟩ (.slice (some ⟨g', 0, none⟩) (q.length + 1) cap')).heap[k]? = some o := fun k o h1 h2 h3 => (Below.heap_setCell _ _ _ _ h3).trans (blk_grown (blk_alloc h1 _) HGR.out h2)
          have hgo2 := blk_grown (blk_alloc O4.out _) HGR.out (own_ne O5.out O4.out (by decide))
          obtain ⟨⟨csa, hta⟩, ⟨csb, htb⟩⟩ := HL2.out.types
          have hgoB : Ba ≠ go ∧ Bb ≠ go := by have := NB.out; omega
          have hTa := HT Ba _ hta O6.out.1 hgoB.1
          have hTb := HT Bb _ htb O6.out.2 hgoB.2
          have hwa := blk_grown (blk_alloc hta _) HGR.out O6.out.1
          have hwb := blk_grown (blk_alloc htb _) HGR.out O6.out.2
          refine ⟨?_, ⟨?_, ?_, ?_, ?_, .slice (some ⟨g', 0, none⟩) (q.length + 1) cap', ?_, ?_, own_ne HOWN.out hwa (by decide), own_ne HOWN.out hwb (by decide)⟩, HL2.out.over (hTa.trans hta.symm) (hTb.trans htb.symm)⟩
          · refine ⟨Nat.le_trans HF2.out.size ?_, fun k o hk h0 ho => ?_⟩
            · have := HGR.out.size
              simp [World.setCell] at this ⊢
              omega
            · have h1 := HF2.out.same k o hk h0 ho
              refine HT k o h1 (fun he => ?_) (fun he => ?_)
              · obtain ⟨cells, hc⟩ := own_typed O5.out k he.symm
                rw [hc] at h1
                injection h1 with h1
                subst h1
                cases ho
              · subst he
                rw [O4.out] at h1
                injection h1 with h1
                subst h1
                cases ho
          · exact ((O1.out.below ((Below.refl _ _).alloc (Nat.le_refl _) _)).grown HGR.out (fun k hk => own_base O5.out k hk)).set GO.out _
          · refine HKI.out _ _ _ HKI2.out (fun k hk => ?_)
            have hlt := HS0.out k hk
            have hlt2 : k < W1.heap.size := Nat.lt_of_lt_of_le hlt HS1.out
            have hgo := GO.out
            exact (Below.heap_setCell _ _ _ _ (by show k ≠ go; omega)).trans ((HGR.out.block k (by simp; omega) (fun he => by have := own_base O5.out k he.symm; omega)).trans (Below.heap_alloc _ _ _ hlt2))
          · exact HT gk _ O2.out (own_ne O5.out O2.out (by decide)) (blk_ne O2.out O4.out (by decide))
          · exact HT gr _ O3.out (own_ne O5.out O3.out (by decide)) NA.out.2.2
          · exact blk_put hgo2 1 _ rfl
          · have e1 : ((pre ++ [(zh, za, zb)]).filter p).map (·.1) = q ++ [zh] := by rw [EF.out, List.map_append, HQQ.out]; rfl
            rw [e1]
            have h2 := HOWN.out
            have e3 : nums .u64 q ++ [.int .u64 zh] = nums .u64 (q ++ [zh]) := by simp [nums]
            rw [e3] at h2
            have h3 := ownsRow_setCell_other (a := ⟨go, 1, none⟩) h2 (fun he => own_ne HOWN.out hgo2 (by decide) he.symm) (.slice (some ⟨g', 0, none⟩) (q.length + 1) cap')
            simpa using h3
      case done =>
        intro D W hD hI hK
        obtain ⟨kb, ki, bk, br, v, go1, row, n1, n2⟩ := hI
        obtain ⟨q, hq⟩ : ∃ q, ((pairsS X Y).filter p).map (·.1) = q := ⟨_, rfl⟩
        rw [hq] at row
        have HQ := Aside0.mk hq
        have HR : Kd.R (Kd.int .u64) 22 W w.heap.size (fun _ => True) v q := Kd.R_of_own (enc := Value.int .u64) row (fun _ _ => trivial)
        obtain ⟨A, c, ev⟩ := Kd.R_slice HR
        subst ev
        have HDD : Aside0 (w.heap.size ≤ D ∧ D ≠ gr) := ⟨Nat.le_trans HSZ.out.1 hD, fun he => by
          subst he
          rw [br] at hK
          injection hK with hK
          cases hK⟩
        have HKB := Aside0.mk kb
        have HKI3 := Aside0.mk ki
        have BR3 := Aside0.mk br
        have BO3 := Aside0.mk go1
        have HRR := Aside0.mk HR
        have HKK := Aside0.mk hK
        have hg0 := blk_cell go1 0
        have hg1 := blk_cell go1 1
        have hr0 := blk_cell br 0
        have hr1 := blk_cell br 1
        have hf0 := blk_frozen br 0
        have hf1 := blk_frozen br 1
        have HKF : Aside0 (∀ u0 u1 : Value, ((W.setCell ⟨gr, 0, none⟩ u0).setCell ⟨gr, 1, none⟩ u1).heap[D]? = some (.deferred (some [])) ∧ KB S0 w (((W.setCell ⟨gr, 0, none⟩ u0).setCell ⟨gr, 1, none⟩ u1).putObj D (.deferred none)) ∧ KI (pairsS X Y) (((W.setCell ⟨gr, 0, none⟩ u0).setCell ⟨gr, 1, none⟩ u1).putObj D (.deferred none)) ∧
            (((W.setCell ⟨gr, 0, none⟩ u0).setCell ⟨gr, 1, none⟩ u1).putObj D (.deferred none)).heap[gr]? = some (.cells #[u0, u1] 25 (0, 0)) ∧ Kd.R (Kd.int .u64) 22 (((W.setCell ⟨gr, 0, none⟩ u0).setCell ⟨gr, 1, none⟩ u1).putObj D (.deferred none)) w.heap.size (fun _ => True) (.slice A q.length c) q) := ⟨fun u0 u1 => by
          have e1 : ((W.setCell ⟨gr, 0, none⟩ u0).setCell ⟨gr, 1, none⟩ u1).heap[D]? = some (.deferred (some [])) := (Below.heap_setCell _ _ _ _ HDD.out.2).trans ((Below.heap_setCell _ _ _ _ HDD.out.2).trans HKK.out)
          have e2 := (blk_put (blk_put BR3.out 0 u0 rfl) 1 u1 rfl)
          refine ⟨e1, ((HKB.out.set GR.out u0).set GR.out u1).put HDD.out.1 _, HKI.out _ _ _ HKI3.out (fun k hk => ?_), (World.putObj_heap_other (Ne.symm HDD.out.2)).trans e2, ?_⟩
          · have := HS0.out k hk
            have := GR.out
            have := HDD.out.1
            exact (World.putObj_heap_other (by omega)).trans ((Below.heap_setCell _ _ _ _ (by show k ≠ gr; omega)).trans (Below.heap_setCell _ _ _ _ (by show k ≠ gr; omega)))
          · have r1 := Kd.R_types HRR.out BR3.out (by decide)
            have r2 := Kd.R_far (p := ⟨gr, 1, none⟩) (Kd.R_far (p := ⟨gr, 0, none⟩) r1 (fun _ hk => hk.2) u0) (fun _ hk => hk.2) u1
            refine Kd.R_mono (Kd.R_move (Kd.R_bound r2) (fun k hk => World.putObj_heap_other (fun he => ?_))) (fun _ _ => trivial)
            obtain ⟨_, _, _, q', _, cells, hc⟩ := hk
            subst he
            rw [hc] at e1
            cases e1⟩
        have hal : q.length ≤ 16384 := by
          rw [← hq, List.length_map]
          have h1 := List.length_filter_le p (pairsS X Y)
          have h2 := pairsS_len X Y
          have := HLL.out
          have := HLA.out
          omega
        clear kb ki bk br go1 row n1 n2 HR hK hq
        by_cases hlong : 8192 < q.length
        · have d1 : decide (8192 < q.length) = true := by simpa using hlong
          have d2 : decide ((8192 : Int) < (q.length : Int)) = true := by simp; omega
          have HLG := Aside0.mk hlong
          clear hlong
          go_wp2
          obtain ⟨f1, f2, f3, f4, f5⟩ := HKF.out (.int .u64 0) (.slice none 0 0)
          refine madeQ_ret1 (D := D) f1 (results_ct rfl _ _ gr 25 #[.int .u64 0, .slice none 0 0] (0, 0) _ rfl f4 Try.underlying25 rfl (by kernel_rfl)) rfl ?_
          unfold MadePost
          rw [HMS.out, HMP.out, HQ.out, if_pos HLG.out]
          exact ⟨_, rfl, Kd.R_nil _ _ _ _ _, f2, f3⟩
        · have d1 : decide (8192 < q.length) = false := by simpa using hlong
          have d2 : decide ((8192 : Int) < (q.length : Int)) = false := by simp; omega
          have HLG := Aside0.mk hlong
          clear hlong
          go_wp2
          obtain ⟨f1, f2, f3, f4, f5⟩ := HKF.out (.int .u64 L) (.slice A q.length c)
          refine madeQ_ret1 (D := D) f1 (results_ct rfl _ _ gr 25 #[.int .u64 L, .slice A q.length c] (0, 0) _ rfl f4 Try.underlying25 rfl (by kernel_rfl)) rfl ?_
          unfold MadePost
          rw [HMS.out, HMP.out, HQ.out, if_neg HLG.out]
          exact ⟨_, rfl, f5, f2, f3⟩
    · have t2 : (e2 != 0) = true := by simpa using h2
      have HZ2 := Aside0.mk h2
      clear h2
      go_wp2_with (first
        | ((with_reducible refine gate_dst (N := 3) rfl ?_); refine box_event ?hg (N := 3) ?hd (cs := #[.int .u64 la, .slice Aa xa.length ca]) (t := 25) ?hr ?_; (case hd => rfl); (case hg => rfl); (case hr => first | (go_simp; done) | (go_simp; rfl)); intro ga hg w3 hbox hb; have GA := Aside0.mk (by have := HB.out.size; omega : w.heap.size ≤ ga); have NNBA := Aside0.mk (Nat.le_of_eq hg.symm); have hB2 := below_step HB.out hb; clear HB ; have HB := Aside0.mk hB2; clear hB2 ; have BA := Aside0.mk hbox; clear hbox hb hg)
        | ((with_reducible refine gate_dst (N := 4) rfl ?_); refine box_event ?hg (N := 4) ?hd (cs := #[.int .u64 lb, .slice Ab xb.length cb]) (t := 25) ?hr ?_; (case hd => rfl); (case hg => rfl); (case hr => first | (go_simp; done) | (go_simp; rfl)); intro gb hg w4 hbox hb; have GB := Aside0.mk (by have := HB.out.size; omega : w.heap.size ≤ gb); have NNBB := Aside0.mk (Nat.le_of_eq hg.symm); have hB2 := below_step HB.out hb; have z_BA := blk_below BA.out hb; clear HB BA; have HB := Aside0.mk hB2; have BA := Aside0.mk z_BA; clear hB2 z_BA; have BB := Aside0.mk hbox; clear hbox hb hg)
        | ((with_reducible refine gate_dst (N := 5) rfl ?_); refine box_event ?hg (N := 5) ?hd (cs := #[.func (.func K) #[] fb]) (t := 71) ?hr ?_; (case hd => rfl); (case hg => rfl); (case hr => first | (go_simp; done) | (go_simp; rfl)); intro gk hg w5 hbox hb; have GK := Aside0.mk (by have := HB.out.size; omega : w.heap.size ≤ gk); have NNBK := Aside0.mk (Nat.le_of_eq hg.symm); have hB2 := below_step HB.out hb; have z_BA := blk_below BA.out hb; have z_BB := blk_below BB.out hb; clear HB BA BB; have HB := Aside0.mk hB2; have BA := Aside0.mk z_BA; have BB := Aside0.mk z_BB; clear hB2 z_BA z_BB; have BK := Aside0.mk hbox; clear hbox hb hg)
        | (((with_reducible refine gate_dst (N := 6) rfl ?_); refine box_event ?hg (N := 6) ?hd (cs := #[.int .u64 0, .slice none 0 0]) (t := 25) ?hr ?_; (case hd => rfl); (case hg => rfl); (case hr => first | (go_simp; done) | (go_simp; rfl)); intro gr hg w6 hbox hb; have GR := Aside0.mk (by have := HB.out.size; omega : w.heap.size ≤ gr); have NNBR := Aside0.mk (Nat.le_of_eq hg.symm); have hB2 := below_step HB.out hb; have z_BA := blk_below BA.out hb; have z_BB := blk_below BB.out hb; have z_BK := blk_below BK.out hb; clear HB BA BB BK; have HB := Aside0.mk hB2; have BA := Aside0.mk z_BA; have BB := Aside0.mk z_BB; have BK := Aside0.mk z_BK; clear hB2 z_BA z_BB z_BK; have BR := Aside0.mk hbox; clear hbox hb hg); have hca0 := blk_cell BA.out 0; have hca1 := blk_cell BA.out 1)
        | (go_at_call 16; refine (B.setops_Check.calls k1 la Aa ca xa e1 _ (Kd.C_below HRA.out HB.out) HCA.out HK1.out).mono ?_; clear HK1; rintro e w7 ⟨rfl, hb⟩; have hB2 := below_step HB.out hb; have z_BA := blk_below BA.out hb; have z_BB := blk_below BB.out hb; have z_BK := blk_below BK.out hb; have z_BR := blk_below BR.out hb; clear HB BA BB BK BR; have HB := Aside0.mk hB2; have BA := Aside0.mk z_BA; have BB := Aside0.mk z_BB; have BK := Aside0.mk z_BK; have BR := Aside0.mk z_BR; clear hB2 z_BA z_BB z_BK z_BR; clear hb hca0 hca1; have hcb0 := blk_cell BB.out 0; have hcb1 := blk_cell BB.out 1)
        | (go_at_call 16; refine (B.setops_Check.calls k2 lb Ab cb xb e2 _ (Kd.C_below HRB.out HB.out) HCB.out HK2.out).mono ?_; clear HK2; rintro e w8 ⟨rfl, hb⟩; have hB2 := below_step HB.out hb; have z_BA := blk_below BA.out hb; have z_BB := blk_below BB.out hb; have z_BK := blk_below BK.out hb; have z_BR := blk_below BR.out hb; clear HB BA BB BK BR; have HB := Aside0.mk hB2; have BA := Aside0.mk z_BA; have BB := Aside0.mk z_BB; have BK := Aside0.mk z_BK; have BR := Aside0.mk z_BR; clear hB2 z_BA z_BB z_BK z_BR; clear hb hcb0 hcb1; have hr0 := blk_cell BR.out 0; have hr1 := blk_cell BR.out 1; have hf0 := blk_frozen BR.out 0; have hf1 := blk_frozen BR.out 1))
      refine madeQ_ret (results_ct rfl _ _ gr 25 #[.int .u64 0, .slice none 0 0] (0, 0) _ rfl (by refine blk_put (cs := #[.int .u64 0, .slice none 0 0]) (blk_put (cs := #[.int .u64 0, .slice none 0 0]) BR.out 0 _ rfl) 1 _ rfl) Try.underlying25 rfl (by kernel_rfl)) rfl ?_
      exact HEND.out _ gr e2 HZ2.out (by unfold madeS; rw [HE1.out, HE2.out, if_pos HZ1.out, if_neg HZ2.out]) (by unfold madeP; rw [HE2.out]; exact if_neg (fun h => HZ2.out h.2)) (by refine blk_put (cs := #[.int .u64 0, .slice none 0 0]) (blk_put (cs := #[.int .u64 0, .slice none 0 0]) BR.out 0 _ rfl) 1 _ rfl) (below_set (below_set HB.out GR.out) GR.out)
  · have t1 : (e1 != 0) = true := by simpa using h1
    have HZ1 := Aside0.mk h1
    clear h1
    go_wp2_with (first
      | ((with_reducible refine gate_dst (N := 3) rfl ?_); refine box_event ?hg (N := 3) ?hd (cs := #[.int .u64 la, .slice Aa xa.length ca]) (t := 25) ?hr ?_; (case hd => rfl); (case hg => rfl); (case hr => first | (go_simp; done) | (go_simp; rfl)); intro ga hg w3 hbox hb; have GA := Aside0.mk (by have := HB.out.size; omega : w.heap.size ≤ ga); have NNBA := Aside0.mk (Nat.le_of_eq hg.symm); have hB2 := below_step HB.out hb; clear HB ; have HB := Aside0.mk hB2; clear hB2 ; have BA := Aside0.mk hbox; clear hbox hb hg)
      | ((with_reducible refine gate_dst (N := 4) rfl ?_); refine box_event ?hg (N := 4) ?hd (cs := #[.int .u64 lb, .slice Ab xb.length cb]) (t := 25) ?hr ?_; (case hd => rfl); (case hg => rfl); (case hr => first | (go_simp; done) | (go_simp; rfl)); intro gb hg w4 hbox hb; have GB := Aside0.mk (by have := HB.out.size; omega : w.heap.size ≤ gb); have NNBB := Aside0.mk (Nat.le_of_eq hg.symm); have hB2 := below_step HB.out hb; have z_BA := blk_below BA.out hb; clear HB BA; have HB := Aside0.mk hB2; have BA := Aside0.mk z_BA; clear hB2 z_BA; have BB := Aside0.mk hbox; clear hbox hb hg)
      | ((with_reducible refine gate_dst (N := 5) rfl ?_); refine box_event ?hg (N := 5) ?hd (cs := #[.func (.func K) #[] fb]) (t := 71) ?hr ?_; (case hd => rfl); (case hg => rfl); (case hr => first | (go_simp; done) | (go_simp; rfl)); intro gk hg w5 hbox hb; have GK := Aside0.mk (by have := HB.out.size; omega : w.heap.size ≤ gk); have NNBK := Aside0.mk (Nat.le_of_eq hg.symm); have hB2 := below_step HB.out hb; have z_BA := blk_below BA.out hb; have z_BB := blk_below BB.out hb; clear HB BA BB; have HB := Aside0.mk hB2; have BA := Aside0.mk z_BA; have BB := Aside0.mk z_BB; clear hB2 z_BA z_BB; have BK := Aside0.mk hbox; clear hbox hb hg)
      | (((with_reducible refine gate_dst (N := 6) rfl ?_); refine box_event ?hg (N := 6) ?hd (cs := #[.int .u64 0, .slice none 0 0]) (t := 25) ?hr ?_; (case hd => rfl); (case hg => rfl); (case hr => first | (go_simp; done) | (go_simp; rfl)); intro gr hg w6 hbox hb; have GR := Aside0.mk (by have := HB.out.size; omega : w.heap.size ≤ gr); have NNBR := Aside0.mk (Nat.le_of_eq hg.symm); have hB2 := below_step HB.out hb; have z_BA := blk_below BA.out hb; have z_BB := blk_below BB.out hb; have z_BK := blk_below BK.out hb; clear HB BA BB BK; have HB := Aside0.mk hB2; have BA := Aside0.mk z_BA; have BB := Aside0.mk z_BB; have BK := Aside0.mk z_BK; clear hB2 z_BA z_BB z_BK; have BR := Aside0.mk hbox; clear hbox hb hg); have hca0 := blk_cell BA.out 0; have hca1 := blk_cell BA.out 1)
      | (go_at_call 16; refine (B.setops_Check.calls k1 la Aa ca xa e1 _ (Kd.C_below HRA.out HB.out) HCA.out HK1.out).mono ?_; rintro e w7 ⟨rfl, hb⟩; have hB2 := below_step HB.out hb; have z_BA := blk_below BA.out hb; have z_BB := blk_below BB.out hb; have z_BK := blk_below BK.out hb; have z_BR := blk_below BR.out hb; clear HB BA BB BK BR; have HB := Aside0.mk hB2; have BA := Aside0.mk z_BA; have BB := Aside0.mk z_BB; have BK := Aside0.mk z_BK; have BR := Aside0.mk z_BR; clear hB2 z_BA z_BB z_BK z_BR; clear hb hca0 hca1; have hr0 := blk_cell BR.out 0; have hr1 := blk_cell BR.out 1; have hf0 := blk_frozen BR.out 0; have hf1 := blk_frozen BR.out 1))
    refine madeQ_ret (results_ct rfl _ _ gr 25 #[.int .u64 0, .slice none 0 0] (0, 0) _ rfl (by refine blk_put (cs := #[.int .u64 0, .slice none 0 0]) (blk_put (cs := #[.int .u64 0, .slice none 0 0]) BR.out 0 _ rfl) 1 _ rfl) Try.underlying25 rfl (by kernel_rfl)) rfl ?_
    exact HEND.out _ gr e1 HZ1.out (by unfold madeS; rw [HE1.out, if_neg HZ1.out]) (by unfold madeP; rw [HE1.out]; exact if_neg (fun h => HZ1.out h.1)) (by refine blk_put (cs := #[.int .u64 0, .slice none 0 0]) (blk_put (cs := #[.int .u64 0, .slice none 0 0]) BR.out 0 _ rfl) 1 _ rfl) (below_set (below_set HB.out GR.out) GR.out)

end Go.Proofs.Ytpagondojdlknaa.H
