/- Contracts of Go functions, walked by hand: each call comes to the Lean function beside it and leaves what was there before. -/
import Derived.Test.YtichljgjfioanaaProg
import Derived.Below
import Derived.Deep.Draws
import Derived.Deep.AppendLies
import Derived.Maps.AppendAt
import Derived.OwnWalk
import Derived.Laws.BytesArg
import Derived.Laws.MakeOwn
import Derived.Laws.OwnMore
import Derived.Deep.OwnRows
import Derived.Tactics
import Derived.Lib.ConvBytes
import Derived.Laws.Slices
import Derived.WalkKit
import Derived.KernelRfl
import Derived.RowKit3
import Derived.Deep.LoopGhost
import Derived.Deep.QuietTactic
import Derived.BigQuiet
import Derived.WideLaws
import Derived.Deep.DeepCutAuto
import Derived.Deep.CutBlock
import Derived.Deep.RegionHeld3
import Derived.Laws.Rows
import Derived.Lib.AppendStr
import Derived.ArgAppend
import Derived.Laws.IdiomCopy
import Derived.OrdersHeld
import Derived.Laws.BitsLemmas
import Derived.RowKit
import Derived.WalkSpells
import Derived.WalkLawsBesides
import Derived.Laws.Bits64b
import Derived.Laws.BitsAllLaws
import Derived.Maps.OwnSet
import Derived.Test.YtichljgjfioanaaVDN
import Derived.Test.YtichljgjfioanaaH0
import Derived.Test.YtichljgjfioanaaM3
namespace Go.Proofs.Ytichljgjfioanaa.H
open Go.RowKit Go.Proofs.YtichljgjfioanaaW.PrintWords Go.Proofs.YtichljgjfioanaaW.PrintLast Go.Proofs.YtichljgjfioanaaW.PrintMore
attribute [local go_sem] max2_int min2_int max_two min_two max_three min_three max_four min_four
set_option linter.unusedVariables false
set_option linter.unusedSimpArgs false

/-! ### Reading numbers: what both readers come to -/
def isByte (x : Int) : Bool := decide (0 ≤ x) && decide (x ≤ 255)
def numR : List Int → Nat → Int → Int × Int × Nat
  | [], _, _ => (5, 0, 0)
  | c :: r, i, n => if (i = 9 ∧ 1 < c) ∨ (0 < i ∧ c = 0) then (4, 0, 0) else if c < 128 then (0, n + c % 128 * 2 ^ (7 * i), i + 1) else numR r (i + 1) (n + c % 128 * 2 ^ (7 * i))
def rdNum (rest : List Int) (err : Int) : Int × List Int × Int := if err = 0 then (if (numR rest 0 0).1 = 0 then ((numR rest 0 0).2.1, rest.drop (numR rest 0 0).2.2, 0) else (0, rest, (numR rest 0 0).1)) else (0, rest, err)
def rdUpto (most : Int) (rest : List Int) (err : Int) : Int × List Int × Int := if (rdNum rest err).2.2 = 0 ∧ most < (rdNum rest err).1 then (0, (rdNum rest err).2.1, 3) else rdNum rest err
def rdEnd (rest : List Int) (err : Int) : Int := if err = 0 ∧ ¬ rest = [] then 4 else err
def rdFixed (n : Int) (rest : List Int) (err : Int) : List Int × List Int × Int := if err = 0 then (if (rest.length : Int) < max 0 n then ([], rest, 5) else (rest.take n.toNat, rest.drop n.toNat, 0)) else ([], rest, err)

/-- What was there stays, but for block g. -/
structure OnlyAt (w w' : World) (g : Nat) : Prop where
  keep : KeepBut w w' g none
  os : w'.os = w.os
  tape : w'.tape = w.tape
  output : w'.output = w.output
theorem OnlyAt.refl (w : World) (g : Nat) : OnlyAt w w g := ⟨KeepBut.refl w g none, rfl, rfl, rfl⟩
theorem OnlyAt.trans {w w1 w2 : World} {g : Nat} (h : OnlyAt w w1 g) (k : OnlyAt w1 w2 g) : OnlyAt w w2 g := ⟨KeepBut.trans h.keep k.keep (.inl rfl), k.os.trans h.os, k.tape.trans h.tape, k.output.trans h.output⟩
theorem OnlyAt.of_below {w w1 : World} {g : Nat} (h : Below w.heap.size w w1) : OnlyAt w w1 g := ⟨KeepBut.of_below h g none, h.os, h.tape, h.output⟩
theorem OnlyAt.set {w w1 : World} {g : Nat} (h : OnlyAt w w1 g) (j : Nat) (u : Value) : OnlyAt w (w1.setCell ⟨g, j, none⟩ u) g := ⟨KeepBut.set_ h.keep _ _, h.os, h.tape, h.output⟩
theorem OnlyAt.alloc {w w1 : World} {g : Nat} (h : OnlyAt w w1 g) (o : Obj) : OnlyAt w (w1.alloc o) g := ⟨keep_alloc h.keep o, h.os, h.tape, h.output⟩
theorem OnlyAt.drewN {w w1 : World} {g : Nat} (h : OnlyAt w w1 g) (n : Nat) : OnlyAt w (w1.drewN n) g := ⟨keep_drewN h.keep n, h.os, h.tape, h.output⟩
theorem OnlyAt.drew {w w1 : World} {g : Nat} (h : OnlyAt w w1 g) : OnlyAt w w1.drew g := ⟨keep_drew h.keep, h.os, h.tape, h.output⟩
theorem OnlyAt.below {w0 w w' : World} {g : Nat} (h : OnlyAt w w' g) (hb : Below w0.heap.size w0 w) (hg : w0.heap.size ≤ g) : Below w0.heap.size w0 w' :=
  hb.trans ⟨h.os, h.tape, h.output, h.keep.1, fun k hk => h.keep.2 k (Nat.lt_of_lt_of_le hk hb.size) (by omega) (by simp)⟩
theorem OnlyAt.blk {w w' : World} {g b : Nat} {o : Obj} (h : OnlyAt w w' g) (hb : w.heap[b]? = some o) (hne : b ≠ g) : w'.heap[b]? = some o := (h.keep.2 b (blk_lt hb) hne (by simp)).trans hb
/-! ### octet.Reader as a state: its own row of bytes lies in block r (r = g: it has none) -/
def IsS118 (w0 W : World) (g r : Nat) (f0 : List Int) (f1 : Int) (f2 : Int) (f3 : Bool) : Prop := ∃ A0 c0, W.heap[g]? = some (.cells #[.slice A0 f0.length c0, .int .i64 f1, .int .i64 f2, .bool f3] 118 (0, 0)) ∧ w0.heap.size ≤ g ∧ (Kd.R (Kd.int .u8) 5 W w0.heap.size (fun k => k = r ∧ k ≠ g) (.slice A0 f0.length c0) f0 ∧ (r = g ∨ ∃ cells, W.heap[r]? = some (.cells cells 5 (0, 0))))
section
variable {w0 W : World} {g r : Nat} {f0 : List Int} {f1 : Int} {f2 : Int} {f3 : Bool}
theorem typed_grown {W W1 : World} {r g t : Nat} {row : Option Nat} (h : r = g ∨ ∃ cells, W.heap[r]? = some (.cells cells t (0, 0))) (hw : W.grownBy W1 row) (hne : some r ≠ row) : r = g ∨ ∃ cells, W1.heap[r]? = some (.cells cells t (0, 0)) := by
  rcases h with h | ⟨cs, h⟩
  · exact .inl h
  · exact .inr ⟨cs, blk_grown h hw hne⟩
theorem IsS118.grown {W1 : World} {row : Option Nat} (h : IsS118 w0 W g r f0 f1 f2 f3) (hw : W.grownBy W1 row) (hne : some g ≠ row ∧ some r ≠ row) : IsS118 w0 W1 g r f0 f1 f2 f3 := by
  obtain ⟨A0, c0, hb, hg, hr0, ht⟩ := h
  exact ⟨A0, c0, blk_grown hb hw hne.1, hg, Kd.R_grown hr0 hw (fun k hk => by rw [hk.1]; exact hne.2), typed_grown ht hw hne.2⟩
theorem IsS118.fresh (h : IsS118 w0 W g r f0 f1 f2 f3) : ∀ k, W.heap.size ≤ k → k ≠ g := by
  obtain ⟨A0, c0, hb, hg, hr0⟩ := h
  exact Kd.freshB hb
theorem IsS118.below {W1 : World} (h : IsS118 w0 W g r f0 f1 f2 f3) (hw : Below W.heap.size W W1) : IsS118 w0 W1 g r f0 f1 f2 f3 := h.grown (grown_of_below hw none) ⟨by simp, by simp⟩
theorem IsS118.alloc (h : IsS118 w0 W g r f0 f1 f2 f3) (o : Obj) : IsS118 w0 (W.alloc o) g r f0 f1 f2 f3 := h.below (below_alloc (Below.refl _ _) o)
theorem IsS118.drewN (h : IsS118 w0 W g r f0 f1 f2 f3) (m : Nat) : IsS118 w0 (W.drewN m) g r f0 f1 f2 f3 := h
theorem IsS118.drew (h : IsS118 w0 W g r f0 f1 f2 f3) : IsS118 w0 W.drew g r f0 f1 f2 f3 := h
theorem IsS118.at_ {w' : World} {m : Nat} (hq : W.drewN m = w') (h : IsS118 w0 W g r f0 f1 f2 f3) : IsS118 w0 w' g r f0 f1 f2 f3 := by subst hq; exact IsS118.drewN h m
theorem IsS118.apart {α : Type} {d : Kd α} {e : Nat} {base : Nat} {ok : Nat → Prop} {v : Value} {xs : List α} (h : IsS118 w0 W g r f0 f1 f2 f3) (ho : d.R e W base ok v xs) (ht : ∀ q, q ∈ e :: d.E → q ≠ 118) : d.R e W base (fun k => ok k ∧ k ≠ g) v xs := by
  obtain ⟨A0, c0, hb, hg, hr0⟩ := h
  exact Kd.R_types ho hb ht
theorem IsS118.own_ne {α : Type} {d : Kd α} {e : Nat} {base : Nat} {ok : Nat → Prop} {v : Value} {xs : List α} (h : IsS118 w0 W g r f0 f1 f2 f3) (ho : d.R e W base ok v xs) (ht : e ≠ 118 ∧ e ≠ 5) : some g ≠ v.ownBlock ∧ some r ≠ v.ownBlock := by
  obtain ⟨A0, c0, hb, hg, hr0, hty⟩ := h
  refine ⟨Kd.R_ne ho hb ht.1, ?_⟩
  rcases hty with rfl | ⟨cs, hc⟩
  · exact Kd.R_ne ho hb ht.1
  · exact Kd.R_ne ho hc ht.2
theorem IsS118.lt (h : IsS118 w0 W g r f0 f1 f2 f3) : g < W.heap.size := by
  obtain ⟨A0, c0, hb, hg, hr0⟩ := h
  exact blk_lt hb
theorem IsS118.ge (h : IsS118 w0 W g r f0 f1 f2 f3) : w0.heap.size ≤ g := by
  obtain ⟨A0, c0, hb, hg, hr0⟩ := h
  exact hg
theorem IsS118.ne_blk {a : Nat} {cs : Array Value} {t : TypeId} {fr : Nat × Nat} (h : IsS118 w0 W g r f0 f1 f2 f3) (hb2 : W.heap[a]? = some (.cells cs t fr)) (ht : t ≠ 118 ∧ t ≠ 5) : g ≠ a ∧ r ≠ a := by
  obtain ⟨A0, c0, hb, hg, hr0, hty⟩ := h
  have key : ∀ {b : Nat} {cs' : Array Value} {t' : TypeId}, W.heap[b]? = some (.cells cs' t' (0, 0)) → t ≠ t' → b ≠ a := by
    rintro b cs' t' h1 h2 rfl
    rw [h1] at hb2
    injection hb2 with hb2
    injection hb2 with _ ht2
    exact h2 ht2.symm
  refine ⟨key hb ht.1, ?_⟩
  rcases hty with rfl | ⟨cs', hc⟩
  · exact key hb ht.1
  · exact key hc ht.2
theorem IsS118.ne_blk1 {a : Nat} {cs : Array Value} {t : TypeId} {fr : Nat × Nat} (h : IsS118 w0 W g r f0 f1 f2 f3) (hb2 : W.heap[a]? = some (.cells cs t fr)) (ht : t ≠ 118 ∧ t ≠ 5) : g ≠ a := (h.ne_blk hb2 ht).1
theorem IsS118.far {p : Addr} (h : IsS118 w0 W g r f0 f1 f2 f3) (hne : g ≠ p.block ∧ r ≠ p.block) (u : Value) : IsS118 w0 (W.setCell p u) g r f0 f1 f2 f3 := by
  obtain ⟨A0, c0, hb, hg, hr0, hty⟩ := h
  refine ⟨A0, c0, blk_far hb hne.1 u, hg, Kd.R_far hr0 (fun k hk => by rw [hk.1]; exact hne.2) u, ?_⟩
  rcases hty with h | ⟨cs', hc⟩
  · exact .inl h
  · exact .inr ⟨cs', blk_far hc hne.2 u⟩
theorem cellS118_0 {A0 : Option Addr} {c0 : Nat} (h : W.heap[g]? = some (.cells #[.slice A0 f0.length c0, .int .i64 f1, .int .i64 f2, .bool f3] 118 (0, 0))) : W.cell? ⟨g, 0, none⟩ = some (.slice A0 f0.length c0) := (blk_cell h 0).trans rfl
theorem cellS118_1 {A0 : Option Addr} {c0 : Nat} (h : W.heap[g]? = some (.cells #[.slice A0 f0.length c0, .int .i64 f1, .int .i64 f2, .bool f3] 118 (0, 0))) : W.cell? ⟨g, 1, none⟩ = some (.int .i64 f1) := (blk_cell h 1).trans rfl
theorem cellS118_2 {A0 : Option Addr} {c0 : Nat} (h : W.heap[g]? = some (.cells #[.slice A0 f0.length c0, .int .i64 f1, .int .i64 f2, .bool f3] 118 (0, 0))) : W.cell? ⟨g, 2, none⟩ = some (.int .i64 f2) := (blk_cell h 2).trans rfl
theorem cellS118_3 {A0 : Option Addr} {c0 : Nat} (h : W.heap[g]? = some (.cells #[.slice A0 f0.length c0, .int .i64 f1, .int .i64 f2, .bool f3] 118 (0, 0))) : W.cell? ⟨g, 3, none⟩ = some (.bool f3) := (blk_cell h 3).trans rfl
theorem typed_set {W : World} {r g t j : Nat} {u : Value} (h : r = g ∨ ∃ cells, W.heap[r]? = some (.cells cells t (0, 0))) : r = g ∨ ∃ cells, (W.setCell ⟨g, j, none⟩ u).heap[r]? = some (.cells cells t (0, 0)) := by
  by_cases e : r = g
  · exact .inl e
  · rcases h with h | ⟨cs, h⟩
    · exact .inl h
    · exact .inr ⟨cs, blk_far h e u⟩
theorem IsS118.set_1 (h : IsS118 w0 W g r f0 f1 f2 f3) (x : Int) : IsS118 w0 (W.setCell ⟨g, 1, none⟩ (.int .i64 x)) g r f0 x f2 f3 := by
  obtain ⟨A0, c0, hb, hg, hr0, hty⟩ := h
  exact ⟨A0, c0, by simpa using blk_set hb 1 (.int .i64 x), hg, Kd.R_far hr0 (fun k hk => hk.2) _, typed_set hty⟩
theorem IsS118.set_2 (h : IsS118 w0 W g r f0 f1 f2 f3) (x : Int) : IsS118 w0 (W.setCell ⟨g, 2, none⟩ (.int .i64 x)) g r f0 f1 x f3 := by
  obtain ⟨A0, c0, hb, hg, hr0, hty⟩ := h
  exact ⟨A0, c0, by simpa using blk_set hb 2 (.int .i64 x), hg, Kd.R_far hr0 (fun k hk => hk.2) _, typed_set hty⟩
theorem IsS118.set_3 (h : IsS118 w0 W g r f0 f1 f2 f3) (x : Bool) : IsS118 w0 (W.setCell ⟨g, 3, none⟩ (.bool x)) g r f0 f1 f2 x := by
  obtain ⟨A0, c0, hb, hg, hr0, hty⟩ := h
  exact ⟨A0, c0, by simpa using blk_set hb 3 (.bool x), hg, Kd.R_far hr0 (fun k hk => hk.2) _, typed_set hty⟩
end
/-! ### New, made, fail -/
def octet_New.f (l0 : List Int) : Option (List Int × Int × Int × Bool) := if l0.length < 140737488355328 then some (l0, 0, 0, true) else none
set_option maxRecDepth 100000 in
theorem octet_New.calls (A0 : Option Addr) (c0 : Nat) (l0 r0 : List Int) (r1 r2 : Int) (r3 : Bool) (w0 w : World) (hB : Below w0.heap.size w0 w) (hr0 : Kd.C (Kd.int .u8) w0 A0 l0.length l0) (hc0 : l0.length ≤ c0) (h : octet_New.f l0 = some (r0, r1, r2, r3)) :
    Calls Try.prog 82 #[.slice A0 l0.length c0] w fun e w' => ∃ g_ r_ : Nat, e = .returned (.pointer (some ⟨g_, 0, none⟩)) ∧ IsS118 w0 w' g_ r_ r0 r1 r2 r3 ∧ Below w0.heap.size w0 w' ∧ Below w.heap.size w w' := by
  unfold octet_New.f at h
  split at h
  case isFalse => cases h
  case isTrue hl =>
  simp only [Option.some.injEq, Prod.mk.injEq] at h
  obtain ⟨rfl, rfl, rfl, rfl⟩ := h
  have HR := Aside0.mk (Kd.C_below hr0 hB)
  have HC := Aside0.mk hc0
  have HL := Aside0.mk hl
  have HB0 := Aside0.mk hB
  clear hr0 hc0 hl hB
  go_enter Try.func82, Try.ntmps82
  go_wp2_with (first
    | (go_at_call 106; (with_reducible refine (slices_Clone_byte_byte.calls _ _ l0 l0 _ ?s1 ?s2 ?s3).mono ?_); (case s1 => exact HR.out); (case s2 => exact HC.out); (case s3 => unfold slices_Clone_byte_byte.f; rw [if_pos HL.out]); rintro e w3 ⟨v, rfl, ho, hb⟩; have HO := Aside0.mk ho; have HB2 := Aside0.mk hb; obtain ⟨A2, c2, ev⟩ := Kd.R_slice ho; subst ev; clear ho hb))
  go_ret
  have hsz : w.heap.size ≤ w3.heap.size := HB2.out.size
  have hb3 : Below w0.heap.size w0 (w3.alloc (.cells #[.slice A2 l0.length c2, .int .i64 0, .int .i64 0, .bool true] 118)) := (HB0.out.trans (Below.mono HB2.out HB0.out.size)).trans (Below.mono (below_alloc (Below.refl _ _) _) (Nat.le_trans HB0.out.size hsz))
  have hR := Kd.R_lower HO.out HB0.out.size
  obtain ⟨inner, hown⟩ := Kd.R_own hR
  rcases hown.2 with ⟨e1, e2⟩ | ⟨q, cap, cur, e1, hbq, hq, hrest⟩
  · injection e1 with e1 e3 e4
    subst e1
    refine ⟨_, w3.heap.size, rfl, ⟨_, _, by simpa using heap_alloc_new w3 _, Nat.le_trans HB0.out.size hsz, ?_, .inl rfl⟩, hb3, below_alloc HB2.out _⟩
    exact Kd.R_alloc (Kd.R_mono (ok := fun _ => False) ⟨fun k hk => by simp [Value.ownBlock] at hk, hR.2.imp_ (fun _ _ hp => hp)⟩ (fun k hk => hk.elim)) _
  · injection e1 with e1 e3 e4
    subst e1
    have hlt : q < w3.heap.size := blk_lt hq
    refine ⟨_, q, rfl, ⟨_, _, by simpa using heap_alloc_new w3 _, Nat.le_trans HB0.out.size hsz, ?_, .inr ⟨cur, blk_alloc hq _⟩⟩, hb3, below_alloc HB2.out _⟩
    refine Kd.R_alloc (ok := fun k => k = q ∧ k ≠ w3.heap.size) ?_ _
    exact ⟨fun k hk => by
      have : q = k := by simpa [Value.ownBlock] using hk
      subst this
      exact ⟨rfl, by omega⟩, hR.2.imp_ (fun _ _ hp => hp)⟩
def octet_Reader_made.f (s0_0 : List Int) (s0_1 : Int) (s0_2 : Int) (s0_3 : Bool) : Option (Bool × Int × Int × Bool) := some (s0_3, s0_1, s0_2, s0_3)
set_option maxRecDepth 100000 in
theorem octet_Reader_made.calls (g r0_ : Nat) (s0_0 : List Int) (s0_1 : Int) (s0_2 : Int) (s0_3 : Bool) (r1 : Bool) (r2 r3 : Int) (r4 : Bool) (w0 w : World) (hI : IsS118 w0 w g r0_ s0_0 s0_1 s0_2 s0_3) (hB : Below w0.heap.size w0 w) (h : octet_Reader_made.f s0_0 s0_1 s0_2 s0_3 = some (r1, r2, r3, r4)) :
    Calls Try.prog 108 #[.pointer (some ⟨g, 0, none⟩)] w fun e w' => e = .returned (.bool r1) ∧ IsS118 w0 w' g r0_ s0_0 r2 r3 r4 ∧ Below w0.heap.size w0 w' ∧ KeepBut w w' g none := by
  unfold octet_Reader_made.f at h
  simp only [Option.some.injEq, Prod.mk.injEq] at h
  obtain ⟨rfl, rfl, rfl, rfl⟩ := h
  have HI := Aside0.mk hI
  have HB := Aside0.mk hB
  obtain ⟨A0, c0, h1, _⟩ := hI
  have hc : w.cell? ⟨g, 3, none⟩ = some (.bool s0_3) := cellS118_3 h1
  clear h1 hB
  go_enter Try.func108, Try.ntmps108
  go_wp2
  repeat (go_quiet (fail); try go_wp2)
  go_ret
  exact ⟨rfl, HI.out, HB.out, KeepBut.refl w g none⟩

end Go.Proofs.Ytichljgjfioanaa.H
