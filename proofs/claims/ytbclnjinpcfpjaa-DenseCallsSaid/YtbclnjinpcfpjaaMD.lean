/- Contracts of Go functions, walked by hand: each call comes to the Lean function beside it and leaves what was there before. -/
import Derived.Test.YtbclnjinpcfpjaaProg
import Derived.Below
import Derived.Deep.Draws
import Derived.Deep.AppendLies
import Derived.Maps.AppendAt
import Derived.OwnWalk
import Derived.Laws.BytesArg
import Derived.Laws.MakeOwn
import Derived.Laws.OwnMore
import Derived.Deep.OwnRows
import Derived.Tactics
import Derived.Lib.ConvBytes
import Derived.Laws.Slices
import Derived.WalkKit
import Derived.KernelRfl
import Derived.RowKit3
import Derived.Deep.LoopGhost
import Derived.Deep.QuietTactic
import Derived.BigQuiet
import Derived.WideLaws
import Derived.Deep.DeepCutAuto
import Derived.Deep.CutBlock
import Derived.Deep.RegionHeld3
import Derived.Laws.Rows
import Derived.Lib.AppendStr
import Derived.ArgAppend
import Derived.Laws.IdiomCopy
import Derived.OrdersHeld
import Derived.Laws.BitsLemmas
import Derived.RowKit
import Derived.WalkSpells
import Derived.WalkLawsBesides
import Derived.Laws.Bits64b
import Derived.Laws.BitsAllLaws
import Derived.Maps.OwnSet
import Derived.Test.YtbclnjinpcfpjaaVC
import Derived.Test.YtbclnjinpcfpjaaMC
namespace Go.Proofs.Ytbclnjinpcfpjaa.H
open Go.RowKit Go.Proofs.YtbclnjinpcfpjaaW.PrintWords Go.Proofs.YtbclnjinpcfpjaaW.PrintLast Go.Proofs.YtbclnjinpcfpjaaW.PrintMore
attribute [local go_sem] max2_int min2_int max_two min_two max_three min_three max_four min_four
set_option linter.unusedVariables false
set_option linter.unusedSimpArgs false

/-! ### tallymanref01.Reader as a state: all its bytes, a place, an error; what is left lies in block r (r = g: it has none) -/
def IsS108 (w0 W : World) (g r : Nat) (f0 : List Int) (f1 f2 : Int) : Prop := 0 ≤ f1 ∧ f1 ≤ f0.length ∧ f0.all isByte = true ∧ f0.length < 140737488355328 ∧ RRd (fun k => k = r ∧ k ≠ g) w0.heap.size W g (f0.drop f1.toNat) f2
section
variable {w0 W : World} {g r : Nat} {f0 : List Int} {f1 f2 : Int}
theorem IsS108.typed (h : IsS108 w0 W g r f0 f1 f2) : r = g ∨ ∃ cells, W.heap[r]? = some (.cells cells 5 (0, 0)) := by
  obtain ⟨_, _, _, _, v, _, _, _, h4, _⟩ := h
  by_cases e : r = g
  · exact .inl e
  · exact .inr (h4 r ⟨rfl, e⟩)
theorem IsS108.blk (h : IsS108 w0 W g r f0 f1 f2) : ∃ cs, W.heap[g]? = some (.cells cs 108 (0, 0)) := by
  obtain ⟨_, _, _, _, v, h1, _⟩ := h
  exact ⟨_, h1⟩
theorem IsS108.grown {W1 : World} {row : Option Nat} (h : IsS108 w0 W g r f0 f1 f2) (hw : W.grownBy W1 row) (hne : some g ≠ row ∧ some r ≠ row) : IsS108 w0 W1 g r f0 f1 f2 := by
  obtain ⟨a, b, c, d, h5⟩ := h
  exact ⟨a, b, c, d, h5.grown hw hne.1 (fun k hk => by rw [hk.1]; exact hne.2)⟩
theorem IsS108.fresh (h : IsS108 w0 W g r f0 f1 f2) : ∀ k, W.heap.size ≤ k → k ≠ g := by
  obtain ⟨cs, hb⟩ := h.blk
  exact Kd.freshB hb
theorem IsS108.below {W1 : World} (h : IsS108 w0 W g r f0 f1 f2) (hw : Below W.heap.size W W1) : IsS108 w0 W1 g r f0 f1 f2 := h.grown (grown_of_below hw none) ⟨by simp, by simp⟩
theorem IsS108.alloc (h : IsS108 w0 W g r f0 f1 f2) (o : Obj) : IsS108 w0 (W.alloc o) g r f0 f1 f2 := h.below (below_alloc (Below.refl _ _) o)
theorem IsS108.drewN (h : IsS108 w0 W g r f0 f1 f2) (m : Nat) : IsS108 w0 (W.drewN m) g r f0 f1 f2 := h.below (pw_below_drewN (Below.refl _ _) m)
theorem IsS108.drew (h : IsS108 w0 W g r f0 f1 f2) : IsS108 w0 W.drew g r f0 f1 f2 := h.below (below_drew (Below.refl _ _))
theorem IsS108.at_ {w' : World} {m : Nat} (hq : W.drewN m = w') (h : IsS108 w0 W g r f0 f1 f2) : IsS108 w0 w' g r f0 f1 f2 := by subst hq; exact IsS108.drewN h m
theorem IsS108.apart {α : Type} {d : Kd α} {e : Nat} {base : Nat} {ok : Nat → Prop} {v : Value} {xs : List α} (h : IsS108 w0 W g r f0 f1 f2) (ho : d.R e W base ok v xs) (ht : ∀ q, q ∈ e :: d.E → q ≠ 108) : d.R e W base (fun k => ok k ∧ k ≠ g) v xs := by
  obtain ⟨cs, hb⟩ := h.blk
  exact Kd.R_types ho hb ht
theorem IsS108.own_ne {α : Type} {d : Kd α} {e : Nat} {base : Nat} {ok : Nat → Prop} {v : Value} {xs : List α} (h : IsS108 w0 W g r f0 f1 f2) (ho : d.R e W base ok v xs) (ht : e ≠ 108 ∧ e ≠ 5) : some g ≠ v.ownBlock ∧ some r ≠ v.ownBlock := by
  obtain ⟨cs, hb⟩ := h.blk
  refine ⟨Kd.R_ne ho hb ht.1, ?_⟩
  rcases h.typed with rfl | ⟨cs, hc⟩
  · exact Kd.R_ne ho hb ht.1
  · exact Kd.R_ne ho hc ht.2
theorem IsS108.lt (h : IsS108 w0 W g r f0 f1 f2) : g < W.heap.size := by
  obtain ⟨cs, hb⟩ := h.blk
  exact blk_lt hb
theorem IsS108.ge (h : IsS108 w0 W g r f0 f1 f2) : w0.heap.size ≤ g := h.2.2.2.2.ge
theorem IsS108.ne_blk {a : Nat} {cs : Array Value} {t : TypeId} {fr : Nat × Nat} (h : IsS108 w0 W g r f0 f1 f2) (hb2 : W.heap[a]? = some (.cells cs t fr)) (ht : t ≠ 108 ∧ t ≠ 5) : g ≠ a ∧ r ≠ a := by
  obtain ⟨cs1, hb⟩ := h.blk
  have key : ∀ {b : Nat} {cs' : Array Value} {t' : TypeId}, W.heap[b]? = some (.cells cs' t' (0, 0)) → t ≠ t' → b ≠ a := by
    rintro b cs' t' h1 h2 rfl
    rw [h1] at hb2
    injection hb2 with hb2
    injection hb2 with _ ht2
    exact h2 ht2.symm
  refine ⟨key hb ht.1, ?_⟩
  rcases h.typed with rfl | ⟨cs', hc⟩
  · exact key hb ht.1
  · exact key hc ht.2
theorem IsS108.ne_blk1 {a : Nat} {cs : Array Value} {t : TypeId} {fr : Nat × Nat} (h : IsS108 w0 W g r f0 f1 f2) (hb2 : W.heap[a]? = some (.cells cs t fr)) (ht : t ≠ 108 ∧ t ≠ 5) : g ≠ a := (h.ne_blk hb2 ht).1
theorem IsS108.far {p : Addr} (h : IsS108 w0 W g r f0 f1 f2) (hne : g ≠ p.block ∧ r ≠ p.block) (u : Value) : IsS108 w0 (W.setCell p u) g r f0 f1 f2 := by
  obtain ⟨a, b, c, d, v, h1, h2, h3, h4, h5, h6⟩ := h
  exact ⟨a, b, c, d, v, blk_far h1 hne.1 u, h2, Kd.V_far h3 (fun k hk => by rw [hk.1]; exact hne.2) u, fun k hk => by obtain ⟨cs', hc⟩ := h4 k hk; exact ⟨cs', blk_far hc (by rw [hk.1]; exact hne.2) u⟩, h5, h6⟩
theorem IsS108.set_1 (h : IsS108 w0 W g r f0 f1 f2) (x : Int) : IsS108 w0 (W.setCell ⟨g, 1, none⟩ (.int .i64 x)) g r f0 f1 x := ⟨h.1, h.2.1, h.2.2.1, h.2.2.2.1, h.2.2.2.2.err x⟩
theorem IsS108.set_2 (h : IsS108 w0 W g r f0 f1 f2) (x : Int) : IsS108 w0 (W.setCell ⟨g, 1, none⟩ (.int .i64 x)) g r f0 f1 x := h.set_1 x
theorem IsS108.mk {rest : List Int} {e : Int} (h : RRd (fun k => k = r ∧ k ≠ g) w0.heap.size W g rest e) (hs : ∃ m : Nat, m ≤ f0.length ∧ rest = f0.drop m) (hb : f0.all isByte = true) (hl : f0.length < 140737488355328) : IsS108 w0 W g r f0 ((f0.length : Int) - (rest.length : Int)) e := by
  obtain ⟨m, hm, rfl⟩ := hs
  have e1 : ((f0.length : Int) - ((f0.drop m).length : Int)) = (m : Int) := by rw [List.length_drop]; omega
  refine ⟨by omega, by omega, hb, hl, ?_⟩
  rw [e1]
  exact h
end
theorem suf_trans {bs : List Int} {p m : Nat} (hm : m ≤ (bs.drop p).length) (hp : p ≤ bs.length) : ∃ q : Nat, q ≤ bs.length ∧ (bs.drop p).drop m = bs.drop q := ⟨p + m, by rw [List.length_drop] at hm; omega, by rw [List.drop_drop]⟩
theorem numR_le' : ∀ (l : List Int) (i : Nat) (n : Int), (numR l i n).1 = 0 → (numR l i n).2.2 ≤ i + l.length
  | [], i, n, h => by simp [numR] at h
  | c :: r, i, n, h => by
    unfold numR at h ⊢
    by_cases h1 : (i = 9 ∧ 1 < c) ∨ (0 < i ∧ c = 0)
    · rw [if_pos h1] at h; simp at h
    · rw [if_neg h1] at h ⊢
      by_cases h2 : c < 128
      · rw [if_pos h2]; simp
      · rw [if_neg h2] at h ⊢
        have := numR_le' r (i + 1) _ h
        simp only [List.length_cons]
        omega
theorem rdNum_suf (rest : List Int) (err : Int) : ∃ m : Nat, m ≤ rest.length ∧ (rdNum rest err).2.1 = rest.drop m := by
  unfold rdNum
  split
  · split
    · rename_i h
      have := numR_le' rest 0 0 h
      exact ⟨_, by omega, rfl⟩
    · exact ⟨0, by omega, rfl⟩
  · exact ⟨0, by omega, rfl⟩
theorem rdUpto_suf (most : Int) (rest : List Int) (err : Int) : ∃ m : Nat, m ≤ rest.length ∧ (rdUpto most rest err).2.1 = rest.drop m := by
  unfold rdUpto
  split <;> exact rdNum_suf rest err
theorem rdFixed_suf (n : Int) (rest : List Int) (err : Int) : ∃ m : Nat, m ≤ rest.length ∧ (rdFixed n rest err).2.1 = rest.drop m := by
  unfold rdFixed
  split
  · split
    · exact ⟨0, by omega, rfl⟩
    · exact ⟨n.toNat, by omega, rfl⟩
  · exact ⟨0, by omega, rfl⟩
theorem suf_of {bs rest' : List Int} {f1 : Int} (h0 : 0 ≤ f1) (h1 : f1 ≤ bs.length) (h : ∃ m : Nat, m ≤ (bs.drop f1.toNat).length ∧ rest' = (bs.drop f1.toNat).drop m) : ∃ q : Nat, q ≤ bs.length ∧ rest' = bs.drop q := by
  obtain ⟨m, hm, rfl⟩ := h
  exact suf_trans hm (by omega)
/-! ### The methods, as the callers know them -/
def tallymanref01_New.f (l0 : List Int) : Option (List Int × Int × Int) := if l0.length < 140737488355328 ∧ l0.all isByte = true then some (l0, 0, 0) else none
theorem tallymanref01_New.calls (A0 : Option Addr) (c0 : Nat) (l0 r0 : List Int) (r1 r2 : Int) (w0 w : World) (hB : Below w0.heap.size w0 w) (hr0 : Kd.C (Kd.int .u8) w0 A0 l0.length l0) (hc0 : l0.length ≤ c0) (h : tallymanref01_New.f l0 = some (r0, r1, r2)) :
    Calls Try.prog 83 #[.slice A0 l0.length c0] w fun e w' => ∃ g_ r_ : Nat, e = .returned (.pointer (some ⟨g_, 0, none⟩)) ∧ IsS108 w0 w' g_ r_ r0 r1 r2 ∧ Below w0.heap.size w0 w' ∧ Below w.heap.size w w' := by
  unfold tallymanref01_New.f at h
  split at h
  case isFalse => cases h
  case isTrue hl =>
  simp only [Option.some.injEq, Prod.mk.injEq] at h
  obtain ⟨rfl, rfl, rfl⟩ := h
  refine (ref_New_any A0 c0 l0 w (Kd.C_below hr0 hB) hc0 hl.2 hl.1).mono fun e w' ⟨g, r, he, hr, hb⟩ => ⟨g, r, he, ⟨by omega, by omega, hl.2, hl.1, ?_⟩, below_step hB hb, hb⟩
  obtain ⟨v, h1, h2, h3, h4⟩ := hr
  exact ⟨v, h1, Nat.le_trans hB.size h2, h3, h4⟩
def tallymanref01_Reader_Upto.f (s0_0 : List Int) (s0_1 s0_2 a1 : Int) : Option (Int × Int × Int) := some ((rdUpto a1 (s0_0.drop s0_1.toNat) s0_2).1, (s0_0.length : Int) - ((rdUpto a1 (s0_0.drop s0_1.toNat) s0_2).2.1.length : Int), (rdUpto a1 (s0_0.drop s0_1.toNat) s0_2).2.2)
theorem tallymanref01_Reader_Upto.calls (g r0_ : Nat) (s0_0 : List Int) (s0_1 s0_2 a1 : Int) (r1 r2 r3 : Int) (w0 w : World) (hI : IsS108 w0 w g r0_ s0_0 s0_1 s0_2) (hB : Below w0.heap.size w0 w) (h : tallymanref01_Reader_Upto.f s0_0 s0_1 s0_2 a1 = some (r1, r2, r3)) :
    Calls Try.prog 84 #[.pointer (some ⟨g, 0, none⟩), .int .u64 a1] w fun e w' => e = .returned (.int .u64 r1) ∧ IsS108 w0 w' g r0_ s0_0 r2 r3 ∧ Below w0.heap.size w0 w' ∧ KeepBut w w' g none := by
  simp only [tallymanref01_Reader_Upto.f, Option.some.injEq, Prod.mk.injEq] at h
  obtain ⟨rfl, rfl, rfl⟩ := h
  obtain ⟨a, b, c, d, h5⟩ := hI
  exact (ref_Upto_any _ _ g _ s0_2 a1 w h5).mono fun e w' ⟨he, hr, hk⟩ => ⟨he, IsS108.mk hr (suf_of a b (rdUpto_suf _ _ _)) c d, hk.below hB h5.ge, hk.keep⟩
def tallymanref01_Reader_Err.f (s0_0 : List Int) (s0_1 s0_2 : Int) : Option (Int × Int × Int) := some (s0_2, s0_1, s0_2)
theorem tallymanref01_Reader_Err.calls (g r0_ : Nat) (s0_0 : List Int) (s0_1 s0_2 : Int) (r1 r2 r3 : Int) (w0 w : World) (hI : IsS108 w0 w g r0_ s0_0 s0_1 s0_2) (hB : Below w0.heap.size w0 w) (h : tallymanref01_Reader_Err.f s0_0 s0_1 s0_2 = some (r1, r2, r3)) :
    Calls Try.prog 85 #[.pointer (some ⟨g, 0, none⟩)] w fun e w' => e = .returned (.int .i64 r1) ∧ IsS108 w0 w' g r0_ s0_0 r2 r3 ∧ Below w0.heap.size w0 w' ∧ KeepBut w w' g none := by
  simp only [tallymanref01_Reader_Err.f, Option.some.injEq, Prod.mk.injEq] at h
  obtain ⟨rfl, rfl, rfl⟩ := h
  refine (ref_Err_any _ _ g _ s0_2 w hI.2.2.2.2).mono fun e w' ⟨he, ⟨n, hn⟩⟩ => ?_
  subst hn
  exact ⟨he, hI.drewN n, pw_below_drewN hB n, keep_drewN (KeepBut.refl w g none) n⟩
def tallymanref01_Reader_End.f (s0_0 : List Int) (s0_1 s0_2 : Int) : Option (Int × Int × Int) := some (rdEnd (s0_0.drop s0_1.toNat) s0_2, s0_1, rdEnd (s0_0.drop s0_1.toNat) s0_2)
theorem tallymanref01_Reader_End.calls (g r0_ : Nat) (s0_0 : List Int) (s0_1 s0_2 : Int) (r1 r2 r3 : Int) (w0 w : World) (hI : IsS108 w0 w g r0_ s0_0 s0_1 s0_2) (hB : Below w0.heap.size w0 w) (h : tallymanref01_Reader_End.f s0_0 s0_1 s0_2 = some (r1, r2, r3)) :
    Calls Try.prog 87 #[.pointer (some ⟨g, 0, none⟩)] w fun e w' => e = .returned (.int .i64 r1) ∧ IsS108 w0 w' g r0_ s0_0 r2 r3 ∧ Below w0.heap.size w0 w' ∧ KeepBut w w' g none := by
  simp only [tallymanref01_Reader_End.f, Option.some.injEq, Prod.mk.injEq] at h
  obtain ⟨rfl, rfl, rfl⟩ := h
  obtain ⟨a, b, c, d, h5⟩ := hI
  exact (ref_End_any _ _ g _ s0_2 w h5).mono fun e w' ⟨he, hr, hk⟩ => ⟨he, ⟨a, b, c, d, hr⟩, hk.below hB h5.ge, hk.keep⟩
def tallymanref01_Reader_Fixed.f (s0_0 : List Int) (s0_1 s0_2 a1 : Int) : Option (List Int × Int × Int) := some ((rdFixed a1 (s0_0.drop s0_1.toNat) s0_2).1, (s0_0.length : Int) - ((rdFixed a1 (s0_0.drop s0_1.toNat) s0_2).2.1.length : Int), (rdFixed a1 (s0_0.drop s0_1.toNat) s0_2).2.2)
theorem tallymanref01_Reader_Fixed.calls (g r0_ : Nat) (s0_0 : List Int) (s0_1 s0_2 a1 : Int) (r1 : List Int) (r2 r3 : Int) (w0 w : World) (hI : IsS108 w0 w g r0_ s0_0 s0_1 s0_2) (hB : Below w0.heap.size w0 w) (h : tallymanref01_Reader_Fixed.f s0_0 s0_1 s0_2 a1 = some (r1, r2, r3)) :
    Calls Try.prog 86 #[.pointer (some ⟨g, 0, none⟩), .int .i64 a1] w fun e w' => ∃ v0_ : Value, e = .returned (v0_) ∧ Kd.R (Kd.int .u8) 5 w' w.heap.size (fun _ => True) v0_ r1 ∧ IsS108 w0 w' g r0_ s0_0 r2 r3 ∧ Below w0.heap.size w0 w' ∧ KeepBut w w' g none := by
  simp only [tallymanref01_Reader_Fixed.f, Option.some.injEq, Prod.mk.injEq] at h
  obtain ⟨rfl, rfl, rfl⟩ := h
  obtain ⟨a, b, c, d, h5⟩ := hI
  exact (ref_Fixed_any _ _ g _ s0_2 a1 w h5).mono fun e w' ⟨v, he, ho, hr, hk⟩ => ⟨v, he, ho, IsS108.mk hr (suf_of a b (rdFixed_suf _ _ _)) c d, hk.below hB h5.ge, hk.keep⟩

end Go.Proofs.Ytbclnjinpcfpjaa.H
