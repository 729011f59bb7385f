/- Contracts of Go functions, walked by hand: each call comes to the Lean function beside it and leaves what was there before. -/
import Derived.Test.YtbclnjinpcfpjaaProg
import Derived.Below
import Derived.Deep.Draws
import Derived.Deep.AppendLies
import Derived.Maps.AppendAt
import Derived.OwnWalk
import Derived.Laws.BytesArg
import Derived.Laws.MakeOwn
import Derived.Laws.OwnMore
import Derived.Deep.OwnRows
import Derived.Tactics
import Derived.Lib.ConvBytes
import Derived.Laws.Slices
import Derived.WalkKit
import Derived.KernelRfl
import Derived.RowKit3
import Derived.Deep.LoopGhost
import Derived.Deep.QuietTactic
import Derived.BigQuiet
import Derived.WideLaws
import Derived.Deep.DeepCutAuto
import Derived.Deep.CutBlock
import Derived.Deep.RegionHeld3
import Derived.Laws.Rows
import Derived.Lib.AppendStr
import Derived.ArgAppend
import Derived.Laws.IdiomCopy
import Derived.OrdersHeld
import Derived.Laws.BitsLemmas
import Derived.RowKit
import Derived.WalkSpells
import Derived.WalkLawsBesides
import Derived.Laws.Bits64b
import Derived.Laws.BitsAllLaws
import Derived.Maps.OwnSet
import Derived.Test.YtbclnjinpcfpjaaVC
import Derived.Test.YtbclnjinpcfpjaaM1
import Derived.Shelf.Spec.BitsCarry
namespace Go.Proofs.Ytbclnjinpcfpjaa.H
open Go.RowKit Go.Proofs.YtbclnjinpcfpjaaW.PrintWords Go.Proofs.YtbclnjinpcfpjaaW.PrintLast Go.Proofs.YtbclnjinpcfpjaaW.PrintMore
attribute [local go_sem] max2_int min2_int max_two min_two max_three min_three max_four min_four
set_option linter.unusedVariables false
set_option linter.unusedSimpArgs false


/-! ### math/bits.Sub64: the shelf's law, laid at this program -/
def lays26_ren : Go.Shelf.Ren := ⟨fun | 26 => 90 | n => n, fun | 22 => 22 | n => n, fun | n => n⟩
theorem lays26 : Go.Proofs.Lays7.n26 Try.prog lays26_ren := {
  mixed := by kernel_rfl
  f26 := Try.func90.trans (congrArg some (by kernel_rfl))
  t22 := Try.underlying22
  a22 := Try.isAgg22
  z22 := Try.sizeOf22
  v22 := Try.zeroValue22
  i22 := by kernel_rfl }
def bits_Sub64.f (x y b : Int) : Option (Int × Int) := if (0 ≤ x ∧ 0 ≤ y ∧ 0 ≤ b) ∧ x ≤ 18446744073709551615 ∧ y ≤ 18446744073709551615 ∧ b ≤ 1 then some ((x - y - b) % 18446744073709551616, if x < y + b then 1 else 0) else none
theorem bits_Sub64.run {x y b r1 r2 : Int} (h : bits_Sub64.f x y b = some (r1, r2)) (w : World) :
    (callFunc 90 #[.int .u64 x, .int .u64 y, .int .u64 b]).run Try.prog w = .ok (.value (.tuple #[.int .u64 r1, .int .u64 r2])) w := by
  unfold bits_Sub64.f at h
  split at h
  case isFalse => cases h
  case isTrue hl =>
    obtain ⟨⟨h1, h2, h3⟩, h4, h5, h6⟩ := hl
    simp only [Option.some.injEq, Prod.mk.injEq] at h
    obtain ⟨rfl, rfl⟩ := h
    obtain ⟨x, rfl⟩ : ∃ n : Nat, x = (n : Int) := ⟨x.toNat, by omega⟩
    obtain ⟨y, rfl⟩ : ∃ n : Nat, y = (n : Int) := ⟨y.toNat, by omega⟩
    obtain ⟨b, rfl⟩ : ∃ n : Nat, b = (n : Int) := ⟨b.toNat, by omega⟩
    have e := Go.Proofs.Any7.bits_Sub64 lays26 x y b (by omega) w
    rw [show (((x + 18446744073709551616 - y - b) % 18446744073709551616 : Nat) : Int) = ((x : Int) - (y : Int) - (b : Int)) % 18446744073709551616 by omega] at e
    refine e.trans ?_
    by_cases c : x < y + b
    · rw [if_pos c, if_pos (show (x : Int) < (y : Int) + (b : Int) by omega)]; rfl
    · rw [if_neg c, if_neg (show ¬ (x : Int) < (y : Int) + (b : Int) by omega)]; rfl
/-! ### math/bits.Add64 -/
def lays25_ren : Go.Shelf.Ren := ⟨fun | 25 => 61 | n => n, fun | 22 => 22 | n => n, fun | n => n⟩
theorem lays25 : Go.Proofs.Lays7.n25 Try.prog lays25_ren := {
  mixed := by kernel_rfl
  f25 := Try.func61.trans (congrArg some (by kernel_rfl))
  t22 := Try.underlying22
  a22 := Try.isAgg22
  z22 := Try.sizeOf22
  v22 := Try.zeroValue22
  i22 := by kernel_rfl }
def bits_Add64.f (x y b : Int) : Option (Int × Int) := if (0 ≤ x ∧ 0 ≤ y ∧ 0 ≤ b) ∧ x ≤ 18446744073709551615 ∧ y ≤ 18446744073709551615 ∧ b ≤ 1 then some ((x + y + b) % 18446744073709551616, (x + y + b) / 18446744073709551616) else none
theorem bits_Add64.run {x y b r1 r2 : Int} (h : bits_Add64.f x y b = some (r1, r2)) (w : World) :
    (callFunc 61 #[.int .u64 x, .int .u64 y, .int .u64 b]).run Try.prog w = .ok (.value (.tuple #[.int .u64 r1, .int .u64 r2])) w := by
  unfold bits_Add64.f at h
  split at h
  case isFalse => cases h
  case isTrue hl =>
    obtain ⟨⟨h1, h2, h3⟩, h4, h5, h6⟩ := hl
    simp only [Option.some.injEq, Prod.mk.injEq] at h
    obtain ⟨rfl, rfl⟩ := h
    obtain ⟨x, rfl⟩ : ∃ n : Nat, x = (n : Int) := ⟨x.toNat, by omega⟩
    obtain ⟨y, rfl⟩ : ∃ n : Nat, y = (n : Int) := ⟨y.toNat, by omega⟩
    obtain ⟨b, rfl⟩ : ∃ n : Nat, b = (n : Int) := ⟨b.toNat, by omega⟩
    exact Go.Proofs.Any7.bits_Add64 lays25 x y b (by omega) w

end Go.Proofs.Ytbclnjinpcfpjaa.H
