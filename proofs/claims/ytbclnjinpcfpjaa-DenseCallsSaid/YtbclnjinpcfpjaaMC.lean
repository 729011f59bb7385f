/- Contracts of Go functions, walked by hand: each call comes to the Lean function beside it and leaves what was there before. -/
import Derived.Test.YtbclnjinpcfpjaaProg
import Derived.Below
import Derived.Deep.Draws
import Derived.Deep.AppendLies
import Derived.Maps.AppendAt
import Derived.OwnWalk
import Derived.Laws.BytesArg
import Derived.Laws.MakeOwn
import Derived.Laws.OwnMore
import Derived.Deep.OwnRows
import Derived.Tactics
import Derived.Lib.ConvBytes
import Derived.Laws.Slices
import Derived.WalkKit
import Derived.KernelRfl
import Derived.RowKit3
import Derived.Deep.LoopGhost
import Derived.Deep.QuietTactic
import Derived.BigQuiet
import Derived.WideLaws
import Derived.Deep.DeepCutAuto
import Derived.Deep.CutBlock
import Derived.Deep.RegionHeld3
import Derived.Laws.Rows
import Derived.Lib.AppendStr
import Derived.ArgAppend
import Derived.Laws.IdiomCopy
import Derived.OrdersHeld
import Derived.Laws.BitsLemmas
import Derived.RowKit
import Derived.WalkSpells
import Derived.WalkLawsBesides
import Derived.Laws.Bits64b
import Derived.Laws.BitsAllLaws
import Derived.Maps.OwnSet
import Derived.Test.YtbclnjinpcfpjaaVC
import Derived.Test.YtbclnjinpcfpjaaMB
namespace Go.Proofs.Ytbclnjinpcfpjaa.H
open Go.RowKit Go.Proofs.YtbclnjinpcfpjaaW.PrintWords Go.Proofs.YtbclnjinpcfpjaaW.PrintLast Go.Proofs.YtbclnjinpcfpjaaW.PrintMore
attribute [local go_sem] max2_int min2_int max_two min_two max_three min_three max_four min_four
set_option linter.unusedVariables false
set_option linter.unusedSimpArgs false

set_option maxHeartbeats 1000000 in
set_option maxRecDepth 100000 in
theorem ref_Fixed_any (P : Nat → Prop) (base g : Nat) (rest : List Int) (err n : Int) (w : World) (h : RRd P base w g rest err) :
    Calls Try.prog 86 #[.pointer (some ⟨g, 0, none⟩), .int .i64 n] w fun e w' => ∃ v0_ : Value, e = .returned v0_ ∧ Kd.R (Kd.int .u8) 5 w' w.heap.size (fun _ => True) v0_ (rdFixed n rest err).1 ∧ RRd P base w' g (rdFixed n rest err).2.1 (rdFixed n rest err).2.2 ∧ OnlyAt w w' g := by
  have HR := Aside0.mk h
  clear h
  obtain ⟨m, hm⟩ : ∃ m : Int, (if 0 < n then n else 0) = m := ⟨_, rfl⟩
  have hmax : max 0 n = m := by rw [← hm]; omega
  have HC : Aside0 (Calls Try.prog 102 #[.pointer (some ⟨g, 0, none⟩), .int .i64 m] w fun e w' => ∃ (v0_ : Value) (ok : Bool), e = .returned (.tuple #[v0_, .bool ok]) ∧ Kd.R (Kd.int .u8) 5 w' w.heap.size (fun _ => True) v0_ (rdFixed n rest err).1 ∧ RRd P base w' g (rdFixed n rest err).2.1 (rdFixed n rest err).2.2 ∧ OnlyAt w w' g) := by
    refine ⟨?_⟩
    by_cases he : err = 0
    · subst he
      by_cases hl : (rest.length : Int) < m
      · have e : rdFixed n rest 0 = ([], rest, 5) := by unfold rdFixed; rw [hmax, if_pos rfl, if_pos hl]
        rw [e]
        exact (ref_take_more P base g rest m w HR.out hl).mono fun e w' ⟨v, h⟩ => ⟨v, false, h⟩
      · have e : rdFixed n rest 0 = (rest.take n.toNat, rest.drop n.toNat, 0) := by unfold rdFixed; rw [hmax, if_pos rfl, if_neg hl]
        have hk : m = ((n.toNat : Nat) : Int) := by omega
        rw [e, hk]
        exact (ref_take_row P base g rest n.toNat w HR.out (by omega) _ rfl).mono fun e w' ⟨v, h⟩ => ⟨v, true, h⟩
    · have e : rdFixed n rest err = ([], rest, err) := by unfold rdFixed; rw [if_neg he]
      rw [e]
      exact (ref_take_off P base g rest err m w HR.out he).mono fun e w' ⟨v, h⟩ => ⟨v, false, h⟩
  generalize (rdFixed n rest err).1 = xs at *
  generalize (rdFixed n rest err).2.1 = r2 at *
  generalize (rdFixed n rest err).2.2 = e2 at *
  clear hmax
  go_enter Try.func86, Try.ntmps86
  go_wp2_with (first
    | ((with_reducible refine gate_callee (f := 102) rfl ?_); refine goesL_ (some 11) rfl rfl Try.func102 (by kernel_rfl) rfl #[.pointer (some ⟨g, 0, none⟩), .int .i64 m] rfl (by (try simp only [List.map_toArray, List.map_cons, List.map_nil]); first | done | (simp only [hm]; rfl) | rfl) ?_; (with_reducible refine HC.out.mono ?_); rintro e w' ⟨v0, ok, rfl, ho, hr, hk⟩; refine ⟨_, rfl, ?_⟩; have HO := Aside0.mk ho; have HR2 := Aside0.mk hr; have HK2 := Aside0.mk hk; clear ho hr hk))
  go_ret
  exact ⟨_, rfl, HO.out, HR2.out, HK2.out⟩

end Go.Proofs.Ytbclnjinpcfpjaa.H
