/- Contracts of Go functions, walked by hand: each call comes to the Lean function beside it and leaves what was there before. -/
import Derived.Test.YtpagondojdlknaaProg
import Derived.Below
import Derived.Deep.Draws
import Derived.Deep.AppendLies
import Derived.Maps.AppendAt
import Derived.OwnWalk
import Derived.Laws.BytesArg
import Derived.Laws.MakeOwn
import Derived.Laws.OwnMore
import Derived.Deep.OwnRows
import Derived.Tactics
import Derived.Lib.ConvBytes
import Derived.Laws.Slices
import Derived.WalkKit
import Derived.KernelRfl
import Derived.RowKit3
import Derived.Deep.LoopGhost
import Derived.Deep.QuietTactic
import Derived.BigQuiet
import Derived.WideLaws
import Derived.Deep.DeepCutAuto
import Derived.Deep.CutBlock
import Derived.Deep.RegionHeld3
import Derived.Laws.Rows
import Derived.Lib.AppendStr
import Derived.ArgAppend
import Derived.Laws.IdiomCopy
import Derived.OrdersHeld
import Derived.Laws.BitsLemmas
import Derived.RowKit
import Derived.WalkSpells
import Derived.WalkLawsBesides
import Derived.Laws.Bits64b
import Derived.Laws.BitsAllLaws
import Derived.Maps.OwnSet
import Derived.Test.YtpagondojdlknaaVU
import Derived.Test.YtpagondojdlknaaP1
namespace Go.Proofs.Ytpagondojdlknaa.H
open Go.RowKit Go.Proofs.YtpagondojdlknaaW.PrintWords Go.Proofs.YtpagondojdlknaaW.PrintLast Go.Proofs.YtpagondojdlknaaW.PrintMore
attribute [local go_sem] max2_int min2_int max_two min_two max_three min_three max_four min_four
set_option linter.unusedVariables false
set_option linter.unusedSimpArgs false

/-! ### setops.below -/
theorem minfo_u64 : (Try.prog.info? 22).map (fun i => (i.zero, i.size, i.bytes)) = some (some (.int .u64 0), 1, 8) := by kernel_rfl
theorem ret_slice {A : Option Addr} {n m c : Nat} (h : n = m) : Ending.returned (.slice A n c) = .returned (.slice A m c) := by rw [h]
set_option maxHeartbeats 1000000 in
theorem setops_below_any (A0 : Option Addr) (c0 : Nat) (l0 : List Int) (x : Int) (w : World) (hr0 : Kd.C (Kd.int .u64) w A0 l0.length l0) (hc0 : l0.length ≤ c0) (hs : incB l0 = true) (hl : l0.length ≤ 8192) :
    Calls Try.prog 77 #[.slice A0 l0.length c0, .int .u64 x] w fun e w' => e = .returned (.slice A0 (belowS l0 x).length c0) ∧ Drawn0 w w' := by
  by_cases hz : x = 0
  · subst hz
    have e1 : belowS l0 0 = l0 := if_pos rfl
    rw [e1]
    clear e1
    go_enter Try.func77, Try.ntmps77
    go_wp2
    go_ret
    exact ⟨rfl, Drawn0.refl _⟩
  · obtain ⟨b, k, hk⟩ := bsearch_ev x hs (by omega)
    have HK := Aside0.mk hk
    have HR := Aside0.mk hr0
    have HC := Aside0.mk hc0
    have h1 : (x == 0) = false := by simpa using hz
    have e1 : (belowS l0 x).length = cntB l0 x := by
      unfold belowS
      rw [if_neg hz, List.length_take]
      have := cntB_le l0 x
      omega
    have HE := Aside0.mk e1
    obtain ⟨i0, hi0, _, hsz, _⟩ := info_parts minfo_u64
    have hcut := cut_to (P := Try.prog) 23 22 .i64 Try.underlying23 hi0 A0 l0.length c0 (cntB l0 x : Int) (by omega) (by have := cntB_le l0 x; omega) hc0
    rw [Int.toNat_natCast] at hcut
    clear hk hr0 hc0 hs hz e1 hi0 hsz
    go_enter Try.func77, Try.ntmps77
    go_wp2_with (first | (go_at_call 84; refine (B.slices_BinarySearch_uint64_uint64.calls k A0 c0 l0 x _ b w HR.out HC.out HK.out).mono ?_; rintro e w' ⟨rfl, ⟨n, rfl⟩⟩))
    go_ret
    exact ⟨ret_slice HE.out.symm, ⟨_, rfl⟩⟩

end Go.Proofs.Ytpagondojdlknaa.H
