/- Contracts of Go functions, walked by hand: each call comes to the Lean function beside it and leaves what was there before. -/
import Derived.Test.YtbclnjinpcfpjaaProg
import Derived.Below
import Derived.Deep.Draws
import Derived.Deep.AppendLies
import Derived.Maps.AppendAt
import Derived.OwnWalk
import Derived.Laws.BytesArg
import Derived.Laws.MakeOwn
import Derived.Laws.OwnMore
import Derived.Deep.OwnRows
import Derived.Tactics
import Derived.Lib.ConvBytes
import Derived.Laws.Slices
import Derived.WalkKit
import Derived.KernelRfl
import Derived.RowKit3
import Derived.Deep.LoopGhost
import Derived.Deep.QuietTactic
import Derived.BigQuiet
import Derived.WideLaws
import Derived.Deep.DeepCutAuto
import Derived.Deep.CutBlock
import Derived.Deep.RegionHeld3
import Derived.Laws.Rows
import Derived.Lib.AppendStr
import Derived.ArgAppend
import Derived.Laws.IdiomCopy
import Derived.OrdersHeld
import Derived.Laws.BitsLemmas
import Derived.RowKit
import Derived.WalkSpells
import Derived.WalkLawsBesides
import Derived.Laws.Bits64b
import Derived.Laws.BitsAllLaws
import Derived.Maps.OwnSet
import Derived.Test.YtbclnjinpcfpjaaVC
import Derived.Test.YtbclnjinpcfpjaaH5
import Derived.Test.YtbclnjinpcfpjaaM4
namespace Go.Proofs.Ytbclnjinpcfpjaa.H
open Go.RowKit Go.Proofs.YtbclnjinpcfpjaaW.PrintWords Go.Proofs.YtbclnjinpcfpjaaW.PrintLast Go.Proofs.YtbclnjinpcfpjaaW.PrintMore
attribute [local go_sem] max2_int min2_int max_two min_two max_three min_three max_four min_four
set_option linter.unusedVariables false
set_option linter.unusedSimpArgs false

/-! ### Fixed -/
def octet_Reader_Fixed.f (s0_0 : List Int) (s0_1 : Int) (s0_2 : Int) (s0_3 : Bool) (a1 : Int) : Option (List Int × Int × Int × Bool) :=
  if 0 ≤ s0_1 ∧ s0_1 ≤ s0_0.length ∧ s0_0.length < 140737488355328 ∧ s0_3 = true then (if s0_2 = 0 then (if mx 0 a1 > (s0_0.length : Int) - s0_1 then some ([], s0_1, 5, s0_3) else some ((s0_0.take (s0_1 + mx 0 a1).toNat).drop s0_1.toNat, s0_1 + mx 0 a1, s0_2, s0_3)) else some ([], s0_1, s0_2, s0_3)) else none
set_option maxHeartbeats 2000000 in
set_option maxRecDepth 100000 in
theorem octet_Fixed_off (g r0_ : Nat) (bs : List Int) (at_ err : Int) (n : Int) (w0 w : World) (hI : IsS101 w0 w g r0_ bs at_ err true) (hB : Below w0.heap.size w0 w) (he : (err == 0) = false) :
    Calls Try.prog 74 #[.pointer (some ⟨g, 0, none⟩), .int .i64 n] w fun e w' => ∃ v0_ : Value, e = .returned v0_ ∧ Kd.R (Kd.int .u8) 5 w' w.heap.size (fun _ => True) v0_ [] ∧ IsS101 w0 w' g r0_ bs at_ err true ∧ Below w0.heap.size w0 w' ∧ KeepBut w w' g none := by
  have HR := Aside0.mk hI
  have HB := Aside0.mk hB
  have HV : Aside0 (octet_Reader_ready.f bs at_ err true = some (false, at_, err, true)) := ⟨by
    unfold octet_Reader_ready.f octet_Reader_made.f
    have : ¬ err = 0 := by simpa using he
    simp [this]⟩
  clear hI hB he
  go_enter Try.func74, Try.ntmps74
  go_wp2_with (first
    | (go_at_call 95; (with_reducible refine (octet_Reader_ready.calls g r0_ bs at_ err true false at_ err true w0 _ HR.out HB.out HV.out).mono ?_); rintro e w1 ⟨rfl, hi, hb, hk⟩; have HI1 := Aside0.mk hi; have HB1 := Aside0.mk hb; have HK1 := Aside0.mk hk; clear hi hb hk))
  go_ret
  exact ⟨_, rfl, Kd.R_nil _ _ _ _ _, HI1.out, HB1.out, HK1.out⟩
set_option maxHeartbeats 2000000 in
set_option maxRecDepth 100000 in
theorem octet_Fixed_more (g r0_ : Nat) (bs : List Int) (p : Nat) (n m : Int) (w0 w : World) (hI : IsS101 w0 w g r0_ bs p 0 true) (hB : Below w0.heap.size w0 w) (h3 : p ≤ bs.length) (h6 : bs.length < 140737488355328) (hm : mx 0 n = m) (hc : m > (bs.length : Int) - (p : Int)) :
    Calls Try.prog 74 #[.pointer (some ⟨g, 0, none⟩), .int .i64 n] w fun e w' => ∃ v0_ : Value, e = .returned v0_ ∧ Kd.R (Kd.int .u8) 5 w' w.heap.size (fun _ => True) v0_ [] ∧ IsS101 w0 w' g r0_ bs p 5 true ∧ Below w0.heap.size w0 w' ∧ KeepBut w w' g none := by
  have HR := Aside0.mk hI
  have HB := Aside0.mk hB
  have HV : Aside0 (octet_Reader_ready.f bs p 0 true = some (true, (p : Int), 0, true)) := ⟨by unfold octet_Reader_ready.f octet_Reader_made.f; simp⟩
  have HF : Aside0 (octet_Reader_fail.f bs p 0 true 5 = some ((p : Int), 5, true)) := ⟨rfl⟩
  have hw : wrap64 ((bs.length : Int) - (p : Int)) = (bs.length : Int) - (p : Int) := by unfold wrap64; omega
  have hw2 : IntKind.i64.wrap ((bs.length : Int) - (p : Int)) = (bs.length : Int) - (p : Int) := (i64_w _).trans hw
  have hd : decide ((bs.length : Int) - (p : Int) < m) = true := decide_eq_true hc
  have hm_ : (if 0 < n then n else 0) = m := hm
  clear hI hB hc h3 h6
  go_enter Try.func74, Try.ntmps74
  go_wp2_with (first
    | (go_at_call 95; (with_reducible refine (octet_Reader_ready.calls g r0_ bs p 0 true true p 0 true w0 _ HR.out HB.out HV.out).mono ?_); rintro e w1 ⟨rfl, hi, hb, hk⟩; obtain ⟨A, c, h1, h2, h7, h8⟩ := id hi; have hc0 : w1.cell? ⟨g, 0, none⟩ = some (.slice A bs.length c) := cellS101_0 h1; have hc1 : w1.cell? ⟨g, 1, none⟩ = some (.int .i64 p) := cellS101_1 h1; have HI1 := Aside0.mk hi; have HB1 := Aside0.mk hb; have HK1 := Aside0.mk hk; clear h1 h2 h7 h8 hi hb hk))
  go_quiet (fail)
  go_wp2_with (first
    | (go_at_call 96; (with_reducible refine (octet_Reader_fail.calls g r0_ bs p 0 true 5 p 5 true w0 _ ?sA ?sB HF.out).mono ?_); (case sA => first | exact HI1.out | exact HI1.out.drew | exact HI1.out.drewN _); (case sB => first | exact HB1.out | exact below_drew1 HB1.out | exact pw_below_drewN HB1.out _); rintro e w2 ⟨rfl, hi, hb, hk⟩; have HI2 := Aside0.mk hi; have HB2 := Aside0.mk hb; have HK2 := Aside0.mk hk; clear hi hb hk))
  go_ret
  exact ⟨_, rfl, Kd.R_nil _ _ _ _ _, HI2.out, HB2.out, by first | exact KeepBut.trans HK1.out HK2.out (.inl rfl) | exact KeepBut.trans (keep_drew HK1.out) HK2.out (.inl rfl) | exact KeepBut.trans (keep_drewN HK1.out _) HK2.out (.inl rfl)⟩

end Go.Proofs.Ytbclnjinpcfpjaa.H
