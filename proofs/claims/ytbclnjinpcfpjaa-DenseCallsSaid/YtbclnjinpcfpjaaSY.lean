/- What octet.Reader's and the kit's small functions answer. -/
import Derived.Test.YtbclnjinpcfpjaaSW
import Derived.Test.YtbclnjinpcfpjaaH8
import Derived.Test.YtbclnjinpcfpjaaH9
namespace Go.Proofs.Ytbclnjinpcfpjaa.H
open Go.RowKit Go.Proofs.YtbclnjinpcfpjaaW.PrintWords Go.Proofs.YtbclnjinpcfpjaaW.PrintLast
theorem own_eq (b : List Int) (h : b.length < 140737488355328) : tallymankit_Own.f b = some b := by
  unfold tallymankit_Own.f
  simp only [Option.bind_some, List.length_nil, Nat.zero_add, List.nil_append]
  rw [if_pos h]
set_option linter.unusedVariables false
set_option linter.unusedSimpArgs false
set_option linter.unusedSectionVars false
/-! ### The law -/
theorem reg_ext' {a b : S32} (h0 : a.f0 = b.f0) (h1 : a.f1 = b.f1) : a = b := by cases a; cases b; simp_all
theorem khll_same (p : Int) (l : List S32) (hn : l.length ≤ 1000000) : Ev (fun k => tallymankit_Hll.f k p l p l) true := by
  have loop : ∀ d i : Nat, i + d = l.length → Ev (fun k => tallymankit_Hll.l0 k (i : Int) p l p l) true := by
    intro d
    induction d with
    | zero =>
      intro i h
      refine Ev.step (f := fun _ => some true) (fun k => ?_) (Ev.now _)
      simp only [tallymankit_Hll.l0]
      rw [if_neg (by omega)]
    | succ d ih =>
      intro i h
      refine Ev.step (fun k => ?_) (ih (i + 1) (by omega))
      simp only [tallymankit_Hll.l0]
      rw [if_pos (by omega), if_pos (by omega), if_pos (by omega), if_neg (by simp), w64 (x := (i : Int) + 1) (by omega) (by omega)]
      rfl
  refine Ev.step (f := fun k => tallymankit_Hll.l0 k ((0 : Nat) : Int) p l p l) (fun k => ?_) (loop l.length 0 (by omega))
  unfold tallymankit_Hll.f
  rw [if_pos rfl, show ((l.length : Int) != (l.length : Int)) = false by simp]
  simp only [tallymankit_Hll.j0]
  rw [if_neg (by decide)]
  rfl
theorem ints_same (l : List Int) (hn : l.length ≤ 1000000) : Ev (fun k => tallymankit_Ints.f k l l) true := by
  have loop : ∀ d i : Nat, i + d = l.length → Ev (fun k => tallymankit_Ints.l0 k l l (i : Int)) true := by
    intro d
    induction d with
    | zero =>
      intro i h
      refine Ev.step (f := fun _ => some true) (fun k => ?_) (Ev.now _)
      simp only [tallymankit_Ints.l0]
      rw [if_neg (by omega)]
    | succ d ih =>
      intro i h
      refine Ev.step (fun k => ?_) (ih (i + 1) (by omega))
      simp only [tallymankit_Ints.l0]
      rw [if_pos (by omega), if_pos (by omega), if_pos (by omega), if_pos trivial, w64 (x := (i : Int) + 1) (by omega) (by omega)]
      rfl
  refine Ev.congr (f := fun k => tallymankit_Ints.l0 k l l ((0 : Nat) : Int)) (fun k => ?_) (loop l.length 0 (by omega))
  unfold tallymankit_Ints.f
  rw [if_pos rfl]
  rfl
theorem str_eq {a b : List Int} (ha : a.all isByte = true) (hb : b.all isByte = true) (h : (strOfNums a).toList = (strOfNums b).toList) : a = b := by
  refine str_inj a b ha hb ?_
  have e : ∀ x : List Int, (strOfNums x).toList = x.map (fun n => UInt8.ofNat n.toNat) := fun x => by
    rw [Go.Lib.toList_data]; rfl
  rw [← e a, ← e b, h]
theorem lives_ev : Ev (fun k => tallymanlaw15_lives.f k) true := by
  refine ⟨100, fun n hn => ?_⟩
  have h0 : tallymanlaw15_lives.f 100 = some true := by decide +kernel
  have up : ∀ d, tallymanlaw15_lives.f (100 + d) = some true := by
    intro d
    induction d with
    | zero => exact h0
    | succ d ih => exact tallymanlaw15_lives.mono (100 + d) _ ih
  rw [show n = 100 + (n - 100) by omega]
  exact up _
end Go.Proofs.Ytbclnjinpcfpjaa.H
