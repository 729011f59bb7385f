/- The pure statement of HllRanks: what the Go law comes to, as a Lean function on numbers and lists, is true for every input. -/
import Derived.Test.YtbclnjinpcfpjaaSR
namespace Go.Proofs.Ytbclnjinpcfpjaa.H
open Go.RowKit Go.Proofs.YtbclnjinpcfpjaaW.PrintWords Go.Proofs.YtbclnjinpcfpjaaW.PrintLast
def tallymanlaw14_HllRanks.PureH : Prop := ∀ (x0 : Int) (x1 : List Int), (Lit.int .i64 x0).wf = true → (∀ z1 ∈ x1, (Lit.int .u64 z1).wf = true) → x1.length ≤ 9223372036854775807 →  ∃ k, tallymanlaw14_HllRanks.f k x0 x1 = some true
end Go.Proofs.Ytbclnjinpcfpjaa.H
namespace Go.Proofs.Ytbclnjinpcfpjaa.Pure
open Go.RowKit Go.Proofs.Ytbclnjinpcfpjaa.H Go.Proofs.YtbclnjinpcfpjaaW.PrintWords Go.Proofs.YtbclnjinpcfpjaaW.PrintLast
theorem pick_ev14 (a m : Int) (hm : 1 ≤ m) (hm2 : m ≤ 4611686018427387904) : ∃ p : Nat, tallymankit_Pick.f a m = some (p : Int) ∧ (p : Int) < m := by
  unfold tallymankit_Pick.f
  rw [if_neg (by omega), if_neg (by omega)]
  have hb : Int.tmod a m < m := by
    have := Int.tmod_lt_of_pos a (b := m) (by omega)
    exact this
  have hlo : -m < Int.tmod a m := Int.lt_tmod_of_pos a (by omega)
  by_cases hn : Int.tmod a m < 0
  · rw [if_pos hn, w6 (by omega) (by omega)]
    exact ⟨(Int.tmod a m + m).toNat, by rw [Int.toNat_of_nonneg (by omega)], by omega⟩
  · rw [if_neg hn]
    exact ⟨(Int.tmod a m).toNat, by rw [Int.toNat_of_nonneg (by omega)], by omega⟩
theorem HllRanks : tallymanlaw14_HllRanks.PureH := by
  intro a0 hs h0 h1 _
  have hu : U64 hs := fun x hx => by
    have := h1 x hx
    simp [Lit.wf, IntKind.min, IntKind.max, IntKind.signed, IntKind.bits] at this
    omega
  suffices h : Ev (fun k => tallymanlaw14_HllRanks.f k a0 hs) true by
    obtain ⟨k, hk⟩ := h
    exact ⟨k, hk k (Nat.le_refl _)⟩
  simp only [tallymanlaw14_HllRanks.f]
  refine Ev.bind lives14_ev ?_
  by_cases c : (hs.length : Int) > 300
  · exact Ev.congr (f := fun _ => some true) (fun k => by rw [if_pos rfl, if_pos c]) (Ev.now _)
  · obtain ⟨p, ep, hp⟩ := pick_ev14 a0 13 (by omega) (by omega)
    have e0 : wrap64 (4 + (p : Int)) = ((4 + p : Nat) : Int) := by rw [w6 (by omega) (by omega)]; omega
    have hn := new_eq (P := 4 + p) (by omega) (by omega)
    refine Ev.congr (fun k => by rw [if_pos rfl, if_neg c, ep, Option.bind_some, e0, hn, Option.bind_some, if_pos rfl]) (Ev.bind (addall_ev (P := 4 + p) (by omega) (by omega) hs hu (by omega) (val_nil _ _)) ?_)
    refine Ev.congr (fun k => ?_) (rk_l0 (P := 4 + p) (by omega) (by omega) hu (by omega) hs.length 0 (by omega))
    rw [if_pos rfl]
    rfl
end Go.Proofs.Ytbclnjinpcfpjaa.Pure
