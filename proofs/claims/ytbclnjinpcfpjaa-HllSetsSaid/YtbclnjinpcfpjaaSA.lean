/- Fold of the counter of a set. -/
import Derived.Test.YtbclnjinpcfpjaaS9
import Derived.Test.YtbclnjinpcfpjaaH12
namespace Go.Proofs.Ytbclnjinpcfpjaa.H
open Go.RowKit Go.Proofs.YtbclnjinpcfpjaaW.PrintWords Go.Proofs.YtbclnjinpcfpjaaW.PrintLast
/-! ### Fold of the counter of a set -/
theorem pick_nat (n m : Int) (h1 : 1 ≤ m) (h2 : m ≤ 4294967296) (hn : -9223372036854775808 ≤ n ∧ n ≤ 9223372036854775807) : ∃ q : Nat, tallymankit_Pick.f n m = some (q : Int) ∧ (q : Int) < m ∧ (q : Int) = n % m := by
  have h5 := Int.emod_nonneg n (show m ≠ 0 by omega)
  have h6 := Int.emod_lt_of_pos n (show 0 < m by omega)
  refine ⟨(n % m).toNat, ?_, by omega, by omega⟩
  rw [Int.toNat_of_nonneg h5]
  unfold tallymankit_Pick.f
  rw [if_neg (by omega), if_neg (by omega)]
  by_cases h : 0 ≤ n
  · have e : Int.tmod n m = n % m := Int.tmod_eq_emod_of_nonneg h
    rw [e, if_neg (by omega)]
  · have e := Int.tmod_eq_emod (a := n) (b := m)
    have h7 : Int.natAbs m = m := by omega
    by_cases h4 : m ∣ n
    · rw [if_pos (.inr h4)] at e
      have e2 : Int.tmod n m = n % m := by rw [e]; simp
      rw [e2, if_neg (by omega)]
    · rw [if_neg (by omega)] at e
      have h8 : ¬ n % m = 0 := fun e => h4 (Int.dvd_of_emod_eq_zero e)
      rw [e, h7, if_pos (by omega), w6 (by omega) (by omega)]
      congr 1
      omega
/-- The hashes' registers. -/
def Spl (P : Nat) (hs : List Int) : S32 → Prop := fun y => y ∈ spls P hs
theorem cnt_ok {P : Nat} (h4 : 4 ≤ P) (hP : P ≤ 16) {hs : List Int} (hu : U64 hs) : Vl P (adds [] (spls P hs)) ∧ Rep (adds [] (spls P hs)) (Spl P hs) := by
  obtain ⟨h1, h2⟩ := adds_ok (spls P hs) (val_nil ((2 ^ P : Nat) : Int) (65 - (P : Int))) rep_nil (spls_reg h4 hP hu)
  exact ⟨h1, rep_iff h2 (fun x => by simp [Spl])⟩
theorem spl_fold {P Q : Nat} (h4 : 4 ≤ Q) (hQ : Q ≤ P) (hP : P ≤ 16) {hs : List Int} (hu : U64 hs) (y : S32) : (∃ x, Spl P hs x ∧ y = fr (P - Q) x) ↔ Spl Q hs y := by
  constructor
  · rintro ⟨x, hx, rfl⟩
    obtain ⟨h, hh, rfl⟩ := List.mem_map.1 hx
    have := hu h hh
    rw [fr_spl h4 hQ hP (by omega)]
    exact List.mem_map.2 ⟨h, hh, rfl⟩
  · intro hy
    obtain ⟨h, hh, rfl⟩ := List.mem_map.1 hy
    have := hu h hh
    exact ⟨spl P h.toNat, List.mem_map.2 ⟨h, hh, rfl⟩, (fr_spl h4 hQ hP (by omega)).symm⟩
theorem spl_one {P : Nat} (h4 : 4 ≤ P) (hP : P ≤ 16) {hs : List Int} (hu : U64 hs) : ∀ x, Spl P hs x → 1 ≤ x.f1 := fun x hx => (spls_reg h4 hP hu x hx).2.2.1
theorem same_eq {P : Nat} (hP : P ≤ 16) {l m : List S32} (hl : Vl P l) (e : l = m) : Ev (fun k => hll_Same.f k (P : Int) l (P : Int) m) true := by
  subst e
  exact same_yes (P : Int) l (by have := vl_len hP hl; omega)
theorem folds_main {P Q S : Nat} (h4 : 4 ≤ S) (hS : S ≤ Q) (hQ : Q ≤ P) (hP : P ≤ 16) {a b : List Int} (ha : U64 a) (hb : U64 b) :
    Ev (fun k => tallymanlaw14_HllFolds.j1 k (Q : Int) (S : Int) false (P : Int) (adds [] (spls P a)) (P : Int) (adds [] (spls P b)) (Q : Int) (adds [] (spls Q a)) (S : Int) (adds [] (spls S a))) true := by
  obtain ⟨vx, rx⟩ := cnt_ok (show 4 ≤ P by omega) hP ha
  obtain ⟨vy, ry⟩ := cnt_ok (show 4 ≤ P by omega) hP hb
  obtain ⟨vu, ru⟩ := cnt_ok (show 4 ≤ Q by omega) (by omega) ha
  obtain ⟨vv, rv⟩ := cnt_ok h4 (by omega) ha
  have px := spl_one (show 4 ≤ P by omega) hP ha
  have py := spl_one (show 4 ≤ P by omega) hP hb
  generalize adds [] (spls P a) = x at *
  generalize adds [] (spls P b) = y at *
  generalize adds [] (spls Q a) = u at *
  generalize adds [] (spls S a) = v at *
  obtain ⟨vi, ri⟩ := fold_ok (show 4 ≤ Q by omega) hQ hP vx px rx
  have ri' := rep_iff ri (spl_fold (show 4 ≤ Q by omega) hQ hP ha)
  obtain ⟨vj, rj⟩ := fold_ok h4 hS (by omega) vi (spl_one (show 4 ≤ Q by omega) (by omega) ha) ri'
  have rj' := rep_iff rj (spl_fold h4 hS (by omega) ha)
  have vm : Vl P (mrg x y) := val_mrg vx vy
  have rm := rep_mrg vx vy rx ry
  obtain ⟨vk, rk⟩ := fold_ok (show 4 ≤ Q by omega) hQ hP vm (fun z hz => hz.elim (px z) (py z)) rm
  obtain ⟨vw, rw_⟩ := fold_ok (show 4 ≤ Q by omega) hQ hP vy py ry
  have vn : Vl Q (mrg (fold (P - Q) x) (fold (P - Q) y)) := val_mrg vi vw
  have rn := rep_mrg vi vw ri rw_
  have e1 : fold (P - Q) x = u := rep_eq vi vu ri' ru
  have e2 : fold (Q - S) (fold (P - Q) x) = v := rep_eq vj vv rj' rv
  have e3 : fold (P - Q) (mrg x y) = mrg (fold (P - Q) x) (fold (P - Q) y) := rep_eq vk vn rk (rep_iff rn (fun z => by
    constructor
    · rintro (⟨q, hq, e⟩ | ⟨q, hq, e⟩)
      · exact ⟨q, .inl hq, e⟩
      · exact ⟨q, .inr hq, e⟩
    · rintro ⟨q, hq | hq, e⟩
      · exact .inl ⟨q, hq, e⟩
      · exact .inr ⟨q, hq, e⟩))
  refine Ev.step (fun k => by simp only [tallymanlaw14_HllFolds.j1]; rw [if_neg (by decide)]) ?_
  refine Ev.bind (fold_ev (show 4 ≤ Q by omega) hQ hP vx) ?_
  refine Ev.bind (fold_ev h4 hS (by omega) vi) ?_
  refine Ev.bind (merge_ev (by omega) hP vx vy) ?_
  refine Ev.bind (fold_ev (show 4 ≤ Q by omega) hQ hP vm) ?_
  refine Ev.bind (fold_ev (show 4 ≤ Q by omega) hQ hP vy) ?_
  refine Ev.bind (merge_ev (show 4 ≤ Q by omega) (by omega) vi vw) ?_
  refine Ev.congr (fun k => by rw [if_pos rfl, if_pos rfl, if_pos rfl, if_pos rfl, if_pos rfl, if_pos rfl]) ?_
  refine Ev.bind (same_eq (by omega) vi e1) ?_
  refine Ev.congr (fun k => by rw [if_pos rfl]) ?_
  refine Ev.bind (same_eq (by omega) vj e2) ?_
  refine Ev.congr (fun k => by rw [if_pos rfl]) ?_
  refine Ev.bind (same_eq (by omega) vk e3) (Ev.now _)
theorem g_pick (x : Nat) (h : x ≤ 12) : wrap64 ((wrap64 ((wrap64 (4 + (x : Int))) - 4)) + 1) = (x : Int) + 1 := by
  rw [w6 (x := 4 + (x : Int)) (by omega) (by omega), w6 (x := 4 + (x : Int) - 4) (by omega) (by omega), w6 (by omega) (by omega)]; omega
theorem g_four (n : Nat) (h : n ≤ 12) : wrap64 (4 + (n : Int)) = ((4 + n : Nat) : Int) := by rw [w6 (by omega) (by omega)]; omega
theorem folds_ex (p q s : Int) (hp : -9223372036854775808 ≤ p ∧ p ≤ 9223372036854775807) (hq : -9223372036854775808 ≤ q ∧ q ≤ 9223372036854775807) (hs : -9223372036854775808 ≤ s ∧ s ≤ 9223372036854775807) (a b : List Int) (ha : U64 a) (hb : U64 b) : ∃ k, tallymanlaw14_HllFolds.f k p q s a b = some true := by
  refine Ev.rounds (g := fun k => tallymanlaw14_HllFolds.f k p q s a b) ?_
  have out : Ev (fun k => tallymanlaw14_HllFolds.j0 k p q s a b true) true := by
    refine Ev.step (f := fun _ => some true) (fun k => ?_) (Ev.now _)
    simp only [tallymanlaw14_HllFolds.j0]
    rw [if_pos trivial]
  refine Ev.congr (fun k => by unfold tallymanlaw14_HllFolds.f; rfl) (Ev.bind lives14_ev ?_)
  refine Ev.congr (fun k => by rw [if_pos rfl]) ?_
  by_cases c1 : (a.length : Int) > 300
  · exact Ev.congr (fun k => by rw [if_pos c1]) out
  by_cases c2 : (b.length : Int) > 300
  · exact Ev.congr (fun k => by rw [if_neg c1, decide_eq_true c2]) out
  refine Ev.congr (f := fun k => tallymanlaw14_HllFolds.j0 k p q s a b false) (fun k => by rw [if_neg c1, decide_eq_false c2]) ?_
  obtain ⟨x, ex, lx, -⟩ := pick_nat p 13 (by omega) (by omega) hp
  obtain ⟨y, ey, ly, -⟩ := pick_nat q ((x : Int) + 1) (by omega) (by omega) hq
  obtain ⟨z, ez, lz, -⟩ := pick_nat s ((y : Int) + 1) (by omega) (by omega) hs
  have l3 : a.length ≤ 1000000 := by omega
  have l4 : b.length ≤ 1000000 := by omega
  have n1 := new_eq (P := 4 + x) (by omega) (by omega)
  have n2 := new_eq (P := 4 + y) (by omega) (by omega)
  have n3 := new_eq (P := 4 + z) (by omega) (by omega)
  have hx : x ≤ 12 := by omega
  have hy : y ≤ 12 := by omega
  have hz : z ≤ 12 := by omega
  have hP : 4 + x ≤ 16 := by omega
  have hQ : 4 + y ≤ 4 + x := by omega
  have hS : 4 + z ≤ 4 + y := by omega
  have h4 : 4 ≤ 4 + z := by omega
  have g1 := g_pick x hx
  have g2 := g_pick y hy
  have w1 := g_four x hx
  have w2 := g_four y hy
  have w3 := g_four z hz
  clear lx ly lz hx hy hz
  generalize 4 + x = X at *
  generalize 4 + y = Y at *
  generalize 4 + z = Z at *
  refine Ev.step (fun k => by
    simp only [tallymanlaw14_HllFolds.j0]
    rw [if_neg (by decide), ex, Option.bind_some, g1, ey, Option.bind_some, g2, ez, Option.bind_some, w1, w2, w3, n1, Option.bind_some, n2, Option.bind_some, n3, Option.bind_some]) ?_
  refine Ev.bind (addall_ev (Nat.le_trans h4 (Nat.le_trans hS hQ)) hP a ha l3 (val_nil _ _)) ?_
  refine Ev.bind (addall_ev (Nat.le_trans h4 (Nat.le_trans hS hQ)) hP b hb l4 (val_nil _ _)) ?_
  refine Ev.bind (addall_ev (Nat.le_trans h4 hS) (Nat.le_trans hQ hP) a ha l3 (val_nil _ _)) ?_
  refine Ev.bind (addall_ev h4 (Nat.le_trans hS (Nat.le_trans hQ hP)) a ha l3 (val_nil _ _)) ?_
  refine Ev.congr (fun k => by rw [if_pos rfl, if_pos rfl, if_pos rfl]) ?_
  exact folds_main h4 hS hQ hP ha hb
end Go.Proofs.Ytbclnjinpcfpjaa.H
