/- Plain facts about the printed functions: what each of them answers. -/
import Derived.Test.YtpagondojdlknaaHP
import Derived.Test.YtpagondojdlknaaSC
import Derived.Test.YtpagondojdlknaaSD
namespace Go.Proofs.Ytpagondojdlknaa.H
open Go.RowKit Go.Proofs.YtpagondojdlknaaW.PrintWords Go.Proofs.YtpagondojdlknaaW.PrintLast Go.Proofs.YtpagondojdlknaaW.PrintMore
set_option linter.unusedVariables false
set_option linter.unusedSimpArgs false
set_option linter.unusedSimpArgs false
theorem vchk_two {L : Int} {l : List Int} : vchk L l = 0 ∨ vchk L l = 2 ∨ vchk L l = 3 := by
  unfold vchk
  split
  · exact .inr (.inr rfl)
  · split
    · exact .inl rfl
    · exact .inr (.inl rfl)
/-- What is asked of the cut. -/
theorem parts_tail {la lb x : Nat} {a b : List Int} (h1 : Okv (la : Int) a) (h2 : Okv (lb : Int) b) (hl : a.length ≤ 300) (hm : b.length ≤ 300) {bo : List Int} (hbo : bo = selS pBoth (belowS a (limS la lb)) (belowS b (limS la lb))) (hv : Okv (limS la lb) bo) (hbl : bo.length ≤ 600) :
    ∃ K, ∀ k, K ≤ k → tallymanlaw17_SetopsParts.j1 (k + 2) (x : Int) false (la : Int) a (lb : Int) b (limS la lb) bo = some true := by
  obtain ⟨K1, s1⟩ := same_ev (limS la lb) bo (by omega)
  obtain ⟨K2, s2⟩ := same_ev (x : Int) (belowS bo (x : Int)) (by have := below_len bo (x : Int); omega)
  refine ⟨max K1 K2, fun k hk => ?_⟩
  have s1 := s1 k (by omega)
  have s2 := s2 k (by omega)
  dsimp only at s1 s2
  by_cases hx : (x : Int) = 0 ∨ (¬ (la : Int) = 0 ∧ (la : Int) < (x : Int))
  · have c1 : setops_Cut.f (la : Int) a (x : Int) = some (0, [], 2) := by unfold setops_Cut.f cutS; rw [if_pos (vchk_ok.2 h1), if_pos hx]
    simp only [tallymanlaw17_SetopsParts.j1]
    rw [if_neg (by decide), c1]
    simp only [Option.bind_some]
    rw [if_neg (by decide), if_pos trivial]
    by_cases h0 : (x : Int) = 0
    · rw [if_pos h0]
    · rw [if_neg h0]
      have := hx.resolve_left h0
      rw [if_neg this.1, decide_eq_true (show (x : Int) > (la : Int) by omega)]
  · have hx0 : ¬ (x : Int) = 0 := fun h => hx (.inl h)
    have hx1 : ¬ (¬ (la : Int) = 0 ∧ (la : Int) < (x : Int)) := fun h => hx (.inr h)
    obtain ⟨oC, p1, p2⟩ := parts_cut h1 h2 hx0 hx1 hl hm hbo hv
    have c1 : setops_Cut.f (la : Int) a (x : Int) = some ((x : Int), belowS a (x : Int), 0) := by unfold setops_Cut.f cutS; rw [if_pos (vchk_ok.2 h1), if_neg hx]
    simp only [tallymanlaw17_SetopsParts.j1]
    rw [if_neg (by decide), c1]
    simp only [Option.bind_some]
    rw [if_pos trivial]
    by_cases hc : limS la lb = 0 ∨ (x : Int) < limS la lb
    · have b1 : setops_Both.f (x : Int) (belowS a (x : Int)) (lb : Int) b = some ((x : Int), belowS bo (x : Int), 0) := by unfold setops_Both.f; rw [madeF_eq, (p1 hc).1]
      have c2 : setops_Cut.f (limS la lb) bo (x : Int) = some ((x : Int), belowS bo (x : Int), 0) := by unfold setops_Cut.f; rw [(p1 hc).2]
      rw [b1]
      simp only [Option.bind_some]
      have hj : tallymanlaw17_SetopsParts.j2 (k + 1) (x : Int) true (limS la lb) bo (x : Int) (belowS bo (x : Int)) = some true := by
        simp only [tallymanlaw17_SetopsParts.j2]
        rw [if_pos trivial, c2]
        simp only [Option.bind_some]
        rw [if_pos trivial, s2]
        rfl
      by_cases h0 : limS la lb = 0
      · rw [if_pos h0, hj]
      · rw [if_neg h0, decide_eq_true (hc.resolve_left h0), hj]
    · have b1 : setops_Both.f (x : Int) (belowS a (x : Int)) (lb : Int) b = some (limS la lb, bo, 0) := by unfold setops_Both.f; rw [madeF_eq, p2 hc]
      rw [b1]
      simp only [Option.bind_some]
      rw [if_neg (fun h => hc (.inl h)), decide_eq_false (fun h => hc (.inr h))]
      simp only [tallymanlaw17_SetopsParts.j2]
      rw [if_neg (by decide), s1]
      rfl
theorem len_two {a b c : Nat} (h : c = a + b) (hc : c ≤ 600) : (c : Int) = wrap64 ((a : Int) + (b : Int)) := by
  rw [w64' (by omega) (by omega)]
  omega
theorem len_three {a b c d : Nat} (h : d = a + b + c) (hd : d ≤ 600) : (d : Int) = wrap64 (wrap64 ((a : Int) + (b : Int)) + (c : Int)) := by
  rw [← len_two (c := a + b) rfl (by omega), ← len_two (c := d) (by omega) hd]
theorem parts_mid {la lb x : Nat} {a b : List Int} (h1 : Okv (la : Int) a) (h2 : Okv (lb : Int) b) (hl : a.length ≤ 300) (hm : b.length ≤ 300) :
    ∃ K, ∀ m, K ≤ m → tallymanlaw17_SetopsParts.j0 (m + 1) (x : Int) false (la : Int) a (lb : Int) b = some true := by
  obtain ⟨L, ei, bo, on, l1, l2, k1, hL, hbo, hv, q1, q2, q3, q4, q5, q6, q7, q8, q9, q10, q11, q12, q13, q14, n1, n2, k0, k6, hn⟩ := parts_sets h1 h2 hl hm
  subst hL
  obtain ⟨K0, t0⟩ := parts_tail (x := x) h1 h2 hl hm hbo hv (by omega)
  obtain ⟨K1, s1⟩ := same_ev (limS la lb) ei (by omega)
  obtain ⟨K2, s2⟩ := same_ev (limS la lb) bo (by omega)
  obtain ⟨K3, s3⟩ := same_ev (limS la lb) on (by omega)
  obtain ⟨K4, s4⟩ := same_ev (la : Int) a (by omega)
  refine ⟨max K0 (max (max K1 K2) (max K3 K4)) + 2, fun m hk => ?_⟩
  have t0 := t0 (m - 2) (by omega)
  rw [show m - 2 + 2 = m by omega] at t0
  have s1 := s1 m (by omega)
  have s2 := s2 m (by omega)
  have s3 := s3 m (by omega)
  have s4 := s4 m (by omega)
  dsimp only at s1 s2 s3 s4
  have f1 : setops_Either.f (la : Int) a (lb : Int) b = some (limS la lb, ei, 0) := by unfold setops_Either.f; rw [madeF_eq, q1]
  have f2 : setops_Either.f (lb : Int) b (la : Int) a = some (limS la lb, ei, 0) := by unfold setops_Either.f; rw [madeF_eq, q2]
  have f3 : setops_Both.f (la : Int) a (lb : Int) b = some (limS la lb, bo, 0) := by unfold setops_Both.f; rw [madeF_eq, q3]
  have f4 : setops_Both.f (lb : Int) b (la : Int) a = some (limS la lb, bo, 0) := by unfold setops_Both.f; rw [madeF_eq, q4]
  have f5 : setops_One.f (la : Int) a (lb : Int) b = some (limS la lb, on, 0) := by unfold setops_One.f; rw [madeF_eq, q5]
  have f6 : setops_One.f (lb : Int) b (la : Int) a = some (limS la lb, on, 0) := by unfold setops_One.f; rw [madeF_eq, q6]
  have f7 : setops_Less.f (la : Int) a (lb : Int) b = some (limS la lb, l1, 0) := by unfold setops_Less.f; rw [madeF_eq, q7]
  have f8 : setops_Less.f (lb : Int) b (la : Int) a = some (limS la lb, l2, 0) := by unfold setops_Less.f; rw [madeF_eq, q8]
  have f9 : setops_Like.f (la : Int) a (lb : Int) b = some (k1, 0) := by unfold setops_Like.f; rw [likeF_eq, q9]
  have f10 : setops_Like.f (lb : Int) b (la : Int) a = some (k1, 0) := by unfold setops_Like.f; rw [likeF_eq, q10]
  have f11 : setops_Either.f (la : Int) a (la : Int) a = some ((la : Int), a, 0) := by unfold setops_Either.f; rw [madeF_eq, q11]
  have f12 : setops_Both.f (la : Int) a (la : Int) a = some ((la : Int), a, 0) := by unfold setops_Both.f; rw [madeF_eq, q12]
  have f13 : setops_Less.f (la : Int) a (la : Int) a = some ((la : Int), [], 0) := by unfold setops_Less.f; rw [madeF_eq, q13]
  have f14 : setops_Like.f (la : Int) a (la : Int) a = some (65536, 0) := by unfold setops_Like.f; rw [likeF_eq, q14]
  have m2 : on.length ≤ 600 := by omega
  have g1 : ¬ k1 < 0 := by omega
  have g2 : ¬ k1 > 65536 := by omega
  have e1 := len_three n1 hn
  have e2 := len_two n2 m2
  simp only [tallymanlaw17_SetopsParts.j0]
  generalize wrap64 = W at e1 e2 ⊢
  rw [if_neg (by decide), f1, f2, f3, f4, f5, f6, f7, f8, f9, f10, f11, f12, f13, f14]
  rw [Option.bind_some, Option.bind_some, Option.bind_some, Option.bind_some, Option.bind_some, Option.bind_some, Option.bind_some, Option.bind_some, Option.bind_some, Option.bind_some, Option.bind_some, Option.bind_some, Option.bind_some, Option.bind_some]
  rw [s1, Option.bind_some, if_pos rfl, s2, Option.bind_some, if_pos rfl, s3, Option.bind_some, if_pos rfl, if_pos rfl, if_pos e1, if_pos e2, s4, Option.bind_some, if_pos rfl, Option.bind_some, if_pos rfl, if_pos (by rfl), if_pos rfl, if_pos rfl, if_neg g1, decide_eq_false g2]
  exact t0
theorem parts_ex (la lb x : Nat) (a b : List Int) : ∃ k, tallymanlaw17_SetopsParts.f k (la : Int) a (lb : Int) b (x : Int) = some true := by
  have htrue : ∀ k, tallymanlaw17_SetopsParts.j0 (k + 1) (x : Int) true (la : Int) a (lb : Int) b = some true := by
    intro k
    simp only [tallymanlaw17_SetopsParts.j0]
    rw [if_pos trivial]
  obtain ⟨K0, l0⟩ := lives17_ev
  obtain ⟨K1, c1⟩ := hcheck (la : Int) a
  obtain ⟨K2, c2⟩ := hcheck (lb : Int) b
  dsimp only at l0 c1 c2
  have main : ∀ n, K0 ≤ n + 3 → K1 ≤ n + 3 → K2 ≤ n + 3 → (¬ (a.length : Int) > 300 → ¬ (b.length : Int) > 300 → vchk (la : Int) a = 0 → vchk (lb : Int) b = 0 → tallymanlaw17_SetopsParts.j0 (n + 3) (x : Int) false (la : Int) a (lb : Int) b = some true) → tallymanlaw17_SetopsParts.f (n + 3) (la : Int) a (lb : Int) b (x : Int) = some true := by
    intro n k0 k1 k2 hj
    unfold tallymanlaw17_SetopsParts.f
    rw [l0 (n + 3) k0]
    simp only [Option.bind_some, if_true]
    by_cases h1 : (a.length : Int) > 300
    · rw [if_pos h1]; exact htrue _
    · rw [if_neg h1]
      by_cases h2 : (b.length : Int) > 300
      · rw [if_pos h2]; exact htrue _
      · rw [if_neg h2, c1 (n + 3) k1, Option.bind_some]
        by_cases h3 : vchk (la : Int) a = 0
        · rw [if_pos h3, c2 (n + 3) k2, Option.bind_some]
          by_cases h4 : vchk (lb : Int) b = 0
          · rw [h4]; exact hj h1 h2 h3 h4
          · have : (vchk (lb : Int) b != 0) = true := by simpa using h4
            rw [this]; exact htrue _
        · rw [if_neg h3]; exact htrue _
  by_cases hg : (¬ (a.length : Int) > 300 ∧ ¬ (b.length : Int) > 300) ∧ vchk (la : Int) a = 0 ∧ vchk (lb : Int) b = 0
  · obtain ⟨K, h⟩ := parts_mid (x := x) (vchk_ok.1 hg.2.1) (vchk_ok.1 hg.2.2) (by omega) (by omega)
    exact ⟨max K (max K0 (max K1 K2)) + 3, main _ (by omega) (by omega) (by omega) (fun _ _ _ _ => h (max K (max K0 (max K1 K2)) + 2) (by omega))⟩
  · exact ⟨max K0 (max K1 K2) + 3, main _ (by omega) (by omega) (by omega) (fun h1 h2 h3 h4 => absurd ⟨⟨h1, h2⟩, h3, h4⟩ hg)⟩
end Go.Proofs.Ytpagondojdlknaa.H
