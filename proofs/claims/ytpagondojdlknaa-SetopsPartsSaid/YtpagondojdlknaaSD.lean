/- Plain facts about the printed functions: what each of them answers. -/
import Derived.Test.YtpagondojdlknaaS9
import Derived.Test.YtpagondojdlknaaM6
import Derived.Test.YtpagondojdlknaaM7
namespace Go.Proofs.Ytpagondojdlknaa.H
open Go.RowKit Go.Proofs.YtpagondojdlknaaW.PrintWords Go.Proofs.YtpagondojdlknaaW.PrintLast Go.Proofs.YtpagondojdlknaaW.PrintMore
set_option linter.unusedVariables false
set_option linter.unusedSimpArgs false
/-! Sets told by rising rows: what SetopsParts says. -/
def pLess2 : P3 → Bool := fun t => t.2.2 && !t.2.1
theorem lim_comm (a b : Int) : limS a b = limS b a := by unfold limS; repeat' split <;> try omega
theorem sel_comm {p q : P3 → Bool} {A B : List Int} (h1 : A.Pairwise (· < ·)) (h2 : B.Pairwise (· < ·)) (h : ∀ x y z, p (x, y, z) = q (x, z, y)) : selS p A B = selS q B A := by
  refine inc_ext (sel_inc _ h1 h2) (sel_inc _ h2 h1) (fun x => ?_)
  rw [sel_mem _ h1 h2, sel_mem _ h2 h1, h, Or.comm]
theorem pE_at (x : Int) (y z : Bool) : pEither (x, y, z) = (y || z) := rfl
theorem pB_at (x : Int) (y z : Bool) : pBoth (x, y, z) = (y && z) := rfl
theorem pL_at (x : Int) (y z : Bool) : pLess (x, y, z) = (y && !z) := rfl
theorem pM_at (x : Int) (y z : Bool) : pLess2 (x, y, z) = (z && !y) := rfl
theorem pO_at (x : Int) (y z : Bool) : pOne (x, y, z) = ((y && !z) || (z && !y)) := by cases y <;> cases z <;> rfl
theorem cnt_four (l : List P3) (hl : ∀ t ∈ l, (t.2.1 || t.2.2) = true) : (l.filter pEither).length = (l.filter pBoth).length + (l.filter pLess).length + (l.filter pLess2).length ∧ (l.filter pOne).length = (l.filter pLess).length + (l.filter pLess2).length ∧ (l.filter pEither).length = l.length := by
  induction l with
  | nil => simp
  | cons t r ih =>
    have ih := ih (fun s hs => hl s (List.mem_cons_of_mem _ hs))
    have ht := hl t (List.mem_cons_self ..)
    obtain ⟨x, y, z⟩ := t
    cases y <;> cases z <;> simp only [List.filter_cons, pE_at, pB_at, pL_at, pM_at, pO_at, Bool.or_true, Bool.or_false, Bool.and_true, Bool.and_false, Bool.not_true, Bool.not_false, if_true, if_false, Bool.false_eq_true, List.length_cons] at ht ⊢ <;> omega
theorem pairs_some {A B : List Int} (h1 : A.Pairwise (· < ·)) (h2 : B.Pairwise (· < ·)) : ∀ t ∈ pairsS A B, (t.2.1 || t.2.2) = true := by
  intro t ht
  obtain ⟨h, e1, e2⟩ := (pairs_mem A B h1 h2 t).1 ht
  rw [e1, e2]
  rcases h with h | h <;> simp [h]
theorem sel_length (p : P3 → Bool) (A B : List Int) : (selS p A B).length = ((pairsS A B).filter p).length := by unfold selS; rw [List.length_map]
theorem counts {A B : List Int} (h1 : A.Pairwise (· < ·)) (h2 : B.Pairwise (· < ·)) : (selS pEither A B).length = (selS pBoth A B).length + (selS pLess A B).length + (selS pLess B A).length ∧ (selS pOne A B).length = (selS pLess A B).length + (selS pLess B A).length ∧ (selS pEither A B).length = (pairsS A B).length := by
  have h := cnt_four (pairsS A B) (pairs_some h1 h2)
  rw [sel_comm (p := pLess) (q := pLess2) h2 h1 (fun x y z => rfl), sel_length, sel_length, sel_length, sel_length, sel_length]
  exact h
theorem like_val {la lb : Int} {a b : List Int} (h1 : Okv la a) (h2 : Okv lb b) (hl : a.length + b.length ≤ 8192) :
    likeS la a lb b = (if (selS pEither (belowS a (limS la lb)) (belowS b (limS la lb))).length = 0 then 65536 else 65536 * ((selS pBoth (belowS a (limS la lb)) (belowS b (limS la lb))).length : Int) / ((selS pEither (belowS a (limS la lb)) (belowS b (limS la lb))).length : Int), 0) := by
  unfold likeS madeP
  rw [made_ok _ h1 h2 hl, if_pos rfl, if_pos (c := vchk la a = 0 ∧ vchk lb b = 0) ⟨vchk_ok.2 h1, vchk_ok.2 h2⟩, (counts (below_inc h1.inc (limS la lb)) (below_inc h2.inc (limS la lb))).2.2, sel_length pBoth]
  split <;> rfl
theorem self_sel {A : List Int} (h : A.Pairwise (· < ·)) : selS pEither A A = A ∧ selS pBoth A A = A ∧ selS pLess A A = [] := by
  refine ⟨inc_ext (sel_inc _ h h) h (fun x => ?_), inc_ext (sel_inc _ h h) h (fun x => ?_), ?_⟩
  · rw [sel_mem _ h h]; unfold pEither; by_cases e : x ∈ A <;> simp [e]
  · rw [sel_mem _ h h]; unfold pBoth; by_cases e : x ∈ A <;> simp [e]
  · rw [List.eq_nil_iff_forall_not_mem]
    intro x hx
    rw [sel_mem _ h h] at hx
    unfold pLess at hx
    by_cases e : x ∈ A <;> simp [e] at hx
/-- The first half of the law. -/
theorem parts_sets {la lb : Int} {a b : List Int} (h1 : Okv la a) (h2 : Okv lb b) (hl : a.length ≤ 300) (hm : b.length ≤ 300) :
    ∃ (L : Int) (ei bo on l1 l2 : List Int) (k1 : Int), L = limS la lb ∧ bo = selS pBoth (belowS a (limS la lb)) (belowS b (limS la lb)) ∧ Okv L bo ∧
      madeS pEither la a lb b = ((L, ei), 0) ∧ madeS pEither lb b la a = ((L, ei), 0) ∧ madeS pBoth la a lb b = ((L, bo), 0) ∧ madeS pBoth lb b la a = ((L, bo), 0) ∧
      madeS pOne la a lb b = ((L, on), 0) ∧ madeS pOne lb b la a = ((L, on), 0) ∧ madeS pLess la a lb b = ((L, l1), 0) ∧ madeS pLess lb b la a = ((L, l2), 0) ∧
      likeS la a lb b = (k1, 0) ∧ likeS lb b la a = (k1, 0) ∧ madeS pEither la a la a = ((la, a), 0) ∧ madeS pBoth la a la a = ((la, a), 0) ∧ madeS pLess la a la a = ((la, []), 0) ∧ likeS la a la a = (65536, 0) ∧
      ei.length = bo.length + l1.length + l2.length ∧ on.length = l1.length + l2.length ∧ 0 ≤ k1 ∧ k1 ≤ 65536 ∧ ei.length ≤ 600 := by
  obtain ⟨L, hL⟩ : ∃ L, L = limS la lb := ⟨_, rfl⟩
  have hL2 : limS lb la = L := by rw [hL]; exact lim_comm _ _
  obtain ⟨A, hA⟩ : ∃ A, A = belowS a L := ⟨_, rfl⟩
  obtain ⟨B, hB⟩ : ∃ B, B = belowS b L := ⟨_, rfl⟩
  have oA : Okv L A := by rw [hA]; exact okv_below h1
  have oB : Okv L B := by rw [hB]; exact okv_below h2
  have nA : A.length ≤ 300 := by rw [hA]; exact Nat.le_trans (below_len _ _) hl
  have nB : B.length ≤ 300 := by rw [hB]; exact Nat.le_trans (below_len _ _) hm
  have c := counts oA.inc oB.inc
  have lE := sel_len2 pEither A B
  have ss := self_sel h1.inc
  have cE : selS pEither B A = selS pEither A B := sel_comm oB.inc oA.inc (fun x y z => by unfold pEither; exact Bool.or_comm _ _)
  have cB : selS pBoth B A = selS pBoth A B := sel_comm oB.inc oA.inc (fun x y z => by unfold pBoth; exact Bool.and_comm _ _)
  have cO : selS pOne B A = selS pOne A B := sel_comm oB.inc oA.inc (fun x y z => by unfold pOne; cases y <;> cases z <;> rfl)
  have hla : limS la la = la := lim_self la
  have hs : belowS a la = a := below_self h1
  rw [← hL, ← hA, ← hB]
  refine ⟨L, selS pEither A B, selS pBoth A B, selS pOne A B, selS pLess A B, selS pLess B A, if (selS pEither A B).length = 0 then 65536 else 65536 * ((selS pBoth A B).length : Int) / ((selS pEither A B).length : Int), rfl, rfl, okv_sel pBoth oA oB (by omega), ?_, ?_, ?_, ?_, ?_, ?_, ?_, ?_, ?_, ?_, ?_, ?_, ?_, ?_, c.1, c.2.1, ?_, ?_, by omega⟩
  · rw [made_ok _ h1 h2 (by omega), ← hL, ← hA, ← hB]
  · rw [made_ok _ h2 h1 (by omega), hL2, ← hA, ← hB, cE]
  · rw [made_ok _ h1 h2 (by omega), ← hL, ← hA, ← hB]
  · rw [made_ok _ h2 h1 (by omega), hL2, ← hA, ← hB, cB]
  · rw [made_ok _ h1 h2 (by omega), ← hL, ← hA, ← hB]
  · rw [made_ok _ h2 h1 (by omega), hL2, ← hA, ← hB, cO]
  · rw [made_ok _ h1 h2 (by omega), ← hL, ← hA, ← hB]
  · rw [made_ok _ h2 h1 (by omega), hL2, ← hA, ← hB]
  · rw [like_val h1 h2 (by omega), ← hL, ← hA, ← hB]
  · rw [like_val h2 h1 (by omega), hL2, ← hA, ← hB, cE, cB]
  · rw [made_ok _ h1 h1 (by omega), hla, hs, ss.1]
  · rw [made_ok _ h1 h1 (by omega), hla, hs, ss.2.1]
  · rw [made_ok _ h1 h1 (by omega), hla, hs, ss.2.2]
  · rw [like_val h1 h1 (by omega), hla, hs, ss.1, ss.2.1]
    split
    · rfl
    · rw [Int.mul_ediv_cancel _ (by omega)]
  · split
    · omega
    · exact Int.ediv_nonneg (by omega) (by omega)
  · split
    · omega
    · have : (65536 * ((selS pBoth A B).length : Int)) / ((selS pEither A B).length : Int) ≤ (65536 * ((selS pEither A B).length : Int)) / ((selS pEither A B).length : Int) := Int.ediv_le_ediv (by omega) (by omega)
      rw [Int.mul_ediv_cancel _ (by omega)] at this
      exact this
/-- The cut of the result. -/
theorem parts_cut {la lb x : Int} {a b : List Int} (h1 : Okv la a) (h2 : Okv lb b) (hx : ¬ x = 0) (hxl : ¬ (¬ la = 0 ∧ la < x)) (hl : a.length ≤ 300) (hm : b.length ≤ 300) {bo : List Int} (hbo : bo = selS pBoth (belowS a (limS la lb)) (belowS b (limS la lb))) (hv : Okv (limS la lb) bo) :
    Okv x (belowS a x) ∧ ((limS la lb = 0 ∨ x < limS la lb) → madeS pBoth x (belowS a x) lb b = ((x, belowS bo x), 0) ∧ cutS (limS la lb) bo x = (x, belowS bo x, 0)) ∧ (¬ (limS la lb = 0 ∨ x < limS la lb) → madeS pBoth x (belowS a x) lb b = ((limS la lb, bo), 0)) := by
  have oC : Okv x (belowS a x) := okv_below h1
  have nC := below_len a x
  have iA := below_inc h1.inc (limS la lb)
  have iB := below_inc h2.inc (limS la lb)
  have hmm := made_ok pBoth oC h2 (by omega)
  refine ⟨oC, fun hc => ⟨?_, ?_⟩, fun hc => ?_⟩
  · have e : limS x lb = x := by
      have : limS x lb = x ∨ limS x lb ≠ x := Decidable.em _
      unfold limS at *
      repeat' split at * <;> try omega
    rw [hmm, e, below_self oC]
    have : selS pBoth (belowS a x) (belowS b x) = belowS bo x := by
      refine inc_ext (sel_inc _ oC.inc (below_inc h2.inc x)) (below_inc hv.inc x) (fun y => ?_)
      rw [sel_mem _ oC.inc (below_inc h2.inc x), below_mem hv.inc, hbo, sel_mem _ iA iB]
      simp only [below_mem h1.inc, below_mem h2.inc]
      unfold pBoth
      by_cases ya : y ∈ a <;> by_cases yb : y ∈ b <;> simp [ya, yb, hx]
      intro hyx
      rcases hc with hc | hc
      · exact .inl hc
      · exact .inr (by omega)
    rw [this]
  · unfold cutS
    rw [if_pos (vchk_ok.2 hv), if_neg (by omega)]
  · have e : limS x lb = limS la lb := by
      have : limS x lb = limS la lb ∨ limS x lb ≠ limS la lb := Decidable.em _
      unfold limS at *
      repeat' split at * <;> try omega
    rw [hmm, e]
    have : selS pBoth (belowS (belowS a x) (limS la lb)) (belowS b (limS la lb)) = bo := by
      rw [hbo]
      refine inc_ext (sel_inc _ (below_inc oC.inc _) iB) (sel_inc _ iA iB) (fun y => ?_)
      rw [sel_mem _ (below_inc oC.inc _) iB, sel_mem _ iA iB]
      simp only [below_mem h1.inc, below_mem h2.inc, below_mem oC.inc]
      unfold pBoth
      by_cases ya : y ∈ a <;> by_cases yb : y ∈ b <;> simp [ya, yb, hx]
      omega
    rw [this]
end Go.Proofs.Ytpagondojdlknaa.H
