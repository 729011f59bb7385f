/- Checks. -/
import Derived.Test.YtbclnjinpcfpjaaS1
import Derived.Test.YtbclnjinpcfpjaaH8
namespace Go.Proofs.Ytbclnjinpcfpjaa.H
open Go.RowKit Go.Proofs.YtbclnjinpcfpjaaW.PrintWords Go.Proofs.YtbclnjinpcfpjaaW.PrintLast
set_option linter.unusedVariables false
/-! ### Registers in order: look, put, check, search -/
theorem w6 {x : Int} (h1 : -9223372036854775808 ≤ x) (h2 : x ≤ 9223372036854775807) : wrap64 x = x := by unfold wrap64; omega
theorem wu6 {x : Int} (h1 : 0 ≤ x) (h2 : x ≤ 18446744073709551615) : IntKind.u64.wrap x = x := by
  have e : IntKind.u64.wrap x = x % 18446744073709551616 := by
    unfold IntKind.wrap
    rfl
  rw [e]
  omega
theorem wi6 {x : Int} (h1 : -9223372036854775808 ≤ x) (h2 : x ≤ 9223372036854775807) : IntKind.i64.wrap x = x := by rw [IntKind.wrap_i64]; omega
theorem rdT (l : List S32) (i : Nat) (h : i < l.length) : rd_T32 l (i : Int) = l[i] := by simp [rd_T32, h]
theorem rdI (l : List Int) (i : Nat) (h : i < l.length) : rd l (i : Int) = l[i] := by simp [rd, h]
theorem nat_eq {n : Nat} : ((n : Int)).toNat = n := rfl
theorem reg_ext {a b : S32} (h0 : a.f0 = b.f0) (h1 : a.f1 = b.f1) : a = b := by cases a; cases b; simp_all
def Inc (l : List S32) : Prop := l.Pairwise (fun a b => a.f0 < b.f0)
/-! ### The check -/
def okR (M R : Int) : Int → List S32 → Bool
  | _, [] => true
  | last, r :: t => decide (last < r.f0) && decide (r.f0 < M) && decide (1 ≤ r.f1) && decide (r.f1 ≤ R) && okR M R r.f0 t
theorem okR_iff (M R : Int) : ∀ (l : List S32) (last : Int), okR M R last l = true ↔ Inc l ∧ ∀ r ∈ l, last < r.f0 ∧ r.f0 < M ∧ 1 ≤ r.f1 ∧ r.f1 ≤ R
  | [], last => by simp [okR, Inc]
  | r :: t, last => by
    unfold okR
    rw [Bool.and_eq_true, okR_iff M R t r.f0]
    simp only [Bool.and_eq_true, decide_eq_true_eq]
    constructor
    · rintro ⟨⟨⟨⟨h1, h2⟩, h3⟩, h4⟩, h5, h6⟩
      refine ⟨List.pairwise_cons.2 ⟨fun s hs => (h6 s hs).1, h5⟩, fun s hs => ?_⟩
      rcases List.mem_cons.1 hs with rfl | hs
      · exact ⟨h1, h2, h3, h4⟩
      · have := h6 s hs; exact ⟨by omega, this.2⟩
    · rintro ⟨h1, h2⟩
      have h3 := h2 r (List.mem_cons_self ..)
      have h4 := List.pairwise_cons.1 h1
      exact ⟨⟨⟨⟨h3.1, h3.2.1⟩, h3.2.2.1⟩, h3.2.2.2⟩, h4.2, fun s hs => ⟨h4.1 s hs, (h2 s (List.mem_cons_of_mem _ hs)).2⟩⟩
theorem pow_small {P : Nat} (h : P ≤ 16) : 0 < 2 ^ P ∧ 2 ^ P ≤ 65536 := ⟨Nat.two_pow_pos P, Nat.pow_le_pow_right (by omega) h⟩
theorem shl_pow {P : Nat} (h : P ≤ 16) : shl .i64 1 (P : Int) = ((2 ^ P : Nat) : Int) := by
  unfold shl
  have := pow_small h
  rw [show min ((P : Int)).toNat (IntKind.i64).bits = P by show min P 64 = P; omega, Int.one_mul]
  rw [show ((2 : Int) ^ P) = ((2 ^ P : Nat) : Int) by simp]
  exact wi6 (by omega) (by omega)
theorem chk_loop (P : Nat) (hP : P ≤ 16) (l : List S32) (hl : l.length ≤ 1000000) : ∀ (d i : Nat) (last : Int), i + d = l.length →
    Ev (fun k => hll_Check.l0 k last l (l.length : Int) (i : Int) (P : Int) l) (if okR ((2 ^ P : Nat) : Int) (65 - (P : Int)) last (l.drop i) = true then 0 else 2) := by
  intro d
  induction d with
  | zero =>
    intro i last h
    refine Ev.step (f := fun _ => some 0) (fun k => ?_) (by rw [List.drop_of_length_le (by omega)]; exact Ev.now _)
    simp only [hll_Check.l0]
    rw [if_neg (by omega)]
  | succ d ih =>
    intro i last h
    have hi : i < l.length := by omega
    rw [List.drop_eq_getElem_cons hi]
    have key : ∀ k, hll_Check.l0 (k + 1) last l (l.length : Int) (i : Int) (P : Int) l = if l[i].f0 ≤ last then some 2 else if l[i].f0 ≥ ((2 ^ P : Nat) : Int) then some 2 else if l[i].f1 < 1 then some 2 else if l[i].f1 > 65 - (P : Int) then some 2 else hll_Check.l0 k l[i].f0 l (l.length : Int) ((i + 1 : Nat) : Int) (P : Int) l := fun k => by
      simp only [hll_Check.l0]
      rw [if_pos (by omega), if_pos (by omega), if_pos (by omega), rdT l i hi]
      by_cases c : l[i].f0 ≤ last
      · rw [if_pos c, if_pos c]
      · rw [if_neg c, if_neg c, if_pos (by omega), shl_pow hP, w6 (x := 65 - (P : Int)) (by omega) (by omega), w6 (x := (i : Int) + 1) (by omega) (by omega)]
        rfl
    unfold okR
    by_cases c1 : l[i].f0 ≤ last
    · refine Ev.step (f := fun _ => some 2) (fun k => by rw [key, if_pos c1]) ?_
      rw [decide_eq_false (by omega)]
      simp only [Bool.false_and]
      exact Ev.now _
    by_cases c2 : l[i].f0 ≥ ((2 ^ P : Nat) : Int)
    · refine Ev.step (f := fun _ => some 2) (fun k => by rw [key, if_neg c1, if_pos c2]) ?_
      rw [decide_eq_false (show ¬ l[i].f0 < ((2 ^ P : Nat) : Int) by omega)]
      simp only [Bool.false_and, Bool.and_false]
      exact Ev.now _
    by_cases c3 : l[i].f1 < 1
    · refine Ev.step (f := fun _ => some 2) (fun k => by rw [key, if_neg c1, if_neg c2, if_pos c3]) ?_
      rw [decide_eq_false (show ¬ 1 ≤ l[i].f1 by omega)]
      simp only [Bool.false_and, Bool.and_false]
      exact Ev.now _
    by_cases c4 : l[i].f1 > 65 - (P : Int)
    · refine Ev.step (f := fun _ => some 2) (fun k => by rw [key, if_neg c1, if_neg c2, if_neg c3, if_pos c4]) ?_
      rw [decide_eq_false (show ¬ l[i].f1 ≤ 65 - (P : Int) by omega)]
      simp only [Bool.false_and, Bool.and_false]
      exact Ev.now _
    refine Ev.step (f := fun k => hll_Check.l0 k l[i].f0 l (l.length : Int) ((i + 1 : Nat) : Int) (P : Int) l) (fun k => by rw [key, if_neg c1, if_neg c2, if_neg c3, if_neg c4]) ?_
    rw [decide_eq_true (show last < l[i].f0 by omega), decide_eq_true (show l[i].f0 < ((2 ^ P : Nat) : Int) by omega), decide_eq_true (show 1 ≤ l[i].f1 by omega), decide_eq_true (show l[i].f1 ≤ 65 - (P : Int) by omega)]
    simp only [Bool.true_and]
    exact ih (i + 1) l[i].f0 (by omega)
theorem chk_bad (p : Int) (l : List S32) (h : p < 4 ∨ p > 16) : Ev (fun k => hll_Check.f k p l) 2 := by
  refine Ev.step (f := fun _ => some 2) (fun k => ?_) (Ev.now _)
  unfold hll_Check.f
  by_cases c : p < 4
  · rw [if_pos c]; simp only [hll_Check.j0]; rw [if_pos trivial]
  · rw [if_neg c, decide_eq_true (by omega)]; simp only [hll_Check.j0]; rw [if_pos trivial]
theorem chk_ev (P : Nat) (h4 : 4 ≤ P) (hP : P ≤ 16) (l : List S32) (hl : l.length ≤ 1000000) : Ev (fun k => hll_Check.f k (P : Int) l) (if okR ((2 ^ P : Nat) : Int) (65 - (P : Int)) (-1) l = true then 0 else 2) := by
  refine Ev.step (f := fun k => hll_Check.l0 k (-1) l (l.length : Int) ((0 : Nat) : Int) (P : Int) l) (fun k => ?_) (chk_loop P hP l hl l.length 0 (-1) (by omega))
  unfold hll_Check.f
  rw [if_neg (by omega), decide_eq_false (by omega)]
  simp only [hll_Check.j0]
  rw [if_neg (by decide)]
  rfl
theorem wu_small {P : Nat} (h : P ≤ 64) : IntKind.u64.wrap (P : Int) = (P : Int) := wu6 (by omega) (by omega)
theorem rchk_loop (P : Nat) (hP : P ≤ 16) (l : List S32) (hl : l.length ≤ 1000000) : ∀ (d i : Nat) (last : Int), i + d = l.length →
    Ev (fun k => tallymanref14_Check.l0 k last (i : Int) (P : Int) l) (if okR ((2 ^ P : Nat) : Int) (65 - (P : Int)) last (l.drop i) = true then 0 else 2) := by
  intro d
  induction d with
  | zero =>
    intro i last h
    refine Ev.step (f := fun _ => some 0) (fun k => ?_) (by rw [List.drop_of_length_le (by omega)]; exact Ev.now _)
    simp only [tallymanref14_Check.l0]
    rw [if_neg (by omega)]
  | succ d ih =>
    intro i last h
    have hi : i < l.length := by omega
    rw [List.drop_eq_getElem_cons hi]
    have key : ∀ k, tallymanref14_Check.l0 (k + 1) last (i : Int) (P : Int) l = if l[i].f0 ≤ last then some 2 else if l[i].f0 ≥ ((2 ^ P : Nat) : Int) then some 2 else if l[i].f1 < 1 then some 2 else if l[i].f1 > 65 - (P : Int) then some 2 else tallymanref14_Check.l0 k l[i].f0 ((i + 1 : Nat) : Int) (P : Int) l := fun k => by
      simp only [tallymanref14_Check.l0]
      rw [if_pos (by omega), if_pos (by omega), rdT l i hi]
      by_cases c : l[i].f0 ≤ last
      · rw [if_pos c, if_pos c]
      · rw [if_neg c, if_neg c, wu_small (by omega), if_pos (by omega), shl_pow hP, w6 (x := 65 - (P : Int)) (by omega) (by omega), w6 (x := (i : Int) + 1) (by omega) (by omega)]
        rfl
    unfold okR
    by_cases c1 : l[i].f0 ≤ last
    · refine Ev.step (f := fun _ => some 2) (fun k => by rw [key, if_pos c1]) ?_
      rw [decide_eq_false (by omega)]
      simp only [Bool.false_and]
      exact Ev.now _
    by_cases c2 : l[i].f0 ≥ ((2 ^ P : Nat) : Int)
    · refine Ev.step (f := fun _ => some 2) (fun k => by rw [key, if_neg c1, if_pos c2]) ?_
      rw [decide_eq_false (show ¬ l[i].f0 < ((2 ^ P : Nat) : Int) by omega)]
      simp only [Bool.false_and, Bool.and_false]
      exact Ev.now _
    by_cases c3 : l[i].f1 < 1
    · refine Ev.step (f := fun _ => some 2) (fun k => by rw [key, if_neg c1, if_neg c2, if_pos c3]) ?_
      rw [decide_eq_false (show ¬ 1 ≤ l[i].f1 by omega)]
      simp only [Bool.false_and, Bool.and_false]
      exact Ev.now _
    by_cases c4 : l[i].f1 > 65 - (P : Int)
    · refine Ev.step (f := fun _ => some 2) (fun k => by rw [key, if_neg c1, if_neg c2, if_neg c3, if_pos c4]) ?_
      rw [decide_eq_false (show ¬ l[i].f1 ≤ 65 - (P : Int) by omega)]
      simp only [Bool.false_and, Bool.and_false]
      exact Ev.now _
    refine Ev.step (f := fun k => tallymanref14_Check.l0 k l[i].f0 ((i + 1 : Nat) : Int) (P : Int) l) (fun k => by rw [key, if_neg c1, if_neg c2, if_neg c3, if_neg c4]) ?_
    rw [decide_eq_true (show last < l[i].f0 by omega), decide_eq_true (show l[i].f0 < ((2 ^ P : Nat) : Int) by omega), decide_eq_true (show 1 ≤ l[i].f1 by omega), decide_eq_true (show l[i].f1 ≤ 65 - (P : Int) by omega)]
    simp only [Bool.true_and]
    exact ih (i + 1) l[i].f0 (by omega)
theorem may_good {P : Nat} (h4 : 4 ≤ P) (hP : P ≤ 16) : tallymanref14_may.f (P : Int) = some true := by
  unfold tallymanref14_may.f
  rw [if_pos (by omega), decide_eq_true (by omega)]
theorem may_bad {p : Int} (h : p < 4 ∨ p > 16) : tallymanref14_may.f p = some false := by
  unfold tallymanref14_may.f
  by_cases c : p ≥ 4
  · rw [if_pos c, decide_eq_false (by omega)]
  · rw [if_neg c]
theorem rchk_bad (p : Int) (l : List S32) (h : p < 4 ∨ p > 16) : Ev (fun k => tallymanref14_Check.f k p l) 2 := by
  refine Ev.step (f := fun _ => some 2) (fun k => ?_) (Ev.now _)
  unfold tallymanref14_Check.f
  rw [may_bad h, Option.bind_some, if_neg (by decide)]
  simp only [tallymanref14_Check.j0]
  rw [if_pos trivial]
theorem rchk_ev (P : Nat) (h4 : 4 ≤ P) (hP : P ≤ 16) (l : List S32) (hl : l.length ≤ 65536) : Ev (fun k => tallymanref14_Check.f k (P : Int) l) (if okR ((2 ^ P : Nat) : Int) (65 - (P : Int)) (-1) l = true then 0 else 2) := by
  refine Ev.step (f := fun k => tallymanref14_Check.l0 k (-1) ((0 : Nat) : Int) (P : Int) l) (fun k => ?_) (rchk_loop P hP l (by omega) l.length 0 (-1) (by omega))
  unfold tallymanref14_Check.f
  rw [may_good h4 hP, Option.bind_some, if_pos rfl, decide_eq_false (by omega)]
  simp only [tallymanref14_Check.j0]
  rw [if_neg (by decide)]
  rfl
/-- Both checks tell the same. -/
theorem chk_both (p : Int) (l : List S32) (hl : l.length ≤ 65536) : ∃ v : Int, Ev (fun k => hll_Check.f k p l) v ∧ Ev (fun k => tallymanref14_Check.f k p l) v ∧ ((v = 0 ∧ ∃ P : Nat, p = (P : Int) ∧ 4 ≤ P ∧ P ≤ 16 ∧ okR ((2 ^ P : Nat) : Int) (65 - (P : Int)) (-1) l = true) ∨ v = 2) := by
  by_cases h : p < 4 ∨ p > 16
  · exact ⟨2, chk_bad p l h, rchk_bad p l h, .inr rfl⟩
  · obtain ⟨P, rfl⟩ : ∃ P : Nat, p = (P : Int) := ⟨p.toNat, by omega⟩
    refine ⟨_, chk_ev P (by omega) (by omega) l (by omega), rchk_ev P (by omega) (by omega) l hl, ?_⟩
    by_cases c : okR ((2 ^ P : Nat) : Int) (65 - (P : Int)) (-1) l = true
    · rw [if_pos c]; exact .inl ⟨rfl, P, rfl, by omega, by omega, c⟩
    · rw [if_neg c]; exact .inr rfl
end Go.Proofs.Ytbclnjinpcfpjaa.H
