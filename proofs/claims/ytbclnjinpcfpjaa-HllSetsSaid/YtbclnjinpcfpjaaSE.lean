/- A counter depends only on the set of hashes. -/
import Derived.Test.YtbclnjinpcfpjaaSA
import Derived.Test.YtbclnjinpcfpjaaHT
namespace Go.Proofs.Ytbclnjinpcfpjaa.H
open Go.RowKit Go.Proofs.YtbclnjinpcfpjaaW.PrintWords Go.Proofs.YtbclnjinpcfpjaaW.PrintLast
set_option linter.unusedVariables false
/-! ### A counter depends only on the set of hashes -/
theorem turned_loop (l : List Int) (hn : l.length ≤ 1000000) : ∀ (i : Nat) (acc : List Int), i ≤ l.length → acc.length ≤ 2000000 - 2 * i →
    ∃ o : List Int, (∀ x, x ∈ o ↔ x ∈ acc ∨ x ∈ l.take i) ∧ o.length = acc.length + 2 * i ∧ Ev (fun k => tallymanlaw14_turned.l0 k l acc ((i : Int) - 1)) o := by
  intro i
  induction i with
  | zero =>
    intro acc hi ha
    refine ⟨acc, fun x => by simp, by omega, ?_⟩
    refine Ev.step (f := fun _ => some acc) (fun k => ?_) (Ev.now _)
    simp only [tallymanlaw14_turned.l0]
    rw [if_neg (by omega)]
  | succ i ih =>
    intro acc hi ha
    obtain ⟨o, h1, h2, h3⟩ := ih (acc ++ [l[i], l[i]]) (by omega) (by simp; omega)
    refine ⟨o, fun x => ?_, by rw [h2]; simp; omega, ?_⟩
    · rw [h1, List.mem_append, List.take_add_one, List.getElem?_eq_getElem (by omega), List.mem_append]
      simp only [List.mem_cons, List.not_mem_nil, or_false, or_self, Option.toList]
      constructor
      · rintro ((h | h) | h)
        · exact .inl h
        · exact .inr (.inr h)
        · exact .inr (.inl h)
      · rintro (h | h | h)
        · exact .inl (.inl h)
        · exact .inr h
        · exact .inl (.inr h)
    · refine Ev.step (f := fun k => tallymanlaw14_turned.l0 k l (acc ++ [l[i], l[i]]) ((i : Int) - 1)) (fun k => ?_) h3
      simp only [tallymanlaw14_turned.l0]
      rw [show (((i + 1 : Nat) : Int) - 1) = (i : Int) by omega, if_pos (by omega), if_pos (by omega), if_pos (by omega), rdI l i (by omega), Option.bind_some, if_pos (by simp only [List.length_cons, List.length_nil]; omega), w6 (x := (i : Int) - 1) (by omega) (by omega)]
theorem turned_ev (l : List Int) (hn : l.length ≤ 1000000) : ∃ o : List Int, (∀ x, x ∈ o ↔ x ∈ l) ∧ o.length = 2 * l.length ∧ Ev (fun k => tallymanlaw14_turned.f k l) o := by
  obtain ⟨o, h1, h2, h3⟩ := turned_loop l hn l.length [] (Nat.le_refl _) (by simp only [List.length_nil]; omega)
  refine ⟨o, fun x => by rw [h1]; simp, by simpa using h2, Ev.congr (fun k => ?_) h3⟩
  unfold tallymanlaw14_turned.f
  rw [w6 (by omega) (by omega)]
theorem add_ev {P : Nat} (h4 : 4 ≤ P) (hP : P ≤ 16) {h : Int} (hh : 0 ≤ h ∧ h < 18446744073709551616) {l : List S32} (hv : Vl P l) : Ev (fun k => hll_Add.f k (P : Int) l h) ((P : Int), adds l (spls P [h]), 0) := by
  have hu : U64 [h] := fun x hx => by rw [List.mem_singleton.1 hx]; exact hh
  exact Ev.congr (fun k => by unfold hll_Add.f; rfl) (Ev.bind (addall_ev h4 hP [h] hu (by simp) hv) (Ev.now _))
theorem spls_mem {P : Nat} {hs ts : List Int} (h : ∀ x, x ∈ hs ↔ x ∈ ts) (y : S32) : y ∈ spls P hs ↔ y ∈ spls P ts := by
  unfold spls
  rw [List.mem_map, List.mem_map]
  exact ⟨fun ⟨x, h1, h2⟩ => ⟨x, (h x).1 h1, h2⟩, fun ⟨x, h1, h2⟩ => ⟨x, (h x).2 h1, h2⟩⟩
theorem adds_append (l xs ys : List S32) : adds l (xs ++ ys) = adds (adds l xs) ys := List.foldl_append ..
theorem sets_end {P : Nat} (h4 : 4 ≤ P) (hP : P ≤ 16) {a b : List Int} (ha : U64 a) (hb : U64 b) (la : a.length ≤ 300) (lb : b.length ≤ 300) (one : List S32) (h1 : a.length ≤ 60 → one = adds [] (spls P a)) (h1l : one.length ≤ 65536) :
    Ev (fun k => tallymanlaw14_HllSets.j2 k (P : Int) a b 0 0 (P : Int) [] (P : Int) (adds [] (spls P a)) (P : Int) (adds [] (spls P b)) (P : Int) one) true := by
  obtain ⟨vx, rx⟩ := cnt_ok h4 hP ha
  obtain ⟨vy, ry⟩ := cnt_ok h4 hP hb
  obtain ⟨o, ho, hol, het⟩ := turned_ev a (by omega)
  have hou : U64 o := fun x hx => ha x ((ho x).1 hx)
  obtain ⟨vo, ro⟩ := cnt_ok h4 hP hou
  have hp := pow_small hP
  have e1 : adds [] (spls P o) = adds [] (spls P a) := rep_eq vo vx ro (rep_iff rx (fun y => (spls_mem ho y).symm))
  have both := addall_ev h4 hP b hb (by omega) vx
  obtain ⟨vb, rb⟩ := adds_ok (spls P b) vx rx (spls_reg h4 hP hb)
  have ob := addall_ev h4 hP o hou (by omega) (val_nil ((2 ^ P : Nat) : Int) (65 - (P : Int)))
  generalize adds [] (spls P o) = xo at *
  have hx1 : a.length ≤ 60 → one = adds [] (spls P a) := h1
  generalize adds [] (spls P a) = x at *
  generalize adds [] (spls P b) = y at *
  generalize adds x (spls P b) = xb at *
  have vm : Vl P (mrg x y) := val_mrg vx vy
  have rm := rep_mrg vx vy rx ry
  have vn : Vl P (mrg y x) := val_mrg vy vx
  have rn := rep_mrg vy vx ry rx
  have vs : Vl P (mrg x x) := val_mrg vx vx
  have rs := rep_mrg vx vx rx rx
  have e2 : mrg x y = xb := rep_eq vm vb rm rb
  have e3 : mrg y x = xb := rep_eq vn vb rn (rep_iff rb (fun z => Or.comm))
  have e4 : mrg x x = x := rep_eq vs vx rs (rep_iff rx (fun z => (or_self_iff).symm))
  refine Ev.step (fun k => by simp only [tallymanlaw14_HllSets.j2]; rfl) ?_
  refine Ev.bind het ?_
  refine Ev.bind ob ?_
  refine Ev.bind both ?_
  refine Ev.bind (merge_ev h4 hP vx vy) ?_
  refine Ev.bind (merge_ev h4 hP vy vx) ?_
  refine Ev.bind (merge_ev h4 hP vx vx) ?_
  refine Ev.congr (f := fun k => tallymanlaw14_HllSets.j3 k (P : Int) a false (P : Int) x (P : Int) one (P : Int) xo (P : Int) xb (P : Int) (mrg x y) (P : Int) (mrg y x) (P : Int) (mrg x x)) (fun k => by rw [if_pos rfl, if_pos rfl, if_pos rfl, if_pos rfl, if_pos trivial, if_pos trivial]; rfl) ?_
  refine Ev.step (fun k => by simp only [tallymanlaw14_HllSets.j3]; rw [if_neg (by decide)]) ?_
  refine Ev.bind (same_eq hP vo e1) ?_
  refine Ev.congr (fun k => by rw [if_pos rfl]) (Ev.bind (same_eq hP vm e2) ?_)
  refine Ev.congr (fun k => by rw [if_pos rfl]) (Ev.bind (same_eq hP vn e3) ?_)
  refine Ev.congr (fun k => by rw [if_pos rfl]) (Ev.bind (same_eq hP vs e4) ?_)
  have hxl := vl_len hP vx
  have tail : Ev (fun k => (hll_Zeros.f k (P : Int) x).bind fun t338 => (if 0 ≤ (IntKind.u64.wrap (P : Int)) then (if t338 = (wrap64 ((shl .i64 1 (IntKind.u64.wrap (P : Int))) - (x.length : Int))) then ((hll_Check.f k (P : Int) (mrg x y)).bind fun t339 => (some (t339 == 0))) else (none)) else (none))) true := by
    refine Ev.bind (zeros_ev h4 hP vx) ?_
    have wu : IntKind.u64.wrap (P : Int) = (P : Int) := wu6 (by omega) (by omega)
    refine Ev.congr (fun k => by rw [wu, if_pos (by omega), shl_pow hP, w6 (by omega) (by omega), if_pos rfl]) (Ev.bind (chk_good P h4 hP vm) ?_)
    exact Ev.congr (f := fun _ => some true) (fun k => rfl) (Ev.now _)
  by_cases c : (a.length : Int) > 60
  · exact Ev.congr (fun k => by rw [if_pos rfl, if_pos c]) tail
  · have e5 := hx1 (by omega)
    subst e5
    refine Ev.congr (fun k => by rw [if_pos rfl, if_neg c]) (Ev.bind (same_eq hP vx rfl) ?_)
    exact Ev.congr (fun k => by rw [if_pos rfl]) tail
theorem sets_loop {P : Nat} (h4 : 4 ≤ P) (hP : P ≤ 16) {a b : List Int} (ha : U64 a) (hb : U64 b) (la : a.length ≤ 300) (lb : b.length ≤ 300) : ∀ (d i : Nat), i + d = a.length → i ≤ 60 →
    Ev (fun k => tallymanlaw14_HllSets.l0 k (P : Int) a b 0 0 (i : Int) (P : Int) [] (P : Int) (adds [] (spls P a)) (P : Int) (adds [] (spls P b)) (P : Int) (adds [] (spls P (a.take i)))) true := by
  have vt : ∀ i, Vl P (adds [] (spls P (a.take i))) := fun i => (cnt_ok h4 hP (hs := a.take i) (fun x hx => ha x (List.mem_of_mem_take hx))).1
  intro d
  induction d with
  | zero =>
    intro i h h6
    refine Ev.step (fun k => ?_) (sets_end h4 hP ha hb la lb (adds [] (spls P (a.take i))) (fun _ => by rw [List.take_of_length_le (by omega)]) (vl_len hP (vt i)))
    simp only [tallymanlaw14_HllSets.l0]
    rw [if_neg (by omega)]
  | succ d ih =>
    intro i h h6
    have hi : i < a.length := by omega
    by_cases c : (i : Int) < 60
    · have e : adds (adds [] (spls P (a.take i))) (spls P [a[i]]) = adds [] (spls P (a.take (i + 1))) := by
        rw [List.take_add_one, List.getElem?_eq_getElem hi]
        unfold spls
        rw [List.map_append, adds_append]
        rfl
      have hadd := add_ev h4 hP (ha a[i] (List.getElem_mem hi)) (vt i)
      rw [e] at hadd
      refine Ev.step (fun k => by
        simp only [tallymanlaw14_HllSets.l0]
        rw [if_pos (by omega), if_pos c, if_pos (by omega), rdI a i hi, w6 (x := (i : Int) + 1) (by omega) (by omega)]) (Ev.bind hadd ?_)
      exact ih (i + 1) (by omega) (by omega)
    · refine Ev.step (fun k => ?_) (sets_end h4 hP ha hb la lb (adds [] (spls P (a.take i))) (fun h => by omega) (vl_len hP (vt i)))
      simp only [tallymanlaw14_HllSets.l0]
      rw [if_pos (by omega), if_neg c]
theorem sets_ex (p : Int) (hp : -9223372036854775808 ≤ p ∧ p ≤ 9223372036854775807) (a b : List Int) (ha : U64 a) (hb : U64 b) : ∃ k, tallymanlaw14_HllSets.f k p a b = some true := by
  refine Ev.rounds (g := fun k => tallymanlaw14_HllSets.f k p a b) ?_
  have out : Ev (fun k => tallymanlaw14_HllSets.j0 k p a b true) true := by
    refine Ev.step (f := fun _ => some true) (fun k => ?_) (Ev.now _)
    simp only [tallymanlaw14_HllSets.j0]
    rw [if_pos trivial]
  refine Ev.congr (fun k => by unfold tallymanlaw14_HllSets.f; rfl) (Ev.bind lives14_ev ?_)
  refine Ev.congr (fun k => by rw [if_pos rfl]) ?_
  by_cases c1 : (a.length : Int) > 300
  · exact Ev.congr (fun k => by rw [if_pos c1]) out
  by_cases c2 : (b.length : Int) > 300
  · exact Ev.congr (fun k => by rw [if_neg c1, decide_eq_true c2]) out
  refine Ev.congr (f := fun k => tallymanlaw14_HllSets.j0 k p a b false) (fun k => by rw [if_neg c1, decide_eq_false c2]) ?_
  obtain ⟨x, ex, lx, -⟩ := pick_nat p 13 (by omega) (by omega) hp
  have n1 := new_eq (P := 4 + x) (by omega) (by omega)
  have hx : x ≤ 12 := by omega
  have la : a.length ≤ 300 := by omega
  have lb : b.length ≤ 300 := by omega
  have w1 : wrap64 (4 + (x : Int)) = ((4 + x : Nat) : Int) := by rw [w6 (by omega) (by omega)]; omega
  have hP : 4 + x ≤ 16 := by omega
  have h4 : 4 ≤ 4 + x := by omega
  clear lx hx
  generalize 4 + x = X at *
  refine Ev.step (fun k => by
    simp only [tallymanlaw14_HllSets.j0]
    rw [if_neg (by decide), ex, Option.bind_some, w1, n1, Option.bind_some, if_pos rfl]) ?_
  refine Ev.bind (addall_ev h4 hP a ha (Nat.le_trans la (by decide)) (val_nil _ _)) ?_
  refine Ev.bind (addall_ev h4 hP b hb (Nat.le_trans lb (by decide)) (val_nil _ _)) ?_
  exact sets_loop h4 hP ha hb la lb a.length 0 (Nat.zero_add _) (by decide)
end Go.Proofs.Ytbclnjinpcfpjaa.H
