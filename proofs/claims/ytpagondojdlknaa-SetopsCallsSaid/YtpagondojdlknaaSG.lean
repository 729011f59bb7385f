/- Plain facts about the printed functions: what each of them answers. -/
import Derived.Test.YtpagondojdlknaaH10
import Derived.Test.YtpagondojdlknaaH11
import Derived.Test.YtpagondojdlknaaH13
import Derived.Test.YtpagondojdlknaaH14
import Derived.Test.YtpagondojdlknaaSC
import Derived.Test.YtpagondojdlknaaS9
import Derived.Test.YtpagondojdlknaaM6
import Derived.Test.YtpagondojdlknaaM7
namespace Go.Proofs.Ytpagondojdlknaa.H
open Go.RowKit Go.Proofs.YtpagondojdlknaaW.PrintWords Go.Proofs.YtpagondojdlknaaW.PrintLast Go.Proofs.YtpagondojdlknaaW.PrintMore
set_option linter.unusedVariables false
set_option linter.unusedSimpArgs false
/-! ### The reference's functions, in closed form -/
theorem cz64 (x : Int) (h1 : -9223372036854775808 ≤ x) (h2 : x ≤ 9223372036854775807) : wrap64 x = x := w64' h1 h2
theorem cz1 (i : Nat) (h : i ≤ 1000000000) : wrap64 ((i : Int) + 1) = ((i + 1 : Nat) : Int) := by rw [cz64 _ (by omega) (by omega)]; omega
theorem czm (i : Nat) (h0 : 0 < i) (h : i ≤ 1000000000) : wrap64 ((i : Int) - 1) = ((i - 1 : Nat) : Int) := by rw [cz64 _ (by omega) (by omega)]; omega
/-- From place i on each hash is above the one before it, and below the limit. -/
def fromOk (lim : Int) (l : List Int) (i : Nat) : Prop := ∀ j, i ≤ j → ∀ h : j < l.length, (0 < j → rd l ((j - 1 : Nat) : Int) < l[j]) ∧ (lim = 0 ∨ l[j] < lim)
theorem fromOk_step {lim : Int} {l : List Int} {i : Nat} (h : i < l.length) : fromOk lim l i ↔ ((0 < i → rd l ((i - 1 : Nat) : Int) < l[i]) ∧ (lim = 0 ∨ l[i] < lim)) ∧ fromOk lim l (i + 1) := by
  constructor
  · intro g
    exact ⟨g i (Nat.le_refl _) h, fun j hj hl => g j (by omega) hl⟩
  · rintro ⟨g1, g2⟩ j hj hl
    by_cases e : j = i
    · subst e; exact g1
    · exact g2 j (by omega) hl
theorem inc_of_steps {l : List Int} (h : ∀ j, 0 < j → ∀ hj : j < l.length, rd l ((j - 1 : Nat) : Int) < l[j]) : l.Pairwise (· < ·) := by
  rw [← inc_iff]
  induction l with
  | nil => rfl
  | cons a r ih =>
    cases r with
    | nil => rfl
    | cons b r =>
      rw [incB_cons, Bool.and_eq_true]
      refine ⟨decide_eq_true ?_, ih fun j h0 hj => ?_⟩
      · have := h 1 (by omega) (by simp)
        exact this
      · have := h (j + 1) (by omega) (by simp at hj ⊢; omega)
        rw [show j + 1 - 1 = j by omega] at this
        have e1 : rd (a :: b :: r) (j : Int) = rd (b :: r) ((j - 1 : Nat) : Int) := by
          rw [rd_nat' _ j (by simp at hj ⊢; omega), rd_nat' _ (j - 1) (by simp at hj ⊢; omega)]
          cases j with
          | zero => omega
          | succ j => simp
        rw [e1] at this
        exact this
theorem fromOk_zero {lim : Int} {l : List Int} (hl : l.length ≤ 8192) : fromOk lim l 0 ↔ Okv lim l := by
  constructor
  · intro g
    refine ⟨inc_of_steps fun j h0 hj => (g j (by omega) hj).1 h0, ?_, hl⟩
    by_cases h : lim = 0
    · exact .inl h
    · right
      intro x hx
      obtain ⟨i, hi, rfl⟩ := List.getElem_of_mem hx
      exact (g i (by omega) hi).2.resolve_left h
  · intro g j _ hj
    refine ⟨fun h0 => ?_, g.below.imp_right fun h => h _ (List.getElem_mem hj)⟩
    rw [rd_nat' l (j - 1) (by omega)]
    exact List.pairwise_iff_getElem.1 g.inc (j - 1) j (by omega) hj (by omega)
theorem vchk_val (lim : Int) (l : List Int) : vchk lim l = if 8192 < l.length then 3 else vchk lim l := by
  by_cases h : 8192 < l.length
  · rw [if_pos h]
    unfold vchk
    rw [if_pos h]
  · rw [if_neg h]
theorem vchk_bad {lim : Int} {l : List Int} (h : l.length ≤ 8192) (h2 : ¬ vchk lim l = 0) : vchk lim l = 2 := by
  unfold vchk at h2 ⊢
  rw [if_neg (by omega)] at h2 ⊢
  split
  · next g => rw [if_pos g] at h2; exact absurd rfl h2
  · rfl
theorem rchk_loop {l : List Int} (lim : Int) (hl : l.length ≤ 8192) : ∀ (d i : Nat), i + d = l.length →
    (fromOk lim l i → Ev (fun k => tallymanref17_Check.l0 k (i : Int) lim l) 0) ∧ (¬ fromOk lim l i → Ev (fun k => tallymanref17_Check.l0 k (i : Int) lim l) 2) := by
  intro d
  induction d with
  | zero =>
    intro i h
    refine ⟨fun _ => Ev.step (f := fun _ => some 0) (fun k => ?_) (Ev.now _), fun g => absurd (fun j h1 h2 => by omega) g⟩
    simp only [tallymanref17_Check.l0]
    rw [if_neg (by omega)]
  | succ d ih =>
    intro i h
    have hi : i < l.length := by omega
    have hr : rd l (i : Int) = l[i] := rd_nat' l i hi
    have hw := cz1 i (by omega)
    obtain ⟨ih1, ih2⟩ := ih (i + 1) (by omega)
    rw [fromOk_step hi]
    have one : ∀ k, tallymanref17_Check.l0 (k + 1) (i : Int) lim l = if (0 < i ∧ l[i] ≤ rd l ((i - 1 : Nat) : Int)) ∨ (¬ lim = 0 ∧ lim ≤ l[i]) then some 2 else tallymanref17_Check.l0 k ((i + 1 : Nat) : Int) lim l := by
      intro k
      simp only [tallymanref17_Check.l0]
      rw [if_pos (by omega), hw, hr]
      by_cases h0 : 0 < i
      · rw [if_pos (by omega), if_pos (by omega), czm i h0 (by omega), if_pos (by omega), if_pos (by omega)]
        by_cases c : l[i] ≤ rd l ((i - 1 : Nat) : Int)
        · rw [if_pos c, if_pos (.inl ⟨h0, c⟩)]
        · rw [if_neg c]
          by_cases c2 : lim = 0
          · rw [if_pos c2, if_neg (by omega)]
          · rw [if_neg c2]
            by_cases c3 : l[i] ≥ lim
            · rw [if_pos c3, if_pos (.inr ⟨c2, c3⟩)]
            · rw [if_neg c3, if_neg (by omega)]
      · rw [if_neg (by omega)]
        by_cases c2 : lim = 0
        · rw [if_pos c2, if_neg (by omega)]
        · rw [if_neg c2, if_pos (by omega)]
          by_cases c3 : l[i] ≥ lim
          · rw [if_pos c3, if_pos (.inr ⟨c2, c3⟩)]
          · rw [if_neg c3, if_neg (by omega)]
    by_cases hc : (0 < i ∧ l[i] ≤ rd l ((i - 1 : Nat) : Int)) ∨ (¬ lim = 0 ∧ lim ≤ l[i])
    · refine ⟨fun g => ?_, fun _ => Ev.step (f := fun _ => some 2) (fun k => by rw [one, if_pos hc]) (Ev.now _)⟩
      exfalso
      rcases hc with ⟨h0, c⟩ | ⟨h0, c⟩
      · have := g.1.1 h0; omega
      · have := g.1.2; omega
    · have hg : (0 < i → rd l ((i - 1 : Nat) : Int) < l[i]) ∧ (lim = 0 ∨ l[i] < lim) := ⟨fun h0 => by omega, by omega⟩
      exact ⟨fun g => Ev.step (fun k => by rw [one, if_neg hc]) (ih1 g.2), fun g => Ev.step (fun k => by rw [one, if_neg hc]) (ih2 fun h => g ⟨hg, h⟩)⟩
theorem rchk (lim : Int) (l : List Int) : Ev (fun k => tallymanref17_Check.f k lim l) (vchk lim l) := by
  unfold tallymanref17_Check.f
  by_cases h : 8192 < l.length
  · rw [vchk_val, if_pos h]
    exact Ev.congr (f := fun _ => some 3) (fun k => by rw [if_pos (by omega)]) (Ev.now _)
  · refine Ev.congr (f := fun k => tallymanref17_Check.l0 k ((0 : Nat) : Int) lim l) (fun k => by rw [if_neg (by omega)]; rfl) ?_
    obtain ⟨h1, h2⟩ := rchk_loop lim (by omega : l.length ≤ 8192) l.length 0 (by omega)
    rw [fromOk_zero (by omega), ← vchk_ok] at h1 h2
    by_cases c : vchk lim l = 0
    · rw [c]; exact h1 c
    · rw [vchk_bad (by omega) c]; exact h2 c
theorem rleast (a b : Int) : tallymanref17_least.f a b = some (limS a b) := by
  unfold tallymanref17_least.f limS
  split
  · rfl
  · split
    · rfl
    · split <;> rfl
theorem rbelow_loop {l : List Int} (x L y : Int) (hl : l.length ≤ 1000000) : ∀ (d i : Nat) (out : List Int), i + d = l.length → out.length ≤ i →
    Ev (fun k => tallymanref17_below.l0 k x (i : Int) L l y out) (y, out ++ (l.drop i).filter fun h => decide (x = 0 ∨ h < x)) := by
  intro d
  induction d with
  | zero =>
    intro i out h ho
    rw [List.drop_of_length_le (by omega), List.filter_nil, List.append_nil]
    refine Ev.step (f := fun _ => some (y, out)) (fun k => ?_) (Ev.now _)
    simp only [tallymanref17_below.l0]
    rw [if_neg (by omega)]
  | succ d ih =>
    intro i out h ho
    have hi : i < l.length := by omega
    have hr : rd l (i : Int) = l[i] := rd_nat' l i hi
    have hw := cz1 i (by omega)
    rw [List.drop_eq_getElem_cons hi]
    by_cases c : x = 0 ∨ l[i] < x
    · rw [List.filter_cons_of_pos (by simpa using c)]
      have := ih (i + 1) (out ++ [l[i]]) (by omega) (by simp; omega)
      rw [List.append_assoc, List.singleton_append] at this
      refine Ev.step (f := fun k => tallymanref17_below.l0 k x ((i + 1 : Nat) : Int) L l y (out ++ [l[i]])) (fun k => ?_) this
      simp only [tallymanref17_below.l0]
      rw [if_pos (by omega), hr, hw]
      by_cases c1 : x = 0
      · rw [if_pos c1, if_pos (by omega), if_pos (by omega)]
      · rw [if_neg c1, if_pos (by omega), if_pos (c.resolve_left c1), if_pos (by omega)]
    · rw [List.filter_cons_of_neg (by simpa using c)]
      refine Ev.step (f := fun k => tallymanref17_below.l0 k x ((i + 1 : Nat) : Int) L l y out) (fun k => ?_) (ih (i + 1) out (by omega) (by omega))
      simp only [tallymanref17_below.l0]
      rw [if_pos (by omega), hr, hw, if_neg (fun e => c (.inl e)), if_pos (by omega), if_neg (fun e => c (.inr e))]
theorem filter_below {l : List Int} (h : l.Pairwise (· < ·)) (x : Int) : (l.filter fun y => decide (x = 0 ∨ y < x)) = belowS l x := by
  refine inc_ext (h.filter _) (below_inc h x) (fun y => ?_)
  rw [List.mem_filter, below_mem h]
  simp
theorem rbelow (L x : Int) {l : List Int} (h : l.Pairwise (· < ·)) (hl : l.length ≤ 1000000) : Ev (fun k => tallymanref17_below.f k L l x) (x, belowS l x) := by
  have := rbelow_loop x L x hl l.length 0 [] (by omega) (by simp)
  rw [List.drop_zero, List.nil_append, filter_below h] at this
  exact this
theorem rcut (L x : Int) (l : List Int) : Ev (fun k => tallymanref17_Cut.f k L l x) (cutS L l x) := by
  unfold tallymanref17_Cut.f cutS
  by_cases c : vchk L l = 0
  · have o := vchk_ok.1 c
    have hb := rbelow L x o.inc (by have := o.len; omega)
    have hc := rchk L l
    rw [c] at hc
    refine Ev.bind hc ?_
    rw [if_pos c]
    have jt : Ev (fun k => tallymanref17_Cut.j0 k x 0 true L l) (0, [], 2) := by
      refine Ev.step (f := fun _ => some (0, [], 2)) (fun k => ?_) (Ev.now _)
      simp only [tallymanref17_Cut.j0]
      rw [if_pos trivial, if_neg (by decide)]
    have jf : Ev (fun k => tallymanref17_Cut.j0 k x 0 false L l) (x, belowS l x, 0) := by
      refine Ev.step (f := fun k => (tallymanref17_below.f k L l x).bind fun bt360 => (some (bt360.1, bt360.2, 0))) (fun k => ?_) (Ev.bind hb (Ev.now _))
      simp only [tallymanref17_Cut.j0]
      rw [if_neg (by decide), if_pos trivial]
    by_cases h0 : x = 0
    · rw [if_pos (.inl h0)]
      exact Ev.congr (fun k => by rw [if_pos rfl, if_pos h0]) jt
    · by_cases h1 : L = 0
      · rw [if_neg (by omega)]
        exact Ev.congr (fun k => by rw [if_pos rfl, if_neg h0, if_pos h1]) jf
      · by_cases h2 : x > L
        · rw [if_pos (.inr ⟨h1, h2⟩)]
          exact Ev.congr (fun k => by rw [if_pos rfl, if_neg h0, if_neg h1, decide_eq_true h2]) jt
        · rw [if_neg (by omega)]
          exact Ev.congr (fun k => by rw [if_pos rfl, if_neg h0, if_neg h1, decide_eq_false h2]) jf
  · rw [if_neg c]
    refine Ev.bind (rchk L l) (Ev.congr (f := fun k => tallymanref17_Cut.j0 k x (vchk L l) false L l) (fun k => by rw [if_neg c]) ?_)
    refine Ev.step (f := fun _ => some (0, [], vchk L l)) (fun k => ?_) (Ev.now _)
    simp only [tallymanref17_Cut.j0]
    rw [if_neg (by decide), if_neg c]
/-! ### of -/
def ofEnd (L : Int) (o : List Int) : Int × List Int × Int := if 8192 < o.length then (0, [], 3) else (L, o, 0)
theorem rof_loop (how la lb L : Int) {x y : List Int} (hx : x.length ≤ 1000000) (hy : y.length ≤ 1000000) : ∀ (d i j : Nat) (out : List Int), i ≤ x.length → j ≤ y.length → x.length + y.length - i - j ≤ d → out.length ≤ i + j →
    Ev (fun k => tallymanref17_of.l0 k how (i : Int) (j : Int) la x lb y L out) (ofEnd L (out ++ ((pairsS (x.drop i) (y.drop j)).filter fun z => keepR how z.2.1 z.2.2).map (·.1))) := by
  intro d
  induction d with
  | zero =>
    intro i j out hi hj hd ho
    rw [List.drop_of_length_le (by omega), List.drop_of_length_le (by omega), pairsS, List.filter_nil, List.map_nil, List.append_nil]
    refine Ev.step (f := fun _ => some (ofEnd L out)) (fun k => ?_) (Ev.now _)
    simp only [tallymanref17_of.l0]
    rw [if_pos ⟨by omega, by omega, by omega, by omega, hx, hy, by omega⟩, if_neg (by omega), if_neg (by omega)]
    unfold ofEnd
    split <;> rfl
  | succ d ih =>
    intro i j out hi hj hd ho
    have w1 := cz1 i (by omega)
    have w2 := cz1 j (by omega)
    have hk : ∀ (p q : Bool) (h : Int) (r : List P3), kpR how p q out h ++ (r.filter fun z => keepR how z.2.1 z.2.2).map (·.1) = out ++ (((h, p, q) :: r).filter fun z => keepR how z.2.1 z.2.2).map (·.1) := by
      intro p q h r
      unfold kpR
      rw [List.filter_cons]
      by_cases c : keepR how p q = true
      · rw [if_pos c, if_pos c]; simp
      · rw [if_neg c, if_neg c]
    have hl : ∀ (p q : Bool) (h : Int), (kpR how p q out h).length ≤ out.length + 1 := by
      intro p q h
      unfold kpR
      split
      · simp
      · omega
    by_cases c1 : i < x.length
    · have r1 : rd x (i : Int) = x[i] := rd_nat' x i c1
      have d1 := List.drop_eq_getElem_cons c1
      by_cases c2 : j < y.length
      · have r2 : rd y (j : Int) = y[j] := rd_nat' y j c2
        have d2 := List.drop_eq_getElem_cons c2
        by_cases c3 : x[i] < y[j]
        · have := ih (i + 1) j (kpR how true false out x[i]) (by omega) (by omega) (by omega) (by have := hl true false x[i]; omega)
          rw [hk] at this
          rw [d1, d2, pairsS, if_pos c3, ← d2]
          refine Ev.step (f := fun k => tallymanref17_of.l0 k how ((i + 1 : Nat) : Int) (j : Int) la x lb y L (kpR how true false out x[i])) (fun k => ?_) this
          simp only [tallymanref17_of.l0]
          rw [if_pos ⟨by omega, by omega, by omega, by omega, hx, hy, by omega⟩, if_pos (by omega), if_pos (by omega), r1, r2, if_pos c3, w1]
        · by_cases c4 : y[j] < x[i]
          · have := ih i (j + 1) (kpR how false true out y[j]) (by omega) (by omega) (by omega) (by have := hl false true y[j]; omega)
            rw [hk] at this
            rw [d1, d2, pairsS, if_neg c3, if_pos c4, ← d1]
            refine Ev.step (f := fun k => tallymanref17_of.l0 k how (i : Int) ((j + 1 : Nat) : Int) la x lb y L (kpR how false true out y[j])) (fun k => ?_) this
            simp only [tallymanref17_of.l0]
            rw [if_pos ⟨by omega, by omega, by omega, by omega, hx, hy, by omega⟩, if_pos (by omega), if_pos (by omega), r1, r2, if_neg c3, if_pos c4, w2]
          · have := ih (i + 1) (j + 1) (kpR how true true out x[i]) (by omega) (by omega) (by omega) (by have := hl true true x[i]; omega)
            rw [hk] at this
            rw [d1, d2, pairsS, if_neg c3, if_neg c4]
            refine Ev.step (f := fun k => tallymanref17_of.l0 k how ((i + 1 : Nat) : Int) ((j + 1 : Nat) : Int) la x lb y L (kpR how true true out x[i])) (fun k => ?_) this
            simp only [tallymanref17_of.l0]
            rw [if_pos ⟨by omega, by omega, by omega, by omega, hx, hy, by omega⟩, if_pos (by omega), if_pos (by omega), r1, r2, if_neg c3, if_neg c4, w1, w2]
      · have := ih (i + 1) j (kpR how true false out x[i]) (by omega) (by omega) (by omega) (by have := hl true false x[i]; omega)
        rw [hk] at this
        have d2 : y.drop j = [] := List.drop_of_length_le (by omega)
        rw [d1, d2, pairsS]
        rw [d2] at this
        refine Ev.step (f := fun k => tallymanref17_of.l0 k how ((i + 1 : Nat) : Int) (j : Int) la x lb y L (kpR how true false out x[i])) (fun k => ?_) this
        simp only [tallymanref17_of.l0]
        rw [if_pos ⟨by omega, by omega, by omega, by omega, hx, hy, by omega⟩, if_pos (by omega), if_neg (by omega), r1, w1]
    · have d1 : x.drop i = [] := List.drop_of_length_le (by omega)
      by_cases c2 : j < y.length
      · have r2 : rd y (j : Int) = y[j] := rd_nat' y j c2
        have d2 := List.drop_eq_getElem_cons c2
        have := ih i (j + 1) (kpR how false true out y[j]) (by omega) (by omega) (by omega) (by have := hl false true y[j]; omega)
        rw [hk] at this
        rw [d1, d2, pairsS]
        rw [d1] at this
        refine Ev.step (f := fun k => tallymanref17_of.l0 k how (i : Int) ((j + 1 : Nat) : Int) la x lb y L (kpR how false true out y[j])) (fun k => ?_) this
        simp only [tallymanref17_of.l0]
        rw [if_pos ⟨by omega, by omega, by omega, by omega, hx, hy, by omega⟩, if_neg (by omega), if_pos (by omega), r2, w2]
      · rw [d1, List.drop_of_length_le (show y.length ≤ j by omega), pairsS, List.filter_nil, List.map_nil, List.append_nil]
        refine Ev.step (f := fun _ => some (ofEnd L out)) (fun k => ?_) (Ev.now _)
        simp only [tallymanref17_of.l0]
        rw [if_pos ⟨by omega, by omega, by omega, by omega, hx, hy, by omega⟩, if_neg (by omega), if_neg (by omega)]
        unfold ofEnd
        split <;> rfl
def tri3 (r : (Int × List Int) × Int) : Int × List Int × Int := (r.1.1, r.1.2, r.2)
theorem rof (how la lb : Int) (a b : List Int) : Ev (fun k => tallymanref17_of.f k la a lb b how) (tri3 (madeS (fun z => keepR how z.2.1 z.2.2) la a lb b)) := by
  unfold tallymanref17_of.f madeS
  have jn : ∀ e : Int, ¬ e = 0 → Ev (fun k => tallymanref17_of.j0 k how e la a lb b) (0, [], e) := fun e he => by
    refine Ev.step (f := fun _ => some (0, [], e)) (fun k => ?_) (Ev.now _)
    simp only [tallymanref17_of.j0]
    rw [if_neg he]
  by_cases c : vchk la a = 0
  · have hc := rchk la a
    rw [c] at hc
    refine Ev.bind hc (Ev.congr (f := fun k => (tallymanref17_Check.f k lb b).bind fun t368 => (tallymanref17_of.j0 k how t368 la a lb b)) (fun k => by rw [if_pos rfl]) ?_)
    rw [if_pos c]
    by_cases c2 : vchk lb b = 0
    · have hc2 := rchk lb b
      rw [c2] at hc2
      refine Ev.bind hc2 ?_
      rw [if_pos c2]
      have o1 := vchk_ok.1 c
      have o2 := vchk_ok.1 c2
      have n1 := o1.len
      have n2 := o2.len
      have b1 := rbelow la (limS la lb) o1.inc (by omega)
      have b2 := rbelow lb (limS la lb) o2.inc (by omega)
      have e1 := below_len a (limS la lb)
      have e2 := below_len b (limS la lb)
      have hl := rof_loop how (limS la lb) (limS la lb) (limS la lb) (x := belowS a (limS la lb)) (y := belowS b (limS la lb)) (by omega) (by omega) ((belowS a (limS la lb)).length + (belowS b (limS la lb)).length) 0 0 [] (by omega) (by omega) (by omega) (by simp)
      rw [List.drop_zero, List.drop_zero, List.nil_append] at hl
      have e : tri3 (if 8192 < (((pairsS (belowS a (limS la lb)) (belowS b (limS la lb))).filter fun z => keepR how z.2.1 z.2.2).map (·.1)).length then ((0, []), 3)
          else ((limS la lb, ((pairsS (belowS a (limS la lb)) (belowS b (limS la lb))).filter fun z => keepR how z.2.1 z.2.2).map (·.1)), 0)) = ofEnd (limS la lb) (((pairsS (belowS a (limS la lb)) (belowS b (limS la lb))).filter fun z => keepR how z.2.1 z.2.2).map (·.1)) := by
        unfold ofEnd tri3
        split <;> rfl
      rw [e]
      refine Ev.step (f := fun k => ((tallymanref17_below.f k la a (limS la lb)).bind fun bt370 => ((tallymanref17_below.f k lb b (limS la lb)).bind fun bt374 => (tallymanref17_of.l0 k how 0 0 bt370.1 bt370.2 bt374.1 bt374.2 (limS la lb) ([] : List Int))))) (fun k => ?_) (Ev.bind b1 (Ev.bind b2 hl))
      simp only [tallymanref17_of.j0]
      rw [if_pos trivial, rleast, Option.bind_some]
    · rw [if_neg c2]
      exact Ev.bind (rchk lb b) (jn _ c2)
  · rw [if_neg c]
    exact Ev.bind (rchk la a) (Ev.congr (fun k => by rw [if_neg c]) (jn _ c))
theorem pairs_some : ∀ (x y : List Int) (t : P3), t ∈ pairsS x y → t.2.1 = true ∨ t.2.2 = true
  | [], [], t, h => by rw [pairsS] at h; cases h
  | a :: x, [], t, h => by
    rw [pairsS] at h
    rcases List.mem_cons.1 h with rfl | h
    · exact .inl rfl
    · exact pairs_some x [] t h
  | [], b :: y, t, h => by
    rw [pairsS] at h
    rcases List.mem_cons.1 h with rfl | h
    · exact .inr rfl
    · exact pairs_some [] y t h
  | a :: x, b :: y, t, h => by
    rw [pairsS] at h
    split at h
    · rcases List.mem_cons.1 h with rfl | h
      · exact .inl rfl
      · exact pairs_some x (b :: y) t h
    · split at h
      · rcases List.mem_cons.1 h with rfl | h
        · exact .inr rfl
        · exact pairs_some (a :: x) y t h
      · rcases List.mem_cons.1 h with rfl | h
        · exact .inl rfl
        · exact pairs_some x y t h
termination_by x y => x.length + y.length
theorem made_congr {p q : P3 → Bool} (h : ∀ t : P3, (t.2.1 = true ∨ t.2.2 = true) → p t = q t) (la lb : Int) (a b : List Int) : madeS p la a lb b = madeS q la a lb b := by
  unfold madeS
  have e : (pairsS (belowS a (limS la lb)) (belowS b (limS la lb))).filter p = (pairsS (belowS a (limS la lb)) (belowS b (limS la lb))).filter q := List.filter_congr fun t ht => h t (pairs_some _ _ t ht)
  rw [e]
theorem keep0 (t : P3) (h : t.2.1 = true ∨ t.2.2 = true) : keepR 0 t.2.1 t.2.2 = pEither t := by
  unfold pEither
  revert h
  cases t.2.1 <;> cases t.2.2 <;> decide
theorem keep1 (t : P3) : keepR 1 t.2.1 t.2.2 = pBoth t := by
  unfold pBoth
  cases t.2.1 <;> cases t.2.2 <;> decide
theorem keep2 (t : P3) : keepR 2 t.2.1 t.2.2 = pLess t := by
  unfold pLess
  cases t.2.1 <;> cases t.2.2 <;> decide
theorem keep3 (t : P3) : keepR 3 t.2.1 t.2.2 = pOne t := by
  unfold pOne
  cases t.2.1 <;> cases t.2.2 <;> decide
end Go.Proofs.Ytpagondojdlknaa.H
