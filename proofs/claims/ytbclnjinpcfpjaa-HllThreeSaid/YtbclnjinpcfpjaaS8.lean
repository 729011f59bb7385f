/- Three counters. -/
import Derived.Test.YtbclnjinpcfpjaaS7
import Derived.Test.YtbclnjinpcfpjaaH9
namespace Go.Proofs.Ytbclnjinpcfpjaa.H
open Go.RowKit Go.Proofs.YtbclnjinpcfpjaaW.PrintWords Go.Proofs.YtbclnjinpcfpjaaW.PrintLast
/-! ### Three counters -/
theorem chk_any (p : Int) (l : List S32) (hl : l.length ≤ 1000000) : ∃ v : Int, Ev (fun k => hll_Check.f k p l) v ∧ (v = 0 → ∃ P : Nat, p = (P : Int) ∧ 4 ≤ P ∧ P ≤ 16 ∧ Vl P l) ∧ ((∃ P : Nat, p = (P : Int) ∧ 4 ≤ P ∧ P ≤ 16 ∧ Vl P l) → v = 0) ∧ (v = 0 ∨ v = 2) := by
  by_cases h : p < 4 ∨ p > 16
  · refine ⟨2, chk_bad p l h, fun h => absurd h (by decide), ?_, .inr rfl⟩
    rintro ⟨P, rfl, h1, h2, _⟩
    omega
  · obtain ⟨P, rfl⟩ : ∃ P : Nat, p = (P : Int) := ⟨p.toNat, by omega⟩
    refine ⟨_, chk_ev P (by omega) (by omega) l hl, fun h => ?_, ?_, ?_⟩
    · refine ⟨P, rfl, by omega, by omega, (okR_val _ _ _).1 ?_⟩
      by_cases c : okR ((2 ^ P : Nat) : Int) (65 - (P : Int)) (-1) l = true
      · exact c
      · rw [if_neg c] at h; exact absurd h (by decide)
    · rintro ⟨Q, hQ, h1, h2, hv⟩
      obtain rfl : P = Q := by omega
      rw [if_pos ((okR_val _ _ _).2 hv)]
    · by_cases c : okR ((2 ^ P : Nat) : Int) (65 - (P : Int)) (-1) l = true
      · rw [if_pos c]; exact .inl rfl
      · rw [if_neg c]; exact .inr rfl
theorem three_loop {P : Nat} (h4 : 4 ≤ P) (hP : P ≤ 16) {a b c x : List S32} (ha : Vl P a) (hb : Vl P b) (hc : Vl P c) (hx : Vl P x) (hk : ∀ k, look x k = mx (mx (look a k) (look b k)) (look c k)) (la : a.length ≤ x.length) (lb : b.length ≤ x.length) (lc : c.length ≤ x.length) (z : Int) :
    ∀ (d i : Nat), i + d = x.length → Ev (fun k => tallymanlaw14_HllThree.l0 k (i : Int) (P : Int) a (P : Int) b (P : Int) c z x) true := by
  have hp := pow_small hP
  have hxl := vl_len hP hx
  have done : ∀ i : Nat, Ev (fun k => tallymanlaw14_HllThree.j3 k (i : Int) false (P : Int) a (P : Int) b (P : Int) c z x) true := fun i => by
    refine Ev.step (f := fun _ => some true) (fun k => ?_) (Ev.now _)
    simp only [tallymanlaw14_HllThree.j3]
    rw [if_neg (by decide), if_pos (by omega), if_pos (by omega), decide_eq_true (by omega)]
  intro d
  induction d with
  | zero =>
    intro i h
    refine Ev.step (f := fun k => tallymanlaw14_HllThree.j3 k (i : Int) false (P : Int) a (P : Int) b (P : Int) c z x) (fun k => ?_) (done i)
    simp only [tallymanlaw14_HllThree.l0]
    rw [if_neg (by omega)]
  | succ d ih =>
    intro i h
    have hi : i < x.length := by omega
    have hm := List.getElem_mem hi
    have hr := hx.2 _ hm
    by_cases h100 : (i : Int) < 100
    · refine Ev.step (f := fun k => tallymanlaw14_HllThree.j3 k (i : Int) true (P : Int) a (P : Int) b (P : Int) c z x) (fun k => ?_) ?_
      · simp only [tallymanlaw14_HllThree.l0]
        rw [if_pos (by omega), decide_eq_true h100]
      refine Ev.step (f := fun k => (hll_Get.f k (P : Int) a x[i].f0).bind fun t400 => ((hll_Get.f k (P : Int) b x[i].f0).bind fun t401 => ((hll_Get.f k (P : Int) c x[i].f0).bind fun t402 => (if x[i].f1 = (mx (mx t400 t401) t402) then (tallymanlaw14_HllThree.l0 k ((i + 1 : Nat) : Int) (P : Int) a (P : Int) b (P : Int) c z x) else (none))))) (fun k => ?_) ?_
      · simp only [tallymanlaw14_HllThree.j3]
        rw [if_pos trivial, if_pos (by omega), if_pos (by omega), rdT x i hi, w6 (x := (i : Int) + 1) (by omega) (by omega)]
        rfl
      · refine Ev.bind (get_ev h4 hP ha _ (by omega)) (Ev.bind (get_ev h4 hP hb _ (by omega)) (Ev.bind (get_ev h4 hP hc _ (by omega)) ?_))
        refine Ev.congr (fun k => by rw [if_pos (by rw [← hk, look_mem hx.1 _ hm])]) (ih (i + 1) (by omega))
    · refine Ev.step (f := fun k => tallymanlaw14_HllThree.j3 k (i : Int) false (P : Int) a (P : Int) b (P : Int) c z x) (fun k => ?_) (done i)
      simp only [tallymanlaw14_HllThree.l0]
      rw [if_pos (by omega), decide_eq_false h100]
theorem three_main {P : Nat} (h4 : 4 ≤ P) (hP : P ≤ 16) {a b c : List S32} (ha : Vl P a) (hb : Vl P b) (hc : Vl P c) :
    Ev (fun k => tallymanlaw14_HllThree.j0 k false (P : Int) a (P : Int) b (P : Int) c) true := by
  have hab : Vl P (mrg a b) := val_mrg ha hb
  have hbc : Vl P (mrg b c) := val_mrg hb hc
  have hca : Vl P (mrg c a) := val_mrg hc ha
  have hx : Vl P (mrg (mrg a b) c) := val_mrg hab hc
  have hy : Vl P (mrg a (mrg b c)) := val_mrg ha hbc
  have hz : Vl P (mrg (mrg c a) b) := val_mrg hca hb
  have h0 : Vl P [] := val_nil _ _
  have rx := rep_mrg hab hc (rep_mrg ha hb (rep_self ha) (rep_self hb)) (rep_self hc)
  have ry := rep_mrg ha hbc (rep_self ha) (rep_mrg hb hc (rep_self hb) (rep_self hc))
  have rz := rep_mrg hca hb (rep_mrg hc ha (rep_self hc) (rep_self ha)) (rep_self hb)
  have exy : mrg a (mrg b c) = mrg (mrg a b) c := rep_eq hy hx ry (rep_iff rx (fun q => by simp only [or_assoc]))
  have exz : mrg (mrg c a) b = mrg (mrg a b) c := rep_eq hz hx rz (rep_iff rx (fun q => by
    constructor
    · rintro ((h | h) | h)
      · exact .inl (.inr h)
      · exact .inr h
      · exact .inl (.inl h)
    · rintro ((h | h) | h)
      · exact .inr h
      · exact .inl (.inl h)
      · exact .inl (.inr h)))
  have lx := vl_len hP hx
  have l1 := len_mrg ha hb
  have l2 := len_mrg hab hc
  refine Ev.step (fun k => by simp only [tallymanlaw14_HllThree.j0]; rw [if_neg (by decide)]) ?_
  refine Ev.bind (merge_ev h4 hP ha hb) ?_
  refine Ev.bind (merge_ev h4 hP hab hc) ?_
  refine Ev.bind (merge_ev h4 hP hb hc) ?_
  refine Ev.bind (merge_ev h4 hP ha hbc) ?_
  refine Ev.bind (merge_ev h4 hP hc ha) ?_
  refine Ev.bind (merge_ev h4 hP hca hb) ?_
  refine Ev.congr (fun k => by rw [new_eq h4 hP, Option.bind_some]) ?_
  refine Ev.bind (merge_ev h4 hP ha h0) ?_
  refine Ev.bind (a := true) (by
    have := same_yes (P : Int) (mrg (mrg a b) c) (by omega)
    refine Ev.congr (fun k => ?_) this
    show hll_Same.f k (P : Int) (mrg (mrg a b) c) (P : Int) (mrg a (mrg b c)) = _
    rw [exy]) ?_
  refine Ev.congr (fun k => by rw [if_pos rfl]) ?_
  refine Ev.bind (a := true) (by
    have := same_yes (P : Int) (mrg (mrg a b) c) (by omega)
    refine Ev.congr (fun k => ?_) this
    show hll_Same.f k (P : Int) (mrg (mrg a b) c) (P : Int) (mrg (mrg c a) b) = _
    rw [exz]) ?_
  refine Ev.congr (fun k => by rw [if_pos rfl, if_pos rfl]) ?_
  refine Ev.bind (a := true) (by
    have := same_yes (P : Int) a (by have := vl_len hP ha; omega)
    refine Ev.congr (fun k => ?_) this
    show hll_Same.f k (P : Int) (mrg a []) (P : Int) a = _
    rw [mrg_nil]) ?_
  refine Ev.step (f := fun k => tallymanlaw14_HllThree.l0 k ((0 : Nat) : Int) (P : Int) a (P : Int) b (P : Int) c (P : Int) (mrg (mrg a b) c)) (fun k => ?_) (three_loop h4 hP ha hb hc hx (fun k => by rw [look_mrg hab hc, look_mrg ha hb]) (by omega) (by omega) (by omega) (P : Int) (mrg (mrg a b) c).length 0 (by omega))
  simp only [tallymanlaw14_HllThree.j1]
  rw [if_neg (by decide)]
  rfl
theorem three_out (p q s : Int) (a b c : List S32) : Ev (fun k => tallymanlaw14_HllThree.j0 k true p a q b s c) true := by
  refine Ev.step (f := fun _ => some true) (fun k => ?_) (Ev.now _)
  simp only [tallymanlaw14_HllThree.j0]
  rw [if_pos trivial]
theorem three_ex (p q s : Int) (a b c : List S32) : ∃ k, tallymanlaw14_HllThree.f k p a q b s c = some true := by
  refine Ev.rounds (g := fun k => tallymanlaw14_HllThree.f k p a q b s c) ?_
  refine Ev.congr (fun k => by unfold tallymanlaw14_HllThree.f; rfl) (Ev.bind lives14_ev ?_)
  refine Ev.congr (fun k => by rw [if_pos rfl]) ?_
  by_cases c1 : (a.length : Int) > 300
  · exact Ev.congr (fun k => by rw [if_pos c1]) (three_out p q s a b c)
  by_cases c2 : (b.length : Int) > 300
  · exact Ev.congr (fun k => by rw [if_neg c1, if_pos c2]) (three_out p q s a b c)
  by_cases c3 : (c.length : Int) > 300
  · exact Ev.congr (fun k => by rw [if_neg c1, if_neg c2, if_pos c3]) (three_out p q s a b c)
  refine Ev.congr (fun k => by rw [if_neg c1, if_neg c2, if_neg c3]) ?_
  obtain ⟨u, hu, hu0, _, _⟩ := chk_any p a (by omega)
  refine Ev.bind hu ?_
  by_cases d1 : u = 0
  case neg => exact Ev.congr (fun k => by rw [if_neg d1]) (three_out p q s a b c)
  refine Ev.congr (fun k => by rw [if_pos d1]) ?_
  obtain ⟨v, hv, hv0, _, _⟩ := chk_any q b (by omega)
  refine Ev.bind hv ?_
  by_cases d2 : v = 0
  case neg => exact Ev.congr (fun k => by rw [if_neg d2]) (three_out p q s a b c)
  refine Ev.congr (fun k => by rw [if_pos d2]) ?_
  obtain ⟨w, hw, hw0, _, _⟩ := chk_any s c (by omega)
  refine Ev.bind hw ?_
  by_cases d3 : w = 0
  case neg => exact Ev.congr (fun k => by rw [if_neg d3]) (three_out p q s a b c)
  refine Ev.congr (fun k => by rw [if_pos d3]) ?_
  by_cases e1 : p = q
  case neg => exact Ev.congr (fun k => by rw [if_neg e1]) (three_out p q s a b c)
  refine Ev.congr (fun k => by rw [if_pos e1]) ?_
  by_cases e2 : p = s
  case neg => exact Ev.congr (fun k => by rw [show (p != s) = true by simp [e2]]) (three_out p q s a b c)
  subst e1 e2
  obtain ⟨P, rfl, h4, hP, ha⟩ := hu0 d1
  obtain ⟨P1, e, _, _, hb⟩ := hv0 d2
  obtain rfl : P = P1 := by omega
  obtain ⟨P2, e, _, _, hc⟩ := hw0 d3
  obtain rfl : P = P2 := by omega
  exact Ev.congr (fun k => by rw [show ((P : Int) != (P : Int)) = false by simp]) (three_main h4 hP ha hb hc)
end Go.Proofs.Ytbclnjinpcfpjaa.H
