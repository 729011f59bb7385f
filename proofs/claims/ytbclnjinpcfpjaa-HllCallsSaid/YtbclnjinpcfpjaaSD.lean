/- All calls. -/
import Derived.Test.YtbclnjinpcfpjaaSC
import Derived.Test.YtbclnjinpcfpjaaHR
namespace Go.Proofs.Ytbclnjinpcfpjaa.H
open Go.RowKit Go.Proofs.YtbclnjinpcfpjaaW.PrintWords Go.Proofs.YtbclnjinpcfpjaaW.PrintLast
set_option linter.unusedVariables false
/-! ### All calls -/
theorem khll_eq {p : Int} {l : List S32} (hn : l.length ≤ 1000000) : Ev (fun k => tallymankit_Hll.f k p l p l) true := khll_yes p l hn
theorem reg_u64 {h : Int} (hh : 0 ≤ h ∧ h < 18446744073709551616) : U64 [h] := fun x hx => by rw [List.mem_singleton.1 hx]; exact hh
/-- What both AddAlls answer. -/
theorem add_both (p : Int) (l : List S32) (hl : l.length ≤ 65536) (hs : List Int) (hu : U64 hs) (hn : hs.length ≤ 1000000) : ∃ (q : Int) (m : List S32) (e : Int), m.length ≤ 65536 ∧ Ev (fun k => hll_AddAll.f k p l hs) (q, m, e) ∧ Ev (fun k => tallymanref14_AddAll.f k p l hs) (q, m, e) := by
  obtain ⟨v, h1, h2, hc⟩ := chk_both p l hl
  rcases hc with ⟨rfl, P, rfl, h4, hP, hv⟩ | rfl
  · have hx := (adds_ok (spls P hs) hv (rep_self hv) (spls_reg h4 hP hu)).1
    exact ⟨_, _, _, vl_len hP hx, addall_ev h4 hP hs hu hn hv, radd_ev h4 hP hs hu hn hv⟩
  · refine ⟨0, [], 2, by simp, ?_, ?_⟩
    · refine Ev.congr (fun k => by unfold hll_AddAll.f; rfl) (Ev.bind h1 (Ev.congr (f := fun _ => some (0, [], 2)) (fun k => by rw [if_neg (by decide)]) (Ev.now _)))
    · refine Ev.congr (fun k => by unfold tallymanref14_AddAll.f; rfl) (Ev.bind h2 (Ev.congr (f := fun _ => some (0, [], 2)) (fun k => by rw [if_neg (by decide)]) (Ev.now _)))
theorem add1_both (p : Int) (l : List S32) (hl : l.length ≤ 65536) (h : Int) (hh : 0 ≤ h ∧ h < 18446744073709551616) : ∃ (q : Int) (m : List S32) (e : Int), m.length ≤ 65536 ∧ Ev (fun k => hll_Add.f k p l h) (q, m, e) ∧ Ev (fun k => tallymanref14_Add.f k p l h) (q, m, e) := by
  obtain ⟨q, m, e, h0, h1, h2⟩ := add_both p l hl [h] (reg_u64 hh) (by simp)
  refine ⟨q, m, e, h0, ?_, ?_⟩
  · exact Ev.congr (fun k => by unfold hll_Add.f; rfl) (Ev.bind h1 (Ev.now _))
  · exact Ev.congr (fun k => by unfold tallymanref14_Add.f; rfl) (Ev.bind h2 (Ev.now _))
theorem get_both (p : Int) (l : List S32) (hl : l.length ≤ 65536) (t : Int) (ht : -9223372036854775808 ≤ t ∧ t ≤ 9223372036854775807) : ∃ v : Int, Ev (fun k => hll_Get.f k p l t) v ∧ Ev (fun k => tallymanref14_Get.f k p l t) v := by
  obtain ⟨v, h1, h2, hc⟩ := chk_both p l hl
  rcases hc with ⟨rfl, P, rfl, h4, hP, hv⟩ | rfl
  · exact ⟨_, get_ev h4 hP hv t ht, rget_ev h4 hP hv t⟩
  · refine ⟨0, ?_, ?_⟩
    · exact Ev.congr (fun k => by unfold hll_Get.f; rfl) (Ev.bind h1 (Ev.congr (f := fun _ => some 0) (fun k => by rw [if_neg (by decide)]) (Ev.now _)))
    · exact Ev.congr (fun k => by unfold tallymanref14_Get.f; rfl) (Ev.bind h2 (Ev.congr (f := fun _ => some 0) (fun k => by rw [if_neg (by decide)]) (Ev.now _)))
theorem zeros_both (p : Int) (l : List S32) (hl : l.length ≤ 65536) : ∃ v : Int, Ev (fun k => hll_Zeros.f k p l) v ∧ Ev (fun k => tallymanref14_Zeros.f k p l) v := by
  obtain ⟨v, h1, h2, hc⟩ := chk_both p l hl
  rcases hc with ⟨rfl, P, rfl, h4, hP, hv⟩ | rfl
  · exact ⟨_, zeros_ev h4 hP hv, rzeros_ev h4 hP hv⟩
  · refine ⟨0, ?_, ?_⟩
    · exact Ev.congr (fun k => by unfold hll_Zeros.f; rfl) (Ev.bind h1 (Ev.congr (f := fun _ => some 0) (fun k => by rw [if_neg (by decide)]) (Ev.now _)))
    · exact Ev.congr (fun k => by unfold tallymanref14_Zeros.f; rfl) (Ev.bind h2 (Ev.congr (f := fun _ => some 0) (fun k => by rw [if_neg (by decide)]) (Ev.now _)))
theorem merge_both (p q : Int) (l m : List S32) (hl : l.length ≤ 65536) (hm : m.length ≤ 65536) : ∃ (s : Int) (n : List S32) (e : Int), n.length ≤ 131072 ∧ Ev (fun k => hll_Merge.f k p l q m) (s, n, e) ∧ Ev (fun k => tallymanref14_Merge.f k p l q m) (s, n, e) := by
  have rout : ∀ p l q m, Ev (fun k => tallymanref14_Merge.j0 k true p l q m) (0, [], 2) := fun p l q m => by
    refine Ev.step (f := fun _ => some (0, [], 2)) (fun k => ?_) (Ev.now _)
    simp only [tallymanref14_Merge.j0]
    rw [if_pos trivial]
  obtain ⟨v, h1, h2, hc⟩ := chk_both p l hl
  rcases hc with ⟨rfl, P, rfl, h4, hP, hv⟩ | rfl
  · obtain ⟨w, g1, g2, hd⟩ := chk_both q m hm
    rcases hd with ⟨rfl, Q, rfl, h4', hQ, hw⟩ | rfl
    · by_cases e : P = Q
      · subst e
        have := len_mrg hv hw
        exact ⟨_, _, _, by omega, merge_ev h4 hP hv hw, rmerge_ev h4 hP hv hw⟩
      · refine ⟨0, [], 2, by simp, ?_, ?_⟩
        · exact Ev.congr (fun k => by unfold hll_Merge.f; rfl) (Ev.bind h1 (Ev.congr (fun k => by rw [if_pos rfl]) (Ev.bind g1 (Ev.congr (f := fun _ => some (0, [], 2)) (fun k => by rw [if_pos rfl, if_neg (by omega)]) (Ev.now _)))))
        · exact Ev.congr (fun k => by unfold tallymanref14_Merge.f; rfl) (Ev.bind h2 (Ev.congr (fun k => by rw [if_pos rfl]) (Ev.bind g2 (Ev.congr (fun k => by rw [if_pos rfl, show ((P : Int) != (Q : Int)) = true by simp only [bne_iff_ne, ne_eq]; omega]) (rout _ _ _ _)))))
    · refine ⟨0, [], 2, by simp, ?_, ?_⟩
      · exact Ev.congr (fun k => by unfold hll_Merge.f; rfl) (Ev.bind h1 (Ev.congr (fun k => by rw [if_pos rfl]) (Ev.bind g1 (Ev.congr (f := fun _ => some (0, [], 2)) (fun k => by rw [if_neg (by decide)]) (Ev.now _)))))
      · exact Ev.congr (fun k => by unfold tallymanref14_Merge.f; rfl) (Ev.bind h2 (Ev.congr (fun k => by rw [if_pos rfl]) (Ev.bind g2 (Ev.congr (fun k => by rw [if_neg (by decide)]) (rout _ _ _ _)))))
  · refine ⟨0, [], 2, by simp, ?_, ?_⟩
    · exact Ev.congr (fun k => by unfold hll_Merge.f; rfl) (Ev.bind h1 (Ev.congr (f := fun _ => some (0, [], 2)) (fun k => by rw [if_neg (by decide)]) (Ev.now _)))
    · exact Ev.congr (fun k => by unfold tallymanref14_Merge.f; rfl) (Ev.bind h2 (Ev.congr (fun k => by rw [if_neg (by decide)]) (rout _ _ _ _)))
theorem fold_both (p q : Int) (l : List S32) (hl : l.length ≤ 65536) : ∃ (s : Int) (n : List S32) (e : Int), n.length ≤ 131072 ∧ Ev (fun k => hll_Fold.f k p l q) (s, n, e) ∧ Ev (fun k => tallymanref14_Fold.f k p l q) (s, n, e) := by
  have out : ∀ p l q, Ev (fun k => hll_Fold.j0 k q true p l) (0, [], 2) := fun p l q => by
    refine Ev.step (f := fun _ => some (0, [], 2)) (fun k => ?_) (Ev.now _)
    simp only [hll_Fold.j0]
    rw [if_pos trivial]
  have rout : ∀ p l q, Ev (fun k => tallymanref14_Fold.j0 k q true p l) (0, [], 2) := fun p l q => by
    refine Ev.step (f := fun _ => some (0, [], 2)) (fun k => ?_) (Ev.now _)
    simp only [tallymanref14_Fold.j0]
    rw [if_pos trivial]
  obtain ⟨v, h1, h2, hc⟩ := chk_both p l hl
  rcases hc with ⟨rfl, P, rfl, h4, hP, hv⟩ | rfl
  · by_cases c : q < 4 ∨ q > (P : Int)
    · refine ⟨0, [], 2, by simp, ?_, ?_⟩
      · refine Ev.congr (fun k => by unfold hll_Fold.f; rfl) (Ev.bind h1 (Ev.congr (fun k => ?_) (out (P : Int) l q)))
        by_cases c1 : q < 4
        · rw [if_pos rfl, if_pos c1]
        · rw [if_pos rfl, if_neg c1, decide_eq_true (by omega)]
      · refine Ev.congr (fun k => by unfold tallymanref14_Fold.f; rfl) (Ev.bind h2 (Ev.congr (fun k => ?_) (rout (P : Int) l q)))
        by_cases c1 : q < 4
        · rw [if_pos rfl, if_pos c1]
        · rw [if_pos rfl, if_neg c1, decide_eq_true (by omega)]
    · obtain ⟨Q, rfl⟩ : ∃ Q : Nat, q = (Q : Int) := ⟨q.toNat, by omega⟩
      have hx := (fold_ok (show 4 ≤ Q by omega) (show Q ≤ P by omega) hP hv (fun x hx => (hv.2 x hx).2.2.1) (rep_self hv)).1
      have := vl_len (show Q ≤ 16 by omega) hx
      exact ⟨_, _, _, by omega, fold_ev (by omega) (by omega) hP hv, rfold_ev (by omega) (by omega) hP hv⟩
  · refine ⟨0, [], 2, by simp, ?_, ?_⟩
    · exact Ev.congr (fun k => by unfold hll_Fold.f; rfl) (Ev.bind h1 (Ev.congr (fun k => by rw [if_neg (by decide)]) (out _ _ _)))
    · exact Ev.congr (fun k => by unfold tallymanref14_Fold.f; rfl) (Ev.bind h2 (Ev.congr (fun k => by rw [if_neg (by decide)]) (rout _ _ _)))
theorem new_both (p : Int) : ∃ (q e : Int), hll_New.f p = some (q, ([] : List S32), e) ∧ tallymanref14_New.f p = some (q, ([] : List S32), e) := by
  by_cases h : p < 4 ∨ p > 16
  · refine ⟨0, 2, ?_, ?_⟩
    · unfold hll_New.f
      by_cases c : p < 4
      · rw [if_pos c]
      · rw [if_neg c, if_pos (by omega)]
    · unfold tallymanref14_New.f
      rw [may_bad h, Option.bind_some, if_neg (by decide)]
  · obtain ⟨P, rfl⟩ : ∃ P : Nat, p = (P : Int) := ⟨p.toNat, by omega⟩
    refine ⟨(P : Int), 0, new_eq (by omega) (by omega), ?_⟩
    unfold tallymanref14_New.f
    rw [may_good (by omega) (by omega), Option.bind_some, if_pos rfl]
theorem split_both (p h : Int) (hh : 0 ≤ h ∧ h < 18446744073709551616) : ∃ (a b e : Int), hll_Split.f p h = some (a, b, e) ∧ Ev (fun k => tallymanref14_Split.f k p h) (a, b, e) := by
  obtain ⟨H, rfl⟩ : ∃ H : Nat, h = (H : Int) := ⟨h.toNat, by omega⟩
  by_cases hb : p < 4 ∨ p > 16
  · refine ⟨0, 0, 2, ?_, Ev.congr (f := fun _ => some (0, 0, 2)) (fun k => ?_) (Ev.now _)⟩
    · unfold hll_Split.f
      by_cases c : p < 4
      · rw [if_pos c]
      · rw [if_neg c, if_pos (by omega)]
    · unfold tallymanref14_Split.f
      rw [may_bad hb, Option.bind_some, if_neg (by decide)]
  · obtain ⟨P, rfl⟩ : ∃ P : Nat, p = (P : Int) := ⟨p.toNat, by omega⟩
    refine ⟨_, _, 0, ?_, rsplit_ev (by omega) (by omega) (by omega)⟩
    unfold hll_Split.f
    rw [if_neg (by omega), if_neg (by omega), split_eq (by omega) (by omega) (by omega), Option.bind_some]
theorem bne_self' (e : Int) : (e != e) = false := by simp
theorem hcalls_loop (p s : Int) (l : List S32) (hl : l.length ≤ 65536) (hs : List Int) (hu : U64 hs) (hn : hs.length ≤ 1000000) : ∀ (d i : Nat), i + d = hs.length →
    Ev (fun k => tallymanlaw14_HllCalls.l0 k hs s (i : Int) p l) true := by
  have done : ∀ i : Nat, Ev (fun k => tallymanlaw14_HllCalls.j5 k hs s (i : Int) false p l) true := fun i => by
    refine Ev.step (f := fun _ => some true) (fun k => ?_) (Ev.now _)
    simp only [tallymanlaw14_HllCalls.j5]
    rw [if_neg (by decide)]
  intro d
  induction d with
  | zero =>
    intro i h
    refine Ev.step (f := fun k => tallymanlaw14_HllCalls.j5 k hs s (i : Int) false p l) (fun k => ?_) (done i)
    simp only [tallymanlaw14_HllCalls.l0]
    rw [if_neg (by omega)]
  | succ d ih =>
    intro i h
    have hi : i < hs.length := by omega
    have hh := hu hs[i] (List.getElem_mem hi)
    by_cases h40 : (i : Int) < 40
    · refine Ev.step (f := fun k => tallymanlaw14_HllCalls.j5 k hs s (i : Int) true p l) (fun k => ?_) ?_
      · simp only [tallymanlaw14_HllCalls.l0]
        rw [if_pos (by omega), decide_eq_true h40]
      obtain ⟨a, b, e, s1, s2⟩ := split_both s hs[i] hh
      obtain ⟨q, m, f, hm, g1, g2⟩ := add1_both p l hl hs[i] hh
      refine Ev.step (fun k => by
        simp only [tallymanlaw14_HllCalls.j5]
        rw [if_pos trivial, if_pos (by omega), if_pos (by omega), rdI hs i hi, s1, Option.bind_some, w6 (x := (i : Int) + 1) (by omega) (by omega)]) ?_
      refine Ev.bind s2 (Ev.bind g1 (Ev.bind g2 ?_))
      refine Ev.congr (fun k => by rw [if_pos rfl, if_pos rfl, if_pos rfl]) (Ev.bind (khll_yes q m (by omega)) ?_)
      refine Ev.congr (f := fun k => tallymanlaw14_HllCalls.l0 k hs s ((i + 1 : Nat) : Int) p l) (fun k => by rw [if_pos rfl, if_pos rfl]; rfl) (ih (i + 1) (by omega))
    · refine Ev.step (f := fun k => tallymanlaw14_HllCalls.j5 k hs s (i : Int) false p l) (fun k => ?_) (done i)
      simp only [tallymanlaw14_HllCalls.l0]
      rw [if_pos (by omega), decide_eq_false h40]
theorem hcalls_ex (p q s t : Int) (l m : List S32) (hs : List Int) (hu : U64 hs) (ht : -9223372036854775808 ≤ t ∧ t ≤ 9223372036854775807) : ∃ k, tallymanlaw14_HllCalls.f k p l q m hs s t = some true := by
  refine Ev.rounds (g := fun k => tallymanlaw14_HllCalls.f k p l q m hs s t) ?_
  have out : Ev (fun k => tallymanlaw14_HllCalls.j0 k hs s t true p l q m) true := by
    refine Ev.step (f := fun _ => some true) (fun k => ?_) (Ev.now _)
    simp only [tallymanlaw14_HllCalls.j0]
    rw [if_pos trivial]
  refine Ev.congr (fun k => by unfold tallymanlaw14_HllCalls.f; rfl) (Ev.bind lives14_ev ?_)
  refine Ev.congr (fun k => by rw [if_pos rfl]) ?_
  by_cases c1 : (l.length : Int) > 300
  · exact Ev.congr (fun k => by rw [if_pos c1]) out
  by_cases c2 : (m.length : Int) > 300
  · exact Ev.congr (fun k => by rw [if_neg c1, if_pos c2]) out
  by_cases c3 : (hs.length : Int) > 300
  · exact Ev.congr (fun k => by rw [if_neg c1, if_neg c2, decide_eq_true c3]) out
  refine Ev.congr (f := fun k => tallymanlaw14_HllCalls.j0 k hs s t false p l q m) (fun k => by rw [if_neg c1, if_neg c2, decide_eq_false c3]) ?_
  have hl : l.length ≤ 65536 := by omega
  have hm : m.length ≤ 65536 := by omega
  have hn : hs.length ≤ 1000000 := by omega
  clear c1 c2 c3 out
  obtain ⟨a1, a2, a3, al, f1, r1⟩ := add_both p l hl hs hu hn
  obtain ⟨cv, f2, r2, _⟩ := chk_both p l hl
  obtain ⟨gv, f3, r3⟩ := get_both p l hl t ht
  obtain ⟨zv, f4, r4⟩ := zeros_both p l hl
  obtain ⟨b1, hb1, f5⟩ := same_any p q l m (by omega)
  obtain ⟨b2, hb2, r5⟩ := khll_any p q l m (by omega)
  obtain ⟨m1, m2, m3, ml, f6, r6⟩ := merge_both p q l m hl hm
  obtain ⟨d1, d2, d3, dl, f7, r7⟩ := fold_both p s l hl
  obtain ⟨n1, n2, f8, r8⟩ := new_both s
  have hb : b1 = b2 := by
    cases b1 <;> cases b2 <;> first | rfl | (exfalso; have := hb1.1; have := hb2.2; simp_all) | (exfalso; have := hb2.1; have := hb1.2; simp_all)
  subst hb
  refine Ev.step (fun k => by simp only [tallymanlaw14_HllCalls.j0]; rw [if_neg (by decide)]) ?_
  refine Ev.bind f1 (Ev.bind r1 (Ev.bind (khll_yes a1 a2 (by omega)) ?_))
  refine Ev.congr (fun k => by rw [if_pos rfl, if_pos rfl]) (Ev.bind f2 (Ev.bind r2 ?_))
  refine Ev.congr (fun k => by rw [if_pos rfl]) (Ev.bind f3 (Ev.bind r3 ?_))
  refine Ev.congr (fun k => by rw [if_pos rfl]) (Ev.bind f4 (Ev.bind r4 ?_))
  refine Ev.congr (fun k => by rw [if_pos rfl]) (Ev.bind f5 (Ev.bind r5 ?_))
  refine Ev.congr (f := fun k => tallymanlaw14_HllCalls.j1 k hs s false p l q m) (fun k => by rw [show (b1 != b1) = false by simp]) ?_
  refine Ev.step (fun k => by simp only [tallymanlaw14_HllCalls.j1]; rw [if_neg (by decide)]) ?_
  refine Ev.bind f6 (Ev.bind r6 (Ev.bind f7 (Ev.bind r7 (Ev.bind (khll_yes m1 m2 (by omega)) ?_))))
  refine Ev.congr (fun k => by rw [if_pos rfl, if_pos rfl]) (Ev.bind (khll_yes d1 d2 (by omega)) ?_)
  refine Ev.congr (f := fun k => tallymanlaw14_HllCalls.j2 k hs s false p l) (fun k => by rw [if_pos rfl, bne_self']) ?_
  refine Ev.step (fun k => by simp only [tallymanlaw14_HllCalls.j2]; rw [if_neg (by decide), f8, Option.bind_some, r8, Option.bind_some]) ?_
  refine Ev.bind (khll_yes n1 [] (by simp)) ?_
  refine Ev.congr (f := fun k => tallymanlaw14_HllCalls.j3 k hs s false p l) (fun k => by rw [if_pos rfl, bne_self']) ?_
  refine Ev.step (f := fun k => tallymanlaw14_HllCalls.l0 k hs s ((0 : Nat) : Int) p l) (fun k => ?_) (hcalls_loop p s l hl hs hu hn hs.length 0 (by omega))
  simp only [tallymanlaw14_HllCalls.j3]
  rw [if_neg (by decide)]
  rfl
end Go.Proofs.Ytbclnjinpcfpjaa.H
