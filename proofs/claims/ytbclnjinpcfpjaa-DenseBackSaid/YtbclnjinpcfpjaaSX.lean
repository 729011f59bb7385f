/- law -/
import Derived.Test.YtbclnjinpcfpjaaSW
import Derived.Test.YtbclnjinpcfpjaaH10
namespace Go.Proofs.Ytbclnjinpcfpjaa.H
open Go.RowKit Go.Proofs.YtbclnjinpcfpjaaW.PrintWords Go.Proofs.YtbclnjinpcfpjaaW.PrintLast
theorem own_eq (b : List Int) (h : b.length < 140737488355328) : tallymankit_Own.f b = some b := by
  unfold tallymankit_Own.f
  simp only [Option.bind_some, List.length_nil, Nat.zero_add, List.nil_append]
  rw [if_pos h]
set_option linter.unusedVariables false
set_option linter.unusedSimpArgs false
set_option linter.unusedSectionVars false
/-! ### The law -/
theorem reg_ext' {a b : S32} (h0 : a.f0 = b.f0) (h1 : a.f1 = b.f1) : a = b := by cases a; cases b; simp_all
theorem khll_same (p : Int) (l : List S32) (hn : l.length ≤ 1000000) : Ev (fun k => tallymankit_Hll.f k p l p l) true := by
  have loop : ∀ d i : Nat, i + d = l.length → Ev (fun k => tallymankit_Hll.l0 k (i : Int) p l p l) true := by
    intro d
    induction d with
    | zero =>
      intro i h
      refine Ev.step (f := fun _ => some true) (fun k => ?_) (Ev.now _)
      simp only [tallymankit_Hll.l0]
      rw [if_neg (by omega)]
    | succ d ih =>
      intro i h
      refine Ev.step (fun k => ?_) (ih (i + 1) (by omega))
      simp only [tallymankit_Hll.l0]
      rw [if_pos (by omega), if_pos (by omega), if_pos (by omega), if_neg (by simp), w64 (x := (i : Int) + 1) (by omega) (by omega)]
      rfl
  refine Ev.step (f := fun k => tallymankit_Hll.l0 k ((0 : Nat) : Int) p l p l) (fun k => ?_) (loop l.length 0 (by omega))
  unfold tallymankit_Hll.f
  rw [if_pos rfl, show ((l.length : Int) != (l.length : Int)) = false by simp]
  simp only [tallymankit_Hll.j0]
  rw [if_neg (by decide)]
  rfl
theorem ints_same (l : List Int) (hn : l.length ≤ 1000000) : Ev (fun k => tallymankit_Ints.f k l l) true := by
  have loop : ∀ d i : Nat, i + d = l.length → Ev (fun k => tallymankit_Ints.l0 k l l (i : Int)) true := by
    intro d
    induction d with
    | zero =>
      intro i h
      refine Ev.step (f := fun _ => some true) (fun k => ?_) (Ev.now _)
      simp only [tallymankit_Ints.l0]
      rw [if_neg (by omega)]
    | succ d ih =>
      intro i h
      refine Ev.step (fun k => ?_) (ih (i + 1) (by omega))
      simp only [tallymankit_Ints.l0]
      rw [if_pos (by omega), if_pos (by omega), if_pos (by omega), if_pos trivial, w64 (x := (i : Int) + 1) (by omega) (by omega)]
      rfl
  refine Ev.congr (f := fun k => tallymankit_Ints.l0 k l l ((0 : Nat) : Int)) (fun k => ?_) (loop l.length 0 (by omega))
  unfold tallymankit_Ints.f
  rw [if_pos rfl]
  rfl
theorem str_eq {a b : List Int} (ha : a.all isByte = true) (hb : b.all isByte = true) (h : (strOfNums a).toList = (strOfNums b).toList) : a = b := by
  refine str_inj a b ha hb ?_
  have e : ∀ x : List Int, (strOfNums x).toList = x.map (fun n => UInt8.ofNat n.toNat) := fun x => by
    rw [Go.Lib.toList_data]; rfl
  rw [← e a, ← e b, h]
theorem read_bad {P : Nat} (h4 : 4 ≤ P) (hP : P ≤ 12) {l : List S32} (hl : l.length ≤ 65536) (h : regsOk P (-1) l = true) :
    (∃ r, Ev (fun k => dense_Read.f k ((bytesB P l).take ((bytesB P l).length - 1))) r ∧ r.2.2 = 4) ∧ (∃ r, Ev (fun k => dense_Read.f k (bytesB P l ++ [0])) r ∧ r.2.2 = 4) := by
  have hall := bytesB_all h4 (by omega) h
  obtain ⟨hlo, hhi⟩ := bytesB_len h4 hP h
  constructor
  · have ha : ((bytesB P l).take ((bytesB P l).length - 1)).all isByte = true := by
      rw [List.all_eq_true] at hall ⊢
      exact fun x hx => hall x (List.mem_of_mem_take hx)
    obtain ⟨r, h1, h2⟩ := read_any _ ha (by rw [List.length_take]; omega)
    refine ⟨r, h1, ?_⟩
    rcases h2 with h2 | ⟨_, g1, Q, _, g4, gQ, gok, gs⟩
    · exact h2
    · have e := str_eq (bytesB_all g4 gQ gok) ha gs
      have hne : bytesB P l ≠ [] := fun c => by rw [c] at hlo; simp at hlo
      refine absurd ?_ (no_ext g4 gQ h4 (by omega) g1 hl gok h ((bytesB P l).getLast hne))
      rw [e, ← List.dropLast_eq_take]
      exact List.dropLast_concat_getLast hne
  · have ha : (bytesB P l ++ [0]).all isByte = true := by
      rw [List.all_append, hall]; rfl
    obtain ⟨r, h1, h2⟩ := read_any _ ha (by rw [List.length_append]; simp; omega)
    refine ⟨r, h1, ?_⟩
    rcases h2 with h2 | ⟨_, g1, Q, _, g4, gQ, gok, gs⟩
    · exact h2
    · have e := str_eq (bytesB_all g4 gQ gok) ha gs
      exact absurd e.symm (no_ext h4 (by omega) g4 gQ hl g1 h gok 0)
theorem back_j3 {P : Nat} (h4 : 4 ≤ P) (hP : P ≤ 12) {l : List S32} (hl : l.length ≤ 65536) (h : regsOk P (-1) l = true) : Ev (fun k => tallymanlaw15_DenseBack.j3 k (bytesB P l) (bytesB P l) (P : Int) l) true := by
  obtain ⟨hlo, hhi⟩ := bytesB_len h4 hP h
  obtain ⟨⟨r1, e1, f1⟩, r2, e2, f2⟩ := read_bad h4 hP hl h
  have hw : wrap64 (((bytesB P l).length : Int) - 1) = (((bytesB P l).length - 1 : Nat) : Int) := by rw [w64 (by omega) (by omega)]; omega
  have e0 := read_enc h4 hP hl h
  have ek := khll_same (P : Int) l (by omega)
  have ho := own_eq (bytesB P l) (by omega)
  refine Ev.step (fun k => ?_) (Ev.bind (f := fun k bt369 => (dense_Read.f k ((bytesB P l).take ((bytesB P l).length - 1))).bind fun bt378 => (dense_Read.f k (bytesB P l ++ [0])).bind fun bt390 => if bt369.2.2 = 0 then ((tallymankit_Hll.f k bt369.1 bt369.2.1 (P : Int) l).bind fun t396 => (if t396 = true then (if bt378.2.2 = 4 then (some (bt390.2.2 == 4)) else (none)) else (none))) else (none)) e0 (Ev.bind e1 (Ev.bind e2 ?_)))
  · simp only [tallymanlaw15_DenseBack.j3]
    rw [ho, Option.bind_some, hw]
    have a1 : (0 : Int) ≤ (((bytesB P l).length - 1 : Nat) : Int) := Int.natCast_nonneg _
    have a2 : (((bytesB P l).length - 1 : Nat) : Int) ≤ ((bytesB P l).length : Int) := by omega
    have a3 : (bytesB P l).length < 140737488355328 := by omega
    simp only [Option.bind_some, a1, a2, a3, if_true, Int.toNat_natCast]
  · refine Ev.congr (fun k => ?_) (Ev.bind (f := fun k t396 => (if t396 = true then (if r1.2.2 = 4 then (some (r2.2.2 == 4)) else (none)) else (none))) ek (Ev.congr (fun k => ?_) (Ev.now true)))
    · rw [if_pos rfl]
    · rw [if_pos rfl, if_pos f1, f2]
      rfl
theorem back_j2 (p : Int) (hp : p ≤ 12) (l : List S32) (hl : l.length ≤ 300) : Ev (fun k => tallymanlaw15_DenseBack.j2 k false p l) true := by
  obtain ⟨x, e, he, hc⟩ := bytes_any p l (by omega)
  rcases hc with ⟨rfl, P, rfl, h4, hP, hv, rfl⟩ | ⟨rfl, v, hv, rfl⟩
  · have hs := sparse_ev P h4 hP l (by omega) hv
    have hd := dense_ev P h4 hP l (by omega) hv
    have h3 := back_j3 h4 (by omega) (l := l) (by omega) hv
    refine Ev.step (fun k => ?_) (Ev.bind (f := fun k bt353 => (if bt353.2 = 0 then ((dense_Sparse.f k (P : Int) l).bind fun bt358 => ((dense_Dense.f k (P : Int) l).bind fun bt362 => (if (bt362.1.length : Int) ≤ (bt358.1.length : Int) then (tallymanlaw15_DenseBack.j3 k bt353.1 bt362.1 (P : Int) l) else (tallymanlaw15_DenseBack.j3 k bt353.1 bt358.1 (P : Int) l)))) else ((tallymanref14_Check.f k (P : Int) l).bind fun t357 => (some (t357 != 0))))) he ?_)
    · simp only [tallymanlaw15_DenseBack.j2]
      rw [if_neg (by decide)]
    · refine Ev.congr (fun k => by rw [if_pos rfl]) (Ev.bind hs (Ev.bind hd ?_))
      refine Ev.congr (fun k => ?_) h3
      by_cases c : (sparseB P l).length < (denseB P l).length
      · rw [if_neg (show ¬ (((denseB P l).length : Int) ≤ ((sparseB P l).length : Int)) by omega)]
        have e : bytesB P l = sparseB P l := by unfold bytesB; rw [if_pos c]
        rw [e]
      · rw [if_pos (show (((denseB P l).length : Int) ≤ ((sparseB P l).length : Int)) by omega)]
        have e : bytesB P l = denseB P l := by unfold bytesB; rw [if_neg c]
        rw [e]
  · refine Ev.step (fun k => ?_) (Ev.bind (f := fun k bt353 => (if bt353.2 = 0 then ((dense_Sparse.f k p l).bind fun bt358 => ((dense_Dense.f k p l).bind fun bt362 => (if (bt362.1.length : Int) ≤ (bt358.1.length : Int) then (tallymanlaw15_DenseBack.j3 k bt353.1 bt362.1 p l) else (tallymanlaw15_DenseBack.j3 k bt353.1 bt358.1 p l)))) else ((tallymanref14_Check.f k p l).bind fun t357 => (some (t357 != 0))))) he ?_)
    · simp only [tallymanlaw15_DenseBack.j2]
      rw [if_neg (by decide)]
    · exact Ev.congr (fun k => by rw [if_neg (show ¬ (2 : Int) = 0 by decide)]) (Ev.bind hv (Ev.now _))
theorem back_j1 (p : Int) (hp : p ≤ 12) (l : List S32) (hl : l.length ≤ 300) (n : List Int) (hn : n.length ≤ 2000) : Ev (fun k => tallymanlaw15_DenseBack.j1 k n p l) true := by
  obtain ⟨x, e, he, hc⟩ := pack_any n (by omega)
  have h2 := back_j2 p hp l hl
  refine Ev.step (fun k => ?_) (Ev.bind (f := fun k bt345 => (if bt345.2 = 0 then ((dense_Unpack.f k bt345.1).bind fun t349 => ((tallymankit_Ints.f k t349 n).bind fun t352 => (tallymanlaw15_DenseBack.j2 k (!t352) p l))) else (tallymanlaw15_DenseBack.j2 k false p l))) he ?_)
  · simp only [tallymanlaw15_DenseBack.j1]
    rw [Option.bind_some, List.nil_append, if_pos (by simp; omega)]
  · rcases hc with rfl | ⟨rfl, m, t, rfl, ht, h64, rfl⟩
    · exact Ev.congr (fun k => by rw [if_neg (show ¬ (2 : Int) = 0 by decide)]) h2
    · have hlen : t.length ≤ 2000 := by simpa [asInt] using hn
      have hu := unpack_ev (packN t) (by
        have := packB_len m t ht
        rw [packB_N m t ht] at this
        simp [asInt] at this
        omega) (packN_lt m t ht)
      rw [unpack_packN m t ht h64, ← packB_N m t ht] at hu
      refine Ev.congr (fun k => by rw [if_pos rfl]) (Ev.bind hu (Ev.bind (ints_same (asInt t) (by simp [asInt]; omega)) ?_))
      exact h2
theorem back_j0 (b : List Int) (hb : b.all isByte = true) (hbl : b.length ≤ 2000) (p : Int) (hp : p ≤ 12) (l : List S32) (hl : l.length ≤ 300) (n : List Int) (hn : n.length ≤ 2000) : Ev (fun k => tallymanlaw15_DenseBack.j0 k b n false p l) true := by
  obtain ⟨r, h1, h2⟩ := read_any b hb (by omega)
  have hj := back_j1 p hp l hl n hn
  refine Ev.step (fun k => ?_) (Ev.bind (f := fun k bt328 => (if bt328.2.2 = 0 then ((dense_Bytes.f k bt328.1 bt328.2.1).bind fun bt334 => (if bt334.2 = 0 then (if (strOfNums bt334.1).toList = (strOfNums b).toList then ((tallymanref14_Check.f k bt328.1 bt328.2.1).bind fun t338 => (if t338 = 0 then (tallymanlaw15_DenseBack.j1 k n p l) else (none))) else (none)) else (none))) else (tallymanlaw15_DenseBack.j1 k n p l))) h1 ?_)
  · simp only [tallymanlaw15_DenseBack.j0]
    rw [if_neg (by decide), own_eq b (by omega), Option.bind_some]
  · rcases h2 with h2 | ⟨h2, g1, Q, gq, g4, gQ, gok, gs⟩
    · exact Ev.congr (fun k => by rw [if_neg (by rw [h2]; decide)]) hj
    · have hby := bytes_ev Q g4 gQ _ g1 gok
      have hch := check_good g4 gQ g1 gok
      rw [← gq] at hby hch
      refine Ev.congr (fun k => by rw [if_pos h2]) (Ev.bind hby ?_)
      refine Ev.congr (fun k => by rw [if_pos rfl, if_pos gs]) (Ev.bind hch ?_)
      exact Ev.congr (fun k => by rw [if_pos rfl]) hj
theorem back_out (b n : List Int) (p : Int) (l : List S32) : Ev (fun k => tallymanlaw15_DenseBack.j0 k b n true p l) true := by
  refine Ev.step (f := fun _ => some true) (fun k => ?_) (Ev.now _)
  simp only [tallymanlaw15_DenseBack.j0]
  rw [if_pos trivial]
theorem lives_ev : Ev (fun k => tallymanlaw15_lives.f k) true := by
  refine ⟨100, fun n hn => ?_⟩
  have h0 : tallymanlaw15_lives.f 100 = some true := by decide +kernel
  have up : ∀ d, tallymanlaw15_lives.f (100 + d) = some true := by
    intro d
    induction d with
    | zero => exact h0
    | succ d ih => exact tallymanlaw15_lives.mono (100 + d) _ ih
  rw [show n = 100 + (n - 100) by omega]
  exact up _
theorem back_law (p : Int) (l : List S32) (b n : List Int) (hb : b.all isByte = true) : ∃ k, tallymanlaw15_DenseBack.f k p l b n = some true := by
  have h : Ev (fun k => tallymanlaw15_DenseBack.f k p l b n) true := by
    refine Ev.congr (fun k => by unfold tallymanlaw15_DenseBack.f; rfl) (Ev.bind lives_ev ?_)
    by_cases c1 : (l.length : Int) > 300
    · exact Ev.congr (fun k => by rw [if_pos rfl, if_pos c1]) (back_out b n p l)
    · by_cases c2 : (b.length : Int) > 2000
      · exact Ev.congr (fun k => by rw [if_pos rfl, if_neg c1, if_pos c2]) (back_out b n p l)
      · by_cases c3 : (n.length : Int) > 2000
        · exact Ev.congr (fun k => by rw [if_pos rfl, if_neg c1, if_neg c2, if_pos c3]) (back_out b n p l)
        · by_cases c4 : p > 12
          · exact Ev.congr (fun k => by rw [if_pos rfl, if_neg c1, if_neg c2, if_neg c3, decide_eq_true c4]) (back_out b n p l)
          · exact Ev.congr (fun k => by rw [if_pos rfl, if_neg c1, if_neg c2, if_neg c3, decide_eq_false c4]) (back_j0 b hb (by omega) p (by omega) l (by omega) n (by omega))
  obtain ⟨K, hK⟩ := h
  exact ⟨K, hK K (Nat.le_refl _)⟩
end Go.Proofs.Ytbclnjinpcfpjaa.H
