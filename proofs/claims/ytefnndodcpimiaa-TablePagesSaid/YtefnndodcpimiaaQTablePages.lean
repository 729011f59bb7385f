/- The pure statement of TablePages: what the Go law comes to, as a Lean function on numbers and lists, is true for every input. -/
import Derived.Test.YtefnndodcpimiaaH4
import Derived.Test.YtefnndodcpimiaaS0
namespace Go.Proofs.Ytefnndodcpimiaa.H
open Go.RowKit Go.Proofs.YtefnndodcpimiaaW.PrintWords Go.Proofs.YtefnndodcpimiaaW.PrintLast
def tallymanlaw10_TablePages.PureH : Prop := ∀ (x0 : S24) (x1 : Int), ((∀ z1 ∈ x0.f0, (Lit.int .i64 z1).wf = true)) → x0.f0.length ≤ 9223372036854775807 → (Lit.int .i64 x1).wf = true →  ∃ k, tallymanlaw10_TablePages.f k x0.f0 x1 = some true
end Go.Proofs.Ytefnndodcpimiaa.H
namespace Go.Proofs.Ytefnndodcpimiaa.Pure
open Go.RowKit Go.Proofs.Ytefnndodcpimiaa.H Go.Proofs.YtefnndodcpimiaaW.PrintWords Go.Proofs.YtefnndodcpimiaaW.PrintLast
theorem pages_at (l : List Int) (i : Nat) (h : i < l.length) (hz : ¬ rd l (i : Int) = 0) : (nz (l.take i)).length < (nz l).length ∧ rd (nz l) ((nz (l.take i)).length : Int) = rd l (i : Int) := by
  have e1 : nz l = nz (l.take i) ++ rd l (i : Int) :: nz (l.drop (i + 1)) := by
    rw [← nz_cons _ _ hz, ← drop_at l i h, ← nz_append, List.take_append_drop]
  refine ⟨by rw [e1]; simp, ?_⟩
  rw [e1]
  unfold rd
  rw [Int.toNat_natCast, List.getD_eq_getElem?_getD, List.getElem?_append_right (by omega)]
  simp
theorem set_ok {l : List Int} (hv : Valid l) (n : Nat) (p : Int) (hn : n < 65536) (hp : isPageB p = true) (hf : (findS l p).2 = false) {u : List Int} (hu : table_put.f l (n : Int) p = some u) : Ev (fun k => table_Set.f k l (n : Int) p) (u, 0) := by
  have hw := valid_in hv
  have hc := (valid_iff l).mpr hv
  have hpr := page_range hp
  have h1 : table_isPage.f p = some true := by
    unfold table_isPage.f
    rw [if_pos (by omega)]
    simp; omega
  refine Ev.congr (f := fun k => table_Set.j0 k (n : Int) p false l) (fun k => ?_) (Ev.step (f := fun k => (table_Find.f k l p).bind fun bt112 => (if bt112.2 = true then (if bt112.1 = (n : Int) then ((table_put.f l (n : Int) p).bind fun t114 => (some (t114, 0))) else (some (([] : List Int), 7))) else ((table_put.f l (n : Int) p).bind fun t117 => (some (t117, 0))))) (fun k => ?_) (Ev.bind (find_ok hw hc p) (Ev.congr (f := fun _ => some (u, 0)) (fun k => ?_) (Ev.now _))))
  · unfold table_Set.f
    rw [check_ok hw hc]
    simp only [Option.bind_some, if_true]
    rw [if_neg (by omega), if_neg (by omega), h1]
    rfl
  · simp only [table_Set.j0]
    rw [if_neg (by simp)]
  · rw [hf, hu]
    rfl
theorem pages_loopL (l : List Int) (p : Int) (hv : Valid l) (hl : l.length ≤ 400) (r : Bool) (F : Nat → Option Bool)
    (hF : ∀ k, F k = ((tallymankit_Pick.f p 4094).bind fun t200 => (if ((nz l).length : Int) = ((nz l).length : Int) then ((table_Count.f k l).bind fun t201 => (tallymanlaw10_TablePages.j2 k (wrap64 (2 + t200)) ((nz l).length : Int) (t201 != ((nz l).length : Int)) l)) else (tallymanlaw10_TablePages.j2 k (wrap64 (2 + t200)) ((nz l).length : Int) true l)))) (hE : Ev F r) :
    ∀ (d i : Nat), i + d = l.length + 2 → Ev (fun k => tallymanlaw10_TablePages.l0 k p (nz l) ((nz (l.take i)).length : Int) (i : Int) l) r := by
  have hw := valid_in hv
  have hc := (valid_iff l).mpr hv
  have hnl : (nz l).length ≤ l.length := List.length_filter_le _ _
  intro d
  induction d with
  | zero =>
    intro i hi
    refine Ev.step (f := F) (fun k => ?_) hE
    rw [hF k]
    simp only [tallymanlaw10_TablePages.l0]
    rw [w64 (by omega) (by omega), if_neg (by omega), List.take_of_length_le (by omega)]
    simp only [if_true]
  | succ d ih =>
    intro i hi
    have hin : (nz (l.take i)).length ≤ i := Nat.le_trans (List.length_filter_le _ _) (List.length_take_le _ _)
    by_cases hlt : i < l.length
    · have hg : getS l (i : Int) = (rd l (i : Int), !(rd l (i : Int) == 0)) := by unfold getS; rw [if_pos (by omega)]
      by_cases hz : rd l (i : Int) = 0
      · refine Ev.step (f := fun k => tallymanlaw10_TablePages.l0 k p (nz l) ((nz (l.take (i + 1))).length : Int) ((i + 1 : Nat) : Int) l) (fun k => ?_) (ih (i + 1) (by omega))
        simp only [tallymanlaw10_TablePages.l0]
        rw [w64 (x := (l.length : Int) + 2) (by omega) (by omega), if_pos (by omega), get_ok hw hc, hg, hz]
        simp only [Option.bind_some]
        rw [if_neg (by simp), if_pos trivial, w64 (by omega) (by omega), take_last l i hlt, nz_append, hz]
        simp [nz]
      · have hp := pages_at l i hlt hz
        have hfi : findS l (rd l (i : Int)) = ((i : Int), true) := by
          unfold findS
          have hz2 : ¬ l[i] = 0 := by rwa [rd_nat l i hlt] at hz
          rw [if_neg hz, rd_nat l i hlt, findIdx_once hv.once hlt hz2, if_pos hlt]
        refine Ev.step (f := fun k => (table_Find.f k l (rd l (i : Int))).bind fun bt197 => (if ((nz (l.take i)).length : Int) ≥ ((nz l).length : Int) then (none) else (if 0 ≤ ((nz (l.take i)).length : Int) then (if ((nz (l.take i)).length : Int) < ((nz l).length : Int) then (if (rd (nz l) ((nz (l.take i)).length : Int)) = rd l (i : Int) then (if bt197.2 = true then (if bt197.1 = (i : Int) then (tallymanlaw10_TablePages.l0 k p (nz l) (wrap64 (((nz (l.take i)).length : Int) + 1)) (wrap64 ((i : Int) + 1)) l) else (none)) else (none)) else (none)) else (none)) else (none)))) (fun k => ?_) (Ev.bind (find_ok hw hc _) (Ev.congr (f := fun k => tallymanlaw10_TablePages.l0 k p (nz l) ((nz (l.take (i + 1))).length : Int) ((i + 1 : Nat) : Int) l) (fun k => ?_) (ih (i + 1) (by omega))))
        · simp only [tallymanlaw10_TablePages.l0]
          rw [w64 (x := (l.length : Int) + 2) (by omega) (by omega), if_pos (by omega), get_ok hw hc, hg]
          simp only [Option.bind_some]
          rw [if_pos (by simp [hz])]
        · rw [hfi]
          have e2 : ((nz (l.take (i + 1))).length : Int) = ((nz (l.take i)).length : Int) + 1 := by
            rw [take_last l i hlt, nz_append]
            simp [nz, hz]
          rw [if_neg (by omega), if_pos (by omega), if_pos (by omega), if_pos hp.2, if_pos rfl, if_pos rfl, w64 (by omega) (by omega), w64 (by omega) (by omega), e2]
          rfl
    · have hg : getS l (i : Int) = (0, false) := by unfold getS; rw [if_neg (by omega)]
      refine Ev.step (f := fun k => tallymanlaw10_TablePages.l0 k p (nz l) ((nz (l.take (i + 1))).length : Int) ((i + 1 : Nat) : Int) l) (fun k => ?_) (ih (i + 1) (by omega))
      simp only [tallymanlaw10_TablePages.l0]
      rw [w64 (x := (l.length : Int) + 2) (by omega) (by omega), if_pos (by omega), get_ok hw hc, hg]
      simp only [Option.bind_some]
      rw [if_neg (by simp), if_pos trivial, w64 (by omega) (by omega), List.take_of_length_le (show l.length ≤ i by omega), List.take_of_length_le (show l.length ≤ i + 1 by omega)]
      rfl
theorem find_mem (l : List Int) (p : Int) (hp : ¬ p = 0) (h : (findS l p).2 = false) : p ∉ l := by
  unfold findS at h
  rw [if_neg hp] at h
  intro hm
  rw [if_pos (List.findIdx_lt_length_of_exists ⟨p, hm, by simp⟩)] at h
  cases h
theorem pages_tail (l : List Int) (q : Int) (hv : Valid l) (hl : l.length ≤ 400) (hq : 2 ≤ q ∧ q < 4096) : Ev (fun k => tallymanlaw10_TablePages.j2 k q ((nz l).length : Int) false l) true := by
  have hw := valid_in hv
  have hc := (valid_iff l).mpr hv
  have hqp : isPageB q = true := by unfold isPageB; simp; omega
  have hnl : (nz l).length ≤ l.length := List.length_filter_le _ _
  obtain ⟨a, b, hfr, hidx⟩ := free_of l
  have hal : a.length ≤ l.length := by
    rcases hfr.eq with h1 | ⟨h1, _⟩
    · rw [h1]; simp
    · rw [h1]; exact Nat.le_refl _
  have hfS : freshS l = ((a.length : Int), 0) := by
    unfold freshS
    rw [hidx]
    split
    · rfl
    · rw [if_neg (by omega)]
      congr 1
      omega
  refine Ev.step (f := fun k => (table_Find.f k l q).bind fun bt202 => (if bt202.2 = true then (some true) else ((table_Fresh.f k l).bind fun bt204 => ((table_Set.f k l bt204.1 q).bind fun bt206 => ((table_Fresh.f k bt206.1).bind fun bt211 => ((table_Clear.f bt206.1 bt204.1).bind fun bt213 => (if bt204.2 = 0 then (if bt206.2 = 0 then (if bt211.2 = 0 then (if bt213.2 = 0 then (if bt211.1 > bt204.1 then ((table_Count.f k bt206.1).bind fun t218 => (if t218 = (wrap64 (((nz l).length : Int) + 1)) then ((tallymankit_Ints.f k bt213.1 l).bind fun t219 => (some t219)) else (none))) else (none)) else (none)) else (none)) else (none)) else (none)))))))) (fun k => ?_) (Ev.bind (find_ok hw hc q) ?_)
  · simp only [tallymanlaw10_TablePages.j2]
    rw [if_neg (by simp)]
  by_cases hf : (findS l q).2 = true
  · refine Ev.congr (f := fun _ => some true) (fun k => ?_) (Ev.now _)
    rw [if_pos hf]
  have hf2 : (findS l q).2 = false := by simpa using hf
  have hq0 : ¬ q = 0 := by omega
  have hnm := find_mem l q hq0 hf2
  have hput := free_put hfr hv (by omega) hqp hnm
  have hu := free_valid hfr hv (by omega) hqp hnm
  have huw := valid_in hu
  have huc := (valid_iff _).mpr hu
  have hul : (a ++ q :: b).length ≤ l.length + 1 := by
    rcases hfr.eq with h1 | ⟨h1, h2⟩
    · rw [h1]; simp
    · rw [h1, h2]; simp
  have hfu : ∃ m : Int, freshS (a ++ q :: b) = (m, 0) ∧ (a.length : Int) < m := by
    have h1 := findIdx_full a b q hfr.full hq0
    unfold freshS
    split
    · exact ⟨_, rfl, by omega⟩
    · rw [if_neg (by omega)]
      exact ⟨_, rfl, by simp; omega⟩
  obtain ⟨m, hm1, hm2⟩ := hfu
  have hclr : table_Clear.f (a ++ q :: b) (a.length : Int) = some (l, 0) := by
    have hg : getS (a ++ q :: b) (a.length : Int) = (q, true) := by
      unfold getS
      rw [if_pos (by simp; omega)]
      have : rd (a ++ q :: b) (a.length : Int) = q := by unfold rd; simp
      rw [this]
      simp [hq0]
    unfold table_Clear.f
    rw [check_ok huw huc]
    simp only [Option.bind_some, if_true]
    rw [get_ok huw huc, hg]
    simp only [Option.bind_some, if_true]
    rw [free_back hfr hv (by omega)]
    rfl
  refine Ev.congr (f := fun k => (table_Fresh.f k l).bind fun bt204 => ((table_Set.f k l bt204.1 q).bind fun bt206 => ((table_Fresh.f k bt206.1).bind fun bt211 => ((table_Clear.f bt206.1 bt204.1).bind fun bt213 => (if bt204.2 = 0 then (if bt206.2 = 0 then (if bt211.2 = 0 then (if bt213.2 = 0 then (if bt211.1 > bt204.1 then ((table_Count.f k bt206.1).bind fun t218 => (if t218 = (wrap64 (((nz l).length : Int) + 1)) then ((tallymankit_Ints.f k bt213.1 l).bind fun t219 => (some t219)) else (none))) else (none)) else (none)) else (none)) else (none)) else (none)))))) (fun k => by rw [if_neg hf]) (Ev.bind (fresh_ok hw hc) ?_)
  rw [hfS]
  refine Ev.bind (set_ok hv a.length q (by omega) hqp hf2 hput) (Ev.bind (fresh_ok huw huc) ?_)
  rw [hm1, hclr]
  refine Ev.congr (f := fun k => (table_Count.f k (a ++ q :: b)).bind fun t218 => (if t218 = (wrap64 (((nz l).length : Int) + 1)) then ((tallymankit_Ints.f k l l).bind fun t219 => (some t219)) else (none))) (fun k => ?_) (Ev.bind (count_ok huw huc) ?_)
  · simp only [Option.bind_some, if_true]
    rw [if_pos (by omega)]
  have e3 : ((pagesS (a ++ q :: b)).length : Int) = ((nz l).length : Int) + 1 := by
    show ((nz (a ++ q :: b)).length : Int) = _
    rw [nz_append, nz_cons _ _ hq0, free_nz hfr]
    simp
    omega
  refine Ev.congr (f := fun k => (tallymankit_Ints.f k l l).bind fun t219 => (some t219)) (fun k => ?_) (Ev.bind (ints_ok l l (by omega)) (Ev.congr (f := fun _ => some true) (fun k => by simp) (Ev.now _)))
  rw [e3, w64 (by omega) (by omega), if_pos rfl]
theorem wf_i64 {x : Int} : (Lit.int .i64 x).wf = true ↔ -9223372036854775808 ≤ x ∧ x ≤ 9223372036854775807 := by
  simp [Lit.wf, IntKind.min, IntKind.max, IntKind.signed, IntKind.bits]
theorem all_i64 {l : List Int} (h : ∀ x ∈ l, (Lit.int .i64 x).wf = true) : l.all inI64 = true := by
  rw [List.all_eq_true]
  intro x hx
  have := wf_i64.mp (h x hx)
  unfold inI64
  simp
  omega
theorem table_pages_ok (l : List Int) (p : Int) (hw : l.all inI64 = true) (hp : -9223372036854775808 ≤ p ∧ p ≤ 9223372036854775807) : Ev (fun k => tallymanlaw10_TablePages.f k l p) true := by
  refine Ev.bind lives_ok ?_
  by_cases hl : (l.length : Int) > 400
  · refine Ev.congr (f := fun k => tallymanlaw10_TablePages.j0 k p true l) (fun k => by rw [if_pos rfl, if_pos hl]) (Ev.step (f := fun _ => some true) (fun k => ?_) (Ev.now _))
    simp only [tallymanlaw10_TablePages.j0]
    rw [if_pos trivial]
  · by_cases hc : chkOk l = true
    · have hv := (valid_iff l).mp hc
      have hnl : (nz l).length ≤ l.length := List.length_filter_le _ _
      refine Ev.congr (f := fun k => tallymanlaw10_TablePages.j0 k p false l) (fun k => by rw [if_pos rfl, if_neg hl, check_ok hw hc]; rfl) (Ev.step (f := fun k => (table_Pages.f k l).bind fun t192 => (tallymanlaw10_TablePages.l0 k p t192 0 0 l)) (fun k => ?_) (Ev.bind (pages_ok hw hc) ?_))
      · simp only [tallymanlaw10_TablePages.j0]
        rw [if_neg (by simp)]
      · have h1 := Int.emod_nonneg p (show (4094 : Int) ≠ 0 by omega)
        have h2 := Int.emod_lt_of_pos p (show (0 : Int) < 4094 by omega)
        have h0 := pages_loopL l p hv (by omega) true (fun k => (table_Count.f k l).bind fun t201 => (tallymanlaw10_TablePages.j2 k (2 + p % 4094) ((nz l).length : Int) (t201 != ((nz l).length : Int)) l)) (fun k => by
          rw [pick_ok p 4094 (by omega) (by omega) hp]
          simp only [Option.bind_some]
          rw [if_pos trivial, w64 (by omega) (by omega)]) (Ev.bind (count_ok hw hc) (Ev.congr (fun k => by rw [show (((pagesS l).length : Int) != ((nz l).length : Int)) = false by simp [pagesS, nz]]) (pages_tail l (2 + p % 4094) hv (by omega) (by omega)))) (l.length + 2) 0 (by omega)
        exact h0
    · refine Ev.congr (f := fun k => tallymanlaw10_TablePages.j0 k p true l) (fun k => by rw [if_pos rfl, if_neg hl, check_no hw (by simpa using hc)]; rfl) (Ev.step (f := fun _ => some true) (fun k => ?_) (Ev.now _))
      simp only [tallymanlaw10_TablePages.j0]
      rw [if_pos trivial]
theorem TablePages : tallymanlaw10_TablePages.PureH := fun x0 x1 h1 _ h2 => (table_pages_ok x0.f0 x1 (all_i64 h1) (wf_i64.mp h2)).rounds
end Go.Proofs.Ytefnndodcpimiaa.Pure
