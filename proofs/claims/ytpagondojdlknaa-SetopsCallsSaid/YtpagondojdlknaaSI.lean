/- Plain facts about the printed functions: what each of them answers. -/
import Derived.Test.YtpagondojdlknaaHR
import Derived.Test.YtpagondojdlknaaSH
namespace Go.Proofs.Ytpagondojdlknaa.H
open Go.RowKit Go.Proofs.YtpagondojdlknaaW.PrintWords Go.Proofs.YtpagondojdlknaaW.PrintLast Go.Proofs.YtpagondojdlknaaW.PrintMore
set_option linter.unusedVariables false
set_option linter.unusedSimpArgs false
/-! ### The law SetopsCalls -/
theorem made_f (p : P3 → Bool) (la lb : Int) (a b : List Int) : (some ((madeF p la a lb b).1.1, (madeF p la a lb b).1.2, (madeF p la a lb b).2) : Option (Int × List Int × Int)) = some (tri3 (madeS p la a lb b)) := by rw [madeF_eq]; rfl
theorem made_len (p : P3 → Bool) (la lb : Int) (a b : List Int) (ha : a.length ≤ 300) (hb : b.length ≤ 300) : (tri3 (madeS p la a lb b)).2.1.length ≤ 1000000 := by
  unfold tri3 madeS
  have h := sel_len2 p (belowS a (limS la lb)) (belowS b (limS la lb))
  have := below_len a (limS la lb)
  have := below_len b (limS la lb)
  unfold selS at h
  split
  · split
    · split
      · simp
      · dsimp only
        omega
    · simp
  · simp
theorem cut_len (L x : Int) (a : List Int) (ha : a.length ≤ 300) : (cutS L a x).2.1.length ≤ 1000000 := by
  unfold cutS
  split
  · split
    · simp
    · have := below_len a x
      dsimp only
      omega
  · simp
theorem either_ev (la lb : Int) (a b : List Int) : setops_Either.f la a lb b = some (tri3 (madeS pEither la a lb b)) ∧ Ev (fun k => tallymanref17_Either.f k la a lb b) (tri3 (madeS pEither la a lb b)) := by
  refine ⟨made_f _ _ _ _ _, ?_⟩
  have h := rof 0 la lb a b
  rw [made_congr (p := fun z => keepR 0 z.2.1 z.2.2) (q := pEither) (fun t ht => keep0 t ht)] at h
  exact Ev.bind h (Ev.now _)
theorem both_ev (la lb : Int) (a b : List Int) : setops_Both.f la a lb b = some (tri3 (madeS pBoth la a lb b)) ∧ Ev (fun k => tallymanref17_Both.f k la a lb b) (tri3 (madeS pBoth la a lb b)) := by
  refine ⟨made_f _ _ _ _ _, ?_⟩
  have h := rof 1 la lb a b
  rw [made_congr (p := fun z => keepR 1 z.2.1 z.2.2) (q := pBoth) (fun t _ => keep1 t)] at h
  exact Ev.bind h (Ev.now _)
theorem less_ev (la lb : Int) (a b : List Int) : setops_Less.f la a lb b = some (tri3 (madeS pLess la a lb b)) ∧ Ev (fun k => tallymanref17_Less.f k la a lb b) (tri3 (madeS pLess la a lb b)) := by
  refine ⟨made_f _ _ _ _ _, ?_⟩
  have h := rof 2 la lb a b
  rw [made_congr (p := fun z => keepR 2 z.2.1 z.2.2) (q := pLess) (fun t _ => keep2 t)] at h
  exact Ev.bind h (Ev.now _)
theorem one_ev (la lb : Int) (a b : List Int) : setops_One.f la a lb b = some (tri3 (madeS pOne la a lb b)) ∧ Ev (fun k => tallymanref17_One.f k la a lb b) (tri3 (madeS pOne la a lb b)) := by
  refine ⟨made_f _ _ _ _ _, ?_⟩
  have h := rof 3 la lb a b
  rw [made_congr (p := fun z => keepR 3 z.2.1 z.2.2) (q := pOne) (fun t _ => keep3 t)] at h
  exact Ev.bind h (Ev.now _)
/-- Two answers that are one: the view is told as the same, and so is the error. -/
theorem two_same {α : Type} {f g : Nat → Option (Int × List Int × Int)} {r : Int × List Int × Int} {J : Nat → Bool → Option α} {v : α} (hf : Ev f r) (hg : Ev g r) (hl : r.2.1.length ≤ 1000000) (hJ : Ev (fun k => J k false) v) :
    Ev (fun k => (f k).bind fun x => (g k).bind fun y => (tallymankit_View.f k x.1 x.2.1 y.1 y.2.1).bind fun t => if t = true then J k (x.2.2 != y.2.2) else J k true) v := by
  refine Ev.bind hf (Ev.bind hg (Ev.bind (view_ev r.1 r.2.1 hl) (Ev.congr (fun k => ?_) hJ)))
  rw [if_pos rfl]
  simp
section
variable {la lb : Int} {a b : List Int} (ha : a.length ≤ 300) (hb : b.length ≤ 300)
include ha hb
theorem sc_j5 : Ev (fun k => tallymanlaw17_SetopsCalls.j5 k false la a lb b) true := by
  obtain ⟨e1, e2⟩ := one_ev la lb a b
  have hl := made_len pOne la lb a b ha hb
  have l1 : setops_Like.f la a lb b = some (likeS la a lb b) := by unfold setops_Like.f; rw [likeF_eq]
  have l2 := rlike la lb a b
  generalize tri3 (madeS pOne la a lb b) = r at *
  generalize likeS la a lb b = q at *
  have e1' : Ev (fun _ => setops_One.f la a lb b) r := by rw [e1]; exact Ev.now _
  have l1' : Ev (fun _ => setops_Like.f la a lb b) q := by rw [l1]; exact Ev.now _
  refine Ev.step (f := fun k => ((setops_One.f la a lb b).bind fun bt553 => ((tallymanref17_One.f k la a lb b).bind fun bt558 => ((setops_Like.f la a lb b).bind fun bt563 => ((tallymanref17_Like.f k la a lb b).bind fun bt565 => ((tallymankit_View.f k bt553.1 bt553.2.1 bt558.1 bt558.2.1).bind fun t567 => (if t567 = true then (if bt553.2.2 = bt558.2.2 then (if bt563.1 = bt565.1 then (some (bt563.2 == bt565.2)) else (none)) else (none)) else (none)))))))) (fun k => ?_) (Ev.bind e1' (Ev.bind e2 (Ev.bind l1' (Ev.bind l2 (Ev.bind (view_ev r.1 r.2.1 hl) (Ev.congr (f := fun _ => some true) (fun k => ?_) (Ev.now _)))))))
  · simp only [tallymanlaw17_SetopsCalls.j5]
    rw [if_neg (by decide)]
  · rw [if_pos rfl, if_pos rfl, if_pos rfl]
    simp
theorem sc_j4 : Ev (fun k => tallymanlaw17_SetopsCalls.j4 k false la a lb b) true := by
  obtain ⟨e1, e2⟩ := less_ev la lb a b
  have e1' : Ev (fun _ => setops_Less.f la a lb b) (tri3 (madeS pLess la a lb b)) := by rw [e1]; exact Ev.now _
  refine Ev.step (fun k => ?_) (two_same e1' e2 (made_len pLess la lb a b ha hb) (J := fun k t => tallymanlaw17_SetopsCalls.j5 k t la a lb b) (sc_j5 ha hb))
  simp only [tallymanlaw17_SetopsCalls.j4]
  rw [if_neg (by decide)]
theorem sc_j3 : Ev (fun k => tallymanlaw17_SetopsCalls.j3 k false la a lb b) true := by
  obtain ⟨e1, e2⟩ := both_ev la lb a b
  have e1' : Ev (fun _ => setops_Both.f la a lb b) (tri3 (madeS pBoth la a lb b)) := by rw [e1]; exact Ev.now _
  refine Ev.step (fun k => ?_) (two_same e1' e2 (made_len pBoth la lb a b ha hb) (J := fun k t => tallymanlaw17_SetopsCalls.j4 k t la a lb b) (sc_j4 ha hb))
  simp only [tallymanlaw17_SetopsCalls.j3]
  rw [if_neg (by decide)]
theorem sc_j2 : Ev (fun k => tallymanlaw17_SetopsCalls.j2 k false la a lb b) true := by
  obtain ⟨e1, e2⟩ := either_ev la lb a b
  have e1' : Ev (fun _ => setops_Either.f la a lb b) (tri3 (madeS pEither la a lb b)) := by rw [e1]; exact Ev.now _
  refine Ev.step (fun k => ?_) (two_same e1' e2 (made_len pEither la lb a b ha hb) (J := fun k t => tallymanlaw17_SetopsCalls.j3 k t la a lb b) (sc_j3 ha hb))
  simp only [tallymanlaw17_SetopsCalls.j2]
  rw [if_neg (by decide)]
theorem sc_j1 (x : Int) : Ev (fun k => tallymanlaw17_SetopsCalls.j1 k x false la a lb b) true := by
  have e1' : Ev (fun _ => setops_Cut.f la a x) (cutS la a x) := by unfold setops_Cut.f; exact Ev.now _
  refine Ev.step (fun k => ?_) (two_same e1' (rcut la x a) (cut_len la x a ha) (J := fun k t => tallymanlaw17_SetopsCalls.j2 k t la a lb b) (sc_j2 ha hb))
  simp only [tallymanlaw17_SetopsCalls.j1]
  rw [if_neg (by decide)]
end
theorem sc_j0 {la : Nat} (hla : la < 18446744073709551616) {lb : Int} {a b : List Int} (ha : a.length ≤ 300) (hb : b.length ≤ 300) (K : Int) (h : List Int) (L : Int) (hh : h.length ≤ 300) (x : Int) : Ev (fun k => tallymanlaw17_SetopsCalls.j0 k x false (la : Int) a lb b K h L) true := by
  obtain ⟨r, hr, o1, o2⟩ := of_both K h L (by omega)
  obtain ⟨q, q1, q2⟩ := est_both la a hla
  have s1 := sameS_ev (la : Int) lb a b (by omega)
  have s2 := rsame (la : Int) lb a b (by omega)
  have v := view_ev r.1 r.2.1 hr
  have c1 := hcheck (la : Int) a
  have c2 := rchk (la : Int) a
  have j := sc_j1 (la := (la : Int)) (lb := lb) ha hb x
  obtain ⟨n1, o1⟩ := o1
  obtain ⟨n2, o2⟩ := o2
  obtain ⟨n3, q1⟩ := q1
  obtain ⟨n4, q2⟩ := q2
  obtain ⟨n5, s1⟩ := s1
  obtain ⟨n6, s2⟩ := s2
  obtain ⟨n7, v⟩ := v
  obtain ⟨n8, c1⟩ := c1
  obtain ⟨n9, c2⟩ := c2
  obtain ⟨n10, j⟩ := j
  refine ⟨max (max (max n1 n2) (max n3 n4)) (max (max n5 n6) (max (max n7 n8) (max n9 n10))) + 1, fun n hn => ?_⟩
  obtain ⟨m, rfl⟩ : ∃ m, n = m + 1 := ⟨n - 1, by omega⟩
  have o1 := o1 m (by omega)
  have o2 := o2 m (by omega)
  have q1 := q1 m (by omega)
  have q2 := q2 m (by omega)
  have s1 := s1 m (by omega)
  have s2 := s2 m (by omega)
  have v := v m (by omega)
  have c1 := c1 m (by omega)
  have c2 := c2 m (by omega)
  have j := j m (by omega)
  dsimp only at o1 o2 q1 q2 s1 s2 v c1 c2 j ⊢
  simp only [tallymanlaw17_SetopsCalls.j0]
  rw [if_neg (by decide), o1, Option.bind_some, o2, Option.bind_some, v, Option.bind_some, if_pos rfl, if_pos rfl, c1, Option.bind_some, c2, Option.bind_some, if_pos rfl, q1, Option.bind_some, q2, Option.bind_some, if_pos rfl, s1, Option.bind_some, s2, Option.bind_some]
  have e : ((decide ((la : Int) = lb ∧ a = b)) != (decide ((la : Int) = lb ∧ a = b))) = false := by simp
  rw [e]
  exact j
theorem calls_ex {la : Nat} (hla : la < 18446744073709551616) (lb : Int) (a b : List Int) (K : Int) (h : List Int) (L x : Int) : ∃ k, tallymanlaw17_SetopsCalls.f k (la : Int) a lb b K h L x = some true := by
  have htrue : Ev (fun k => tallymanlaw17_SetopsCalls.j0 k x true (la : Int) a lb b K h L) true := by
    refine Ev.step (f := fun _ => some true) (fun k => ?_) (Ev.now _)
    simp only [tallymanlaw17_SetopsCalls.j0]
    rw [if_pos trivial]
  have main : Ev (fun k => tallymanlaw17_SetopsCalls.f k (la : Int) a lb b K h L x) true := by
    unfold tallymanlaw17_SetopsCalls.f
    refine Ev.bind lives17_ev ?_
    by_cases h1 : (a.length : Int) > 300
    · exact Ev.congr (fun k => by rw [if_pos rfl, if_pos h1]) htrue
    · by_cases h2 : (b.length : Int) > 300
      · exact Ev.congr (fun k => by rw [if_pos rfl, if_neg h1, if_pos h2]) htrue
      · by_cases h3 : (h.length : Int) > 300
        · exact Ev.congr (fun k => by rw [if_pos rfl, if_neg h1, if_neg h2, decide_eq_true h3]) htrue
        · exact Ev.congr (fun k => by rw [if_pos rfl, if_neg h1, if_neg h2, decide_eq_false h3]) (sc_j0 hla (by omega) (by omega) K h L (by omega) x)
  exact main.rounds
end Go.Proofs.Ytpagondojdlknaa.H
