/- SetopsAgain: its parts evaluated. -/
import Derived.Test.YtpagondojdlknaaH7
import Derived.Test.YtpagondojdlknaaS8
import Derived.Test.YtpagondojdlknaaS9
namespace Go.Proofs.Ytpagondojdlknaa.H
open Go.RowKit Go.Proofs.YtpagondojdlknaaW.PrintWords Go.Proofs.YtpagondojdlknaaW.PrintLast
set_option linter.unusedSimpArgs false
theorem ev_of {α : Type} {g : Nat → Option α} {r : α} (hg : ∀ k, LeO (g k) (g (k + 1))) {k : Nat} (h : g k = some r) : Ev g r := by
  refine ⟨k, fun n hn => ?_⟩
  induction n with
  | zero => rw [show k = 0 by omega] at h; exact h
  | succ n ih =>
    by_cases e : k = n + 1
    · rw [← e]; exact h
    · exact hg n r (ih (by omega))
/-! ### The check, of this print -/
theorem hcheck_loop {l : List Int} (lim : Int) (hl : l.length ≤ 8192) (hp : 0 < l.length) : ∀ (d i : Nat), l.length - i ≤ d → 0 < i → i ≤ l.length →
    Ev (fun k => setops_Check.l0 k (l.length : Int) (i : Int) lim l) (if (incB (l.drop (i - 1)) && (lim == 0 || decide (l.getLastD 0 < lim))) = true then 0 else 2) := by
  intro d
  induction d with
  | zero =>
    intro i hd h0 h1
    have e : i = l.length := by omega
    subst e
    refine Ev.step (f := fun _ => some (if (incB (l.drop (l.length - 1)) && (lim == 0 || decide (l.getLastD 0 < lim))) = true then 0 else 2)) (fun k => ?_) (Ev.now _)
    simp only [setops_Check.l0]
    rw [if_neg (by omega), if_pos (by omega), drop_one l (l.length - 1) (by omega), last_getD l hp, w64' (by omega) (by omega)]
    by_cases hz : lim = 0
    · rw [if_pos hz]
      simp [hz, incB]
    · rw [if_neg hz, if_pos (by omega), if_pos (by omega)]
      by_cases hc : rd l ((l.length : Int) - 1) ≥ lim
      · rw [if_pos hc]
        simp [hz, incB, show ¬ rd l ((l.length : Int) - 1) < lim by omega]
      · rw [if_neg hc]
        simp [hz, incB, show rd l ((l.length : Int) - 1) < lim by omega]
  | succ d ih =>
    intro i hd h0 h1
    by_cases hlt : i < l.length
    · have e1 : ((i : Int) - 1) = ((i - 1 : Nat) : Int) := by omega
      have hd2 := drop_two l (i - 1) (by omega)
      have e2 : l.drop (i + 1 - 1) = l[i] :: l.drop (i + 1) := by rw [show i + 1 - 1 = i by omega]; exact List.drop_eq_getElem_cons hlt
      have e3 : i - 1 + 1 = i := by omega
      by_cases hc : l[i - 1] < l[i]
      · refine Ev.step (f := fun k => setops_Check.l0 k (l.length : Int) ((i + 1 : Nat) : Int) lim l) (fun k => ?_) ?_
        · simp only [setops_Check.l0]
          rw [if_pos (by omega), w64' (by omega) (by omega), e1, if_pos (by omega), if_pos (by omega), if_pos (by omega), if_pos (by omega), rd_nat' l (i - 1) (by omega), rd_nat' l i hlt, if_neg (by omega), w64' (by omega) (by omega)]
          rfl
        · have := ih (i + 1) (by omega) (by omega) (by omega)
          rw [hd2]
          simp only [e3]
          rw [incB_cons, decide_eq_true hc, Bool.true_and]
          rw [e2] at this
          rw [show i - 1 + 2 = i + 1 by omega]
          exact this
      · refine Ev.step (f := fun _ => some (if (incB (l.drop (i - 1)) && (lim == 0 || decide (l.getLastD 0 < lim))) = true then 0 else 2)) (fun k => ?_) (Ev.now _)
        simp only [setops_Check.l0]
        rw [if_pos (by omega), w64' (by omega) (by omega), e1, if_pos (by omega), if_pos (by omega), if_pos (by omega), if_pos (by omega), rd_nat' l (i - 1) (by omega), rd_nat' l i hlt, if_pos (by omega), hd2]
        simp only [e3]
        rw [incB_cons, decide_eq_false hc]
        simp
    · exact ih i (by omega) h0 h1
theorem hcheck_ex (lim : Int) (l : List Int) : ∃ k, setops_Check.f k lim l = some (vchk lim l) := by
  unfold setops_Check.f vchk
  by_cases h : 8192 < l.length
  · exact ⟨0, by rw [if_pos (by omega), if_pos h]⟩
  · rw [if_neg h]
    by_cases hp : 0 < l.length
    · have hl := hcheck_loop lim (by omega : l.length ≤ 8192) hp l.length 1 (by omega) (by omega) (by omega)
      obtain ⟨k, hk⟩ := hl.rounds
      refine ⟨k, ?_⟩
      rw [if_neg (by omega)]
      simp only [show ((1 : Nat) : Int) = 1 from rfl] at hk
      rw [hk]
      have : l.isEmpty = false := by
        cases l with
        | nil => simp at hp
        | cons a r => rfl
      rw [this, show (1 : Nat) - 1 = 0 from rfl, List.drop_zero, Bool.false_or]
    · have e : l = [] := List.length_eq_zero_iff.mp (by omega)
      subst e
      refine ⟨1, ?_⟩
      rw [if_neg (by simp)]
      simp only [setops_Check.l0]
      rw [if_neg (by simp), if_neg (by simp)]
      rfl
theorem hcheck (lim : Int) (l : List Int) : Ev (fun k => setops_Check.f k lim l) (vchk lim l) := by
  obtain ⟨k, h⟩ := hcheck_ex lim l
  exact ev_of (fun k => setops_Check.mono lim l k) h
theorem equal_loop (l : List Int) (hl : l.length ≤ 1000000000) : ∀ (d i : Nat), i + d = l.length → Ev (fun k => slices_Equal_uint64_uint64.l0 k l l (l.length : Int) (i : Int)) true := by
  intro d
  induction d with
  | zero =>
    intro i h
    refine Ev.step (f := fun _ => some true) (fun k => ?_) (Ev.now _)
    simp only [slices_Equal_uint64_uint64.l0]
    rw [if_neg (by omega)]
  | succ d ih =>
    intro i h
    refine Ev.step (f := fun k => slices_Equal_uint64_uint64.l0 k l l (l.length : Int) ((i + 1 : Nat) : Int)) (fun k => ?_) (ih (i + 1) (by omega))
    simp only [slices_Equal_uint64_uint64.l0]
    rw [if_pos (by omega), if_pos (by omega), if_pos (by omega), if_pos (by omega), if_pos trivial, w64' (by omega) (by omega)]
    rfl
theorem same_ev (L : Int) (l : List Int) (hl : l.length ≤ 1000000000) : Ev (fun k => setops_Same.f k L l L l) true := by
  unfold setops_Same.f slices_Equal_uint64_uint64.f
  refine Ev.congr (f := fun k => (slices_Equal_uint64_uint64.l0 k l l (l.length : Int) ((0 : Nat) : Int)).bind fun t202 => some t202) (fun k => ?_) (Ev.bind (equal_loop l hl l.length 0 (by omega)) (Ev.now _))
  rw [if_pos rfl, if_pos rfl]
  rfl
def estS (L n : Nat) : Nat := if L = 0 then n else if L ≤ n then 9223372036854775807 else min (n * 18446744073709551616 / L) 9223372036854775807
theorem estS_mono (L : Nat) {m n : Nat} (h : m ≤ n) : estS L m ≤ estS L n := by
  unfold estS
  by_cases h0 : L = 0
  · rw [if_pos h0, if_pos h0]; exact h
  · rw [if_neg h0, if_neg h0]
    by_cases h1 : L ≤ n
    · rw [if_pos h1]
      split
      · exact Nat.le_refl _
      · exact Nat.min_le_right _ _
    · rw [if_neg h1, if_neg (by omega)]
      have h2 := Nat.div_le_div_right (c := L) (Nat.mul_le_mul_right 18446744073709551616 h)
      omega
theorem est_ev (L : Nat) (l : List Int) (hL : L < 18446744073709551616) (h : vchk (L : Int) l = 0) : Ev (fun k => setops_Estimate.f k (L : Int) l) (estS L l.length : Int) := by
  have hn := (vchk_inc h).2
  have hc := hcheck (L : Int) l
  rw [h] at hc
  have hw : IntKind.u64.wrap (l.length : Int) = (l.length : Int) := wu64' (by omega) (by omega)
  unfold setops_Estimate.f estS
  by_cases h0 : L = 0
  · refine Ev.bind hc (Ev.congr (f := fun _ => some (l.length : Int)) (fun k => ?_) (by rw [if_pos h0]; exact Ev.now _))
    rw [if_pos rfl, if_pos (by omega), hw]
  · rw [if_neg h0]
    by_cases h1 : L ≤ l.length
    · refine Ev.bind hc (Ev.congr (f := fun _ => some 9223372036854775807) (fun k => ?_) (by rw [if_pos h1]; exact Ev.now _))
      rw [if_pos rfl, if_neg (by omega), hw, if_pos (by omega)]
    · obtain ⟨r, hd⟩ := div64_ev l.length L (by omega) hL
      rw [if_neg h1]
      refine Ev.bind hc (Ev.congr (f := fun k => (bits_Div64.f k (l.length : Int) 0 (L : Int)).bind fun bt122 => (some (mn bt122.1 9223372036854775807))) (fun k => ?_) (Ev.bind hd (Ev.congr (f := fun _ => some ((min (l.length * 18446744073709551616 / L) 9223372036854775807 : Nat) : Int)) (fun k => ?_) (Ev.now _))))
      · rw [if_pos rfl, if_neg (by omega), hw, if_neg (by omega)]
      · generalize l.length * 18446744073709551616 / L = Q
        unfold mn
        dsimp only
        congr 1
        by_cases hq : (9223372036854775807 : Int) < (Q : Int)
        · rw [if_pos hq]; omega
        · rw [if_neg hq]; omega
theorem lives17_ev : Ev (fun k => tallymanlaw17_lives.f k) true := ev_of (fun k => tallymanlaw17_lives.mono k) (k := 60) (by decide +kernel)
theorem u64_nat {x : Int} (h : (Lit.int .u64 x).wf = true) : ∃ n : Nat, x = (n : Int) ∧ n < 18446744073709551616 := by
  simp [Lit.wf, IntKind.min, IntKind.max, IntKind.signed, IntKind.bits] at h
  exact ⟨x.toNat, by omega, by omega⟩
theorem lim_nat (a b : Nat) : limS (a : Int) (b : Int) = ((if a = 0 then b else if b = 0 then a else if b < a then b else a : Nat) : Int) := by
  unfold limS
  repeat' split <;> try omega
theorem again_end {L : Nat} {ei bo le on : List Int} (hL : L < 18446744073709551616) (o1 : Okv (L : Int) ei) (o2 : Okv (L : Int) bo) (o3 : Okv (L : Int) le) (o4 : Okv (L : Int) on) (l2 : bo.length ≤ ei.length) (l3 : le.length ≤ ei.length) (l4 : on.length ≤ ei.length) :
    Ev (fun k => tallymanlaw17_SetopsAgain.j1 k false (L : Int) ei (L : Int) bo (L : Int) le (L : Int) on) true := by
  have e1 := est_ev L ei hL (vchk_ok.2 o1)
  have e2 := est_ev L bo hL (vchk_ok.2 o2)
  have e3 := est_ev L le hL (vchk_ok.2 o3)
  have e4 := est_ev L on hL (vchk_ok.2 o4)
  have m2 := estS_mono L l2
  have m3 := estS_mono L l3
  have m4 := estS_mono L l4
  refine Ev.step (f := fun k => (setops_Estimate.f k (L : Int) ei).bind fun t260 => ((setops_Estimate.f k (L : Int) bo).bind fun t261 => (if t261 ≤ t260 then ((setops_Estimate.f k (L : Int) le).bind fun t262 => (if t262 ≤ t260 then ((setops_Estimate.f k (L : Int) on).bind fun t263 => (some (decide (t263 ≤ t260)))) else (none))) else (none)))) (fun k => ?_) ?_
  · simp only [tallymanlaw17_SetopsAgain.j1]
    rw [if_neg (by decide)]
  · refine Ev.bind e1 (Ev.bind e2 (Ev.congr (f := fun k => (setops_Estimate.f k (L : Int) le).bind fun t262 => (if t262 ≤ (estS L ei.length : Int) then ((setops_Estimate.f k (L : Int) on).bind fun t263 => (some (decide (t263 ≤ (estS L ei.length : Int))))) else (none))) (fun k => ?_) (Ev.bind e3 (Ev.congr (f := fun k => (setops_Estimate.f k (L : Int) on).bind fun t263 => (some (decide (t263 ≤ (estS L ei.length : Int))))) (fun k => ?_) (Ev.bind e4 (Ev.congr (f := fun _ => some true) (fun k => ?_) (Ev.now _)))))))
    · rw [if_pos (by omega)]
    · rw [if_pos (by omega)]
    · rw [decide_eq_true (by omega)]
theorem again_true (a b : Int) (x y : List Int) : Ev (fun k => tallymanlaw17_SetopsAgain.j0 k true a x b y) true := by
  refine Ev.step (f := fun _ => some true) (fun k => ?_) (Ev.now _)
  simp only [tallymanlaw17_SetopsAgain.j0]
  rw [if_pos trivial]
theorem again_mid {la lb : Nat} {a b : List Int} (hla : la < 18446744073709551616) (hlb : lb < 18446744073709551616) (h1 : Okv (la : Int) a) (h2 : Okv (lb : Int) b) (hl : a.length ≤ 300) (hm : b.length ≤ 300) :
    Ev (fun k => tallymanlaw17_SetopsAgain.j0 k false (la : Int) a (lb : Int) b) true := by
  obtain ⟨L, ei, bo, le, on, o1, o2, o3, o4, l2, l3, l4, hL, q1, q2, q3, q4, q5, q6, q7, q8, hn⟩ := again_sets h1 h2 hl hm
  obtain ⟨N, rfl, hN⟩ : ∃ N : Nat, L = (N : Int) ∧ N < 18446744073709551616 := by
    rw [lim_nat] at hL
    exact ⟨_, hL, by split <;> (try split) <;> (try split) <;> omega⟩
  have f1 : setops_Either.f (la : Int) a (lb : Int) b = some ((N : Int), ei, 0) := by unfold setops_Either.f; rw [madeF_eq, q1]
  have f2 : setops_Both.f (la : Int) a (lb : Int) b = some ((N : Int), bo, 0) := by unfold setops_Both.f; rw [madeF_eq, q2]
  have f3 : setops_Less.f (la : Int) a (lb : Int) b = some ((N : Int), le, 0) := by unfold setops_Less.f; rw [madeF_eq, q3]
  have f4 : setops_One.f (la : Int) a (lb : Int) b = some ((N : Int), on, 0) := by unfold setops_One.f; rw [madeF_eq, q4]
  have f5 : setops_Less.f (la : Int) a (N : Int) bo = some ((N : Int), le, 0) := by unfold setops_Less.f; rw [madeF_eq, q5]
  have f6 : setops_Either.f (N : Int) le (lb : Int) b = some ((N : Int), ei, 0) := by unfold setops_Either.f; rw [madeF_eq, q6]
  have f7 : setops_Less.f (N : Int) ei (N : Int) bo = some ((N : Int), on, 0) := by unfold setops_Less.f; rw [madeF_eq, q7]
  have f8 : setops_Both.f (N : Int) bo (N : Int) ei = some ((N : Int), bo, 0) := by unfold setops_Both.f; rw [madeF_eq, q8]
  refine Ev.step (f := fun k => (setops_Same.f k (N : Int) le (N : Int) le).bind fun t256 => (if t256 = true then ((setops_Same.f k (N : Int) ei (N : Int) ei).bind fun t257 => (if t257 = true then ((setops_Same.f k (N : Int) on (N : Int) on).bind fun t258 => (if t258 = true then ((setops_Same.f k (N : Int) bo (N : Int) bo).bind fun t259 => (tallymanlaw17_SetopsAgain.j1 k (!t259) (N : Int) ei (N : Int) bo (N : Int) le (N : Int) on)) else (tallymanlaw17_SetopsAgain.j1 k true (N : Int) ei (N : Int) bo (N : Int) le (N : Int) on))) else (tallymanlaw17_SetopsAgain.j1 k true (N : Int) ei (N : Int) bo (N : Int) le (N : Int) on))) else (tallymanlaw17_SetopsAgain.j1 k true (N : Int) ei (N : Int) bo (N : Int) le (N : Int) on))) (fun k => ?_) ?_
  · simp only [tallymanlaw17_SetopsAgain.j0]
    rw [if_neg (by decide), f1]
    simp only [Option.bind_some, f2, f3, f4, f5, f6, f7, f8, if_pos]
  · exact Ev.bind (same_ev _ le (by omega)) (Ev.bind (same_ev _ ei (by omega)) (Ev.bind (same_ev _ on (by omega)) (Ev.bind (same_ev _ bo (by omega)) (again_end hN o1 o2 o3 o4 l2 l3 l4))))
theorem again_ev {la lb : Nat} (a b : List Int) (hla : la < 18446744073709551616) (hlb : lb < 18446744073709551616) : Ev (fun k => tallymanlaw17_SetopsAgain.f k (la : Int) a (lb : Int) b) true := by
  unfold tallymanlaw17_SetopsAgain.f
  refine Ev.bind lives17_ev (Ev.congr (f := fun k => (if (a.length : Int) > 300 then (tallymanlaw17_SetopsAgain.j0 k true (la : Int) a (lb : Int) b) else (if (b.length : Int) > 300 then (tallymanlaw17_SetopsAgain.j0 k true (la : Int) a (lb : Int) b) else ((setops_Check.f k (la : Int) a).bind fun t206 => (if t206 = 0 then ((setops_Check.f k (lb : Int) b).bind fun t207 => (tallymanlaw17_SetopsAgain.j0 k (t207 != 0) (la : Int) a (lb : Int) b)) else (tallymanlaw17_SetopsAgain.j0 k true (la : Int) a (lb : Int) b)))))) (fun k => if_pos rfl) ?_)
  by_cases h1 : (a.length : Int) > 300
  · exact Ev.congr (fun k => if_pos h1) (again_true _ _ _ _)
  · refine Ev.congr (fun k => if_neg h1) ?_
    by_cases h2 : (b.length : Int) > 300
    · exact Ev.congr (fun k => if_pos h2) (again_true _ _ _ _)
    · refine Ev.congr (fun k => if_neg h2) (Ev.bind (hcheck (la : Int) a) ?_)
      by_cases h3 : vchk (la : Int) a = 0
      · refine Ev.congr (fun k => if_pos h3) (Ev.bind (hcheck (lb : Int) b) ?_)
        by_cases h4 : vchk (lb : Int) b = 0
        · rw [h4]
          exact again_mid hla hlb (vchk_ok.1 h3) (vchk_ok.1 h4) (by omega) (by omega)
        · have : (vchk (lb : Int) b != 0) = true := by simpa using h4
          rw [this]
          exact again_true _ _ _ _
      · exact Ev.congr (fun k => if_neg h3) (again_true _ _ _ _)
end Go.Proofs.Ytpagondojdlknaa.H
