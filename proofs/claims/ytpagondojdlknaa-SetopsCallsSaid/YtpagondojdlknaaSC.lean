/- Plain facts about the printed functions: what each of them answers. -/
import Derived.Test.YtpagondojdlknaaH1
import Derived.Test.YtpagondojdlknaaH5
import Derived.Test.YtpagondojdlknaaH6
import Derived.Test.YtpagondojdlknaaP1
namespace Go.Proofs.Ytpagondojdlknaa.H
open Go.RowKit Go.Proofs.YtpagondojdlknaaW.PrintWords Go.Proofs.YtpagondojdlknaaW.PrintLast Go.Proofs.YtpagondojdlknaaW.PrintMore
set_option linter.unusedVariables false
set_option linter.unusedSimpArgs false
set_option linter.unusedSimpArgs false
theorem ev_of {α : Type} {g : Nat → Option α} {r : α} (hg : ∀ k, LeO (g k) (g (k + 1))) {k : Nat} (h : g k = some r) : Ev g r := by
  refine ⟨k, fun n hn => ?_⟩
  induction n with
  | zero => rw [show k = 0 by omega] at h; exact h
  | succ n ih =>
    by_cases e : k = n + 1
    · rw [← e]; exact h
    · exact hg n r (ih (by omega))
/-! ### The check, of this print -/
theorem hcheck_loop {l : List Int} (lim : Int) (hl : l.length ≤ 8192) (hp : 0 < l.length) : ∀ (d i : Nat), l.length - i ≤ d → 0 < i → i ≤ l.length →
    Ev (fun k => setops_Check.l0 k (l.length : Int) (i : Int) lim l) (if (incB (l.drop (i - 1)) && (lim == 0 || decide (l.getLastD 0 < lim))) = true then 0 else 2) := by
  intro d
  induction d with
  | zero =>
    intro i hd h0 h1
    have e : i = l.length := by omega
    subst e
    refine Ev.step (f := fun _ => some (if (incB (l.drop (l.length - 1)) && (lim == 0 || decide (l.getLastD 0 < lim))) = true then 0 else 2)) (fun k => ?_) (Ev.now _)
    simp only [setops_Check.l0]
    rw [if_neg (by omega), if_pos (by omega), drop_one l (l.length - 1) (by omega), last_getD l hp, w64' (by omega) (by omega)]
    by_cases hz : lim = 0
    · rw [if_pos hz]
      simp [hz, incB]
    · rw [if_neg hz, if_pos (by omega), if_pos (by omega)]
      by_cases hc : rd l ((l.length : Int) - 1) ≥ lim
      · rw [if_pos hc]
        simp [hz, incB, show ¬ rd l ((l.length : Int) - 1) < lim by omega]
      · rw [if_neg hc]
        simp [hz, incB, show rd l ((l.length : Int) - 1) < lim by omega]
  | succ d ih =>
    intro i hd h0 h1
    by_cases hlt : i < l.length
    · have e1 : ((i : Int) - 1) = ((i - 1 : Nat) : Int) := by omega
      have hd2 := drop_two l (i - 1) (by omega)
      have e2 : l.drop (i + 1 - 1) = l[i] :: l.drop (i + 1) := by rw [show i + 1 - 1 = i by omega]; exact List.drop_eq_getElem_cons hlt
      have e3 : i - 1 + 1 = i := by omega
      by_cases hc : l[i - 1] < l[i]
      · refine Ev.step (f := fun k => setops_Check.l0 k (l.length : Int) ((i + 1 : Nat) : Int) lim l) (fun k => ?_) ?_
        · simp only [setops_Check.l0]
          rw [if_pos (by omega), w64' (by omega) (by omega), e1, if_pos (by omega), if_pos (by omega), if_pos (by omega), if_pos (by omega), rd_nat' l (i - 1) (by omega), rd_nat' l i hlt, if_neg (by omega), w64' (by omega) (by omega)]
          rfl
        · have := ih (i + 1) (by omega) (by omega) (by omega)
          rw [hd2]
          simp only [e3]
          rw [incB_cons, decide_eq_true hc, Bool.true_and]
          rw [e2] at this
          rw [show i - 1 + 2 = i + 1 by omega]
          exact this
      · refine Ev.step (f := fun _ => some (if (incB (l.drop (i - 1)) && (lim == 0 || decide (l.getLastD 0 < lim))) = true then 0 else 2)) (fun k => ?_) (Ev.now _)
        simp only [setops_Check.l0]
        rw [if_pos (by omega), w64' (by omega) (by omega), e1, if_pos (by omega), if_pos (by omega), if_pos (by omega), if_pos (by omega), rd_nat' l (i - 1) (by omega), rd_nat' l i hlt, if_pos (by omega), hd2]
        simp only [e3]
        rw [incB_cons, decide_eq_false hc]
        simp
    · exact ih i (by omega) h0 h1
theorem hcheck_ex (lim : Int) (l : List Int) : ∃ k, setops_Check.f k lim l = some (vchk lim l) := by
  unfold setops_Check.f vchk
  by_cases h : 8192 < l.length
  · exact ⟨0, by rw [if_pos (by omega), if_pos h]⟩
  · rw [if_neg h]
    by_cases hp : 0 < l.length
    · have hl := hcheck_loop lim (by omega : l.length ≤ 8192) hp l.length 1 (by omega) (by omega) (by omega)
      obtain ⟨k, hk⟩ := hl.rounds
      refine ⟨k, ?_⟩
      rw [if_neg (by omega)]
      simp only [show ((1 : Nat) : Int) = 1 from rfl] at hk
      rw [hk]
      have : l.isEmpty = false := by
        cases l with
        | nil => simp at hp
        | cons a r => rfl
      rw [this, show (1 : Nat) - 1 = 0 from rfl, List.drop_zero, Bool.false_or]
    · have e : l = [] := List.length_eq_zero_iff.mp (by omega)
      subst e
      refine ⟨1, ?_⟩
      rw [if_neg (by simp)]
      simp only [setops_Check.l0]
      rw [if_neg (by simp), if_neg (by simp)]
      rfl
theorem hcheck (lim : Int) (l : List Int) : Ev (fun k => setops_Check.f k lim l) (vchk lim l) := by
  obtain ⟨k, h⟩ := hcheck_ex lim l
  exact ev_of (fun k => setops_Check.mono lim l k) h
theorem equal_loop (l : List Int) (hl : l.length ≤ 1000000000) : ∀ (d i : Nat), i + d = l.length → Ev (fun k => slices_Equal_uint64_uint64.l0 k l l (l.length : Int) (i : Int)) true := by
  intro d
  induction d with
  | zero =>
    intro i h
    refine Ev.step (f := fun _ => some true) (fun k => ?_) (Ev.now _)
    simp only [slices_Equal_uint64_uint64.l0]
    rw [if_neg (by omega)]
  | succ d ih =>
    intro i h
    refine Ev.step (f := fun k => slices_Equal_uint64_uint64.l0 k l l (l.length : Int) ((i + 1 : Nat) : Int)) (fun k => ?_) (ih (i + 1) (by omega))
    simp only [slices_Equal_uint64_uint64.l0]
    rw [if_pos (by omega), if_pos (by omega), if_pos (by omega), if_pos (by omega), if_pos trivial, w64' (by omega) (by omega)]
    rfl
theorem same_ev (L : Int) (l : List Int) (hl : l.length ≤ 1000000000) : Ev (fun k => setops_Same.f k L l L l) true := by
  unfold setops_Same.f slices_Equal_uint64_uint64.f
  refine Ev.congr (f := fun k => (slices_Equal_uint64_uint64.l0 k l l (l.length : Int) ((0 : Nat) : Int)).bind fun t202 => some t202) (fun k => ?_) (Ev.bind (equal_loop l hl l.length 0 (by omega)) (Ev.now _))
  rw [if_pos rfl, if_pos rfl]
  rfl
theorem lives17_ev : Ev (fun k => tallymanlaw17_lives.f k) true := ev_of (fun k => tallymanlaw17_lives.mono k) (k := 60) (by decide +kernel)
theorem u64_nat {x : Int} (h : (Lit.int .u64 x).wf = true) : ∃ n : Nat, x = (n : Int) ∧ n < 18446744073709551616 := by
  simp [Lit.wf, IntKind.min, IntKind.max, IntKind.signed, IntKind.bits] at h
  exact ⟨x.toNat, by omega, by omega⟩
theorem lim_nat (a b : Nat) : limS (a : Int) (b : Int) = ((if a = 0 then b else if b = 0 then a else if b < a then b else a : Nat) : Int) := by
  unfold limS
  repeat' split <;> try omega
end Go.Proofs.Ytpagondojdlknaa.H
