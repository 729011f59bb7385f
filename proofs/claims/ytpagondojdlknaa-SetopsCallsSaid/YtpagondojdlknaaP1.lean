/- Plain facts about the printed functions: what each of them answers. -/
import Derived.Test.YtpagondojdlknaaB1
namespace Go.Proofs.Ytpagondojdlknaa.H
open Go.RowKit Go.Proofs.YtpagondojdlknaaW.PrintWords Go.Proofs.YtpagondojdlknaaW.PrintLast Go.Proofs.YtpagondojdlknaaW.PrintMore
set_option linter.unusedVariables false
set_option linter.unusedSimpArgs false
/-! ### Sorted rows: the binary search, the check of a view -/
theorem w64' {x : Int} (h1 : -9223372036854775808 ≤ x) (h2 : x ≤ 9223372036854775807) : wrap64 x = x := by unfold wrap64; omega
theorem wu64' {x : Int} (h1 : 0 ≤ x) (h2 : x ≤ 18446744073709551615) : IntKind.u64.wrap x = x := by
  have e : IntKind.u64.wrap x = x % 18446744073709551616 := by
    unfold IntKind.wrap
    simp [show IntKind.u64.signed = false from rfl, show IntKind.u64.bits = 64 from rfl]
  rw [e]
  omega
theorem rd_nat' (l : List Int) (i : Nat) (h : i < l.length) : rd l (i : Int) = l[i] := by simp [rd, h]
theorem bnan (a : Int) : B.cmp_isNaN_uint64.f a = some false := by unfold B.cmp_isNaN_uint64.f; simp
theorem bnan2 (a : Int) : B.slices_isNaN_uint64.f a = some false := by unfold B.slices_isNaN_uint64.f; simp
theorem bless (a b : Int) : B.cmp_Less_uint64.f a b = some (decide (a < b)) := by unfold B.cmp_Less_uint64.f; rw [bnan]; rfl
def incB : List Int → Bool
  | a :: b :: r => decide (a < b) && incB (b :: r)
  | _ => true
theorem incB_cons (a b : Int) (r : List Int) : incB (a :: b :: r) = (decide (a < b) && incB (b :: r)) := rfl
theorem incB_tail {a : Int} {r : List Int} (h : incB (a :: r) = true) : incB r = true := by
  cases r with
  | nil => rfl
  | cons b r =>
    rw [incB_cons, Bool.and_eq_true] at h
    exact h.2
theorem incB_lt : ∀ {a : Int} {r : List Int}, incB (a :: r) = true → ∀ y ∈ r, a < y
  | _, [], _, y, hy => by cases hy
  | a, b :: r, h, y, hy => by
    rw [incB_cons, Bool.and_eq_true] at h
    have h1 : a < b := of_decide_eq_true h.1
    rcases List.mem_cons.mp hy with e | hy
    · omega
    · have := incB_lt h.2 y hy
      omega
def cntB (l : List Int) (x : Int) : Nat := (l.filter fun y => decide (y < x)).length
theorem cntB_le (l : List Int) (x : Int) : cntB l x ≤ l.length := List.length_filter_le _ _
theorem cntB_iff : ∀ {l : List Int} (x : Int), incB l = true → ∀ i, (h : i < l.length) → (l[i] < x ↔ i < cntB l x)
  | [], _, _, i, h => by simp at h
  | a :: r, x, hs, i, h => by
    have ht := incB_tail hs
    by_cases hx : a < x
    · have e : cntB (a :: r) x = cntB r x + 1 := by unfold cntB; rw [List.filter_cons_of_pos (by simpa using hx)]; rfl
      rw [e]
      cases i with
      | zero => simpa using hx
      | succ i =>
        have := cntB_iff x ht i (by simpa using h)
        simp only [List.getElem_cons_succ]
        omega
    · have e : cntB (a :: r) x = 0 := by
        unfold cntB
        rw [List.filter_cons_of_neg (by simpa using hx)]
        rw [List.length_eq_zero_iff, List.filter_eq_nil_iff]
        intro y hy
        have := incB_lt hs y hy
        simp
        omega
      rw [e]
      refine ⟨fun h2 => ?_, fun h2 => by omega⟩
      cases i with
      | zero => exact absurd h2 hx
      | succ i =>
        have := incB_lt hs _ (List.getElem_mem (by simpa using h : i < r.length))
        simp only [List.getElem_cons_succ] at h2
        omega
theorem bsearch_loop {l : List Int} (x : Int) (hs : incB l = true) (hl : l.length ≤ 1000000000) : ∀ (d i j : Nat), j - i ≤ d → i ≤ j → j ≤ l.length → i ≤ cntB l x → cntB l x ≤ j →
    ∃ b, Ev (fun k => B.slices_BinarySearch_uint64_uint64.l0 k l x (l.length : Int) (i : Int) (j : Int)) ((cntB l x : Int), b) := by
  intro d
  induction d using Nat.strongRecOn with
  | ind d ih =>
    intro i j hd hij hj h1 h2
    by_cases hlt : i < j
    · have hw : wrap64 ((i : Int) + (j : Int)) = ((i + j : Nat) : Int) := by rw [w64' (by omega) (by omega)]; omega
      have hm : wrap64 ((IntKind.u64.wrap (((i + j : Nat) : Int))) / 2) = (((i + j) / 2 : Nat) : Int) := by
        rw [wu64' (by omega) (by omega), w64' (by omega) (by omega)]
        omega
      obtain ⟨m, hm2⟩ : ∃ m, m = (i + j) / 2 := ⟨_, rfl⟩
      rw [← hm2] at hm
      have hml : m < l.length := by omega
      have hc := cntB_iff x hs m hml
      by_cases hx : l[m] < x
      · have hb := hc.1 hx
        obtain ⟨b, hev⟩ := ih (j - (m + 1)) (by omega) (m + 1) j (Nat.le_refl _) (by omega) hj (by omega) h2
        refine ⟨b, Ev.step (f := fun k => B.slices_BinarySearch_uint64_uint64.l0 k l x (l.length : Int) ((m + 1 : Nat) : Int) (j : Int)) (fun k => ?_) hev⟩
        simp only [B.slices_BinarySearch_uint64_uint64.l0]
        rw [if_pos (by omega), hw, hm, if_pos (by omega), if_pos (by omega), bless, Option.bind_some, rd_nat' l m hml, decide_eq_true hx, if_pos rfl, w64' (by omega) (by omega)]
        rfl
      · have hb : ¬ m < cntB l x := fun h => hx (hc.2 h)
        obtain ⟨b, hev⟩ := ih (m - i) (by omega) i m (Nat.le_refl _) (by omega) (by omega) h1 (by omega)
        refine ⟨b, Ev.step (f := fun k => B.slices_BinarySearch_uint64_uint64.l0 k l x (l.length : Int) (i : Int) (m : Int)) (fun k => ?_) hev⟩
        simp only [B.slices_BinarySearch_uint64_uint64.l0]
        rw [if_pos (by omega), hw, hm, if_pos (by omega), if_pos (by omega), bless, Option.bind_some, rd_nat' l m hml, decide_eq_false hx]
        exact if_neg (by decide)
    · have e : i = cntB l x := by omega
      rw [← e]
      by_cases hn : i < l.length
      · by_cases hq : l[i] = x
        · refine ⟨true, Ev.step (f := fun _ => some ((i : Int), true)) (fun k => ?_) (Ev.now _)⟩
          simp only [B.slices_BinarySearch_uint64_uint64.l0]
          rw [if_neg (by omega), if_pos (by omega), if_pos (by omega), if_pos (by omega), rd_nat' l i hn, if_pos hq]
        · refine ⟨false, Ev.step (f := fun _ => some ((i : Int), false)) (fun k => ?_) (Ev.now _)⟩
          simp only [B.slices_BinarySearch_uint64_uint64.l0]
          rw [if_neg (by omega), if_pos (by omega), if_pos (by omega), if_pos (by omega), rd_nat' l i hn, if_neg hq, bnan2]
          rfl
      · refine ⟨false, Ev.step (f := fun _ => some ((i : Int), false)) (fun k => ?_) (Ev.now _)⟩
        simp only [B.slices_BinarySearch_uint64_uint64.l0]
        rw [if_neg (by omega), if_neg (by omega)]
theorem bsearch_ev {l : List Int} (x : Int) (hs : incB l = true) (hl : l.length ≤ 1000000000) : ∃ b k, B.slices_BinarySearch_uint64_uint64.f k l x = some ((cntB l x : Int), b) := by
  obtain ⟨b, h⟩ := bsearch_loop x hs hl l.length 0 l.length (by omega) (by omega) (Nat.le_refl _) (by omega) (cntB_le _ _)
  obtain ⟨k, hk⟩ := h.rounds
  exact ⟨b, k, hk⟩
/-- May a view be? -/
def vchk (lim : Int) (l : List Int) : Int := if 8192 < l.length then 3 else if (incB l && (l.isEmpty || lim == 0 || decide (l.getLastD 0 < lim))) = true then 0 else 2
def limS (a b : Int) : Int := if a = 0 then b else if b = 0 then a else if b < a then b else a
theorem limit_eq (a b : Int) : B.setops_limit.f a b = some (limS a b) := by
  unfold B.setops_limit.f limS
  split
  · rfl
  · split
    · rfl
    · split <;> rfl
theorem drop_two (l : List Int) (i : Nat) (h : i + 1 < l.length) : l.drop i = l[i] :: l[i + 1] :: l.drop (i + 2) := by
  rw [List.drop_eq_getElem_cons (by omega : i < l.length), List.drop_eq_getElem_cons h]
theorem drop_one (l : List Int) (i : Nat) (h : i + 1 = l.length) : l.drop i = [l[i]] := by
  rw [List.drop_eq_getElem_cons (by omega : i < l.length), List.drop_of_length_le (by omega)]
theorem last_getD (l : List Int) (h : 0 < l.length) : l.getLastD 0 = rd l ((l.length : Int) - 1) := by
  have e : (l.length : Int) - 1 = ((l.length - 1 : Nat) : Int) := by omega
  rw [e, rd_nat' l (l.length - 1) (by omega), List.getLastD_eq_getLast?, List.getLast?_eq_getElem?, List.getElem?_eq_getElem (by omega)]
  rfl
theorem check_loop {l : List Int} (lim : Int) (hl : l.length ≤ 8192) (hp : 0 < l.length) : ∀ (d i : Nat), l.length - i ≤ d → 0 < i → i ≤ l.length →
    Ev (fun k => B.setops_Check.l0 k (l.length : Int) (i : Int) lim l) (if (incB (l.drop (i - 1)) && (lim == 0 || decide (l.getLastD 0 < lim))) = true then 0 else 2) := by
  intro d
  induction d with
  | zero =>
    intro i hd h0 h1
    have e : i = l.length := by omega
    subst e
    refine Ev.step (f := fun _ => some (if (incB (l.drop (l.length - 1)) && (lim == 0 || decide (l.getLastD 0 < lim))) = true then 0 else 2)) (fun k => ?_) (Ev.now _)
    simp only [B.setops_Check.l0]
    rw [if_neg (by omega), if_pos (by omega), drop_one l (l.length - 1) (by omega), last_getD l hp, w64' (by omega) (by omega)]
    by_cases hz : lim = 0
    · rw [if_pos hz]
      simp [hz, incB]
    · rw [if_neg hz, if_pos (by omega), if_pos (by omega)]
      by_cases hc : rd l ((l.length : Int) - 1) ≥ lim
      · rw [if_pos hc]
        simp [hz, incB, show ¬ rd l ((l.length : Int) - 1) < lim by omega]
      · rw [if_neg hc]
        simp [hz, incB, show rd l ((l.length : Int) - 1) < lim by omega]
  | succ d ih =>
    intro i hd h0 h1
    by_cases hlt : i < l.length
    · have e1 : ((i : Int) - 1) = ((i - 1 : Nat) : Int) := by omega
      have hd2 := drop_two l (i - 1) (by omega)
      have e2 : l.drop (i + 1 - 1) = l[i] :: l.drop (i + 1) := by rw [show i + 1 - 1 = i by omega]; exact List.drop_eq_getElem_cons hlt
      have e3 : i - 1 + 1 = i := by omega
      by_cases hc : l[i - 1] < l[i]
      · refine Ev.step (f := fun k => B.setops_Check.l0 k (l.length : Int) ((i + 1 : Nat) : Int) lim l) (fun k => ?_) ?_
        · simp only [B.setops_Check.l0]
          rw [if_pos (by omega), w64' (by omega) (by omega), e1, if_pos (by omega), if_pos (by omega), if_pos (by omega), if_pos (by omega), rd_nat' l (i - 1) (by omega), rd_nat' l i hlt, if_neg (by omega), w64' (by omega) (by omega)]
          rfl
        · have := ih (i + 1) (by omega) (by omega) (by omega)
          rw [hd2]
          simp only [e3]
          rw [incB_cons, decide_eq_true hc, Bool.true_and]
          rw [e2] at this
          rw [show i - 1 + 2 = i + 1 by omega]
          exact this
      · refine Ev.step (f := fun _ => some (if (incB (l.drop (i - 1)) && (lim == 0 || decide (l.getLastD 0 < lim))) = true then 0 else 2)) (fun k => ?_) (Ev.now _)
        simp only [B.setops_Check.l0]
        rw [if_pos (by omega), w64' (by omega) (by omega), e1, if_pos (by omega), if_pos (by omega), if_pos (by omega), if_pos (by omega), rd_nat' l (i - 1) (by omega), rd_nat' l i hlt, if_pos (by omega), hd2]
        simp only [e3]
        rw [incB_cons, decide_eq_false hc]
        simp
    · exact ih i (by omega) h0 h1
theorem check_ev (lim : Int) (l : List Int) : ∃ k, B.setops_Check.f k lim l = some (vchk lim l) := by
  unfold B.setops_Check.f vchk
  by_cases h : 8192 < l.length
  · exact ⟨0, by rw [if_pos (by omega), if_pos h]⟩
  · rw [if_neg h]
    by_cases hp : 0 < l.length
    · have hl := check_loop lim (by omega : l.length ≤ 8192) hp l.length 1 (by omega) (by omega) (by omega)
      obtain ⟨k, hk⟩ := hl.rounds
      refine ⟨k, ?_⟩
      rw [if_neg (by omega)]
      simp only [show ((1 : Nat) : Int) = 1 from rfl] at hk
      rw [hk]
      have : l.isEmpty = false := by
        cases l with
        | nil => simp at hp
        | cons a r => rfl
      rw [this, show (1 : Nat) - 1 = 0 from rfl, List.drop_zero, Bool.false_or]
    · have e : l = [] := List.length_eq_zero_iff.mp (by omega)
      subst e
      refine ⟨1, ?_⟩
      rw [if_neg (by simp)]
      simp only [B.setops_Check.l0]
      rw [if_neg (by simp), if_neg (by simp)]
      rfl
theorem vchk_inc {lim : Int} {l : List Int} (h : vchk lim l = 0) : incB l = true ∧ l.length ≤ 8192 := by
  unfold vchk at h
  split at h
  · cases h
  · split at h
    · rename_i h1 h2
      rw [Bool.and_eq_true] at h2
      exact ⟨h2.1, by omega⟩
    · cases h
def belowS (l : List Int) (lim : Int) : List Int := if lim = 0 then l else l.take (cntB l lim)
/-- Two rows side by side. -/
def pairsS : List Int → List Int → List (Int × Bool × Bool)
  | [], [] => []
  | a :: x, [] => (a, true, false) :: pairsS x []
  | [], b :: y => (b, false, true) :: pairsS [] y
  | a :: x, b :: y => if a < b then (a, true, false) :: pairsS x (b :: y) else if b < a then (b, false, true) :: pairsS (a :: x) y else (a, true, true) :: pairsS x y
termination_by x y => x.length + y.length
theorem pairsS_len : ∀ x y : List Int, (pairsS x y).length ≤ x.length + y.length
  | [], [] => by simp [pairsS]
  | a :: x, [] => by
    have := pairsS_len x []
    simp [pairsS] at this ⊢
    omega
  | [], b :: y => by
    have := pairsS_len [] y
    simp [pairsS] at this ⊢
    omega
  | a :: x, b :: y => by
    have h1 := pairsS_len x (b :: y)
    have h2 := pairsS_len (a :: x) y
    have h3 := pairsS_len x y
    unfold pairsS
    split
    · simp at h1 ⊢; omega
    · split
      · simp at h2 ⊢; omega
      · simp at h3 ⊢; omega
termination_by x y => x.length + y.length
end Go.Proofs.Ytpagondojdlknaa.H
