/- Plain facts about the printed functions: what each of them answers. -/
import Derived.Test.YtbclnjinpcfpjaaH2
namespace Go.Proofs.Ytbclnjinpcfpjaa.H
open Go.RowKit Go.Proofs.YtbclnjinpcfpjaaW.PrintWords Go.Proofs.YtbclnjinpcfpjaaW.PrintLast Go.Proofs.YtbclnjinpcfpjaaW.PrintMore
set_option linter.unusedVariables false
set_option linter.unusedSimpArgs false
/-! The logarithm, in plain numbers. -/
theorem w64 {x : Int} (h1 : -9223372036854775808 ≤ x) (h2 : x ≤ 9223372036854775807) : wrap64 x = x := by unfold wrap64; omega
theorem wu64 {x : Int} (h1 : 0 ≤ x) (h2 : x ≤ 18446744073709551615) : IntKind.u64.wrap x = x := by
  have e : IntKind.u64.wrap x = x % 18446744073709551616 := by
    unfold IntKind.wrap
    simp [show IntKind.u64.signed = false from rfl, show IntKind.u64.bits = 64 from rfl]
  rw [e]
  omega
def logStep (s : Nat × Nat) : Nat × Nat :=
  if 4294967296 ≤ s.2 * s.2 / 2147483648 then (2 * s.1 + 1, s.2 * s.2 / 2147483648 / 2) else (2 * s.1, s.2 * s.2 / 2147483648)
def logIter : Nat → Nat × Nat → Nat × Nat
  | 0, s => s
  | d + 1, s => logIter d (logStep s)
def logM (x : Nat) : Nat := if 31 < x.log2 then x / 2 ^ (x.log2 - 31) else x * 2 ^ (31 - x.log2)
def logS (x : Nat) : Nat := (logIter 16 (x.log2, logM x)).1

/-- A number between 1 and 2, told in 31 bits behind the point. -/
def Nrm (m : Nat) : Prop := 2147483648 ≤ m ∧ m < 4294967296
theorem sq_bounds {m : Nat} (h : Nrm m) : 2147483648 ≤ m * m / 2147483648 ∧ m * m / 2147483648 < 8589934592 ∧ m * m < 18446744073709551616 := by
  obtain ⟨h1, h2⟩ := h
  have a : 2147483648 * 2147483648 ≤ m * m := Nat.mul_le_mul h1 h1
  have b : m * m ≤ 4294967295 * 4294967295 := Nat.mul_le_mul (by omega) (by omega)
  refine ⟨?_, ?_, ?_⟩
  · exact (Nat.le_div_iff_mul_le (by omega)).2 a
  · exact (Nat.div_lt_iff_lt_mul (by omega)).2 (by omega)
  · omega
theorem logStep_nrm {s : Nat × Nat} (h : Nrm s.2) : Nrm (logStep s).2 := by
  have := sq_bounds h
  unfold logStep
  split
  · constructor
    · show 2147483648 ≤ s.2 * s.2 / 2147483648 / 2
      omega
    · show s.2 * s.2 / 2147483648 / 2 < 4294967296
      omega
  · exact ⟨this.1, by omega⟩
theorem logM_nrm {x : Nat} (h0 : x ≠ 0) : Nrm (logM x) := by
  have h1 := Nat.log2_self_le h0
  have h2 : x < 2 ^ (x.log2 + 1) := Nat.lt_log2_self
  unfold logM
  split
  next h =>
    have e : 2 ^ x.log2 = 2 ^ 31 * 2 ^ (x.log2 - 31) := by rw [← Nat.pow_add]; congr 1; omega
    have e2 : 2 ^ (x.log2 + 1) = 2 ^ 32 * 2 ^ (x.log2 - 31) := by rw [← Nat.pow_add]; congr 1; omega
    rw [e] at h1; rw [e2] at h2
    exact ⟨(Nat.le_div_iff_mul_le (Nat.two_pow_pos _)).2 h1, (Nat.div_lt_iff_lt_mul (Nat.two_pow_pos _)).2 h2⟩
  next h =>
    have e : 2 ^ x.log2 * 2 ^ (31 - x.log2) = 2 ^ 31 := by rw [← Nat.pow_add]; congr 1; omega
    have e2 : 2 ^ (x.log2 + 1) * 2 ^ (31 - x.log2) = 2 ^ 32 := by rw [← Nat.pow_add]; congr 1; omega
    constructor
    · calc 2147483648 = 2 ^ x.log2 * 2 ^ (31 - x.log2) := e.symm
        _ ≤ x * 2 ^ (31 - x.log2) := Nat.mul_le_mul_right _ h1
    · calc x * 2 ^ (31 - x.log2) < 2 ^ (x.log2 + 1) * 2 ^ (31 - x.log2) := Nat.mul_lt_mul_of_pos_right h2 (Nat.two_pow_pos _)
        _ = 4294967296 := e2

/-! order -/
def lexLe (s t : Nat × Nat) : Prop := s.1 < t.1 ∨ (s.1 = t.1 ∧ s.2 ≤ t.2)
theorem logStep_mono {s t : Nat × Nat} (h : lexLe s t) : lexLe (logStep s) (logStep t) := by
  rcases h with h | ⟨h1, h2⟩
  · left
    unfold logStep
    split <;> split <;> simp only <;> omega
  · have hq : s.2 * s.2 / 2147483648 ≤ t.2 * t.2 / 2147483648 := Nat.div_le_div_right (Nat.mul_le_mul h2 h2)
    unfold logStep lexLe
    split <;> split <;> simp only <;> omega
theorem logIter_mono : ∀ (d : Nat) {s t : Nat × Nat}, lexLe s t → lexLe (logIter d s) (logIter d t)
  | 0, _, _, h => h
  | d + 1, _, _, h => logIter_mono d (logStep_mono h)
theorem logStart_mono {x y : Nat} (h : x ≤ y) (h0 : x ≠ 0) : lexLe (x.log2, logM x) (y.log2, logM y) := by
  have hl : x.log2 ≤ y.log2 := by
    rw [Nat.le_log2 (by omega)]
    exact Nat.le_trans (Nat.log2_self_le h0) h
  by_cases e : x.log2 = y.log2
  · right
    refine ⟨e, ?_⟩
    show logM x ≤ logM y
    unfold logM
    rw [e]
    split
    · exact Nat.div_le_div_right h
    · exact Nat.mul_le_mul_right _ h
  · left
    show x.log2 < y.log2
    omega
theorem logS_mono {x y : Nat} (h : x ≤ y) (h0 : x ≠ 0) : logS x ≤ logS y := by
  rcases logIter_mono 16 (logStart_mono h h0) with h | ⟨h, _⟩
  · exact Nat.le_of_lt h
  · exact Nat.le_of_eq h

/-! doubling; powers of two -/
theorem logIter_add : ∀ (d f m c : Nat), logIter d (f + c, m) = ((logIter d (f, m)).1 + c * 2 ^ d, (logIter d (f, m)).2)
  | 0, f, m, c => by simp [logIter]
  | d + 1, f, m, c => by
    show logIter d (logStep (f + c, m)) = _
    have e : logStep (f + c, m) = ((logStep (f, m)).1 + 2 * c, (logStep (f, m)).2) := by
      unfold logStep
      simp only
      split <;> simp only [Prod.mk.injEq, and_true] <;> omega
    rw [e, logIter_add d _ _ (2 * c)]
    simp only [logIter]
    rw [show 2 * c * 2 ^ d = c * 2 ^ (d + 1) by rw [Nat.pow_succ, Nat.mul_comm 2 c, Nat.mul_assoc, Nat.mul_comm 2]]
theorem log2_two_mul {x : Nat} (h0 : x ≠ 0) : (2 * x).log2 = x.log2 + 1 := by
  rw [Nat.log2_eq_iff (by omega)]
  have h1 := Nat.log2_self_le h0
  have h2 : x < 2 ^ (x.log2 + 1) := Nat.lt_log2_self
  have e : 2 ^ (x.log2 + 1) = 2 * 2 ^ x.log2 := by rw [Nat.pow_succ, Nat.mul_comm]
  have e2 : 2 ^ (x.log2 + 1 + 1) = 2 * 2 ^ (x.log2 + 1) := by rw [Nat.pow_succ 2 (x.log2 + 1), Nat.mul_comm]
  omega
theorem logS_double {x : Nat} (h0 : x ≠ 0) (h : x ≤ 2147483648) : logS (2 * x) = logS x + 65536 := by
  have hl : x.log2 ≤ 31 := by
    have : x.log2 < 32 := (Nat.log2_lt h0).2 (by omega)
    omega
  have hm : logM (2 * x) = logM x := by
    unfold logM
    rw [log2_two_mul h0]
    by_cases e : x.log2 = 31
    · rw [e, if_pos (by omega), if_neg (by omega)]
      show 2 * x / 2 ^ 1 = x * 2 ^ 0
      omega
    · rw [if_neg (by omega), if_neg (by omega), show 31 - x.log2 = 31 - (x.log2 + 1) + 1 by omega, Nat.pow_succ, Nat.mul_comm 2 x, Nat.mul_assoc, Nat.mul_comm 2]
  unfold logS
  rw [hm, log2_two_mul h0, logIter_add]
theorem logS_pow (k : Nat) : logS (2 ^ k) = 65536 * k := by
  have hm : logM (2 ^ k) = 2147483648 := by
    unfold logM
    rw [Nat.log2_two_pow]
    split
    · rw [Nat.pow_div (by omega) (by omega), show k - (k - 31) = 31 by omega]
      
    · rw [← Nat.pow_add, show k + (31 - k) = 31 by omega]
      
  unfold logS
  rw [hm, Nat.log2_two_pow]
  have := logIter_add 16 0 2147483648 k
  rw [Nat.zero_add] at this
  rw [this]
  have e : logIter 16 (0, 2147483648) = (0, 2147483648) := by decide +kernel
  rw [e]
  show 0 + k * 2 ^ 16 = 65536 * k
  omega

/-! what it means: 2^N is at most x^65536, and four times 2^N is more -/
theorem low_step {X P f m : Nat} (h : 2 ^ f * m ≤ X * P) (hP : P = 2147483648) (hm : Nrm m) : 2 ^ (logStep (f, m)).1 * (logStep (f, m)).2 ≤ (X * X) * P := by
  subst hP
  have h2 : (2 ^ f * m) * (2 ^ f * m) ≤ (X * 2147483648) * (X * 2147483648) := Nat.mul_le_mul h h
  have e1 : (2 ^ f * m) * (2 ^ f * m) = 2 ^ (2 * f) * (m * m) := by
    rw [Nat.two_mul, Nat.pow_add]
    simp only [Nat.mul_assoc, Nat.mul_left_comm, Nat.mul_comm]
  have e2 : (X * 2147483648) * (X * 2147483648) = (X * X * 2147483648) * 2147483648 := by
    simp only [Nat.mul_assoc, Nat.mul_left_comm, Nat.mul_comm]
  rw [e1, e2] at h2
  have hq : m * m / 2147483648 * 2147483648 ≤ m * m := Nat.div_mul_le_self _ _
  have h3 : 2 ^ (2 * f) * (m * m / 2147483648) ≤ X * X * 2147483648 := by
    refine Nat.le_of_mul_le_mul_right (c := 2147483648) ?_ (by omega)
    refine Nat.le_trans ?_ h2
    rw [Nat.mul_assoc]
    exact Nat.mul_le_mul_left _ hq
  unfold logStep
  simp only
  split
  · show 2 ^ (2 * f + 1) * (m * m / 2147483648 / 2) ≤ _
    refine Nat.le_trans ?_ h3
    rw [Nat.pow_succ, Nat.mul_assoc]
    refine Nat.mul_le_mul_left _ ?_
    omega
  · exact h3
theorem hs_cut {Y A H T2 S mm q : Nat} (hH : 0 < H) (h2 : Y * A * H ≤ T2 * S * mm) (hq : mm ≤ (q + 1) * H) : Y * A ≤ T2 * S * (q + 1) := by
  refine Nat.le_of_mul_le_mul_right (c := H) ?_ hH
  refine Nat.le_trans h2 ?_
  rw [Nat.mul_assoc (T2 * S)]
  exact Nat.mul_le_mul_left _ hq
theorem hs_aux {Y T2 S q A D C : Nat} (h3 : Y * A ≤ T2 * S * (q + 1)) (hc : (q + 1) * D ≤ q * C) : Y * (A * D) ≤ T2 * q * (S * C) := by
  have h4 : Y * A * D ≤ T2 * S * (q + 1) * D := Nat.mul_le_mul_right D h3
  rw [Nat.mul_assoc, Nat.mul_assoc (T2 * S)] at h4
  refine Nat.le_trans h4 (Nat.le_trans (Nat.mul_le_mul_left _ hc) (Nat.le_of_eq ?_))
  simp only [Nat.mul_assoc, Nat.mul_left_comm, Nat.mul_comm]
theorem hs_aux2 {Y T2 S q r A D C : Nat} (h3 : Y * A ≤ T2 * S * (q + 1)) (hc : (q + 1) * D ≤ 2 * r * C) : Y * (A * D) ≤ T2 * 2 * r * (S * C) := by
  have h4 : Y * A * D ≤ T2 * S * (q + 1) * D := Nat.mul_le_mul_right D h3
  rw [Nat.mul_assoc, Nat.mul_assoc (T2 * S)] at h4
  refine Nat.le_trans h4 (Nat.le_trans (Nat.mul_le_mul_left _ hc) (Nat.le_of_eq ?_))
  simp only [Nat.mul_assoc, Nat.mul_left_comm, Nat.mul_comm]
theorem hs_sq {X H F T m E : Nat} (h : X * H * F ≤ T * m * E) : (X * X * H) * (F * F) * H ≤ (T * T) * (E * E) * (m * m) := by
  have h2 : (X * H * F) * (X * H * F) ≤ (T * m * E) * (T * m * E) := Nat.mul_le_mul h h
  have e1 : (T * m * E) * (T * m * E) = (T * T) * (E * E) * (m * m) := by simp only [Nat.mul_assoc, Nat.mul_left_comm, Nat.mul_comm]
  have e2 : (X * H * F) * (X * H * F) = (X * X * H) * (F * F) * H := by simp only [Nat.mul_assoc, Nat.mul_left_comm, Nat.mul_comm]
  rwa [e1, e2] at h2
theorem q_c {q : Nat} (h : 2147483648 ≤ q) : (q + 1) * 1073741824 ≤ q * 1073741825 := by omega
theorem q_c2 {q : Nat} (h : 4294967296 ≤ q) : (q + 1) * 1073741824 ≤ 2 * (q / 2) * 1073741825 := by omega
theorem high_step {X E F f m : Nat} (h : X * 2147483648 * F ≤ 2 ^ f * m * E) (hm : Nrm m) :
    (X * X) * 2147483648 * (F * F * 1073741824) ≤ 2 ^ (logStep (f, m)).1 * (logStep (f, m)).2 * (E * E * 1073741825) := by
  have h2 := hs_sq h
  have hb := sq_bounds hm
  have hq : m * m ≤ (m * m / 2147483648 + 1) * 2147483648 := by
    have := Nat.div_add_mod (m * m) 2147483648
    have := Nat.mod_lt (m * m) (show 0 < 2147483648 by omega)
    omega
  have h3 := hs_cut (by omega) h2 hq
  have e2 : 2 ^ (2 * f) = 2 ^ f * 2 ^ f := by rw [Nat.two_mul, Nat.pow_add]
  unfold logStep
  simp only
  generalize m * m / 2147483648 = q at hb h3
  split
  · show _ ≤ 2 ^ (2 * f + 1) * (q / 2) * (E * E * 1073741825)
    rw [Nat.pow_succ, e2]
    exact hs_aux2 h3 (q_c2 (by assumption))
  · show _ ≤ 2 ^ (2 * f) * q * (E * E * 1073741825)
    rw [e2]
    exact hs_aux h3 (q_c hb.1)
/-- X after d squarings. -/
def sqs : Nat → Nat → Nat
  | 0, X => X
  | d + 1, X => sqs d (X * X)
def sqc (c : Nat) : Nat → Nat → Nat
  | 0, E => E
  | d + 1, E => sqc c d (E * E * c)
theorem sqs_mul : ∀ (d a b : Nat), sqs d (a * b) = sqs d a * sqs d b
  | 0, _, _ => rfl
  | d + 1, a, b => by
    show sqs d (a * b * (a * b)) = sqs d (a * a) * sqs d (b * b)
    rw [← sqs_mul d (a * a) (b * b)]
    congr 1
    simp only [Nat.mul_assoc, Nat.mul_left_comm, Nat.mul_comm]
theorem low_iter : ∀ (d X f m : Nat), 2 ^ f * m ≤ X * 2147483648 → Nrm m → 2 ^ (logIter d (f, m)).1 * (logIter d (f, m)).2 ≤ sqs d X * 2147483648
  | 0, _, _, _, h, _ => h
  | d + 1, X, f, m, h, hm => low_iter d (X * X) _ _ (low_step h rfl hm) (logStep_nrm (s := (f, m)) hm)
theorem high_iter (D C H : Nat) (hD : D = 1073741824) (hC : C = 1073741825) (hH : H = 2147483648) (d : Nat) : ∀ (X E F f m : Nat), X * H * F ≤ 2 ^ f * m * E → Nrm m →
    sqs d X * H * sqc D d F ≤ 2 ^ (logIter d (f, m)).1 * (logIter d (f, m)).2 * sqc C d E := by
  induction d with
  | zero =>
    intro X E F f m h _
    exact h
  | succ d ih =>
    intro X E F f m h hm
    have h1 : (X * X) * H * (F * F * D) ≤ 2 ^ (logStep (f, m)).1 * (logStep (f, m)).2 * (E * E * C) := by
      subst hD hC hH
      exact high_step h hm
    exact ih _ _ _ _ _ h1 (logStep_nrm (s := (f, m)) hm)
theorem logIter_nrm : ∀ (d : Nat) (s : Nat × Nat), Nrm s.2 → Nrm (logIter d s).2
  | 0, _, h => h
  | d + 1, s, h => logIter_nrm d _ (logStep_nrm h)
theorem big_pow : sqc 1073741825 16 1073741825 ≤ 2 * sqc 1073741824 16 1073741824 := by decide +kernel
theorem sqc_pos {c : Nat} (hc : 0 < c) : ∀ (d E : Nat), 0 < E → 0 < sqc c d E
  | 0, _, h => h
  | d + 1, _, h => sqc_pos hc d _ (Nat.mul_pos (Nat.mul_pos h h) hc)
theorem logM_low {x : Nat} (h0 : x ≠ 0) : 2 ^ x.log2 * logM x ≤ x * 2147483648 := by
  unfold logM
  split
  next h =>
    have e : 2 ^ x.log2 = 2147483648 * 2 ^ (x.log2 - 31) := by rw [show (2147483648 : Nat) = 2 ^ 31 by rfl, ← Nat.pow_add]; congr 1; omega
    rw [e, Nat.mul_assoc, Nat.mul_comm x]
    refine Nat.mul_le_mul_left _ ?_
    rw [Nat.mul_comm]
    exact Nat.div_mul_le_self _ _
  next h =>
    have e : 2 ^ x.log2 * 2 ^ (31 - x.log2) = 2147483648 := by rw [← Nat.pow_add, show x.log2 + (31 - x.log2) = 31 by omega]
    rw [Nat.mul_left_comm, e]
    exact Nat.le_refl _
theorem logM_high {x : Nat} (h0 : x ≠ 0) : x * 2147483648 * 1073741824 ≤ 2 ^ x.log2 * logM x * 1073741825 := by
  have hn := logM_nrm h0
  revert hn
  unfold logM
  split
  next h =>
    intro hn
    have e : 2 ^ x.log2 = 2147483648 * 2 ^ (x.log2 - 31) := by rw [show (2147483648 : Nat) = 2 ^ 31 by rfl, ← Nat.pow_add]; congr 1; omega
    rw [e]
    generalize hp : 2 ^ (x.log2 - 31) = p at hn
    have hpp : 0 < p := hp ▸ Nat.two_pow_pos _
    have hq : x ≤ (x / p + 1) * p := by
      have := Nat.div_add_mod x p
      have := Nat.mod_lt x hpp
      rw [Nat.add_mul, Nat.mul_comm (x / p)]
      omega
    generalize x / p = q at hq hn
    have h1 : 1 * x ≤ 1 * p * (q + 1) := by rw [Nat.one_mul, Nat.one_mul, Nat.mul_comm p]; exact hq
    have h2 := hn.1
    have h3 := hs_aux (D := 1073741824) (C := 1073741825) h1 (by omega)
    rw [Nat.one_mul, Nat.one_mul] at h3
    have h4 := Nat.mul_le_mul_left 2147483648 h3
    have e1 : x * 2147483648 * 1073741824 = 2147483648 * (x * 1073741824) := by rw [Nat.mul_comm x, Nat.mul_assoc]
    have e2 : 2147483648 * p * q * 1073741825 = 2147483648 * (p * q * 1073741825) := by rw [Nat.mul_assoc, Nat.mul_assoc, Nat.mul_assoc]
    rw [e1, e2]
    refine Nat.le_trans h4 (Nat.le_of_eq ?_)
    simp only [Nat.mul_assoc, Nat.mul_left_comm, Nat.mul_comm]
  next h =>
    intro _
    have e : 2 ^ x.log2 * 2 ^ (31 - x.log2) = 2147483648 := by rw [← Nat.pow_add, show x.log2 + (31 - x.log2) = 31 by omega]
    rw [Nat.mul_left_comm, e]
    omega
theorem logS_low {x : Nat} (h0 : x ≠ 0) : 2 ^ logS x ≤ sqs 16 x := by
  have h := low_iter 16 x x.log2 (logM x) (logM_low h0) (logM_nrm h0)
  have hn := (logIter_nrm 16 (x.log2, logM x) (logM_nrm h0)).1
  show 2 ^ (logIter 16 (x.log2, logM x)).1 ≤ sqs 16 x
  refine Nat.le_of_mul_le_mul_right (c := 2147483648) ?_ (by omega)
  exact Nat.le_trans (Nat.mul_le_mul_left _ hn) h
theorem last_cut {Y T m A B H : Nat} (hn : m < 2 * H) (hb : A ≤ 2 * B) (hp : 0 < B) (hT : 0 < T) (h : Y * H * B ≤ T * m * A) : Y < 4 * T := by
  rcases Nat.lt_or_ge Y (4 * T) with hlt | hge
  · exact hlt
  exfalso
  have h1 : T * m * A ≤ T * m * (2 * B) := Nat.mul_le_mul_left _ hb
  have h2 : 4 * T * H * B ≤ Y * H * B := Nat.mul_le_mul_right _ (Nat.mul_le_mul_right _ hge)
  have h3 : 4 * T * H * B ≤ T * m * (2 * B) := Nat.le_trans h2 (Nat.le_trans h h1)
  have e1 : 4 * T * H * B = (T * B) * (4 * H) := by simp only [Nat.mul_assoc, Nat.mul_left_comm, Nat.mul_comm]
  have e2 : T * m * (2 * B) = (T * B) * (2 * m) := by simp only [Nat.mul_assoc, Nat.mul_left_comm, Nat.mul_comm]
  rw [e1, e2] at h3
  have := Nat.le_of_mul_le_mul_left h3 (Nat.mul_pos hT hp)
  omega
theorem logS_high {x : Nat} (h0 : x ≠ 0) : sqs 16 x < 4 * 2 ^ logS x := by
  have h := high_iter _ _ _ rfl rfl rfl 16 x 1073741825 1073741824 x.log2 (logM x) (logM_high h0) (logM_nrm h0)
  have hn := (logIter_nrm 16 (x.log2, logM x) (logM_nrm h0)).2
  exact last_cut (H := 2147483648) (by omega) big_pow (sqc_pos (c := 1073741824) (by omega) 16 1073741824 (by omega)) (Nat.two_pow_pos _) h
theorem logS_mul {a b : Nat} (ha : a ≠ 0) (hb : b ≠ 0) : logS a + logS b ≤ logS (a * b) + 1 ∧ logS (a * b) ≤ logS a + logS b + 3 := by
  have hab : a * b ≠ 0 := Nat.mul_ne_zero ha hb
  have la := logS_low ha
  have lb := logS_low hb
  have lc := logS_low hab
  have ha' := logS_high ha
  have hb' := logS_high hb
  have hc' := logS_high hab
  rw [sqs_mul] at lc hc'
  have e4 : (4 : Nat) = 2 ^ 2 := rfl
  constructor
  · have h : 2 ^ (logS a + logS b) < 2 ^ (2 + logS (a * b)) := by
      rw [Nat.pow_add, Nat.pow_add]
      exact Nat.lt_of_le_of_lt (Nat.mul_le_mul la lb) hc'
    have := (Nat.pow_lt_pow_iff_right (by omega)).1 h
    omega
  · have h : 2 ^ logS (a * b) < 2 ^ (2 + logS a + (2 + logS b)) := by
      rw [Nat.pow_add, Nat.pow_add, Nat.pow_add]
      exact Nat.lt_of_le_of_lt lc (Nat.mul_lt_mul_of_lt_of_le ha' (Nat.le_of_lt hb') (by have := Nat.two_pow_pos (logS b); omega))
    have := (Nat.pow_lt_pow_iff_right (by omega)).1 h
    omega
/-! What the printed dense.Log2 answers. -/
theorem or_one (f : Nat) : 2 * f ||| 1 = 2 * f + 1 := (Nat.two_pow_add_eq_or_of_lt (i := 1) (b := 1) (by omega) f).symm
theorem bits_or_one (f : Nat) (h : f < 1099511627776) : Go.bits .or .i64 (2 * (f : Int)) 1 = 2 * (f : Int) + 1 := by
  have e1 : (BitVec.ofInt 64 (2 * (f : Int))).toNat = 2 * f := by
    rw [BitVec.toNat_ofInt]
    omega
  have e2 : (BitVec.ofInt 64 1).toNat = 1 := rfl
  have e3 : (BitVec.ofInt 64 (2 * (f : Int)) ||| BitVec.ofInt 64 1).toNat = 2 * f + 1 := by rw [BitVec.toNat_or, e1, e2, or_one]
  show IntKind.i64.wrap ((BitVec.ofInt 64 (2 * (f : Int)) ||| BitVec.ofInt 64 1).toNat : Int) = _
  rw [e3]
  have e4 : IntKind.i64.wrap (((2 * f + 1 : Nat)) : Int) = wrap64 ((2 * f + 1 : Nat) : Int) := i64_w _
  rw [e4, w64 (by omega) (by omega)]
  omega
theorem log2_loop (m0 : Nat) : ∀ (d i f m : Nat), i + d = 16 → f < 64 * 2 ^ i → Nrm m → Ev (fun k => dense_Log2.l0 k (f : Int) (m : Int) (i : Int)) ((logIter d (f, m)).1 : Int) := by
  intro d
  induction d with
  | zero =>
    intro i f m hi hf hm
    refine Ev.step (f := fun _ => some (f : Int)) (fun k => ?_) (Ev.now _)
    simp only [dense_Log2.l0]
    rw [if_neg (by omega)]
  | succ d ih =>
    intro i f m hi hf hm
    have hfb : f < 1099511627776 := by
      have : 2 ^ i ≤ 2 ^ 16 := Nat.pow_le_pow_right (by omega) (by omega)
      omega
    have hb := sq_bounds hm
    have hmm : ((m : Int) * (m : Int)) = ((m * m : Nat) : Int) := by rw [Int.natCast_mul]
    have hw : IntKind.u64.wrap ((m : Int) * (m : Int)) = ((m * m : Nat) : Int) := by rw [hmm]; exact wu64 (by omega) (by omega)
    have hd1 : ((m * m : Nat) : Int) / 2147483648 = ((m * m / 2147483648 : Nat) : Int) := by omega
    have hi1 : wrap64 ((i : Int) + 1) = ((i + 1 : Nat) : Int) := by rw [w64 (by omega) (by omega)]; omega
    have hf2 : wrap64 ((f : Int) * 2) = ((2 * f : Nat) : Int) := by rw [w64 (by omega) (by omega)]; omega
    have hn := logStep_nrm (s := (f, m)) hm
    have hps : 64 * 2 ^ (i + 1) = 2 * (64 * 2 ^ i) := by rw [Nat.pow_succ]; omega
    by_cases hq : 4294967296 ≤ m * m / 2147483648
    · have es : logStep (f, m) = (2 * f + 1, m * m / 2147483648 / 2) := by unfold logStep; rw [if_pos hq]
      rw [es] at hn
      refine Ev.step (f := fun k => dense_Log2.l0 k ((2 * f + 1 : Nat) : Int) ((m * m / 2147483648 / 2 : Nat) : Int) ((i + 1 : Nat) : Int)) (fun k => ?_) ?_
      · simp only [dense_Log2.l0]
        rw [if_pos (by omega), hw, hd1, if_pos (by omega), hi1, hf2]
        have e1 : Go.bits .or .i64 ((2 * f : Nat) : Int) 1 = ((2 * f + 1 : Nat) : Int) := by
          have := bits_or_one f hfb
          rw [show ((2 * f : Nat) : Int) = 2 * (f : Int) by omega, this]
          omega
        have e2 : ((m * m / 2147483648 : Nat) : Int) / 2 = ((m * m / 2147483648 / 2 : Nat) : Int) := by omega
        rw [e1, e2]
      · rw [show logIter (d + 1) (f, m) = logIter d (logStep (f, m)) from rfl, es]
        exact ih (i + 1) _ _ (by omega) (by omega) hn
    · have es : logStep (f, m) = (2 * f, m * m / 2147483648) := by unfold logStep; rw [if_neg hq]
      rw [es] at hn
      refine Ev.step (f := fun k => dense_Log2.l0 k ((2 * f : Nat) : Int) ((m * m / 2147483648 : Nat) : Int) ((i + 1 : Nat) : Int)) (fun k => ?_) ?_
      · simp only [dense_Log2.l0]
        rw [if_pos (by omega), hw, hd1, if_neg (by omega), hi1, hf2]
      · rw [show logIter (d + 1) (f, m) = logIter d (logStep (f, m)) from rfl, es]
        exact ih (i + 1) _ _ (by omega) (by omega) hn
theorem bla0 (f : Nat) : Go.Lib.bitLenAux f 0 = 0 := by cases f <;> simp [Go.Lib.bitLenAux]
theorem bla : ∀ (f x : Nat), x ≠ 0 → x < 2 ^ f → Go.Lib.bitLenAux f x = x.log2 + 1
  | 0, x, h0, h => by simp at h; omega
  | f + 1, x, h0, h => by
    unfold Go.Lib.bitLenAux
    rw [if_neg h0, Nat.log2_def]
    by_cases h2 : 2 ≤ x
    · rw [if_pos h2, bla f (x / 2) (by omega) (by rw [Nat.pow_succ] at h; omega)]
      omega
    · rw [if_neg h2, show x / 2 = 0 by omega, bla0]
theorem log2_lt64 {x : Nat} (h0 : x ≠ 0) (h : x < 18446744073709551616) : x.log2 < 64 := (Nat.log2_lt h0).2 (by omega)
theorem log2_ev {x : Nat} (h0 : x ≠ 0) (h : x < 18446744073709551616) : Ev (fun k => dense_Log2.f k (x : Int)) (logS x : Int) := by
  have hl := log2_lt64 h0 h
  have hb : Go.Lib.bitLen x = x.log2 + 1 := by exact bla 64 x h0 (by omega)
  have hn := logM_nrm h0
  have e1 : wrap64 (((x.log2 + 1 : Nat) : Int) - 1) = (x.log2 : Int) := by rw [w64 (by omega) (by omega)]; omega
  have key : Ev (fun k => dense_Log2.j0 k (x.log2 : Int) (logM x : Int)) (logS x : Int) :=
    Ev.step (f := fun k => dense_Log2.l0 k (x.log2 : Int) (logM x : Int) 0) (fun k => rfl) (log2_loop 0 16 0 x.log2 (logM x) rfl (by omega) hn)
  refine Ev.congr (f := fun k => dense_Log2.j0 k (x.log2 : Int) (logM x : Int)) (fun k => ?_) key
  simp only [dense_Log2.f]
  rw [if_neg (by omega)]
  have hbf : bits_Len64.f (x : Int) = some (((x.log2 + 1 : Nat)) : Int) := by
    unfold bits_Len64.f
    rw [if_pos ⟨by omega, by omega⟩, Int.toNat_natCast, hb]
  rw [hbf]
  simp only [Option.bind_some, e1]
  by_cases hg : 31 < x.log2
  · rw [if_pos (by omega), if_pos (by rw [w64 (by omega) (by omega)]; omega)]
    congr 1
    rw [w64 (by omega) (by omega)]
    unfold shr logM
    rw [if_pos hg]
    have : ((x.log2 : Int) - 31).toNat = x.log2 - 31 := by omega
    rw [this, Nat.min_eq_left (by show _ ≤ 64; omega), Int.natCast_ediv, Int.natCast_pow]
    rfl
  · rw [if_neg (by omega), if_pos (by rw [w64 (by omega) (by omega)]; omega)]
    congr 1
    rw [w64 (by omega) (by omega)]
    have hM : logM x = x * 2 ^ (31 - x.log2) := by unfold logM; rw [if_neg hg]
    unfold shl
    have : (31 - (x.log2 : Int)).toNat = 31 - x.log2 := by omega
    rw [this, Nat.min_eq_left (by show _ ≤ 64; omega)]
    have e2 : (x : Int) * 2 ^ (31 - x.log2) = (logM x : Int) := by rw [hM, Int.natCast_mul, Int.natCast_pow]; rfl
    rw [e2]
    exact wu64 (by omega) (by have := hn.2; omega)
end Go.Proofs.Ytbclnjinpcfpjaa.H
