/- What both logarithms answer. -/
import Derived.Test.YtbclnjinpcfpjaaT3
import Derived.Test.YtbclnjinpcfpjaaHE
namespace Go.Proofs.Ytbclnjinpcfpjaa.H
open Go.RowKit Go.Proofs.YtbclnjinpcfpjaaW.PrintWords Go.Proofs.YtbclnjinpcfpjaaW.PrintLast
set_option linter.unusedVariables false
set_option linter.unusedSimpArgs false
def logStep (s : Nat × Nat) : Nat × Nat :=
  if 4294967296 ≤ s.2 * s.2 / 2147483648 then (2 * s.1 + 1, s.2 * s.2 / 2147483648 / 2) else (2 * s.1, s.2 * s.2 / 2147483648)
def logIter : Nat → Nat × Nat → Nat × Nat
  | 0, s => s
  | d + 1, s => logIter d (logStep s)
def logM (x : Nat) : Nat := if 31 < x.log2 then x / 2 ^ (x.log2 - 31) else x * 2 ^ (31 - x.log2)
def logS (x : Nat) : Nat := (logIter 16 (x.log2, logM x)).1

/-- A number between 1 and 2, told in 31 bits behind the point. -/
def Nrm (m : Nat) : Prop := 2147483648 ≤ m ∧ m < 4294967296
theorem sq_bounds {m : Nat} (h : Nrm m) : 2147483648 ≤ m * m / 2147483648 ∧ m * m / 2147483648 < 8589934592 ∧ m * m < 18446744073709551616 := by
  obtain ⟨h1, h2⟩ := h
  have a : 2147483648 * 2147483648 ≤ m * m := Nat.mul_le_mul h1 h1
  have b : m * m ≤ 4294967295 * 4294967295 := Nat.mul_le_mul (by omega) (by omega)
  refine ⟨?_, ?_, ?_⟩
  · exact (Nat.le_div_iff_mul_le (by omega)).2 a
  · exact (Nat.div_lt_iff_lt_mul (by omega)).2 (by omega)
  · omega
theorem logStep_nrm {s : Nat × Nat} (h : Nrm s.2) : Nrm (logStep s).2 := by
  have := sq_bounds h
  unfold logStep
  split
  · constructor
    · show 2147483648 ≤ s.2 * s.2 / 2147483648 / 2
      omega
    · show s.2 * s.2 / 2147483648 / 2 < 4294967296
      omega
  · exact ⟨this.1, by omega⟩
theorem logM_nrm {x : Nat} (h0 : x ≠ 0) : Nrm (logM x) := by
  have h1 := Nat.log2_self_le h0
  have h2 : x < 2 ^ (x.log2 + 1) := Nat.lt_log2_self
  unfold logM
  split
  next h =>
    have e : 2 ^ x.log2 = 2 ^ 31 * 2 ^ (x.log2 - 31) := by rw [← Nat.pow_add]; congr 1; omega
    have e2 : 2 ^ (x.log2 + 1) = 2 ^ 32 * 2 ^ (x.log2 - 31) := by rw [← Nat.pow_add]; congr 1; omega
    rw [e] at h1; rw [e2] at h2
    exact ⟨(Nat.le_div_iff_mul_le (Nat.two_pow_pos _)).2 h1, (Nat.div_lt_iff_lt_mul (Nat.two_pow_pos _)).2 h2⟩
  next h =>
    have e : 2 ^ x.log2 * 2 ^ (31 - x.log2) = 2 ^ 31 := by rw [← Nat.pow_add]; congr 1; omega
    have e2 : 2 ^ (x.log2 + 1) * 2 ^ (31 - x.log2) = 2 ^ 32 := by rw [← Nat.pow_add]; congr 1; omega
    constructor
    · calc 2147483648 = 2 ^ x.log2 * 2 ^ (31 - x.log2) := e.symm
        _ ≤ x * 2 ^ (31 - x.log2) := Nat.mul_le_mul_right _ h1
    · calc x * 2 ^ (31 - x.log2) < 2 ^ (x.log2 + 1) * 2 ^ (31 - x.log2) := Nat.mul_lt_mul_of_pos_right h2 (Nat.two_pow_pos _)
        _ = 4294967296 := e2

/-! order -/
/-! What the printed dense.Log2 answers. -/
theorem or_one (f : Nat) : 2 * f ||| 1 = 2 * f + 1 := (Nat.two_pow_add_eq_or_of_lt (i := 1) (b := 1) (by omega) f).symm
theorem bits_or_one (f : Nat) (h : f < 1099511627776) : Go.bits .or .i64 (2 * (f : Int)) 1 = 2 * (f : Int) + 1 := by
  have e1 : (BitVec.ofInt 64 (2 * (f : Int))).toNat = 2 * f := by
    rw [BitVec.toNat_ofInt]
    omega
  have e2 : (BitVec.ofInt 64 1).toNat = 1 := rfl
  have e3 : (BitVec.ofInt 64 (2 * (f : Int)) ||| BitVec.ofInt 64 1).toNat = 2 * f + 1 := by rw [BitVec.toNat_or, e1, e2, or_one]
  show IntKind.i64.wrap ((BitVec.ofInt 64 (2 * (f : Int)) ||| BitVec.ofInt 64 1).toNat : Int) = _
  rw [e3]
  have e4 : IntKind.i64.wrap (((2 * f + 1 : Nat)) : Int) = wrap64 ((2 * f + 1 : Nat) : Int) := i64_w _
  rw [e4, w64 (by omega) (by omega)]
  omega
theorem log2_loop (m0 : Nat) : ∀ (d i f m : Nat), i + d = 16 → f < 64 * 2 ^ i → Nrm m → Ev (fun k => dense_Log2.l0 k (f : Int) (m : Int) (i : Int)) ((logIter d (f, m)).1 : Int) := by
  intro d
  induction d with
  | zero =>
    intro i f m hi hf hm
    refine Ev.step (f := fun _ => some (f : Int)) (fun k => ?_) (Ev.now _)
    simp only [dense_Log2.l0]
    rw [if_neg (by omega)]
  | succ d ih =>
    intro i f m hi hf hm
    have hfb : f < 1099511627776 := by
      have : 2 ^ i ≤ 2 ^ 16 := Nat.pow_le_pow_right (by omega) (by omega)
      omega
    have hb := sq_bounds hm
    have hmm : ((m : Int) * (m : Int)) = ((m * m : Nat) : Int) := by rw [Int.natCast_mul]
    have hw : IntKind.u64.wrap ((m : Int) * (m : Int)) = ((m * m : Nat) : Int) := by rw [hmm]; exact wu64 (by omega) (by omega)
    have hd1 : ((m * m : Nat) : Int) / 2147483648 = ((m * m / 2147483648 : Nat) : Int) := by omega
    have hi1 : wrap64 ((i : Int) + 1) = ((i + 1 : Nat) : Int) := by rw [w64 (by omega) (by omega)]; omega
    have hf2 : wrap64 ((f : Int) * 2) = ((2 * f : Nat) : Int) := by rw [w64 (by omega) (by omega)]; omega
    have hn := logStep_nrm (s := (f, m)) hm
    have hps : 64 * 2 ^ (i + 1) = 2 * (64 * 2 ^ i) := by rw [Nat.pow_succ]; omega
    by_cases hq : 4294967296 ≤ m * m / 2147483648
    · have es : logStep (f, m) = (2 * f + 1, m * m / 2147483648 / 2) := by unfold logStep; rw [if_pos hq]
      rw [es] at hn
      refine Ev.step (f := fun k => dense_Log2.l0 k ((2 * f + 1 : Nat) : Int) ((m * m / 2147483648 / 2 : Nat) : Int) ((i + 1 : Nat) : Int)) (fun k => ?_) ?_
      · simp only [dense_Log2.l0]
        rw [if_pos (by omega), hw, hd1, if_pos (by omega), hi1, hf2]
        have e1 : Go.bits .or .i64 ((2 * f : Nat) : Int) 1 = ((2 * f + 1 : Nat) : Int) := by
          have := bits_or_one f hfb
          rw [show ((2 * f : Nat) : Int) = 2 * (f : Int) by omega, this]
          omega
        have e2 : ((m * m / 2147483648 : Nat) : Int) / 2 = ((m * m / 2147483648 / 2 : Nat) : Int) := by omega
        rw [e1, e2]
      · rw [show logIter (d + 1) (f, m) = logIter d (logStep (f, m)) from rfl, es]
        exact ih (i + 1) _ _ (by omega) (by omega) hn
    · have es : logStep (f, m) = (2 * f, m * m / 2147483648) := by unfold logStep; rw [if_neg hq]
      rw [es] at hn
      refine Ev.step (f := fun k => dense_Log2.l0 k ((2 * f : Nat) : Int) ((m * m / 2147483648 : Nat) : Int) ((i + 1 : Nat) : Int)) (fun k => ?_) ?_
      · simp only [dense_Log2.l0]
        rw [if_pos (by omega), hw, hd1, if_neg (by omega), hi1, hf2]
      · rw [show logIter (d + 1) (f, m) = logIter d (logStep (f, m)) from rfl, es]
        exact ih (i + 1) _ _ (by omega) (by omega) hn
theorem bla0 (f : Nat) : Go.Lib.bitLenAux f 0 = 0 := by cases f <;> simp [Go.Lib.bitLenAux]
theorem bla : ∀ (f x : Nat), x ≠ 0 → x < 2 ^ f → Go.Lib.bitLenAux f x = x.log2 + 1
  | 0, x, h0, h => by simp at h; omega
  | f + 1, x, h0, h => by
    unfold Go.Lib.bitLenAux
    rw [if_neg h0, Nat.log2_def]
    by_cases h2 : 2 ≤ x
    · rw [if_pos h2, bla f (x / 2) (by omega) (by rw [Nat.pow_succ] at h; omega)]
      omega
    · rw [if_neg h2, show x / 2 = 0 by omega, bla0]
theorem log2_lt64 {x : Nat} (h0 : x ≠ 0) (h : x < 18446744073709551616) : x.log2 < 64 := (Nat.log2_lt h0).2 (by omega)
theorem log2_ev {x : Nat} (h0 : x ≠ 0) (h : x < 18446744073709551616) : Ev (fun k => dense_Log2.f k (x : Int)) (logS x : Int) := by
  have hl := log2_lt64 h0 h
  have hb : Go.Lib.bitLen x = x.log2 + 1 := by exact bla 64 x h0 (by omega)
  have hn := logM_nrm h0
  have e1 : wrap64 (((x.log2 + 1 : Nat) : Int) - 1) = (x.log2 : Int) := by rw [w64 (by omega) (by omega)]; omega
  have key : Ev (fun k => dense_Log2.j0 k (x.log2 : Int) (logM x : Int)) (logS x : Int) :=
    Ev.step (f := fun k => dense_Log2.l0 k (x.log2 : Int) (logM x : Int) 0) (fun k => rfl) (log2_loop 0 16 0 x.log2 (logM x) rfl (by omega) hn)
  refine Ev.congr (f := fun k => dense_Log2.j0 k (x.log2 : Int) (logM x : Int)) (fun k => ?_) key
  simp only [dense_Log2.f]
  rw [if_neg (by omega)]
  have hbf : bits_Len64.f (x : Int) = some (((x.log2 + 1 : Nat)) : Int) := by
    unfold bits_Len64.f
    rw [if_pos ⟨by omega, by omega⟩, Int.toNat_natCast, hb]
  rw [hbf]
  simp only [Option.bind_some, e1]
  by_cases hg : 31 < x.log2
  · rw [if_pos (by omega), if_pos (by rw [w64 (by omega) (by omega)]; omega)]
    congr 1
    rw [w64 (by omega) (by omega)]
    unfold shr logM
    rw [if_pos hg]
    have : ((x.log2 : Int) - 31).toNat = x.log2 - 31 := by omega
    rw [this, Nat.min_eq_left (by show _ ≤ 64; omega), Int.natCast_ediv, Int.natCast_pow]
    rfl
  · rw [if_neg (by omega), if_pos (by rw [w64 (by omega) (by omega)]; omega)]
    congr 1
    rw [w64 (by omega) (by omega)]
    have hM : logM x = x * 2 ^ (31 - x.log2) := by unfold logM; rw [if_neg hg]
    unfold shl
    have : (31 - (x.log2 : Int)).toNat = 31 - x.log2 := by omega
    rw [this, Nat.min_eq_left (by show _ ≤ 64; omega)]
    have e2 : (x : Int) * 2 ^ (31 - x.log2) = (logM x : Int) := by rw [hM, Int.natCast_mul, Int.natCast_pow]; rfl
    rw [e2]
    exact wu64 (by omega) (by have := hn.2; omega)
set_option linter.unusedVariables false
set_option linter.unusedSimpArgs false
/-! ### The reference's Log2 -/
theorem rlog_loop : ∀ (d i f m : Nat), i + d = 16 → f < 64 * 2 ^ i → Nrm m → Ev (fun k => tallymanref15_Log2.l1 k (m : Int) (f : Int) (i : Int)) ((logIter d (f, m)).1 : Int) := by
  intro d
  induction d with
  | zero =>
    intro i f m hi hf hm
    refine Ev.step (f := fun _ => some (f : Int)) (fun k => ?_) (Ev.now _)
    simp only [tallymanref15_Log2.l1]
    rw [if_neg (by omega)]
  | succ d ih =>
    intro i f m hi hf hm
    have hfb : f < 1099511627776 := by
      have : 2 ^ i ≤ 2 ^ 16 := Nat.pow_le_pow_right (by omega) (by omega)
      omega
    have hb := sq_bounds hm
    have hmm : ((m : Int) * (m : Int)) = ((m * m : Nat) : Int) := by rw [Int.natCast_mul]
    have hw : IntKind.u64.wrap ((m : Int) * (m : Int)) = ((m * m : Nat) : Int) := by rw [hmm]; exact wu64 (by omega) (by omega)
    have hd1 : ((m * m : Nat) : Int) / 2147483648 = ((m * m / 2147483648 : Nat) : Int) := by omega
    have hi1 : wrap64 ((i : Int) + 1) = ((i + 1 : Nat) : Int) := by rw [w64 (by omega) (by omega)]; omega
    have hf2 : wrap64 (2 * (f : Int)) = ((2 * f : Nat) : Int) := by rw [w64 (by omega) (by omega)]; omega
    have hn := logStep_nrm (s := (f, m)) hm
    have hps : 64 * 2 ^ (i + 1) = 2 * (64 * 2 ^ i) := by rw [Nat.pow_succ]; omega
    by_cases hq : 4294967296 ≤ m * m / 2147483648
    · have es : logStep (f, m) = (2 * f + 1, m * m / 2147483648 / 2) := by unfold logStep; rw [if_pos hq]
      rw [es] at hn
      refine Ev.step (f := fun k => tallymanref15_Log2.l1 k ((m * m / 2147483648 / 2 : Nat) : Int) ((2 * f + 1 : Nat) : Int) ((i + 1 : Nat) : Int)) (fun k => ?_) ?_
      · simp only [tallymanref15_Log2.l1]
        rw [if_pos (by omega), hw, hd1, if_pos (by omega), hi1, hf2]
        have e1 : wrap64 (((2 * f : Nat) : Int) + 1) = ((2 * f + 1 : Nat) : Int) := by rw [w64 (by omega) (by omega)]; omega
        have e2 : ((m * m / 2147483648 : Nat) : Int) / 2 = ((m * m / 2147483648 / 2 : Nat) : Int) := by omega
        rw [e1, e2]
      · rw [show logIter (d + 1) (f, m) = logIter d (logStep (f, m)) from rfl, es]
        exact ih (i + 1) _ _ (by omega) (by omega) hn
    · have es : logStep (f, m) = (2 * f, m * m / 2147483648) := by unfold logStep; rw [if_neg hq]
      rw [es] at hn
      refine Ev.step (f := fun k => tallymanref15_Log2.l1 k ((m * m / 2147483648 : Nat) : Int) ((2 * f : Nat) : Int) ((i + 1 : Nat) : Int)) (fun k => ?_) ?_
      · simp only [tallymanref15_Log2.l1]
        rw [if_pos (by omega), hw, hd1, if_neg (by omega), hi1, hf2]
      · rw [show logIter (d + 1) (f, m) = logIter d (logStep (f, m)) from rfl, es]
        exact ih (i + 1) _ _ (by omega) (by omega) hn
theorem shl_un {x s : Nat} (hs : s < 64) (h : x * 2 ^ s < 18446744073709551616) : shl .u64 (x : Int) (s : Int) = ((x * 2 ^ s : Nat) : Int) := by
  unfold shl
  rw [Int.toNat_natCast, Nat.min_eq_left (by show s ≤ 64; omega), show (x : Int) * (2 : Int) ^ s = ((x * 2 ^ s : Nat) : Int) by rw [Int.natCast_mul, Int.natCast_pow]; rfl]
  exact wu64 (by omega) (by omega)
theorem log_top {x L : Nat} (hL : L < 64) (h1 : 2 ^ L ≤ x) (h2 : x < 2 ^ (L + 1)) : x * 2 ^ (63 - L) < 18446744073709551616 := by
  have h3 : x * 2 ^ (63 - L) < 2 ^ (L + 1) * 2 ^ (63 - L) := Nat.mul_lt_mul_of_pos_right h2 (Nat.two_pow_pos _)
  rw [← Nat.pow_add, show L + 1 + (63 - L) = 64 by omega] at h3
  omega
theorem log_cut {x : Nat} (hL : x.log2 < 64) : x * 2 ^ (63 - x.log2) / 4294967296 = logM x := by
  unfold logM
  by_cases hg : 31 < x.log2
  · rw [if_pos hg, show (4294967296 : Nat) = 2 ^ (63 - x.log2) * 2 ^ (x.log2 - 31) by rw [← Nat.pow_add, show 63 - x.log2 + (x.log2 - 31) = 32 by omega], Nat.mul_comm, Nat.mul_div_mul_left _ _ (Nat.two_pow_pos _)]
  · rw [if_neg hg, show 63 - x.log2 = (31 - x.log2) + 32 by omega, Nat.pow_add, ← Nat.mul_assoc, show (2 : Nat) ^ 32 = 4294967296 by decide, Nat.mul_div_cancel _ (by omega)]
theorem rlog2_ev {x : Nat} (h0 : x ≠ 0) (h : x < 18446744073709551616) : Ev (fun k => tallymanref15_Log2.f k (x : Int)) (logS x : Int) := by
  have hl := log2_lt64 h0 h
  have hn := logM_nrm h0
  have hlo : 2 ^ x.log2 ≤ x := Nat.log2_self_le h0
  have hhi : x < 2 ^ (x.log2 + 1) := Nat.lt_log2_self
  have key : Ev (fun k => tallymanref15_Log2.l1 k (logM x : Int) (x.log2 : Int) 0) (logS x : Int) := rlog_loop 16 0 x.log2 (logM x) rfl (by omega) hn
  have down : ∀ d : Nat, x.log2 + d ≤ 63 → Ev (fun k => tallymanref15_Log2.l0 k (x : Int) ((x.log2 + d : Nat) : Int)) (logS x : Int) := by
    intro d
    induction d with
    | zero =>
      intro _
      refine Ev.step (fun k => ?_) key
      have e0 : shr .u64 (x : Int) (x.log2 : Int) = ((x / 2 ^ x.log2 : Nat) : Int) := shr_n x x.log2 (by show _ ≤ 64; omega)
      have e1 : 0 < x / 2 ^ x.log2 := Nat.div_pos hlo (Nat.two_pow_pos _)
      have e2 : shl .u64 (x : Int) ((63 - x.log2 : Nat) : Int) = ((x * 2 ^ (63 - x.log2) : Nat) : Int) := shl_un (by omega) (log_top hl hlo hhi)
      have e3 : wrap64 (63 - (x.log2 : Int)) = ((63 - x.log2 : Nat) : Int) := by rw [w64 (by omega) (by omega)]; omega
      have e4 : ((x * 2 ^ (63 - x.log2) : Nat) : Int) / 4294967296 = (logM x : Int) := by rw [← log_cut hl]; omega
      simp only [tallymanref15_Log2.l0, Nat.add_zero]
      rw [wu64 (x := (x.log2 : Int)) (by omega) (by omega), if_pos (by omega), e0, if_neg (by omega), e3, wu64 (x := ((63 - x.log2 : Nat) : Int)) (by omega) (by omega), if_pos (by omega), e2, e4]
    | succ d ih =>
      intro hd
      refine Ev.step (fun k => ?_) (ih (by omega))
      have e0 : shr .u64 (x : Int) ((x.log2 + (d + 1) : Nat) : Int) = ((x / 2 ^ (x.log2 + (d + 1)) : Nat) : Int) := shr_n x _ (by show _ ≤ 64; omega)
      have e1 : x / 2 ^ (x.log2 + (d + 1)) = 0 := Nat.div_eq_of_lt (Nat.lt_of_lt_of_le hhi (Nat.pow_le_pow_right (by omega) (by omega)))
      simp only [tallymanref15_Log2.l0]
      rw [wu64 (x := ((x.log2 + (d + 1) : Nat) : Int)) (by omega) (by omega), if_pos (by omega), e0, e1, if_pos (show ((0 : Nat) : Int) = 0 from rfl), w64 (by omega) (by omega), show ((x.log2 + (d + 1) : Nat) : Int) - 1 = ((x.log2 + d : Nat) : Int) by omega]
  have h63 := down (63 - x.log2) (by omega)
  refine Ev.congr (fun k => ?_) h63
  unfold tallymanref15_Log2.f
  rw [if_neg (by omega), show x.log2 + (63 - x.log2) = 63 by omega]
  rfl
theorem log2_both (x : Int) (h0 : 0 ≤ x) (h1 : x ≤ 18446744073709551615) : ∃ r : Int, Ev (fun k => dense_Log2.f k x) r ∧ Ev (fun k => tallymanref15_Log2.f k x) r := by
  obtain ⟨n, rfl⟩ : ∃ n : Nat, x = (n : Int) := ⟨x.toNat, by omega⟩
  by_cases h : n = 0
  · subst h
    exact ⟨0, Ev.congr (f := fun _ => some 0) (fun k => by unfold dense_Log2.f; rw [if_pos (show ((0 : Nat) : Int) = 0 from rfl)]) (Ev.now _), Ev.congr (f := fun _ => some 0) (fun k => by unfold tallymanref15_Log2.f; rw [if_pos (show ((0 : Nat) : Int) = 0 from rfl)]) (Ev.now _)⟩
  · exact ⟨_, log2_ev h (by omega), rlog2_ev h (by omega)⟩
end Go.Proofs.Ytbclnjinpcfpjaa.H
