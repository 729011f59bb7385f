/- bits.Mul64; division bit by bit. -/
import Derived.Test.YtbclnjinpcfpjaaT4
namespace Go.Proofs.Ytbclnjinpcfpjaa.H
open Go.RowKit Go.Proofs.YtbclnjinpcfpjaaW.PrintWords Go.Proofs.YtbclnjinpcfpjaaW.PrintLast
set_option linter.unusedVariables false
set_option linter.unusedSimpArgs false
/-! ### bits.Mul64 -/
theorem and_32 (v : Nat) (h : v < 18446744073709551616) : Go.bits .and .u64 (v : Int) 4294967295 = ((v % 4294967296 : Nat) : Int) := by
  have e1 : (BitVec.ofInt 64 (v : Int)).toNat = v := by rw [BitVec.toNat_ofInt]; omega
  have e2 : (BitVec.ofInt 64 (4294967295 : Int)).toNat = 4294967295 := by decide
  have e3 : (BitVec.ofInt 64 (v : Int) &&& BitVec.ofInt 64 (4294967295 : Int)).toNat = v % 4294967296 := by
    rw [BitVec.toNat_and, e1, e2]
    exact Nat.and_two_pow_sub_one_eq_mod v 32
  show IntKind.u64.wrap ((BitVec.ofInt 64 (v : Int) &&& BitVec.ofInt 64 (4294967295 : Int)).toNat : Int) = _
  rw [e3]
  exact wu64 (by omega) (by omega)
theorem wu_mul {a b : Nat} (h : a * b < 18446744073709551616) : IntKind.u64.wrap ((a : Int) * (b : Int)) = ((a * b : Nat) : Int) := by
  rw [← Int.natCast_mul]
  exact wu64 (by omega) (by omega)
theorem half_mul {a b : Nat} (h1 : a < 4294967296) (h2 : b < 4294967296) : a * b ≤ 18446744065119617025 := by
  have : a * b ≤ 4294967295 * 4294967295 := Nat.mul_le_mul (by omega) (by omega)
  omega
theorem mul_exp (a1 a0 b1 b0 K K2 : Nat) (hK : K * K = K2) : (a1 * K + a0) * (b1 * K + b0) = a1 * b1 * K2 + (a1 * b0) * K + (a0 * b1) * K + a0 * b0 := by
  subst hK
  rw [Nat.add_mul, Nat.mul_add, Nat.mul_add, Nat.mul_mul_mul_comm, Nat.mul_right_comm a1 K b0, ← Nat.mul_assoc a0 b1, ← Nat.add_assoc]
/-- a b out of the halves. -/
theorem mul_halves (a1 a0 b1 b0 : Nat) (h00 : a0 * b0 ≤ 18446744065119617025) (h10 : a1 * b0 ≤ 18446744065119617025) (h01 : a0 * b1 ≤ 18446744065119617025) :
    (a1 * 4294967296 + a0) * (b1 * 4294967296 + b0) / 18446744073709551616 = a1 * b1 + (a1 * b0 + a0 * b0 / 4294967296) / 4294967296 + ((a1 * b0 + a0 * b0 / 4294967296) % 4294967296 + a0 * b1) / 4294967296 := by
  have e := mul_exp a1 a0 b1 b0 4294967296 18446744073709551616 (by decide)
  rw [e]
  generalize a1 * b1 = p
  generalize a1 * b0 = q at h10 ⊢
  generalize a0 * b1 = r at h01 ⊢
  generalize a0 * b0 = s at h00 ⊢
  omega
theorem half_div (a1 a0 : Nat) (h : a0 < 4294967296) : ((a1 * 4294967296 + a0 : Nat) : Int) / 4294967296 = (a1 : Int) := by omega
theorem half_mod (a1 a0 : Nat) (h : a0 < 4294967296) : (a1 * 4294967296 + a0) % 4294967296 = a0 := by omega
theorem halves (a : Nat) (ha : a < 18446744073709551616) : ∃ a1 a0, a = a1 * 4294967296 + a0 ∧ a0 < 4294967296 ∧ a1 < 4294967296 := ⟨a / 4294967296, a % 4294967296, by omega, by omega, by omega⟩
theorem wu_mod (X : Nat) : IntKind.u64.wrap (X : Int) = ((X % 18446744073709551616 : Nat) : Int) := by
  have e : IntKind.u64.wrap (X : Int) = (X : Int) % 18446744073709551616 := by
    unfold IntKind.wrap
    rfl
  rw [e]
  omega
theorem mul64_sum (p q r s : Nat) (hp : p ≤ 18446744065119617025) (hq : q ≤ 18446744065119617025) (hr : r ≤ 18446744065119617025) (hs : s ≤ 18446744065119617025) :
    IntKind.u64.wrap ((IntKind.u64.wrap ((p : Int) + (IntKind.u64.wrap ((q : Int) + ((s : Nat) : Int) / 4294967296)) / 4294967296)) + (IntKind.u64.wrap ((Go.bits .and .u64 (IntKind.u64.wrap ((q : Int) + ((s : Nat) : Int) / 4294967296)) 4294967295) + (r : Int))) / 4294967296) = IntKind.u64.wrap ((p + (q + s / 4294967296) / 4294967296 + ((q + s / 4294967296) % 4294967296 + r) / 4294967296 : Nat) : Int) := by
  have e1 : IntKind.u64.wrap ((q : Int) + (s : Int) / 4294967296) = ((q + s / 4294967296 : Nat) : Int) := by rw [wu64 (by omega) (by omega)]; omega
  rw [e1, and_32 _ (by omega)]
  have e2 : IntKind.u64.wrap ((((q + s / 4294967296) % 4294967296 : Nat) : Int) + (r : Int)) = (((q + s / 4294967296) % 4294967296 + r : Nat) : Int) := by rw [wu64 (by omega) (by omega)]; omega
  have e3 : IntKind.u64.wrap ((p : Int) + ((q + s / 4294967296 : Nat) : Int) / 4294967296) = ((p + (q + s / 4294967296) / 4294967296 : Nat) : Int) := by rw [wu64 (by omega) (by omega)]; omega
  rw [e2, e3]
  congr 1
theorem mul64_f (a b : Nat) (ha : a < 18446744073709551616) (hb : b < 18446744073709551616) : bits_Mul64.f (a : Int) (b : Int) = some (((a * b / 18446744073709551616 : Nat) : Int), ((a * b % 18446744073709551616 : Nat) : Int)) := by
  have hlt : a * b / 18446744073709551616 < 18446744073709551616 := by
    have : a * b < 18446744073709551616 * 18446744073709551616 := Nat.mul_lt_mul'' ha hb
    exact Nat.div_lt_of_lt_mul this
  obtain ⟨a1, a0, rfl, ha0, ha1⟩ := halves a ha
  obtain ⟨b1, b0, rfl, hb0, hb1⟩ := halves b hb
  have q1 := half_div a1 a0 ha0
  have q2 := half_div b1 b0 hb0
  have q3 : Go.bits .and .u64 ((a1 * 4294967296 + a0 : Nat) : Int) 4294967295 = (a0 : Int) := by rw [and_32 _ ha, half_mod a1 a0 ha0]
  have q4 : Go.bits .and .u64 ((b1 * 4294967296 + b0 : Nat) : Int) 4294967295 = (b0 : Int) := by rw [and_32 _ hb, half_mod b1 b0 hb0]
  have q5 : IntKind.u64.wrap (((a1 * 4294967296 + a0 : Nat) : Int) * ((b1 * 4294967296 + b0 : Nat) : Int)) = (((a1 * 4294967296 + a0) * (b1 * 4294967296 + b0) % 18446744073709551616 : Nat) : Int) := by
    rw [← Int.natCast_mul]
    exact wu_mod _
  have h00 := half_mul ha0 hb0
  have h10 := half_mul ha1 hb0
  have h01 := half_mul ha0 hb1
  have h11 := half_mul ha1 hb1
  have hm := mul_halves a1 a0 b1 b0 h00 h10 h01
  have hs := mul64_sum (a1 * b1) (a1 * b0) (a0 * b1) (a0 * b0) h11 h10 h01 h00
  unfold bits_Mul64.f
  rw [q1, q2, q3, q4, q5, wu_mul (a := a1) (b := b1) (Nat.lt_of_le_of_lt h11 (by decide)), wu_mul (a := a1) (b := b0) (Nat.lt_of_le_of_lt h10 (by decide)), wu_mul (a := a0) (b := b0) (Nat.lt_of_le_of_lt h00 (by decide)), wu_mul (a := a0) (b := b1) (Nat.lt_of_le_of_lt h01 (by decide)), hs, ← hm, wu_mod, Nat.mod_eq_of_lt hlt]
/-! ### Division, bit by bit -/
theorem ld_step (A S b : Nat) (hS : 0 < S) (hb : b < 2) :
    (S ≤ 2 * (A % S) + b → (2 * A + b) % S = 2 * (A % S) + b - S ∧ (2 * A + b) / S = 2 * (A / S) + 1) ∧ (¬ S ≤ 2 * (A % S) + b → (2 * A + b) % S = 2 * (A % S) + b ∧ (2 * A + b) / S = 2 * (A / S)) := by
  have h1 := Nat.div_add_mod A S
  have h2 := Nat.mod_lt A hS
  generalize A % S = R at *
  generalize A / S = Q at *
  constructor
  · intro h
    have e : 2 * A + b = S * (2 * Q + 1) + (2 * R + b - S) := by
      rw [Nat.mul_add, Nat.mul_one, Nat.mul_left_comm]
      omega
    rw [e]
    exact ⟨by rw [Nat.mul_add_mod, Nat.mod_eq_of_lt (by omega)], by rw [Nat.mul_add_div hS, Nat.div_eq_of_lt (by omega), Nat.add_zero]⟩
  · intro h
    have e : 2 * A + b = S * (2 * Q) + (2 * R + b) := by
      rw [Nat.mul_left_comm]
      omega
    rw [e]
    exact ⟨by rw [Nat.mul_add_mod, Nat.mod_eq_of_lt (by omega)], by rw [Nat.mul_add_div hS, Nat.div_eq_of_lt (by omega), Nat.add_zero]⟩
theorem cut_bit (T i : Nat) : T / 2 ^ i = 2 * (T / 2 ^ (i + 1)) + T / 2 ^ i % 2 := by
  rw [Nat.pow_succ, ← Nat.div_div_eq_div_mul]
  omega
/-- Two words of 64 bits. -/
theorem or_even (x b : Nat) (hx : x % 2 = 0) (hx2 : x < 18446744073709551616) (hb : b < 2) : Go.bits .or .u64 (x : Int) (b : Int) = ((x + b : Nat) : Int) := by
  have e1 : (BitVec.ofInt 64 (x : Int)).toNat = x := by rw [BitVec.toNat_ofInt]; omega
  have e2 : (BitVec.ofInt 64 (b : Int)).toNat = b := by rw [BitVec.toNat_ofInt]; omega
  have e3 : (BitVec.ofInt 64 (x : Int) ||| BitVec.ofInt 64 (b : Int)).toNat = x + b := by
    rw [BitVec.toNat_or, e1, e2]
    have := Nat.two_pow_add_eq_or_of_lt (i := 1) (b := b) (by omega) (x / 2)
    rw [show 2 ^ 1 * (x / 2) = x by omega] at this
    exact this.symm
  show IntKind.u64.wrap ((BitVec.ofInt 64 (x : Int) ||| BitVec.ofInt 64 (b : Int)).toNat : Int) = _
  rw [e3]
  exact wu64 (by omega) (by omega)
theorem wu_two (x : Nat) : IntKind.u64.wrap ((x : Int) * 2) = ((2 * x % 18446744073709551616 : Nat) : Int) := by
  have e : IntKind.u64.wrap ((x : Int) * 2) = ((x : Int) * 2) % 18446744073709551616 := by
    unfold IntKind.wrap
    rfl
  rw [e]
  omega
/-- 2 R + b out of R's two words. -/
theorem dbl_words (R b : Nat) (hR : R < 170141183460469231731687303715884105728) (hb : b < 2) :
    Go.bits .or .u64 (IntKind.u64.wrap (((R / 18446744073709551616 : Nat) : Int) * 2)) (((R % 18446744073709551616 : Nat) : Int) / 9223372036854775808) = (((2 * R + b) / 18446744073709551616 : Nat) : Int) ∧
    Go.bits .or .u64 (IntKind.u64.wrap (((R % 18446744073709551616 : Nat) : Int) * 2)) (b : Int) = (((2 * R + b) % 18446744073709551616 : Nat) : Int) := by
  rw [wu_two, wu_two]
  constructor
  · rw [show ((R % 18446744073709551616 : Nat) : Int) / 9223372036854775808 = ((R % 18446744073709551616 / 9223372036854775808 : Nat) : Int) by omega, or_even _ _ (by omega) (by omega) (by omega)]
    omega
  · rw [or_even _ _ (by omega) (by omega) hb]
    omega
theorem sub_words (X S : Nat) (h : S ≤ X) (hX : X < 340282366920938463463374607431768211456) : ∃ bo : Int,
    bits_Sub64.f ((X % 18446744073709551616 : Nat) : Int) ((S % 18446744073709551616 : Nat) : Int) 0 = some ((((X - S) % 18446744073709551616 : Nat) : Int), bo) ∧
    bits_Sub64.f ((X / 18446744073709551616 : Nat) : Int) ((S / 18446744073709551616 : Nat) : Int) bo = some ((((X - S) / 18446744073709551616 : Nat) : Int), 0) := by
  unfold bits_Sub64.f
  by_cases c : X % 18446744073709551616 < S % 18446744073709551616
  · refine ⟨1, ?_, ?_⟩
    · rw [if_pos (by omega), if_pos (by omega)]
      congr 2
      omega
    · rw [if_pos (by omega), if_neg (by omega)]
      congr 2
      omega
  · refine ⟨0, ?_, ?_⟩
    · rw [if_pos (by omega), if_neg (by omega)]
      congr 2
      omega
    · rw [if_pos (by omega), if_neg (by omega)]
      congr 2
      omega
theorem ge_words (X S : Nat) : S ≤ X ↔ (X / 18446744073709551616 > S / 18446744073709551616 ∨ (X / 18446744073709551616 = S / 18446744073709551616 ∧ X % 18446744073709551616 ≥ S % 18446744073709551616)) := by omega
end Go.Proofs.Ytbclnjinpcfpjaa.H
