/- dense.by and the reference's quotient answer the quotient, at most 2^63 - 1. -/
import Derived.Test.YtbclnjinpcfpjaaT5
import Derived.Test.YtbclnjinpcfpjaaM9
import Derived.Test.YtbclnjinpcfpjaaH11
import Derived.Test.YtbclnjinpcfpjaaHF
namespace Go.Proofs.Ytbclnjinpcfpjaa.H
open Go.RowKit Go.Proofs.YtbclnjinpcfpjaaW.PrintWords Go.Proofs.YtbclnjinpcfpjaaW.PrintLast
set_option linter.unusedVariables false
set_option linter.unusedSimpArgs false
/-! ### dense.by and the reference's quotient: the quotient, at most 2^63 - 1 -/
theorem bit_mod (X e : Nat) (he : e < 64) : X % 18446744073709551616 / 2 ^ e % 2 = X / 2 ^ e % 2 := by
  have h := Nat.testBit_mod_two_pow X 64 e
  rw [decide_eq_true he, Bool.true_and, Nat.testBit_eq_decide_div_mod_eq, Nat.testBit_eq_decide_div_mod_eq, show (2 : Nat) ^ 64 = 18446744073709551616 by decide] at h
  have h2 := decide_eq_decide.1 h
  omega
theorem bit_high (X e : Nat) : X / 18446744073709551616 / 2 ^ e = X / 2 ^ (e + 64) := by
  rw [Nat.div_div_eq_div_mul, show (18446744073709551616 : Nat) = 2 ^ 64 by decide, ← Nat.pow_add, Nat.add_comm]
theorem and_one (x : Nat) (h : x < 18446744073709551616) : Go.bits .and .u64 (x : Int) 1 = ((x % 2 : Nat) : Int) := by
  have e1 : (BitVec.ofInt 64 (x : Int)).toNat = x := by rw [BitVec.toNat_ofInt]; omega
  have e2 : (BitVec.ofInt 64 (1 : Int)).toNat = 1 := by decide
  have e3 : (BitVec.ofInt 64 (x : Int) &&& BitVec.ofInt 64 (1 : Int)).toNat = x % 2 := by
    rw [BitVec.toNat_and, e1, e2]
    exact Nat.and_two_pow_sub_one_eq_mod x 1
  show IntKind.u64.wrap ((BitVec.ofInt 64 (x : Int) &&& BitVec.ofInt 64 (1 : Int)).toNat : Int) = _
  rw [e3]
  exact wu64 (by omega) (by omega)
/-- The bit at place n < 192 out of three words. -/
theorem bit192 (T n : Nat) (hT : T < 6277101735386680763835789423207666416102355444464034512896) (hn : n < 192) : 0 ≤ wrap64 (2 - (wrap64 (Int.tdiv (n : Int) 64))) ∧ wrap64 (2 - (wrap64 (Int.tdiv (n : Int) 64))) < 3 ∧
    Go.bits .and .u64 (shr .u64 (rd [((T / 340282366920938463463374607431768211456 : Nat) : Int), ((T / 18446744073709551616 % 18446744073709551616 : Nat) : Int), ((T % 18446744073709551616 : Nat) : Int)] (wrap64 (2 - (wrap64 (Int.tdiv (n : Int) 64))))) (Int.tmod (n : Int) 64)) 1 = ((T / 2 ^ n % 2 : Nat) : Int) := by
  have hd : Int.tdiv (n : Int) 64 = ((n / 64 : Nat) : Int) := tdivN n 64
  have hm : Int.tmod (n : Int) 64 = ((n % 64 : Nat) : Int) := tmodN n 64
  rw [hd, hm, w64 (x := ((n / 64 : Nat) : Int)) (by omega) (by omega), w64 (by omega) (by omega)]
  refine ⟨by omega, by omega, ?_⟩
  have hs : ∀ X : Nat, X < 18446744073709551616 → Go.bits .and .u64 (shr .u64 (X : Int) ((n % 64 : Nat) : Int)) 1 = ((X / 2 ^ (n % 64) % 2 : Nat) : Int) := fun X hX => by
    rw [shr_n X (n % 64) (by show n % 64 ≤ 64; omega), and_one _ (Nat.lt_of_le_of_lt (Nat.div_le_self _ _) hX)]
  rcases (by omega : n / 64 = 0 ∨ n / 64 = 1 ∨ n / 64 = 2) with h | h | h
  · rw [h]
    show Go.bits .and .u64 (shr .u64 ((T % 18446744073709551616 : Nat) : Int) _) 1 = _
    rw [hs _ (Nat.mod_lt _ (by decide)), bit_mod _ _ (Nat.mod_lt _ (by decide)), show n % 64 = n by omega]
  · rw [h]
    show Go.bits .and .u64 (shr .u64 ((T / 18446744073709551616 % 18446744073709551616 : Nat) : Int) _) 1 = _
    rw [hs _ (Nat.mod_lt _ (by decide)), bit_mod _ _ (Nat.mod_lt _ (by decide)), bit_high, show n % 64 + 64 = n by omega]
  · rw [h]
    show Go.bits .and .u64 (shr .u64 ((T / 340282366920938463463374607431768211456 : Nat) : Int) _) 1 = _
    rw [hs _ (Nat.div_lt_of_lt_mul (by omega)), show (340282366920938463463374607431768211456 : Nat) = 18446744073709551616 * 18446744073709551616 by decide, ← Nat.div_div_eq_div_mul, bit_high, bit_high, show n % 64 + 64 + 64 = n by omega]
theorem over_eq (X : Nat) (h : X < 18446744073709551616) : (((X : Nat) : Int) / 9223372036854775808 == 1) = decide (9223372036854775808 ≤ X) := by
  by_cases c : 9223372036854775808 ≤ X
  · rw [decide_eq_true c, beq_iff_eq]; omega
  · rw [decide_eq_false c, beq_eq_false_iff_ne]; omega
def capQ (T S : Nat) : Int := if T / S ≤ 9223372036854775807 then ((T / S : Nat) : Int) else 9223372036854775807
theorem by_loop (T S : Nat) (hT : T < 6277101735386680763835789423207666416102355444464034512896) (hS : 0 < S) (hS2 : S ≤ 170141183460469231731687303715884105728) (x0 x1 x2 : Int)
    (h0 : x0 = ((T / 340282366920938463463374607431768211456 : Nat) : Int)) (h1 : x1 = ((T / 18446744073709551616 % 18446744073709551616 : Nat) : Int)) (h2 : x2 = ((T % 18446744073709551616 : Nat) : Int)) :
    ∀ (n : Nat), n ≤ 192 → ∀ (q : Int) (over : Bool), (over = true → 18446744073709551616 ≤ T / 2 ^ n / S) → (over = false → q = ((T / 2 ^ n / S : Nat) : Int) ∧ T / 2 ^ n / S < 18446744073709551616) →
    Ev (fun k => dense_by.l0 k ((S / 18446744073709551616 : Nat) : Int) ((S % 18446744073709551616 : Nat) : Int) q over ((n : Int) - 1) x0 x1 x2 ((T / 2 ^ n % S / 18446744073709551616 : Nat) : Int) ((T / 2 ^ n % S % 18446744073709551616 : Nat) : Int)) (capQ T S) := by
  intro n
  induction n with
  | zero =>
    intro _ q over ho hn
    rw [Nat.pow_zero, Nat.div_one] at ho hn
    refine Ev.step (f := fun _ => some (capQ T S)) (fun k => ?_) (Ev.now _)
    simp only [dense_by.l0]
    rw [if_neg (by omega)]
    unfold capQ
    cases over with
    | true =>
      have := ho rfl
      rw [if_pos rfl, if_neg (by omega)]
    | false =>
      obtain ⟨rfl, hq⟩ := hn rfl
      rw [if_neg (by decide)]
      unfold mn
      generalize T / S = X at hq ⊢
      by_cases c : X ≤ 9223372036854775807
      · rw [if_pos c, if_neg (by omega)]
      · rw [if_neg c, if_pos (by omega)]
  | succ n ih =>
    intro hn q over ho hq
    obtain ⟨b1, b2, b3⟩ := bit192 T n hT (by omega)
    rw [← h0, ← h1, ← h2] at b3
    have hb : T / 2 ^ n % 2 < 2 := Nat.mod_lt _ (by omega)
    have hcut := cut_bit T n
    have hR : T / 2 ^ (n + 1) % S < S := Nat.mod_lt _ hS
    obtain ⟨l1, l2⟩ := ld_step (T / 2 ^ (n + 1)) S (T / 2 ^ n % 2) hS hb
    rw [← hcut] at l1 l2
    obtain ⟨d1, d2⟩ := dbl_words (T / 2 ^ (n + 1) % S) (T / 2 ^ n % 2) (by omega) hb
    have hcar : ((T / 2 ^ (n + 1) % S / 18446744073709551616 : Nat) : Int) / 9223372036854775808 = 0 := by omega
    have hi0 : ((n + 1 : Nat) : Int) - 1 = (n : Int) := by omega
    have hi1 : wrap64 ((n : Int) - 1) = (n : Int) - 1 := w64 (by omega) (by omega)
    -- the next quotient
    have key : ∀ over' : Bool, (over' = true → 9223372036854775808 ≤ T / 2 ^ (n + 1) / S) → (over' = false → q = ((T / 2 ^ (n + 1) / S : Nat) : Int) ∧ T / 2 ^ (n + 1) / S < 9223372036854775808) →
        Ev (fun k => dense_by.j1 k ((S / 18446744073709551616 : Nat) : Int) ((S % 18446744073709551616 : Nat) : Int) q over' (n : Int) 0 x0 x1 x2 (((2 * (T / 2 ^ (n + 1) % S) + T / 2 ^ n % 2) / 18446744073709551616 : Nat) : Int) (((2 * (T / 2 ^ (n + 1) % S) + T / 2 ^ n % 2) % 18446744073709551616 : Nat) : Int)) (capQ T S) := by
      intro over' ho' hq'
      by_cases hge : S ≤ 2 * (T / 2 ^ (n + 1) % S) + T / 2 ^ n % 2
      · obtain ⟨m1, m2⟩ := l1 hge
        obtain ⟨bo, s1, s2⟩ := sub_words (2 * (T / 2 ^ (n + 1) % S) + T / 2 ^ n % 2) S hge (by omega)
        have hgw := (ge_words (2 * (T / 2 ^ (n + 1) % S) + T / 2 ^ n % 2) S).1 hge
        rw [← m1] at s1 s2
        have hr := ih (by omega) (Go.bits .or .u64 (IntKind.u64.wrap (q * 2)) 1) over' (fun h => by have := ho' h; omega) (fun h => by
          obtain ⟨e, lt⟩ := hq' h
          rw [e, wu_two, show (1 : Int) = ((1 : Nat) : Int) from rfl, or_even _ 1 (by omega) (by omega) (by omega), m2]
          exact ⟨by omega, by omega⟩)
        have hj : Ev (fun k => dense_by.j2 k ((S / 18446744073709551616 : Nat) : Int) ((S % 18446744073709551616 : Nat) : Int) (IntKind.u64.wrap (q * 2)) over' (n : Int) true x0 x1 x2 (((2 * (T / 2 ^ (n + 1) % S) + T / 2 ^ n % 2) / 18446744073709551616 : Nat) : Int) (((2 * (T / 2 ^ (n + 1) % S) + T / 2 ^ n % 2) % 18446744073709551616 : Nat) : Int)) (capQ T S) := by
          refine Ev.step (fun k => ?_) hr
          simp only [dense_by.j2]
          rw [if_pos trivial, s1, Option.bind_some, s2, Option.bind_some, hi1]
        refine Ev.step (fun k => ?_) hj
        simp only [dense_by.j1]
        rw [if_neg (by decide)]
        rcases hgw with hg | ⟨hg1, hg2⟩
        · rw [if_pos (by omega)]
        · rw [if_neg (by omega), if_pos (by omega), decide_eq_true (by omega)]
      · obtain ⟨m1, m2⟩ := l2 hge
        have hgw := fun h => hge ((ge_words (2 * (T / 2 ^ (n + 1) % S) + T / 2 ^ n % 2) S).2 h)
        rw [← m1] at hgw ⊢
        have hr := ih (by omega) (IntKind.u64.wrap (q * 2)) over' (fun h => by have := ho' h; omega) (fun h => by
          obtain ⟨e, lt⟩ := hq' h
          rw [e, wu_two, m2]
          exact ⟨by omega, by omega⟩)
        have hj : Ev (fun k => dense_by.j2 k ((S / 18446744073709551616 : Nat) : Int) ((S % 18446744073709551616 : Nat) : Int) (IntKind.u64.wrap (q * 2)) over' (n : Int) false x0 x1 x2 ((T / 2 ^ n % S / 18446744073709551616 : Nat) : Int) ((T / 2 ^ n % S % 18446744073709551616 : Nat) : Int)) (capQ T S) := by
          refine Ev.step (fun k => ?_) hr
          simp only [dense_by.j2]
          rw [if_neg (by decide), hi1]
        refine Ev.step (fun k => ?_) hj
        simp only [dense_by.j1]
        rw [if_neg (by decide)]
        generalize T / 2 ^ n % S = R at hgw ⊢
        by_cases c1 : ((R / 18446744073709551616 : Nat) : Int) > ((S / 18446744073709551616 : Nat) : Int)
        · exact absurd (.inl (by omega)) hgw
        · rw [if_neg c1]
          by_cases c2 : ((R / 18446744073709551616 : Nat) : Int) = ((S / 18446744073709551616 : Nat) : Int)
          · rw [if_pos c2, decide_eq_false (fun c3 => hgw (.inr ⟨by omega, by omega⟩))]
          · rw [if_neg c2]
    rw [hi0]
    cases over with
    | true =>
      refine Ev.step (fun k => ?_) (key true (fun _ => by have := ho rfl; omega) (fun h => by cases h))
      simp only [dense_by.l0]
      rw [if_pos (by omega), if_pos ⟨b1, b2⟩, if_pos (by rw [show Int.tmod (n : Int) 64 = ((n % 64 : Nat) : Int) from tmodN n 64]; omega), if_pos trivial, b3, hcar, d1, d2]
    | false =>
      obtain ⟨hq1, hq2⟩ := hq rfl
      have hov : (q / 9223372036854775808 == 1) = decide (9223372036854775808 ≤ T / 2 ^ (n + 1) / S) := by
        rw [hq1]
        exact over_eq _ hq2
      refine Ev.step (fun k => ?_) (key (decide (9223372036854775808 ≤ T / 2 ^ (n + 1) / S)) (fun h => of_decide_eq_true h) (fun h => ⟨hq1, by have := of_decide_eq_false h; omega⟩))
      simp only [dense_by.l0]
      rw [if_pos (by omega), if_pos ⟨b1, b2⟩, if_pos (by rw [show Int.tmod (n : Int) 64 = ((n % 64 : Nat) : Int) from tmodN n 64]; omega), if_neg (by decide), b3, hcar, d1, d2, hov]
theorem quot_loop (T S : Nat) (hT : T < 340282366920938463463374607431768211456) (hS : 0 < S) (hS2 : S ≤ 170141183460469231731687303715884105728) (x0 x1 : Int)
    (h0 : x0 = ((T / 18446744073709551616 : Nat) : Int)) (h1 : x1 = ((T % 18446744073709551616 : Nat) : Int)) :
    ∀ (n : Nat), n ≤ 128 → ∀ (q : Int) (over : Bool), (over = true → 9223372036854775808 ≤ T / 2 ^ n / S) → (over = false → q = ((T / 2 ^ n / S : Nat) : Int) ∧ T / 2 ^ n / S < 9223372036854775808) →
    Ev (fun k => tallymanref15_quotient.l0 k x0 x1 ((S / 18446744073709551616 : Nat) : Int) ((S % 18446744073709551616 : Nat) : Int) q over ((T / 2 ^ n % S / 18446744073709551616 : Nat) : Int) ((T / 2 ^ n % S % 18446744073709551616 : Nat) : Int) ((n : Int) - 1)) (capQ T S) := by
  intro n
  induction n with
  | zero =>
    intro _ q over ho hn
    rw [Nat.pow_zero, Nat.div_one] at ho hn
    refine Ev.step (f := fun _ => some (capQ T S)) (fun k => ?_) (Ev.now _)
    simp only [tallymanref15_quotient.l0]
    rw [if_neg (by omega)]
    unfold capQ
    cases over with
    | true =>
      have := ho rfl
      rw [if_pos rfl, if_neg (by omega)]
    | false =>
      obtain ⟨rfl, hq⟩ := hn rfl
      rw [if_neg (by decide), if_pos (by omega)]
  | succ n ih =>
    intro hn q over ho hq
    have hb : T / 2 ^ n % 2 < 2 := Nat.mod_lt _ (by omega)
    have hcut := cut_bit T n
    have hR : T / 2 ^ (n + 1) % S < S := Nat.mod_lt _ hS
    obtain ⟨l1, l2⟩ := ld_step (T / 2 ^ (n + 1)) S (T / 2 ^ n % 2) hS hb
    rw [← hcut] at l1 l2
    obtain ⟨d1, d2⟩ := dbl_words (T / 2 ^ (n + 1) % S) (T / 2 ^ n % 2) (by omega) hb
    have hi0 : ((n + 1 : Nat) : Int) - 1 = (n : Int) := by omega
    have hi1 : wrap64 ((n : Int) - 1) = (n : Int) - 1 := w64 (by omega) (by omega)
    -- behind the marks
    have key2 : ∀ over' : Bool, (over' = true → 4611686018427387904 ≤ T / 2 ^ (n + 1) / S) → (over' = false → q = ((T / 2 ^ (n + 1) / S : Nat) : Int) ∧ T / 2 ^ (n + 1) / S < 4611686018427387904) →
        Ev (fun k => tallymanref15_quotient.j2 k x0 x1 ((S / 18446744073709551616 : Nat) : Int) ((S % 18446744073709551616 : Nat) : Int) q over' (((2 * (T / 2 ^ (n + 1) % S) + T / 2 ^ n % 2) / 18446744073709551616 : Nat) : Int) (((2 * (T / 2 ^ (n + 1) % S) + T / 2 ^ n % 2) % 18446744073709551616 : Nat) : Int) (n : Int)) (capQ T S) := by
      intro over' ho' hq'
      by_cases hge : S ≤ 2 * (T / 2 ^ (n + 1) % S) + T / 2 ^ n % 2
      · obtain ⟨m1, m2⟩ := l1 hge
        obtain ⟨bo, s1, s2⟩ := sub_words (2 * (T / 2 ^ (n + 1) % S) + T / 2 ^ n % 2) S hge (by omega)
        have hgw := (ge_words (2 * (T / 2 ^ (n + 1) % S) + T / 2 ^ n % 2) S).1 hge
        rw [← m1] at s1 s2
        have hr := ih (by omega) (Go.bits .or .u64 (IntKind.u64.wrap (q * 2)) 1) over' (fun h => by have := ho' h; omega) (fun h => by
          obtain ⟨e, lt⟩ := hq' h
          rw [e, wu_two, show (1 : Int) = ((1 : Nat) : Int) from rfl, or_even _ 1 (by omega) (by omega) (by omega), m2]
          exact ⟨by omega, by omega⟩)
        have hj : Ev (fun k => tallymanref15_quotient.j3 k x0 x1 ((S / 18446744073709551616 : Nat) : Int) ((S % 18446744073709551616 : Nat) : Int) (IntKind.u64.wrap (q * 2)) over' (((2 * (T / 2 ^ (n + 1) % S) + T / 2 ^ n % 2) / 18446744073709551616 : Nat) : Int) (((2 * (T / 2 ^ (n + 1) % S) + T / 2 ^ n % 2) % 18446744073709551616 : Nat) : Int) (n : Int) true) (capQ T S) := by
          refine Ev.step (fun k => ?_) hr
          simp only [tallymanref15_quotient.j3]
          rw [if_pos trivial, s1, Option.bind_some, s2, Option.bind_some, hi1]
        refine Ev.step (fun k => ?_) hj
        simp only [tallymanref15_quotient.j2]
        rcases hgw with hg | ⟨hg1, hg2⟩
        · rw [if_pos (by omega)]
        · rw [if_neg (by omega), if_pos (by omega), decide_eq_true (by omega)]
      · obtain ⟨m1, m2⟩ := l2 hge
        have hgw := fun h => hge ((ge_words (2 * (T / 2 ^ (n + 1) % S) + T / 2 ^ n % 2) S).2 h)
        rw [← m1] at hgw ⊢
        have hr := ih (by omega) (IntKind.u64.wrap (q * 2)) over' (fun h => by have := ho' h; omega) (fun h => by
          obtain ⟨e, lt⟩ := hq' h
          rw [e, wu_two, m2]
          exact ⟨by omega, by omega⟩)
        have hj : Ev (fun k => tallymanref15_quotient.j3 k x0 x1 ((S / 18446744073709551616 : Nat) : Int) ((S % 18446744073709551616 : Nat) : Int) (IntKind.u64.wrap (q * 2)) over' ((T / 2 ^ n % S / 18446744073709551616 : Nat) : Int) ((T / 2 ^ n % S % 18446744073709551616 : Nat) : Int) (n : Int) false) (capQ T S) := by
          refine Ev.step (fun k => ?_) hr
          simp only [tallymanref15_quotient.j3]
          rw [if_neg (by decide), hi1]
        refine Ev.step (fun k => ?_) hj
        simp only [tallymanref15_quotient.j2]
        generalize T / 2 ^ n % S = R at hgw ⊢
        by_cases c1 : ((R / 18446744073709551616 : Nat) : Int) > ((S / 18446744073709551616 : Nat) : Int)
        · exact absurd (.inl (by omega)) hgw
        · rw [if_neg c1]
          by_cases c2 : ((R / 18446744073709551616 : Nat) : Int) = ((S / 18446744073709551616 : Nat) : Int)
          · rw [if_pos c2, decide_eq_false (fun c3 => hgw (.inr ⟨by omega, by omega⟩))]
          · rw [if_neg c2]
    -- the mark
    have key1 : Ev (fun k => tallymanref15_quotient.j1 k x0 x1 ((S / 18446744073709551616 : Nat) : Int) ((S % 18446744073709551616 : Nat) : Int) q over (((2 * (T / 2 ^ (n + 1) % S) + T / 2 ^ n % 2) / 18446744073709551616 : Nat) : Int) ((T / 2 ^ (n + 1) % S % 18446744073709551616 : Nat) : Int) (n : Int) ((T / 2 ^ n % 2 : Nat) : Int)) (capQ T S) := by
      cases over with
      | true =>
        refine Ev.step (fun k => ?_) (key2 true (fun _ => by have := ho rfl; omega) (fun h => by cases h))
        simp only [tallymanref15_quotient.j1]
        rw [if_pos trivial, d2]
      | false =>
        obtain ⟨hq1, hq2⟩ := hq rfl
        have hov : decide (q ≥ 4611686018427387904) = decide (4611686018427387904 ≤ T / 2 ^ (n + 1) / S) := by
          rw [hq1]
          generalize T / 2 ^ (n + 1) / S = X
          by_cases c : 4611686018427387904 ≤ X
          · rw [decide_eq_true c, decide_eq_true (by omega)]
          · rw [decide_eq_false c, decide_eq_false (by omega)]
        refine Ev.step (fun k => ?_) (key2 (decide (4611686018427387904 ≤ T / 2 ^ (n + 1) / S)) (fun h => of_decide_eq_true h) (fun h => ⟨hq1, by have := of_decide_eq_false h; omega⟩))
        simp only [tallymanref15_quotient.j1]
        rw [if_neg (by decide), d2, hov]
    have hm : IntKind.u64.wrap (Int.tmod (n : Int) 64) = ((n % 64 : Nat) : Int) := by rw [show Int.tmod (n : Int) 64 = ((n % 64 : Nat) : Int) from tmodN n 64, wu64 (by omega) (by omega)]
    have hs : ∀ (X s : Nat), s < 64 → Int.tmod (shr .u64 (X : Int) (s : Int)) 2 = ((X / 2 ^ s % 2 : Nat) : Int) := fun X s hs => by
      rw [shr_n X s (by show s ≤ 64; omega)]
      exact tmodN _ 2
    rw [hi0]
    refine Ev.step (fun k => ?_) key1
    simp only [tallymanref15_quotient.l0]
    rw [if_pos (by omega), hm, if_pos (by omega), d1]
    by_cases c : (n : Int) ≥ 64
    · have e1 : IntKind.u64.wrap (wrap64 ((n : Int) - 64)) = ((n - 64 : Nat) : Int) := by rw [w64 (by omega) (by omega), wu64 (by omega) (by omega)]; omega
      rw [if_pos c, e1, if_pos (by omega), h0, hs _ (n - 64) (by omega), bit_high, show n - 64 + 64 = n by omega]
    · rw [if_neg c, h1, show n % 64 = n by omega, hs _ n (by omega), bit_mod T n (by omega)]
end Go.Proofs.Ytbclnjinpcfpjaa.H
