/- Estimate. -/
import Derived.Test.YtbclnjinpcfpjaaT6
import Derived.Test.YtbclnjinpcfpjaaSW
namespace Go.Proofs.Ytbclnjinpcfpjaa.H
open Go.RowKit Go.Proofs.YtbclnjinpcfpjaaW.PrintWords Go.Proofs.YtbclnjinpcfpjaaW.PrintLast
set_option linter.unusedVariables false
set_option linter.unusedSimpArgs false
/-! ### Estimate -/
def sumR : List S32 → Nat
  | [] => 0
  | r :: t => 2 ^ (62 - r.f1.toNat) + sumR t
def capR (p : Nat) : List S32 → Prop := fun l => ∀ r ∈ l, 1 ≤ r.f1 ∧ r.f1 ≤ 61
theorem sumR_app : ∀ (a b : List S32), sumR (a ++ b) = sumR a + sumR b
  | [], b => by simp [sumR]
  | r :: t, b => by rw [List.cons_append, sumR, sumR_app t b, sumR]; omega
theorem sumR_le (p : Nat) : ∀ (l : List S32), capR p l → sumR l ≤ l.length * 2305843009213693952
  | [], _ => by simp [sumR]
  | r :: t, h => by
    have ih := sumR_le p t (fun s hs => h s (List.mem_cons_of_mem _ hs))
    have hr := h r (List.mem_cons_self ..)
    have h2 : 2 ^ (62 - r.f1.toNat) ≤ 2 ^ 61 := Nat.pow_le_pow_right (by omega) (by omega)
    rw [sumR, List.length_cons]
    generalize 2 ^ (62 - r.f1.toNat) = X at *
    omega
theorem sumR_pos (p : Nat) : ∀ (l : List S32), l ≠ [] → 0 < sumR l
  | [], h => absurd rfl h
  | r :: t, _ => by
    have := Nat.two_pow_pos (62 - r.f1.toNat)
    rw [sumR]
    omega
theorem wu_add (a b : Nat) (h : a + b < 18446744073709551616) : IntKind.u64.wrap ((a : Int) + (b : Int)) = ((a + b : Nat) : Int) := by
  rw [← Int.natCast_add]
  exact wu64 (by omega) (by omega)
theorem add_words (X y : Nat) (hy : y < 18446744073709551616) (hX : X + y < 340282366920938463463374607431768211456) : bits_Add64.f ((X % 18446744073709551616 : Nat) : Int) (y : Int) 0 = some ((((X + y) % 18446744073709551616 : Nat) : Int), (((X % 18446744073709551616 + y) / 18446744073709551616 : Nat) : Int)) ∧
    IntKind.u64.wrap (((X / 18446744073709551616 : Nat) : Int) + (((X % 18446744073709551616 + y) / 18446744073709551616 : Nat) : Int)) = (((X + y) / 18446744073709551616 : Nat) : Int) := by
  constructor
  · unfold bits_Add64.f
    rw [if_pos (by omega)]
    congr 2 <;> omega
  · rw [wu_add _ _ (by omega)]
    omega
theorem rank_shl {r : Int} (h1 : 1 ≤ r) (h2 : r ≤ 61) : wrap64 (62 - r) = ((62 - r.toNat : Nat) : Int) ∧ shl .u64 1 ((62 - r.toNat : Nat) : Int) = ((2 ^ (62 - r.toNat) : Nat) : Int) ∧ 2 ^ (62 - r.toNat) < 4611686018427387904 := by
  have h3 : 2 ^ (62 - r.toNat) ≤ 2 ^ 61 := Nat.pow_le_pow_right (by omega) (by omega)
  refine ⟨by rw [w64 (by omega) (by omega)]; omega, ?_, by omega⟩
  have := shl_un (x := 1) (s := 62 - r.toNat) (by omega) (by omega)
  rw [Nat.one_mul] at this
  exact this
theorem est_loop (l l' : List S32) (p : Nat) (hc : capR p l) (hl : l.length ≤ 65536) (x3 x4 : Int) (pi : Int) (Z : Nat) (hZ : Z ≤ 302231454903657293676544) (res : Int)
    (h : Ev (fun k => dense_Estimate.l0 k x3 x4 (((Z + sumR l) / 18446744073709551616 : Nat) : Int) (((Z + sumR l) % 18446744073709551616 : Nat) : Int) l (l.length : Int) (l.length : Int) pi l') res) :
    ∀ (d i : Nat), i + d = l.length → Ev (fun k => dense_Estimate.l0 k x3 x4 (((Z + sumR (l.take i)) / 18446744073709551616 : Nat) : Int) (((Z + sumR (l.take i)) % 18446744073709551616 : Nat) : Int) l (l.length : Int) (i : Int) pi l') res := by
  intro d
  induction d with
  | zero =>
    intro i hi
    obtain rfl : i = l.length := by omega
    rw [List.take_length]
    exact h
  | succ d ih =>
    intro i hi
    have hlt : i < l.length := by omega
    have hr := hc (l[i]) (List.getElem_mem hlt)
    obtain ⟨s1, s2, s3⟩ := rank_shl hr.1 hr.2
    have ht : l.take (i + 1) = l.take i ++ [l[i]] := by rw [List.take_add_one, List.getElem?_eq_getElem hlt]; rfl
    have hs : sumR (l.take (i + 1)) = sumR (l.take i) + 2 ^ (62 - l[i].f1.toNat) := by rw [ht, sumR_app]; simp [sumR]
    have hb := sumR_le p (l.take i) (fun r hr => hc r (List.mem_of_mem_take hr))
    have hbl : (l.take i).length ≤ 65536 := by rw [List.length_take]; omega
    have hn := ih (i + 1) (by omega)
    rw [hs, ← Nat.add_assoc] at hn
    have hX : Z + sumR (l.take i) + 2 ^ (62 - l[i].f1.toNat) < 340282366920938463463374607431768211456 := by
      have : (l.take i).length * 2305843009213693952 ≤ 65536 * 2305843009213693952 := Nat.mul_le_mul_right _ hbl
      omega
    obtain ⟨a1, a2⟩ := add_words (Z + sumR (l.take i)) (2 ^ (62 - l[i].f1.toNat)) (by omega) hX
    refine Ev.step (fun k => ?_) hn
    simp only [dense_Estimate.l0]
    rw [if_pos (by omega), if_pos (by omega), if_pos (by omega), rd32_at l i hlt, s1, if_pos (by omega), s2, a1, Option.bind_some]
    dsimp only
    rw [a2, w64 (x := (i : Int) + 1) (by omega) (by omega)]
    rfl
theorem rest_loop (l : List S32) (p : Nat) (hc : capR p l) (hl : l.length ≤ 65536) (x3 : Int) (pi : Int) (Z : Nat) (hZ : Z ≤ 302231454903657293676544) (res : Int)
    (h : Ev (fun k => tallymanref15_Estimate.l0 k x3 (((Z + sumR l) / 18446744073709551616 : Nat) : Int) (((Z + sumR l) % 18446744073709551616 : Nat) : Int) (l.length : Int) pi l) res) :
    ∀ (d i : Nat), i + d = l.length → Ev (fun k => tallymanref15_Estimate.l0 k x3 (((Z + sumR (l.take i)) / 18446744073709551616 : Nat) : Int) (((Z + sumR (l.take i)) % 18446744073709551616 : Nat) : Int) (i : Int) pi l) res := by
  intro d
  induction d with
  | zero =>
    intro i hi
    obtain rfl : i = l.length := by omega
    rw [List.take_length]
    exact h
  | succ d ih =>
    intro i hi
    have hlt : i < l.length := by omega
    have hr := hc (l[i]) (List.getElem_mem hlt)
    obtain ⟨s1, s2, s3⟩ := rank_shl hr.1 hr.2
    have ht : l.take (i + 1) = l.take i ++ [l[i]] := by rw [List.take_add_one, List.getElem?_eq_getElem hlt]; rfl
    have hs : sumR (l.take (i + 1)) = sumR (l.take i) + 2 ^ (62 - l[i].f1.toNat) := by rw [ht, sumR_app]; simp [sumR]
    have hb := sumR_le p (l.take i) (fun r hr => hc r (List.mem_of_mem_take hr))
    have hbl : (l.take i).length ≤ 65536 := by rw [List.length_take]; omega
    have hn := ih (i + 1) (by omega)
    rw [hs, ← Nat.add_assoc] at hn
    have hX : Z + sumR (l.take i) + 2 ^ (62 - l[i].f1.toNat) < 340282366920938463463374607431768211456 := by
      have : (l.take i).length * 2305843009213693952 ≤ 65536 * 2305843009213693952 := Nat.mul_le_mul_right _ hbl
      omega
    obtain ⟨a1, a2⟩ := add_words (Z + sumR (l.take i)) (2 ^ (62 - l[i].f1.toNat)) (by omega) hX
    refine Ev.step (fun k => ?_) hn
    simp only [tallymanref15_Estimate.l0]
    rw [if_pos (by omega), if_pos (by omega), rd32_at l i hlt, s1, wu64 (x := ((62 - l[i].f1.toNat : Nat) : Int)) (by omega) (by omega), if_pos (by omega), s2, a1, Option.bind_some]
    dsimp only
    rw [a2, w64 (x := (i : Int) + 1) (by omega) (by omega)]
    rfl
/-! ### by, quotient on what Estimate hands them -/
theorem or_zero (y : Nat) (h : y < 18446744073709551616) : Go.bits .or .u64 0 (y : Int) = (y : Int) := by
  have e1 : (BitVec.ofInt 64 (0 : Int)).toNat = 0 := by decide
  have e2 : (BitVec.ofInt 64 (y : Int)).toNat = y := by rw [BitVec.toNat_ofInt]; omega
  have e3 : (BitVec.ofInt 64 (0 : Int) ||| BitVec.ofInt 64 (y : Int)).toNat = y := by rw [BitVec.toNat_or, e1, e2, Nat.zero_or]
  show IntKind.u64.wrap ((BitVec.ofInt 64 (0 : Int) ||| BitVec.ofInt 64 (y : Int)).toNat : Int) = _
  rw [e3]
  exact wu64 (by omega) (by omega)
theorem by_ev (a m S : Nat) (ha : a ≤ 65535) (hm : m ≤ 65536) (hS : 0 < S) (hS2 : S ≤ 170141183460469231731687303715884105728) :
    Ev (fun k => dense_by.f k (a : Int) (m : Int) ((S / 18446744073709551616 : Nat) : Int) ((S % 18446744073709551616 : Nat) : Int)) (capQ (a * m * m * 70368744177664) S) := by
  have h1 : a * m ≤ 65535 * 65536 := Nat.mul_le_mul ha hm
  have h2 : a * m * m ≤ 65535 * 65536 * 65536 := Nat.mul_le_mul h1 hm
  have e1 : IntKind.u64.wrap ((a : Int) * (m : Int)) = ((a * m : Nat) : Int) := wu_mul (by omega)
  have e2 := mul64_f (a * m) m (by omega) (by omega)
  have e3 : a * m * m / 18446744073709551616 = 0 := by omega
  have e4 : a * m * m % 18446744073709551616 = a * m * m := by omega
  rw [e3, e4] at e2
  generalize a * m * m = A at *
  have hT : A * 70368744177664 < 6277101735386680763835789423207666416102355444464034512896 := by omega
  have hl := by_loop (A * 70368744177664) S hT hS hS2 _ _ _ rfl rfl rfl 192 (by omega) 0 false (fun h => by cases h) (fun _ => by
    rw [show A * 70368744177664 / 2 ^ 192 = 0 from Nat.div_eq_of_lt (by omega), Nat.zero_div]
    exact ⟨rfl, by omega⟩)
  rw [show A * 70368744177664 / 2 ^ 192 = 0 from Nat.div_eq_of_lt (by omega), Nat.zero_mod] at hl
  refine Ev.congr (fun k => ?_) hl
  unfold dense_by.f
  rw [e1, e2, Option.bind_some]
  dsimp only
  have e5 : IntKind.u64.wrap (((0 : Nat) : Int) * 70368744177664) = 0 := by decide
  have e6 : ((A : Nat) : Int) / 262144 = ((A / 262144 : Nat) : Int) := by omega
  have e7 : IntKind.u64.wrap ((A : Int) * 70368744177664) = ((A * 70368744177664 % 18446744073709551616 : Nat) : Int) := by
    have := wu_mod (A * 70368744177664)
    rwa [Int.natCast_mul] at this
  rw [e5, e6, or_zero _ (by omega), e7, show A * 70368744177664 / 340282366920938463463374607431768211456 = 0 by omega, show A * 70368744177664 / 18446744073709551616 % 18446744073709551616 = A / 262144 by omega]
  rfl
theorem quot_ev (a m S : Nat) (ha : a ≤ 65535) (hm : m ≤ 65536) (hS : 0 < S) (hS2 : S ≤ 170141183460469231731687303715884105728) :
    Ev (fun k => (bits_Mul64.f (IntKind.u64.wrap ((IntKind.u64.wrap ((a : Int) * (m : Int))) * (m : Int))) 70368744177664).bind fun bt => tallymanref15_quotient.f k bt.1 bt.2 ((S / 18446744073709551616 : Nat) : Int) ((S % 18446744073709551616 : Nat) : Int)) (capQ (a * m * m * 70368744177664) S) := by
  have h1 : a * m ≤ 65535 * 65536 := Nat.mul_le_mul ha hm
  have h2 : a * m * m ≤ 65535 * 65536 * 65536 := Nat.mul_le_mul h1 hm
  have e1 : IntKind.u64.wrap ((a : Int) * (m : Int)) = ((a * m : Nat) : Int) := wu_mul (by omega)
  have e2 : IntKind.u64.wrap (((a * m : Nat) : Int) * (m : Int)) = ((a * m * m : Nat) : Int) := wu_mul (by omega)
  have e3 := mul64_f (a * m * m) 70368744177664 (by omega) (by omega)
  rw [show ((70368744177664 : Nat) : Int) = 70368744177664 from rfl] at e3
  generalize a * m * m = A at *
  have hl := quot_loop (A * 70368744177664) S (by omega) hS hS2 _ _ rfl rfl 128 (by omega) 0 false (fun h => by cases h) (fun _ => by
    rw [show A * 70368744177664 / 2 ^ 128 = 0 from Nat.div_eq_of_lt (by omega), Nat.zero_div]
    exact ⟨rfl, by omega⟩)
  rw [show A * 70368744177664 / 2 ^ 128 = 0 from Nat.div_eq_of_lt (by omega), Nat.zero_mod] at hl
  refine Ev.congr (fun k => ?_) hl
  rw [e1, e2, e3, Option.bind_some]
  rfl
set_option linter.unusedVariables false
set_option linter.unusedSimpArgs false
set_option linter.unusedSectionVars false
/-! ### What Estimate answers -/
def aOf (P : Nat) : Nat := if P = 4 then 44105 else if P = 5 then 45678 else if P = 6 then 46465 else 47271 * 2 ^ P / (2 ^ P + 1)
def linI (m z : Nat) : Int := IntKind.u64.wrap (Int.tdiv (IntKind.u64.wrap (Int.tdiv (IntKind.u64.wrap ((IntKind.u64.wrap (45426 * (m : Int))) * (IntKind.u64.wrap (wrap64 ((logS m : Int) - (logS z : Int)))))) 65536)) 65536)
def sumS (P : Nat) (l : List S32) : Nat := (2 ^ P - l.length) * 4611686018427387904 + sumR l
theorem sumS_def (P : Nat) (l : List S32) : sumS P l = (2 ^ P - l.length) * 4611686018427387904 + sumR l := rfl
def quoE (P : Nat) (l : List S32) : Int := capQ (aOf P * 2 ^ P * 2 ^ P * 70368744177664) (sumS P l)
theorem quoE_def (P : Nat) (l : List S32) : quoE P l = capQ (aOf P * 2 ^ P * 2 ^ P * 70368744177664) (sumS P l) := rfl
def estI (P : Nat) (l : List S32) : Int := if quoE P l ≤ ((5 * 2 ^ P / 2 : Nat) : Int) then (if (0 : Int) < ((2 ^ P - l.length : Nat) : Int) then linI (2 ^ P) (2 ^ P - l.length) else quoE P l) else quoE P l
theorem pick_j2 (J : Nat → Int → Bool → Option Int) (E F LL z : Int) (h : ∀ b : Bool, (b = true → 0 < z) → Ev (fun k => J k E b) (if b = true then LL else E)) : Ev (fun k => if E ≤ F then J k E (decide (z > 0)) else J k E false) (if E ≤ F then (if 0 < z then LL else E) else E) := by
  by_cases c : E ≤ F
  · rw [if_pos c]
    by_cases d : 0 < z
    · rw [if_pos d]
      have h1 := h true (fun _ => d)
      rw [if_pos rfl] at h1
      refine Ev.congr (fun k => ?_) h1
      rw [if_pos c, decide_eq_true d]
    · rw [if_neg d]
      have h1 := h false (fun h => by cases h)
      rw [if_neg (by decide)] at h1
      refine Ev.congr (fun k => ?_) h1
      rw [if_pos c, decide_eq_false d]
  · rw [if_neg c]
    have h1 := h false (fun h => by cases h)
    rw [if_neg (by decide)] at h1
    refine Ev.congr (fun k => ?_) h1
    rw [if_neg c]
theorem regs_capR {P : Nat} (h4 : 4 ≤ P) : ∀ (l : List S32) (last : Int), regsOk P last l = true → capR P l
  | [], _, _ => fun r hr => by cases hr
  | s :: t, last, h => by
    obtain ⟨o1, o2, o3, o4, o5⟩ := regsOk_cons h
    have ih := regs_capR h4 t s.f0 o5
    intro r hr
    rcases List.mem_cons.1 hr with rfl | hr
    · exact ⟨o3, by omega⟩
    · exact ih r hr
theorem aOf_le {P : Nat} (hP : P ≤ 16) : aOf P ≤ 65535 := by
  have := pow_small hP
  unfold aOf
  split
  · omega
  · split
    · omega
    · split
      · omega
      · have : 47271 * 2 ^ P / (2 ^ P + 1) ≤ 47271 := Nat.div_le_of_le_mul (by rw [Nat.mul_comm]; exact Nat.mul_le_mul_right _ (by omega))
        omega
theorem tdivNN (x m : Nat) : Int.tdiv (x : Int) (m : Int) = ((x / m : Nat) : Int) := tdivN x m
/-- The factor that the walk reckons. -/
theorem a_eq {P : Nat} (hP : P ≤ 16) : IntKind.u64.wrap (Int.tdiv (IntKind.u64.wrap (47271 * ((2 ^ P : Nat) : Int))) (IntKind.u64.wrap (((2 ^ P : Nat) : Int) + 1))) = ((47271 * 2 ^ P / (2 ^ P + 1) : Nat) : Int) := by
  have hp := pow_small hP
  generalize 2 ^ P = m at hp ⊢
  have e1 : IntKind.u64.wrap (47271 * (m : Int)) = ((47271 * m : Nat) : Int) := by rw [wu64 (by omega) (by omega)]; omega
  have e2 : IntKind.u64.wrap ((m : Int) + 1) = ((m + 1 : Nat) : Int) := by rw [wu64 (by omega) (by omega)]; omega
  rw [e1, e2, tdivNN]
  have : 47271 * m / (m + 1) ≤ 47271 * m := Nat.div_le_self _ _
  generalize 47271 * m / (m + 1) = X at this ⊢
  exact wu64 (by omega) (by omega)
theorem five_eq {P : Nat} (hP : P ≤ 16) : IntKind.u64.wrap (Int.tdiv (IntKind.u64.wrap (5 * ((2 ^ P : Nat) : Int))) 2) = ((5 * 2 ^ P / 2 : Nat) : Int) := by
  have hp := pow_small hP
  generalize 2 ^ P = m at hp ⊢
  have e1 : IntKind.u64.wrap (5 * (m : Int)) = ((5 * m : Nat) : Int) := by rw [wu64 (by omega) (by omega)]; omega
  rw [e1, show Int.tdiv ((5 * m : Nat) : Int) 2 = ((5 * m / 2 : Nat) : Int) from tdivN _ 2, wu64 (by omega) (by omega)]
section
variable {P : Nat} (h4 : 4 ≤ P) (hP : P ≤ 16) {l : List S32} (hok : regsOk P (-1) l = true)
include h4 hP hok
theorem len_le : l.length ≤ 2 ^ P := by
  have h2 := pow_small hP
  have := regsOk_len (P := P) l (-1) (by omega) (by omega) hok
  omega
theorem sumS_bounds : 0 < sumS P l ∧ sumS P l ≤ 170141183460469231731687303715884105728 := by
  have h2 := pow_small hP
  have h3 := len_le h4 hP hok
  have h5 := sumR_le P l (regs_capR h4 l (-1) hok)
  have h16 : 16 ≤ 2 ^ P := Nat.pow_le_pow_right (n := 2) (by omega) h4
  unfold sumS
  constructor
  · rcases Nat.lt_or_ge l.length (2 ^ P) with h | h
    · omega
    · have : 0 < sumR l := sumR_pos P l (fun e => by rw [e] at h; simp at h)
      omega
  · omega
theorem est_j2 (e : Int) (z : Nat) (hz : z ≤ 65536) (b : Bool) (hb : b = true → 0 < z) : Ev (fun k => dense_Estimate.j2 k ((2 ^ P : Nat) : Int) (z : Int) e b) (if b = true then linI (2 ^ P) z else e) := by
  have h2 := pow_small hP
  cases b with
  | true =>
    have h := hb rfl
    have e1 := log2_ev (x := 2 ^ P) (by omega) (by omega)
    have e2 := log2_ev (x := z) (by omega) (by omega)
    rw [if_pos rfl]
    refine Ev.step (fun k => ?_) (Ev.bind (f := fun k t211 => (dense_Log2.f k (z : Int)).bind fun t212 => some (IntKind.u64.wrap (Int.tdiv (IntKind.u64.wrap (Int.tdiv (IntKind.u64.wrap ((IntKind.u64.wrap (45426 * ((2 ^ P : Nat) : Int))) * (IntKind.u64.wrap (wrap64 (t211 - t212))))) 65536)) 65536))) e1 (Ev.bind (f := fun k t212 => some (IntKind.u64.wrap (Int.tdiv (IntKind.u64.wrap (Int.tdiv (IntKind.u64.wrap ((IntKind.u64.wrap (45426 * ((2 ^ P : Nat) : Int))) * (IntKind.u64.wrap (wrap64 ((logS (2 ^ P) : Int) - t212))))) 65536)) 65536))) e2 (Ev.now _)))
    simp only [dense_Estimate.j2]
    rw [if_pos trivial]
  | false =>
    rw [if_neg (by decide)]
    refine Ev.step (f := fun _ => some e) (fun k => ?_) (Ev.now _)
    simp only [dense_Estimate.j2]
    rw [if_neg (by decide)]
theorem rest_j2 (e : Int) (z : Nat) (hz : z ≤ 65536) (b : Bool) (hb : b = true → 0 < z) : Ev (fun k => tallymanref15_Estimate.j2 k ((2 ^ P : Nat) : Int) e (z : Int) b) (if b = true then linI (2 ^ P) z else e) := by
  have h2 := pow_small hP
  cases b with
  | true =>
    have h := hb rfl
    have e1 := rlog2_ev (x := 2 ^ P) (by omega) (by omega)
    have e2 := rlog2_ev (x := z) (by omega) (by omega)
    rw [if_pos rfl]
    refine Ev.step (fun k => ?_) (Ev.bind (f := fun k t211 => (tallymanref15_Log2.f k (z : Int)).bind fun t212 => some (IntKind.u64.wrap (Int.tdiv (IntKind.u64.wrap (Int.tdiv (IntKind.u64.wrap ((IntKind.u64.wrap (45426 * ((2 ^ P : Nat) : Int))) * (IntKind.u64.wrap (wrap64 (t211 - t212))))) 65536)) 65536))) e1 (Ev.bind (f := fun k t212 => some (IntKind.u64.wrap (Int.tdiv (IntKind.u64.wrap (Int.tdiv (IntKind.u64.wrap ((IntKind.u64.wrap (45426 * ((2 ^ P : Nat) : Int))) * (IntKind.u64.wrap (wrap64 ((logS (2 ^ P) : Int) - t212))))) 65536)) 65536))) e2 (Ev.now _)))
    simp only [tallymanref15_Estimate.j2]
    rw [if_pos trivial]
  | false =>
    rw [if_neg (by decide)]
    refine Ev.step (f := fun _ => some e) (fun k => ?_) (Ev.now _)
    simp only [tallymanref15_Estimate.j2]
    rw [if_neg (by decide)]
theorem est_j1 : Ev (fun k => dense_Estimate.j1 k ((2 ^ P : Nat) : Int) ((2 ^ P - l.length : Nat) : Int) ((sumS P l / 18446744073709551616 : Nat) : Int) ((sumS P l % 18446744073709551616 : Nat) : Int) ((aOf P : Nat) : Int)) (estI P l) := by
  have h2 := pow_small hP
  obtain ⟨s1, s2⟩ := sumS_bounds h4 hP hok
  have hb := by_ev (aOf P) (2 ^ P) (sumS P l) (aOf_le hP) h2.2 s1 s2
  rw [← quoE_def] at hb
  refine Ev.step (fun k => ?_) (Ev.bind (f := fun k t210 => (if t210 ≤ ((5 * 2 ^ P / 2 : Nat) : Int) then (dense_Estimate.j2 k ((2 ^ P : Nat) : Int) ((2 ^ P - l.length : Nat) : Int) t210 (decide (((2 ^ P - l.length : Nat) : Int) > 0))) else (dense_Estimate.j2 k ((2 ^ P : Nat) : Int) ((2 ^ P - l.length : Nat) : Int) t210 false))) hb ?_)
  · simp only [dense_Estimate.j1]
    rw [five_eq hP]
  · exact pick_j2 (fun k e b => dense_Estimate.j2 k ((2 ^ P : Nat) : Int) ((2 ^ P - l.length : Nat) : Int) e b) (quoE P l) ((5 * 2 ^ P / 2 : Nat) : Int) (linI (2 ^ P) (2 ^ P - l.length)) ((2 ^ P - l.length : Nat) : Int) (fun b hb => est_j2 h4 hP hok (quoE P l) (2 ^ P - l.length) (by omega) b (fun h => by have := hb h; omega))
theorem zeros_ref : Ev (fun k => tallymanref14_Zeros.f k (P : Int) l) ((2 ^ P - l.length : Nat) : Int) := by
  have h2 := pow_small hP
  have h3 := len_le h4 hP hok
  unfold tallymanref14_Zeros.f
  refine Ev.bind (check_good h4 hP (by omega) hok) ?_
  refine Ev.congr (f := fun _ => some ((2 ^ P - l.length : Nat) : Int)) (fun k => ?_) (Ev.now _)
  rw [if_pos rfl, wu64 (x := (P : Int)) (by omega) (by omega), if_pos (by omega), shl_p hP, w64 (by omega) (by omega)]
  congr 1
  omega
theorem rest_j1 : Ev (fun k => tallymanref15_Estimate.j1 k ((2 ^ P : Nat) : Int) ((sumS P l / 18446744073709551616 : Nat) : Int) ((sumS P l % 18446744073709551616 : Nat) : Int) ((aOf P : Nat) : Int) (P : Int) l) (estI P l) := by
  have h2 := pow_small hP
  obtain ⟨s1, s2⟩ := sumS_bounds h4 hP hok
  have hb := quot_ev (aOf P) (2 ^ P) (sumS P l) (aOf_le hP) h2.2 s1 s2
  rw [← quoE_def] at hb
  refine Ev.step (fun k => ?_) (Ev.bind (f := fun k t598 => (tallymanref14_Zeros.f k (P : Int) l).bind fun t599 => (if t598 ≤ ((5 * 2 ^ P / 2 : Nat) : Int) then (tallymanref15_Estimate.j2 k ((2 ^ P : Nat) : Int) t598 (IntKind.u64.wrap (t599)) (decide ((IntKind.u64.wrap (t599)) > 0))) else (tallymanref15_Estimate.j2 k ((2 ^ P : Nat) : Int) t598 (IntKind.u64.wrap (t599)) false))) hb (Ev.bind (zeros_ref h4 hP hok) ?_))
  · simp only [tallymanref15_Estimate.j1]
    rw [five_eq hP, Option.bind_assoc]
  · have hw : IntKind.u64.wrap ((2 ^ P - l.length : Nat) : Int) = ((2 ^ P - l.length : Nat) : Int) := wu64 (by omega) (by omega)
    rw [hw]
    exact pick_j2 (fun k e b => tallymanref15_Estimate.j2 k ((2 ^ P : Nat) : Int) e ((2 ^ P - l.length : Nat) : Int) b) (quoE P l) ((5 * 2 ^ P / 2 : Nat) : Int) (linI (2 ^ P) (2 ^ P - l.length)) ((2 ^ P - l.length : Nat) : Int) (fun b hb => rest_j2 h4 hP hok (quoE P l) (2 ^ P - l.length) (by omega) b (fun h => by have := hb h; omega))
theorem shl1 : shl .u64 1 (P : Int) = ((2 ^ P : Nat) : Int) := by
  have h2 := pow_small hP
  have := shl_un (x := 1) (s := P) (by omega) (by omega)
  rwa [Nat.one_mul] at this
theorem est_ev : Ev (fun k => dense_Estimate.f k (P : Int) l) (estI P l) := by
  have h2 := pow_small hP
  have h3 := len_le h4 hP hok
  have hj := est_j1 h4 hP hok
  have hc := regs_capR h4 l (-1) hok
  have hend : Ev (fun k => dense_Estimate.l0 k ((2 ^ P : Nat) : Int) ((2 ^ P - l.length : Nat) : Int) ((((2 ^ P - l.length) * 4611686018427387904 + sumR l) / 18446744073709551616 : Nat) : Int) ((((2 ^ P - l.length) * 4611686018427387904 + sumR l) % 18446744073709551616 : Nat) : Int) l (l.length : Int) (l.length : Int) (P : Int) l) (estI P l) := by
    refine Ev.step (fun k => ?_) hj
    simp only [dense_Estimate.l0]
    rw [if_neg (by omega), if_neg (by rw [wu64 (by omega) (by omega)]; omega)]
    rw [sumS_def]
    unfold aOf
    by_cases c4 : P = 4
    · rw [if_pos (by omega), if_pos c4]; rfl
    · rw [if_neg (by omega), if_neg c4]
      by_cases c5 : P = 5
      · rw [if_pos (by omega), if_pos c5]; rfl
      · rw [if_neg (by omega), if_neg c5]
        by_cases c6 : P = 6
        · rw [if_pos (by omega), if_pos c6]; rfl
        · rw [if_neg (by omega), if_neg c6, a_eq hP]
  have hl := est_loop l l P hc (by omega) ((2 ^ P : Nat) : Int) ((2 ^ P - l.length : Nat) : Int) (P : Int) ((2 ^ P - l.length) * 4611686018427387904) (by omega) _ hend l.length 0 (by omega)
  rw [show sumR (l.take 0) = 0 from rfl, Nat.add_zero] at hl
  have hz : IntKind.u64.wrap (((2 ^ P : Nat) : Int) - (IntKind.u64.wrap ((l.length : Int)))) = ((2 ^ P - l.length : Nat) : Int) := by
    rw [wu64 (x := (l.length : Int)) (by omega) (by omega), wu64 (by omega) (by omega)]
    omega
  have hm := mul64_f (2 ^ P - l.length) 4611686018427387904 (by omega) (by omega)
  rw [show ((4611686018427387904 : Nat) : Int) = 4611686018427387904 from rfl] at hm
  unfold dense_Estimate.f
  refine Ev.bind (check_ev P h4 hP l (by omega) hok) ?_
  refine Ev.congr (fun k => ?_) hl
  rw [if_pos rfl, if_pos (by omega), shl1 h4 hP hok, hz, hm, Option.bind_some]
  rfl
theorem rest_ev : Ev (fun k => tallymanref15_Estimate.f k (P : Int) l) (estI P l) := by
  have h2 := pow_small hP
  have h3 := len_le h4 hP hok
  have hj := rest_j1 h4 hP hok
  have hc := regs_capR h4 l (-1) hok
  have hend : Ev (fun k => tallymanref15_Estimate.l0 k ((2 ^ P : Nat) : Int) ((((2 ^ P - l.length) * 4611686018427387904 + sumR l) / 18446744073709551616 : Nat) : Int) ((((2 ^ P - l.length) * 4611686018427387904 + sumR l) % 18446744073709551616 : Nat) : Int) (l.length : Int) (P : Int) l) (estI P l) := by
    refine Ev.step (fun k => ?_) hj
    simp only [tallymanref15_Estimate.l0]
    rw [if_neg (by omega), if_neg (by rw [wu64 (by omega) (by omega)]; omega)]
    rw [sumS_def]
    unfold aOf
    by_cases c4 : P = 4
    · rw [if_pos (by omega), if_pos c4]; rfl
    · rw [if_neg (by omega), if_neg c4]
      by_cases c5 : P = 5
      · rw [if_pos (by omega), if_pos c5]; rfl
      · rw [if_neg (by omega), if_neg c5]
        by_cases c6 : P = 6
        · rw [if_pos (by omega), if_pos c6]; rfl
        · rw [if_neg (by omega), if_neg c6, a_eq hP]
  have hl := rest_loop l P hc (by omega) ((2 ^ P : Nat) : Int) (P : Int) ((2 ^ P - l.length) * 4611686018427387904) (by omega) _ hend l.length 0 (by omega)
  rw [show sumR (l.take 0) = 0 from rfl, Nat.add_zero] at hl
  have hz : IntKind.u64.wrap ((2 ^ P - l.length : Nat) : Int) = ((2 ^ P - l.length : Nat) : Int) := wu64 (by omega) (by omega)
  have hm := mul64_f (2 ^ P - l.length) 4611686018427387904 (by omega) (by omega)
  rw [show ((4611686018427387904 : Nat) : Int) = 4611686018427387904 from rfl] at hm
  unfold tallymanref15_Estimate.f
  refine Ev.bind (check_good h4 hP (by omega) hok) ?_
  refine Ev.congr (f := fun k => (tallymanref14_Zeros.f k (P : Int) l).bind fun t590 => ((bits_Mul64.f (IntKind.u64.wrap (t590)) 4611686018427387904).bind fun bt591 => (tallymanref15_Estimate.l0 k ((2 ^ P : Nat) : Int) bt591.1 bt591.2 0 (P : Int) l))) (fun k => ?_) (Ev.bind (zeros_ref h4 hP hok) (Ev.congr (fun k => ?_) hl))
  · rw [if_pos rfl, wu64 (x := (P : Int)) (by omega) (by omega), if_pos (by omega), shl1 h4 hP hok]
  · rw [hz, hm, Option.bind_some]
    rfl
end
/-- Both Estimates answer alike. -/
theorem est_both (p : Int) (l : List S32) (hl : l.length ≤ 65536) : ∃ r : Int, Ev (fun k => dense_Estimate.f k p l) r ∧ Ev (fun k => tallymanref15_Estimate.f k p l) r := by
  obtain ⟨v, h1, h2, hc⟩ := chk_both p l hl
  rcases hc with ⟨rfl, P, rfl, h4, hP, hv⟩ | rfl
  · rw [← regs_okR] at hv
    exact ⟨_, est_ev h4 hP hv, rest_ev h4 hP hv⟩
  · refine ⟨0, ?_, ?_⟩
    · unfold dense_Estimate.f
      exact Ev.bind h1 (Ev.congr (f := fun _ => some 0) (fun k => by rw [if_neg (show ¬ (2 : Int) = 0 by decide)]) (Ev.now _))
    · unfold tallymanref15_Estimate.f
      exact Ev.bind h2 (Ev.congr (f := fun _ => some 0) (fun k => by rw [if_neg (show ¬ (2 : Int) = 0 by decide)]) (Ev.now _))
end Go.Proofs.Ytbclnjinpcfpjaa.H
