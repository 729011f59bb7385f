/- The pure statement of DenseLogs: what the Go law comes to, as a Lean function on numbers and lists, is true for every input. -/
import Derived.Test.YtbclnjinpcfpjaaH5
import Derived.Test.YtbclnjinpcfpjaaS0
import Derived.OpenShut
namespace Go.Proofs.Ytbclnjinpcfpjaa.Pure
open Go.RowKit Go.Proofs.Ytbclnjinpcfpjaa.H Go.Proofs.YtbclnjinpcfpjaaW.PrintWords Go.Proofs.YtbclnjinpcfpjaaW.PrintLast
attribute [local irreducible] logS
theorem lives_ev : Ev (fun k => tallymanlaw15_lives.f k) true := Ev.of (fun k => tallymanlaw15_lives.mono k) (k := 100) (by decide +kernel)
theorem pick_ev (a m : Int) (hm : 1 ≤ m) (hm2 : m ≤ 4611686018427387904) : ∃ p : Nat, tallymankit_Pick.f a m = some (p : Int) ∧ (p : Int) < m := by
  unfold tallymankit_Pick.f
  rw [if_neg (by omega), if_neg (by omega)]
  have hb : Int.tmod a m < m := by
    have := Int.tmod_lt_of_pos a (b := m) (by omega)
    exact this
  have hlo : -m < Int.tmod a m := Int.lt_tmod_of_pos a (by omega)
  by_cases hn : Int.tmod a m < 0
  · rw [if_pos hn, w64 (by omega) (by omega)]
    exact ⟨(Int.tmod a m + m).toNat, by rw [Int.toNat_of_nonneg (by omega)], by omega⟩
  · rw [if_neg hn]
    exact ⟨(Int.tmod a m).toNat, by rw [Int.toNat_of_nonneg (by omega)], by omega⟩
theorem fold_arg (a : Int) (h : (Lit.int .u64 a).wf = true) : ∃ x : Nat, x ≠ 0 ∧ x ≤ 2147483648 ∧ IntKind.u64.wrap (1 + Int.tmod a 2147483648) = (x : Int) := by
  obtain ⟨h1, h2⟩ := Go.bounds_u64 h
  have e : Int.tmod a 2147483648 = a % 2147483648 := Int.tmod_eq_emod_of_nonneg h1
  rw [e]
  refine ⟨(1 + a % 2147483648).toNat, by omega, by omega, ?_⟩
  rw [wu64 (by omega) (by omega)]
  omega
theorem tails {X Y Z D W p : Nat} (hm : X + Y ≤ Z + 1 ∧ Z ≤ X + Y + 3) (hd : D = X + 65536) (hw : W = 65536 * p) (hx31 : X ≤ 2031616) (hy31 : Y ≤ 2031616) (hp : p < 64) :
    (D : Int) = wrap64 ((X : Int) + 65536) ∧ wrap64 (wrap64 ((Z : Int) - (X : Int)) - (Y : Int)) ≥ -4 ∧ wrap64 (wrap64 ((Z : Int) - (X : Int)) - (Y : Int)) ≤ 4 ∧ (0 : Int) ≤ (p : Int) ∧ (W : Int) = wrap64 (65536 * (p : Int)) ∧ (X : Int) ≥ 0 ∧ decide ((X : Int) ≤ 2031616) = true := by
  have t0 : wrap64 (wrap64 ((Z : Int) - (X : Int)) - (Y : Int)) = (Z : Int) - X - Y := by rw [w64 (x := (Z : Int) - (X : Int)) (by omega) (by omega), w64 (by omega) (by omega)]
  rw [t0, w64 (by omega) (by omega), w64 (by omega) (by omega)]
  exact ⟨by omega, by omega, by omega, by omega, by omega, by omega, by simp; omega⟩
set_option maxHeartbeats 4000000 in
theorem DenseLogs : tallymanlaw15_DenseLogs.Pure := by
  intro a0 a1 a2 h0 h1 _
  obtain ⟨x, hx0, hxb, ex⟩ := fold_arg a0 h0
  obtain ⟨y, hy0, hyb, ey⟩ := fold_arg a1 h1
  obtain ⟨p, ep, hp⟩ := pick_ev a2 64 (by omega) (by omega)
  have hxy : x * y ≤ 2147483648 * 2147483648 := Nat.mul_le_mul hxb hyb
  have exy : IntKind.u64.wrap ((x : Int) * (y : Int)) = ((x * y : Nat) : Int) := by rw [← Int.natCast_mul]; exact wu64 (by omega) (by omega)
  have e2x : IntKind.u64.wrap (2 * (x : Int)) = ((2 * x : Nat) : Int) := by rw [wu64 (by omega) (by omega)]; omega
  have ewp : IntKind.u64.wrap ((p : Int)) = (p : Int) := wu64 (by omega) (by omega)
  have hp64 : p < 64 := by omega
  have hpp : 2 ^ p ≤ 2 ^ 63 := Nat.pow_le_pow_right (by omega) (by omega)
  have esh : shl .u64 1 (p : Int) = ((2 ^ p : Nat) : Int) := by
    unfold shl
    rw [Int.toNat_natCast, Nat.min_eq_left (by show _ ≤ 64; omega), Int.one_mul, show (2 : Int) ^ p = ((2 ^ p : Nat) : Int) by rw [Int.natCast_pow]; rfl]
    have hT : 2 ^ p ≤ 9223372036854775808 := hpp
    generalize 2 ^ p = T at hT
    exact wu64 (by omega) (by omega)
  obtain ⟨K0, k0⟩ := lives_ev
  obtain ⟨K1, k1⟩ := log2_ev hx0 (by omega)
  obtain ⟨K2, k2⟩ := log2_ev hy0 (by omega)
  obtain ⟨K3, k3⟩ := log2_ev (Nat.mul_ne_zero hx0 hy0) (by omega)
  obtain ⟨K4, k4⟩ := log2_ev (x := 2 * x) (by omega) (by omega)
  obtain ⟨K5, k5⟩ := log2_ev (x := 2 ^ p) (by have := Nat.two_pow_pos p; omega) (by omega)
  have hm := logS_mul hx0 hy0
  have hd := logS_double hx0 hxb
  have hw := logS_pow p
  have hx31 : logS x ≤ 2031616 := by
    have := logS_mono hxb hx0
    have e := logS_pow 31
    rw [show (2 : Nat) ^ 31 = 2147483648 by rfl] at e
    omega
  have hy31 : logS y ≤ 2031616 := by
    have := logS_mono hyb hy0
    have e := logS_pow 31
    rw [show (2 : Nat) ^ 31 = 2147483648 by rfl] at e
    omega
  have m1 : x ≤ y → logS x ≤ logS y := fun h => logS_mono h hx0
  have m2 : y ≤ x → logS y ≤ logS x := fun h => logS_mono h hy0
  refine ⟨K0 + K1 + K2 + K3 + K4 + K5, ?_⟩
  generalize hk : K0 + K1 + K2 + K3 + K4 + K5 = k
  have k0' : tallymanlaw15_lives.f k = some true := k0 k (by omega)
  have k1' : dense_Log2.f k (x : Int) = some (logS x : Int) := k1 k (by omega)
  have k2' : dense_Log2.f k (y : Int) = some (logS y : Int) := k2 k (by omega)
  have k3' : dense_Log2.f k ((x * y : Nat) : Int) = some (logS (x * y) : Int) := k3 k (by omega)
  have k4' : dense_Log2.f k ((2 * x : Nat) : Int) = some (logS (2 * x) : Int) := k4 k (by omega)
  have k5' : dense_Log2.f k ((2 ^ p : Nat) : Int) = some (logS (2 ^ p) : Int) := k5 k (by omega)
  clear k0 k1 k2 k3 k4 k5
  unfold tallymanlaw15_DenseLogs.f
  rw [k0', Option.bind_some, if_pos rfl, ex, ey, k1', Option.bind_some, k2', Option.bind_some, ep, Option.bind_some]
  rw [exy, k3', Option.bind_some, e2x, k4', Option.bind_some, ewp, esh, k5', Option.bind_some]
  generalize logS x = X at *
  generalize logS y = Y at *
  generalize logS (x * y) = Z at *
  generalize logS (2 * x) = D at *
  generalize logS (2 ^ p) = W at *
  obtain ⟨t1, t2, t3, t4, t5, t6, t7⟩ := tails hm hd hw hx31 hy31 hp64
  clear hm hd hw hx31 hy31 k0' k1' k2' k3' k4' k5' esh ewp e2x exy hxy ex ey ep hpp hk
  rcases Nat.lt_trichotomy x y with h | h | h
  · have e1 := m1 (by omega)
    refine (if_neg (by omega)).trans ((if_pos (by omega)).trans ((if_pos (by omega)).trans ?_))
    exact (if_pos t1).trans ((if_pos t2).trans ((if_pos t3).trans ((if_pos t4).trans ((if_pos t5).trans ((if_pos t6).trans (congrArg some t7))))))
  · have e1 := m1 (by omega)
    have e2 := m2 (by omega)
    refine (if_neg (by omega)).trans ((if_pos (by omega)).trans ((if_neg (by omega)).trans ((if_pos (by omega)).trans ?_)))
    exact (if_pos t1).trans ((if_pos t2).trans ((if_pos t3).trans ((if_pos t4).trans ((if_pos t5).trans ((if_pos t6).trans (congrArg some t7))))))
  · have e2 := m2 (by omega)
    refine (if_pos (by omega)).trans ((if_neg (by omega)).trans ((if_pos (by omega)).trans ?_))
    exact (if_pos t1).trans ((if_pos t2).trans ((if_pos t3).trans ((if_pos t4).trans ((if_pos t5).trans ((if_pos t6).trans (congrArg some t7))))))
end Go.Proofs.Ytbclnjinpcfpjaa.Pure
