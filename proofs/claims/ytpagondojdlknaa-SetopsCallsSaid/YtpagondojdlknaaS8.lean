/- Plain facts about the printed functions: what each of them answers. -/
import Derived.Test.YtpagondojdlknaaH1
import Derived.Test.YtpagondojdlknaaH3
namespace Go.Proofs.Ytpagondojdlknaa.H
open Go.RowKit Go.Proofs.YtpagondojdlknaaW.PrintWords Go.Proofs.YtpagondojdlknaaW.PrintLast Go.Proofs.YtpagondojdlknaaW.PrintMore
set_option linter.unusedVariables false
set_option linter.unusedSimpArgs false
/-! One digit of a long division. -/
theorem digit_start {u d v1 v0 q T : Nat} (hT : T = 4294967296) (hv1 : 0 < v1) (hd : d < T) (h : q * (v1 * T + v0) ≤ u * T + d) : q ≤ u / v1 := by
  rw [Nat.le_div_iff_mul_le hv1]
  have h1 : q * (v1 * T) ≤ u * T + d := Nat.le_trans (Nat.mul_le_mul_left q (Nat.le_add_right _ _)) h
  have h2 : q * v1 * T ≤ u * T + d := by rw [Nat.mul_assoc]; exact h1
  have h3 : q * v1 * T < (u + 1) * T := by rw [Nat.add_mul]; omega
  exact Nat.lt_succ_iff.1 (Nat.lt_of_mul_lt_mul_right h3)
theorem digit_eq {u v1 v0 q r T : Nat} (h : q * v1 + r = u) : q * (v1 * T + v0) + r * T = u * T + q * v0 := by
  rw [← h, Nat.mul_add, Nat.add_mul, Nat.mul_assoc]
  omega
theorem digit_small {u v1 v0 q r T : Nat} (hT : T = 4294967296) (h : q * v1 + r = u) (hu : u < v1 * T + v0) (hv0 : v0 < T) (hr : T ≤ r) : q < T := by
  apply Decidable.byContradiction
  intro hn
  have h1 : T * v1 ≤ q * v1 := Nat.mul_le_mul_right v1 (by omega)
  have h2 : T * v1 = v1 * T := Nat.mul_comm _ _
  omega
theorem digit_break {u d v1 v0 q r T : Nat} (hT : T = 4294967296) (h : q * v1 + r = u) (hu : u < v1 * T + v0) (hv0 : v0 < T) (hr : T ≤ r) : q * (v1 * T + v0) ≤ u * T + d := by
  have hq := digit_small hT h hu hv0 hr
  have e := digit_eq (v0 := v0) (T := T) h
  have h1 : q * v0 ≤ T * T := Nat.mul_le_mul (by omega) (by omega)
  have h2 : T * T ≤ r * T := Nat.mul_le_mul_right T hr
  omega
theorem digit_done {u d v1 v0 q r T : Nat} (h : q * v1 + r = u) (hc : q * v0 ≤ T * r + d) : q * (v1 * T + v0) ≤ u * T + d := by
  have e := digit_eq (v0 := v0) (T := T) h
  rw [Nat.mul_comm T r] at hc
  omega
theorem digit_more {u d v1 v0 q r T w : Nat} (h : q * v1 + r = u) (hu : u < v1 * T + v0) (hd : d < T) (hc : T ≤ q ∨ T * r + d < q * v0) (hw : w * (v1 * T + v0) ≤ u * T + d) : w < q := by
  rcases hc with hc | hc
  · apply Decidable.byContradiction
    intro hn
    have h1 : T * (v1 * T + v0) ≤ w * (v1 * T + v0) := Nat.mul_le_mul_right _ (by omega)
    have h2 : (u + 1) * T ≤ (v1 * T + v0) * T := Nat.mul_le_mul_right _ (by omega)
    rw [Nat.mul_comm T] at h1
    rw [Nat.add_mul] at h2
    omega
  · have e := digit_eq (v0 := v0) (T := T) h
    rw [Nat.mul_comm T r] at hc
    exact Nat.lt_of_mul_lt_mul_right (a := v1 * T + v0) (by omega)
/-- The quotient, when a guess is neither too small nor too large. -/
theorem digit_q {u d v q : Nat} (hv : 0 < v) (h1 : (u * 4294967296 + d) / v ≤ q) (h2 : q * v ≤ u * 4294967296 + d) : q = (u * 4294967296 + d) / v := by
  have := (Nat.le_div_iff_mul_le hv).2 h2
  omega
theorem digit_lt {u d v : Nat} (hu : u < v) (hd : d < 4294967296) : (u * 4294967296 + d) / v < 4294967296 := by
  rw [Nat.div_lt_iff_lt_mul (by omega)]
  omega
/-- Two digits. -/
theorem two_digits {u d1 d0 v : Nat} (hv : 0 < v) : (u * 4294967296 + d1) / v * 4294967296 + ((u * 4294967296 + d1) % v * 4294967296 + d0) / v = ((u * 4294967296 + d1) * 4294967296 + d0) / v := by
  obtain ⟨X, hX⟩ : ∃ X, X = u * 4294967296 + d1 := ⟨_, rfl⟩
  rw [← hX]
  have e : X * 4294967296 + d0 = v * (X / v * 4294967296) + (X % v * 4294967296 + d0) := by
    have := Nat.div_add_mod X v
    have h2 : (v * (X / v) + X % v) * 4294967296 = X * 4294967296 := by rw [this]
    rw [Nat.add_mul, Nat.mul_assoc] at h2
    omega
  rw [e, Nat.mul_add_div hv]

/-! ### bits.Len64: the table -/
theorem tab_log : ∀ t : Fin 256, ¬ t.val = 0 → bt (⟨#[0, 1, 2, 2, 3, 3, 3, 3, 4, 4, 4, 4, 4, 4, 4, 4, 5, 5, 5, 5, 5, 5, 5, 5, 5, 5, 5, 5, 5, 5, 5, 5, 6, 6, 6, 6, 6, 6, 6, 6, 6, 6, 6, 6, 6, 6, 6, 6, 6, 6, 6, 6, 6, 6, 6, 6, 6, 6, 6, 6, 6, 6, 6, 6, 7, 7, 7, 7, 7, 7, 7, 7, 7, 7, 7, 7, 7, 7, 7, 7, 7, 7, 7, 7, 7, 7, 7, 7, 7, 7, 7, 7, 7, 7, 7, 7, 7, 7, 7, 7, 7, 7, 7, 7, 7, 7, 7, 7, 7, 7, 7, 7, 7, 7, 7, 7, 7, 7, 7, 7, 7, 7, 7, 7, 7, 7, 7, 7, 8, 8, 8, 8, 8, 8, 8, 8, 8, 8, 8, 8, 8, 8, 8, 8, 8, 8, 8, 8, 8, 8, 8, 8, 8, 8, 8, 8, 8, 8, 8, 8, 8, 8, 8, 8, 8, 8, 8, 8, 8, 8, 8, 8, 8, 8, 8, 8, 8, 8, 8, 8, 8, 8, 8, 8, 8, 8, 8, 8, 8, 8, 8, 8, 8, 8, 8, 8, 8, 8, 8, 8, 8, 8, 8, 8, 8, 8, 8, 8, 8, 8, 8, 8, 8, 8, 8, 8, 8, 8, 8, 8, 8, 8, 8, 8, 8, 8, 8, 8, 8, 8, 8, 8, 8, 8, 8, 8, 8, 8, 8, 8, 8, 8, 8, 8, 8, 8, 8, 8, 8, 8, 8, 8, 8, 8, 8, 8]⟩ : ByteArray) (t.val : Int) = ((t.val.log2 + 1 : Nat) : Int) := by decide +kernel
theorem tab_at (x : Int) (t : Nat) (e : x = (t : Int)) (h : t < 256) (h0 : ¬ t = 0) : bt (⟨#[0, 1, 2, 2, 3, 3, 3, 3, 4, 4, 4, 4, 4, 4, 4, 4, 5, 5, 5, 5, 5, 5, 5, 5, 5, 5, 5, 5, 5, 5, 5, 5, 6, 6, 6, 6, 6, 6, 6, 6, 6, 6, 6, 6, 6, 6, 6, 6, 6, 6, 6, 6, 6, 6, 6, 6, 6, 6, 6, 6, 6, 6, 6, 6, 7, 7, 7, 7, 7, 7, 7, 7, 7, 7, 7, 7, 7, 7, 7, 7, 7, 7, 7, 7, 7, 7, 7, 7, 7, 7, 7, 7, 7, 7, 7, 7, 7, 7, 7, 7, 7, 7, 7, 7, 7, 7, 7, 7, 7, 7, 7, 7, 7, 7, 7, 7, 7, 7, 7, 7, 7, 7, 7, 7, 7, 7, 7, 7, 8, 8, 8, 8, 8, 8, 8, 8, 8, 8, 8, 8, 8, 8, 8, 8, 8, 8, 8, 8, 8, 8, 8, 8, 8, 8, 8, 8, 8, 8, 8, 8, 8, 8, 8, 8, 8, 8, 8, 8, 8, 8, 8, 8, 8, 8, 8, 8, 8, 8, 8, 8, 8, 8, 8, 8, 8, 8, 8, 8, 8, 8, 8, 8, 8, 8, 8, 8, 8, 8, 8, 8, 8, 8, 8, 8, 8, 8, 8, 8, 8, 8, 8, 8, 8, 8, 8, 8, 8, 8, 8, 8, 8, 8, 8, 8, 8, 8, 8, 8, 8, 8, 8, 8, 8, 8, 8, 8, 8, 8, 8, 8, 8, 8, 8, 8, 8, 8, 8, 8, 8, 8, 8, 8, 8, 8, 8, 8]⟩ : ByteArray) x = ((t.log2 + 1 : Nat) : Int) := by rw [e]; exact tab_log ⟨t, h⟩ h0
theorem log2_pow {x c : Nat} (h : ¬ x / 2 ^ c = 0) : x.log2 = (x / 2 ^ c).log2 + c := by
  have hx : x ≠ 0 := by intro e; subst e; simp at h
  rw [Nat.log2_eq_iff hx]
  have h1 := (Nat.log2_eq_iff h).1 rfl
  obtain ⟨L, hL⟩ : ∃ L, L = (x / 2 ^ c).log2 := ⟨_, rfl⟩
  rw [← hL] at h1 ⊢
  refine ⟨?_, ?_⟩
  · rw [Nat.pow_add]
    exact (Nat.le_div_iff_mul_le (Nat.two_pow_pos c)).1 h1.1
  · rw [show L + c + 1 = L + 1 + c by omega, Nat.pow_add]
    exact (Nat.div_lt_iff_lt_mul (Nat.two_pow_pos c)).1 h1.2
set_option maxRecDepth 20000 in
theorem len_j0 (k x : Nat) (c : Int) (h0 : ¬ x = 0) (hx : x < 4294967296) (hc : 0 ≤ c) (hc2 : c ≤ 32) : bits_Len64.j0 (k + 1) (x : Int) c = some (c + ((x.log2 + 1 : Nat) : Int)) := by
  rw [bits_Len64.j0]
  by_cases h1 : 65536 ≤ x
  · rw [if_pos (by omega)]
    by_cases h2 : 16777216 ≤ x
    · have e := log2_pow (x := x) (c := 24) (by omega)
      have hb := (Nat.log2_lt (n := x / 2 ^ 24) (k := 8) (by omega)).2 (by omega)
      rw [if_pos (by omega), if_pos (by omega), if_pos (by omega), tab_at _ (x / 2 ^ 24) (by omega) (by omega) (by omega)]
      generalize (x / 2 ^ 24).log2 = L at e hb ⊢
      rw [w64' (x := c + 16) (by omega) (by omega), w64' (x := c + 16 + 8) (by omega) (by omega), w64' (x := ((L + 1 : Nat) : Int)) (by omega) (by omega), w64' (by omega) (by omega)]
      congr 1
      omega
    · have e := log2_pow (x := x) (c := 16) (by omega)
      have hb := (Nat.log2_lt (n := x / 2 ^ 16) (k := 8) (by omega)).2 (by omega)
      rw [if_neg (by omega), if_pos (by omega), if_pos (by omega), tab_at _ (x / 2 ^ 16) (by omega) (by omega) (by omega)]
      generalize (x / 2 ^ 16).log2 = L at e hb ⊢
      rw [w64' (x := c + 16) (by omega) (by omega), w64' (x := ((L + 1 : Nat) : Int)) (by omega) (by omega), w64' (by omega) (by omega)]
      congr 1
      omega
  · rw [if_neg (by omega)]
    by_cases h2 : 256 ≤ x
    · have e := log2_pow (x := x) (c := 8) (by omega)
      have hb := (Nat.log2_lt (n := x / 2 ^ 8) (k := 8) (by omega)).2 (by omega)
      rw [if_pos (by omega), if_pos (by omega), if_pos (by omega), tab_at _ (x / 2 ^ 8) (by omega) (by omega) (by omega)]
      generalize (x / 2 ^ 8).log2 = L at e hb ⊢
      rw [w64' (x := c + 8) (by omega) (by omega), w64' (x := ((L + 1 : Nat) : Int)) (by omega) (by omega), w64' (by omega) (by omega)]
      congr 1
      omega
    · have hb := (Nat.log2_lt (n := x) (k := 8) h0).2 (by omega)
      rw [if_neg (by omega), if_pos (by omega), if_pos (by omega), tab_at _ x (by omega) (by omega) (by omega), w64' (x := ((x.log2 + 1 : Nat) : Int)) (by omega) (by omega), w64' (by omega) (by omega)]
theorem len64_ev (x : Nat) (h0 : ¬ x = 0) (hx : x < 18446744073709551616) : Ev (fun k => bits_Len64.f k (x : Int)) ((x.log2 + 1 : Nat) : Int) := by
  unfold bits_Len64.f
  by_cases h : 4294967296 ≤ x
  · have e := log2_pow (x := x) (c := 32) (by omega)
    rw [show (2 : Nat) ^ 32 = 4294967296 from rfl] at e
    refine Ev.congr (f := fun k => bits_Len64.j0 k ((x / 4294967296 : Nat) : Int) 32) (fun k => ?_) (Ev.step (f := fun _ => some (((x.log2 + 1 : Nat) : Int))) (fun k => ?_) (Ev.now _))
    · rw [if_pos (by omega)]
      congr 1
    · rw [len_j0 k (x / 4294967296) 32 (by omega) (by omega) (by omega) (by omega)]
      congr 1
      omega
  · refine Ev.congr (f := fun k => bits_Len64.j0 k (x : Int) 0) (fun k => ?_) (Ev.step (f := fun _ => some (((x.log2 + 1 : Nat) : Int))) (fun k => ?_) (Ev.now _))
    · rw [if_neg (by omega)]
    · rw [len_j0 k x 0 h0 (by omega) (by omega) (by omega), Int.zero_add]
theorem zeros_ev (x : Nat) (h0 : ¬ x = 0) (hx : x < 18446744073709551616) : Ev (fun k => bits_LeadingZeros64.f k (x : Int)) ((63 - x.log2 : Nat) : Int) := by
  have hb := (Nat.log2_lt (n := x) (k := 64) h0).2 (by omega)
  unfold bits_LeadingZeros64.f
  refine Ev.bind (len64_ev x h0 hx) (Ev.congr (f := fun _ => some (((63 - x.log2 : Nat) : Int))) (fun k => ?_) (Ev.now _))
  rw [w64' (by omega) (by omega)]
  congr 1
  omega
/-! ### bits.Div64 -/
theorem u_mul {a b : Nat} (h : a * b < 18446744073709551616) : IntKind.u64.wrap ((a : Int) * (b : Int)) = ((a * b : Nat) : Int) := by
  have e : ((a : Int) * (b : Int)) = ((a * b : Nat) : Int) := by rw [Int.natCast_mul]
  rw [e, wu64' (by omega) (by omega)]
theorem u_two {r d : Nat} (hr : r < 4294967296) (hd : d < 4294967296) : IntKind.u64.wrap ((IntKind.u64.wrap (4294967296 * (r : Int))) + (d : Int)) = ((4294967296 * r + d : Nat) : Int) := by
  rw [wu64' (x := 4294967296 * (r : Int)) (by omega) (by omega), wu64' (by omega) (by omega)]
  omega
theorem small_mul {a b : Nat} (h1 : a < 4294967296) (h2 : b < 4294967296) : a * b < 18446744073709551616 := by
  have := Nat.mul_le_mul (show a ≤ 4294967295 by omega) (show b ≤ 4294967295 by omega)
  omega
theorem div_more {q r v0 d : Nat} (hr : r < 4294967296) (hd : d < 4294967296) (h0 : v0 < 4294967296) (hq : q < 4294967296) :
    decide ((IntKind.u64.wrap ((q : Int) * (v0 : Int))) > (IntKind.u64.wrap ((IntKind.u64.wrap (4294967296 * (r : Int))) + (d : Int)))) = decide (4294967296 * r + d < q * v0) := by
  rw [u_mul (small_mul hq h0), u_two hr hd]
  congr 1
  exact propext ⟨fun h => by omega, fun h => by omega⟩
theorem div_loop0 {v v1 v0 u d : Nat} (s d0 : Int) {R : Int × Int} (hv : v = v1 * 4294967296 + v0) (h1 : 2147483648 ≤ v1) (h2 : v1 < 4294967296) (h0 : v0 < 4294967296) (hu : u < v) (hd : d < 4294967296)
    (hE : Ev (fun k => bits_Div64.j2 k (v : Int) s (v1 : Int) (v0 : Int) (u : Int) (d : Int) d0 (((u * 4294967296 + d) / v : Nat) : Int)) R) :
    ∀ (q r : Nat), q * v1 + r = u → (u * 4294967296 + d) / v ≤ q → r < 4294967296 → Ev (fun k => bits_Div64.l0 k (v : Int) s (v1 : Int) (v0 : Int) (u : Int) (d : Int) d0 (q : Int) (r : Int)) R := by
  have hvp : 0 < v := by omega
  intro q
  induction q with
  | zero =>
    intro r hqr hle hr
    have e : (0 : Nat) = (u * 4294967296 + d) / v := (Nat.le_zero.mp hle).symm
    refine Ev.step (f := fun k => bits_Div64.j1 k (v : Int) s (v1 : Int) (v0 : Int) (u : Int) (d : Int) d0 ((0 : Nat) : Int) (r : Int) false) (fun k => ?_) (Ev.step (f := fun k => bits_Div64.j2 k (v : Int) s (v1 : Int) (v0 : Int) (u : Int) (d : Int) d0 (((u * 4294967296 + d) / v : Nat) : Int)) (fun k => ?_) hE)
    · simp only [bits_Div64.l0]
      rw [if_neg (by omega), div_more hr hd h0 (by omega), decide_eq_false (by omega)]
    · simp only [bits_Div64.j1]
      rw [if_neg (by decide), ← e]
  | succ q ih =>
    intro r hqr hle hr
    by_cases hc : 4294967296 ≤ q + 1 ∨ 4294967296 * r + d < (q + 1) * v0
    · have hlt := digit_more hqr (by omega) hd hc (w := (u * 4294967296 + d) / v) (by rw [← hv]; exact Nat.div_mul_le_self _ _)
      have hqu : q * v1 + (r + v1) = u := by rw [Nat.add_mul] at hqr; omega
      have hq64 : q + 1 < 18446744073709551616 := by
        have := Nat.mul_le_mul_left (q + 1) (show 1 ≤ v1 by omega)
        omega
      have hw1 : IntKind.u64.wrap (((q + 1 : Nat) : Int) - 1) = (q : Int) := by rw [wu64' (by omega) (by omega)]; omega
      have hw2 : IntKind.u64.wrap ((r : Int) + (v1 : Int)) = ((r + v1 : Nat) : Int) := by rw [wu64' (by omega) (by omega)]; omega
      have hcond : ∀ k, bits_Div64.l0 (k + 1) (v : Int) s (v1 : Int) (v0 : Int) (u : Int) (d : Int) d0 ((q + 1 : Nat) : Int) (r : Int) = bits_Div64.j1 k (v : Int) s (v1 : Int) (v0 : Int) (u : Int) (d : Int) d0 ((q + 1 : Nat) : Int) (r : Int) true := by
        intro k
        simp only [bits_Div64.l0]
        by_cases hb : 4294967296 ≤ q + 1
        · rw [if_pos (by omega)]
        · rw [if_neg (by omega), div_more hr hd h0 (by omega), decide_eq_true (hc.resolve_left hb)]
      by_cases hr2 : 4294967296 ≤ r + v1
      · have hdone := digit_break (d := d) rfl hqu (by omega) h0 hr2
        have e := digit_q hvp (by omega : (u * 4294967296 + d) / v ≤ q) (by rw [hv]; exact hdone)
        refine Ev.step hcond (Ev.step (f := fun k => bits_Div64.j2 k (v : Int) s (v1 : Int) (v0 : Int) (u : Int) (d : Int) d0 (((u * 4294967296 + d) / v : Nat) : Int)) (fun k => ?_) hE)
        simp only [bits_Div64.j1]
        rw [if_pos trivial, hw2, if_pos (by omega), hw1, ← e]
      · refine Ev.step hcond (Ev.step (f := fun k => bits_Div64.l0 k (v : Int) s (v1 : Int) (v0 : Int) (u : Int) (d : Int) d0 (q : Int) ((r + v1 : Nat) : Int)) (fun k => ?_) (ih (r + v1) hqu (by omega) (by omega)))
        simp only [bits_Div64.j1]
        rw [if_pos trivial, hw2, if_neg (by omega), hw1]
    · have hdone := digit_done (T := 4294967296) (d := d) (v0 := v0) hqr (by omega)
      have e := digit_q hvp hle (by rw [hv]; exact hdone)
      refine Ev.step (f := fun k => bits_Div64.j1 k (v : Int) s (v1 : Int) (v0 : Int) (u : Int) (d : Int) d0 ((q + 1 : Nat) : Int) (r : Int) false) (fun k => ?_) (Ev.step (f := fun k => bits_Div64.j2 k (v : Int) s (v1 : Int) (v0 : Int) (u : Int) (d : Int) d0 (((u * 4294967296 + d) / v : Nat) : Int)) (fun k => ?_) hE)
      · simp only [bits_Div64.l0]
        rw [if_neg (by omega), div_more hr hd h0 (by omega), decide_eq_false (by omega)]
      · simp only [bits_Div64.j1]
        rw [if_neg (by decide), ← e]
/-- What the second digit gives back. -/
def divR (v s q1 u2 d q0 : Int) : Int × Int := (IntKind.u64.wrap ((IntKind.u64.wrap (q1 * 4294967296)) + q0), shr .u64 (IntKind.u64.wrap ((IntKind.u64.wrap ((IntKind.u64.wrap (u2 * 4294967296)) + d)) - (IntKind.u64.wrap (q0 * v)))) s)
theorem div_loop1 {v v1 v0 u d : Nat} (s q1 : Int) (hs : 0 ≤ s) (hv : v = v1 * 4294967296 + v0) (h1 : 2147483648 ≤ v1) (h2 : v1 < 4294967296) (h0 : v0 < 4294967296) (hu : u < v) (hd : d < 4294967296) :
    ∀ (q r : Nat), q * v1 + r = u → (u * 4294967296 + d) / v ≤ q → r < 4294967296 → Ev (fun k => bits_Div64.l1 k (v : Int) s (v1 : Int) (v0 : Int) (d : Int) q1 (r : Int) (u : Int) (q : Int)) (divR (v : Int) s q1 (u : Int) (d : Int) (((u * 4294967296 + d) / v : Nat) : Int)) := by
  have hvp : 0 < v := by omega
  intro q
  induction q with
  | zero =>
    intro r hqr hle hr
    have e : (0 : Nat) = (u * 4294967296 + d) / v := (Nat.le_zero.mp hle).symm
    refine Ev.step (f := fun k => bits_Div64.j4 k (v : Int) s (v1 : Int) (v0 : Int) (d : Int) q1 (r : Int) (u : Int) ((0 : Nat) : Int) false) (fun k => ?_) (Ev.step (f := fun _ => some (divR (v : Int) s q1 (u : Int) (d : Int) (((u * 4294967296 + d) / v : Nat) : Int))) (fun k => ?_) (Ev.now _))
    · simp only [bits_Div64.l1]
      rw [if_neg (by omega), div_more hr hd h0 (by omega), decide_eq_false (by omega)]
    · simp only [bits_Div64.j4]
      rw [if_neg (by decide), if_pos hs, ← e]
      rfl
  | succ q ih =>
    intro r hqr hle hr
    by_cases hc : 4294967296 ≤ q + 1 ∨ 4294967296 * r + d < (q + 1) * v0
    · have hlt := digit_more hqr (by omega) hd hc (w := (u * 4294967296 + d) / v) (by rw [← hv]; exact Nat.div_mul_le_self _ _)
      have hqu : q * v1 + (r + v1) = u := by rw [Nat.add_mul] at hqr; omega
      have hq64 : q + 1 < 18446744073709551616 := by
        have := Nat.mul_le_mul_left (q + 1) (show 1 ≤ v1 by omega)
        omega
      have hw1 : IntKind.u64.wrap (((q + 1 : Nat) : Int) - 1) = (q : Int) := by rw [wu64' (by omega) (by omega)]; omega
      have hw2 : IntKind.u64.wrap ((r : Int) + (v1 : Int)) = ((r + v1 : Nat) : Int) := by rw [wu64' (by omega) (by omega)]; omega
      have hcond : ∀ k, bits_Div64.l1 (k + 1) (v : Int) s (v1 : Int) (v0 : Int) (d : Int) q1 (r : Int) (u : Int) ((q + 1 : Nat) : Int) = bits_Div64.j4 k (v : Int) s (v1 : Int) (v0 : Int) (d : Int) q1 (r : Int) (u : Int) ((q + 1 : Nat) : Int) true := by
        intro k
        simp only [bits_Div64.l1]
        by_cases hb : 4294967296 ≤ q + 1
        · rw [if_pos (by omega)]
        · rw [if_neg (by omega), div_more hr hd h0 (by omega), decide_eq_true (hc.resolve_left hb)]
      by_cases hr2 : 4294967296 ≤ r + v1
      · have hdone := digit_break (d := d) rfl hqu (by omega) h0 hr2
        have e := digit_q hvp (by omega : (u * 4294967296 + d) / v ≤ q) (by rw [hv]; exact hdone)
        refine Ev.step hcond (Ev.step (f := fun _ => some (divR (v : Int) s q1 (u : Int) (d : Int) (((u * 4294967296 + d) / v : Nat) : Int))) (fun k => ?_) (Ev.now _))
        simp only [bits_Div64.j4]
        rw [if_pos trivial, hw2, if_pos (by omega), if_pos hs, hw1, ← e]
        rfl
      · refine Ev.step hcond (Ev.step (f := fun k => bits_Div64.l1 k (v : Int) s (v1 : Int) (v0 : Int) (d : Int) q1 ((r + v1 : Nat) : Int) (u : Int) (q : Int)) (fun k => ?_) (ih (r + v1) hqu (by omega) (by omega)))
        simp only [bits_Div64.j4]
        rw [if_pos trivial, hw2, if_neg (by omega), hw1]
    · have hdone := digit_done (T := 4294967296) (d := d) (v0 := v0) hqr (by omega)
      have e := digit_q hvp hle (by rw [hv]; exact hdone)
      refine Ev.step (f := fun k => bits_Div64.j4 k (v : Int) s (v1 : Int) (v0 : Int) (d : Int) q1 (r : Int) (u : Int) ((q + 1 : Nat) : Int) false) (fun k => ?_) (Ev.step (f := fun _ => some (divR (v : Int) s q1 (u : Int) (d : Int) (((u * 4294967296 + d) / v : Nat) : Int))) (fun k => ?_) (Ev.now _))
      · simp only [bits_Div64.l1]
        rw [if_neg (by omega), div_more hr hd h0 (by omega), decide_eq_false (by omega)]
      · simp only [bits_Div64.j4]
        rw [if_neg (by decide), if_pos hs, ← e]
        rfl
theorem u_rest {X d Y r : Nat} (h : X + d = Y + r) (hr : r < 18446744073709551616) : IntKind.u64.wrap ((IntKind.u64.wrap ((IntKind.u64.wrap ((X : Int))) + (d : Int))) - (IntKind.u64.wrap ((Y : Int)))) = (r : Int) := by
  have e : ∀ x : Int, IntKind.u64.wrap x = x % 18446744073709551616 := by
    intro x
    unfold IntKind.wrap
    simp [show IntKind.u64.signed = false from rfl, show IntKind.u64.bits = 64 from rfl]
  rw [e, e, e, e]
  omega
theorem div_first {u v1 : Nat} (_ : 0 < v1) (hu : u < 18446744073709551616) : IntKind.u64.wrap (Int.tdiv (u : Int) (v1 : Int)) = ((u / v1 : Nat) : Int) ∧ IntKind.u64.wrap ((u : Int) - (IntKind.u64.wrap (((u / v1 : Nat) : Int) * (v1 : Int)))) = ((u % v1 : Nat) : Int) := by
  have h1 := Nat.div_le_self u v1
  have h2 := Nat.div_mul_le_self u v1
  have h3 := Nat.div_add_mod u v1
  rw [Nat.mul_comm v1] at h3
  rw [show Int.tdiv (u : Int) (v1 : Int) = ((u / v1 : Nat) : Int) from rfl]
  generalize u / v1 = q at h1 h2 h3 ⊢
  generalize u % v1 = m at h3 ⊢
  constructor
  · rw [wu64' (by omega) (by omega)]
  · rw [u_mul (by omega), wu64' (by omega) (by omega)]
    omega
theorem div_j2 {v v1 v0 u d d0 : Nat} (s : Int) (hs : 0 ≤ s) (hv : v = v1 * 4294967296 + v0) (h1 : 2147483648 ≤ v1) (h2 : v1 < 4294967296) (h0 : v0 < 4294967296) (_ : d < 4294967296) (hd0 : d0 < 4294967296) :
    ∃ r, Ev (fun k => bits_Div64.j2 k (v : Int) s (v1 : Int) (v0 : Int) (u : Int) (d : Int) (d0 : Int) (((u * 4294967296 + d) / v : Nat) : Int)) (divR (v : Int) s (((u * 4294967296 + d) / v : Nat) : Int) (((u * 4294967296 + d) % v : Nat) : Int) (d0 : Int) r) ∧ r = ((((u * 4294967296 + d) % v * 4294967296 + d0) / v : Nat) : Int) := by
  have hvp : 0 < v := by omega
  have hm := Nat.mod_lt (u * 4294967296 + d) hvp
  have hr : IntKind.u64.wrap ((IntKind.u64.wrap ((IntKind.u64.wrap ((u : Int) * 4294967296)) + (d : Int))) - (IntKind.u64.wrap ((((u * 4294967296 + d) / v : Nat) : Int) * (v : Int)))) = (((u * 4294967296 + d) % v : Nat) : Int) := by
    have := u_rest (X := u * 4294967296) (d := d) (Y := (u * 4294967296 + d) / v * v) (r := (u * 4294967296 + d) % v) (by have := Nat.div_add_mod (u * 4294967296 + d) v; rw [Nat.mul_comm v] at this; omega) (by omega)
    rw [Int.natCast_mul u, Int.natCast_mul ((u * 4294967296 + d) / v)] at this
    exact this
  obtain ⟨u2, hu2⟩ : ∃ u2, u2 = (u * 4294967296 + d) % v := ⟨_, rfl⟩
  rw [← hu2] at hr hm ⊢
  have hf := div_first (u := u2) (v1 := v1) (by omega) (by omega)
  have hdm := Nat.div_add_mod u2 v1
  rw [Nat.mul_comm v1] at hdm
  have hml := Nat.mod_lt u2 (show 0 < v1 by omega)
  refine ⟨_, Ev.step (f := fun k => bits_Div64.l1 k (v : Int) s (v1 : Int) (v0 : Int) (d0 : Int) (((u * 4294967296 + d) / v : Nat) : Int) ((u2 % v1 : Nat) : Int) (u2 : Int) ((u2 / v1 : Nat) : Int)) (fun k => ?_)
    (div_loop1 s _ hs hv h1 h2 h0 hm hd0 (u2 / v1) (u2 % v1) hdm (digit_start (T := 4294967296) rfl (by omega) hd0 (by rw [← hv]; exact Nat.div_mul_le_self _ _)) (by omega)), rfl⟩
  simp only [bits_Div64.j2]
  rw [if_neg (by omega), hr, hf.1, hf.2]
theorem bits_and32 (v : Nat) (h : v < 18446744073709551616) : Go.bits .and .u64 (v : Int) 4294967295 = ((v % 4294967296 : Nat) : Int) := by
  have e1 : (BitVec.ofInt 64 (v : Int)).toNat = v := by
    rw [BitVec.toNat_ofInt]
    omega
  have e2 : (BitVec.ofInt 64 4294967295).toNat = 4294967295 := rfl
  have e3 : (BitVec.ofInt 64 (v : Int) &&& BitVec.ofInt 64 4294967295).toNat = v % 4294967296 := by
    rw [BitVec.toNat_and, e1, e2]
    exact Nat.and_two_pow_sub_one_eq_mod v 32
  show IntKind.u64.wrap ((BitVec.ofInt 64 (v : Int) &&& BitVec.ofInt 64 4294967295).toNat : Int) = _
  rw [e3, wu64' (by omega) (by omega)]
theorem bits_or0 (v : Nat) (h : v < 18446744073709551616) : Go.bits .or .u64 (v : Int) 0 = (v : Int) := by
  have e1 : (BitVec.ofInt 64 (v : Int)).toNat = v := by
    rw [BitVec.toNat_ofInt]
    omega
  have e2 : (BitVec.ofInt 64 0).toNat = 0 := rfl
  have e3 : (BitVec.ofInt 64 (v : Int) ||| BitVec.ofInt 64 0).toNat = v := by rw [BitVec.toNat_or, e1, e2, Nat.or_zero]
  show IntKind.u64.wrap ((BitVec.ofInt 64 (v : Int) ||| BitVec.ofInt 64 0).toNat : Int) = _
  rw [e3, wu64' (by omega) (by omega)]
theorem shl_u {x s : Nat} (hs : s < 64) (h : x * 2 ^ s < 18446744073709551616) : shl .u64 (x : Int) (s : Int) = ((x * 2 ^ s : Nat) : Int) := by
  unfold shl
  have e : (x : Int) * 2 ^ s = ((x * 2 ^ s : Nat) : Int) := by rw [Int.natCast_mul, Int.natCast_pow]; rfl
  rw [Int.toNat_natCast, Nat.min_eq_left (by show _ ≤ 64; omega), e, wu64' (by omega) (by omega)]
theorem shl_0 (s : Int) : shl .u64 0 s = 0 := by unfold shl; rw [Int.zero_mul]; rfl
theorem shr_0 (s : Int) : shr .u64 0 s = 0 := by unfold shr; rw [Int.zero_ediv]
theorem divR_first (v s u2 r : Int) (Q1 Q0 : Nat) (h1 : Q1 < 4294967296) (h0 : Q0 < 4294967296) (e : r = (Q0 : Int)) (d : Int) : (divR v s (Q1 : Int) u2 d r).1 = ((Q1 * 4294967296 + Q0 : Nat) : Int) := by
  subst e
  unfold divR
  show IntKind.u64.wrap (IntKind.u64.wrap ((Q1 : Int) * 4294967296) + (Q0 : Int)) = _
  rw [wu64' (x := (Q1 : Int) * 4294967296) (by omega) (by omega), wu64' (by omega) (by omega)]
  omega
/-- A number below y, 64 more bits of nothing behind it, by y. -/
theorem div64_ev (hi y : Nat) (hy : hi < y) (hy2 : y < 18446744073709551616) : ∃ r, Ev (fun k => bits_Div64.f k (hi : Int) 0 (y : Int)) (((hi * 18446744073709551616 / y : Nat) : Int), r) := by
  unfold bits_Div64.f
  by_cases h0 : hi = 0
  · subst h0
    refine ⟨0, Ev.congr (f := fun _ => some ((((0 * 18446744073709551616 / y : Nat) : Int), (0 : Int)))) (fun k => ?_) (Ev.now _)⟩
    rw [if_neg (by omega), if_neg (by omega), if_pos (show ((0 : Nat) : Int) = 0 from rfl)]
    simp
    rfl
  · have hz : ¬ y = 0 := by omega
    have hlog := (Nat.log2_lt (n := y) (k := 64) hz).2 (by omega)
    have hl := (Nat.log2_eq_iff hz).1 rfl
    obtain ⟨s, hs⟩ : ∃ s, s = 63 - y.log2 := ⟨_, rfl⟩
    have hp : 0 < 2 ^ s := Nat.two_pow_pos s
    have hv1 : 9223372036854775808 ≤ y * 2 ^ s := by
      have := Nat.mul_le_mul_right (2 ^ s) hl.1
      rw [← Nat.pow_add, show y.log2 + s = 63 by omega] at this
      omega
    have hv2 : y * 2 ^ s < 18446744073709551616 := by
      have := Nat.mul_lt_mul_of_pos_right hl.2 hp
      rw [← Nat.pow_add, show y.log2 + 1 + s = 64 by omega] at this
      omega
    have hu : hi * 2 ^ s < y * 2 ^ s := Nat.mul_lt_mul_of_pos_right hy hp
    have hev := zeros_ev y hz hy2
    rw [← hs] at hev
    obtain ⟨v, hv⟩ : ∃ v, v = y * 2 ^ s := ⟨_, rfl⟩
    obtain ⟨u, hu'⟩ : ∃ u, u = hi * 2 ^ s := ⟨_, rfl⟩
    have es : IntKind.u64.wrap (s : Int) = (s : Int) := wu64' (by omega) (by omega)
    have ey : shl .u64 (y : Int) (s : Int) = (v : Int) := by rw [shl_u (by omega) hv2, ← hv]
    have eh : shl .u64 (hi : Int) (s : Int) = (u : Int) := by rw [shl_u (by omega) (by omega), ← hu']
    rw [← hv] at hv1 hv2 hu
    rw [← hu'] at hu
    have ev1 : (v : Int) / 4294967296 = ((v / 4294967296 : Nat) : Int) := by omega
    have hf := div_first (u := u) (v1 := v / 4294967296) (by omega) (by omega)
    have hdm := Nat.div_add_mod u (v / 4294967296)
    rw [Nat.mul_comm (v / 4294967296)] at hdm
    have hml := Nat.mod_lt u (show 0 < v / 4294967296 by omega)
    have hvv : v = v / 4294967296 * 4294967296 + v % 4294967296 := by omega
    obtain ⟨r, hj, hr⟩ := div_j2 (v := v) (v1 := v / 4294967296) (v0 := v % 4294967296) (u := u) (d := 0) (d0 := 0) (s : Int) (by omega) hvv (by omega) (by omega) (by omega) (by omega) (by omega)
    have hl0 := div_loop0 (s : Int) ((0 : Nat) : Int) hvv (by omega) (by omega) (by omega) hu (by omega) hj (u / (v / 4294967296)) (u % (v / 4294967296)) hdm (digit_start (T := 4294967296) (d := 0) (v0 := v % 4294967296) rfl (by omega) (by omega) (by rw [← hvv]; exact Nat.div_mul_le_self _ _)) (by omega)
    have hq1 := digit_lt (u := u) (d := 0) hu (by omega)
    have hq0 := digit_lt (u := (u * 4294967296 + 0) % v) (d := 0) (Nat.mod_lt _ (by omega)) (by omega)
    have h2 := two_digits (u := u) (d1 := 0) (d0 := 0) (v := v) (by omega)
    have hQ : hi * 18446744073709551616 / y = ((u * 4294967296 + 0) * 4294967296 + 0) / v := by
      rw [hv, hu', show (hi * 2 ^ s * 4294967296 + 0) * 4294967296 + 0 = hi * 18446744073709551616 * 2 ^ s by rw [Nat.add_zero, Nat.add_zero, Nat.mul_assoc, Nat.mul_assoc, Nat.mul_comm (2 ^ s), ← Nat.mul_assoc], Nat.mul_div_mul_right _ _ hp]
    have hR : divR (v : Int) (s : Int) (((u * 4294967296 + 0) / v : Nat) : Int) (((u * 4294967296 + 0) % v : Nat) : Int) ((0 : Nat) : Int) r = (((hi * 18446744073709551616 / y : Nat) : Int), (divR (v : Int) (s : Int) (((u * 4294967296 + 0) / v : Nat) : Int) (((u * 4294967296 + 0) % v : Nat) : Int) ((0 : Nat) : Int) r).2) := by
      refine Prod.ext ?_ rfl
      have := divR_first (v : Int) (s : Int) (((u * 4294967296 + 0) % v : Nat) : Int) r _ _ hq1 hq0 hr ((0 : Nat) : Int)
      rw [h2, ← hQ] at this
      exact this
    rw [hR] at hl0
    refine ⟨_, Ev.congr (f := fun k => (bits_LeadingZeros64.f k (y : Int)).bind fun t119 => (if 0 ≤ (IntKind.u64.wrap (t119)) then (if 0 ≤ (IntKind.u64.wrap (64 - (IntKind.u64.wrap (t119)))) then (if ((shl .u64 (y : Int) (IntKind.u64.wrap (t119))) / 4294967296) = 0 then (none) else (bits_Div64.l0 k (shl .u64 (y : Int) (IntKind.u64.wrap (t119))) (IntKind.u64.wrap (t119)) ((shl .u64 (y : Int) (IntKind.u64.wrap (t119))) / 4294967296) (Go.bits .and .u64 (shl .u64 (y : Int) (IntKind.u64.wrap (t119))) 4294967295) (Go.bits .or .u64 (shl .u64 (hi : Int) (IntKind.u64.wrap (t119))) (shr .u64 0 (IntKind.u64.wrap (64 - (IntKind.u64.wrap (t119)))))) ((shl .u64 0 (IntKind.u64.wrap (t119))) / 4294967296) (Go.bits .and .u64 (shl .u64 0 (IntKind.u64.wrap (t119))) 4294967295) (IntKind.u64.wrap (Int.tdiv (Go.bits .or .u64 (shl .u64 (hi : Int) (IntKind.u64.wrap (t119))) (shr .u64 0 (IntKind.u64.wrap (64 - (IntKind.u64.wrap (t119)))))) ((shl .u64 (y : Int) (IntKind.u64.wrap (t119))) / 4294967296))) (IntKind.u64.wrap ((Go.bits .or .u64 (shl .u64 (hi : Int) (IntKind.u64.wrap (t119))) (shr .u64 0 (IntKind.u64.wrap (64 - (IntKind.u64.wrap (t119)))))) - (IntKind.u64.wrap ((IntKind.u64.wrap (Int.tdiv (Go.bits .or .u64 (shl .u64 (hi : Int) (IntKind.u64.wrap (t119))) (shr .u64 0 (IntKind.u64.wrap (64 - (IntKind.u64.wrap (t119)))))) ((shl .u64 (y : Int) (IntKind.u64.wrap (t119))) / 4294967296))) * ((shl .u64 (y : Int) (IntKind.u64.wrap (t119))) / 4294967296))))))) else (none)) else (none))) (fun k => ?_) (Ev.bind hev (Ev.congr (f := fun k => bits_Div64.l0 k (v : Int) (s : Int) ((v / 4294967296 : Nat) : Int) ((v % 4294967296 : Nat) : Int) (u : Int) ((0 : Nat) : Int) ((0 : Nat) : Int) ((u / (v / 4294967296) : Nat) : Int) ((u % (v / 4294967296) : Nat) : Int)) (fun k => ?_) hl0))⟩
    · rw [if_neg (by omega), if_neg (by omega), if_neg (by omega)]
    · have e64 : IntKind.u64.wrap (64 - (s : Int)) = 64 - (s : Int) := wu64' (by omega) (by omega)
      rw [es, e64, if_pos (by omega), if_pos (by omega), ey, ev1, if_neg (by omega), bits_and32 v hv2, eh, shr_0, shl_0, bits_or0 u (by omega), hf.1, hf.2]
      rfl
end Go.Proofs.Ytpagondojdlknaa.H
