/- What the reference's Pack and Unpack answer. -/
import Derived.Test.YtbclnjinpcfpjaaT1
import Derived.Test.YtbclnjinpcfpjaaSU
import Derived.Test.YtbclnjinpcfpjaaHC
namespace Go.Proofs.Ytbclnjinpcfpjaa.H
open Go.RowKit Go.Proofs.YtbclnjinpcfpjaaW.PrintWords Go.Proofs.YtbclnjinpcfpjaaW.PrintLast
set_option linter.unusedVariables false
set_option linter.unusedSimpArgs false
/-! ### The reference's Pack: bit by bit -/
def bytesL : Nat → Nat → List Int
  | _, 0 => []
  | A, L + 1 => ((A % 256 : Nat) : Int) :: bytesL (A / 256) L
theorem bytesL_len : ∀ (L A : Nat), (bytesL A L).length = L
  | 0, _ => rfl
  | L + 1, A => by rw [bytesL, List.length_cons, bytesL_len L]
theorem bytesL_zero : ∀ L : Nat, bytesL 0 L = List.replicate L 0
  | 0 => rfl
  | L + 1 => by rw [bytesL, bytesL_zero L]; rfl
def nOf : List Nat → Nat
  | [] => 0
  | a :: r => a + 64 * nOf r
theorem small_bit {A t b : Nat} (ht : t < 8) (hA : A < 2 ^ t) (hb : b < 2) : A + 2 ^ t * b < 256 := by
  have h1 : 2 ^ t * b ≤ 2 ^ t := by
    rcases (by omega : b = 0 ∨ b = 1) with rfl | rfl <;> omega
  have h2 : 2 ^ t ≤ 2 ^ 7 := Nat.pow_le_pow_right (by omega) (by omega)
  omega
theorem bytesL_set : ∀ (L A t b : Nat), A < 2 ^ t → b < 2 → t / 8 < L → (bytesL A L).set (t / 8) ((bytesL A L).getD (t / 8) 0 + ((2 ^ (t % 8) * b : Nat) : Int)) = bytesL (A + 2 ^ t * b) L ∧ 0 ≤ (bytesL A L).getD (t / 8) 0 ∧ (bytesL A L).getD (t / 8) 0 + ((2 ^ (t % 8) * b : Nat) : Int) < 256 := by
  intro L
  induction L with
  | zero => intro A t b _ _ h; omega
  | succ L ih =>
    intro A t b hA hb hL
    by_cases ht : t < 8
    · have h1 := small_bit ht hA hb
      have e0 : t / 8 = 0 := by omega
      have e1 : t % 8 = t := by omega
      rw [e0, e1]
      simp only [bytesL, List.set_cons_zero, List.getD_cons_zero]
      generalize 2 ^ t * b = X at h1 ⊢
      refine ⟨?_, by omega, by omega⟩
      rw [show A / 256 = 0 by omega, show (A + X) / 256 = 0 by omega]
      congr 1
      omega
    · obtain ⟨s, rfl⟩ : ∃ s, t = s + 8 := ⟨t - 8, by omega⟩
      have e0 : (s + 8) / 8 = s / 8 + 1 := by omega
      have e1 : (s + 8) % 8 = s % 8 := by omega
      rw [e0, e1]
      have hp : 2 ^ (s + 8) * b = 256 * (2 ^ s * b) := by rw [Nat.pow_add, Nat.mul_right_comm, Nat.mul_comm]
      have hA' : A / 256 < 2 ^ s := by rw [Nat.pow_add] at hA; omega
      obtain ⟨i1, i2, i3⟩ := ih (A / 256) s b hA' hb (by omega)
      rw [hp]
      simp only [bytesL, List.set_cons_succ, List.getD_cons_succ]
      refine ⟨?_, i2, i3⟩
      generalize 2 ^ s * b = X at *
      rw [i1, show (A + 256 * X) % 256 = A % 256 by omega, show (A + 256 * X) / 256 = A / 256 + X by omega]
theorem nOf_lt : ∀ l : List Nat, (∀ x ∈ l, x < 64) → nOf l < 2 ^ (6 * l.length)
  | [], _ => by decide
  | a :: r, h => by
    have h1 := nOf_lt r (fun x hx => h x (by simp [hx]))
    have h2 := h a (by simp)
    rw [List.length_cons, show 6 * (r.length + 1) = 6 * r.length + 6 by omega, Nat.pow_add, nOf]
    omega
theorem nOf_bit : ∀ (l : List Nat) (i k : Nat), i < l.length → k < 6 → (∀ x ∈ l, x < 64) → nOf l / 2 ^ (6 * i + k) % 2 = l.getD i 0 / 2 ^ k % 2
  | [], i, k, h, _, _ => by simp at h
  | a :: r, 0, k, _, hk, hx => by
    have h2 := hx a (by simp)
    rw [nOf, List.getD_cons_zero, show 6 * 0 + k = k by omega]
    generalize nOf r = R
    rcases (by omega : k = 0 ∨ k = 1 ∨ k = 2 ∨ k = 3 ∨ k = 4 ∨ k = 5) with rfl | rfl | rfl | rfl | rfl | rfl <;> simp only [Nat.reducePow] <;> omega
  | a :: r, i + 1, k, h, hk, hx => by
    have ih := nOf_bit r i k (by simp at h; omega) hk (fun x h => hx x (by simp [h]))
    have h2 := hx a (by simp)
    rw [nOf, List.getD_cons_succ, ← ih, show 6 * (i + 1) + k = 6 + (6 * i + k) by omega, Nat.pow_add, ← Nat.div_div_eq_div_mul]
    congr 2
    omega
theorem packB_bytes : ∀ (m : Nat) (l : List Nat), l.length = 4 * m → (∀ x ∈ l, x < 64) → bytesL (nOf l) (3 * m) = packB l
  | 0, l, h, _ => by
    obtain rfl := List.eq_nil_of_length_eq_zero (by omega : l.length = 0)
    rfl
  | m + 1, a :: b :: c :: d :: r, h, hx => by
    have ih := packB_bytes m r (by simp at h; omega) (fun x h => hx x (by simp [h]))
    have ha : a < 64 := hx a (by simp)
    have hb : b < 64 := hx b (by simp)
    have hc : c < 64 := hx c (by simp)
    have hd : d < 64 := hx d (by simp)
    rw [show 3 * (m + 1) = 3 * m + 1 + 1 + 1 by omega, packB]
    simp only [bytesL, nOf]
    generalize hR : nOf r = R at ih ⊢
    rw [show (a + 64 * (b + 64 * (c + 64 * (d + 64 * R)))) / 256 / 256 / 256 = R by omega, ih]
    simp only [List.cons_append, List.nil_append]
    rw [show (((a + 64 * (b + 64 * (c + 64 * (d + 64 * R)))) % 256 : Nat) : Int) = ((262144 * d + (4096 * c + (64 * b + a)) : Nat) : Int) % 256 by omega, show (((a + 64 * (b + 64 * (c + 64 * (d + 64 * R)))) / 256 % 256 : Nat) : Int) = ((262144 * d + (4096 * c + (64 * b + a)) : Nat) : Int) / 256 % 256 by omega, show (((a + 64 * (b + 64 * (c + 64 * (d + 64 * R)))) / 256 / 256 % 256 : Nat) : Int) = ((262144 * d + (4096 * c + (64 * b + a)) : Nat) : Int) / 65536 % 256 by omega]
/-! ### The walk's loops -/
theorem at_eq {i k : Nat} (hi : i ≤ 1000000) (hk : k ≤ 6) : wrap64 ((wrap64 (6 * (i : Int))) + (k : Int)) = ((6 * i + k : Nat) : Int) := by
  rw [w64 (x := 6 * (i : Int)) (by omega) (by omega), w64 (by omega) (by omega)]
  omega
theorem at_div {t : Nat} (h : t ≤ 10000000) : wrap64 (Int.tdiv (t : Int) 8) = ((t / 8 : Nat) : Int) := by
  rw [show Int.tdiv (t : Int) 8 = ((t / 8 : Nat) : Int) from tdivN t 8, w64 (by omega) (by omega)]
theorem at_mod {t : Nat} : IntKind.u64.wrap (Int.tmod (t : Int) 8) = ((t % 8 : Nat) : Int) := by
  rw [show Int.tmod (t : Int) 8 = ((t % 8 : Nat) : Int) from tmodN t 8, wu64 (by omega) (by omega)]
theorem shr_n {kd : IntKind} (x s : Nat) (h : s ≤ kd.bits) : shr kd (x : Int) (s : Int) = ((x / 2 ^ s : Nat) : Int) := by
  unfold shr
  rw [Int.toNat_natCast, Nat.min_eq_left h, Int.natCast_ediv, Int.natCast_pow]
  rfl
theorem shl_bit8 {b s : Nat} (hb : b < 2) (hs : s < 8) : shl .u8 (((b : Nat) : Int) % 256) (s : Int) = ((2 ^ s * b : Nat) : Int) := by
  rcases (by omega : b = 0 ∨ b = 1) with rfl | rfl <;> rcases (by omega : s = 0 ∨ s = 1 ∨ s = 2 ∨ s = 3 ∨ s = 4 ∨ s = 5 ∨ s = 6 ∨ s = 7) with rfl | rfl | rfl | rfl | rfl | rfl | rfl | rfl <;> decide
theorem rd_asInt (l : List Nat) (i : Nat) : rd (asInt l) (i : Int) = ((l.getD i 0 : Nat) : Int) := by
  unfold rd asInt
  rw [Int.toNat_natCast, List.getD_eq_getElem?_getD, List.getD_eq_getElem?_getD, List.getElem?_map]
  cases l[i]? <;> rfl
theorem rpack_in (m : Nat) (l : List Nat) (hl : l.length = 4 * m) (hm : m ≤ 65536) (hx : ∀ x ∈ l, x < 64) (i : Nat) (hi : i < l.length) (res : List Int × Int) : ∀ (d k : Nat), k + d = 6 →
    Ev (fun n => tallymanref15_Pack.l0 n (asInt l) (bytesL (nOf l % 2 ^ (6 * (i + 1))) (3 * m)) ((i + 1 : Nat) : Int)) res → Ev (fun n => tallymanref15_Pack.l1 n (asInt l) (bytesL (nOf l % 2 ^ (6 * i + k)) (3 * m)) (i : Int) (k : Int)) res := by
  intro d
  induction d with
  | zero =>
    intro k hk h
    obtain rfl : k = 6 := by omega
    refine Ev.step (fun n => ?_) h
    simp only [tallymanref15_Pack.l1]
    rw [if_neg (by omega), w64 (x := (i : Int) + 1) (by omega) (by omega)]
    rfl
  | succ d ih =>
    intro k hk h
    have hr := ih (k + 1) (by omega) h
    refine Ev.step (fun n => ?_) hr
    have hal : (asInt l).length = l.length := by simp [asInt]
    obtain ⟨s1, s2, s3⟩ := bytesL_set (3 * m) (nOf l % 2 ^ (6 * i + k)) (6 * i + k) (nOf l / 2 ^ (6 * i + k) % 2) (Nat.mod_lt _ (Nat.two_pow_pos _)) (by omega) (by omega)
    have hbit := nOf_bit l i k hi (by omega) hx
    have e1 : nOf l % 2 ^ (6 * i + k) + 2 ^ (6 * i + k) * (nOf l / 2 ^ (6 * i + k) % 2) = nOf l % 2 ^ (6 * i + (k + 1)) := by
      rw [show 6 * i + (k + 1) = (6 * i + k) + 1 by omega, Nat.mod_pow_succ]
    rw [e1] at s1
    have hb2 : nOf l / 2 ^ (6 * i + k) % 2 < 2 := Nat.mod_lt _ (by omega)
    have hsh : Int.tmod (shr .i64 (rd (asInt l) (i : Int)) (IntKind.u64.wrap (k : Int))) 2 = ((nOf l / 2 ^ (6 * i + k) % 2 : Nat) : Int) := by
      rw [wu64 (x := (k : Int)) (by omega) (by omega), rd_asInt, shr_n _ k (by show k ≤ 64; omega), show ∀ x : Nat, Int.tmod (x : Int) 2 = ((x % 2 : Nat) : Int) from fun x => tmodN x 2, hbit]
    generalize nOf l / 2 ^ (6 * i + k) % 2 = b at hb2 hsh s1 s2 s3
    have hshl := shl_bit8 hb2 (show (6 * i + k) % 8 < 8 by omega)
    have hbl := bytesL_len (3 * m) (nOf l % 2 ^ (6 * i + k))
    simp only [tallymanref15_Pack.l1]
    rw [if_pos (by omega), at_eq (by omega) (by omega), at_div (by omega), at_mod, hsh, hshl, hal, hbl, if_pos (by omega), if_pos (by omega), if_pos (by omega), if_pos (by omega), wu64 (x := (k : Int)) (by omega) (by omega), if_pos (by omega), if_pos (by omega), w64 (x := (k : Int) + 1) (by omega) (by omega)]
    have e2 : rd (bytesL (nOf l % 2 ^ (6 * i + k)) (3 * m)) (((6 * i + k) / 8 : Nat) : Int) = (bytesL (nOf l % 2 ^ (6 * i + k)) (3 * m)).getD ((6 * i + k) / 8) 0 := rfl
    rw [e2, Int.toNat_natCast, show ((bytesL (nOf l % 2 ^ (6 * i + k)) (3 * m)).getD ((6 * i + k) / 8) 0 + ((2 ^ ((6 * i + k) % 8) * b : Nat) : Int)) % 256 = (bytesL (nOf l % 2 ^ (6 * i + k)) (3 * m)).getD ((6 * i + k) / 8) 0 + ((2 ^ ((6 * i + k) % 8) * b : Nat) : Int) by omega, s1]
    rfl
theorem rpack_out (m : Nat) (l : List Nat) (hl : l.length = 4 * m) (hm : m ≤ 65536) (hx : ∀ x ∈ l, x < 64) : ∀ (d i : Nat), i + d = l.length → Ev (fun n => tallymanref15_Pack.l0 n (asInt l) (bytesL (nOf l % 2 ^ (6 * i)) (3 * m)) (i : Int)) (packB l, 0) := by
  intro d
  induction d with
  | zero =>
    intro i h
    obtain rfl : i = l.length := by omega
    refine Ev.step (f := fun _ => some (packB l, 0)) (fun n => ?_) (Ev.now _)
    have hal : (asInt l).length = l.length := by simp [asInt]
    simp only [tallymanref15_Pack.l0]
    rw [if_neg (by rw [hal]; omega), Nat.mod_eq_of_lt (nOf_lt l hx), packB_bytes m l hl hx]
  | succ d ih =>
    intro i h
    have hi : i < l.length := by omega
    have hal : (asInt l).length = l.length := by simp [asInt]
    have hg : l.getD i 0 < 64 := by
      rw [List.getD_eq_getElem?_getD, List.getElem?_eq_getElem hi, Option.getD_some]
      exact hx _ (List.getElem_mem hi)
    refine Ev.step (f := fun n => tallymanref15_Pack.j1 n (asInt l) (bytesL (nOf l % 2 ^ (6 * i)) (3 * m)) (i : Int) false) (fun n => ?_) ?_
    · simp only [tallymanref15_Pack.l0]
      rw [rd_asInt, if_pos (by rw [hal]; omega), if_pos (by omega), if_neg (by omega), decide_eq_false (by omega)]
    · refine Ev.step (f := fun n => tallymanref15_Pack.l1 n (asInt l) (bytesL (nOf l % 2 ^ (6 * i + 0)) (3 * m)) (i : Int) ((0 : Nat) : Int)) (fun n => ?_) (rpack_in m l hl hm hx i hi _ 6 0 (by omega) (ih (i + 1) (by omega)))
      simp only [tallymanref15_Pack.j1]
      rw [if_neg (by decide)]
      rfl
theorem rpack_ev (m : Nat) (l : List Nat) (hl : l.length = 4 * m) (hm : m ≤ 65536) (hx : ∀ x ∈ l, x < 64) : Ev (fun k => tallymanref15_Pack.f k (asInt l)) (packB l, 0) := by
  have h := rpack_out m l hl hm hx l.length 0 (by omega)
  refine Ev.congr (fun n => ?_) h
  have hal : (asInt l).length = l.length := by simp [asInt]
  unfold tallymanref15_Pack.f
  have e1 : wrap64 ((wrap64 (((asInt l).length : Int) / 4)) * 3) = ((3 * m : Nat) : Int) := by
    rw [hal, hl, w64 (x := ((4 * m : Nat) : Int) / 4) (by omega) (by omega), w64 (by omega) (by omega)]
    omega
  rw [e1, if_pos (by rw [hal]; omega), if_pos (by omega), Int.toNat_natCast, if_pos (by omega), show 6 * 0 = 0 from rfl, Nat.pow_zero, Nat.mod_one, bytesL_zero]
  rfl
set_option linter.unusedVariables false
set_option linter.unusedSimpArgs false
/-! ### The reference's Pack of ranks that may not be -/
theorem rpack_in_bad (x0 : List Int) (L i : Nat) (hi : i < x0.length) (hi2 : i ≤ 1000000) (hL : 6 * i + 6 ≤ 8 * L) (res : List Int × Int) (h : ∀ y : List Int, y.length = L → Ev (fun n => tallymanref15_Pack.l0 n x0 y ((i + 1 : Nat) : Int)) res) : ∀ (d k : Nat) (x4 : List Int), k + d = 6 → x4.length = L →
    Ev (fun n => tallymanref15_Pack.l1 n x0 x4 (i : Int) (k : Int)) res := by
  intro d
  induction d with
  | zero =>
    intro k x4 hk h4
    obtain rfl : k = 6 := by omega
    refine Ev.step (fun n => ?_) (h x4 h4)
    simp only [tallymanref15_Pack.l1]
    rw [if_neg (by omega), w64 (x := (i : Int) + 1) (by omega) (by omega)]
    rfl
  | succ d ih =>
    intro k x4 hk h4
    refine Ev.step (f := fun n => tallymanref15_Pack.l1 n x0 (x4.set (((6 * i + k) / 8 : Nat) : Int).toNat (((rd x4 (((6 * i + k) / 8 : Nat) : Int)) + (shl .u8 ((Int.tmod (shr .i64 (rd x0 (i : Int)) (k : Int)) 2) % 256) (((6 * i + k) % 8 : Nat) : Int))) % 256)) (i : Int) ((k + 1 : Nat) : Int)) (fun n => ?_) (ih (k + 1) _ (by omega) (by rw [List.length_set]; exact h4))
    simp only [tallymanref15_Pack.l1]
    rw [if_pos (by omega), at_eq (by omega) (by omega), at_div (by omega), at_mod, if_pos (by omega), if_pos (by omega), if_pos (by omega), if_pos (by omega), wu64 (x := (k : Int)) (by omega) (by omega), if_pos (by omega), if_pos (by omega), w64 (x := (k : Int) + 1) (by omega) (by omega)]
    rfl
theorem rpack_out_bad (x0 : List Int) (L : Nat) (hl : x0.length ≤ 1000000) (hL : 6 * x0.length ≤ 8 * L) : ∀ (d i : Nat) (x4 : List Int), i + d = x0.length → x4.length = L → (∃ j : Nat, i ≤ j ∧ j < x0.length ∧ BadR (rd x0 (j : Int))) → Ev (fun n => tallymanref15_Pack.l0 n x0 x4 (i : Int)) ([], 2) := by
  intro d
  induction d with
  | zero => intro i x4 h _ ⟨j, h1, h2, _⟩; omega
  | succ d ih =>
    intro i x4 h h4 ⟨j, h1, h2, h3⟩
    by_cases hb : BadR (rd x0 (i : Int))
    · have hj : Ev (fun n => tallymanref15_Pack.j1 n x0 x4 (i : Int) true) ([], 2) := Ev.step (f := fun _ => some ([], 2)) (fun n => by simp only [tallymanref15_Pack.j1]; rw [if_pos trivial]) (Ev.now _)
      refine Ev.step (fun n => ?_) hj
      simp only [tallymanref15_Pack.l0]
      rw [if_pos (by omega), if_pos (by omega)]
      rcases hb with hb | hb
      · rw [if_pos hb]
      · by_cases hn : rd x0 (i : Int) < 0
        · rw [if_pos hn]
        · rw [if_neg hn, decide_eq_true (by omega)]
    · have hne : j ≠ i := fun e => by rw [e] at h3; exact hb h3
      have hn := rpack_in_bad x0 L i (by omega) (by omega) (by omega) ([], 2) (fun y hy => ih (i + 1) y (by omega) hy ⟨j, by omega, h2, h3⟩) 6 0 x4 (by omega) h4
      refine Ev.step (f := fun n => tallymanref15_Pack.j1 n x0 x4 (i : Int) false) (fun n => ?_) (Ev.step (f := fun n => tallymanref15_Pack.l1 n x0 x4 (i : Int) ((0 : Nat) : Int)) (fun n => ?_) hn)
      · unfold BadR at hb
        simp only [tallymanref15_Pack.l0]
        rw [if_pos (by omega), if_pos (by omega), if_neg (by omega), decide_eq_false (by omega)]
      · simp only [tallymanref15_Pack.j1]
        rw [if_neg (by decide)]
        rfl
/-- Both Packs answer alike. -/
theorem pack_both (l : List Int) (hl : l.length ≤ 100000) : ∃ r : List Int × Int, Ev (fun k => dense_Pack.f k l) r ∧ Ev (fun k => tallymanref15_Pack.f k l) r := by
  by_cases h4 : l.length % 4 = 0
  · obtain ⟨m, hm⟩ : ∃ m, l.length = 4 * m := ⟨l.length / 4, by omega⟩
    by_cases hb : ∃ j : Nat, j < l.length ∧ BadR (rd l (j : Int))
    · refine ⟨([], 2), Ev.congr (f := fun k => dense_Pack.l0 k l []) (fun k => ?_) (pack_loop_bad m l [] hm (by simp; omega) hb), ?_⟩
      · unfold dense_Pack.f
        rw [if_pos (by omega)]
      · obtain ⟨j, hj1, hj2⟩ := hb
        refine Ev.congr (fun n => ?_) (rpack_out_bad l (3 * m) (by omega) (by omega) l.length 0 (List.replicate (3 * m) 0) (by omega) (by simp) ⟨j, by omega, hj1, hj2⟩)
        unfold tallymanref15_Pack.f
        have e1 : wrap64 ((wrap64 ((l.length : Int) / 4)) * 3) = ((3 * m : Nat) : Int) := by
          rw [hm, w64 (x := ((4 * m : Nat) : Int) / 4) (by omega) (by omega), w64 (by omega) (by omega)]
          omega
        rw [e1, if_pos (by omega), if_pos (by omega), Int.toNat_natCast, if_pos (by omega)]
        rfl
    · have hg : ∀ y ∈ l, 0 ≤ y ∧ y < 64 := fun y hy => by
        obtain ⟨j, hj, e⟩ := List.getElem_of_mem hy
        have h1 : ¬ BadR (rd l (j : Int)) := fun c => hb ⟨j, hj, c⟩
        have h2 : rd l (j : Int) = y := by simp [rd, hj, e]
        rw [h2] at h1
        unfold BadR at h1
        omega
      have he : l = asInt (l.map Int.toNat) := by
        unfold asInt
        rw [List.map_map]
        conv => lhs; rw [← List.map_id l]
        refine List.map_congr_left (fun y hy => ?_)
        have := hg y hy
        simp only [id, Function.comp_apply]
        omega
      have hx : ∀ y ∈ l.map Int.toNat, y < 64 := fun y hy => by
        obtain ⟨z, hz, rfl⟩ := List.mem_map.1 hy
        have := hg z hz
        omega
      refine ⟨(packB (l.map Int.toNat), 0), Ev.congr (fun k => congrArg (dense_Pack.f k) he) (pack_ev m (l.map Int.toNat) (by rw [List.length_map, hm]) (by omega) hx), Ev.congr (fun k => congrArg (tallymanref15_Pack.f k) he) (rpack_ev m (l.map Int.toNat) (by rw [List.length_map, hm]) (by omega) hx)⟩
  · refine ⟨([], 2), Ev.congr (f := fun _ => some ([], 2)) (fun k => ?_) (Ev.now _), Ev.congr (f := fun _ => some ([], 2)) (fun k => ?_) (Ev.now _)⟩
    · unfold dense_Pack.f
      rw [if_neg (by omega)]
    · unfold tallymanref15_Pack.f
      rw [if_neg (by omega)]
/-! ### The reference's Unpack -/
def nB : List Nat → Nat
  | [] => 0
  | a :: r => a + 256 * nB r
def sixL : Nat → Nat → List Int
  | _, 0 => []
  | A, n + 1 => ((A % 64 : Nat) : Int) :: sixL (A / 64) n
theorem sixL_snoc : ∀ (n A : Nat), sixL A (n + 1) = sixL A n ++ [((A / 2 ^ (6 * n) % 64 : Nat) : Int)]
  | 0, A => by simp [sixL]
  | n + 1, A => by
    have ih := sixL_snoc n (A / 64)
    have e : A / 64 / 2 ^ (6 * n) = A / 2 ^ (6 * (n + 1)) := by rw [Nat.div_div_eq_div_mul, show 6 * (n + 1) = 6 + 6 * n by omega, Nat.pow_add]
    rw [sixL, ih, e, sixL]
    rfl
theorem sixL_len : ∀ (n A : Nat), (sixL A n).length = n
  | 0, _ => rfl
  | n + 1, A => by rw [sixL, List.length_cons, sixL_len n]
theorem nB_bit : ∀ (l : List Nat) (t : Nat), (∀ x ∈ l, x < 256) → nB l / 2 ^ t % 2 = l.getD (t / 8) 0 / 2 ^ (t % 8) % 2
  | [], t, _ => by simp [nB]
  | a :: r, t, hx => by
    have h2 := hx a (by simp)
    by_cases ht : t < 8
    · rw [nB, show t / 8 = 0 by omega, show t % 8 = t by omega, List.getD_cons_zero]
      generalize nB r = R
      rcases (by omega : t = 0 ∨ t = 1 ∨ t = 2 ∨ t = 3 ∨ t = 4 ∨ t = 5 ∨ t = 6 ∨ t = 7) with rfl | rfl | rfl | rfl | rfl | rfl | rfl | rfl <;> simp only [Nat.reducePow] <;> omega
    · obtain ⟨s, rfl⟩ : ∃ s, t = s + 8 := ⟨t - 8, by omega⟩
      have ih := nB_bit r s (fun x h => hx x (by simp [h]))
      rw [nB, show (s + 8) / 8 = s / 8 + 1 by omega, show (s + 8) % 8 = s % 8 by omega, List.getD_cons_succ, ← ih, show s + 8 = 8 + s by omega, Nat.pow_add, ← Nat.div_div_eq_div_mul]
      congr 2
      omega
theorem unpackN_six : ∀ (m : Nat) (l : List Nat), l.length ≤ 3 * m + 2 → (∀ x ∈ l, x < 256) → unpackN l = sixL (nB l) (l.length / 3 * 4)
  | _, [], _, _ => rfl
  | _, [_], _, _ => by simp [unpackN, sixL]
  | _, [_, _], _, _ => by simp [unpackN, sixL]
  | 0, _ :: _ :: _ :: _, h, _ => by simp at h
  | m + 1, a :: b :: c :: r, h, hx => by
    have ih := unpackN_six m r (by simp at h; omega) (fun x h => hx x (by simp [h]))
    have ha : a < 256 := hx a (by simp)
    have hb : b < 256 := hx b (by simp)
    have hc : c < 256 := hx c (by simp)
    have hn : (a :: b :: c :: r).length / 3 * 4 = r.length / 3 * 4 + 1 + 1 + 1 + 1 := by simp only [List.length_cons]; omega
    rw [unpackN, ih, hn]
    simp only [sixL, nB]
    generalize nB r = R
    rw [show (a + 256 * (b + 256 * (c + 256 * R))) / 64 / 64 / 64 / 64 = R by omega]
    simp only [asInt, List.map_cons, List.map_nil, List.cons_append, List.nil_append]
    rw [show (a + 256 * (b + 256 * (c + 256 * R))) % 64 = (65536 * c + (256 * b + a)) % 64 by omega, show (a + 256 * (b + 256 * (c + 256 * R))) / 64 % 64 = (65536 * c + (256 * b + a)) / 64 % 64 by omega, show (a + 256 * (b + 256 * (c + 256 * R))) / 64 / 64 % 64 = (65536 * c + (256 * b + a)) / 64 / 64 % 64 by omega, show (a + 256 * (b + 256 * (c + 256 * R))) / 64 / 64 / 64 % 64 = (65536 * c + (256 * b + a)) / 64 / 64 / 64 % 64 by omega]
theorem shl_bit64 {b s : Nat} (hb : b < 2) (hs : s < 6) : shl .i64 (wrap64 ((b : Nat) : Int)) (s : Int) = ((2 ^ s * b : Nat) : Int) := by
  rcases (by omega : b = 0 ∨ b = 1) with rfl | rfl <;> rcases (by omega : s = 0 ∨ s = 1 ∨ s = 2 ∨ s = 3 ∨ s = 4 ∨ s = 5) with rfl | rfl | rfl | rfl | rfl | rfl <;> decide +kernel
theorem runp_in (l : List Nat) (hl : l.length ≤ 100000) (hx : ∀ x ∈ l, x < 256) (i : Nat) (hi : i < l.length / 3 * 4) (x3 : List Int) (h3 : x3.length ≤ 1000000) (res : List Int) (h : Ev (fun n => tallymanref15_Unpack.l0 n (asInt l) (x3 ++ [((nB l / 2 ^ (6 * i) % 64 : Nat) : Int)]) ((i + 1 : Nat) : Int)) res) : ∀ (d k : Nat), k + d = 6 →
    Ev (fun n => tallymanref15_Unpack.l1 n (asInt l) x3 (i : Int) ((nB l / 2 ^ (6 * i) % 2 ^ k : Nat) : Int) (k : Int)) res := by
  intro d
  induction d with
  | zero =>
    intro k hk
    obtain rfl : k = 6 := by omega
    refine Ev.step (fun n => ?_) h
    simp only [tallymanref15_Unpack.l1]
    rw [if_neg (by omega), if_pos (by omega), w64 (x := (i : Int) + 1) (by omega) (by omega)]
    rfl
  | succ d ih =>
    intro k hk
    refine Ev.step (fun n => ?_) (ih (k + 1) (by omega))
    have hal : (asInt l).length = l.length := by simp [asInt]
    have hbit := nB_bit l (6 * i + k) hx
    have hb2 : nB l / 2 ^ (6 * i + k) % 2 < 2 := Nat.mod_lt _ (by omega)
    have hsh : Int.tmod (shr .u8 (rd (asInt l) (((6 * i + k) / 8 : Nat) : Int)) (((6 * i + k) % 8 : Nat) : Int)) 2 = ((nB l / 2 ^ (6 * i + k) % 2 : Nat) : Int) := by
      rw [rd_asInt, shr_n _ _ (by show (6 * i + k) % 8 ≤ 8; omega), show ∀ x : Nat, Int.tmod (x : Int) 2 = ((x % 2 : Nat) : Int) from fun x => tmodN x 2, hbit]
    have e1 : nB l / 2 ^ (6 * i) % 2 ^ (k + 1) = nB l / 2 ^ (6 * i) % 2 ^ k + 2 ^ k * (nB l / 2 ^ (6 * i + k) % 2) := by
      rw [Nat.mod_pow_succ, Nat.div_div_eq_div_mul, ← Nat.pow_add]
    have hbd : nB l / 2 ^ (6 * i) % 2 ^ (k + 1) < 64 := Nat.lt_of_lt_of_le (Nat.mod_lt _ (Nat.two_pow_pos _)) (Nat.pow_le_pow_right (n := 2) (by omega) (show k + 1 ≤ 6 by omega))
    rw [e1] at hbd ⊢
    generalize nB l / 2 ^ (6 * i + k) % 2 = b at hb2 hsh hbd ⊢
    generalize nB l / 2 ^ (6 * i) % 2 ^ k = x at hbd ⊢
    have hshl := shl_bit64 hb2 (show k < 6 by omega)
    have hw : wrap64 ((x : Int) + ((2 ^ k * b : Nat) : Int)) = ((x + 2 ^ k * b : Nat) : Int) := by
      generalize 2 ^ k * b = y at hbd ⊢
      rw [w64 (by omega) (by omega)]
      rfl
    generalize 2 ^ k * b = y at hshl hw hbd ⊢
    simp only [tallymanref15_Unpack.l1]
    rw [if_pos (by omega), at_eq (by omega) (by omega), at_div (by omega), at_mod, hsh, wu64 (x := (k : Int)) (by omega) (by omega), hshl, hal, if_pos (by omega), if_pos (by omega), if_pos (by omega), if_pos (by omega), w64 (x := (k : Int) + 1) (by omega) (by omega), hw]
    rfl
theorem runp_out (l : List Nat) (hl : l.length ≤ 100000) (hx : ∀ x ∈ l, x < 256) : ∀ (d i : Nat), i + d = l.length / 3 * 4 → Ev (fun n => tallymanref15_Unpack.l0 n (asInt l) (sixL (nB l) i) (i : Int)) (sixL (nB l) (l.length / 3 * 4)) := by
  have hal : (asInt l).length = l.length := by simp [asInt]
  have e1 : wrap64 ((wrap64 (((asInt l).length : Int) / 3)) * 4) = ((l.length / 3 * 4 : Nat) : Int) := by
    rw [hal, w64 (x := (l.length : Int) / 3) (by omega) (by omega), w64 (by omega) (by omega)]
    omega
  intro d
  induction d with
  | zero =>
    intro i h
    obtain rfl : i = l.length / 3 * 4 := by omega
    refine Ev.step (f := fun _ => some (sixL (nB l) (l.length / 3 * 4))) (fun n => ?_) (Ev.now _)
    simp only [tallymanref15_Unpack.l0]
    rw [e1, if_neg (by omega)]
  | succ d ih =>
    intro i h
    have hr := ih (i + 1) (by omega)
    rw [sixL_snoc] at hr
    have hs := sixL_len i (nB l)
    refine Ev.step (f := fun n => tallymanref15_Unpack.l1 n (asInt l) (sixL (nB l) i) (i : Int) ((nB l / 2 ^ (6 * i) % 2 ^ 0 : Nat) : Int) ((0 : Nat) : Int)) (fun n => ?_) (runp_in l hl hx i (by omega) (sixL (nB l) i) (by omega) _ hr 6 0 (by omega))
    simp only [tallymanref15_Unpack.l0]
    rw [e1, if_pos (by omega), Nat.pow_zero, Nat.mod_one]
    rfl
theorem runpack_ev (l : List Nat) (hl : l.length ≤ 100000) (hx : ∀ x ∈ l, x < 256) : Ev (fun k => tallymanref15_Unpack.f k (asInt l)) (unpackN l) := by
  have h := runp_out l hl hx (l.length / 3 * 4) 0 (by omega)
  rw [unpackN_six l.length l (by omega) hx]
  exact Ev.congr (fun k => by unfold tallymanref15_Unpack.f; rfl) h
end Go.Proofs.Ytbclnjinpcfpjaa.H
