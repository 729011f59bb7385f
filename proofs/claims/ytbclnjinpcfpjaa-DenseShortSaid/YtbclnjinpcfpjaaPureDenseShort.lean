/- The pure statement of DenseShort: what the Go law comes to, as a Lean function on numbers and lists, is true for every input. -/
import Derived.Test.YtbclnjinpcfpjaaH6
import Derived.Test.YtbclnjinpcfpjaaS1
import Derived.OpenShut
namespace Go.Proofs.Ytbclnjinpcfpjaa.Pure
open Go.RowKit Go.Proofs.Ytbclnjinpcfpjaa.H Go.Proofs.YtbclnjinpcfpjaaW.PrintWords Go.Proofs.YtbclnjinpcfpjaaW.PrintLast
theorem lives_ev : Ev (fun k => tallymanlaw15_lives.f k) true := Ev.of (fun k => tallymanlaw15_lives.mono k) (k := 100) (by decide +kernel)
theorem pick_ev (a m : Int) (hm : 1 ≤ m) (hm2 : m ≤ 4611686018427387904) : ∃ p : Nat, tallymankit_Pick.f a m = some (p : Int) ∧ (p : Int) < m := by
  unfold tallymankit_Pick.f
  rw [if_neg (by omega), if_neg (by omega)]
  have hb : Int.tmod a m < m := by
    have := Int.tmod_lt_of_pos a (b := m) (by omega)
    exact this
  have hlo : -m < Int.tmod a m := Int.lt_tmod_of_pos a (by omega)
  by_cases hn : Int.tmod a m < 0
  · rw [if_pos hn, w64 (by omega) (by omega)]
    exact ⟨(Int.tmod a m + m).toNat, by rw [Int.toNat_of_nonneg (by omega)], by omega⟩
  · rw [if_neg hn]
    exact ⟨(Int.tmod a m).toNat, by rw [Int.toNat_of_nonneg (by omega)], by omega⟩
def regL (q s n : Nat) : List S32 := (List.range' s n).map (fun j : Nat => (⟨(j : Int), 1 + (q : Int)⟩ : S32))
theorem regL_len (q s n : Nat) : (regL q s n).length = n := by simp [regL]
theorem regL_snoc (q n : Nat) : regL q 0 (n + 1) = regL q 0 n ++ [⟨(n : Int), 1 + (q : Int)⟩] := by
  unfold regL
  rw [List.range'_1_concat, List.map_append]
  simp
theorem regL_cons (q s n : Nat) : regL q s (n + 1) = ⟨(s : Int), 1 + (q : Int)⟩ :: regL q (s + 1) n := by
  unfold regL
  rw [List.range'_succ]
  rfl
theorem regL_ok (p q : Nat) (hq : q + p < 65) : ∀ (n s : Nat) (last : Int), last < s → s + n ≤ 2 ^ p → regsOk p last (regL q s n) = true
  | 0, _, _, _, _ => rfl
  | n + 1, s, last, h1, h2 => by
    rw [regL_cons]
    have := regL_ok p q hq n (s + 1) (s : Int) (by omega) (by omega)
    show (decide (last < (s : Int)) && decide ((s : Int) < ((2 ^ p : Nat) : Int)) && decide (1 ≤ 1 + (q : Int)) && decide (1 + (q : Int) ≤ 65 - (p : Int)) && regsOk p (s : Int) (regL q (s + 1) n)) = true
    generalize 2 ^ p = T at *
    rw [this, decide_eq_true (by omega), decide_eq_true (by omega), decide_eq_true (by omega), decide_eq_true (by omega)]
    rfl
theorem regL_sparse (q : Nat) : ∀ (n s : Nat), (sparseT ((s : Int) - 1) (regL q s n)).length = 2 * n
  | 0, _ => rfl
  | n + 1, s => by
    rw [regL_cons]
    have := regL_sparse q n (s + 1)
    rw [show ((s + 1 : Nat) : Int) - 1 = (s : Int) by omega] at this
    show (numB ((s : Int) - ((s : Int) - 1) - 1).toNat ++ [1 + (q : Int)] ++ sparseT (s : Int) (regL q (s + 1) n)).length = _
    rw [show ((s : Int) - ((s : Int) - 1) - 1).toNat = 0 by omega, numB_lt (by omega)]
    simp only [List.length_append, List.length_cons, List.length_nil, this]
    omega
theorem numB_small (n : Nat) (h : n ≤ 512) : (numB n).length = if n < 128 then 1 else 2 := by
  by_cases h1 : n < 128
  · rw [numB_lt h1, if_pos h1]; rfl
  · rw [numB_ge h1, numB_lt (by omega), if_neg h1]; rfl
theorem want_len : ∀ c : Fin 6, wrap64 (2 + wrap64 (Int.tdiv (shl .i64 3 (IntKind.u64.wrap ((4 + c.val : Nat) : Int))) 4)) = ((2 + 3 * 2 ^ (2 + c.val) : Nat) : Int) := by decide +kernel
theorem j1_ok (k p n : Nat) (S D : List Int) (hp : 4 ≤ p) (hp2 : p ≤ 9) (hn : n ≤ 512) (hS : S.length = (if n < 128 then 3 else 4) + 2 * n) (hD2 : 2 ≤ D.length)
    (hw : (D.length : Int) = wrap64 (2 + wrap64 (Int.tdiv (shl .i64 3 (IntKind.u64.wrap (p : Int))) 4))) (hu : 0 ≤ IntKind.u64.wrap (p : Int))
    (s0 : rd S 0 = (p : Int)) (s1 : rd S 1 = 0) (d0 : rd D 0 = (p : Int)) (d1 : rd D 1 = 1) :
    tallymanlaw15_DenseShort.j1 (k + 1) (p : Int) (n : Int) S D (if S.length < D.length then S else D) false = some true := by
  have e1 : wrap64 (2 * (n : Int)) = 2 * (n : Int) := w64 (by omega) (by omega)
  have e2 : wrap64 (3 + 2 * (n : Int)) = 3 + 2 * (n : Int) := w64 (by omega) (by omega)
  have e3 : wrap64 (3 + 2 * (n : Int) + 1) = 4 + 2 * (n : Int) := by rw [w64 (by omega) (by omega)]; omega
  have e4 : (p : Int) % 256 = (p : Int) := by omega
  simp only [tallymanlaw15_DenseShort.j1]
  rw [e1, e2, e3, e4]
  generalize wrap64 (2 + wrap64 (Int.tdiv (shl .i64 3 (IntKind.u64.wrap (p : Int))) 4)) = W at hw ⊢
  generalize IntKind.u64.wrap (p : Int) = U at hu ⊢
  clear e1 e2 e3 e4
  refine (if_neg (by decide)).trans ?_
  by_cases h128 : n < 128
  · rw [if_pos h128] at hS
    refine (if_neg (by omega)).trans ?_
    by_cases hlt : S.length < D.length
    · rw [if_pos hlt]
      refine (if_pos (by omega)).trans ((if_pos (by omega)).trans ((if_pos hu).trans ((if_pos hw).trans ((if_pos rfl).trans ((if_pos (by omega)).trans ((if_pos s0).trans ((if_pos (by omega)).trans ?_)))))))
      rw [s1, decide_eq_true (by omega)]
      rfl
    · rw [if_neg hlt]
      refine (if_neg (by omega)).trans ((if_pos (by omega)).trans ((if_pos hu).trans ((if_pos hw).trans ((if_pos rfl).trans ((if_pos (by omega)).trans ((if_pos d0).trans ((if_pos (by omega)).trans ?_)))))))
      rw [d1, decide_eq_false (by omega)]
      rfl
  · rw [if_neg h128] at hS
    refine (if_pos (by omega)).trans ?_
    by_cases hlt : S.length < D.length
    · rw [if_pos hlt]
      refine (if_pos (by omega)).trans ((if_pos (by omega)).trans ((if_pos hu).trans ((if_pos hw).trans ((if_pos rfl).trans ((if_pos (by omega)).trans ((if_pos s0).trans ((if_pos (by omega)).trans ?_)))))))
      rw [s1, decide_eq_true (by omega)]
      rfl
    · rw [if_neg hlt]
      refine (if_neg (by omega)).trans ((if_pos (by omega)).trans ((if_pos hu).trans ((if_pos hw).trans ((if_pos rfl).trans ((if_pos (by omega)).trans ((if_pos d0).trans ((if_pos (by omega)).trans ?_)))))))
      rw [d1, decide_eq_false (by omega)]
      rfl
theorem short_loop (p n q : Nat) (a2 : Int) (hp : 4 ≤ p) (hp2 : p ≤ 9) (hn : n ≤ 2 ^ p) (hq : q + p < 65) (eq : tallymankit_Pick.f a2 (65 - (p : Int)) = some (q : Int)) : ∀ (d i : Nat), i + d = n →
    Ev (fun k => tallymanlaw15_DenseShort.l0 k (p : Int) (n : Int) a2 (i : Int) (p : Int) (regL q 0 i)) true := by
  have hn512 : n ≤ 512 := Nat.le_trans hn (Nat.pow_le_pow_right (n := 2) (by omega) hp2)
  intro d
  induction d with
  | zero =>
    intro i hi
    obtain rfl : i = n := by omega
    have hok := regL_ok p q hq i 0 (-1) (by omega) (by omega)
    have hl := regL_len q 0 i
    have hS := sparse_ev p hp (by omega) (regL q 0 i) (by omega) hok
    have hD := dense_ev p hp (by omega) (regL q 0 i) (by omega) hok
    have hB := bytes_ev p hp (by omega) (regL q 0 i) (by omega) hok
    have lS : (sparseB p (regL q 0 i)).length = (if i < 128 then 3 else 4) + 2 * i := by
      have h1 := regL_sparse q i 0
      rw [show ((0 : Nat) : Int) - 1 = -1 by omega] at h1
      unfold sparseB
      simp only [List.length_append, List.length_cons, List.length_nil, h1, hl, numB_small i hn512]
      split <;> omega
    have hm := pow_four hp
    have lD : (denseB p (regL q 0 i)).length = 2 + 3 * 2 ^ (p - 2) := by
      unfold denseB
      have := packB_len (2 ^ (p - 2)) (ranksOf (List.replicate (2 ^ p) 0) (regL q 0 i)) (by rw [ranksOf_len, List.length_replicate]; exact hm)
      simp only [List.length_append, List.length_cons, List.length_nil, this]
    have hw := want_len ⟨p - 4, by omega⟩
    simp only [show 4 + (p - 4) = p by omega, show 2 + (p - 4) = p - 2 by omega] at hw
    rw [← lD] at hw
    have hu : 0 ≤ IntKind.u64.wrap (p : Int) := by rw [wu64 (by omega) (by omega)]; omega
    refine Ev.step (f := fun k => (dense_Sparse.f k (p : Int) (regL q 0 i)).bind fun bt215 => ((dense_Dense.f k (p : Int) (regL q 0 i)).bind fun bt219 => ((dense_Bytes.f k (p : Int) (regL q 0 i)).bind fun bt223 => (if bt215.2 = 0 then (if bt219.2 = 0 then (tallymanlaw15_DenseShort.j1 k (p : Int) (i : Int) bt215.1 bt219.1 bt223.1 (bt223.2 != 0)) else (tallymanlaw15_DenseShort.j1 k (p : Int) (i : Int) bt215.1 bt219.1 bt223.1 true)) else (tallymanlaw15_DenseShort.j1 k (p : Int) (i : Int) bt215.1 bt219.1 bt223.1 true))))) (fun k => ?_) ?_
    · simp only [tallymanlaw15_DenseShort.l0]
      rw [if_neg (by omega)]
    · refine Ev.bind hS (Ev.bind hD (Ev.bind hB ?_))
      refine Ev.congr (f := fun k => tallymanlaw15_DenseShort.j1 k (p : Int) (i : Int) (sparseB p (regL q 0 i)) (denseB p (regL q 0 i)) (bytesB p (regL q 0 i)) false) (fun k => ?_) ?_
      · rfl
      · refine Ev.step (f := fun _ => some true) (fun k => ?_) (Ev.now _)
        exact j1_ok k p i (sparseB p (regL q 0 i)) (denseB p (regL q 0 i)) hp hp2 hn512 lS (by omega) hw.symm hu rfl rfl rfl rfl
  | succ d ih =>
    intro i hi
    refine Ev.step (f := fun k => tallymanlaw15_DenseShort.l0 k (p : Int) (n : Int) a2 ((i + 1 : Nat) : Int) (p : Int) (regL q 0 (i + 1))) (fun k => ?_) (ih (i + 1) (by omega))
    have e5 : wrap64 (65 - (p : Int)) = 65 - (p : Int) := w64 (by omega) (by omega)
    have e6 : wrap64 ((i : Int) + 1) = ((i + 1 : Nat) : Int) := by rw [w64 (by omega) (by omega)]; omega
    have e7 : wrap64 (1 + (q : Int)) = 1 + (q : Int) := w64 (by omega) (by omega)
    have hl := regL_len q 0 i
    simp only [tallymanlaw15_DenseShort.l0]
    rw [if_pos (by omega), e5, eq, Option.bind_some, if_pos (by omega), e6, e7, regL_snoc]
theorem DenseShort : tallymanlaw15_DenseShort.Pure := by
  intro a0 a1 a2 _ _ _
  obtain ⟨c, ec, hc⟩ := pick_ev a0 6 (by omega) (by omega)
  have hT := pow_p (p := 4 + c) (by omega)
  have hTp := Nat.two_pow_pos (4 + c)
  have e0 : wrap64 (4 + (c : Int)) = ((4 + c : Nat) : Int) := by rw [w64 (by omega) (by omega)]; omega
  have e1 : IntKind.u64.wrap ((4 + c : Nat) : Int) = ((4 + c : Nat) : Int) := wu64 (by omega) (by omega)
  have e2 := shl_p (p := 4 + c) (by omega)
  obtain ⟨n, en, hn⟩ := pick_ev a1 (((2 ^ (4 + c) : Nat) : Int) + 1) (by omega) (by omega)
  obtain ⟨q, eq, hq⟩ := pick_ev a2 (65 - ((4 + c : Nat) : Int)) (by omega) (by omega)
  have e3 : wrap64 (((2 ^ (4 + c) : Nat) : Int) + 1) = ((2 ^ (4 + c) : Nat) : Int) + 1 := w64 (by omega) (by omega)
  have h := short_loop (4 + c) n q a2 (by omega) (by omega) (by omega) (by omega) eq n 0 (by omega)
  refine Ev.rounds ?_
  simp only [tallymanlaw15_DenseShort.f]
  refine Ev.bind lives_ev ?_
  refine Ev.congr (f := fun k => tallymanlaw15_DenseShort.l0 k ((4 + c : Nat) : Int) (n : Int) a2 0 ((4 + c : Nat) : Int) (regL q 0 0)) (fun k => ?_) h
  rw [if_pos rfl, ec, Option.bind_some, e0, e1, e2, e3, en, Option.bind_some]
  refine (if_pos (by omega)).trans ?_
  rfl
end Go.Proofs.Ytbclnjinpcfpjaa.Pure
