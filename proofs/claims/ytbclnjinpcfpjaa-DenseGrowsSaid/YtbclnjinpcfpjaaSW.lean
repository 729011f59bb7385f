/- What dense.Read answers to any bytes. -/
import Derived.Test.YtbclnjinpcfpjaaSV
namespace Go.Proofs.Ytbclnjinpcfpjaa.H
open Go.RowKit Go.Proofs.YtbclnjinpcfpjaaW.PrintWords Go.Proofs.YtbclnjinpcfpjaaW.PrintLast
set_option linter.unusedVariables false
set_option linter.unusedSimpArgs false
set_option linter.unusedSectionVars false
/-! ### dense.Read, of any bytes -/
theorem shl_most {P : Nat} (hP : P ≤ 16) : shl .u64 1 (P : Int) = ((2 ^ P : Nat) : Int) := by
  have hp2 := pow_small hP
  unfold shl
  rw [show min ((P : Int)).toNat (IntKind.u64).bits = P by show min P 64 = P; omega, Int.one_mul, show ((2 : Int) ^ P) = ((2 ^ P : Nat) : Int) by simp]
  exact wu64 (by omega) (by omega)
theorem sparse_read {P : Nat} (h4 : 4 ≤ P) (hP : P ≤ 16) {c : List Int} (hc : c.all isByte = true) (hl : c.length ≤ 100000) (res : Int × List S32 × Int)
    (h1 : ∀ acc', (rdUpto ((2 ^ P : Nat) : Int) c 0).2.2 = 0 → rdS ((2 ^ P : Nat) : Int) (rdUpto ((2 ^ P : Nat) : Int) c 0).1.toNat (-1) (rdUpto ((2 ^ P : Nat) : Int) c 0).2.1 [] = some (acc', []) → Ev (fun k => finF k (P : Int) acc' ((P : Int) :: 0 :: c)) res)
    (h2 : (∀ acc', ¬ ((rdUpto ((2 ^ P : Nat) : Int) c 0).2.2 = 0 ∧ rdS ((2 ^ P : Nat) : Int) (rdUpto ((2 ^ P : Nat) : Int) c 0).1.toNat (-1) (rdUpto ((2 ^ P : Nat) : Int) c 0).2.1 [] = some (acc', []))) → res = (0, [], 4)) :
    Ev (fun k => dense_Read.j0 k ((P : Int) :: 0 :: c) false) res := by
  have hl' : c.length < 140737488355328 := by omega
  have hp2 := pow_small hP
  obtain ⟨q, hq, hd, he⟩ := Upto_eq hc hl' (p := 0) (by omega) 0 ((2 ^ P : Nat) : Int)
  rw [List.drop_zero] at hd he
  have hlen : ((((P : Int) :: 0 :: c : List Int).length : Nat) : Int) = (c.length : Int) + 2 := by simp only [List.length_cons]; omega
  have r0 : rd ((P : Int) :: 0 :: c) 0 = (P : Int) := rfl
  have r1 : rd ((P : Int) :: 0 :: c) 1 = 0 := rfl
  have hn : octet_New.f c = some (c, ((0 : Nat) : Int), 0, true) := by unfold octet_New.f; rw [if_pos hl']; rfl
  have step : ∀ k, dense_Read.j0 (k + 1) ((P : Int) :: 0 :: c) false = dense_Read.l0 k ((P : Int) :: 0 :: c) (-1) (rdUpto ((2 ^ P : Nat) : Int) c 0).1 0 (P : Int) [] c (q : Int) (rdUpto ((2 ^ P : Nat) : Int) c 0).2.2 true := fun k => by
    simp only [dense_Read.j0]
    rw [if_neg (by decide), r0, r1, hlen, if_pos (by omega), if_pos (by omega), if_pos rfl, if_pos (by omega), show ((P : Int) :: 0 :: c).drop 2 = c from rfl, hn, Option.bind_some, w64 (x := (P : Int)) (by omega) (by omega), if_pos (by omega), shl_most hP]
    dsimp only
    rw [he, Option.bind_some]
  by_cases c0 : (rdUpto ((2 ^ P : Nat) : Int) c 0).2.2 = 0
  · obtain ⟨N, e1, e2, e3⟩ := rdUpto_inv _ c hc c0
    have hN : N ≤ 2 ^ P := Int.ofNat_le.1 e2
    refine Ev.step (fun k => ?_) (sparse_loop_rd hc hl' P hP ((P : Int) :: 0 :: c) N (by omega) res N 0 (-1) [] q (by omega) hq rfl (fun acc' hh => h1 acc' c0 ?_) (fun hh => h2 (fun acc' hx => hh acc' ?_)))
    · rw [step, c0, e1]; rfl
    · rw [e1, Int.toNat_natCast, ← hd]; exact hh
    · have := hx.2
      rw [e1, Int.toNat_natCast, ← hd] at this
      exact this
  · refine Ev.step (fun k => ?_) (sparse_end hl' hq (rdUpto ((2 ^ P : Nat) : Int) c 0).2.2 ((P : Int) :: 0 :: c) (-1) 0 0 (P : Int) (by omega) [] res (fun h => absurd h c0) (fun _ => h2 (fun acc' hx => c0 hx.1)))
    rw [step, rdUpto_err _ _ _ c0]
theorem six_pow {P : Nat} (h4 : 4 ≤ P) (hP : P ≤ 16) : wrap64 (Int.tdiv (shl .i64 6 (P : Int)) 8) = ((3 * 2 ^ (P - 2) : Nat) : Int) := by
  have hp : 2 ^ (P - 2) ≤ 2 ^ 14 := Nat.pow_le_pow_right (by omega) (by omega)
  have e := pow_four h4
  have hs : shl .i64 6 (P : Int) = ((24 * 2 ^ (P - 2) : Nat) : Int) := by
    unfold shl
    rw [show min ((P : Int)).toNat (IntKind.i64).bits = P by show min P 64 = P; omega, show ((2 : Int) ^ P) = ((2 ^ P : Nat) : Int) by simp, e]
    generalize 2 ^ (P - 2) = X at *
    rw [IntKind.wrap_i64]
    omega
  rw [hs]
  generalize 2 ^ (P - 2) = X at *
  rw [Int.tdiv_eq_ediv_of_nonneg (by omega), w64 (by omega) (by omega)]
  omega
theorem dense_read {P : Nat} (h4 : 4 ≤ P) (hP : P ≤ 16) {cn : List Nat} (hx : ∀ x ∈ cn, x < 256) (hl : cn.length ≤ 100000) (res : Int × List S32 × Int)
    (h1 : cn.length = 3 * 2 ^ (P - 2) → Ev (fun k => finF k (P : Int) (regsAt 0 (unpackN cn)) ((P : Int) :: 1 :: asInt cn)) res)
    (h2 : ¬ cn.length = 3 * 2 ^ (P - 2) → res = (0, [], 4)) :
    Ev (fun k => dense_Read.j0 k ((P : Int) :: 1 :: asInt cn) false) res := by
  have hlen : ((((P : Int) :: 1 :: asInt cn : List Int).length : Nat) : Int) = (cn.length : Int) + 2 := by simp only [List.length_cons, asInt, List.length_map]; omega
  have r0 : rd ((P : Int) :: 1 :: asInt cn) 0 = (P : Int) := rfl
  have r1 : rd ((P : Int) :: 1 :: asInt cn) 1 = 1 := rfl
  have step : ∀ k, dense_Read.j0 (k + 1) ((P : Int) :: 1 :: asInt cn) false = if cn.length = 3 * 2 ^ (P - 2) then ((dense_Unpack.f k (asInt cn)).bind fun t292 => (dense_Read.l1 k ((P : Int) :: 1 :: asInt cn) t292 (t292.length : Int) 0 (P : Int) ([] : List (S32)))) else some (0, [], 4) := fun k => by
    simp only [dense_Read.j0]
    rw [if_neg (by decide), r0, r1, hlen, if_pos (by omega), if_pos (by omega), if_neg (by decide), if_pos rfl, w64 (x := (P : Int)) (by omega) (by omega), if_pos (by omega), six_pow h4 hP, w64 (x := (cn.length : Int) + 2 - 2) (by omega) (by omega)]
    generalize 3 * 2 ^ (P - 2) = X at *
    by_cases c : cn.length = X
    · rw [if_pos (by omega), if_pos (by omega), if_pos c]
      rfl
    · rw [if_neg (by omega), if_neg c]
  by_cases c : cn.length = 3 * 2 ^ (P - 2)
  · have hu := unpack_ev cn (by omega) hx
    have hlu := unpackN_len cn.length cn (Nat.le_refl _)
    have hloop := dread_loop (unpackN cn) (by omega) ((P : Int) :: 1 :: asInt cn) (P : Int) res (unpackN cn).length 0 [] (by omega) (by simp) (by rw [List.nil_append, List.drop_zero]; exact h1 c)
    refine Ev.step (fun k => ?_) (Ev.bind (f := fun k t292 => dense_Read.l1 k ((P : Int) :: 1 :: asInt cn) t292 (t292.length : Int) 0 (P : Int) ([] : List (S32))) hu hloop)
    rw [step, if_pos c]
  · rw [h2 c]
    refine Ev.step (f := fun _ => some (0, [], 4)) (fun k => ?_) (Ev.now _)
    rw [step, if_neg c]
theorem other_read {P : Nat} (h4 : 4 ≤ P) (hP : P ≤ 16) {y : Int} (hy0 : ¬ y = 0) (hy1 : ¬ y = 1) (c : List Int) (res : Int × List S32 × Int) (h : Ev (fun k => finF k (P : Int) [] ((P : Int) :: y :: c)) res) : Ev (fun k => dense_Read.j0 k ((P : Int) :: y :: c) false) res := by
  have hlen : ((((P : Int) :: y :: c : List Int).length : Nat) : Int) = (c.length : Int) + 2 := by simp only [List.length_cons]; omega
  have r0 : rd ((P : Int) :: y :: c) 0 = (P : Int) := rfl
  have r1 : rd ((P : Int) :: y :: c) 1 = y := rfl
  refine Ev.step (fun k => ?_) h
  simp only [dense_Read.j0]
  rw [if_neg (by decide), r0, r1, hlen, if_pos (by omega), if_pos (by omega), if_neg hy0, if_neg hy1, w64 (x := (P : Int)) (by omega) (by omega)]
  rfl
theorem read_out (b : List Int) : Ev (fun k => dense_Read.j0 k b true) (0, [], 4) := by
  refine Ev.step (f := fun _ => some (0, [], 4)) (fun k => ?_) (Ev.now _)
  simp only [dense_Read.j0]
  rw [if_pos trivial]
theorem read_in {P : Nat} (h4 : 4 ≤ P) (hP : P ≤ 16) (y : Int) (c : List Int) (res : Int × List S32 × Int) (h : Ev (fun k => dense_Read.j0 k ((P : Int) :: y :: c) false) res) : Ev (fun k => dense_Read.f k ((P : Int) :: y :: c)) res := by
  have hlen : ((((P : Int) :: y :: c : List Int).length : Nat) : Int) = (c.length : Int) + 2 := by simp only [List.length_cons]; omega
  have r0 : rd ((P : Int) :: y :: c) 0 = (P : Int) := rfl
  refine Ev.congr (fun k => ?_) h
  unfold dense_Read.f
  rw [hlen, r0, if_neg (by omega), if_pos (by omega), if_neg (by omega), decide_eq_false (by omega)]
theorem read_any (b : List Int) (hb : b.all isByte = true) (hl : b.length ≤ 20000) : ∃ r, Ev (fun k => dense_Read.f k b) r ∧ Good b r := by
  match b, hb, hl with
  | [], _, _ => exact ⟨_, Ev.congr (fun k => by unfold dense_Read.f; rfl) (read_out []), .inl rfl⟩
  | [x], _, _ => exact ⟨_, Ev.congr (fun k => by unfold dense_Read.f; rfl) (read_out [x]), .inl rfl⟩
  | x :: y :: c, hb, hl =>
    have hx := byte_of hb x (by simp)
    have hc : c.all isByte = true := by
      rw [List.all_cons, List.all_cons, Bool.and_eq_true, Bool.and_eq_true] at hb
      exact hb.2.2
    have hlc : c.length ≤ 20000 := by simp only [List.length_cons] at hl; omega
    by_cases hr : 4 ≤ x ∧ x ≤ 16
    · obtain ⟨P, rfl⟩ : ∃ P : Nat, x = (P : Int) := ⟨x.toNat, by omega⟩
      have h4 : 4 ≤ P := by omega
      have hP : P ≤ 16 := by omega
      by_cases y0 : y = 0
      · subst y0
        have hp2 := pow_small hP
        by_cases ok : ∃ acc', (rdUpto ((2 ^ P : Nat) : Int) c 0).2.2 = 0 ∧ rdS ((2 ^ P : Nat) : Int) (rdUpto ((2 ^ P : Nat) : Int) c 0).1.toNat (-1) (rdUpto ((2 ^ P : Nat) : Int) c 0).2.1 [] = some (acc', [])
        · obtain ⟨acc, o1, o2⟩ := ok
          obtain ⟨N, e1, e2, e3⟩ := rdUpto_inv _ c hc o1
          have hN : N ≤ 2 ^ P := Int.ofNat_le.1 e2
          have ha := rdS_len _ _ _ _ _ _ _ o2
          rw [e1, Int.toNat_natCast, List.length_nil] at ha
          obtain ⟨r, f1, f2⟩ := fin_any (P : Int) acc (by omega) ((P : Int) :: 0 :: c)
          refine ⟨r, read_in h4 hP 0 c r (sparse_read h4 hP hc (by omega) r (fun acc' _ hh => ?_) (fun hh => absurd ⟨o1, o2⟩ (hh acc))), f2⟩
          rw [o2] at hh
          simp only [Option.some.injEq, Prod.mk.injEq, and_true] at hh
          rw [← hh]
          exact f1
        · exact ⟨(0, [], 4), read_in h4 hP 0 c _ (sparse_read h4 hP hc (by omega) _ (fun acc' h hh => absurd ⟨acc', h, hh⟩ ok) (fun _ => rfl)), .inl rfl⟩
      · by_cases y1 : y = 1
        · subst y1
          obtain ⟨cn, rfl, hcn⟩ := bytes_nat hc
          have hlen : cn.length ≤ 20000 := by simpa [asInt] using hlc
          by_cases ok : cn.length = 3 * 2 ^ (P - 2)
          · have hlu := unpackN_len cn.length cn (Nat.le_refl _)
            have hla := regsAt_len (unpackN cn) 0
            obtain ⟨r, f1, f2⟩ := fin_any (P : Int) (regsAt 0 (unpackN cn)) (by omega) ((P : Int) :: 1 :: asInt cn)
            exact ⟨r, read_in h4 hP 1 _ r (dense_read h4 hP hcn (by omega) r (fun _ => f1) (fun hh => absurd ok hh)), f2⟩
          · exact ⟨(0, [], 4), read_in h4 hP 1 _ _ (dense_read h4 hP hcn (by omega) _ (fun hh => absurd hh ok) (fun _ => rfl)), .inl rfl⟩
        · obtain ⟨r, f1, f2⟩ := fin_any (P : Int) [] (by simp) ((P : Int) :: y :: c)
          exact ⟨r, read_in h4 hP y c r (other_read h4 hP y0 y1 c r f1), f2⟩
    · refine ⟨(0, [], 4), Ev.congr (fun k => ?_) (read_out (x :: y :: c)), .inl rfl⟩
      have hlen : (((x :: y :: c : List Int).length : Nat) : Int) = (c.length : Int) + 2 := by simp only [List.length_cons]; omega
      have r0 : rd (x :: y :: c) 0 = x := rfl
      unfold dense_Read.f
      rw [hlen, r0, if_neg (by omega), if_pos (by omega)]
      by_cases hx4 : x < 4
      · rw [if_pos hx4]
      · rw [if_neg hx4, decide_eq_true (by omega)]
end Go.Proofs.Ytbclnjinpcfpjaa.H
