/- The pure statement of DenseGrows: what the Go law comes to, as a Lean function on numbers and lists, is true for every input. -/
import Derived.Test.YtbclnjinpcfpjaaT8
import Derived.Test.YtbclnjinpcfpjaaHJ
import Derived.Test.YtbclnjinpcfpjaaSK
namespace Go.Proofs.Ytbclnjinpcfpjaa.H
open Go.RowKit Go.Proofs.YtbclnjinpcfpjaaW.PrintWords Go.Proofs.YtbclnjinpcfpjaaW.PrintLast
def tallymanlaw15_DenseGrows.PureH : Prop := ∀ (x0 : Int) (x1 : Int), (Lit.int .i64 x0).wf = true → (Lit.int .i64 x1).wf = true →  ∃ k, tallymanlaw15_DenseGrows.f k x0 x1 = some true
end Go.Proofs.Ytbclnjinpcfpjaa.H
namespace Go.Proofs.Ytbclnjinpcfpjaa.Pure
open Go.RowKit Go.Proofs.Ytbclnjinpcfpjaa.H Go.Proofs.YtbclnjinpcfpjaaW.PrintWords Go.Proofs.YtbclnjinpcfpjaaW.PrintLast
theorem lives_ev' : Ev (fun k => tallymanlaw15_lives.f k) true := by
  refine ⟨100, fun n hn => ?_⟩
  have h0 : tallymanlaw15_lives.f 100 = some true := by decide +kernel
  have up : ∀ d, tallymanlaw15_lives.f (100 + d) = some true := by
    intro d
    induction d with
    | zero => exact h0
    | succ d ih => exact tallymanlaw15_lives.mono (100 + d) _ ih
  rw [show n = 100 + (n - 100) by omega]
  exact up _
theorem pick_ev (a m : Int) (hm : 1 ≤ m) (hm2 : m ≤ 4611686018427387904) : ∃ p : Nat, tallymankit_Pick.f a m = some (p : Int) ∧ (p : Int) < m := by
  unfold tallymankit_Pick.f
  rw [if_neg (by omega), if_neg (by omega)]
  have hb : Int.tmod a m < m := by
    have := Int.tmod_lt_of_pos a (b := m) (by omega)
    exact this
  have hlo : -m < Int.tmod a m := Int.lt_tmod_of_pos a (by omega)
  by_cases hn : Int.tmod a m < 0
  · rw [if_pos hn, w64 (by omega) (by omega)]
    exact ⟨(Int.tmod a m + m).toNat, by rw [Int.toNat_of_nonneg (by omega)], by omega⟩
  · rw [if_neg hn]
    exact ⟨(Int.tmod a m).toNat, by rw [Int.toNat_of_nonneg (by omega)], by omega⟩
def regL (q s n : Nat) : List S32 := (List.range' s n).map (fun j : Nat => (⟨(j : Int), 1 + (q : Int)⟩ : S32))
theorem regL_len (q s n : Nat) : (regL q s n).length = n := by simp [regL]
theorem regL_snoc (q n : Nat) : regL q 0 (n + 1) = regL q 0 n ++ [⟨(n : Int), 1 + (q : Int)⟩] := by
  unfold regL
  rw [List.range'_1_concat, List.map_append]
  simp
theorem regL_cons (q s n : Nat) : regL q s (n + 1) = ⟨(s : Int), 1 + (q : Int)⟩ :: regL q (s + 1) n := by
  unfold regL
  rw [List.range'_succ]
  rfl
theorem regL_ok (p q : Nat) (hq : q + p < 65) : ∀ (n s : Nat) (last : Int), last < s → s + n ≤ 2 ^ p → regsOk p last (regL q s n) = true
  | 0, _, _, _, _ => rfl
  | n + 1, s, last, h1, h2 => by
    rw [regL_cons]
    have := regL_ok p q hq n (s + 1) (s : Int) (by omega) (by omega)
    show (decide (last < (s : Int)) && decide ((s : Int) < ((2 ^ p : Nat) : Int)) && decide (1 ≤ 1 + (q : Int)) && decide (1 + (q : Int) ≤ 65 - (p : Int)) && regsOk p (s : Int) (regL q (s + 1) n)) = true
    generalize 2 ^ p = T at *
    rw [this, decide_eq_true (by omega), decide_eq_true (by omega), decide_eq_true (by omega), decide_eq_true (by omega)]
    rfl
theorem regL_sum (q : Nat) : ∀ (n s : Nat), sumR (regL q s n) = n * 2 ^ (61 - q)
  | 0, s => by rw [Nat.zero_mul]; rfl
  | n + 1, s => by
    rw [regL_cons, sumR, regL_sum q n (s + 1)]
    show 2 ^ (62 - (1 + (q : Int)).toNat) + n * 2 ^ (61 - q) = (n + 1) * 2 ^ (61 - q)
    rw [show 62 - (1 + (q : Int)).toNat = 61 - q by omega, Nat.add_mul, Nat.one_mul, Nat.add_comm]
theorem est_all (P q : Nat) : estI P (regL q 0 (2 ^ P)) = capQ (aOf P * 2 ^ P * 2 ^ P * 70368744177664) (2 ^ P * 2 ^ (61 - q)) := by
  have e : quoE P (regL q 0 (2 ^ P)) = capQ (aOf P * 2 ^ P * 2 ^ P * 70368744177664) (2 ^ P * 2 ^ (61 - q)) := by
    rw [quoE_def, sumS_def, regL_len, regL_sum, Nat.sub_self, Nat.zero_mul, Nat.zero_add]
  unfold estI
  rw [regL_len, Nat.sub_self, e, if_neg (show ¬ (0 : Int) < ((0 : Nat) : Int) by decide), ite_self]
theorem grow_fin : ∀ c : Fin 7, ∀ q : Fin 30, (fun A B : Int => (decide (B = IntKind.u64.wrap (2 * A)) || decide (B = IntKind.u64.wrap (IntKind.u64.wrap (2 * A) + 1))) && decide (A > 0))
    (capQ (aOf (4 + c.val) * 2 ^ (4 + c.val) * 2 ^ (4 + c.val) * 70368744177664) (2 ^ (4 + c.val) * 2 ^ (61 - q.val))) (capQ (aOf (4 + c.val) * 2 ^ (4 + c.val) * 2 ^ (4 + c.val) * 70368744177664) (2 ^ (4 + c.val) * 2 ^ (61 - (q.val + 1)))) = true := by decide +kernel
theorem one_fin : ∀ c : Fin 7, ∀ q : Fin 30, estI (4 + c.val) [⟨0, 1 + (q.val : Int)⟩] ≤ 1 := by decide +kernel
theorem none_fin : ∀ c : Fin 7, estI (4 + c.val) [] = 0 := by decide +kernel
theorem clo_loop (p q : Nat) (h4 : 4 ≤ p) (hp : p ≤ 16) (_ : q ≤ 60) : ∀ (d i : Nat), i + d = 2 ^ p → Ev (fun k => tallymanlaw15_DenseGrows_1.l0 k (1 + (q : Int)) (p : Int) (i : Int) (p : Int) (regL q 0 i)) ((p : Int), regL q 0 (2 ^ p)) := by
  have hT := pow_p hp
  have e1 : IntKind.u64.wrap (p : Int) = (p : Int) := wu64 (by omega) (by omega)
  have e2 := shl_p hp
  intro d
  induction d with
  | zero =>
    intro i h
    obtain rfl : i = 2 ^ p := by omega
    refine Ev.step (f := fun _ => some ((p : Int), regL q 0 (2 ^ p))) (fun k => ?_) (Ev.now _)
    simp only [tallymanlaw15_DenseGrows_1.l0]
    rw [e1, e2, if_pos (by omega), if_neg (by omega)]
  | succ d ih =>
    intro i h
    refine Ev.step (fun k => ?_) (ih (i + 1) (by omega))
    simp only [tallymanlaw15_DenseGrows_1.l0]
    rw [e1, e2, if_pos (by omega), if_pos (by omega), regL_len, if_pos (by omega), w64 (x := (i : Int) + 1) (by omega) (by omega), regL_snoc]
    rfl
theorem clo_ev (p q : Nat) (h4 : 4 ≤ p) (hp : p ≤ 16) (hq : q ≤ 60) : Ev (fun k => tallymanlaw15_DenseGrows_1.f k (1 + (q : Int)) (p : Int)) ((p : Int), regL q 0 (2 ^ p)) :=
  clo_loop p q h4 hp hq (2 ^ p) 0 (by omega)
theorem DenseGrows : tallymanlaw15_DenseGrows.PureH := by
  intro a0 a1 _ _
  obtain ⟨c, ec, hc⟩ := pick_ev a0 7 (by omega) (by omega)
  obtain ⟨q, eq, hq⟩ := pick_ev a1 30 (by omega) (by omega)
  have g1 := grow_fin ⟨c, by omega⟩ ⟨q, by omega⟩
  have g2 := one_fin ⟨c, by omega⟩ ⟨q, by omega⟩
  have g3 := none_fin ⟨c, by omega⟩
  simp only [] at g1 g2 g3
  have e0 : wrap64 (4 + (c : Int)) = ((4 + c : Nat) : Int) := by rw [w64 (by omega) (by omega)]; omega
  have e1 : wrap64 (1 + (q : Int)) = 1 + (q : Int) := w64 (by omega) (by omega)
  have e2 : wrap64 (1 + (q : Int) + 1) = 1 + ((q + 1 : Nat) : Int) := by rw [w64 (by omega) (by omega)]; omega
  have ca := clo_ev (4 + c) q (by omega) (by omega) (by omega)
  have cb := clo_ev (4 + c) (q + 1) (by omega) (by omega) (by omega)
  have oa := est_ev (P := 4 + c) (by omega) (by omega) (regL_ok (4 + c) q (by omega) (2 ^ (4 + c)) 0 (-1) (by omega) (by omega))
  have ob := est_ev (P := 4 + c) (by omega) (by omega) (regL_ok (4 + c) (q + 1) (by omega) (2 ^ (4 + c)) 0 (-1) (by omega) (by omega))
  rw [est_all] at oa ob
  have oo := est_ev (P := 4 + c) (l := [⟨0, 1 + (q : Int)⟩]) (by omega) (by omega) (by
    have hT : 0 < 2 ^ (4 + c) := Nat.two_pow_pos _
    show (decide ((-1 : Int) < 0) && decide ((0 : Int) < ((2 ^ (4 + c) : Nat) : Int)) && decide (1 ≤ 1 + (q : Int)) && decide (1 + (q : Int) ≤ 65 - ((4 + c : Nat) : Int)) && true) = true
    rw [decide_eq_true (by decide), decide_eq_true (by omega), decide_eq_true (by omega), decide_eq_true (by omega)]
    rfl)
  have on := est_ev (P := 4 + c) (l := []) (by omega) (by omega) rfl
  rw [g3] at on
  generalize capQ (aOf (4 + c) * 2 ^ (4 + c) * 2 ^ (4 + c) * 70368744177664) (2 ^ (4 + c) * 2 ^ (61 - q)) = A at *
  generalize capQ (aOf (4 + c) * 2 ^ (4 + c) * 2 ^ (4 + c) * 70368744177664) (2 ^ (4 + c) * 2 ^ (61 - (q + 1))) = B at *
  generalize estI (4 + c) [⟨0, 1 + (q : Int)⟩] = O at *
  rw [Bool.and_eq_true, Bool.or_eq_true, decide_eq_true_eq, decide_eq_true_eq, decide_eq_true_eq] at g1
  obtain ⟨g1, gA⟩ := g1
  have hend : Ev (fun k => (dense_Estimate.f k ((4 + c : Nat) : Int) ([] : List S32)).bind fun t => some (t == 0)) true := Ev.bind (f := fun _ t => some (t == 0)) on (Ev.now _)
  suffices hs : Ev (fun k => tallymanlaw15_DenseGrows.f k a0 a1) true by
    obtain ⟨k, hk⟩ := hs
    exact ⟨k, hk k (Nat.le_refl _)⟩
  simp only [tallymanlaw15_DenseGrows.f]
  refine Ev.bind lives_ev' ?_
  have h : Ev (fun k => (tallymanlaw15_DenseGrows_1.f k (1 + (q : Int)) ((4 + c : Nat) : Int)).bind fun bt221 => ((dense_Estimate.f k bt221.1 bt221.2).bind fun t225 => ((tallymanlaw15_DenseGrows_1.f k (1 + ((q + 1 : Nat) : Int)) ((4 + c : Nat) : Int)).bind fun bt226 => ((dense_Estimate.f k bt226.1 bt226.2).bind fun t230 => ((dense_Estimate.f k ((4 + c : Nat) : Int) (([(⟨0, 1 + (q : Int)⟩ : S32)] : List (S32)))).bind fun t234 => (if t230 = (IntKind.u64.wrap (2 * t225)) then (if t225 > 0 then (if t234 ≤ 1 then ((dense_Estimate.f k ((4 + c : Nat) : Int) ([] : List (S32))).bind fun t235 => (some (t235 == 0))) else (none)) else (none)) else (if t230 = (IntKind.u64.wrap ((IntKind.u64.wrap (2 * t225)) + 1)) then (if t225 > 0 then (if t234 ≤ 1 then ((dense_Estimate.f k ((4 + c : Nat) : Int) ([] : List (S32))).bind fun t236 => (some (t236 == 0))) else (none)) else (none)) else (none)))))))) true := by
    refine Ev.bind ca (Ev.bind oa (Ev.bind cb (Ev.bind ob (Ev.bind oo ?_))))
    by_cases d : B = IntKind.u64.wrap (2 * A)
    · refine Ev.congr (fun k => ?_) hend
      rw [if_pos d, if_pos gA, if_pos g2]
    · refine Ev.congr (fun k => ?_) hend
      rw [if_neg d, if_pos (g1.resolve_left d), if_pos gA, if_pos g2]
  refine Ev.congr (fun k => ?_) h
  rw [if_pos rfl, ec, Option.bind_some, eq, Option.bind_some, e0, e1, e2]
end Go.Proofs.Ytbclnjinpcfpjaa.Pure
