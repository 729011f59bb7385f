/- What the reference's Number and Sparse answer. -/
import Derived.Test.YtbclnjinpcfpjaaS3
import Derived.Test.YtbclnjinpcfpjaaHA
namespace Go.Proofs.Ytbclnjinpcfpjaa.H
open Go.RowKit Go.Proofs.YtbclnjinpcfpjaaW.PrintWords Go.Proofs.YtbclnjinpcfpjaaW.PrintLast
set_option linter.unusedVariables false
set_option linter.unusedSimpArgs false
/-! ### The reference's Number, Sparse -/
theorem tmodN (x m : Nat) : Int.tmod (x : Int) (m : Int) = ((x % m : Nat) : Int) := by rw [Int.tmod_eq_emod_of_nonneg (by omega)]; rfl
theorem tdivN (x m : Nat) : Int.tdiv (x : Int) (m : Int) = ((x / m : Nat) : Int) := by rw [Int.tdiv_eq_ediv_of_nonneg (by omega)]; rfl
theorem rnum_loop : ∀ (d x : Nat) (b : List Int), x < 128 ^ d → 0 < d → x < 18446744073709551616 → b.length + d < 140737488355328 → Ev (fun k => tallymanref01_Number.l0 k (x : Int) b) (b ++ numB x) := by
  intro d
  induction d with
  | zero => intro x b _ h; omega
  | succ d ih =>
    intro x b hx _ hx64 hb
    by_cases h : x < 128
    · rw [numB_lt h]
      refine Ev.step (f := fun _ => some (b ++ [(x : Int)])) (fun k => ?_) (Ev.now _)
      simp only [tallymanref01_Number.l0]
      rw [if_neg (by omega), if_pos (by omega), show (x : Int) % 256 = x by omega]
    · rw [numB_ge h]
      have hd : 0 < d := by
        rcases Nat.eq_zero_or_pos d with e | e
        · subst e; omega
        · exact e
      have e1 : IntKind.u64.wrap (Int.tdiv (x : Int) 128) = ((x / 128 : Nat) : Int) := by rw [show Int.tdiv (x : Int) 128 = ((x / 128 : Nat) : Int) from tdivN x 128]; exact wu64 (by omega) (by omega)
      have e2 : (IntKind.u64.wrap (128 + (Int.tmod (x : Int) 128))) % 256 = ((x % 128 + 128 : Nat) : Int) := by rw [show Int.tmod (x : Int) 128 = ((x % 128 : Nat) : Int) from tmodN x 128, wu64 (by omega) (by omega)]; omega
      refine Ev.step (f := fun k => tallymanref01_Number.l0 k ((x / 128 : Nat) : Int) (b ++ [((x % 128 + 128 : Nat) : Int)])) (fun k => ?_) ?_
      · simp only [tallymanref01_Number.l0]
        rw [if_pos (by omega), if_pos (by omega), e1, e2]
      · have := ih (x / 128) (b ++ [((x % 128 + 128 : Nat) : Int)]) (by rw [Nat.pow_succ] at hx; omega) hd (by omega) (by simp; omega)
        rwa [List.append_assoc] at this
theorem rnumber_ev (x : Nat) (b : List Int) (hx : x < 18446744073709551616) (hb : b.length < 140737488355000) : Ev (fun k => tallymanref01_Number.f k b (x : Int)) (b ++ numB x) := by
  refine Ev.congr (f := fun k => tallymanref01_Number.l0 k (x : Int) b) (fun k => ?_) (rnum_loop 10 x b (by omega) (by omega) hx (by omega))
  simp only [tallymanref01_Number.f, Option.bind_some, List.nil_append, List.length_nil]
  rw [if_pos (by omega)]
theorem rsparse_loop (p : Nat) (h4 : 4 ≤ p) (hp : p ≤ 16) (pi : Int) (l : List S32) (hl : l.length ≤ 65536) : ∀ (d i : Nat) (last : Int) (x5 : List Int), i + d = l.length → -1 ≤ last → x5.length + 11 * d < 140737488355000 → regsOk p last (l.drop i) = true →
    Ev (fun k => tallymanref15_Sparse.l0 k x5 last (i : Int) pi l) (x5 ++ sparseT last (l.drop i), 0) := by
  intro d
  induction d with
  | zero =>
    intro i last x5 hi _ _ _
    rw [List.drop_eq_nil_of_le (by omega)]
    refine Ev.step (f := fun _ => some (x5 ++ sparseT last [], 0)) (fun k => ?_) (Ev.now _)
    simp only [tallymanref15_Sparse.l0]
    rw [if_neg (by omega)]
    simp [sparseT]
  | succ d ih =>
    intro i last x5 hi hlast hx hok
    have hlt : i < l.length := by omega
    rw [drop32 l i hlt] at hok ⊢
    obtain ⟨o1, o2, o3, o4, o5⟩ := regsOk_cons hok
    have hT := pow_p hp
    generalize 2 ^ p = T at hT o2
    generalize hr : rd_T32 l (i : Int) = r at *
    have hn := numB_len 10 (r.f0 - last - 1).toNat (by omega) (by omega)
    have hnum := rnumber_ev (r.f0 - last - 1).toNat x5 (by omega) (by omega)
    have e1 : IntKind.u64.wrap (wrap64 (wrap64 (r.f0 - last) - 1)) = ((r.f0 - last - 1).toNat : Int) := by
      rw [w64 (x := r.f0 - last) (by omega) (by omega), w64 (by omega) (by omega), wu64 (by omega) (by omega)]
      omega
    have e2 : r.f1 % 256 = r.f1 := by omega
    have hrec := ih (i + 1) r.f0 (x5 ++ numB (r.f0 - last - 1).toNat ++ [r.f1]) (by omega) (by omega) (by simp only [List.length_append, List.length_cons, List.length_nil]; omega) o5
    have er : x5 ++ numB (r.f0 - last - 1).toNat ++ [r.f1] ++ sparseT r.f0 (l.drop (i + 1)) = x5 ++ sparseT last (r :: l.drop (i + 1)) := by simp [sparseT]
    rw [er] at hrec
    refine Ev.step (f := fun k => (tallymanref01_Number.f k x5 ((r.f0 - last - 1).toNat : Int)).bind fun t => if t.length < 140737488355328 then tallymanref15_Sparse.l0 k (t ++ [r.f1]) r.f0 ((i + 1 : Nat) : Int) pi l else none) (fun k => ?_) ?_
    · simp only [tallymanref15_Sparse.l0]
      rw [if_pos (by omega), if_pos (by omega), hr, e1, e2, w64 (x := (i : Int) + 1) (by omega) (by omega)]
      rfl
    · refine Ev.bind hnum ?_
      refine Ev.congr (f := fun k => tallymanref15_Sparse.l0 k (x5 ++ numB (r.f0 - last - 1).toNat ++ [r.f1]) r.f0 ((i + 1 : Nat) : Int) pi l) (fun k => ?_) hrec
      rw [if_pos (by simp only [List.length_append]; omega)]
theorem rsparse_ev (p : Nat) (h4 : 4 ≤ p) (hp : p ≤ 16) (l : List S32) (hl : l.length ≤ 65536) (hok : regsOk p (-1) l = true) : Ev (fun k => tallymanref15_Sparse.f k (p : Int) l) (sparseB p l, 0) := by
  have hn := numB_len 10 l.length (by omega) (by omega)
  have h := rsparse_loop p h4 hp (p : Int) l hl l.length 0 (-1) ([(p : Int), 0] ++ numB l.length) (by omega) (by omega) (by simp; omega) (by rwa [List.drop_zero])
  rw [List.drop_zero] at h
  have hnum := rnumber_ev l.length [(p : Int), 0] (by omega) (by simp)
  have e1 : IntKind.u64.wrap (l.length : Int) = (l.length : Int) := wu64 (by omega) (by omega)
  have e2 : (p : Int) % 256 = p := by omega
  simp only [tallymanref15_Sparse.f]
  refine Ev.bind (check_good h4 hp hl hok) ?_
  refine Ev.congr (f := fun k => (tallymanref01_Number.f k [(p : Int), 0] (l.length : Int)).bind fun t => tallymanref15_Sparse.l0 k t (-1) 0 (p : Int) l) (fun k => ?_) ?_
  · rw [if_pos rfl, e1, e2]
  · exact Ev.bind hnum h
end Go.Proofs.Ytbclnjinpcfpjaa.H
