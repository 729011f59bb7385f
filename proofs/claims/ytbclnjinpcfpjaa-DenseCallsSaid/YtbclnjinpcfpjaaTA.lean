/- What the reference's Dense, Bytes, Read answer; the law. -/
import Derived.Test.YtbclnjinpcfpjaaT8
import Derived.Test.YtbclnjinpcfpjaaSY
import Derived.Test.YtbclnjinpcfpjaaHD
import Derived.Test.YtbclnjinpcfpjaaHG
namespace Go.Proofs.Ytbclnjinpcfpjaa.H
open Go.RowKit Go.Proofs.YtbclnjinpcfpjaaW.PrintWords Go.Proofs.YtbclnjinpcfpjaaW.PrintLast
set_option linter.unusedVariables false
set_option linter.unusedSimpArgs false
set_option linter.unusedSectionVars false
/-! ### The reference's Dense, Bytes -/
theorem rdense_loop (p : Nat) (h4 : 4 ≤ p) (hp : p ≤ 16) (l : List S32) (hl : l.length ≤ 65536) : ∀ (d i : Nat) (last : Int) (x : List Nat), i + d = l.length → -1 ≤ last → x.length = 2 ^ p → (∀ y ∈ x, y < 64) → regsOk p last (l.drop i) = true →
    Ev (fun k => tallymanref15_Dense.l0 k (asInt x) (i : Int) (p : Int) l) ([(p : Int), 1] ++ packB (ranksOf x (l.drop i)), 0) := by
  have hT := pow_p hp
  have hf := pow_four h4
  intro d
  induction d with
  | zero =>
    intro i last x hi hlast hx hy hok
    rw [List.drop_eq_nil_of_le (by omega)]
    have e1 : ranksOf x [] = x := rfl
    have hq : 2 ^ (p - 2) ≤ 65536 := Nat.le_trans (Nat.pow_le_pow_right (by omega) (show p - 2 ≤ 16 by omega)) (by decide)
    have hpk := rpack_ev (2 ^ (p - 2)) x (by omega) (by omega) hy
    have hpl := packB_len (2 ^ (p - 2)) x (by omega)
    have e2 : (p : Int) % 256 = p := by omega
    refine Ev.step (f := fun k => (tallymanref15_Pack.f k (asInt x)).bind fun bt => if 2 + bt.1.length < 140737488355328 then some ([(p : Int), 1] ++ bt.1, 0) else none) (fun k => ?_) ?_
    · simp only [tallymanref15_Dense.l0, Option.bind_some]
      rw [if_neg (by omega), e2]
      rfl
    · refine Ev.bind hpk ?_
      refine Ev.congr (f := fun _ => some ([(p : Int), 1] ++ packB (ranksOf x []), 0)) (fun k => ?_) (Ev.now _)
      rw [hpl, if_pos (by omega)]
      rfl
  | succ d ih =>
    intro i last x hi hlast hx hy hok
    have hlt : i < l.length := by omega
    rw [drop32 l i hlt] at hok ⊢
    obtain ⟨o1, o2, o3, o4, o5⟩ := regsOk_cons hok
    generalize hr : rd_T32 l (i : Int) = r at *
    have hxs : (x.set r.f0.toNat r.f1.toNat).length = 2 ^ p := by rw [List.length_set]; exact hx
    have hys : ∀ y ∈ x.set r.f0.toNat r.f1.toNat, y < 64 := by
      intro y hy1
      rcases List.mem_or_eq_of_mem_set hy1 with h1 | h1
      · exact hy y h1
      · omega
    have hrec := ih (i + 1) r.f0 _ (by omega) (by omega) hxs hys o5
    refine Ev.step (f := fun k => tallymanref15_Dense.l0 k (asInt (x.set r.f0.toNat r.f1.toNat)) ((i + 1 : Nat) : Int) (p : Int) l) (fun k => ?_) hrec
    have hal : (asInt x).length = x.length := by simp [asInt]
    simp only [tallymanref15_Dense.l0]
    rw [if_pos (by omega), if_pos (by omega), hr, if_pos (by omega), if_pos (by rw [hal, hx]; omega), w64 (x := (i : Int) + 1) (by omega) (by omega), asInt_set, Int.toNat_of_nonneg (by omega : 0 ≤ r.f1)]
    rfl
theorem rdense_ev (p : Nat) (h4 : 4 ≤ p) (hp : p ≤ 16) (l : List S32) (hl : l.length ≤ 65536) (hok : regsOk p (-1) l = true) : Ev (fun k => tallymanref15_Dense.f k (p : Int) l) (denseB p l, 0) := by
  have h := rdense_loop p h4 hp l hl l.length 0 (-1) (List.replicate (2 ^ p) 0) (by omega) (by omega) (by simp) (by intro y hy; have := List.eq_of_mem_replicate hy; omega) (by rwa [List.drop_zero])
  rw [List.drop_zero] at h
  simp only [tallymanref15_Dense.f]
  refine Ev.bind (check_good h4 hp hl hok) ?_
  refine Ev.congr (f := fun k => tallymanref15_Dense.l0 k (asInt (List.replicate (2 ^ p) 0)) 0 (p : Int) l) (fun k => ?_) h
  have hT := pow_p hp
  have e : asInt (List.replicate (2 ^ p) 0) = List.replicate (2 ^ p) (0 : Int) := by unfold asInt; rw [List.map_replicate]; rfl
  rw [wu64 (x := (p : Int)) (by omega) (by omega), shl_p hp, e, Int.toNat_natCast]
  generalize 2 ^ p = T at hT
  rw [if_pos rfl, if_pos (by omega), if_pos (by omega), if_pos (by omega)]
/-- Both tell any registers alike, sparsely, densely, and the shorter of both. -/
theorem tell_both (p : Int) (l : List S32) (hl : l.length ≤ 65536) : ∃ s d b : List Int × Int, (Ev (fun k => dense_Sparse.f k p l) s ∧ Ev (fun k => tallymanref15_Sparse.f k p l) s) ∧ (Ev (fun k => dense_Dense.f k p l) d ∧ Ev (fun k => tallymanref15_Dense.f k p l) d) ∧ (Ev (fun k => dense_Bytes.f k p l) b ∧ Ev (fun k => tallymanref15_Bytes.f k p l) b) ∧
    ((b.2 = 0 ∧ ∃ P : Nat, p = (P : Int) ∧ 4 ≤ P ∧ P ≤ 16 ∧ regsOk P (-1) l = true ∧ b.1 = bytesB P l) ∨ b = ([], 2)) := by
  obtain ⟨v, h1, h2, hc⟩ := chk_both p l hl
  rcases hc with ⟨rfl, P, rfl, h4, hP, hv⟩ | rfl
  · rw [← regs_okR] at hv
    have s := rsparse_ev P h4 hP l hl hv
    have d := rdense_ev P h4 hP l hl hv
    refine ⟨_, _, _, ⟨sparse_ev P h4 hP l hl hv, s⟩, ⟨dense_ev P h4 hP l hl hv, d⟩, ⟨bytes_ev P h4 hP l hl hv, ?_⟩, .inl ⟨rfl, P, rfl, h4, hP, hv, rfl⟩⟩
    simp only [tallymanref15_Bytes.f]
    refine Ev.bind s (Ev.bind d ?_)
    refine Ev.congr (f := fun _ => some (bytesB P l, 0)) (fun k => ?_) (Ev.now _)
    rw [if_pos rfl]
    unfold bytesB
    show (if ((sparseB P l).length : Int) ≥ ((denseB P l).length : Int) then _ else _) = _
    by_cases h : (sparseB P l).length < (denseB P l).length
    · rw [if_pos h, if_neg (by omega)]
    · rw [if_neg h, if_pos (by omega)]
  · have hs : Ev (fun k => dense_Sparse.f k p l) ([], 2) := Ev.congr (fun k => by unfold dense_Sparse.f; rfl) (Ev.bind h1 (Ev.congr (f := fun _ => some ([], 2)) (fun k => by rw [if_neg (by decide)]) (Ev.now _)))
    have hr : Ev (fun k => tallymanref15_Sparse.f k p l) ([], 2) := Ev.congr (fun k => by unfold tallymanref15_Sparse.f; rfl) (Ev.bind h2 (Ev.congr (f := fun _ => some ([], 2)) (fun k => by rw [if_neg (by decide)]) (Ev.now _)))
    have hd : Ev (fun k => dense_Dense.f k p l) ([], 2) := Ev.congr (fun k => by unfold dense_Dense.f; rfl) (Ev.bind h1 (Ev.congr (f := fun _ => some ([], 2)) (fun k => by rw [if_neg (by decide)]) (Ev.now _)))
    have hq : Ev (fun k => tallymanref15_Dense.f k p l) ([], 2) := Ev.congr (fun k => by unfold tallymanref15_Dense.f; rfl) (Ev.bind h2 (Ev.congr (f := fun _ => some ([], 2)) (fun k => by rw [if_neg (by decide)]) (Ev.now _)))
    refine ⟨_, _, ([], 2), ⟨hs, hr⟩, ⟨hd, hq⟩, ⟨?_, ?_⟩, .inr rfl⟩
    · exact Ev.congr (fun k => by unfold dense_Bytes.f; rfl) (Ev.bind hs (Ev.congr (f := fun _ => some ([], 2)) (fun k => by rw [if_neg (by decide)]) (Ev.now _)))
    · simp only [tallymanref15_Bytes.f]
      refine Ev.bind hr ?_
      refine Ev.bind hq ?_
      exact Ev.congr (f := fun _ => some ([], 2)) (fun k => if_neg (show ¬ (2 : Int) = 0 by decide)) (Ev.now _)
/-! ### The reference's Read -/
def rfinF (k : Nat) (p : Int) (l : List S32) (b : List Int) : Option (Int × List S32 × Int) := (tallymanref15_Bytes.f k p l).bind fun bt => (if bt.2 = 0 then (if (strOfNums bt.1).toList = (strOfNums b).toList then (some (p, l, 0)) else (some (0, ([] : List (S32)), 4))) else (some (0, ([] : List (S32)), 4)))
theorem fin_both (p : Int) (l : List S32) (hl : l.length ≤ 65536) (b : List Int) : ∃ r, Ev (fun k => finF k p l b) r ∧ Ev (fun k => rfinF k p l b) r ∧ r.2.1.length ≤ 65536 ∧ (r = (0, [], 4) ∨ ∃ P : Nat, p = (P : Int) ∧ 4 ≤ P ∧ P ≤ 16 ∧ regsOk P (-1) l = true ∧ (strOfNums (bytesB P l)).toList = (strOfNums b).toList) := by
  obtain ⟨_, _, ⟨x, e⟩, _, _, ⟨h1, h2⟩, hc⟩ := tell_both p l hl
  rcases hc with ⟨he, P, hp, h4, hP, hok, hx⟩ | hc
  · dsimp only at he hx
    subst he hx
    by_cases c : (strOfNums (bytesB P l)).toList = (strOfNums b).toList
    · refine ⟨(p, l, 0), ?_, ?_, hl, .inr ⟨P, hp, h4, hP, hok, c⟩⟩
      · exact Ev.congr (fun k => by unfold finF; rfl) (Ev.bind h1 (Ev.congr (fun k => by rw [if_pos rfl, if_pos c]) (Ev.now _)))
      · exact Ev.congr (fun k => by unfold rfinF; rfl) (Ev.bind h2 (Ev.congr (fun k => by rw [if_pos rfl, if_pos c]) (Ev.now _)))
    · refine ⟨(0, [], 4), ?_, ?_, by simp, .inl rfl⟩
      · exact Ev.congr (fun k => by unfold finF; rfl) (Ev.bind h1 (Ev.congr (fun k => by rw [if_pos rfl, if_neg c]) (Ev.now _)))
      · exact Ev.congr (fun k => by unfold rfinF; rfl) (Ev.bind h2 (Ev.congr (fun k => by rw [if_pos rfl, if_neg c]) (Ev.now _)))
  · simp only [Prod.mk.injEq] at hc
    obtain ⟨rfl, rfl⟩ := hc
    refine ⟨(0, [], 4), ?_, ?_, by simp, .inl rfl⟩
    · exact Ev.congr (fun k => by unfold finF; rfl) (Ev.bind h1 (Ev.congr (fun k => by rw [if_neg (show ¬ (2 : Int) = 0 by decide)]) (Ev.now _)))
    · exact Ev.congr (fun k => by unfold rfinF; rfl) (Ev.bind h2 (Ev.congr (fun k => by rw [if_neg (show ¬ (2 : Int) = 0 by decide)]) (Ev.now _)))
theorem rUpto_eq {bs : List Int} {p : Nat} (hp : p ≤ bs.length) (err most : Int) : ∃ q : Nat, q ≤ bs.length ∧ bs.drop q = (rdUpto most (bs.drop p) err).2.1 ∧ tallymanref01_Reader_Upto.f bs p err most = some ((rdUpto most (bs.drop p) err).1, (q : Int), (rdUpto most (bs.drop p) err).2.2) := by
  obtain ⟨m, hm, e⟩ := rdUpto_suf most (bs.drop p) err
  rw [List.length_drop] at hm
  refine ⟨p + m, by omega, by rw [e, List.drop_drop], ?_⟩
  unfold tallymanref01_Reader_Upto.f
  rw [Int.toNat_natCast, e]
  congr 3
  rw [List.length_drop, List.length_drop]
  omega
theorem rbad_end {bs : List Int} {err : Int} (he : ¬ err = 0) (b : List Int) (n last i P : Int) (acc : List S32) (p : Int) : Ev (fun k => tallymanref15_Read.l1 k b n last i P acc bs p err) (0, [], 4) := by
  have hj : Ev (fun k => tallymanref15_Read.j3 k b n last i false P acc bs p err) (0, [], 4) := by
    refine Ev.step (f := fun _ => some (0, [], 4)) (fun k => ?_) (Ev.now _)
    simp only [tallymanref15_Read.j3, tallymanref01_Reader_End.f]
    rw [if_neg (by decide), Option.bind_some]
    have e : rdEnd (bs.drop p.toNat) err = err := by unfold rdEnd; rw [if_neg (fun h => he h.1)]
    rw [e]
    exact if_neg he
  refine Ev.step (fun k => ?_) hj
  simp only [tallymanref15_Read.l1, tallymanref01_Reader_Err.f]
  by_cases c : i < n
  · rw [if_pos c, Option.bind_some]
    dsimp only
    rw [show (err == 0) = false by simpa using he]
  · rw [if_neg c]
theorem rgood_end {bs : List Int} {p : Nat} (b : List Int) (n last i P : Int) (hn : ¬ i < n) (acc : List S32) (res : Int × List S32 × Int)
    (h1 : bs.drop p = [] → Ev (fun k => rfinF k P acc b) res) (h2 : ¬ bs.drop p = [] → res = (0, [], 4)) : Ev (fun k => tallymanref15_Read.l1 k b n last i P acc bs (p : Int) 0) res := by
  have hj : Ev (fun k => tallymanref15_Read.j3 k b n last i false P acc bs (p : Int) 0) res := by
    by_cases c : bs.drop p = []
    · refine Ev.step (fun k => ?_) (h1 c)
      simp only [tallymanref15_Read.j3, tallymanref01_Reader_End.f]
      rw [if_neg (by decide), Option.bind_some, Int.toNat_natCast]
      have e : rdEnd (bs.drop p) 0 = 0 := by unfold rdEnd; rw [if_neg (fun h => h.2 c)]
      rw [e]
      exact if_pos rfl
    · rw [h2 c]
      refine Ev.step (f := fun _ => some (0, [], 4)) (fun k => ?_) (Ev.now _)
      simp only [tallymanref15_Read.j3, tallymanref01_Reader_End.f]
      rw [if_neg (by decide), Option.bind_some, Int.toNat_natCast]
      have e : rdEnd (bs.drop p) 0 = 4 := by unfold rdEnd; rw [if_pos ⟨rfl, c⟩]
      rw [e]
      exact if_neg (show ¬ (4 : Int) = 0 by decide)
  refine Ev.step (fun k => ?_) hj
  simp only [tallymanref15_Read.l1]
  rw [if_neg hn]
theorem rsparse_loop_rd {bs : List Int} (P : Nat) (hP : P ≤ 16) (b : List Int) (N : Nat) (hN : N ≤ 65536) (res : Int × List S32 × Int) : ∀ (d i : Nat) (last : Int) (acc : List S32) (p : Nat), i + d = N → p ≤ bs.length → acc.length = i →
    (∀ acc', rdS ((2 ^ P : Nat) : Int) d last (bs.drop p) acc = some (acc', []) → Ev (fun k => rfinF k (P : Int) acc' b) res) → ((∀ acc', rdS ((2 ^ P : Nat) : Int) d last (bs.drop p) acc ≠ some (acc', [])) → res = (0, [], 4)) →
    Ev (fun k => tallymanref15_Read.l1 k b (N : Int) last (i : Int) (P : Int) acc bs (p : Int) 0) res := by
  intro d
  induction d with
  | zero =>
    intro i last acc p h hp ha h1 h2
    refine rgood_end b (N : Int) last (i : Int) (P : Int) (by omega) acc res (fun hd => h1 acc (by unfold rdS; rw [hd])) (fun hn => h2 (fun acc' he => hn ?_))
    unfold rdS at he
    injection he with he
    injection he
  | succ d ih =>
    intro i last acc p h hp ha h1 h2
    obtain ⟨q, hq, hd, he⟩ := rUpto_eq (bs := bs) hp 0 ((2 ^ P : Nat) : Int)
    have hin : ∀ r, Ev (fun k => tallymanref15_Read.j3 k b (N : Int) last (i : Int) true (P : Int) acc bs (p : Int) 0) r → Ev (fun k => tallymanref15_Read.l1 k b (N : Int) last (i : Int) (P : Int) acc bs (p : Int) 0) r := fun r hr => by
      refine Ev.step (fun k => ?_) hr
      simp only [tallymanref15_Read.l1, tallymanref01_Reader_Err.f]
      rw [if_pos (by omega), Option.bind_some]
      rfl
    have hstep : ∀ k, tallymanref15_Read.j3 (k + 1) b (N : Int) last (i : Int) true (P : Int) acc bs (p : Int) 0 = (tallymanref01_Reader_Fixed.f bs (q : Int) (rdUpto ((2 ^ P : Nat) : Int) (bs.drop p) 0).2.2 1).bind fun bt566 => (if (bt566.1.length : Int) = 1 then (if 0 < (bt566.1.length : Int) then (if acc.length < 8796093022208 then (tallymanref15_Read.l1 k b (N : Int) (wrap64 ((wrap64 (last + 1)) + (wrap64 (rdUpto ((2 ^ P : Nat) : Int) (bs.drop p) 0).1))) ((i + 1 : Nat) : Int) (P : Int) (acc ++ [(⟨wrap64 ((wrap64 (last + 1)) + (wrap64 (rdUpto ((2 ^ P : Nat) : Int) (bs.drop p) 0).1)), wrap64 (rd bt566.1 0)⟩ : S32)]) bs bt566.2.1 bt566.2.2) else (none)) else (none)) else (tallymanref15_Read.l1 k b (N : Int) (wrap64 ((wrap64 (last + 1)) + (wrap64 (rdUpto ((2 ^ P : Nat) : Int) (bs.drop p) 0).1))) ((i + 1 : Nat) : Int) (P : Int) acc bs bt566.2.1 bt566.2.2)) := fun k => by
      simp only [tallymanref15_Read.j3]
      rw [if_pos trivial, wu64 (x := (P : Int)) (by omega) (by omega), if_pos (by omega), shl_most hP, he, Option.bind_some, w64 (x := (i : Int) + 1) (by omega) (by omega)]
      rfl
    by_cases c : (rdUpto ((2 ^ P : Nat) : Int) (bs.drop p) 0).2.2 = 0
    · cases e : (rdUpto ((2 ^ P : Nat) : Int) (bs.drop p) 0).2.1 with
      | nil =>
        rw [h2 (fun acc' hh => by unfold rdS at hh; rw [if_pos c, e] at hh; cases hh)]
        refine hin _ (Ev.step (fun k => ?_) (rbad_end (bs := bs) (err := 5) (by decide) b (N : Int) (wrap64 ((wrap64 (last + 1)) + (wrap64 (rdUpto ((2 ^ P : Nat) : Int) (bs.drop p) 0).1))) ((i + 1 : Nat) : Int) (P : Int) acc ((bs.length : Int) - ((bs.drop q).length : Int))))
        rw [hstep, c]
        unfold tallymanref01_Reader_Fixed.f
        have ef : rdFixed 1 (bs.drop q) 0 = ([], bs.drop q, 5) := by unfold rdFixed; rw [if_pos rfl, hd, e, if_pos (by decide)]
        rw [Int.toNat_natCast, ef, Option.bind_some]
        exact if_neg (show ¬ (0 : Int) = 1 by decide)
      | cons x r =>
        have hq1 : q < bs.length := by
          rcases Nat.lt_or_ge q bs.length with h | h
          · exact h
          · rw [List.drop_of_length_le h, e] at hd; cases hd
        have hdr : bs.drop (q + 1) = r := by
          have h1 := List.drop_eq_getElem_cons hq1
          rw [hd, e] at h1
          injection h1 with h1 h2
          exact h2.symm
        have hS : rdS ((2 ^ P : Nat) : Int) (d + 1) last (bs.drop p) acc = rdS ((2 ^ P : Nat) : Int) d (wrap64 ((wrap64 (last + 1)) + (wrap64 (rdUpto ((2 ^ P : Nat) : Int) (bs.drop p) 0).1))) (bs.drop (q + 1)) (acc ++ [⟨wrap64 ((wrap64 (last + 1)) + (wrap64 (rdUpto ((2 ^ P : Nat) : Int) (bs.drop p) 0).1)), wrap64 x⟩]) := by
          rw [rdS, if_pos c, e, hdr]
        have hrec := ih (i + 1) (wrap64 ((wrap64 (last + 1)) + (wrap64 (rdUpto ((2 ^ P : Nat) : Int) (bs.drop p) 0).1))) (acc ++ [⟨wrap64 ((wrap64 (last + 1)) + (wrap64 (rdUpto ((2 ^ P : Nat) : Int) (bs.drop p) 0).1)), wrap64 x⟩]) (q + 1) (by omega) hq1 (by simp; omega) (fun acc' hh => h1 acc' (by rw [hS]; exact hh)) (fun hh => h2 (fun acc' => by rw [hS]; exact hh acc'))
        refine hin _ (Ev.step (fun k => ?_) hrec)
        rw [hstep, c]
        unfold tallymanref01_Reader_Fixed.f
        have ef : rdFixed 1 (bs.drop q) 0 = ([x], r, 0) := by unfold rdFixed; rw [if_pos rfl, hd, e, if_neg (by simp only [List.length_cons]; omega)]; rfl
        have hlr : (bs.length : Int) - (r.length : Int) = ((q + 1 : Nat) : Int) := by rw [← hdr, List.length_drop]; omega
        rw [Int.toNat_natCast, ef, Option.bind_some]
        dsimp only
        rw [hlr]
        refine (if_pos rfl).trans ((if_pos (show (0 : Int) < 1 by decide)).trans ((if_pos (by omega)).trans ?_))
        rfl
    · rw [h2 (fun acc' hh => by unfold rdS at hh; rw [if_neg c] at hh; cases hh)]
      refine hin _ (Ev.step (fun k => ?_) (rbad_end (bs := bs) c b (N : Int) (wrap64 ((wrap64 (last + 1)) + (wrap64 (rdUpto ((2 ^ P : Nat) : Int) (bs.drop p) 0).1))) ((i + 1 : Nat) : Int) (P : Int) acc ((bs.length : Int) - ((bs.drop q).length : Int))))
      rw [hstep]
      unfold tallymanref01_Reader_Fixed.f
      have ef : rdFixed 1 (bs.drop q) (rdUpto ((2 ^ P : Nat) : Int) (bs.drop p) 0).2.2 = ([], bs.drop q, (rdUpto ((2 ^ P : Nat) : Int) (bs.drop p) 0).2.2) := by unfold rdFixed; rw [if_neg c]
      rw [Int.toNat_natCast, ef, Option.bind_some]
      exact if_neg (show ¬ (0 : Int) = 1 by decide)
theorem rsparse_read {P : Nat} (h4 : 4 ≤ P) (hP : P ≤ 16) {c : List Int} (hc : c.all isByte = true) (hl : c.length ≤ 100000) (res : Int × List S32 × Int)
    (h1 : ∀ acc', (rdUpto ((2 ^ P : Nat) : Int) c 0).2.2 = 0 → rdS ((2 ^ P : Nat) : Int) (rdUpto ((2 ^ P : Nat) : Int) c 0).1.toNat (-1) (rdUpto ((2 ^ P : Nat) : Int) c 0).2.1 [] = some (acc', []) → Ev (fun k => rfinF k (P : Int) acc' ((P : Int) :: 0 :: c)) res)
    (h2 : (∀ acc', ¬ ((rdUpto ((2 ^ P : Nat) : Int) c 0).2.2 = 0 ∧ rdS ((2 ^ P : Nat) : Int) (rdUpto ((2 ^ P : Nat) : Int) c 0).1.toNat (-1) (rdUpto ((2 ^ P : Nat) : Int) c 0).2.1 [] = some (acc', []))) → res = (0, [], 4)) :
    Ev (fun k => tallymanref15_Read.j0 k ((P : Int) :: 0 :: c) false) res := by
  have hp2 := pow_small hP
  obtain ⟨q, hq, hd, he⟩ := rUpto_eq (bs := c) (p := 0) (by omega) 0 ((2 ^ P : Nat) : Int)
  rw [List.drop_zero] at hd he
  have hlen : ((((P : Int) :: 0 :: c : List Int).length : Nat) : Int) = (c.length : Int) + 2 := by simp only [List.length_cons]; omega
  have r0 : rd ((P : Int) :: 0 :: c) 0 = (P : Int) := rfl
  have r1 : rd ((P : Int) :: 0 :: c) 1 = 0 := rfl
  have hn : tallymanref01_New.f c = some (c, ((0 : Nat) : Int), 0) := by unfold tallymanref01_New.f; rw [if_pos ⟨by omega, hc⟩]; rfl
  have step : ∀ k, tallymanref15_Read.j0 (k + 1) ((P : Int) :: 0 :: c) false = tallymanref15_Read.l1 k ((P : Int) :: 0 :: c) (wrap64 (rdUpto ((2 ^ P : Nat) : Int) c 0).1) (-1) 0 (P : Int) [] c (q : Int) (rdUpto ((2 ^ P : Nat) : Int) c 0).2.2 := fun k => by
    simp only [tallymanref15_Read.j0]
    rw [if_neg (by decide), r0, r1, hlen, if_pos (by omega), if_pos (by omega), if_neg (by decide), if_pos (by omega), show ((P : Int) :: 0 :: c).drop 2 = c from rfl, hn, Option.bind_some, w64 (x := (P : Int)) (by omega) (by omega), wu64 (x := (P : Int)) (by omega) (by omega), if_pos (by omega), shl_most hP]
    dsimp only
    rw [he, Option.bind_some]
  by_cases c0 : (rdUpto ((2 ^ P : Nat) : Int) c 0).2.2 = 0
  · obtain ⟨N, e1, e2, e3⟩ := rdUpto_inv _ c hc c0
    have hN : N ≤ 2 ^ P := Int.ofNat_le.1 e2
    refine Ev.step (fun k => ?_) (rsparse_loop_rd P hP ((P : Int) :: 0 :: c) N (by omega) res N 0 (-1) [] q (by omega) hq rfl (fun acc' hh => h1 acc' c0 ?_) (fun hh => h2 (fun acc' hx => hh acc' ?_)))
    · rw [step, c0, e1, w64 (by omega) (by omega)]; rfl
    · rw [e1, Int.toNat_natCast, ← hd]; exact hh
    · have := hx.2
      rw [e1, Int.toNat_natCast, ← hd] at this
      exact this
  · rw [h2 (fun acc' hx => c0 hx.1)]
    exact Ev.step (fun k => step k) (rbad_end c0 ((P : Int) :: 0 :: c) (wrap64 (rdUpto ((2 ^ P : Nat) : Int) c 0).1) (-1) 0 (P : Int) [] (q : Int))
theorem three_pow {P : Nat} (h4 : 4 ≤ P) (hP : P ≤ 16) : wrap64 (2 + (wrap64 (Int.tdiv (shl .i64 3 (P : Int)) 4))) = ((2 + 3 * 2 ^ (P - 2) : Nat) : Int) := by
  have hp : 2 ^ (P - 2) ≤ 2 ^ 14 := Nat.pow_le_pow_right (by omega) (by omega)
  have e := pow_four h4
  have hs : shl .i64 3 (P : Int) = ((12 * 2 ^ (P - 2) : Nat) : Int) := by
    unfold shl
    rw [show min ((P : Int)).toNat (IntKind.i64).bits = P by show min P 64 = P; omega, show ((2 : Int) ^ P) = ((2 ^ P : Nat) : Int) by simp, e]
    generalize 2 ^ (P - 2) = X at *
    rw [IntKind.wrap_i64]
    omega
  rw [hs]
  generalize 2 ^ (P - 2) = X at *
  rw [Int.tdiv_eq_ediv_of_nonneg (by omega), w64 (x := ((12 * X : Nat) : Int) / 4) (by omega) (by omega), w64 (by omega) (by omega)]
  omega
theorem rread_loop (t : List Int) (ht : t.length ≤ 1000000) (b : List Int) (P : Int) (res : Int × List S32 × Int) : ∀ (d i : Nat) (acc : List S32), i + d = t.length → acc.length ≤ i → Ev (fun k => rfinF k P (acc ++ regsAt i (t.drop i)) b) res → Ev (fun k => tallymanref15_Read.l0 k b t (i : Int) P acc) res := by
  intro d
  induction d with
  | zero =>
    intro i acc h ha he
    rw [List.drop_of_length_le (by omega)] at he
    simp only [regsAt, List.append_nil] at he
    refine Ev.step (fun k => ?_) he
    simp only [tallymanref15_Read.l0]
    rw [if_neg (by omega)]
    rfl
  | succ d ih =>
    intro i acc h ha he
    have hi : i < t.length := by omega
    rw [List.drop_eq_getElem_cons hi, regsAt] at he
    have hr : rd t (i : Int) = t[i] := by simp [rd, hi]
    have hw : wrap64 ((i : Int) + 1) = ((i + 1 : Nat) : Int) := by rw [w64 (by omega) (by omega)]; rfl
    by_cases c : t[i] > 0
    · rw [if_pos c] at he
      refine Ev.step (fun k => ?_) (ih (i + 1) (acc ++ [⟨(i : Int), t[i]⟩]) (by omega) (by simp; omega) (by rw [List.append_assoc]; exact he))
      simp only [tallymanref15_Read.l0]
      rw [if_pos (by omega), if_pos (by omega), hr, if_pos c, if_pos (by omega), hw]
    · rw [if_neg c] at he
      refine Ev.step (fun k => ?_) (ih (i + 1) acc (by omega) (by omega) he)
      simp only [tallymanref15_Read.l0]
      rw [if_pos (by omega), if_pos (by omega), hr, if_neg c, hw]
theorem rdense_read {P : Nat} (h4 : 4 ≤ P) (hP : P ≤ 16) {cn : List Nat} (hx : ∀ x ∈ cn, x < 256) (hl : cn.length ≤ 100000) (res : Int × List S32 × Int)
    (h1 : cn.length = 3 * 2 ^ (P - 2) → Ev (fun k => rfinF k (P : Int) (regsAt 0 (unpackN cn)) ((P : Int) :: 1 :: asInt cn)) res)
    (h2 : ¬ cn.length = 3 * 2 ^ (P - 2) → res = (0, [], 4)) :
    Ev (fun k => tallymanref15_Read.j0 k ((P : Int) :: 1 :: asInt cn) false) res := by
  have hlen : ((((P : Int) :: 1 :: asInt cn : List Int).length : Nat) : Int) = (cn.length : Int) + 2 := by simp only [List.length_cons, asInt, List.length_map]; omega
  have r0 : rd ((P : Int) :: 1 :: asInt cn) 0 = (P : Int) := rfl
  have r1 : rd ((P : Int) :: 1 :: asInt cn) 1 = 1 := rfl
  have step : ∀ k, tallymanref15_Read.j0 (k + 1) ((P : Int) :: 1 :: asInt cn) false = if cn.length = 3 * 2 ^ (P - 2) then ((tallymanref15_Unpack.f k (asInt cn)).bind fun t292 => (tallymanref15_Read.l0 k ((P : Int) :: 1 :: asInt cn) t292 0 (P : Int) ([] : List (S32)))) else some (0, [], 4) := fun k => by
    simp only [tallymanref15_Read.j0]
    rw [if_neg (by decide), r0, r1, hlen, if_pos (by omega), if_pos (by omega), if_pos (show (1 : Int) = 1 from rfl), w64 (x := (P : Int)) (by omega) (by omega), wu64 (x := (P : Int)) (by omega) (by omega), if_pos (by omega), three_pow h4 hP]
    generalize 3 * 2 ^ (P - 2) = X at *
    by_cases c : cn.length = X
    · rw [if_pos (by omega), if_pos (by omega), if_pos c]
      rfl
    · rw [if_neg (by omega), if_neg c]
  by_cases c : cn.length = 3 * 2 ^ (P - 2)
  · have hu := runpack_ev cn (by omega) hx
    have hlu := unpackN_len cn.length cn (Nat.le_refl _)
    have hloop := rread_loop (unpackN cn) (by omega) ((P : Int) :: 1 :: asInt cn) (P : Int) res (unpackN cn).length 0 [] (by omega) (by simp) (by rw [List.nil_append, List.drop_zero]; exact h1 c)
    refine Ev.step (fun k => ?_) (Ev.bind (f := fun k t292 => tallymanref15_Read.l0 k ((P : Int) :: 1 :: asInt cn) t292 0 (P : Int) ([] : List (S32))) hu hloop)
    rw [step, if_pos c]
  · rw [h2 c]
    refine Ev.step (f := fun _ => some (0, [], 4)) (fun k => ?_) (Ev.now _)
    rw [step, if_neg c]
theorem rread_out (b : List Int) : Ev (fun k => tallymanref15_Read.j0 k b true) (0, [], 4) := by
  refine Ev.step (f := fun _ => some (0, [], 4)) (fun k => ?_) (Ev.now _)
  simp only [tallymanref15_Read.j0]
  rw [if_pos trivial]
theorem rread_in {P : Nat} (h4 : 4 ≤ P) (hP : P ≤ 16) (y : Int) (c : List Int) (res : Int × List S32 × Int) (h : Ev (fun k => tallymanref15_Read.j0 k ((P : Int) :: y :: c) (decide (y > 1))) res) : Ev (fun k => tallymanref15_Read.f k ((P : Int) :: y :: c)) res := by
  have hlen : ((((P : Int) :: y :: c : List Int).length : Nat) : Int) = (c.length : Int) + 2 := by simp only [List.length_cons]; omega
  have r0 : rd ((P : Int) :: y :: c) 0 = (P : Int) := rfl
  have r1 : rd ((P : Int) :: y :: c) 1 = y := rfl
  refine Ev.congr (fun k => ?_) h
  unfold tallymanref15_Read.f
  rw [hlen, r0, r1, if_neg (by omega), if_pos (by omega), if_neg (by omega), if_neg (by omega), if_pos (by omega)]
/-- Both Reads answer alike. -/
theorem read_both (b : List Int) (hb : b.all isByte = true) (hl : b.length ≤ 20000) : ∃ r : Int × List S32 × Int, Ev (fun k => dense_Read.f k b) r ∧ Ev (fun k => tallymanref15_Read.f k b) r ∧ r.2.1.length ≤ 65536 := by
  match b, hb, hl with
  | [], _, _ => exact ⟨_, Ev.congr (fun k => by unfold dense_Read.f; rfl) (read_out []), Ev.congr (fun k => by unfold tallymanref15_Read.f; rfl) (rread_out []), by simp⟩
  | [x], _, _ => exact ⟨_, Ev.congr (fun k => by unfold dense_Read.f; rfl) (read_out [x]), Ev.congr (fun k => by unfold tallymanref15_Read.f; rfl) (rread_out [x]), by simp⟩
  | x :: y :: c, hb, hl =>
    have hx := byte_of hb x (by simp)
    have hy := byte_of hb y (by simp)
    have hc : c.all isByte = true := by
      rw [List.all_cons, List.all_cons, Bool.and_eq_true, Bool.and_eq_true] at hb
      exact hb.2.2
    have hlc : c.length ≤ 20000 := by simp only [List.length_cons] at hl; omega
    by_cases hr : 4 ≤ x ∧ x ≤ 16
    · obtain ⟨P, rfl⟩ : ∃ P : Nat, x = (P : Int) := ⟨x.toNat, by omega⟩
      have h4 : 4 ≤ P := by omega
      have hP : P ≤ 16 := by omega
      by_cases y0 : y = 0
      · subst y0
        have hp2 := pow_small hP
        by_cases ok : ∃ acc', (rdUpto ((2 ^ P : Nat) : Int) c 0).2.2 = 0 ∧ rdS ((2 ^ P : Nat) : Int) (rdUpto ((2 ^ P : Nat) : Int) c 0).1.toNat (-1) (rdUpto ((2 ^ P : Nat) : Int) c 0).2.1 [] = some (acc', [])
        · obtain ⟨acc, o1, o2⟩ := ok
          obtain ⟨N, e1, e2, e3⟩ := rdUpto_inv _ c hc o1
          have hN : N ≤ 2 ^ P := Int.ofNat_le.1 e2
          have ha := rdS_len _ _ _ _ _ _ _ o2
          rw [e1, Int.toNat_natCast, List.length_nil] at ha
          obtain ⟨r, f1, f2, f3, _⟩ := fin_both (P : Int) acc (by omega) ((P : Int) :: 0 :: c)
          refine ⟨r, read_in h4 hP 0 c r (sparse_read h4 hP hc (by omega) r (fun acc' _ hh => ?_) (fun hh => absurd ⟨o1, o2⟩ (hh acc))), rread_in h4 hP 0 c r (rsparse_read h4 hP hc (by omega) r (fun acc' _ hh => ?_) (fun hh => absurd ⟨o1, o2⟩ (hh acc))), f3⟩
          · rw [o2] at hh
            simp only [Option.some.injEq, Prod.mk.injEq, and_true] at hh
            rw [← hh]
            exact f1
          · rw [o2] at hh
            simp only [Option.some.injEq, Prod.mk.injEq, and_true] at hh
            rw [← hh]
            exact f2
        · exact ⟨(0, [], 4), read_in h4 hP 0 c _ (sparse_read h4 hP hc (by omega) _ (fun acc' h hh => absurd ⟨acc', h, hh⟩ ok) (fun _ => rfl)), rread_in h4 hP 0 c _ (rsparse_read h4 hP hc (by omega) _ (fun acc' h hh => absurd ⟨acc', h, hh⟩ ok) (fun _ => rfl)), by simp⟩
      · by_cases y1 : y = 1
        · subst y1
          obtain ⟨cn, rfl, hcn⟩ := bytes_nat hc
          have hlen : cn.length ≤ 20000 := by simpa [asInt] using hlc
          by_cases ok : cn.length = 3 * 2 ^ (P - 2)
          · have hlu := unpackN_len cn.length cn (Nat.le_refl _)
            have hla := regsAt_len (unpackN cn) 0
            obtain ⟨r, f1, f2, f3, _⟩ := fin_both (P : Int) (regsAt 0 (unpackN cn)) (by omega) ((P : Int) :: 1 :: asInt cn)
            exact ⟨r, read_in h4 hP 1 _ r (dense_read h4 hP hcn (by omega) r (fun _ => f1) (fun hh => absurd ok hh)), rread_in h4 hP 1 _ r (rdense_read h4 hP hcn (by omega) r (fun _ => f2) (fun hh => absurd ok hh)), f3⟩
          · exact ⟨(0, [], 4), read_in h4 hP 1 _ _ (dense_read h4 hP hcn (by omega) _ (fun hh => absurd hh ok) (fun _ => rfl)), rread_in h4 hP 1 _ _ (rdense_read h4 hP hcn (by omega) _ (fun hh => absurd hh ok) (fun _ => rfl)), by simp⟩
        · obtain ⟨r, f1, _, f3, f4⟩ := fin_both (P : Int) [] (by simp) ((P : Int) :: y :: c)
          have hr : r = (0, [], 4) := by
            rcases f4 with h | ⟨Q, hQ, g4, gQ, gok, gs⟩
            · exact h
            · have e := str_eq (bytesB_all g4 gQ gok) hb gs
              unfold bytesB sparseB denseB at e
              split at e <;> (simp only [List.cons_append, List.nil_append, List.append_assoc, List.cons.injEq] at e; omega)
          rw [hr] at f1
          refine ⟨(0, [], 4), read_in h4 hP y c _ (other_read h4 hP y0 y1 c _ f1), rread_in h4 hP y c _ ?_, by simp⟩
          rw [decide_eq_true (show y > 1 by omega)]
          exact rread_out _
    · have hlen : (((x :: y :: c : List Int).length : Nat) : Int) = (c.length : Int) + 2 := by simp only [List.length_cons]; omega
      have r0 : rd (x :: y :: c) 0 = x := rfl
      refine ⟨(0, [], 4), Ev.congr (fun k => ?_) (read_out (x :: y :: c)), Ev.congr (fun k => ?_) (rread_out (x :: y :: c)), by simp⟩
      · unfold dense_Read.f
        rw [hlen, r0, if_neg (by omega), if_pos (by omega)]
        by_cases hx4 : x < 4
        · rw [if_pos hx4]
        · rw [if_neg hx4, decide_eq_true (by omega)]
      · unfold tallymanref15_Read.f
        rw [hlen, r0, if_neg (by omega), if_pos (by omega)]
        by_cases hx4 : x < 4
        · rw [if_pos hx4]
        · rw [if_neg hx4, if_pos (by omega)]
set_option linter.unusedVariables false
set_option linter.unusedSimpArgs false
/-! ### The law -/
theorem calls_j2 (b : List Int) (hb : b.all isByte = true) (hbl : b.length ≤ 2000) (n : List Int) (hn : n.length ≤ 2000) (x : Int) (x0 : 0 ≤ x) (x1 : x ≤ 18446744073709551615) (p : Int) (l : List S32) (hl : l.length ≤ 300) : Ev (fun k => tallymanlaw15_DenseCalls.j2 k b n x false p l) true := by
  obtain ⟨r, p1, p2⟩ := pack_both n (by omega)
  obtain ⟨bn, rfl, hbn⟩ := bytes_nat hb
  have hbl2 : bn.length ≤ 2000 := by simpa [asInt] using hbl
  have u1 := unpack_ev bn (by omega) hbn
  have u2 := runpack_ev bn (by omega) hbn
  have u3 := unpackN_len bn.length bn (Nat.le_refl _)
  have u4 := ints_same (unpackN bn) (by omega)
  obtain ⟨v, g1, g2⟩ := log2_both x x0 x1
  obtain ⟨e, e1, e2⟩ := est_both p l (by omega)
  refine Ev.step (f := fun k => (dense_Pack.f k n).bind fun bt650 => ((tallymanref15_Pack.f k n).bind fun bt654 => (if (strOfNums bt650.1).toList = (strOfNums bt654.1).toList then (if bt650.2 = bt654.2 then ((dense_Unpack.f k (asInt bn)).bind fun t658 => ((tallymanref15_Unpack.f k (asInt bn)).bind fun t661 => ((tallymankit_Ints.f k t658 t661).bind fun t664 => (if t664 = true then ((dense_Log2.f k x).bind fun t665 => ((tallymanref15_Log2.f k x).bind fun t666 => (if t665 = t666 then ((dense_Estimate.f k p l).bind fun t667 => ((tallymanref15_Estimate.f k p l).bind fun t668 => (some (t667 == t668)))) else (none)))) else (none))))) else (none)) else (none)))) (fun k => ?_) ?_
  · simp only [tallymanlaw15_DenseCalls.j2]
    rw [if_neg (by decide), Option.bind_some, List.nil_append, if_pos (by simp; omega)]
  · refine Ev.bind p1 ?_
    refine Ev.bind p2 ?_
    refine Ev.congr (f := fun k => ((dense_Unpack.f k (asInt bn)).bind fun t658 => ((tallymanref15_Unpack.f k (asInt bn)).bind fun t661 => ((tallymankit_Ints.f k t658 t661).bind fun t664 => (if t664 = true then ((dense_Log2.f k x).bind fun t665 => ((tallymanref15_Log2.f k x).bind fun t666 => (if t665 = t666 then ((dense_Estimate.f k p l).bind fun t667 => ((tallymanref15_Estimate.f k p l).bind fun t668 => (some (t667 == t668)))) else (none)))) else (none)))))) (fun k => (if_pos rfl).trans (if_pos rfl)) ?_
    refine Ev.bind u1 ?_
    refine Ev.bind u2 ?_
    refine Ev.bind u4 ?_
    refine Ev.congr (f := fun k => ((dense_Log2.f k x).bind fun t665 => ((tallymanref15_Log2.f k x).bind fun t666 => (if t665 = t666 then ((dense_Estimate.f k p l).bind fun t667 => ((tallymanref15_Estimate.f k p l).bind fun t668 => (some (t667 == t668)))) else (none))))) (fun k => if_pos rfl) ?_
    refine Ev.bind g1 ?_
    refine Ev.bind g2 ?_
    refine Ev.congr (f := fun k => ((dense_Estimate.f k p l).bind fun t667 => ((tallymanref15_Estimate.f k p l).bind fun t668 => (some (t667 == t668))))) (fun k => if_pos rfl) ?_
    refine Ev.bind e1 ?_
    refine Ev.bind e2 ?_
    exact Ev.congr (f := fun _ => some true) (fun k => by rw [beq_self_eq_true]) (Ev.now _)
theorem calls_j1 (b : List Int) (hb : b.all isByte = true) (hbl : b.length ≤ 2000) (n : List Int) (hn : n.length ≤ 2000) (x : Int) (x0 : 0 ≤ x) (x1 : x ≤ 18446744073709551615) (p : Int) (l : List S32) (hl : l.length ≤ 300) : Ev (fun k => tallymanlaw15_DenseCalls.j1 k b n x false p l) true := by
  obtain ⟨_, _, r, _, _, ⟨b1, b2⟩, _⟩ := tell_both p l (by omega)
  obtain ⟨h, r1, r2, r3⟩ := read_both b hb (by omega)
  have hk := khll_same h.1 h.2.1 (by omega)
  have hj := calls_j2 b hb hbl n hn x x0 x1 p l hl
  have ho := own_eq b (by omega)
  refine Ev.step (f := fun k => (dense_Bytes.f k p l).bind fun bt620 => ((tallymanref15_Bytes.f k p l).bind fun bt624 => ((dense_Read.f k b).bind fun bt631 => ((tallymanref15_Read.f k b).bind fun bt637 => (if (strOfNums bt620.1).toList = (strOfNums bt624.1).toList then (if bt620.2 = bt624.2 then ((tallymankit_Hll.f k bt631.1 bt631.2.1 bt637.1 bt637.2.1).bind fun t643 => (if t643 = true then (tallymanlaw15_DenseCalls.j2 k b n x (bt631.2.2 != bt637.2.2) p l) else (tallymanlaw15_DenseCalls.j2 k b n x true p l))) else (tallymanlaw15_DenseCalls.j2 k b n x true p l)) else (tallymanlaw15_DenseCalls.j2 k b n x true p l)))))) (fun k => ?_) ?_
  · simp only [tallymanlaw15_DenseCalls.j1]
    rw [if_neg (by decide), ho]
    rfl
  · refine Ev.bind b1 ?_
    refine Ev.bind b2 ?_
    refine Ev.bind r1 ?_
    refine Ev.bind r2 ?_
    refine Ev.congr (f := fun k => (tallymankit_Hll.f k h.1 h.2.1 h.1 h.2.1).bind fun t643 => (if t643 = true then (tallymanlaw15_DenseCalls.j2 k b n x (h.2.2 != h.2.2) p l) else (tallymanlaw15_DenseCalls.j2 k b n x true p l))) (fun k => (if_pos rfl).trans (if_pos rfl)) ?_
    refine Ev.bind hk ?_
    refine Ev.congr (f := fun k => tallymanlaw15_DenseCalls.j2 k b n x false p l) (fun k => (if_pos rfl).trans ?_) hj
    rw [show (h.2.2 != h.2.2) = false by simp]
theorem calls_j0 (b : List Int) (hb : b.all isByte = true) (hbl : b.length ≤ 2000) (n : List Int) (hn : n.length ≤ 2000) (x : Int) (x0 : 0 ≤ x) (x1 : x ≤ 18446744073709551615) (p : Int) (l : List S32) (hl : l.length ≤ 300) : Ev (fun k => tallymanlaw15_DenseCalls.j0 k b n x false p l) true := by
  obtain ⟨s, d, _, ⟨s1, s2⟩, ⟨d1, d2⟩, _, _⟩ := tell_both p l (by omega)
  have hj := calls_j1 b hb hbl n hn x x0 x1 p l hl
  refine Ev.step (f := fun k => (dense_Sparse.f k p l).bind fun bt604 => ((tallymanref15_Sparse.f k p l).bind fun bt608 => ((dense_Dense.f k p l).bind fun bt612 => ((tallymanref15_Dense.f k p l).bind fun bt616 => (if (strOfNums bt604.1).toList = (strOfNums bt608.1).toList then (if bt604.2 = bt608.2 then (if (strOfNums bt612.1).toList = (strOfNums bt616.1).toList then (tallymanlaw15_DenseCalls.j1 k b n x (bt612.2 != bt616.2) p l) else (tallymanlaw15_DenseCalls.j1 k b n x true p l)) else (tallymanlaw15_DenseCalls.j1 k b n x true p l)) else (tallymanlaw15_DenseCalls.j1 k b n x true p l)))))) (fun k => ?_) ?_
  · simp only [tallymanlaw15_DenseCalls.j0]
    rw [if_neg (by decide)]
  · refine Ev.bind s1 ?_
    refine Ev.bind s2 ?_
    refine Ev.bind d1 ?_
    refine Ev.bind d2 ?_
    refine Ev.congr (f := fun k => tallymanlaw15_DenseCalls.j1 k b n x false p l) (fun k => (if_pos rfl).trans ((if_pos rfl).trans ((if_pos rfl).trans ?_))) hj
    rw [show (d.2 != d.2) = false by simp]
theorem calls_out (b n : List Int) (x p : Int) (l : List S32) : Ev (fun k => tallymanlaw15_DenseCalls.j0 k b n x true p l) true := by
  refine Ev.step (f := fun _ => some true) (fun k => ?_) (Ev.now _)
  simp only [tallymanlaw15_DenseCalls.j0]
  rw [if_pos trivial]
theorem calls_law (p : Int) (l : List S32) (b n : List Int) (x : Int) (hb : b.all isByte = true) (x0 : 0 ≤ x) (x1 : x ≤ 18446744073709551615) : ∃ k, tallymanlaw15_DenseCalls.f k p l b n x = some true := by
  have h : Ev (fun k => tallymanlaw15_DenseCalls.f k p l b n x) true := by
    refine Ev.congr (fun k => by unfold tallymanlaw15_DenseCalls.f; rfl) (Ev.bind lives_ev ?_)
    by_cases c1 : (l.length : Int) > 300
    · exact Ev.congr (fun k => by rw [if_pos rfl, if_pos c1]) (calls_out b n x p l)
    · by_cases c2 : (b.length : Int) > 2000
      · exact Ev.congr (fun k => by rw [if_pos rfl, if_neg c1, if_pos c2]) (calls_out b n x p l)
      · by_cases c3 : (n.length : Int) > 2000
        · exact Ev.congr (fun k => by rw [if_pos rfl, if_neg c1, if_neg c2, if_pos c3]) (calls_out b n x p l)
        · by_cases c4 : p > 10
          · exact Ev.congr (fun k => by rw [if_pos rfl, if_neg c1, if_neg c2, if_neg c3, decide_eq_true c4]) (calls_out b n x p l)
          · exact Ev.congr (fun k => by rw [if_pos rfl, if_neg c1, if_neg c2, if_neg c3, decide_eq_false c4]) (calls_j0 b hb (by omega) n (by omega) x x0 x1 p l (by omega))
  obtain ⟨K, hK⟩ := h
  exact ⟨K, hK K (Nat.le_refl _)⟩
end Go.Proofs.Ytbclnjinpcfpjaa.H
