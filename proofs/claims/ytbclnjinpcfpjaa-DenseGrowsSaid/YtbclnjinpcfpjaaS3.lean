/- drd -/
import Derived.Test.YtbclnjinpcfpjaaS2
import Derived.Test.YtbclnjinpcfpjaaH7
namespace Go.Proofs.Ytbclnjinpcfpjaa.H
open Go.RowKit Go.Proofs.YtbclnjinpcfpjaaW.PrintWords Go.Proofs.YtbclnjinpcfpjaaW.PrintLast
set_option linter.unusedVariables false
set_option linter.unusedSimpArgs false
set_option linter.unusedSectionVars false
/-! ### What a reader of bytes answers -/
theorem numR_le : ∀ (l : List Int) (i : Nat) (n : Int), (numR l i n).1 = 0 → (numR l i n).2.2 ≤ i + l.length
  | [], i, n, h => by simp [numR] at h
  | c :: r, i, n, h => by
    unfold numR at h ⊢
    by_cases h1 : (i = 9 ∧ 1 < c) ∨ (0 < i ∧ c = 0)
    · rw [if_pos h1] at h; simp at h
    · rw [if_neg h1] at h ⊢
      by_cases h2 : c < 128
      · rw [if_pos h2]; simp
      · rw [if_neg h2] at h ⊢
        have := numR_le r (i + 1) _ h
        simp only [List.length_cons]
        omega
theorem numR_size (l : List Int) (h : (numR l 0 0).1 = 0) : (numR l 0 0).2.2 ≤ l.length := by
  have := numR_le l 0 0 h
  omega
section
variable {bs : List Int} (hb : bs.all isByte = true) (hl : bs.length < 140737488355328)
include hb hl
theorem Number_eq {p : Nat} (hp : p ≤ bs.length) (err : Int) : ∃ q : Nat, q ≤ bs.length ∧ bs.drop q = (rdNum (bs.drop p) err).2.1 ∧ octet_Reader_Number.f bs p err true = some ((rdNum (bs.drop p) err).1, (q : Int), (rdNum (bs.drop p) err).2.2, true) := by
  have e1 : octet_Reader_ready.f bs p err true = some ((err == 0), (p : Int), err, true) := rfl
  unfold octet_Reader_Number.f
  rw [e1, Option.bind_some]
  by_cases h : err = 0
  · subst h
    have e2 : octet_Reader_number.f bs p 0 true = some (numV (bs.drop p), numZ (bs.drop p), numOk (bs.drop p), (p : Int), numE (bs.drop p) 0, true) := by
      unfold octet_Reader_number.f
      rw [if_pos ⟨by omega, by omega, hb, hl⟩]
      rfl
    dsimp only
    rw [if_pos (by decide), e2, Option.bind_some]
    dsimp only
    unfold rdNum
    rw [if_pos rfl]
    by_cases h0 : (numR (bs.drop p) 0 0).1 = 0
    · have hs := numR_size _ h0
      rw [List.length_drop] at hs
      refine ⟨p + (numR (bs.drop p) 0 0).2.2, by omega, ?_, ?_⟩
      · rw [if_pos h0]
        show _ = (bs.drop p).drop _
        rw [List.drop_drop]
      · rw [if_pos h0, if_pos (by unfold numOk; rw [h0]; rfl), w64 (by unfold numZ; omega) (by unfold numZ; omega)]
        unfold numE numV numZ
        rw [if_pos h0]
        congr 3
    · refine ⟨p, hp, by rw [if_neg h0], ?_⟩
      rw [if_neg h0, if_neg (by unfold numOk; simpa using h0)]
      unfold numE
      rw [if_neg h0]
  · refine ⟨p, hp, ?_, ?_⟩
    · unfold rdNum; rw [if_neg h]
    · dsimp only
      rw [if_neg (by simpa using h)]
      unfold rdNum
      rw [if_neg h]
theorem Upto_eq {p : Nat} (hp : p ≤ bs.length) (err most : Int) : ∃ q : Nat, q ≤ bs.length ∧ bs.drop q = (rdUpto most (bs.drop p) err).2.1 ∧ octet_Reader_Upto.f bs p err true most = some ((rdUpto most (bs.drop p) err).1, (q : Int), (rdUpto most (bs.drop p) err).2.2, true) := by
  obtain ⟨q, hq, hd, he⟩ := Number_eq hb hl hp err
  refine ⟨q, hq, ?_, ?_⟩
  · unfold rdUpto; split <;> exact hd
  · unfold octet_Reader_Upto.f
    rw [he, Option.bind_some]
    have e1 : ∀ e : Int, octet_Reader_ready.f bs q e true = some ((e == 0), (q : Int), e, true) := fun _ => rfl
    dsimp only
    rw [e1, Option.bind_some]
    dsimp only
    unfold rdUpto
    by_cases h : (rdNum (bs.drop p) err).2.2 = 0
    · rw [if_pos (by simpa using h)]
      by_cases h2 : (rdNum (bs.drop p) err).1 > most
      · rw [if_pos h2, if_pos ⟨h, h2⟩]
        rfl
      · rw [if_neg h2, if_neg (fun c => h2 c.2)]
    · rw [if_neg (by simpa using h), if_neg (fun c => h c.1)]
theorem Fixed_bad {p : Nat} (hp : p ≤ bs.length) {err : Int} (he : ¬ err = 0) : octet_Reader_Fixed.f bs p err true 1 = some ([], (p : Int), err, true) := by
  unfold octet_Reader_Fixed.f
  rw [if_pos ⟨by omega, by omega, hl, rfl⟩, if_neg he]
theorem Fixed_none {p : Nat} (hp : p ≤ bs.length) (h : bs.drop p = []) : octet_Reader_Fixed.f bs p 0 true 1 = some ([], (p : Int), 5, true) := by
  have := List.drop_eq_nil_iff.1 h
  unfold octet_Reader_Fixed.f
  have e : mx 0 1 = 1 := rfl
  rw [if_pos ⟨by omega, by omega, hl, rfl⟩, if_pos rfl, e, if_pos (by omega)]
theorem Fixed_one {p : Nat} (hp : p ≤ bs.length) {c : Int} {r : List Int} (h : bs.drop p = c :: r) : octet_Reader_Fixed.f bs p 0 true 1 = some ([c], ((p + 1 : Nat) : Int), 0, true) ∧ bs.drop (p + 1) = r ∧ p + 1 ≤ bs.length := by
  have hlt : p < bs.length := by
    rcases Nat.lt_or_ge p bs.length with h1 | h1
    · exact h1
    · rw [List.drop_of_length_le h1] at h; cases h
  have hd := List.drop_eq_getElem_cons hlt
  rw [h] at hd
  injection hd with h1 h2
  refine ⟨?_, h2.symm, hlt⟩
  unfold octet_Reader_Fixed.f
  have e : mx 0 1 = 1 := rfl
  rw [if_pos ⟨by omega, by omega, hl, rfl⟩, if_pos rfl, e, if_neg (by omega), show ((p : Int) + 1).toNat = p + 1 by omega, show ((p : Int)).toNat = p by omega]
  have e2 : (bs.take (p + 1)).drop p = [c] := by
    rw [List.drop_take, show p + 1 - p = 1 by omega, h]; rfl
  rw [e2]
  rfl
end
/-! ### Bytes, of any registers -/
theorem regs_okR (p : Nat) : ∀ (l : List S32) (last : Int), regsOk p last l = okR ((2 ^ p : Nat) : Int) (65 - (p : Int)) last l
  | [], _ => rfl
  | r :: t, last => by unfold regsOk okR; rw [regs_okR p t r.f0]
theorem bytes_any (p : Int) (l : List S32) (hl : l.length ≤ 65536) : ∃ (x : List Int) (e : Int), Ev (fun k => dense_Bytes.f k p l) (x, e) ∧ ((e = 0 ∧ ∃ P : Nat, p = (P : Int) ∧ 4 ≤ P ∧ P ≤ 16 ∧ regsOk P (-1) l = true ∧ x = bytesB P l) ∨ (e = 2 ∧ ∃ v : Int, Ev (fun k => tallymanref14_Check.f k p l) v ∧ v = 2)) := by
  obtain ⟨v, h1, h2, hc⟩ := chk_both p l hl
  rcases hc with ⟨rfl, P, rfl, h4, hP, hv⟩ | rfl
  · rw [← regs_okR] at hv
    exact ⟨_, _, bytes_ev P h4 hP l hl hv, .inl ⟨rfl, P, rfl, h4, hP, hv, rfl⟩⟩
  · refine ⟨[], 2, ?_, .inr ⟨rfl, 2, h2, rfl⟩⟩
    have hs : Ev (fun k => dense_Sparse.f k p l) ([], 2) := Ev.congr (fun k => by unfold dense_Sparse.f; rfl) (Ev.bind h1 (Ev.congr (f := fun _ => some ([], 2)) (fun k => by rw [if_neg (by decide)]) (Ev.now _)))
    exact Ev.congr (fun k => by unfold dense_Bytes.f; rfl) (Ev.bind hs (Ev.congr (f := fun _ => some ([], 2)) (fun k => by rw [if_neg (by decide)]) (Ev.now _)))
theorem check_good {P : Nat} (h4 : 4 ≤ P) (hP : P ≤ 16) {l : List S32} (hl : l.length ≤ 65536) (h : regsOk P (-1) l = true) : Ev (fun k => tallymanref14_Check.f k (P : Int) l) 0 := by
  have := rchk_ev P h4 hP l hl
  rwa [← regs_okR, if_pos h] at this
/-- How Read ends. -/
def finF (k : Nat) (p : Int) (l : List S32) (b : List Int) : Option (Int × List S32 × Int) := (dense_Bytes.f k p l).bind fun bt => (if bt.2 = 0 then (if (strOfNums bt.1).toList = (strOfNums b).toList then (some (p, l, 0)) else (some (0, ([] : List (S32)), 4))) else (some (0, ([] : List (S32)), 4)))
/-- What Read may answer. -/
def Good (b : List Int) (r : Int × List S32 × Int) : Prop := r.2.2 = 4 ∨ (r.2.2 = 0 ∧ r.2.1.length ≤ 65536 ∧ ∃ P : Nat, r.1 = (P : Int) ∧ 4 ≤ P ∧ P ≤ 16 ∧ regsOk P (-1) r.2.1 = true ∧ (strOfNums (bytesB P r.2.1)).toList = (strOfNums b).toList)
theorem fin_any (p : Int) (l : List S32) (hl : l.length ≤ 65536) (b : List Int) : ∃ r, Ev (fun k => finF k p l b) r ∧ Good b r := by
  obtain ⟨x, e, he, hc⟩ := bytes_any p l hl
  rcases hc with ⟨rfl, P, rfl, h4, hP, hv, rfl⟩ | ⟨rfl, _⟩
  · by_cases c : (strOfNums (bytesB P l)).toList = (strOfNums b).toList
    · exact ⟨((P : Int), l, 0), Ev.congr (fun k => by unfold finF; rfl) (Ev.bind he (Ev.congr (fun k => by rw [if_pos rfl, if_pos c]) (Ev.now _))), .inr ⟨rfl, hl, P, rfl, h4, hP, hv, c⟩⟩
    · exact ⟨(0, [], 4), Ev.congr (fun k => by unfold finF; rfl) (Ev.bind he (Ev.congr (fun k => by rw [if_pos rfl, if_neg c]) (Ev.now _))), .inl rfl⟩
  · exact ⟨(0, [], 4), Ev.congr (fun k => by unfold finF; rfl) (Ev.bind he (Ev.congr (fun k => by rw [if_neg (show ¬ (2 : Int) = 0 by decide)]) (Ev.now _))), .inl rfl⟩
theorem fin_ok {P : Nat} (h4 : 4 ≤ P) (hP : P ≤ 16) {l : List S32} (hl : l.length ≤ 65536) (h : regsOk P (-1) l = true) : Ev (fun k => finF k (P : Int) l (bytesB P l)) ((P : Int), l, 0) :=
  Ev.congr (fun k => by unfold finF; rfl) (Ev.bind (bytes_ev P h4 hP l hl h) (Ev.congr (fun k => by rw [if_pos rfl, if_pos rfl]) (Ev.now _)))
/-! ### The sparse reading -/
def rdS (most : Int) : Nat → Int → List Int → List S32 → Option (List S32 × List Int)
  | 0, _, rest, acc => some (acc, rest)
  | n + 1, last, rest, acc => if (rdUpto most rest 0).2.2 = 0 then (match (rdUpto most rest 0).2.1 with
    | [] => none
    | c :: r => rdS most n (wrap64 ((wrap64 (last + 1)) + (wrap64 (rdUpto most rest 0).1))) r (acc ++ [⟨wrap64 ((wrap64 (last + 1)) + (wrap64 (rdUpto most rest 0).1)), wrap64 c⟩])) else none
theorem rdS_len (most : Int) : ∀ (n : Nat) (last : Int) (rest : List Int) (acc acc' : List S32) (rest' : List Int), rdS most n last rest acc = some (acc', rest') → acc'.length = acc.length + n := by
  intro n
  induction n with
  | zero => intro last rest acc acc' rest' h; simp only [rdS, Option.some.injEq, Prod.mk.injEq] at h; rw [h.1]; rfl
  | succ n ih =>
    intro last rest acc acc' rest' h
    unfold rdS at h
    split at h
    · split at h
      · cases h
      · have := ih _ _ _ _ _ h
        rw [this]; simp; omega
    · cases h
theorem End_ev {bs : List Int} (hl : bs.length < 140737488355328) {p : Nat} (hp : p ≤ bs.length) (err : Int) : ∃ (q e : Int), octet_Reader_End.f bs p err true = some (if err = 0 then (if bs.drop p = [] then 0 else 4) else err, q, e, true) := by
  unfold octet_Reader_End.f
  have e0 : octet_Reader_made.f bs p err true = some (true, (p : Int), err, true) := rfl
  rw [e0, Option.bind_some]
  dsimp only
  rw [if_pos rfl]
  by_cases h : err = 0
  · subst h
    rw [if_pos rfl]
    have e1 : octet_Reader_Left.f bs p 0 true = some (wrap64 ((bs.length : Int) - (p : Int)), (p : Int), 0, true) := rfl
    rw [e1, Option.bind_some]
    dsimp only
    rw [w64 (by omega) (by omega)]
    by_cases c : (bs.length : Int) - (p : Int) > 0
    · rw [if_pos c, if_pos rfl, if_neg (by rw [List.drop_eq_nil_iff]; omega)]
      exact ⟨_, _, rfl⟩
    · rw [if_neg c, if_pos rfl, if_pos (by rw [List.drop_eq_nil_iff]; omega)]
      exact ⟨_, _, rfl⟩
  · rw [if_neg h, if_neg h]
    exact ⟨_, _, rfl⟩
theorem sparse_end {bs : List Int} (hl : bs.length < 140737488355328) {p : Nat} (hp : p ≤ bs.length) (err : Int) (b : List Int) (last n i P : Int) (hn : ¬ i < n) (acc : List S32) (res : Int × List S32 × Int)
    (h1 : err = 0 → bs.drop p = [] → Ev (fun k => finF k P acc b) res) (h2 : ¬ (err = 0 ∧ bs.drop p = []) → res = (0, [], 4)) : Ev (fun k => dense_Read.l0 k b last n i P acc bs (p : Int) err true) res := by
  obtain ⟨q, e, he⟩ := End_ev hl hp err
  by_cases h : err = 0 ∧ bs.drop p = []
  · refine Ev.step (f := fun k => finF k P acc b) (fun k => ?_) (h1 h.1 h.2)
    simp only [dense_Read.l0]
    rw [if_neg hn, he, Option.bind_some, if_pos h.1, if_pos h.2, if_pos rfl]
    rfl
  · rw [h2 h]
    refine Ev.step (f := fun _ => some (0, [], 4)) (fun k => ?_) (Ev.now _)
    simp only [dense_Read.l0]
    rw [if_neg hn, he, Option.bind_some]
    by_cases c : err = 0
    · rw [if_pos c, if_neg (fun d => h ⟨c, d⟩), if_neg (show ¬ (4 : Int) = 0 by decide)]
    · rw [if_neg c, if_neg c]
theorem sparse_loop_rd {bs : List Int} (hb : bs.all isByte = true) (hl : bs.length < 140737488355328) (P : Nat) (hP : P ≤ 16) (b : List Int) (N : Nat) (hN : N ≤ 65536) (res : Int × List S32 × Int) : ∀ (d i : Nat) (last : Int) (acc : List S32) (p : Nat), i + d = N → p ≤ bs.length → acc.length = i →
    (∀ acc', rdS ((2 ^ P : Nat) : Int) d last (bs.drop p) acc = some (acc', []) → Ev (fun k => finF k (P : Int) acc' b) res) → ((∀ acc', rdS ((2 ^ P : Nat) : Int) d last (bs.drop p) acc ≠ some (acc', [])) → res = (0, [], 4)) →
    Ev (fun k => dense_Read.l0 k b last (N : Int) (i : Int) (P : Int) acc bs (p : Int) 0 true) res := by
  intro d
  induction d with
  | zero =>
    intro i last acc p h hp ha h1 h2
    refine sparse_end hl hp 0 b last (N : Int) (i : Int) (P : Int) (by omega) acc res (fun _ hd => h1 acc (by unfold rdS; rw [hd])) (fun hn => h2 (fun acc' he => hn ⟨rfl, ?_⟩))
    unfold rdS at he
    injection he with he
    injection he
  | succ d ih =>
    intro i last acc p h hp ha h1 h2
    obtain ⟨q, hq, hd, he⟩ := Upto_eq hb hl hp 0 ((2 ^ P : Nat) : Int)
    have hsh : shl .u64 1 (P : Int) = ((2 ^ P : Nat) : Int) := by
      have hp2 := pow_small hP
      unfold shl
      rw [show min ((P : Int)).toNat (IntKind.u64).bits = P by show min P 64 = P; omega, Int.one_mul, show ((2 : Int) ^ P) = ((2 ^ P : Nat) : Int) by simp]
      exact wu64 (by omega) (by omega)
    have stepbad : (rdUpto ((2 ^ P : Nat) : Int) (bs.drop p) 0).2.2 = 0 → (rdUpto ((2 ^ P : Nat) : Int) (bs.drop p) 0).2.1 = [] → Ev (fun k => dense_Read.l0 k b last (N : Int) (i : Int) (P : Int) acc bs (p : Int) 0 true) (0, [], 4) := fun c e => by
      refine Ev.step (f := fun _ => some (0, [], 4)) (fun k => ?_) (Ev.now _)
      simp only [dense_Read.l0]
      rw [if_pos (by omega), if_pos (by omega), hsh, he, Option.bind_some]
      dsimp only
      rw [c, Fixed_none hb hl hq (by rw [hd, e]), Option.bind_some]
      rfl
    by_cases c : (rdUpto ((2 ^ P : Nat) : Int) (bs.drop p) 0).2.2 = 0
    · cases e : (rdUpto ((2 ^ P : Nat) : Int) (bs.drop p) 0).2.1 with
      | nil =>
        rw [h2 (fun acc' hh => by unfold rdS at hh; rw [if_pos c, e] at hh; cases hh)]
        exact stepbad c e
      | cons x r =>
        obtain ⟨f1, f2, f3⟩ := Fixed_one hb hl hq (hd.trans e)
        have hstep : rdS ((2 ^ P : Nat) : Int) (d + 1) last (bs.drop p) acc = rdS ((2 ^ P : Nat) : Int) d (wrap64 ((wrap64 (last + 1)) + (wrap64 (rdUpto ((2 ^ P : Nat) : Int) (bs.drop p) 0).1))) (bs.drop (q + 1)) (acc ++ [⟨wrap64 ((wrap64 (last + 1)) + (wrap64 (rdUpto ((2 ^ P : Nat) : Int) (bs.drop p) 0).1)), wrap64 x⟩]) := by
          rw [rdS, if_pos c, e, f2]
        refine Ev.step (fun k => ?_) (ih (i + 1) (wrap64 ((wrap64 (last + 1)) + (wrap64 (rdUpto ((2 ^ P : Nat) : Int) (bs.drop p) 0).1))) (acc ++ [⟨wrap64 ((wrap64 (last + 1)) + (wrap64 (rdUpto ((2 ^ P : Nat) : Int) (bs.drop p) 0).1)), wrap64 x⟩]) (q + 1) (by omega) f3 (by simp; omega) (fun acc' hh => h1 acc' (by rw [hstep]; exact hh)) (fun hh => h2 (fun acc' => by rw [hstep]; exact hh acc')))
        simp only [dense_Read.l0]
        rw [if_pos (by omega), if_pos (by omega), hsh, he, Option.bind_some]
        dsimp only
        rw [c, f1, Option.bind_some]
        dsimp only
        rw [show octet_Reader_Err.f bs ((q + 1 : Nat) : Int) 0 true = some (0, ((q + 1 : Nat) : Int), 0, true) from rfl, Option.bind_some]
        dsimp only
        rw [if_pos rfl, if_pos (by simp), if_pos (by omega), wu64 (x := (i : Int) + 1) (by omega) (by omega)]
        rfl
    · rw [h2 (fun acc' hh => by unfold rdS at hh; rw [if_neg c] at hh; cases hh)]
      refine Ev.step (f := fun _ => some (0, [], 4)) (fun k => ?_) (Ev.now _)
      simp only [dense_Read.l0]
      rw [if_pos (by omega), if_pos (by omega), hsh, he, Option.bind_some]
      dsimp only
      rw [Fixed_bad hb hl hq c, Option.bind_some]
      dsimp only
      rw [show octet_Reader_Err.f bs (q : Int) (rdUpto ((2 ^ P : Nat) : Int) (bs.drop p) 0).2.2 true = some ((rdUpto ((2 ^ P : Nat) : Int) (bs.drop p) 0).2.2, (q : Int), (rdUpto ((2 ^ P : Nat) : Int) (bs.drop p) 0).2.2, true) from rfl, Option.bind_some]
      dsimp only
      rw [if_neg c]
end Go.Proofs.Ytbclnjinpcfpjaa.H
