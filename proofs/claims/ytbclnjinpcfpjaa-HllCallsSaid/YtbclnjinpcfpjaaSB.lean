/- The reference's tables. -/
import Derived.Test.YtbclnjinpcfpjaaS9
import Derived.Test.YtbclnjinpcfpjaaH14
import Derived.Test.YtbclnjinpcfpjaaH15
import Derived.Test.YtbclnjinpcfpjaaH16
import Derived.Test.YtbclnjinpcfpjaaH17
import Derived.Test.YtbclnjinpcfpjaaH18
import Derived.Test.YtbclnjinpcfpjaaH19
namespace Go.Proofs.Ytbclnjinpcfpjaa.H
open Go.RowKit Go.Proofs.YtbclnjinpcfpjaaW.PrintWords Go.Proofs.YtbclnjinpcfpjaaW.PrintLast
/-! ### The reference -/
/-- A table of a counter's ranks. -/
def Tb (P : Nat) (T : List Int) (l : List S32) : Prop := T.length = 2 ^ P ∧ ∀ (j : Nat) (h : j < T.length), T[j] = look l (j : Int)
theorem look_snoc : ∀ {xs : List S32} {r : S32}, Inc (xs ++ [r]) → ∀ k, look (xs ++ [r]) k = if r.f0 = k then r.f1 else look xs k
  | [], r, _, k => rfl
  | s :: t, r, h, k => by
    have hp := List.pairwise_cons.1 h
    have ih := look_snoc (xs := t) (r := r) hp.2 k
    have hlt := hp.1 r (by simp)
    show (if s.f0 = k then s.f1 else look (t ++ [r]) k) = _
    rw [ih]
    show _ = if r.f0 = k then r.f1 else (if s.f0 = k then s.f1 else look t k)
    by_cases e : s.f0 = k
    · rw [if_pos e, if_neg (by omega), if_pos e]
    · rw [if_neg e, if_neg e]
theorem inc_take {l : List S32} (h : Inc l) (i : Nat) : Inc (l.take i) := List.Pairwise.sublist (List.take_sublist i l) h
theorem take_succ' {l : List S32} {i : Nat} (h : i < l.length) : l.take (i + 1) = l.take i ++ [l[i]] := by
  rw [List.take_add_one, List.getElem?_eq_getElem h]; rfl
theorem wu_small {P : Nat} (h : P ≤ 64) : IntKind.u64.wrap (P : Int) = (P : Int) := wu6 (by omega) (by omega)
theorem rchk_loop (P : Nat) (hP : P ≤ 16) (l : List S32) (hl : l.length ≤ 1000000) : ∀ (d i : Nat) (last : Int), i + d = l.length →
    Ev (fun k => tallymanref14_Check.l0 k last (i : Int) (P : Int) l) (if okR ((2 ^ P : Nat) : Int) (65 - (P : Int)) last (l.drop i) = true then 0 else 2) := by
  intro d
  induction d with
  | zero =>
    intro i last h
    refine Ev.step (f := fun _ => some 0) (fun k => ?_) (by rw [List.drop_of_length_le (by omega)]; exact Ev.now _)
    simp only [tallymanref14_Check.l0]
    rw [if_neg (by omega)]
  | succ d ih =>
    intro i last h
    have hi : i < l.length := by omega
    rw [List.drop_eq_getElem_cons hi]
    have key : ∀ k, tallymanref14_Check.l0 (k + 1) last (i : Int) (P : Int) l = if l[i].f0 ≤ last then some 2 else if l[i].f0 ≥ ((2 ^ P : Nat) : Int) then some 2 else if l[i].f1 < 1 then some 2 else if l[i].f1 > 65 - (P : Int) then some 2 else tallymanref14_Check.l0 k l[i].f0 ((i + 1 : Nat) : Int) (P : Int) l := fun k => by
      simp only [tallymanref14_Check.l0]
      rw [if_pos (by omega), if_pos (by omega), rdT l i hi]
      by_cases c : l[i].f0 ≤ last
      · rw [if_pos c, if_pos c]
      · rw [if_neg c, if_neg c, wu_small (by omega), if_pos (by omega), shl_pow hP, w6 (x := 65 - (P : Int)) (by omega) (by omega), w6 (x := (i : Int) + 1) (by omega) (by omega)]
        rfl
    unfold okR
    by_cases c1 : l[i].f0 ≤ last
    · refine Ev.step (f := fun _ => some 2) (fun k => by rw [key, if_pos c1]) ?_
      rw [decide_eq_false (by omega)]
      simp only [Bool.false_and]
      exact Ev.now _
    by_cases c2 : l[i].f0 ≥ ((2 ^ P : Nat) : Int)
    · refine Ev.step (f := fun _ => some 2) (fun k => by rw [key, if_neg c1, if_pos c2]) ?_
      rw [decide_eq_false (show ¬ l[i].f0 < ((2 ^ P : Nat) : Int) by omega)]
      simp only [Bool.false_and, Bool.and_false]
      exact Ev.now _
    by_cases c3 : l[i].f1 < 1
    · refine Ev.step (f := fun _ => some 2) (fun k => by rw [key, if_neg c1, if_neg c2, if_pos c3]) ?_
      rw [decide_eq_false (show ¬ 1 ≤ l[i].f1 by omega)]
      simp only [Bool.false_and, Bool.and_false]
      exact Ev.now _
    by_cases c4 : l[i].f1 > 65 - (P : Int)
    · refine Ev.step (f := fun _ => some 2) (fun k => by rw [key, if_neg c1, if_neg c2, if_neg c3, if_pos c4]) ?_
      rw [decide_eq_false (show ¬ l[i].f1 ≤ 65 - (P : Int) by omega)]
      simp only [Bool.false_and, Bool.and_false]
      exact Ev.now _
    refine Ev.step (f := fun k => tallymanref14_Check.l0 k l[i].f0 ((i + 1 : Nat) : Int) (P : Int) l) (fun k => by rw [key, if_neg c1, if_neg c2, if_neg c3, if_neg c4]) ?_
    rw [decide_eq_true (show last < l[i].f0 by omega), decide_eq_true (show l[i].f0 < ((2 ^ P : Nat) : Int) by omega), decide_eq_true (show 1 ≤ l[i].f1 by omega), decide_eq_true (show l[i].f1 ≤ 65 - (P : Int) by omega)]
    simp only [Bool.true_and]
    exact ih (i + 1) l[i].f0 (by omega)
theorem may_good {P : Nat} (h4 : 4 ≤ P) (hP : P ≤ 16) : tallymanref14_may.f (P : Int) = some true := by
  unfold tallymanref14_may.f
  rw [if_pos (by omega), decide_eq_true (by omega)]
theorem may_bad {p : Int} (h : p < 4 ∨ p > 16) : tallymanref14_may.f p = some false := by
  unfold tallymanref14_may.f
  by_cases c : p ≥ 4
  · rw [if_pos c, decide_eq_false (by omega)]
  · rw [if_neg c]
theorem rchk_bad (p : Int) (l : List S32) (h : p < 4 ∨ p > 16) : Ev (fun k => tallymanref14_Check.f k p l) 2 := by
  refine Ev.step (f := fun _ => some 2) (fun k => ?_) (Ev.now _)
  unfold tallymanref14_Check.f
  rw [may_bad h, Option.bind_some, if_neg (by decide)]
  simp only [tallymanref14_Check.j0]
  rw [if_pos trivial]
theorem rchk_ev (P : Nat) (h4 : 4 ≤ P) (hP : P ≤ 16) (l : List S32) (hl : l.length ≤ 65536) : Ev (fun k => tallymanref14_Check.f k (P : Int) l) (if okR ((2 ^ P : Nat) : Int) (65 - (P : Int)) (-1) l = true then 0 else 2) := by
  refine Ev.step (f := fun k => tallymanref14_Check.l0 k (-1) ((0 : Nat) : Int) (P : Int) l) (fun k => ?_) (rchk_loop P hP l (by omega) l.length 0 (-1) (by omega))
  unfold tallymanref14_Check.f
  rw [may_good h4 hP, Option.bind_some, if_pos rfl, decide_eq_false (by omega)]
  simp only [tallymanref14_Check.j0]
  rw [if_neg (by decide)]
  rfl
theorem rchk_good (P : Nat) (h4 : 4 ≤ P) (hP : P ≤ 16) {l : List S32} (h : Vl P l) : Ev (fun k => tallymanref14_Check.f k (P : Int) l) 0 := by
  have := rchk_ev P h4 hP l (vl_len hP h)
  rwa [if_pos ((okR_val _ _ _).2 h)] at this
/-- Both checks tell the same. -/
theorem chk_both (p : Int) (l : List S32) (hl : l.length ≤ 65536) : ∃ v : Int, Ev (fun k => hll_Check.f k p l) v ∧ Ev (fun k => tallymanref14_Check.f k p l) v ∧ ((v = 0 ∧ ∃ P : Nat, p = (P : Int) ∧ 4 ≤ P ∧ P ≤ 16 ∧ Vl P l) ∨ v = 2) := by
  by_cases h : p < 4 ∨ p > 16
  · exact ⟨2, chk_bad p l h, rchk_bad p l h, .inr rfl⟩
  · obtain ⟨P, rfl⟩ : ∃ P : Nat, p = (P : Int) := ⟨p.toNat, by omega⟩
    refine ⟨_, chk_ev P (by omega) (by omega) l (by omega), rchk_ev P (by omega) (by omega) l hl, ?_⟩
    by_cases c : okR ((2 ^ P : Nat) : Int) (65 - (P : Int)) (-1) l = true
    · rw [if_pos c]; exact .inl ⟨rfl, P, rfl, by omega, by omega, (okR_val _ _ _).1 c⟩
    · rw [if_neg c]; exact .inr rfl
theorem tb_set {P : Nat} {T : List Int} {l : List S32} (h : Tb P T l) (hv : Vl P l) {x : S32} (hx : Reg ((2 ^ P : Nat) : Int) (65 - (P : Int)) x) : Tb P (T.set x.f0.toNat (mx (rd T x.f0) x.f1)) (insl x l) := by
  refine ⟨by rw [List.length_set]; exact h.1, fun j hj => ?_⟩
  have hj' : j < T.length := by rwa [List.length_set] at hj
  have h1 := hx.1
  have h2 := hx.2.1
  have hn : x.f0.toNat < T.length := by rw [h.1]; omega
  have er : rd T x.f0 = T[x.f0.toNat] := by
    have := rdI T x.f0.toNat hn
    rwa [Int.toNat_of_nonneg h1] at this
  have er2 : rd T x.f0 = look l x.f0 := by rw [er, h.2 _ hn, Int.toNat_of_nonneg h1]
  rw [List.getElem_set, look_insl x hx.2.2.1 hv.1 (fun r hr => (hv.2 r hr).2.2.1), h.2 j hj']
  by_cases e : x.f0.toNat = j
  · rw [if_pos e, if_pos (by omega), er2, show x.f0 = (j : Int) by omega]
  · rw [if_neg e, if_neg (by omega)]
theorem ranks_loop {P : Nat} (hP : P ≤ 16) {l : List S32} (hv : Vl P l) (z : Int) : ∀ (d i : Nat) (T : List Int), i + d = l.length → Tb P T (l.take i) →
    ∃ T', Tb P T' l ∧ Ev (fun k => tallymanref14_ranks.l0 k T (i : Int) z l) T' := by
  have hl := vl_len hP hv
  intro d
  induction d with
  | zero =>
    intro i T h ht
    rw [List.take_of_length_le (by omega)] at ht
    refine ⟨T, ht, Ev.step (f := fun _ => some T) (fun k => ?_) (Ev.now _)⟩
    simp only [tallymanref14_ranks.l0]
    rw [if_neg (by omega)]
  | succ d ih =>
    intro i T h ht
    have hi : i < l.length := by omega
    have hr := hv.2 l[i] (List.getElem_mem hi)
    have hn : l[i].f0.toNat < T.length := by rw [ht.1]; omega
    obtain ⟨T', h1, h2⟩ := ih (i + 1) (T.set l[i].f0.toNat l[i].f1) (by omega) (by
      refine ⟨by rw [List.length_set]; exact ht.1, fun j hj => ?_⟩
      have hj' : j < T.length := by rwa [List.length_set] at hj
      have hinc := inc_take hv.1 (i + 1)
      rw [take_succ' hi] at hinc ⊢
      rw [List.getElem_set, look_snoc hinc, ht.2 j hj']
      by_cases e : l[i].f0.toNat = j
      · rw [if_pos e, if_pos (by omega)]
      · rw [if_neg e, if_neg (by omega)])
    refine ⟨T', h1, Ev.step (f := fun k => tallymanref14_ranks.l0 k (T.set l[i].f0.toNat l[i].f1) ((i + 1 : Nat) : Int) z l) (fun k => ?_) h2⟩
    simp only [tallymanref14_ranks.l0]
    rw [if_pos (by omega), if_pos (by omega), rdT l i hi, if_pos hr.1, if_pos (by omega), w6 (x := (i : Int) + 1) (by omega) (by omega)]
    rfl
theorem tb_zero (P : Nat) : Tb P (List.replicate (2 ^ P) 0) [] := ⟨by simp, fun j h => by simp [look]⟩
theorem ranks_ev {P : Nat} (hP : P ≤ 16) {l : List S32} (hv : Vl P l) : ∃ T, Tb P T l ∧ Ev (fun k => tallymanref14_ranks.f k (P : Int) l) T := by
  have hp := pow_small hP
  obtain ⟨T, h1, h2⟩ := ranks_loop hP hv (P : Int) l.length 0 (List.replicate (2 ^ P) 0) (by omega) (tb_zero P)
  refine ⟨T, h1, Ev.congr (fun k => ?_) h2⟩
  unfold tallymanref14_ranks.f
  rw [wu_small (by omega), if_pos (by omega), shl_pow hP, if_pos (by omega), if_pos (by rw [nat_eq]; omega), nat_eq]
  rfl
theorem of_loop {P : Nat} (hP : P ≤ 16) {T : List Int} {l : List S32} (ht : Tb P T l) (hv : Vl P l) (z : Int) : ∀ (d i : Nat) (acc : List S32), i + d = T.length → Vl P acc → (∀ r ∈ acc, r.f0 < (i : Int)) → (∀ j : Int, look acc j = if j < (i : Int) then look l j else 0) →
    Ev (fun k => tallymanref14_of.l0 k T (i : Int) z acc) (z, l) := by
  have hp := pow_small hP
  have hT := ht.1
  intro d
  induction d with
  | zero =>
    intro i acc h ha hi hk
    have e : acc = l := look_ext ha hv fun j => by
      rw [hk]
      by_cases c : j < (i : Int)
      · rw [if_pos c]
      · rw [if_neg c]
        exact (look_none l j (fun r hr e => by have := hv.2 r hr; omega)).symm
    subst e
    refine Ev.step (f := fun _ => some (z, acc)) (fun k => ?_) (Ev.now _)
    simp only [tallymanref14_of.l0]
    rw [if_neg (by omega)]
  | succ d ih =>
    intro i acc h ha hi hk
    have hlt : i < T.length := by omega
    have hal := vl_len hP ha
    have ei := ht.2 i hlt
    have hpos := look_pos hv (i : Int)
    by_cases c : T[i] > 0
    · have hne : look l (i : Int) ≠ 0 := by omega
      obtain ⟨r, hr, e0, e1⟩ := look_some hne
      have hrv := hv.2 r hr
      have hinc : Inc (acc ++ [⟨(i : Int), T[i]⟩]) := by
        refine List.pairwise_append.2 ⟨ha.1, List.pairwise_singleton _ _, fun a h1 b h2 => ?_⟩
        rw [List.mem_singleton.1 h2]
        exact hi a h1
      refine Ev.step (f := fun k => tallymanref14_of.l0 k T ((i + 1 : Nat) : Int) z (acc ++ [⟨(i : Int), T[i]⟩])) (fun k => ?_) (ih (i + 1) _ (by omega) ⟨hinc, fun q hq => ?_⟩ (fun q hq => ?_) (fun j => ?_))
      · simp only [tallymanref14_of.l0]
        rw [if_pos (by omega), if_pos (by omega), rdI T i hlt, if_pos c, if_pos (by omega), w6 (x := (i : Int) + 1) (by omega) (by omega)]
        rfl
      · rcases List.mem_append.1 hq with hq | hq
        · exact ha.2 q hq
        · rw [List.mem_singleton.1 hq]
          show 0 ≤ (i : Int) ∧ (i : Int) < ((2 ^ P : Nat) : Int) ∧ 1 ≤ T[i] ∧ T[i] ≤ 65 - (P : Int)
          omega
      · rcases List.mem_append.1 hq with hq | hq
        · have := hi q hq; omega
        · rw [List.mem_singleton.1 hq]
          show (i : Int) < ((i + 1 : Nat) : Int)
          omega
      · rw [look_snoc hinc, hk]
        show (if (i : Int) = j then T[i] else _) = _
        by_cases e : (i : Int) = j
        · rw [if_pos e, if_pos (by omega), ei, e]
        · rw [if_neg e]
          by_cases e2 : j < (i : Int)
          · rw [if_pos e2, if_pos (by omega)]
          · rw [if_neg e2, if_neg (by omega)]
    · refine Ev.step (f := fun k => tallymanref14_of.l0 k T ((i + 1 : Nat) : Int) z acc) (fun k => ?_) (ih (i + 1) acc (by omega) ha (fun q hq => by have := hi q hq; omega) (fun j => ?_))
      · simp only [tallymanref14_of.l0]
        rw [if_pos (by omega), if_pos (by omega), rdI T i hlt, if_neg c, w6 (x := (i : Int) + 1) (by omega) (by omega)]
        rfl
      · rw [hk]
        by_cases e : (i : Int) = j
        · rw [if_neg (by omega), if_pos (by omega), ← e]; omega
        · by_cases e2 : j < (i : Int)
          · rw [if_pos e2, if_pos (by omega)]
          · rw [if_neg e2, if_neg (by omega)]
theorem of_ev {P : Nat} (hP : P ≤ 16) {T : List Int} {l : List S32} (ht : Tb P T l) (hv : Vl P l) (z : Int) : Ev (fun k => tallymanref14_of.f k z T) (z, l) := by
  unfold tallymanref14_of.f
  exact of_loop hP ht hv z T.length 0 [] (by omega) (val_nil _ _) (fun r hr => by cases hr) (fun j => by
    by_cases c : j < ((0 : Nat) : Int)
    · rw [if_pos c, look_none l j (fun r hr e => by have := hv.2 r hr; omega)]; rfl
    · rw [if_neg c]; rfl)
/-! ### Split of the reference -/
theorem rhigh {P H : Nat} (hP : P ≤ 16) : tallymanref02_High.f (H : Int) (P : Int) = some ((H / 2 ^ (64 - P) : Nat) : Int) := by
  unfold tallymanref02_High.f tallymanref02_bits.f
  have e : mx 0 (mn (P : Int) 64) = (P : Int) := by
    unfold mx mn
    rw [if_neg (show ¬ (64 : Int) < (P : Int) by omega)]
    by_cases h : (0 : Int) < (P : Int)
    · rw [if_pos h]
    · rw [if_neg h]; omega
  rw [Option.bind_some, e, show (64 : Int) - (P : Int) = ((64 - P : Nat) : Int) by omega, wu6 (by omega) (by omega), if_pos (by omega), shr_u64 (by omega)]
theorem len_bit {m i : Nat} (h1 : 2 ^ i ≤ m) (h2 : m < 2 ^ (i + 1)) (h3 : m < 18446744073709551616) : Lib.bitLen m = i + 1 := by
  rw [Lib.bitLen_shift i m h1 h3]
  have e : m / 2 ^ i = 1 := by
    have h4 : m / 2 ^ i < 2 := Nat.div_lt_of_lt_mul (by rw [Nat.mul_comm, ← Nat.pow_succ']; exact h2)
    have h5 : 0 < m / 2 ^ i := Nat.div_pos h1 (Nat.two_pow_pos i)
    omega
  rw [e]
  rfl
theorem bit_mod {H n i : Nat} (h : i < n) (hm : H % 2 ^ n < 2 ^ (i + 1)) : (H / 2 ^ i) % 2 = (H % 2 ^ n) / 2 ^ i := by
  have e1 : (H % 2 ^ n) / 2 ^ i = (H / 2 ^ i) % 2 ^ (n - i) := by
    rw [show 2 ^ n = 2 ^ i * 2 ^ (n - i) by rw [← Nat.pow_add]; congr 1; omega, Nat.mod_mul_right_div_self]
  have h2 : (H % 2 ^ n) / 2 ^ i < 2 := Nat.div_lt_of_lt_mul (by rw [Nat.mul_comm, ← Nat.pow_succ']; exact hm)
  rw [e1] at h2 ⊢
  have e3 : 2 ^ (n - i) = 2 * 2 ^ (n - i - 1) := by rw [← Nat.pow_succ']; congr 1; omega
  have e4 : (H / 2 ^ i) % 2 ^ (n - i) % 2 = (H / 2 ^ i) % 2 := by rw [e3]; exact Nat.mod_mul_right_mod _ _ _
  omega
theorem rsplit_loop {P H : Nat} (h4 : 4 ≤ P) (hP : P ≤ 16) (hH : H < 18446744073709551616) : ∀ (i : Nat), i ≤ 64 - P → H % 2 ^ (64 - P) < 2 ^ i →
    Ev (fun k => tallymanref14_Split.l0 k (P : Int) (H : Int) (65 - (P : Int) - (i : Int)) ((i : Int) - 1)) ((spl P H).f0, (spl P H).f1, 0) := by
  have hp := pow_small hP
  have h2 : H / 2 ^ (64 - P) < 2 ^ P := Nat.div_lt_of_lt_mul (by rw [two64 (by omega)]; exact hH)
  have hf0 : wrap64 ((H / 2 ^ (64 - P) : Nat) : Int) = (spl P H).f0 := w6 (Int.le_trans (by decide) (Int.natCast_nonneg _)) (Int.le_trans (Int.ofNat_le.2 (Nat.le_of_lt h2)) (by omega))
  have hmlt : H % 2 ^ (64 - P) < 18446744073709551616 := Nat.lt_of_le_of_lt (Nat.mod_le _ _) hH
  intro i
  induction i with
  | zero =>
    intro hi hm
    have h0 : H % 2 ^ (64 - P) = 0 := by simpa using hm
    have e : (spl P H).f1 = 65 - (P : Int) := by
      show ((65 - P - Lib.bitLen (H % 2 ^ (64 - P)) : Nat) : Int) = _
      rw [h0, len_zero]; omega
    refine Ev.step (f := fun _ => some ((spl P H).f0, (spl P H).f1, 0)) (fun k => ?_) (Ev.now _)
    simp only [tallymanref14_Split.l0]
    rw [if_neg (by omega), rhigh hP, Option.bind_some, hf0, e]
    congr 3
    omega
  | succ i ih =>
    intro hi hm
    have ebit := bit_mod (H := H) (show i < 64 - P by omega) hm
    have ei : (((i + 1 : Nat) : Int) - 1) = (i : Int) := by omega
    have etm : Int.tmod (shr .u64 (H : Int) (IntKind.u64.wrap (i : Int))) 2 = (((H / 2 ^ i) % 2 : Nat) : Int) := by
      rw [wu_small (by omega), shr_u64 (by omega)]
      rfl
    rw [ei]
    by_cases c : H % 2 ^ (64 - P) < 2 ^ i
    · have e0 : (H / 2 ^ i) % 2 = 0 := by rw [ebit]; exact Nat.div_eq_of_lt c
      refine Ev.step (f := fun k => tallymanref14_Split.l0 k (P : Int) (H : Int) (65 - (P : Int) - (i : Int)) ((i : Int) - 1)) (fun k => ?_) (ih (by omega) c)
      simp only [tallymanref14_Split.l0]
      rw [if_pos (by omega), etm, e0, wu_small (by omega), if_pos (by omega), if_pos (by omega), w6 (x := (i : Int) - 1) (by omega) (by omega), w6 (by omega) (by omega)]
      congr 1
      omega
    · have e1 : (H / 2 ^ i) % 2 ≠ 0 := by
        rw [ebit]
        have := Nat.div_pos (Nat.le_of_not_lt c) (Nat.two_pow_pos i)
        omega
      have e : (spl P H).f1 = 65 - (P : Int) - ((i + 1 : Nat) : Int) := by
        show ((65 - P - Lib.bitLen (H % 2 ^ (64 - P)) : Nat) : Int) = _
        rw [len_bit (Nat.le_of_not_lt c) hm hmlt]; omega
      refine Ev.step (f := fun _ => some ((spl P H).f0, (spl P H).f1, 0)) (fun k => ?_) (Ev.now _)
      simp only [tallymanref14_Split.l0]
      rw [if_pos (by omega), etm, wu_small (by omega), if_pos (by omega), if_neg (by omega), rhigh hP, Option.bind_some, hf0, e]
theorem rsplit_ev {P H : Nat} (h4 : 4 ≤ P) (hP : P ≤ 16) (hH : H < 18446744073709551616) : Ev (fun k => tallymanref14_Split.f k (P : Int) (H : Int)) ((spl P H).f0, (spl P H).f1, 0) := by
  refine Ev.congr (fun k => ?_) (rsplit_loop h4 hP hH (64 - P) (Nat.le_refl _) (Nat.mod_lt _ (Nat.two_pow_pos _)))
  unfold tallymanref14_Split.f
  rw [may_good h4 hP, Option.bind_some, if_pos rfl, w6 (x := 64 - (P : Int)) (by omega) (by omega), w6 (by omega) (by omega)]
  congr 1 <;> omega
end Go.Proofs.Ytbclnjinpcfpjaa.H
