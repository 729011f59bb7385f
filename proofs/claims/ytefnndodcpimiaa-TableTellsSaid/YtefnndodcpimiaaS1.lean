/- Plain facts about the printed functions: what each of them answers. -/
import Derived.Test.YtefnndodcpimiaaH4
import Derived.Test.YtefnndodcpimiaaH5
import Derived.Test.YtefnndodcpimiaaH6
import Derived.Test.YtefnndodcpimiaaH7
import Derived.Test.YtefnndodcpimiaaS0
namespace Go.Proofs.Ytefnndodcpimiaa.H
open Go.RowKit Go.Proofs.YtefnndodcpimiaaW.PrintWords Go.Proofs.YtefnndodcpimiaaW.PrintLast Go.Proofs.YtefnndodcpimiaaW.PrintMore
set_option linter.unusedVariables false
set_option linter.unusedSimpArgs false
/-! ### What the reference's functions answer, and that the table's answer the same -/
theorem refcheck_eq (l : List Int) : tallymanref10_Check.f l = table_Check.f l := rfl
theorem refget_eq (l : List Int) (n : Int) : tallymanref10_Get.f l n = table_Get.f l n := rfl
theorem refread_eq (b : List Int) : tallymanref10_Read.f b = table_Read.f b := rfl
theorem own_eq (b : List Int) (h : b.length < 140737488355328) : tallymankit_Own.f b = some b := by
  unfold tallymankit_Own.f
  simp only [Option.bind_some, List.length_nil, Nat.zero_add, List.nil_append]
  rw [if_pos h]
theorem get_no {l : List Int} (hw : l.all inI64 = true) (h : chkOk l = false) (n : Int) : table_Get.f l n = some (0, false) := by
  unfold table_Get.f
  rw [check_no hw h]
  rfl
theorem get_ev {l : List Int} (hw : l.all inI64 = true) (n : Int) : table_Get.f l n = some (if chkOk l = true then getS l n else (0, false)) := by
  cases h : chkOk l with
  | true => rw [get_ok hw h]; rfl
  | false => rw [get_no hw h]; rfl

/-! Find -/
def findR (l : List Int) (a : Int) : Int × Bool := if chkOk l = true then findS l a else (0, false)
theorem tfind_ev {l : List Int} (hw : l.all inI64 = true) (a : Int) : Ev (fun k => table_Find.f k l a) (findR l a) := by
  unfold findR
  cases h : chkOk l with
  | true => exact find_ok hw h a
  | false =>
    refine Ev.congr (f := fun _ => some (0, false)) (fun k => ?_) (Ev.now _)
    unfold table_Find.f
    rw [check_no hw h]
    rfl
theorem rfind_loop (l : List Int) (a : Int) (hl : l.length ≤ 65536) : ∀ (d i : Nat), i + d = l.length → (∀ j, j < i → ¬ rd l (j : Int) = a) →
    Ev (fun k => tallymanref10_Find.l0 k a (i : Int) l) (if l.findIdx (· == a) < l.length then ((l.findIdx (· == a) : Int), true) else (0, false)) := by
  intro d
  induction d with
  | zero =>
    intro i hi hj
    have h1 : ¬ l.findIdx (· == a) < l.length := by
      intro h
      have h2 := List.findIdx_getElem (xs := l) (p := (· == a)) (w := h)
      refine hj (l.findIdx (· == a)) (by omega) ?_
      rw [rd_nat l _ h]
      simpa using h2
    rw [if_neg h1]
    refine Ev.step (f := fun _ => some (0, false)) (fun k => ?_) (Ev.now _)
    simp only [tallymanref10_Find.l0]
    rw [if_neg (by omega)]
  | succ d ih =>
    intro i hi hj
    have hlt : i < l.length := by omega
    by_cases hz : rd l (i : Int) = a
    · have h1 : l.findIdx (· == a) = i := by
        rw [List.findIdx_eq hlt]
        refine ⟨by rw [rd_nat l i hlt] at hz; simpa using hz, fun j hji => ?_⟩
        have := hj j hji
        rw [rd_nat l j (by omega)] at this
        simpa using this
      rw [h1, if_pos hlt]
      refine Ev.step (f := fun _ => some ((i : Int), true)) (fun k => ?_) (Ev.now _)
      simp only [tallymanref10_Find.l0]
      rw [if_pos (by omega), if_pos (by omega), if_pos hz]
    · refine Ev.step (f := fun k => tallymanref10_Find.l0 k a ((i + 1 : Nat) : Int) l) (fun k => ?_) (ih (i + 1) (by omega) (fun j hj2 => ?_))
      · simp only [tallymanref10_Find.l0]
        rw [if_pos (by omega), if_pos (by omega), if_neg hz, w64 (by omega) (by omega)]
        rfl
      · by_cases e : j = i
        · subst e; exact hz
        · exact hj j (by omega)
theorem rfind_ev {l : List Int} (hw : l.all inI64 = true) (a : Int) : Ev (fun k => tallymanref10_Find.f k l a) (findR l a) := by
  unfold findR
  cases h : chkOk l with
  | true =>
    rw [if_pos rfl]
    refine Ev.congr (f := fun k => tallymanref10_Find.j0 k a (a == 0) l) (fun k => ?_) ?_
    · unfold tallymanref10_Find.f
      rw [refcheck_eq, check_ok hw h]
      rfl
    · unfold findS
      by_cases ha : a = 0
      · rw [if_pos ha]
        refine Ev.step (f := fun _ => some (0, false)) (fun k => ?_) (Ev.now _)
        simp only [tallymanref10_Find.j0]
        rw [if_pos (by simpa using ha)]
      · rw [if_neg ha]
        refine Ev.step (f := fun k => tallymanref10_Find.l0 k a 0 l) (fun k => ?_) (rfind_loop l a (chkOk_len h) l.length 0 (by omega) (fun j hj => by omega))
        simp only [tallymanref10_Find.j0]
        rw [if_neg (by simpa using ha)]
  | false =>
    refine Ev.congr (f := fun k => tallymanref10_Find.j0 k a true l) (fun k => ?_) ?_
    · unfold tallymanref10_Find.f
      rw [refcheck_eq, check_no hw h]
      rfl
    · refine Ev.step (f := fun _ => some (0, false)) (fun k => ?_) (Ev.now _)
      simp only [tallymanref10_Find.j0]
      rfl

/-! tight -/
theorem tight_ev : ∀ (n : Nat) (l : List Int), l.length = n → n ≤ 4611686018427387904 → Ev (fun k => tallymanref10_tight.f k l) (trimZ l) := by
  intro n
  induction n with
  | zero =>
    intro l hl _
    obtain rfl := List.eq_nil_of_length_eq_zero hl
    refine Ev.step (f := fun _ => some (trimZ [])) (fun k => ?_) (Ev.now _)
    simp only [tallymanref10_tight.f, tallymanref10_tight.l0]
    rw [if_neg (by simp)]
    rfl
  | succ n ih =>
    intro l hl hn
    rcases List.eq_nil_or_concat l with rfl | ⟨a, x, rfl⟩
    · simp at hl
    · rw [List.concat_eq_append] at *
      have hal : a.length = n := by simpa using hl
      have hlen : ((a ++ [x]).length : Int) = (n : Int) + 1 := by rw [hl]; omega
      have e1 : wrap64 (((a ++ [x]).length : Int) - 1) = (n : Int) := by rw [hlen, w64 (by omega) (by omega)]; omega
      have e2 : rd (a ++ [x]) (n : Int) = x := by
        rw [rd_nat _ n (by rw [hl]; omega)]
        simp [← hal]
      by_cases hx : x = 0
      · subst hx
        rw [trimZ_snoc0]
        refine Ev.step (f := fun k => tallymanref10_tight.f k a) (fun k => ?_) (ih a hal (by omega))
        simp only [tallymanref10_tight.f, tallymanref10_tight.l0]
        rw [e1, hlen, if_pos (by omega), if_pos (by omega), if_pos (by omega), if_pos e2, if_pos (by omega), Int.toNat_natCast, List.take_append_of_le_length (by omega), ← hal, List.take_length]
      · rw [trimZ_snoc a x hx]
        refine Ev.step (f := fun _ => some (a ++ [x])) (fun k => ?_) (Ev.now _)
        simp only [tallymanref10_tight.f, tallymanref10_tight.l0]
        rw [e1, hlen, if_pos (by omega), if_pos (by omega), if_pos (by omega), if_neg (by rw [e2]; exact hx)]

/-! Set -/
def setS (l : List Int) (n p : Int) : List Int × Int :=
  if chkOk l = true ∧ 0 ≤ n ∧ n < 65536 ∧ 2 ≤ p ∧ p < 4096 then
    (if (findS l p).2 = true ∧ ¬ (findS l p).1 = n then ([], 7) else (trimZ ((padTo l (n.toNat + 1)).set n.toNat p), 0))
  else ([], 2)
theorem isPage_eq (p : Int) : table_isPage.f p = some (isPageB p) := by
  unfold table_isPage.f isPageB
  first
    | rfl
    | (split <;> rename_i h1 <;> simp [h1])
theorem page_iff (p : Int) : isPageB p = true ↔ 2 ≤ p ∧ p < 4096 := by
  unfold isPageB
  simp
theorem tset_j0 {l : List Int} (hw : l.all inI64 = true) (h : chkOk l = true) (n p : Int) (h0 : 0 ≤ n) (h1 : n < 65536) :
    Ev (fun k => table_Set.j0 k n p false l) (if (findS l p).2 = true ∧ ¬ (findS l p).1 = n then ([], 7) else (trimZ ((padTo l (n.toNat + 1)).set n.toNat p), 0)) := by
  have hl := chkOk_len h
  have hput : table_put.f l n p = some (trimZ ((padTo l (n.toNat + 1)).set n.toNat p)) := by
    have := put_ok l n.toNat p hl (by omega)
    rwa [Int.toNat_of_nonneg h0] at this
  refine Ev.step (f := fun k => (table_Find.f k l p).bind fun bt112 => (if bt112.2 = true then (if bt112.1 = n then ((table_put.f l n p).bind fun t114 => (some (t114, 0))) else (some (([] : List Int), 7))) else ((table_put.f l n p).bind fun t117 => (some (t117, 0))))) (fun k => ?_) ?_
  · simp only [table_Set.j0]
    rw [if_neg (by decide)]
  · refine Ev.bind (find_ok hw h p) (Ev.congr (f := fun _ => some (if (findS l p).2 = true ∧ ¬ (findS l p).1 = n then ([], 7) else (trimZ ((padTo l (n.toNat + 1)).set n.toNat p), 0))) (fun k => ?_) (Ev.now _))
    rw [hput]
    simp only [Option.bind_some]
    by_cases c1 : (findS l p).2 = true
    · rw [if_pos c1]
      by_cases c2 : (findS l p).1 = n
      · rw [if_pos c2, if_neg (fun h => h.2 c2)]
      · rw [if_neg c2, if_pos ⟨c1, c2⟩]
    · rw [if_neg c1, if_neg (fun h => c1 h.1)]
theorem tset_bad (l : List Int) (n p : Int) : Ev (fun k => table_Set.j0 k n p true l) ([], 2) := by
  refine Ev.step (f := fun _ => some ([], 2)) (fun k => ?_) (Ev.now _)
  simp only [table_Set.j0]
  rfl
theorem tset_ev {l : List Int} (hw : l.all inI64 = true) (n p : Int) : Ev (fun k => table_Set.f k l n p) (setS l n p) := by
  cases h : chkOk l with
  | false =>
    have e : setS l n p = ([], 2) := by unfold setS; exact if_neg (fun h2 => by rw [h] at h2; exact absurd h2.1 (by decide))
    rw [e]
    refine Ev.congr (fun k => ?_) (tset_bad l n p)
    unfold table_Set.f
    rw [check_no hw h]
    rfl
  | true =>
    by_cases h0 : n < 0
    · have e : setS l n p = ([], 2) := by unfold setS; exact if_neg (fun h2 => by omega)
      rw [e]
      refine Ev.congr (fun k => ?_) (tset_bad l n p)
      unfold table_Set.f
      rw [check_ok hw h]
      simp only [Option.bind_some, if_true]
      rw [if_pos h0]
    · by_cases h1 : n ≥ 65536
      · have e : setS l n p = ([], 2) := by unfold setS; exact if_neg (fun h2 => by omega)
        rw [e]
        refine Ev.congr (fun k => ?_) (tset_bad l n p)
        unfold table_Set.f
        rw [check_ok hw h]
        simp only [Option.bind_some, if_true]
        rw [if_neg h0, if_pos h1]
      · cases hp : isPageB p with
        | false =>
          have e : setS l n p = ([], 2) := by
            unfold setS
            refine if_neg (fun h2 => ?_)
            have := (page_iff p).2 ⟨h2.2.2.2.1, h2.2.2.2.2⟩
            rw [hp] at this
            cases this
          rw [e]
          refine Ev.congr (fun k => ?_) (tset_bad l n p)
          unfold table_Set.f
          rw [check_ok hw h]
          simp only [Option.bind_some, if_true]
          rw [if_neg h0, if_neg h1, isPage_eq, hp]
          rfl
        | true =>
          have hpp := (page_iff p).1 hp
          have e : setS l n p = (if (findS l p).2 = true ∧ ¬ (findS l p).1 = n then ([], 7) else (trimZ ((padTo l (n.toNat + 1)).set n.toNat p), 0)) := by
            unfold setS
            exact if_pos ⟨h, by omega, by omega, hpp.1, hpp.2⟩
          rw [e]
          refine Ev.congr (fun k => ?_) (tset_j0 hw h n p (by omega) (by omega))
          unfold table_Set.f
          rw [check_ok hw h]
          simp only [Option.bind_some, if_true]
          rw [if_neg h0, if_neg h1, isPage_eq, hp]
          rfl
theorem pad_snoc (x : List Int) (n : Nat) (h : x.length ≤ n) : padTo (x ++ [0]) (n + 1) = padTo x (n + 1) := by
  unfold padTo
  rw [List.append_assoc]
  congr 1
  have e : n + 1 - x.length = (n + 1 - (x ++ [0]).length) + 1 := by simp; omega
  rw [e, List.replicate_succ]
  rfl
theorem rset_loop (n : Nat) (p : Int) (hn : n < 65536) : ∀ (d : Nat) (x : List Int), n + 1 - x.length = d → x.length ≤ 65537 → Ev (fun k => tallymanref10_Set.l0 k (n : Int) p x) (trimZ ((padTo x (n + 1)).set n p), 0) := by
  intro d
  induction d with
  | zero =>
    intro x hd hx
    have e : padTo x (n + 1) = x := by unfold padTo; rw [hd]; simp
    rw [e]
    refine Ev.step (f := fun k => (tallymanref10_tight.f k (x.set n p)).bind fun t346 => some (t346, 0)) (fun k => ?_) (Ev.bind (tight_ev x.length (x.set n p) (by simp) (by omega)) (Ev.now _))
    simp only [tallymanref10_Set.l0]
    rw [if_neg (by omega), if_pos (by omega), if_pos (by omega), Int.toNat_natCast]
  | succ d ih =>
    intro x hd hx
    rw [← pad_snoc x n (by omega)]
    refine Ev.step (f := fun k => tallymanref10_Set.l0 k (n : Int) p (x ++ [0])) (fun k => ?_) (ih (x ++ [0]) (by simp; omega) (by simp; omega))
    simp only [tallymanref10_Set.l0]
    rw [if_pos (by omega), if_pos (by omega)]
theorem rset_bad (l : List Int) (n p : Int) : Ev (fun k => tallymanref10_Set.j0 k n p true l) ([], 2) := by
  refine Ev.step (f := fun _ => some ([], 2)) (fun k => ?_) (Ev.now _)
  simp only [tallymanref10_Set.j0]
  rfl
theorem rset_j1 {l : List Int} (hl : l.length ≤ 65536) (n p : Int) (h0 : 0 ≤ n) (h1 : n < 65536) : Ev (fun k => tallymanref10_Set.j1 k n p false l) (trimZ ((padTo l (n.toNat + 1)).set n.toNat p), 0) := by
  have h := rset_loop n.toNat p (by omega) _ l rfl (by omega)
  rw [Int.toNat_of_nonneg h0] at h
  refine Ev.step (f := fun k => tallymanref10_Set.l0 k n p l) (fun k => ?_) h
  simp only [tallymanref10_Set.j1, Option.bind_some, List.length_nil, Nat.zero_add, List.nil_append]
  rw [if_neg (by decide), if_pos (by omega)]
theorem rset_j1bad (l : List Int) (n p : Int) : Ev (fun k => tallymanref10_Set.j1 k n p true l) ([], 7) := by
  refine Ev.step (f := fun _ => some ([], 7)) (fun k => ?_) (Ev.now _)
  simp only [tallymanref10_Set.j1]
  rfl
theorem rset_j0 {l : List Int} (hw : l.all inI64 = true) (h : chkOk l = true) (n p : Int) (h0 : 0 ≤ n) (h1 : n < 65536) :
    Ev (fun k => tallymanref10_Set.j0 k n p false l) (if (findS l p).2 = true ∧ ¬ (findS l p).1 = n then ([], 7) else (trimZ ((padTo l (n.toNat + 1)).set n.toNat p), 0)) := by
  have hf := rfind_ev hw p
  have ef : findR l p = findS l p := by unfold findR; exact if_pos h
  rw [ef] at hf
  refine Ev.step (f := fun k => (tallymanref10_Find.f k l p).bind fun bt334 => (if bt334.2 = true then (tallymanref10_Set.j1 k n p (bt334.1 != n) l) else (tallymanref10_Set.j1 k n p false l))) (fun k => ?_) (Ev.bind hf ?_)
  · simp only [tallymanref10_Set.j0]
    rw [if_neg (by decide)]
  · by_cases c1 : (findS l p).2 = true
    · by_cases c2 : (findS l p).1 = n
      · rw [if_neg (fun h => h.2 c2)]
        refine Ev.congr (fun k => ?_) (rset_j1 (chkOk_len h) n p h0 h1)
        rw [if_pos c1, show ((findS l p).1 != n) = false by simpa using c2]
      · rw [if_pos ⟨c1, c2⟩]
        refine Ev.congr (fun k => ?_) (rset_j1bad l n p)
        rw [if_pos c1, show ((findS l p).1 != n) = true by simpa using c2]
    · rw [if_neg (fun h => c1 h.1)]
      refine Ev.congr (fun k => ?_) (rset_j1 (chkOk_len h) n p h0 h1)
      rw [if_neg c1]
theorem rset_ev {l : List Int} (hw : l.all inI64 = true) (n p : Int) : Ev (fun k => tallymanref10_Set.f k l n p) (setS l n p) := by
  cases h : chkOk l with
  | false =>
    have e : setS l n p = ([], 2) := by unfold setS; exact if_neg (fun h2 => by rw [h] at h2; exact absurd h2.1 (by decide))
    rw [e]
    refine Ev.congr (fun k => ?_) (rset_bad l n p)
    unfold tallymanref10_Set.f
    rw [refcheck_eq, check_no hw h]
    rfl
  | true =>
    by_cases hg : 0 ≤ n ∧ n < 65536 ∧ 2 ≤ p ∧ p < 4096
    · have e : setS l n p = (if (findS l p).2 = true ∧ ¬ (findS l p).1 = n then ([], 7) else (trimZ ((padTo l (n.toNat + 1)).set n.toNat p), 0)) := by
        unfold setS
        exact if_pos ⟨h, hg⟩
      rw [e]
      refine Ev.congr (fun k => ?_) (rset_j0 hw h n p hg.1 hg.2.1)
      unfold tallymanref10_Set.f
      rw [refcheck_eq, check_ok hw h]
      simp only [Option.bind_some, if_true]
      rw [if_neg (by omega), if_neg (by omega), if_neg (by omega), decide_eq_false (by omega)]
    · have e : setS l n p = ([], 2) := by unfold setS; exact if_neg (fun h2 => hg h2.2)
      rw [e]
      refine Ev.congr (fun k => ?_) (rset_bad l n p)
      unfold tallymanref10_Set.f
      rw [refcheck_eq, check_ok hw h]
      simp only [Option.bind_some, if_true]
      by_cases c1 : n < 0
      · rw [if_pos c1]
      · rw [if_neg c1]
        by_cases c2 : n ≥ 65536
        · rw [if_pos c2]
        · rw [if_neg c2]
          by_cases c3 : p < 2
          · rw [if_pos c3]
          · rw [if_neg c3, decide_eq_true (by omega)]

/-! Clear -/
def clearS (l : List Int) (n : Int) : List Int × Int := if chkOk l = true then (if (getS l n).2 = true then (trimZ (l.set n.toNat 0), 0) else ([], 6)) else ([], 2)
theorem getS_in {l : List Int} {n : Int} (h : (getS l n).2 = true) : 0 ≤ n ∧ n < l.length := by
  unfold getS at h
  split at h
  · assumption
  · cases h
theorem tclear_ev {l : List Int} (hw : l.all inI64 = true) (n : Int) : table_Clear.f l n = some (clearS l n) := by
  unfold table_Clear.f clearS
  cases h : chkOk l with
  | false => rw [check_no hw h]; rfl
  | true =>
    rw [check_ok hw h, get_ok hw h]
    simp only [Option.bind_some, if_true]
    by_cases c : (getS l n).2 = true
    · have hin := getS_in c
      have hl := chkOk_len h
      rw [if_pos c, if_pos c]
      have hput : table_put.f l n 0 = some (trimZ ((padTo l (n.toNat + 1)).set n.toNat 0)) := by
        have := put_ok l n.toNat 0 hl (by omega)
        rwa [Int.toNat_of_nonneg hin.1] at this
      rw [hput, pad_lt l n.toNat (by omega)]
      rfl
    · rw [if_neg c, if_neg c]
theorem rclear_ev {l : List Int} (hw : l.all inI64 = true) (n : Int) : Ev (fun k => tallymanref10_Clear.f k l n) (clearS l n) := by
  unfold clearS
  cases h : chkOk l with
  | false =>
    refine Ev.congr (f := fun _ => some ([], 2)) (fun k => ?_) (Ev.now _)
    unfold tallymanref10_Clear.f
    rw [refcheck_eq, check_no hw h]
    rfl
  | true =>
    rw [if_pos rfl]
    by_cases c : (getS l n).2 = true
    · have hin := getS_in c
      have hl := chkOk_len h
      rw [if_pos c]
      refine Ev.congr (f := fun k => (tallymanref10_tight.f k (l.set n.toNat 0)).bind fun t361 => some (t361, 0)) (fun k => ?_) (Ev.bind (tight_ev l.length (l.set n.toNat 0) (by simp) (by omega)) (Ev.now _))
      unfold tallymanref10_Clear.f
      rw [refcheck_eq, check_ok hw h, refget_eq, get_ok hw h]
      simp only [Option.bind_some, if_true, List.length_nil, Nat.zero_add, List.nil_append]
      rw [if_pos c, if_pos (by omega), if_pos hin.1, if_pos hin.2]
    · rw [if_neg c]
      refine Ev.congr (f := fun _ => some ([], 6)) (fun k => ?_) (Ev.now _)
      unfold tallymanref10_Clear.f
      rw [refcheck_eq, check_ok hw h, refget_eq, get_ok hw h]
      simp only [Option.bind_some, if_true]
      rw [if_neg c]

/-! Fresh -/
def freshR (l : List Int) : Int × Int := if chkOk l = true then freshS l else (0, 2)
theorem tfresh_ev {l : List Int} (hw : l.all inI64 = true) : Ev (fun k => table_Fresh.f k l) (freshR l) := by
  unfold freshR
  cases h : chkOk l with
  | true => exact fresh_ok hw h
  | false =>
    refine Ev.congr (f := fun _ => some (0, 2)) (fun k => ?_) (Ev.now _)
    unfold table_Fresh.f
    rw [check_no hw h]
    rfl
theorem rfresh_loop (l : List Int) (hl : l.length ≤ 65536) : ∀ (d i : Nat), i + d = l.length → (∀ j, j < i → ¬ rd l (j : Int) = 0) → Ev (fun k => tallymanref10_Fresh.l0 k (i : Int) l) (freshS l) := by
  intro d
  induction d with
  | zero =>
    intro i hi hj
    refine Ev.step (f := fun _ => some (freshS l)) (fun k => ?_) (Ev.now _)
    simp only [tallymanref10_Fresh.l0]
    rw [if_neg (by omega)]
    have h1 : ¬ l.findIdx (· == 0) < l.length := by
      intro h
      have h2 := List.findIdx_getElem (xs := l) (p := (· == 0)) (w := h)
      refine hj (l.findIdx (· == 0)) (by omega) ?_
      rw [rd_nat l _ h]
      simpa using h2
    unfold freshS
    rw [if_neg h1]
    by_cases h : l.length = 65536
    · rw [if_pos h, if_pos (by omega)]
    · rw [if_neg h, if_neg (by omega)]
  | succ d ih =>
    intro i hi hj
    have hlt : i < l.length := by omega
    by_cases hz : rd l (i : Int) = 0
    · refine Ev.step (f := fun _ => some (freshS l)) (fun k => ?_) (Ev.now _)
      simp only [tallymanref10_Fresh.l0]
      rw [if_pos (by omega), if_pos (by omega), if_pos hz]
      have h1 : l.findIdx (· == 0) = i := by
        rw [List.findIdx_eq hlt]
        refine ⟨by rw [rd_nat l i hlt] at hz; simpa using hz, fun j hji => ?_⟩
        have := hj j hji
        rw [rd_nat l j (by omega)] at this
        simpa using this
      unfold freshS
      rw [h1, if_pos hlt]
    · refine Ev.step (f := fun k => tallymanref10_Fresh.l0 k ((i + 1 : Nat) : Int) l) (fun k => ?_) (ih (i + 1) (by omega) (fun j hj2 => ?_))
      · simp only [tallymanref10_Fresh.l0]
        rw [if_pos (by omega), if_pos (by omega), if_neg hz, w64 (by omega) (by omega)]
        rfl
      · by_cases e : j = i
        · subst e; exact hz
        · exact hj j (by omega)
theorem rfresh_ev {l : List Int} (hw : l.all inI64 = true) : Ev (fun k => tallymanref10_Fresh.f k l) (freshR l) := by
  unfold freshR
  cases h : chkOk l with
  | true =>
    rw [if_pos rfl]
    refine Ev.congr (f := fun k => tallymanref10_Fresh.l0 k 0 l) (fun k => ?_) (rfresh_loop l (chkOk_len h) l.length 0 (by omega) (fun j hj => by omega))
    unfold tallymanref10_Fresh.f
    rw [refcheck_eq, check_ok hw h]
    rfl
  | false =>
    refine Ev.congr (f := fun _ => some (0, 2)) (fun k => ?_) (Ev.now _)
    unfold tallymanref10_Fresh.f
    rw [refcheck_eq, check_no hw h]
    rfl

/-! Pages, Count -/
def pagesR (l : List Int) : List Int := if chkOk l = true then pagesS l else []
theorem tpages_ev {l : List Int} (hw : l.all inI64 = true) : Ev (fun k => table_Pages.f k l) (pagesR l) := by
  unfold pagesR
  cases h : chkOk l with
  | true => exact pages_ok hw h
  | false =>
    refine Ev.congr (f := fun _ => some []) (fun k => ?_) (Ev.now _)
    unfold table_Pages.f
    rw [check_no hw h]
    rfl
theorem rpages_loop {l : List Int} (hw : l.all inI64 = true) (h : chkOk l = true) : ∀ (d i : Nat) (acc : List Int), i + d = l.length → acc.length ≤ i → Ev (fun k => tallymanref10_Pages.l0 k acc (i : Int) l) (acc ++ pagesS (l.drop i)) := by
  have hl := chkOk_len h
  intro d
  induction d with
  | zero =>
    intro i acc hi ha
    refine Ev.step (f := fun k => tallymanref10_Pages.j1 k acc (i : Int) false l) (fun k => ?_) (Ev.step (f := fun _ => some (acc ++ pagesS (l.drop i))) (fun k => ?_) (Ev.now _))
    · simp only [tallymanref10_Pages.l0]
      rw [if_neg (by omega)]
    · simp only [tallymanref10_Pages.j1]
      rw [if_neg (by decide), List.drop_of_length_le (by omega)]
      simp [pagesS]
  | succ d ih =>
    intro i acc hi ha
    have hlt : i < l.length := by omega
    refine Ev.step (f := fun k => tallymanref10_Pages.j1 k acc (i : Int) true l) (fun k => ?_) ?_
    · simp only [tallymanref10_Pages.l0]
      rw [if_pos (by omega), refcheck_eq, check_ok hw h]
      rfl
    by_cases hz : rd l (i : Int) = 0
    · have e : acc ++ pagesS (l.drop i) = acc ++ pagesS (l.drop (i + 1)) := by rw [drop_at l i hlt]; simp [pagesS, hz]
      rw [e]
      refine Ev.step (f := fun k => tallymanref10_Pages.l0 k acc ((i + 1 : Nat) : Int) l) (fun k => ?_) (ih (i + 1) acc (by omega) (by omega))
      simp only [tallymanref10_Pages.j1]
      rw [if_pos trivial, if_pos (by omega), if_pos (by omega), if_pos hz, w64 (by omega) (by omega)]
      rfl
    · have e : acc ++ pagesS (l.drop i) = (acc ++ [rd l (i : Int)]) ++ pagesS (l.drop (i + 1)) := by rw [drop_at l i hlt]; simp [pagesS, hz]
      rw [e]
      refine Ev.step (f := fun k => tallymanref10_Pages.l0 k (acc ++ [rd l (i : Int)]) ((i + 1 : Nat) : Int) l) (fun k => ?_) (ih (i + 1) _ (by omega) (by simp; omega))
      simp only [tallymanref10_Pages.j1]
      rw [if_pos trivial, if_pos (by omega), if_pos (by omega), if_neg hz, if_pos (by omega), w64 (by omega) (by omega)]
      rfl
theorem rpages_ev {l : List Int} (hw : l.all inI64 = true) : Ev (fun k => tallymanref10_Pages.f k l) (pagesR l) := by
  unfold pagesR
  cases h : chkOk l with
  | true =>
    have := rpages_loop hw h l.length 0 [] (by omega) (by simp)
    rwa [List.nil_append, List.drop_zero] at this
  | false =>
    rw [if_neg (by decide)]
    by_cases hl : (0 : Int) < (l.length : Int)
    · refine Ev.step (f := fun k => tallymanref10_Pages.j1 k [] 0 false l) (fun k => ?_) (Ev.step (f := fun _ => some []) (fun k => ?_) (Ev.now _))
      · simp only [tallymanref10_Pages.f, tallymanref10_Pages.l0]
        rw [if_pos hl, refcheck_eq, check_no hw h]
        rfl
      · simp only [tallymanref10_Pages.j1]
        rfl
    · refine Ev.step (f := fun k => tallymanref10_Pages.j1 k [] 0 false l) (fun k => ?_) (Ev.step (f := fun _ => some []) (fun k => ?_) (Ev.now _))
      · simp only [tallymanref10_Pages.f, tallymanref10_Pages.l0]
        rw [if_neg hl]
      · simp only [tallymanref10_Pages.j1]
        rfl
theorem tcount_ev {l : List Int} (hw : l.all inI64 = true) : Ev (fun k => table_Count.f k l) ((pagesR l).length : Int) := Ev.bind (tpages_ev hw) (Ev.now _)
/-! ### octet.Number -/
theorem wu64 {x : Int} (h1 : 0 ≤ x) (h2 : x ≤ 18446744073709551615) : IntKind.u64.wrap x = x := by
  have e : IntKind.u64.wrap x = x % 18446744073709551616 := by
    unfold IntKind.wrap
    simp [show IntKind.u64.signed = false from rfl, show IntKind.u64.bits = 64 from rfl]
  rw [e]
  omega
def numB (x : Nat) : List Int := if x < 128 then [(x : Int)] else ((x % 128 + 128 : Nat) : Int) :: numB (x / 128)
termination_by x
decreasing_by omega
theorem numB_lt {x : Nat} (h : x < 128) : numB x = [(x : Int)] := by rw [numB, if_pos h]
theorem numB_ge {x : Nat} (h : ¬ x < 128) : numB x = ((x % 128 + 128 : Nat) : Int) :: numB (x / 128) := by rw [numB, if_neg h]
theorem numB_len : ∀ (d x : Nat), x < 128 ^ d → 0 < d → 1 ≤ (numB x).length ∧ (numB x).length ≤ d
  | 0, _, _, h => by omega
  | d + 1, x, hx, _ => by
    by_cases h : x < 128
    · rw [numB_lt h]
      simp
    · rw [numB_ge h, List.length_cons]
      have hd : 0 < d := by
        rcases Nat.eq_zero_or_pos d with e | e
        · subst e; omega
        · exact e
      have := numB_len d (x / 128) (by rw [Nat.pow_succ] at hx; omega) hd
      omega
theorem or_128 : ∀ y : Fin 256, y.val ||| 128 = y.val % 128 + 128 := by decide +kernel
theorem bits_or_128 (x : Nat) : Go.bits .or .u8 ((x : Int) % 256) 128 = ((x % 128 + 128 : Nat) : Int) := by
  have e1 : (BitVec.ofInt 8 ((x : Int) % 256)).toNat = x % 256 := by
    rw [BitVec.toNat_ofInt]
    omega
  have e2 : (BitVec.ofInt 8 128).toNat = 128 := rfl
  have e3 : (BitVec.ofInt 8 ((x : Int) % 256) ||| BitVec.ofInt 8 128).toNat = x % 128 + 128 := by
    rw [BitVec.toNat_or, e1, e2]
    have := or_128 ⟨x % 256, Nat.mod_lt _ (by omega)⟩
    simp only at this
    omega
  show IntKind.u8.wrap ((BitVec.ofInt 8 ((x : Int) % 256) ||| BitVec.ofInt 8 128).toNat : Int) = _
  rw [e3]
  have e4 : IntKind.u8.wrap ((x % 128 + 128 : Nat) : Int) = ((x % 128 + 128 : Nat) : Int) % 256 := by
    unfold IntKind.wrap
    simp [show IntKind.u8.signed = false from rfl, show IntKind.u8.bits = 8 from rfl]
  rw [e4]
  omega
theorem num_loop : ∀ (d x : Nat) (b : List Int), x < 128 ^ d → 0 < d → b.length + d < 140737488355328 → Ev (fun k => octet_Number.l0 k b (x : Int)) (b ++ numB x) := by
  intro d
  induction d with
  | zero => intro x b _ h; omega
  | succ d ih =>
    intro x b hx _ hb
    by_cases h : x < 128
    · rw [numB_lt h]
      refine Ev.step (f := fun _ => some (b ++ [(x : Int)])) (fun k => ?_) (Ev.now _)
      simp only [octet_Number.l0]
      rw [if_neg (by omega), if_pos (by omega), show (x : Int) % 256 = x by omega]
    · rw [numB_ge h]
      have hd : 0 < d := by
        rcases Nat.eq_zero_or_pos d with e | e
        · subst e; omega
        · exact e
      refine Ev.step (f := fun k => octet_Number.l0 k (b ++ [((x % 128 + 128 : Nat) : Int)]) ((x / 128 : Nat) : Int)) (fun k => ?_) ?_
      · simp only [octet_Number.l0]
        rw [if_pos (by omega), if_pos (by omega), bits_or_128, show (x : Int) / 128 = ((x / 128 : Nat) : Int) by omega]
      · have := ih (x / 128) (b ++ [((x % 128 + 128 : Nat) : Int)]) (by rw [Nat.pow_succ] at hx; omega) hd (by simp; omega)
        rwa [List.append_assoc] at this
theorem number_ev (x : Nat) (b : List Int) (hx : x < 18446744073709551616) (hb : b.length < 140737488355000) : Ev (fun k => octet_Number.f k b (x : Int)) (b ++ numB x) := by
  refine Ev.congr (f := fun k => octet_Number.l0 k b (x : Int)) (fun k => ?_) (num_loop 10 x b (by omega) (by omega) (by omega))
  simp only [octet_Number.f, slices_Clone_byte_byte.f]
  rw [if_pos (by omega)]
  rfl

/-! ### Bytes, and the law -/
theorem rnum_loop : ∀ (d x : Nat) (b : List Int), x < 128 ^ d → x < 18446744073709551616 → 0 < d → b.length + d < 140737488355328 → Ev (fun k => tallymanref01_Number.l0 k (x : Int) b) (b ++ numB x) := by
  intro d
  induction d with
  | zero => intro x b _ _ h; omega
  | succ d ih =>
    intro x b hx hx64 _ hb
    by_cases h : x < 128
    · rw [numB_lt h]
      refine Ev.step (f := fun _ => some (b ++ [(x : Int)])) (fun k => ?_) (Ev.now _)
      simp only [tallymanref01_Number.l0]
      rw [if_neg (by omega), if_pos (by omega), show (x : Int) % 256 = x by omega]
    · rw [numB_ge h]
      have hd : 0 < d := by
        rcases Nat.eq_zero_or_pos d with e | e
        · subst e; omega
        · exact e
      have e1 : Int.tdiv (x : Int) 128 = ((x / 128 : Nat) : Int) := by rw [Int.tdiv_eq_ediv_of_nonneg (by omega)]; omega
      have e2 : Int.tmod (x : Int) 128 = ((x % 128 : Nat) : Int) := by rw [Int.tmod_eq_emod_of_nonneg (by omega)]; omega
      have e3 : IntKind.u64.wrap ((x / 128 : Nat) : Int) = ((x / 128 : Nat) : Int) := wu64 (by omega) (by omega)
      have e4 : IntKind.u64.wrap (128 + ((x % 128 : Nat) : Int)) % 256 = ((x % 128 + 128 : Nat) : Int) := by rw [wu64 (by omega) (by omega)]; omega
      refine Ev.step (f := fun k => tallymanref01_Number.l0 k ((x / 128 : Nat) : Int) (b ++ [((x % 128 + 128 : Nat) : Int)])) (fun k => ?_) ?_
      · simp only [tallymanref01_Number.l0]
        rw [if_pos (by omega), if_pos (by omega), e1, e2, e3, e4]
      · have := ih (x / 128) (b ++ [((x % 128 + 128 : Nat) : Int)]) (by rw [Nat.pow_succ] at hx; omega) (by omega) hd (by simp; omega)
        rwa [List.append_assoc] at this
theorem rnumber_ev (x : Nat) (b : List Int) (hx : x < 18446744073709551616) (hb : b.length < 140737488355000) : Ev (fun k => tallymanref01_Number.f k b (x : Int)) (b ++ numB x) := by
  refine Ev.congr (f := fun k => tallymanref01_Number.l0 k (x : Int) b) (fun k => ?_) (rnum_loop 10 x b (by omega) hx (by omega) (by omega))
  simp only [tallymanref01_Number.f, Option.bind_some, List.length_nil, Nat.zero_add, List.nil_append]
  rw [if_pos (by omega)]
def numsB (l : List Int) : List Int := (l.map fun x => numB x.toNat).flatten
theorem numsB_cons (x : Int) (r : List Int) : numsB (x :: r) = numB x.toNat ++ numsB r := rfl
theorem valid_lo {l : List Int} (h : chkOk l = true) {i : Nat} (hi : i < l.length) : 0 ≤ rd l (i : Int) ∧ rd l (i : Int) < 4096 := by
  have hv := (valid_iff l).1 h
  have hm := rd_mem l i hi
  by_cases hz : rd l (i : Int) = 0
  · omega
  · have := page_range (hv.page _ (nz_mem.mpr ⟨hm, hz⟩))
    omega
theorem tbytes_loop {l : List Int} (h : chkOk l = true) : ∀ (d i : Nat) (x5 : List Int), i + d = l.length → x5.length + 11 * d < 140737488355000 → Ev (fun k => table_Bytes.l0 k x5 l (l.length : Int) (i : Int)) (x5 ++ numsB (l.drop i), 0) := by
  have hl := chkOk_len h
  intro d
  induction d with
  | zero =>
    intro i x5 hi _
    rw [List.drop_of_length_le (by omega)]
    refine Ev.step (f := fun _ => some (x5 ++ numsB [], 0)) (fun k => ?_) (Ev.now _)
    simp only [table_Bytes.l0]
    rw [if_neg (by omega)]
    simp [numsB]
  | succ d ih =>
    intro i x5 hi hx
    have hlt : i < l.length := by omega
    obtain ⟨v0, v1⟩ := valid_lo h hlt
    rw [drop_at l i hlt, numsB_cons, ← List.append_assoc]
    generalize hr : rd l (i : Int) = r at *
    have hnl := numB_len 10 r.toNat (by omega) (by omega)
    have hnum := number_ev r.toNat [] (by omega) (by simp)
    rw [List.nil_append] at hnum
    have e1 : IntKind.u64.wrap r = (r.toNat : Int) := by rw [wu64 (by omega) (by omega)]; omega
    refine Ev.step (f := fun k => (octet_Number.f k [] (r.toNat : Int)).bind fun t => if x5.length + t.length < 140737488355328 then table_Bytes.l0 k (x5 ++ t) l (l.length : Int) ((i + 1 : Nat) : Int) else none) (fun k => ?_) (Ev.bind hnum ?_)
    · simp only [table_Bytes.l0]
      rw [if_pos (by omega), if_pos (by omega), if_pos (by omega), hr, e1, w64 (by omega) (by omega)]
      rfl
    · refine Ev.congr (fun k => ?_) (ih (i + 1) (x5 ++ numB r.toNat) (by omega) (by rw [List.length_append]; omega))
      rw [if_pos (by omega)]
def bytesR (l : List Int) : List Int × Int := if chkOk l = true then (numB l.length ++ numsB l, 0) else ([], 2)
theorem tbytes_ev {l : List Int} (hw : l.all inI64 = true) : Ev (fun k => table_Bytes.f k l) (bytesR l) := by
  unfold bytesR
  cases h : chkOk l with
  | false =>
    refine Ev.congr (f := fun _ => some ([], 2)) (fun k => ?_) (Ev.now _)
    unfold table_Bytes.f
    rw [check_no hw h]
    rfl
  | true =>
    rw [if_pos rfl]
    have hl := chkOk_len h
    have hnl := numB_len 10 l.length (by omega) (by omega)
    have hnum := number_ev l.length [] (by omega) (by simp)
    rw [List.nil_append] at hnum
    have e1 : IntKind.u64.wrap (l.length : Int) = (l.length : Int) := wu64 (by omega) (by omega)
    have hlo := tbytes_loop h l.length 0 (numB l.length) (by omega) (by omega)
    rw [List.drop_zero] at hlo
    refine Ev.congr (f := fun k => (octet_Number.f k [] (l.length : Int)).bind fun t => table_Bytes.l0 k t l (l.length : Int) 0) (fun k => ?_) (Ev.bind hnum hlo)
    unfold table_Bytes.f
    rw [check_ok hw h, e1]
    rfl
theorem rbytes_loop {l : List Int} (h : chkOk l = true) : ∀ (d i : Nat) (x5 : List Int), i + d = l.length → x5.length + 11 * d < 140737488355000 → Ev (fun k => tallymanref10_Bytes.l0 k x5 (i : Int) l) (x5 ++ numsB (l.drop i), 0) := by
  have hl := chkOk_len h
  intro d
  induction d with
  | zero =>
    intro i x5 hi _
    rw [List.drop_of_length_le (by omega)]
    refine Ev.step (f := fun _ => some (x5 ++ numsB [], 0)) (fun k => ?_) (Ev.now _)
    simp only [tallymanref10_Bytes.l0]
    rw [if_neg (by omega)]
    simp [numsB]
  | succ d ih =>
    intro i x5 hi hx
    have hlt : i < l.length := by omega
    obtain ⟨v0, v1⟩ := valid_lo h hlt
    rw [drop_at l i hlt, numsB_cons, ← List.append_assoc]
    generalize hr : rd l (i : Int) = r at *
    have hnl := numB_len 10 r.toNat (by omega) (by omega)
    have hnum := rnumber_ev r.toNat x5 (by omega) (by omega)
    have e1 : IntKind.u64.wrap r = (r.toNat : Int) := by rw [wu64 (by omega) (by omega)]; omega
    refine Ev.step (f := fun k => (tallymanref01_Number.f k x5 (r.toNat : Int)).bind fun t => tallymanref10_Bytes.l0 k t ((i + 1 : Nat) : Int) l) (fun k => ?_) (Ev.bind hnum (ih (i + 1) (x5 ++ numB r.toNat) (by omega) (by rw [List.length_append]; omega)))
    simp only [tallymanref10_Bytes.l0]
    rw [if_pos (by omega), if_pos (by omega), hr, e1, w64 (by omega) (by omega)]
    rfl
theorem rbytes_ev {l : List Int} (hw : l.all inI64 = true) : Ev (fun k => tallymanref10_Bytes.f k l) (bytesR l) := by
  unfold bytesR
  cases h : chkOk l with
  | false =>
    refine Ev.congr (f := fun _ => some ([], 2)) (fun k => ?_) (Ev.now _)
    unfold tallymanref10_Bytes.f
    rw [refcheck_eq, check_no hw h]
    rfl
  | true =>
    rw [if_pos rfl]
    have hl := chkOk_len h
    have hnl := numB_len 10 l.length (by omega) (by omega)
    have hnum := rnumber_ev l.length [] (by omega) (by simp)
    rw [List.nil_append] at hnum
    have e1 : IntKind.u64.wrap (l.length : Int) = (l.length : Int) := wu64 (by omega) (by omega)
    have hlo := rbytes_loop h l.length 0 (numB l.length) (by omega) (by omega)
    rw [List.drop_zero] at hlo
    refine Ev.congr (f := fun k => (tallymanref01_Number.f k [] (l.length : Int)).bind fun t => tallymanref10_Bytes.l0 k t 0 l) (fun k => ?_) (Ev.bind hnum hlo)
    unfold tallymanref10_Bytes.f
    rw [refcheck_eq, check_ok hw h, e1]
    rfl
end Go.Proofs.Ytefnndodcpimiaa.H
