/- Plain facts about the printed functions: what each of them answers. -/
import Derived.Test.YtefnndodcpimiaaH3
namespace Go.Proofs.Ytefnndodcpimiaa.H
open Go.RowKit Go.Proofs.YtefnndodcpimiaaW.PrintWords Go.Proofs.YtefnndodcpimiaaW.PrintLast Go.Proofs.YtefnndodcpimiaaW.PrintMore
set_option linter.unusedVariables false
set_option linter.unusedSimpArgs false
theorem w64 {x : Int} (h1 : -9223372036854775808 ≤ x) (h2 : x ≤ 9223372036854775807) : wrap64 x = x := by unfold wrap64; omega
theorem rd_nat (l : List Int) (i : Nat) (h : i < l.length) : rd l (i : Int) = l[i] := by simp [rd, h]
theorem rd_mem (l : List Int) (i : Nat) (h : i < l.length) : rd l (i : Int) ∈ l := by rw [rd_nat l i h]; exact List.getElem_mem h

/-! Fresh -/
def freshS (l : List Int) : Int × Int := if l.findIdx (· == 0) < l.length then ((l.findIdx (· == 0) : Int), 0) else if l.length = 65536 then (0, 9) else ((l.length : Int), 0)
theorem drop_at (l : List Int) (i : Nat) (h : i < l.length) : l.drop i = rd l (i : Int) :: l.drop (i + 1) := by
  rw [rd_nat l i h]
  exact List.drop_eq_getElem_cons h
theorem fresh_loop (l : List Int) (hl : l.length ≤ 65536) : ∀ (d i : Nat), i + d = l.length → (∀ j, j < i → ¬ rd l (j : Int) = 0) → Ev (fun k => table_Fresh.l0 k l (l.length : Int) (i : Int) l) (freshS l) := by
  intro d
  induction d with
  | zero =>
    intro i hi hj
    refine Ev.step (f := fun _ => some (freshS l)) (fun k => ?_) (Ev.now _)
    simp only [table_Fresh.l0]
    rw [if_neg (by omega)]
    have h1 : ¬ l.findIdx (· == 0) < l.length := by
      intro h
      have h2 := List.findIdx_getElem (xs := l) (p := (· == 0)) (w := h)
      refine hj (l.findIdx (· == 0)) (by omega) ?_
      rw [rd_nat l _ h]
      simpa using h2
    unfold freshS
    rw [if_neg h1]
    by_cases h : l.length = 65536
    · rw [if_pos h, if_pos (by omega)]
    · rw [if_neg h, if_neg (by omega)]
  | succ d ih =>
    intro i hi hj
    have hlt : i < l.length := by omega
    by_cases hz : rd l (i : Int) = 0
    · refine Ev.step (f := fun _ => some (freshS l)) (fun k => ?_) (Ev.now _)
      simp only [table_Fresh.l0]
      rw [if_pos (by omega), if_pos (by omega), if_pos (by omega), if_pos hz]
      have h1 : l.findIdx (· == 0) = i := by
        rw [List.findIdx_eq hlt]
        refine ⟨by rw [rd_nat l i hlt] at hz; simpa using hz, fun j hji => ?_⟩
        have := hj j hji
        rw [rd_nat l j (by omega)] at this
        simpa using this
      unfold freshS
      rw [h1, if_pos hlt]
    · refine Ev.step (f := fun k => table_Fresh.l0 k l (l.length : Int) ((i + 1 : Nat) : Int) l) (fun k => ?_) (ih (i + 1) (by omega) (fun j hji => ?_))
      · simp only [table_Fresh.l0]
        rw [if_pos (by omega), if_pos (by omega), if_pos (by omega), if_neg hz, w64 (by omega) (by omega)]
        rfl
      · rcases Nat.lt_or_ge j i with h | h
        · exact hj j h
        · have : j = i := by omega
          subst this
          exact hz
theorem chkOk_len {l : List Int} (h : chkOk l = true) : l.length ≤ 65536 := by
  unfold chkOk at h
  simp only [Bool.and_eq_true, decide_eq_true_eq] at h
  exact h.1.1
theorem check_ok {l : List Int} (hw : l.all inI64 = true) (h : chkOk l = true) : table_Check.f l = some 0 := by
  unfold table_Check.f
  rw [if_pos hw, if_pos h]
theorem check_no {l : List Int} (hw : l.all inI64 = true) (h : chkOk l = false) : table_Check.f l = some 2 := by
  unfold table_Check.f
  rw [if_pos hw, h]
  rfl
theorem fresh_ok {l : List Int} (hw : l.all inI64 = true) (h : chkOk l = true) : Ev (fun k => table_Fresh.f k l) (freshS l) := by
  refine Ev.congr (f := fun k => table_Fresh.l0 k l (l.length : Int) ((0 : Nat) : Int) l) (fun k => ?_) (fresh_loop l (chkOk_len h) l.length 0 (by omega) (fun j hj => by omega))
  unfold table_Fresh.f
  rw [check_ok hw h]
  rfl

/-! Index, Find -/
def indexS (l : List Int) (a : Int) : Int := if l.findIdx (· == a) < l.length then (l.findIdx (· == a) : Int) else -1
theorem index_loop (l : List Int) (a : Int) (hl : l.length ≤ 9223372036854775807) : ∀ (d i : Nat), i + d = l.length → (∀ j, j < i → ¬ rd l (j : Int) = a) → Ev (fun k => slices_Index_int_int.l0 k l a (l.length : Int) (i : Int)) (indexS l a) := by
  intro d
  induction d with
  | zero =>
    intro i hi hj
    refine Ev.step (f := fun _ => some (indexS l a)) (fun k => ?_) (Ev.now _)
    simp only [slices_Index_int_int.l0]
    rw [if_neg (by omega)]
    have h1 : ¬ l.findIdx (· == a) < l.length := by
      intro h
      have h2 := List.findIdx_getElem (xs := l) (p := (· == a)) (w := h)
      refine hj (l.findIdx (· == a)) (by omega) ?_
      rw [rd_nat l _ h]
      simpa using h2
    unfold indexS
    rw [if_neg h1]
  | succ d ih =>
    intro i hi hj
    have hlt : i < l.length := by omega
    by_cases hz : rd l (i : Int) = a
    · refine Ev.step (f := fun _ => some (indexS l a)) (fun k => ?_) (Ev.now _)
      simp only [slices_Index_int_int.l0]
      rw [if_pos (by omega), if_pos (by omega), if_pos (by omega), if_pos hz.symm]
      have h1 : l.findIdx (· == a) = i := by
        rw [List.findIdx_eq hlt]
        refine ⟨by rw [rd_nat l i hlt] at hz; simpa using hz, fun j hji => ?_⟩
        have := hj j hji
        rw [rd_nat l j (by omega)] at this
        simpa using this
      unfold indexS
      rw [h1, if_pos hlt]
    · refine Ev.step (f := fun k => slices_Index_int_int.l0 k l a (l.length : Int) ((i + 1 : Nat) : Int)) (fun k => ?_) (ih (i + 1) (by omega) (fun j hji => ?_))
      · simp only [slices_Index_int_int.l0]
        rw [if_pos (by omega), if_pos (by omega), if_pos (by omega), if_neg (fun e => hz e.symm), w64 (by omega) (by omega)]
        rfl
      · rcases Nat.lt_or_ge j i with h | h
        · exact hj j h
        · have : j = i := by omega
          subst this
          exact hz
theorem index_ok (l : List Int) (a : Int) (hl : l.length ≤ 9223372036854775807) : Ev (fun k => slices_Index_int_int.f k l a) (indexS l a) :=
  index_loop l a hl l.length 0 (by omega) (fun j hj => by omega)
def findS (l : List Int) (a : Int) : Int × Bool := if a = 0 then (0, false) else if l.findIdx (· == a) < l.length then ((l.findIdx (· == a) : Int), true) else (0, false)
theorem find_ok {l : List Int} (hw : l.all inI64 = true) (h : chkOk l = true) (a : Int) : Ev (fun k => table_Find.f k l a) (findS l a) := by
  have hl := chkOk_len h
  by_cases ha : a = 0
  · refine Ev.congr (f := fun _ => some (findS l a)) (fun k => ?_) (Ev.now _)
    unfold table_Find.f findS
    rw [check_ok hw h]
    simp only [Option.bind_some, if_true]
    rw [if_pos ha, if_pos ha]
  · refine Ev.congr (f := fun k => (slices_Index_int_int.f k l a).bind fun t107 => (some (mx 0 t107, decide (t107 ≥ 0)))) (fun k => ?_) (Ev.bind (index_ok l a (by omega)) (Ev.congr (f := fun _ => some (findS l a)) (fun k => ?_) (Ev.now _)))
    · unfold table_Find.f
      rw [check_ok hw h]
      simp only [Option.bind_some, if_true]
      rw [if_neg ha]
    · unfold findS indexS mx
      rw [if_neg ha]
      split
      · have : (if (0 : Int) < ((l.findIdx (· == a) : Nat) : Int) then ((l.findIdx (· == a) : Nat) : Int) else 0) = ((l.findIdx (· == a) : Nat) : Int) := by split <;> omega
        rw [this]
        simp
      · simp
/-! Get -/
def getS (l : List Int) (n : Int) : Int × Bool := if 0 ≤ n ∧ n < l.length then (rd l n, !(rd l n == 0)) else (0, false)
theorem get_ok {l : List Int} (hw : l.all inI64 = true) (h : chkOk l = true) (n : Int) : table_Get.f l n = some (getS l n) := by
  unfold table_Get.f getS
  rw [check_ok hw h]
  simp only [Option.bind_some, if_true]
  by_cases h1 : n < 0
  · rw [if_pos h1, if_neg (by omega)]
  · by_cases h2 : n ≥ (l.length : Int)
    · rw [if_neg h1, if_pos h2, if_neg (by omega)]
    · rw [if_neg h1, if_neg h2, if_pos (show 0 ≤ n by omega), if_pos (show n < (l.length : Int) by omega), if_pos (show 0 ≤ n ∧ n < (l.length : Int) by omega)]
      by_cases h3 : rd l n = 0
      · rw [if_pos h3, h3]; rfl
      · rw [if_neg h3]; simp [h3]
/-! Ints -/
theorem ints_loop (a b : List Int) (hl : a.length = b.length) (hm : a.length ≤ 9223372036854775807) : ∀ (d i : Nat), i + d = a.length → (∀ j, j < i → rd a (j : Int) = rd b (j : Int)) → Ev (fun k => tallymankit_Ints.l0 k a b (i : Int)) (decide (a = b)) := by
  intro d
  induction d with
  | zero =>
    intro i hi hj
    refine Ev.step (f := fun _ => some (decide (a = b))) (fun k => ?_) (Ev.now _)
    simp only [tallymankit_Ints.l0]
    rw [if_neg (by omega)]
    have : a = b := List.ext_getElem hl (fun j h1 h2 => by have := hj j (by omega); rwa [rd_nat a j h1, rd_nat b j h2] at this)
    simp [this]
  | succ d ih =>
    intro i hi hj
    by_cases hz : rd a (i : Int) = rd b (i : Int)
    · refine Ev.step (f := fun k => tallymankit_Ints.l0 k a b ((i + 1 : Nat) : Int)) (fun k => ?_) (ih (i + 1) (by omega) (fun j hji => ?_))
      · simp only [tallymankit_Ints.l0]
        rw [if_pos (by omega), if_pos (by omega), if_pos (by omega), if_pos hz, w64 (by omega) (by omega)]
        rfl
      · rcases Nat.lt_or_ge j i with h | h
        · exact hj j h
        · have : j = i := by omega
          subst this
          exact hz
    · refine Ev.step (f := fun _ => some (decide (a = b))) (fun k => ?_) (Ev.now _)
      simp only [tallymankit_Ints.l0]
      rw [if_pos (by omega), if_pos (by omega), if_pos (by omega), if_neg hz]
      have : ¬ a = b := fun e => hz (by rw [e])
      simp [this]
theorem ints_ok (a b : List Int) (hm : a.length ≤ 9223372036854775807) : Ev (fun k => tallymankit_Ints.f k a b) (decide (a = b)) := by
  by_cases hl : a.length = b.length
  · refine Ev.congr (fun k => ?_) (ints_loop a b hl hm a.length 0 (by omega) (fun j hj => by omega))
    unfold tallymankit_Ints.f
    rw [if_pos (by omega)]
    rfl
  · refine Ev.congr (f := fun _ => some (decide (a = b))) (fun k => ?_) (Ev.now _)
    unfold tallymankit_Ints.f
    rw [if_neg (by omega)]
    have : ¬ a = b := fun e => hl (by rw [e])
    simp [this]
/-! Pages, Count -/
def pagesS (l : List Int) : List Int := l.filter (fun x => !(x == 0))
theorem pages_loop (l : List Int) (hl : l.length ≤ 65536) : ∀ (d i : Nat) (acc : List Int), i + d = l.length → acc.length ≤ i → Ev (fun k => table_Pages.l0 k acc l (l.length : Int) (i : Int)) (acc ++ pagesS (l.drop i)) := by
  intro d
  induction d with
  | zero =>
    intro i acc hi ha
    refine Ev.step (f := fun _ => some (acc ++ pagesS (l.drop i))) (fun k => ?_) (Ev.now _)
    simp only [table_Pages.l0]
    rw [if_neg (by omega), List.drop_of_length_le (by omega)]
    simp [pagesS]
  | succ d ih =>
    intro i acc hi ha
    have hlt : i < l.length := by omega
    by_cases hz : rd l (i : Int) = 0
    · have e : acc ++ pagesS (l.drop i) = acc ++ pagesS (l.drop (i + 1)) := by rw [drop_at l i hlt]; simp [pagesS, hz]
      rw [e]
      refine Ev.step (f := fun k => table_Pages.l0 k acc l (l.length : Int) ((i + 1 : Nat) : Int)) (fun k => ?_) (ih (i + 1) acc (by omega) (by omega))
      simp only [table_Pages.l0]
      rw [if_pos (by omega), if_pos (by omega), if_pos (by omega), if_pos hz, w64 (by omega) (by omega)]
      rfl
    · have e : acc ++ pagesS (l.drop i) = (acc ++ [rd l (i : Int)]) ++ pagesS (l.drop (i + 1)) := by rw [drop_at l i hlt]; simp [pagesS, hz]
      rw [e]
      refine Ev.step (f := fun k => table_Pages.l0 k (acc ++ [rd l (i : Int)]) l (l.length : Int) ((i + 1 : Nat) : Int)) (fun k => ?_) (ih (i + 1) _ (by omega) (by simp; omega))
      simp only [table_Pages.l0]
      rw [if_pos (by omega), if_pos (by omega), if_pos (by omega), if_neg hz, if_pos (by omega), w64 (by omega) (by omega)]
      rfl
theorem pages_ok {l : List Int} (hw : l.all inI64 = true) (h : chkOk l = true) : Ev (fun k => table_Pages.f k l) (pagesS l) := by
  have h0 := pages_loop l (chkOk_len h) l.length 0 [] (by omega) (by simp)
  refine Ev.congr (fun k => ?_) h0
  unfold table_Pages.f
  rw [check_ok hw h]
  rfl
theorem count_ok {l : List Int} (hw : l.all inI64 = true) (h : chkOk l = true) : Ev (fun k => table_Count.f k l) ((pagesS l).length : Int) :=
  Ev.bind (pages_ok hw h) (Ev.now _)
theorem lives_ok : Ev (fun k => tallymanlaw10_lives.f k) true := Ev.of tallymanlaw10_lives.mono (k := 80) (by decide +kernel)
/-! ### What a valid table is -/
def nz (l : List Int) : List Int := l.filter (fun x => !(x == 0))
theorem nz_cons0 (r : List Int) : nz (0 :: r) = nz r := rfl
theorem nz_cons (x : Int) (r : List Int) (h : ¬ x = 0) : nz (x :: r) = x :: nz r := by simp [nz, h]
theorem nz_append (a b : List Int) : nz (a ++ b) = nz a ++ nz b := by simp [nz]
theorem nz_mem {x : Int} {l : List Int} : x ∈ nz l ↔ x ∈ l ∧ ¬ x = 0 := by simp [nz]
theorem fold_iff : ∀ (l acc : List Int), acc.Nodup → ((l.foldl chkStep (some acc)).isSome = true ↔ (∀ x ∈ nz l, isPageB x = true) ∧ (acc ++ nz l).Nodup)
  | [], acc, h => by simp [nz, h]
  | x :: r, acc, h => by
    rw [List.foldl_cons]
    by_cases hz : x = 0
    · subst hz
      rw [nz_cons0]
      exact fold_iff r acc h
    · rw [nz_cons x r hz]
      simp only [chkStep, if_neg hz]
      by_cases hb : (acc.contains x || !isPageB x) = true
      · rw [if_pos hb, chkStep_none]
        simp only [Option.isSome_none, Bool.false_eq_true, false_iff]
        rintro ⟨h1, h2⟩
        rw [Bool.or_eq_true] at hb
        rcases hb with hb | hb
        · rw [List.nodup_append] at h2
          exact h2.2.2 x (by simpa using hb) x (by simp) rfl
        · rw [h1 x (by simp)] at hb
          simp at hb
      · rw [if_neg hb]
        rw [Bool.not_eq_true, Bool.or_eq_false_iff] at hb
        have hn : x ∉ acc := by simpa using hb.1
        rw [fold_iff r (acc ++ [x]) (by rw [List.nodup_append]; exact ⟨h, by simp, fun a ha b hb e => by simp at hb; subst hb; subst e; exact hn ha⟩)]
        rw [List.append_assoc, List.singleton_append]
        constructor
        · rintro ⟨h1, h2⟩
          exact ⟨fun y hy => by
            rcases List.mem_cons.mp hy with rfl | hy
            · simpa using hb.2
            · exact h1 y hy, h2⟩
        · rintro ⟨h1, h2⟩
          exact ⟨fun y hy => h1 y (List.mem_cons_of_mem _ hy), h2⟩
structure Valid (l : List Int) : Prop where
  len : l.length ≤ 65536
  last : l = [] ∨ ¬ l.getLastD 0 = 0
  page : ∀ x ∈ nz l, isPageB x = true
  once : (nz l).Nodup
theorem valid_iff (l : List Int) : chkOk l = true ↔ Valid l := by
  have h := fold_iff l [] (by simp)
  unfold chkOk chkPre
  rw [List.take_length]
  simp only [Bool.and_eq_true, decide_eq_true_eq, Bool.or_eq_true, List.isEmpty_iff]
  rw [h, List.nil_append]
  constructor
  · rintro ⟨⟨h1, h2⟩, h3, h4⟩
    exact ⟨h1, h2.imp id (fun e => by simpa using e), h3, h4⟩
  · rintro ⟨h1, h2, h3, h4⟩
    exact ⟨⟨h1, h2.imp id (fun e => by simpa using e)⟩, h3, h4⟩
theorem page_range {x : Int} (h : isPageB x = true) : 2 ≤ x ∧ x < 4096 := by
  unfold isPageB at h
  simpa using h
theorem valid_in {l : List Int} (h : Valid l) : l.all inI64 = true := by
  rw [List.all_eq_true]
  intro x hx
  unfold inI64
  by_cases hz : x = 0
  · subst hz; rfl
  · have := page_range (h.page x (nz_mem.mpr ⟨hx, hz⟩))
    simp
    omega
theorem trimZ_id {l : List Int} (h : l = [] ∨ ¬ l.getLastD 0 = 0) : trimZ l = l := by
  rcases h with rfl | h
  · rfl
  · rcases List.eq_nil_or_concat l with rfl | ⟨a, x, rfl⟩
    · rfl
    · rw [List.concat_eq_append] at *
      have hx : ¬ x = 0 := by simpa using h
      exact trimZ_snoc a x hx
theorem put_ok (l : List Int) (n : Nat) (p : Int) (hl : l.length ≤ 65536) (hn : n ≤ 65536) : table_put.f l (n : Int) p = some (trimZ ((padTo l (n + 1)).set n p)) := by
  unfold table_put.f
  rw [if_pos (by omega), Int.toNat_natCast]
theorem pad_lt (l : List Int) (n : Nat) (h : n < l.length) : padTo l (n + 1) = l := by
  unfold padTo
  rw [show n + 1 - l.length = 0 by omega]
  simp
theorem pad_eq (l : List Int) : padTo l (l.length + 1) = l ++ [0] := by
  unfold padTo
  rw [show l.length + 1 - l.length = 1 by omega]
  rfl
theorem set_mid (a b : List Int) (x y : Int) : (a ++ x :: b).set a.length y = a ++ y :: b := by
  rw [List.set_append_right _ _ (by omega)]
  simp
theorem lastD_mid (a b : List Int) (x y : Int) (hb : ¬ b = []) : (a ++ x :: b).getLastD 0 = (a ++ y :: b).getLastD 0 := by
  rcases List.eq_nil_or_concat b with rfl | ⟨c, z, rfl⟩
  · exact absurd rfl hb
  · rw [List.concat_eq_append, show a ++ x :: (c ++ [z]) = (a ++ x :: c) ++ [z] by simp, show a ++ y :: (c ++ [z]) = (a ++ y :: c) ++ [z] by simp, List.getLastD_concat, List.getLastD_concat]
/-- A free place: the first nought, or the end. -/
structure Free (l a b : List Int) : Prop where
  eq : l = a ++ 0 :: b ∨ (l = a ∧ b = [])
  full : ∀ x ∈ a, ¬ x = 0
theorem free_of (l : List Int) : ∃ a b, Free l a b ∧ l.findIdx (· == 0) = a.length := by
  induction l with
  | nil => exact ⟨[], [], ⟨.inr ⟨rfl, rfl⟩, by simp⟩, rfl⟩
  | cons x r ih =>
    by_cases hz : x = 0
    · subst hz
      exact ⟨[], r, ⟨.inl rfl, by simp⟩, by rw [List.findIdx_cons]; rfl⟩
    · obtain ⟨a, b, h, e⟩ := ih
      refine ⟨x :: a, b, ⟨?_, ?_⟩, ?_⟩
      · rcases h.eq with h1 | ⟨h1, h2⟩
        · exact .inl (by rw [h1]; rfl)
        · exact .inr ⟨by rw [h1], h2⟩
      · intro y hy
        rcases List.mem_cons.mp hy with rfl | hy
        · exact hz
        · exact h.full y hy
      · rw [List.findIdx_cons]
        rw [show (x == 0) = false by simpa using hz, e]
        rfl
theorem free_nz {l a b : List Int} (h : Free l a b) : nz l = nz a ++ nz b := by
  rcases h.eq with h1 | ⟨h1, h2⟩
  · rw [h1, nz_append, nz_cons0]
  · rw [h1, h2]
    simp [nz]
theorem free_valid {l a b : List Int} (h : Free l a b) (hv : Valid l) (hlen : l.length < 65536) {p : Int} (hp : isPageB p = true) (hn : p ∉ l) : Valid (a ++ p :: b) := by
  have hp0 : ¬ p = 0 := by have := page_range hp; omega
  have hnz : nz (a ++ p :: b) = nz a ++ p :: nz b := by rw [nz_append, nz_cons p b hp0]
  have e := free_nz h
  have hlb : (a ++ p :: b).length ≤ l.length + 1 := by
    rcases h.eq with h1 | ⟨h1, h2⟩
    · rw [h1]; simp
    · rw [h1, h2]; simp
  have hperm : (nz (a ++ p :: b)).Perm (p :: nz l) := by rw [hnz, e]; exact List.perm_middle
  refine ⟨by omega, .inr ?_, fun x hx => ?_, ?_⟩
  · rcases h.eq with h1 | ⟨h1, h2⟩
    · by_cases hb : b = []
      · subst hb
        simpa using hp0
      · rw [lastD_mid a b p 0 hb, ← h1]
        rcases hv.last with hl | hl
        · rw [hl] at h1; simp at h1
        · exact hl
    · subst h2
      simpa using hp0
  · rcases List.mem_cons.mp (hperm.mem_iff.mp hx) with rfl | hx
    · exact hp
    · exact hv.page x hx
  · rw [hperm.nodup_iff, List.nodup_cons]
    exact ⟨fun hm => hn (nz_mem.mp hm).1, hv.once⟩
theorem free_put {l a b : List Int} (h : Free l a b) (hv : Valid l) (hlen : l.length < 65536) {p : Int} (hp : isPageB p = true) (hn : p ∉ l) : table_put.f l (a.length : Int) p = some (a ++ p :: b) := by
  have hu := free_valid h hv hlen hp hn
  have hal : a.length ≤ l.length := by
    rcases h.eq with h1 | ⟨h1, _⟩
    · rw [h1]; simp
    · rw [h1]; exact Nat.le_refl _
  rw [put_ok l a.length p (by omega) (by omega)]
  congr 1
  rcases h.eq with h1 | ⟨h1, h2⟩
  · rw [pad_lt l _ (by rw [h1]; simp), h1, set_mid]
    exact trimZ_id hu.last
  · subst h2
    subst h1
    rw [pad_eq, show l ++ [(0 : Int)] = l ++ 0 :: [] from rfl, set_mid]
    exact trimZ_id hu.last
theorem free_back {l a b : List Int} (h : Free l a b) (hv : Valid l) (hlen : l.length < 65536) (p : Int) : table_put.f (a ++ p :: b) (a.length : Int) 0 = some l := by
  have hlb : (a ++ p :: b).length ≤ l.length + 1 ∧ a.length ≤ l.length := by
    rcases h.eq with h1 | ⟨h1, h2⟩
    · rw [h1]; simp
    · rw [h1, h2]; simp
  rw [put_ok _ a.length 0 (by omega) (by omega), pad_lt _ _ (by simp), set_mid]
  congr 1
  rcases h.eq with h1 | ⟨h1, h2⟩
  · rw [← h1]
    exact trimZ_id hv.last
  · subst h2
    subst h1
    rw [show l ++ (0 : Int) :: [] = l ++ [0] from rfl, trimZ_snoc0]
    exact trimZ_id hv.last
theorem findIdx_full (a b : List Int) (p : Int) (ha : ∀ x ∈ a, ¬ x = 0) (hp : ¬ p = 0) : a.length < (a ++ p :: b).findIdx (· == 0) := by
  rw [List.findIdx_append]
  have h1 : ¬ a.findIdx (· == 0) < a.length := by
    intro h
    have h2 := List.findIdx_getElem (xs := a) (p := (· == 0)) (w := h)
    exact ha _ (List.getElem_mem h) (by simpa using h2)
  rw [if_neg h1, List.findIdx_cons, show (p == 0) = false by simpa using hp]
  show _ < _ + 1 + _
  omega
/-- Where a page stands: there alone. -/
theorem findIdx_once {l : List Int} (hv : (nz l).Nodup) {n : Nat} (h : n < l.length) (hz : ¬ l[n] = 0) : l.findIdx (· == l[n]) = n := by
  rw [List.findIdx_eq h]
  refine ⟨by simp, fun j hj => ?_⟩
  simp only [beq_eq_false_iff_ne, ne_eq]
  intro e
  have e1 : l = l.take n ++ l[n] :: l.drop (n + 1) := by rw [← List.drop_eq_getElem_cons h, List.take_append_drop]
  rw [e1, nz_append, nz_cons _ _ hz, List.nodup_append] at hv
  refine hv.2.2 l[n] (nz_mem.mpr ⟨?_, hz⟩) l[n] (by simp) rfl
  rw [List.mem_take_iff_getElem]
  exact ⟨j, by omega, e⟩
end Go.Proofs.Ytefnndodcpimiaa.H
