/- Plain facts about the printed functions: what each of them answers. -/
import Derived.Test.YtpagondojdlknaaM5
namespace Go.Proofs.Ytpagondojdlknaa.H
open Go.RowKit Go.Proofs.YtpagondojdlknaaW.PrintWords Go.Proofs.YtpagondojdlknaaW.PrintLast Go.Proofs.YtpagondojdlknaaW.PrintMore
set_option linter.unusedVariables false
set_option linter.unusedSimpArgs false
/-! Sets told by rising rows: their algebra. -/
theorem inc_iff : ∀ {l : List Int}, incB l = true ↔ l.Pairwise (· < ·)
  | [] => by simp [incB]
  | a :: r => by
    constructor
    · intro h
      exact List.pairwise_cons.2 ⟨incB_lt h, inc_iff.1 (incB_tail h)⟩
    · intro h
      have h2 := List.pairwise_cons.1 h
      cases r with
      | nil => rfl
      | cons b r =>
        rw [incB_cons, Bool.and_eq_true]
        exact ⟨decide_eq_true (h2.1 b (List.mem_cons_self ..)), inc_iff.2 h2.2⟩
theorem inc_ext : ∀ {a b : List Int}, a.Pairwise (· < ·) → b.Pairwise (· < ·) → (∀ x, x ∈ a ↔ x ∈ b) → a = b
  | [], [], _, _, _ => rfl
  | [], b :: y, _, _, h => by have := (h b).2 (List.mem_cons_self ..); simp at this
  | a :: x, [], _, _, h => by have := (h a).1 (List.mem_cons_self ..); simp at this
  | a :: x, b :: y, h1, h2, h => by
    have g1 := List.pairwise_cons.1 h1
    have g2 := List.pairwise_cons.1 h2
    have e : a = b := by
      have ha := (h a).1 (List.mem_cons_self ..)
      have hb := (h b).2 (List.mem_cons_self ..)
      rcases List.mem_cons.1 ha with ha | ha
      · exact ha
      · rcases List.mem_cons.1 hb with hb | hb
        · exact hb.symm
        · have := g1.1 b hb
          have := g2.1 a ha
          omega
    subst e
    have hx : x = y := by
      refine inc_ext g1.2 g2.2 (fun z => ⟨fun hz => ?_, fun hz => ?_⟩)
      · have := g1.1 z hz
        rcases List.mem_cons.1 ((h z).1 (List.mem_cons_of_mem _ hz)) with e | e
        · omega
        · exact e
      · have := g2.1 z hz
        rcases List.mem_cons.1 ((h z).2 (List.mem_cons_of_mem _ hz)) with e | e
        · omega
        · exact e
    rw [hx]
/-- What the rows side by side hold. -/
theorem pairs_mem : ∀ (a b : List Int), a.Pairwise (· < ·) → b.Pairwise (· < ·) → ∀ t : Int × Bool × Bool, t ∈ pairsS a b ↔ ((t.1 ∈ a ∨ t.1 ∈ b) ∧ (t.2.1 = decide (t.1 ∈ a)) ∧ (t.2.2 = decide (t.1 ∈ b)))
  | [], [], _, _, t => by simp [pairsS]
  | a :: x, [], h1, h2, t => by
    have g1 := List.pairwise_cons.1 h1
    have ih := pairs_mem x [] g1.2 h2 t
    obtain ⟨v, p, q⟩ := t
    have na : a ∉ x := fun hm => by have := g1.1 a hm; omega
    simp only [pairsS, List.mem_cons, ih, Prod.mk.injEq]
    by_cases hv : v = a
    · subst hv
      simp [na]
    · simp [hv]
  | [], b :: y, h1, h2, t => by
    have g2 := List.pairwise_cons.1 h2
    have ih := pairs_mem [] y h1 g2.2 t
    obtain ⟨v, p, q⟩ := t
    have nb : b ∉ y := fun hm => by have := g2.1 b hm; omega
    simp only [pairsS, List.mem_cons, ih, Prod.mk.injEq]
    by_cases hv : v = b
    · subst hv
      simp [nb]
    · simp [hv]
  | a :: x, b :: y, h1, h2, t => by
    have g1 := List.pairwise_cons.1 h1
    have g2 := List.pairwise_cons.1 h2
    unfold pairsS
    split
    · rename_i hab
      have ih := pairs_mem x (b :: y) g1.2 h2 t
      have na : a ∉ (b :: y) := by
        intro hm
        rcases List.mem_cons.1 hm with e | e
        · omega
        · have := g2.1 a e; omega
      have nx : a ∉ x := fun hm => by have := g1.1 a hm; omega
      obtain ⟨v, p, q⟩ := t
      rw [List.mem_cons, ih]
      simp only [Prod.mk.injEq]
      by_cases hv : v = a
      · subst hv
        simp [nx, na]
      · simp [hv]
    · split
      · rename_i hba
        have ih := pairs_mem (a :: x) y h1 g2.2 t
        have na : b ∉ (a :: x) := by
          intro hm
          rcases List.mem_cons.1 hm with e | e
          · omega
          · have := g1.1 b e; omega
        have nx : b ∉ y := fun hm => by have := g2.1 b hm; omega
        obtain ⟨v, p, q⟩ := t
        rw [List.mem_cons, ih]
        simp only [Prod.mk.injEq]
        by_cases hv : v = b
        · subst hv
          simp [nx, na]
        · simp [hv]
      · have e : a = b := by omega
        subst e
        have ih := pairs_mem x y g1.2 g2.2 t
        have nx : a ∉ x := fun hm => by have := g1.1 a hm; omega
        have ny : a ∉ y := fun hm => by have := g2.1 a hm; omega
        obtain ⟨v, p, q⟩ := t
        rw [List.mem_cons, ih]
        simp only [Prod.mk.injEq]
        by_cases hv : v = a
        · subst hv
          simp [nx, ny]
        · simp [hv]
termination_by a b => a.length + b.length
theorem pairs_lt {a b : List Int} (h1 : a.Pairwise (· < ·)) (h2 : b.Pairwise (· < ·)) (c : Int) (ha : ∀ x ∈ a, c < x) (hb : ∀ x ∈ b, c < x) : ∀ t ∈ pairsS a b, c < t.1 := by
  intro t ht
  rcases ((pairs_mem a b h1 h2 t).1 ht).1 with h | h
  · exact ha _ h
  · exact hb _ h
theorem pairs_inc : ∀ (a b : List Int), a.Pairwise (· < ·) → b.Pairwise (· < ·) → (pairsS a b).Pairwise (fun s t => s.1 < t.1)
  | [], [], _, _ => by simp [pairsS]
  | a :: x, [], h1, h2 => by
    have g1 := List.pairwise_cons.1 h1
    simp only [pairsS]
    exact List.pairwise_cons.2 ⟨pairs_lt g1.2 h2 a g1.1 (by simp), pairs_inc x [] g1.2 h2⟩
  | [], b :: y, h1, h2 => by
    have g2 := List.pairwise_cons.1 h2
    simp only [pairsS]
    exact List.pairwise_cons.2 ⟨pairs_lt h1 g2.2 b (by simp) g2.1, pairs_inc [] y h1 g2.2⟩
  | a :: x, b :: y, h1, h2 => by
    have g1 := List.pairwise_cons.1 h1
    have g2 := List.pairwise_cons.1 h2
    unfold pairsS
    split
    · rename_i hab
      refine List.pairwise_cons.2 ⟨pairs_lt g1.2 h2 a g1.1 (fun z hz => ?_), pairs_inc x (b :: y) g1.2 h2⟩
      rcases List.mem_cons.1 hz with e | e
      · omega
      · have := g2.1 z e; omega
    · split
      · rename_i hba
        refine List.pairwise_cons.2 ⟨pairs_lt h1 g2.2 b (fun z hz => ?_) g2.1, pairs_inc (a :: x) y h1 g2.2⟩
        rcases List.mem_cons.1 hz with e | e
        · omega
        · have := g1.1 z e; omega
      · have e : a = b := by omega
        subst e
        exact List.pairwise_cons.2 ⟨pairs_lt g1.2 g2.2 a g1.1 g2.1, pairs_inc x y g1.2 g2.2⟩
termination_by a b => a.length + b.length
/-- The members of two rows that a question keeps. -/
def selS (p : P3 → Bool) (a b : List Int) : List Int := ((pairsS a b).filter p).map (·.1)
theorem sel_inc (p : P3 → Bool) {a b : List Int} (h1 : a.Pairwise (· < ·)) (h2 : b.Pairwise (· < ·)) : (selS p a b).Pairwise (· < ·) :=
  List.pairwise_map.2 ((pairs_inc a b h1 h2).filter p)
theorem sel_mem (p : P3 → Bool) {a b : List Int} (h1 : a.Pairwise (· < ·)) (h2 : b.Pairwise (· < ·)) (x : Int) :
    x ∈ selS p a b ↔ (x ∈ a ∨ x ∈ b) ∧ p (x, decide (x ∈ a), decide (x ∈ b)) = true := by
  unfold selS
  rw [List.mem_map]
  constructor
  · rintro ⟨t, ht, rfl⟩
    rw [List.mem_filter, pairs_mem a b h1 h2] at ht
    obtain ⟨⟨h, e1, e2⟩, hp⟩ := ht
    refine ⟨h, ?_⟩
    rw [← e1, ← e2]
    exact hp
  · rintro ⟨h, hp⟩
    exact ⟨(x, decide (x ∈ a), decide (x ∈ b)), List.mem_filter.2 ⟨(pairs_mem a b h1 h2 _).2 ⟨h, rfl, rfl⟩, hp⟩, rfl⟩
theorem sel_len (p q : P3 → Bool) (a b : List Int) (h : ∀ t, p t = true → q t = true) : (selS p a b).length ≤ (selS q a b).length := by
  unfold selS
  rw [List.length_map, List.length_map, ← List.countP_eq_length_filter, ← List.countP_eq_length_filter]
  exact List.countP_mono_left (fun t _ => h t)
theorem sel_len2 (p : P3 → Bool) (a b : List Int) : (selS p a b).length ≤ a.length + b.length := by
  unfold selS
  rw [List.length_map]
  exact Nat.le_trans (List.length_filter_le _ _) (pairsS_len a b)
theorem below_inc {l : List Int} (h : l.Pairwise (· < ·)) (L : Int) : (belowS l L).Pairwise (· < ·) := by
  unfold belowS
  split
  · exact h
  · exact h.sublist (List.take_sublist _ _)
theorem below_cons {a : Int} {r : List Int} (L : Int) (hL : ¬ L = 0) (h : a < L) : belowS (a :: r) L = a :: belowS r L := by
  unfold belowS
  rw [if_neg hL, if_neg hL]
  have e : cntB (a :: r) L = cntB r L + 1 := by unfold cntB; rw [List.filter_cons_of_pos (by simpa using h)]; rfl
  rw [e]
  rfl
theorem below_mem : ∀ {l : List Int}, l.Pairwise (· < ·) → ∀ (L x : Int), x ∈ belowS l L ↔ x ∈ l ∧ (L = 0 ∨ x < L)
  | [], _, L, x => by unfold belowS; split <;> simp
  | a :: r, h, L, x => by
    have g := List.pairwise_cons.1 h
    by_cases hL : L = 0
    · subst hL
      simp [belowS]
    · by_cases ha : a < L
      · rw [below_cons L hL ha, List.mem_cons, below_mem g.2 L x, List.mem_cons]
        constructor
        · rintro (rfl | h)
          · exact ⟨.inl rfl, .inr ha⟩
          · exact ⟨.inr h.1, h.2⟩
        · rintro ⟨rfl | h1, h2⟩
          · exact .inl rfl
          · exact .inr ⟨h1, h2⟩
      · have e : cntB (a :: r) L = 0 := by
          unfold cntB
          rw [List.length_eq_zero_iff, List.filter_eq_nil_iff]
          intro y hy
          rcases List.mem_cons.1 hy with e | e
          · simp; omega
          · have := g.1 y e
            simp; omega
        unfold belowS
        rw [if_neg hL, e]
        simp [hL]
        rintro (rfl | h1)
        · omega
        · have := g.1 x h1; omega
theorem below_len (l : List Int) (L : Int) : (belowS l L).length ≤ l.length := by
  unfold belowS
  split
  · exact Nat.le_refl _
  · exact List.length_take_le' _ _
/-- A view that may be. -/
structure Okv (L : Int) (l : List Int) : Prop where
  inc : l.Pairwise (· < ·)
  below : L = 0 ∨ ∀ x ∈ l, x < L
  len : l.length ≤ 8192
theorem last_max : ∀ {l : List Int}, l.Pairwise (· < ·) → ∀ x ∈ l, x ≤ l.getLastD 0
  | [], _, x, hx => by simp at hx
  | [a], _, x, hx => by simp at hx; simp [hx]
  | a :: b :: r, h, x, hx => by
    have g := List.pairwise_cons.1 h
    have ih := last_max g.2
    have e : (a :: b :: r).getLastD 0 = (b :: r).getLastD 0 := by simp
    rw [e]
    rcases List.mem_cons.1 hx with e | e
    · have := ih b (List.mem_cons_self ..)
      have := g.1 b (List.mem_cons_self ..)
      omega
    · exact ih x e
theorem vchk_ok {L : Int} {l : List Int} : vchk L l = 0 ↔ Okv L l := by
  unfold vchk
  constructor
  · intro h
    split at h
    · cases h
    · split at h
      · rename_i h1 h2
        rw [Bool.and_eq_true] at h2
        have hi := inc_iff.1 h2.1
        refine ⟨hi, ?_, by omega⟩
        have h3 := h2.2
        simp only [Bool.or_eq_true, beq_iff_eq, decide_eq_true_eq, List.isEmpty_iff] at h3
        rcases h3 with (h3 | h3) | h3
        · subst h3; right; simp
        · exact .inl h3
        · right
          intro x hx
          have := last_max hi x hx
          omega
      · cases h
  · rintro ⟨hi, hb, hl⟩
    rw [if_neg (by omega), if_pos]
    rw [Bool.and_eq_true]
    refine ⟨inc_iff.2 hi, ?_⟩
    rcases hb with hb | hb
    · simp [hb]
    · cases l with
      | nil => simp
      | cons a r =>
        have e : (a :: r).getLastD 0 = (a :: r).getLast (by simp) := by rw [List.getLastD_eq_getLast?, List.getLast?_eq_some_getLast (by simp)]; rfl
        have := hb _ (List.getLast_mem (l := a :: r) (by simp))
        rw [← e] at this
        rw [decide_eq_true this, Bool.or_true]
theorem okv_sel (p : P3 → Bool) {L : Int} {a b : List Int} (h1 : Okv L a) (h2 : Okv L b) (hl : a.length + b.length ≤ 8192) : Okv L (selS p a b) := by
  refine ⟨sel_inc p h1.inc h2.inc, ?_, Nat.le_trans (sel_len2 p a b) hl⟩
  rcases h1.below with h | h
  · exact .inl h
  · rcases h2.below with g | g
    · exact .inl g
    · right
      intro x hx
      rcases ((sel_mem p h1.inc h2.inc x).1 hx).1 with e | e
      · exact h x e
      · exact g x e
theorem okv_below {L M : Int} {l : List Int} (h : Okv L l) : Okv M (belowS l M) := by
  refine ⟨below_inc h.inc M, ?_, Nat.le_trans (below_len l M) h.len⟩
  by_cases hM : M = 0
  · exact .inl hM
  · right
    intro x hx
    have := ((below_mem h.inc M x).1 hx).2
    omega
theorem made_ok (p : P3 → Bool) {la lb : Int} {a b : List Int} (h1 : Okv la a) (h2 : Okv lb b) (hl : a.length + b.length ≤ 8192) :
    madeS p la a lb b = ((limS la lb, selS p (belowS a (limS la lb)) (belowS b (limS la lb))), 0) := by
  unfold madeS
  rw [if_pos (vchk_ok.2 h1), if_pos (vchk_ok.2 h2), if_neg]
  · rfl
  · have h := sel_len2 p (belowS a (limS la lb)) (belowS b (limS la lb))
    have := below_len a (limS la lb)
    have := below_len b (limS la lb)
    unfold selS at h
    omega
theorem lim_left (a b : Int) : limS a (limS a b) = limS a b := by unfold limS; repeat' split <;> try omega
theorem lim_right (a b : Int) : limS (limS a b) b = limS a b := by unfold limS; repeat' split <;> try omega
theorem lim_self (a : Int) : limS a a = a := by unfold limS; repeat' split <;> try omega
theorem below_self {L : Int} {l : List Int} (h : Okv L l) : belowS l L = l := by
  refine inc_ext (below_inc h.inc L) h.inc (fun x => ?_)
  rw [below_mem h.inc]
  refine ⟨fun g => g.1, fun g => ⟨g, ?_⟩⟩
  rcases h.below with e | e
  · exact .inl e
  · exact .inr (e x g)
/-- The five equalities of the law. -/
theorem again_sets {la lb : Int} {a b : List Int} (h1 : Okv la a) (h2 : Okv lb b) (hl : a.length ≤ 300) (hm : b.length ≤ 300) :
    ∃ (L : Int) (ei bo le on : List Int), Okv L ei ∧ Okv L bo ∧ Okv L le ∧ Okv L on ∧ bo.length ≤ ei.length ∧ le.length ≤ ei.length ∧ on.length ≤ ei.length ∧ L = limS la lb ∧
      madeS pEither la a lb b = ((L, ei), 0) ∧ madeS pBoth la a lb b = ((L, bo), 0) ∧ madeS pLess la a lb b = ((L, le), 0) ∧ madeS pOne la a lb b = ((L, on), 0) ∧
      madeS pLess la a L bo = ((L, le), 0) ∧ madeS pEither L le lb b = ((L, ei), 0) ∧ madeS pLess L ei L bo = ((L, on), 0) ∧ madeS pBoth L bo L ei = ((L, bo), 0) ∧ ei.length ≤ 600 := by
  obtain ⟨L, hL⟩ : ∃ L, L = limS la lb := ⟨_, rfl⟩
  obtain ⟨A, hA⟩ : ∃ A, A = belowS a L := ⟨_, rfl⟩
  obtain ⟨B, hB⟩ : ∃ B, B = belowS b L := ⟨_, rfl⟩
  have oA : Okv L A := by rw [hA]; exact okv_below h1
  have oB : Okv L B := by rw [hB]; exact okv_below h2
  have nA : A.length ≤ 300 := by rw [hA]; exact Nat.le_trans (below_len _ _) hl
  have nB : B.length ≤ 300 := by rw [hB]; exact Nat.le_trans (below_len _ _) hm
  have oE := okv_sel pEither oA oB (by omega)
  have oO := okv_sel pBoth oA oB (by omega)
  have oL := okv_sel pLess oA oB (by omega)
  have oN := okv_sel pOne oA oB (by omega)
  have lE := sel_len2 pEither A B
  have lO := sel_len2 pBoth A B
  have lL := sel_len2 pLess A B
  have lN := sel_len2 pOne A B
  have mE := sel_mem pEither oA.inc oB.inc
  have mO := sel_mem pBoth oA.inc oB.inc
  have mL := sel_mem pLess oA.inc oB.inc
  have mN := sel_mem pOne oA.inc oB.inc
  have q1 : limS la L = L := by rw [hL]; exact lim_left la lb
  have q2 : limS L lb = L := by rw [hL]; exact lim_right la lb
  have q3 : limS L L = L := lim_self L
  refine ⟨L, selS pEither A B, selS pBoth A B, selS pLess A B, selS pOne A B, oE, oO, oL, oN, ?_, ?_, ?_, hL, ?_, ?_, ?_, ?_, ?_, ?_, ?_, ?_, by omega⟩
  · exact sel_len _ _ _ _ (fun t h => by unfold pBoth at h; unfold pEither; revert h; cases t.2.1 <;> cases t.2.2 <;> decide)
  · exact sel_len _ _ _ _ (fun t h => by unfold pLess at h; unfold pEither; revert h; cases t.2.1 <;> cases t.2.2 <;> decide)
  · exact sel_len _ _ _ _ (fun t h => by unfold pOne at h; unfold pEither; revert h; cases t.2.1 <;> cases t.2.2 <;> decide)
  · rw [made_ok _ h1 h2 (by omega), ← hL, ← hA, ← hB]
  · rw [made_ok _ h1 h2 (by omega), ← hL, ← hA, ← hB]
  · rw [made_ok _ h1 h2 (by omega), ← hL, ← hA, ← hB]
  · rw [made_ok _ h1 h2 (by omega), ← hL, ← hA, ← hB]
  · rw [made_ok _ h1 oO (by omega), q1, ← hA, below_self oO]
    have : selS pLess A (selS pBoth A B) = selS pLess A B := by
      refine inc_ext (sel_inc _ oA.inc oO.inc) oL.inc (fun x => ?_)
      rw [sel_mem _ oA.inc oO.inc, mL]
      simp only [mO]
      unfold pLess pBoth
      by_cases xa : x ∈ A <;> by_cases xb : x ∈ B <;> simp [xa, xb]
    rw [this]
  · rw [made_ok _ oL h2 (by omega), q2, ← hB, below_self oL]
    have : selS pEither (selS pLess A B) B = selS pEither A B := by
      refine inc_ext (sel_inc _ oL.inc oB.inc) oE.inc (fun x => ?_)
      rw [sel_mem _ oL.inc oB.inc, mE]
      simp only [mL]
      unfold pLess pEither
      by_cases xa : x ∈ A <;> by_cases xb : x ∈ B <;> simp [xa, xb]
    rw [this]
  · rw [made_ok _ oE oO (by omega), q3, below_self oE, below_self oO]
    have : selS pLess (selS pEither A B) (selS pBoth A B) = selS pOne A B := by
      refine inc_ext (sel_inc _ oE.inc oO.inc) oN.inc (fun x => ?_)
      rw [sel_mem _ oE.inc oO.inc, mN]
      simp only [mE, mO]
      unfold pLess pEither pBoth pOne
      by_cases xa : x ∈ A <;> by_cases xb : x ∈ B <;> simp [xa, xb]
    rw [this]
  · rw [made_ok _ oO oE (by omega), q3, below_self oE, below_self oO]
    have : selS pBoth (selS pBoth A B) (selS pEither A B) = selS pBoth A B := by
      refine inc_ext (sel_inc _ oO.inc oE.inc) oO.inc (fun x => ?_)
      rw [sel_mem _ oO.inc oE.inc]
      simp only [mE, mO]
      unfold pEither pBoth
      by_cases xa : x ∈ A <;> by_cases xb : x ∈ B <;> simp [xa, xb]
    rw [this]
end Go.Proofs.Ytpagondojdlknaa.H
