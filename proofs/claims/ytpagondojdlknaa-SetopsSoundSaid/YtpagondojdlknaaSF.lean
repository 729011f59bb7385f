/- Plain facts about the printed functions: what each of them answers. -/
import Derived.Test.YtpagondojdlknaaHU
import Derived.Test.YtpagondojdlknaaSE
namespace Go.Proofs.Ytpagondojdlknaa.H
open Go.RowKit Go.Proofs.YtpagondojdlknaaW.PrintWords Go.Proofs.YtpagondojdlknaaW.PrintLast Go.Proofs.YtpagondojdlknaaW.PrintMore
set_option linter.unusedVariables false
set_option linter.unusedSimpArgs false
theorem pick_ok (n m : Int) (h1 : 1 ≤ m) (h2 : m ≤ 4294967296) (hn : -9223372036854775808 ≤ n ∧ n ≤ 9223372036854775807) : tallymankit_Pick.f n m = some (n % m) := by
  unfold tallymankit_Pick.f
  rw [if_neg (by omega), if_neg (by omega)]
  have h3 := Int.tmod_def n m
  by_cases h : 0 ≤ n
  · have e : Int.tmod n m = n % m := Int.tmod_eq_emod_of_nonneg h
    have := Int.emod_nonneg n (show m ≠ 0 by omega)
    rw [e, if_neg (by omega)]
  · have e := Int.tmod_eq_emod (a := n) (b := m)
    have h5 := Int.emod_nonneg n (show m ≠ 0 by omega)
    have h6 := Int.emod_lt_of_pos n (show 0 < m by omega)
    have h7 : Int.natAbs m = m := by omega
    by_cases h4 : m ∣ n
    · rw [if_pos (.inr h4)] at e
      have e2 : Int.tmod n m = n % m := by rw [e]; simp
      rw [e2, if_neg (by omega)]
    · rw [if_neg (by omega)] at e
      have h8 : ¬ n % m = 0 := fun e => h4 (Int.dvd_of_emod_eq_zero e)
      rw [e, h7, if_pos (by omega), w64' (by omega) (by omega)]
      congr 1
      omega
theorem in_ev (x : Int) (l : List Int) (hl : l.length ≤ 1000000) : Ev (fun k => tallymanlaw17_in.f k l x) (decide (x ∈ l)) := by
  have H : ∀ (d i : Nat), i + d = l.length → Ev (fun k => tallymanlaw17_in.l0 k l x (i : Int)) (decide (x ∈ l.drop i)) := by
    intro d
    induction d with
    | zero =>
      intro i h
      rw [List.drop_of_length_le (by omega)]
      refine Ev.step (f := fun _ => some (decide (x ∈ ([] : List Int)))) (fun k => ?_) (Ev.now _)
      simp only [tallymanlaw17_in.l0]
      rw [if_neg (by omega)]
      rfl
    | succ d ih =>
      intro i h
      have hi : i < l.length := by omega
      rw [List.drop_eq_getElem_cons hi]
      by_cases hc : l[i] = x
      · refine Ev.step (f := fun _ => some (decide (x ∈ l[i] :: l.drop (i + 1)))) (fun k => ?_) (Ev.now _)
        simp only [tallymanlaw17_in.l0]
        rw [if_pos (by omega), if_pos (by omega), rd_nat' l i hi, if_pos hc, decide_eq_true (show x ∈ l[i] :: l.drop (i + 1) by rw [hc]; exact List.mem_cons_self ..)]
      · have e : decide (x ∈ l[i] :: l.drop (i + 1)) = decide (x ∈ l.drop (i + 1)) := by
          have : ¬ x = l[i] := fun h => hc h.symm
          exact decide_eq_decide.2 ⟨fun h => (List.mem_cons.1 h).resolve_left this, List.mem_cons_of_mem _⟩
        rw [e]
        refine Ev.step (f := fun k => tallymanlaw17_in.l0 k l x ((i + 1 : Nat) : Int)) (fun k => ?_) (ih (i + 1) (by omega))
        simp only [tallymanlaw17_in.l0]
        rw [if_pos (by omega), if_pos (by omega), rd_nat' l i hi, if_neg hc, wz _ (by omega) (by omega)]
        rfl
  exact H l.length 0 (by omega)
/-- How many of a row are among others. -/
def among (e T : List Int) : Nat := (e.filter fun y => decide (y ∈ T)).length
theorem among_old (e T : List Int) (x : Int) (h : x ∈ T ∨ ¬ x ∈ e) : among e (T ++ [x]) = among e T := by
  unfold among
  congr 1
  refine List.filter_congr fun y hy => ?_
  have : y ∈ T ++ [x] ↔ y ∈ T := by
    rw [List.mem_append, List.mem_singleton]
    refine ⟨fun g => g.elim id fun g => ?_, .inl⟩
    subst g
    exact h.elim id fun h => absurd hy h
  simp only [this]
theorem among_new : ∀ (e T : List Int) (x : Int), e.Pairwise (· < ·) → x ∈ e → ¬ x ∈ T → among e (T ++ [x]) = among e T + 1
  | [], _, _, _, h, _ => by cases h
  | a :: r, T, x, hp, h, hT => by
    have hr := (List.pairwise_cons.1 hp).2
    by_cases hx : a = x
    · subst hx
      have hn : ¬ a ∈ r := fun h => by have := (List.pairwise_cons.1 hp).1 a h; omega
      have := among_old r T a (.inr hn)
      unfold among at this ⊢
      rw [List.filter_cons_of_pos (by simp), List.filter_cons_of_neg (by simpa using hT), List.length_cons, this]
    · have hm : x ∈ r := by
        rcases List.mem_cons.1 h with h | h
        · exact absurd h.symm hx
        · exact h
      have ih := among_new r T x hr hm hT
      unfold among at ih ⊢
      by_cases ha : a ∈ T
      · rw [List.filter_cons_of_pos (by simp [ha]), List.filter_cons_of_pos (by simp [ha]), List.length_cons, List.length_cons, ih]
      · rw [List.filter_cons_of_neg (by simp [ha, hx]), List.filter_cons_of_neg (by simp [ha]), ih]
theorem among_all (e T : List Int) (h : ∀ y ∈ e, y ∈ T) : among e T = e.length := by
  unfold among
  rw [List.filter_eq_self.2 (fun y hy => by simpa using h y hy)]
theorem among_le (e T : List Int) : among e T ≤ e.length := List.length_filter_le _ _
/-- The four results, as sets below a limit. -/
structure Four (a b : List Int) (L : Int) (ei bo le on : List Int) : Prop where
  mei : ∀ x, x ∈ ei ↔ (x ∈ a ∨ x ∈ b) ∧ (L = 0 ∨ x < L)
  mbo : ∀ x, x ∈ bo ↔ (x ∈ a ∧ x ∈ b) ∧ (L = 0 ∨ x < L)
  mle : ∀ x, x ∈ le ↔ (x ∈ a ∧ ¬ x ∈ b) ∧ (L = 0 ∨ x < L)
  mon : ∀ x, x ∈ on ↔ ((x ∈ a ∧ ¬ x ∈ b) ∨ (¬ x ∈ a ∧ x ∈ b)) ∧ (L = 0 ∨ x < L)
  inc : ei.Pairwise (· < ·)
  sum : bo.length + on.length = ei.length
  les : le.length ≤ on.length
  big : ei.length ≤ 1000
section
variable {a b : List Int} {L : Int} {ei bo le on : List Int}
theorem sd_l0 (c : List Int) (i : Nat) (n : Int) (k : Nat) (hi : i < c.length) : tallymanlaw17_SetopsSound.l0 (k + 1) a b L n c (i : Int) L ei L bo L le L on =
    tallymanlaw17_SetopsSound.j6 k a b L n c (i : Int) c[i] (decide (¬ L = 0 ∧ L ≤ c[i])) L ei L bo L le L on := by
  simp only [tallymanlaw17_SetopsSound.l0]
  rw [if_pos (by omega), if_pos (by omega), rd_nat' c i hi]
  by_cases h : L = 0
  · rw [if_pos h, decide_eq_false (by omega)]
  · rw [if_neg h]
    congr 1
    by_cases h2 : L ≤ c[i]
    · rw [decide_eq_true (show c[i] ≥ L from h2), decide_eq_true ⟨h, h2⟩]
    · rw [decide_eq_false (show ¬ c[i] ≥ L from h2), decide_eq_false (fun g => h2 g.2)]
theorem sd_j6t (c : List Int) (i : Nat) (n x : Int) (k : Nat) (hi : i < 1000000) : tallymanlaw17_SetopsSound.j6 (k + 1) a b L n c (i : Int) x true L ei L bo L le L on = tallymanlaw17_SetopsSound.l0 k a b L n c ((i + 1 : Nat) : Int) L ei L bo L le L on := by
  simp only [tallymanlaw17_SetopsSound.j6]
  rw [if_pos trivial, wz _ (by omega) (by omega)]
  rfl
theorem sd_j6f (f : Four a b L ei bo le on) (c : List Int) (i : Nat) (n x : Int) (k : Nat) (hx : x ∈ a ∨ x ∈ b) (hb : L = 0 ∨ x < L)
    (s1 : tallymanlaw17_in.f k a x = some (decide (x ∈ a))) (s2 : tallymanlaw17_in.f k b x = some (decide (x ∈ b))) (s3 : tallymanlaw17_in.f k ei x = some (decide (x ∈ ei)))
    (s4 : tallymanlaw17_in.f k bo x = some (decide (x ∈ bo))) (s5 : tallymanlaw17_in.f k le x = some (decide (x ∈ le))) (s6 : tallymanlaw17_in.f k on x = some (decide (x ∈ on))) :
    tallymanlaw17_SetopsSound.j6 (k + 1) a b L n c (i : Int) x false L ei L bo L le L on = tallymanlaw17_SetopsSound.j7 k a b L n c (i : Int) x false L ei L bo L le L on := by
  have e3 : decide (x ∈ ei) = true := decide_eq_true ((f.mei x).2 ⟨hx, hb⟩)
  simp only [tallymanlaw17_SetopsSound.j6]
  rw [if_neg (by decide), s1, Option.bind_some, s2, Option.bind_some, s3, Option.bind_some, e3, if_pos rfl, s4, Option.bind_some]
  by_cases h1 : x ∈ a
  · by_cases h2 : x ∈ b
    · have e4 : decide (x ∈ bo) = true := decide_eq_true ((f.mbo x).2 ⟨⟨h1, h2⟩, hb⟩)
      have e5 : decide (x ∈ le) = false := decide_eq_false (fun h => ((f.mle x).1 h).1.2 h2)
      have e6 : decide (x ∈ on) = false := decide_eq_false (fun h => ((f.mon x).1 h).1.elim (fun h => h.2 h2) (fun h => h.1 h1))
      rw [decide_eq_true h1, decide_eq_true h2, e4, if_pos rfl, if_neg (by decide), s5, Option.bind_some, e5, if_neg (by decide), s6, Option.bind_some, e6]
      rfl
    · have e4 : decide (x ∈ bo) = false := decide_eq_false (fun h => h2 ((f.mbo x).1 h).1.2)
      have e5 : decide (x ∈ le) = true := decide_eq_true ((f.mle x).2 ⟨⟨h1, h2⟩, hb⟩)
      have e6 : decide (x ∈ on) = true := decide_eq_true ((f.mon x).2 ⟨.inl ⟨h1, h2⟩, hb⟩)
      rw [decide_eq_true h1, decide_eq_false h2, e4, if_pos rfl, if_neg (by decide), s5, Option.bind_some, e5, if_neg (by decide), s6, Option.bind_some, e6]
      rfl
  · have h2 : x ∈ b := hx.resolve_left h1
    have e4 : decide (x ∈ bo) = false := decide_eq_false (fun h => h1 ((f.mbo x).1 h).1.1)
    have e5 : decide (x ∈ le) = false := decide_eq_false (fun h => h1 ((f.mle x).1 h).1.1)
    have e6 : decide (x ∈ on) = true := decide_eq_true ((f.mon x).2 ⟨.inr ⟨h1, h2⟩, hb⟩)
    rw [decide_eq_false h1, decide_eq_true h2, e4, if_neg (by decide), if_neg (by decide), s5, Option.bind_some, e5, if_neg (by decide), s6, Option.bind_some, e6]
    rfl
theorem sd_j7 (c : List Int) (i : Nat) (n x : Int) (k : Nat) (hi : i ≤ c.length) (h6 : i < 1000000) (t : Bool) (s : tallymanlaw17_in.f k (c.take i) x = some t) :
    tallymanlaw17_SetopsSound.j7 (k + 1) a b L n c (i : Int) x false L ei L bo L le L on = tallymanlaw17_SetopsSound.l0 k a b L (if t = true then n else wrap64 (n + 1)) c ((i + 1 : Nat) : Int) L ei L bo L le L on := by
  simp only [tallymanlaw17_SetopsSound.j7]
  rw [if_neg (by decide), if_pos (by omega), if_pos (by omega), show ((i : Int)).toNat = i by omega, s, Option.bind_some, wz ((i : Int) + 1) (by omega) (by omega)]
  cases t
  · rw [if_neg (by decide), if_neg (by decide)]; rfl
  · rw [if_pos rfl, if_pos rfl]; rfl
theorem sd_loop (f : Four a b L ei bo le on) {c : List Int} (hc : ∀ x, x ∈ c ↔ x ∈ a ∨ x ∈ b) (ha : a.length ≤ 1000) (hb : b.length ≤ 1000) (hcl : c.length ≤ 1000) : ∀ (d i : Nat), i + d = c.length →
    Ev (fun k => tallymanlaw17_SetopsSound.l0 k a b L (among ei (c.take i) : Int) c (i : Int) L ei L bo L le L on) true := by
  intro d
  have hbig := f.big
  have hsum := f.sum
  have hles := f.les
  induction d with
  | zero =>
    intro i h
    rw [List.take_of_length_le (by omega), among_all ei c (fun y hy => (hc y).2 ((f.mei y).1 hy).1)]
    refine Ev.step (f := fun _ => some true) (fun k => ?_) (Ev.now _)
    simp only [tallymanlaw17_SetopsSound.l0]
    rw [if_neg (by omega), if_pos trivial, wz _ (by omega) (by omega), if_pos (by omega), decide_eq_true (by omega)]
  | succ d ih =>
    intro i h
    have hi : i < c.length := by omega
    obtain ⟨K0, s0⟩ := ih (i + 1) (by omega)
    have et : c.take (i + 1) = c.take i ++ [c[i]] := by rw [List.take_add_one, List.getElem?_eq_getElem hi]; rfl
    rw [et] at s0
    have hx := (hc c[i]).1 (List.getElem_mem hi)
    by_cases hs : ¬ L = 0 ∧ L ≤ c[i]
    · have hne : ¬ c[i] ∈ ei := fun g => by have := ((f.mei _).1 g).2; omega
      rw [among_old ei (c.take i) c[i] (.inr hne)] at s0
      refine ⟨K0 + 2, fun n hn => ?_⟩
      obtain ⟨m, rfl⟩ : ∃ m, n = m + 2 := ⟨n - 2, by omega⟩
      have s0 := s0 m (by omega)
      dsimp only at s0 ⊢
      rw [sd_l0 c i _ _ hi, decide_eq_true hs, sd_j6t c i _ _ _ (by omega)]
      exact s0
    · have hbl : L = 0 ∨ c[i] < L := by omega
      have hin : c[i] ∈ ei := (f.mei _).2 ⟨hx, hbl⟩
      obtain ⟨K1, s1⟩ := in_ev c[i] a (by omega)
      obtain ⟨K2, s2⟩ := in_ev c[i] b (by omega)
      obtain ⟨K3, s3⟩ := in_ev c[i] ei (by omega)
      obtain ⟨K4, s4⟩ := in_ev c[i] bo (by omega)
      obtain ⟨K5, s5⟩ := in_ev c[i] le (by omega)
      obtain ⟨K6, s6⟩ := in_ev c[i] on (by omega)
      obtain ⟨K7, s7⟩ := in_ev c[i] (c.take i) (by rw [List.length_take]; omega)
      refine ⟨max (max (max K0 K1) (max K2 K3)) (max (max K4 K5) (max K6 K7)) + 3, fun n hn => ?_⟩
      obtain ⟨m, rfl⟩ : ∃ m, n = m + 3 := ⟨n - 3, by omega⟩
      have s0 := s0 m (by omega)
      have s1 := s1 (m + 1) (by omega)
      have s2 := s2 (m + 1) (by omega)
      have s3 := s3 (m + 1) (by omega)
      have s4 := s4 (m + 1) (by omega)
      have s5 := s5 (m + 1) (by omega)
      have s6 := s6 (m + 1) (by omega)
      have s7 := s7 m (by omega)
      dsimp only at s0 s1 s2 s3 s4 s5 s6 s7 ⊢
      rw [sd_l0 c i _ _ hi, decide_eq_false hs, sd_j6f f c i _ _ _ hx hbl s1 s2 s3 s4 s5 s6, sd_j7 c i _ _ _ (by omega) (by omega) _ s7]
      have hle := among_le ei (c.take i)
      by_cases ht : c[i] ∈ c.take i
      · rw [among_old ei (c.take i) c[i] (.inl ht)] at s0
        rw [decide_eq_true ht, if_pos rfl]
        exact s0
      · rw [among_new ei (c.take i) c[i] f.inc hin ht] at s0
        rw [decide_eq_false ht, if_neg (by decide), wz _ (by omega) (by omega)]
        exact s0
end
theorem filter_two (p q r : P3 → Bool) : ∀ l : List P3, (∀ t ∈ l, r t = (p t || q t) ∧ (p t && q t) = false) → (l.filter p).length + (l.filter q).length = (l.filter r).length
  | [], _ => rfl
  | t :: l, h => by
    have ih := filter_two p q r l (fun t ht => h t (List.mem_cons_of_mem _ ht))
    obtain ⟨h1, h2⟩ := h t (List.mem_cons_self ..)
    rw [List.filter_cons, List.filter_cons, List.filter_cons, h1]
    revert h2
    cases p t <;> cases q t <;> simp <;> omega
theorem lim_low {la lb x : Int} (h1 : 0 ≤ la) (h2 : 0 ≤ lb) (h : limS la lb = 0 ∨ x < limS la lb) : (la = 0 ∨ x < la) ∧ (lb = 0 ∨ x < lb) := by
  unfold limS at h
  repeat' split at h <;> try omega
theorem lim_of (la lb : Int) : limS la lb = 0 ∨ limS la lb = la ∨ limS la lb = lb := by
  unfold limS
  by_cases h1 : la = 0 <;> by_cases h2 : lb = 0 <;> by_cases h3 : lb < la <;> simp [h1, h2, h3]
theorem four_of {K1 K2 : Nat} {a b ha hb : List Int} {la lb : Int} (g1 : SkOf K1 a ha la) (g2 : SkOf K2 b hb lb) (n1 : a.length ≤ 100) (n2 : b.length ≤ 100) :
    Four a b (limS la lb) (selS pEither (belowS ha (limS la lb)) (belowS hb (limS la lb))) (selS pBoth (belowS ha (limS la lb)) (belowS hb (limS la lb))) (selS pLess (belowS ha (limS la lb)) (belowS hb (limS la lb))) (selS pOne (belowS ha (limS la lb)) (belowS hb (limS la lb))) := by
  have hl := fun (x : Int) (h : limS la lb = 0 ∨ x < limS la lb) => lim_low (x := x) g1.pos g2.pos h
  obtain ⟨L, hL⟩ : ∃ L, L = limS la lb := ⟨_, rfl⟩
  rw [← hL] at hl ⊢
  have iA : (belowS ha L).Pairwise (· < ·) := below_inc g1.inc L
  have iB : (belowS hb L).Pairwise (· < ·) := below_inc g2.inc L
  have mA : ∀ x, x ∈ belowS ha L ↔ x ∈ a ∧ (L = 0 ∨ x < L) := fun x => by
    rw [below_mem g1.inc, g1.mem]
    exact ⟨fun h => ⟨h.1.1, h.2⟩, fun h => ⟨⟨h.1, (hl x h.2).1⟩, h.2⟩⟩
  have mB : ∀ x, x ∈ belowS hb L ↔ x ∈ b ∧ (L = 0 ∨ x < L) := fun x => by
    rw [below_mem g2.inc, g2.mem]
    exact ⟨fun h => ⟨h.1.1, h.2⟩, fun h => ⟨⟨h.1, (hl x h.2).2⟩, h.2⟩⟩
  have lA := below_len ha L
  have lB := below_len hb L
  have l1 := g1.len2
  have l2 := g2.len2
  generalize belowS ha L = A at *
  generalize belowS hb L = B at *
  have sE := sel_len2 pEither A B
  refine ⟨fun x => ?_, fun x => ?_, fun x => ?_, fun x => ?_, sel_inc _ iA iB, ?_, ?_, by omega⟩
  · rw [sel_mem _ iA iB]
    simp only [mA, mB]
    by_cases h1 : x ∈ a <;> by_cases h2 : x ∈ b <;> by_cases h3 : (L = 0 ∨ x < L) <;> simp [h1, h2, h3, pEither]
  · rw [sel_mem _ iA iB]
    simp only [mA, mB]
    by_cases h1 : x ∈ a <;> by_cases h2 : x ∈ b <;> by_cases h3 : (L = 0 ∨ x < L) <;> simp [h1, h2, h3, pBoth]
  · rw [sel_mem _ iA iB]
    simp only [mA, mB]
    by_cases h1 : x ∈ a <;> by_cases h2 : x ∈ b <;> by_cases h3 : (L = 0 ∨ x < L) <;> simp [h1, h2, h3, pLess]
  · rw [sel_mem _ iA iB]
    simp only [mA, mB]
    by_cases h1 : x ∈ a <;> by_cases h2 : x ∈ b <;> by_cases h3 : (L = 0 ∨ x < L) <;> simp [h1, h2, h3, pOne]
  · unfold selS
    rw [List.length_map, List.length_map, List.length_map]
    refine filter_two _ _ _ _ (fun t _ => ?_)
    unfold pEither pBoth pOne
    cases t.2.1 <;> cases t.2.2 <;> decide
  · refine sel_len _ _ _ _ (fun t h => ?_)
    unfold pLess at h
    unfold pOne
    revert h
    cases t.2.1 <;> cases t.2.2 <;> decide
theorem okv_of {K : Nat} {a ha : List Int} {la : Int} (g : SkOf K a ha la) (n : a.length ≤ 100) : Okv la ha := by
  have := g.len2
  rw [← vchk_ok]
  unfold vchk
  rw [if_neg (by omega), if_pos]
  rw [inc_iff.2 g.inc, Bool.true_and]
  by_cases h0 : la = 0
  · simp [h0]
  · cases ha with
    | nil => rfl
    | cons u r =>
      have hm := (g.lim.resolve_left h0).2
      have : (u :: r).getLastD 0 ∈ u :: r := by
        rw [List.getLastD_eq_getLast?, List.getLast?_eq_some_getLast (by simp)]
        exact List.getLast_mem _
      have hd := decide_eq_true (hm _ this)
      rw [hd]
      simp only [Bool.or_true]
theorem sound_mid {K1 K2 : Nat} {a b ha hb : List Int} {la lb : Int} (h16 : 16 ≤ K1) (h17 : K1 ≤ 4096) (h18 : 16 ≤ K2) (h19 : K2 ≤ 4096) (g1 : SkOf K1 a ha la) (g2 : SkOf K2 b hb lb) (n1 : a.length ≤ 100) (n2 : b.length ≤ 100) :
    ∃ K, ∀ m, K ≤ m → tallymanlaw17_SetopsSound.j1 (m + 4) a b false (K1 : Int) ha la (K2 : Int) hb lb = some true := by
  have f := four_of g1 g2 n1 n2
  have o1 := okv_of g1 n1
  have o2 := okv_of g2 n2
  have l1 := g1.len2
  have l2 := g2.len2
  have q := fun p => made_ok p o1 o2 (by omega)
  have hlim := lim_of la lb
  obtain ⟨L, hL⟩ : ∃ L, L = limS la lb := ⟨_, rfl⟩
  rw [← hL] at f q hlim
  obtain ⟨ei, hei⟩ : ∃ ei, ei = selS pEither (belowS ha L) (belowS hb L) := ⟨_, rfl⟩
  obtain ⟨bo, hbo⟩ : ∃ bo, bo = selS pBoth (belowS ha L) (belowS hb L) := ⟨_, rfl⟩
  obtain ⟨le, hle⟩ : ∃ le, le = selS pLess (belowS ha L) (belowS hb L) := ⟨_, rfl⟩
  obtain ⟨on, hon⟩ : ∃ on, on = selS pOne (belowS ha L) (belowS hb L) := ⟨_, rfl⟩
  have f1 : setops_Either.f la ha lb hb = some (L, ei, 0) := by unfold setops_Either.f; rw [madeF_eq, q, hei]
  have f2 : setops_Both.f la ha lb hb = some (L, bo, 0) := by unfold setops_Both.f; rw [madeF_eq, q, hbo]
  have f3 : setops_Less.f la ha lb hb = some (L, le, 0) := by unfold setops_Less.f; rw [madeF_eq, q, hle]
  have f4 : setops_One.f la ha lb hb = some (L, on, 0) := by unfold setops_One.f; rw [madeF_eq, q, hon]
  rw [← hei, ← hbo, ← hle, ← hon] at f
  clear hei hbo hle hon q hL
  obtain ⟨K3, s3⟩ := setOf_ev h16 h17 g1 (by omega)
  obtain ⟨K4, s4⟩ := setOf_ev h18 h19 g2 (by omega)
  have e0 : among ei ((a ++ b).take 0) = 0 := by unfold among; rw [List.take_zero]; simp
  obtain ⟨K5, s5⟩ := sd_loop f (c := a ++ b) (fun x => List.mem_append) (by omega) (by omega) (by rw [List.length_append]; omega) (a ++ b).length 0 (by omega)
  rw [e0] at s5
  refine ⟨max K3 (max K4 K5), fun m hm => ?_⟩
  have s3 := s3 (m + 3) (by omega)
  have s4 := s4 (m + 3) (by omega)
  have s5 := s5 m (by omega)
  dsimp only at s3 s4 s5
  have j4 : tallymanlaw17_SetopsSound.j4 (m + 1) a b L false L ei L bo L le L on = some true := by
    simp only [tallymanlaw17_SetopsSound.j4]
    rw [if_neg (by decide)]
    simp only [Option.bind_some, List.length_nil, List.nil_append]
    rw [if_pos (by omega), if_pos (by omega)]
    exact s5
  have j3 : ∀ u v : Int, tallymanlaw17_SetopsSound.j3 (m + 2) a b false u ha la v hb lb L ei L bo L le L on = some true := by
    intro u v
    rw [show m + 2 = (m + 1) + 1 from rfl]
    generalize m + 1 = m1 at j4 ⊢
    simp only [tallymanlaw17_SetopsSound.j3]
    rw [if_neg (by decide), if_pos trivial, if_pos trivial, if_pos trivial]
    by_cases h0 : L = 0
    · rw [if_pos h0]; exact j4
    · rw [if_neg h0]
      by_cases h3 : L = la
      · rw [if_pos h3]; exact j4
      · have h4 : (L != lb) = false := by
          have := (hlim.resolve_left h0).resolve_left h3
          simpa using this
        rw [if_neg h3, h4]
        exact j4
  have j2 : ∀ u v : Int, tallymanlaw17_SetopsSound.j2 (m + 3) a b false u ha la v hb lb la ha lb hb = some true := by
    intro u v
    rw [show m + 3 = (m + 2) + 1 from rfl]
    generalize m + 2 = m2 at j3 ⊢
    simp only [tallymanlaw17_SetopsSound.j2]
    rw [if_neg (by decide), f1, Option.bind_some, f2, Option.bind_some, f3, Option.bind_some, f4, Option.bind_some]
    dsimp only
    rw [if_pos rfl, if_pos rfl, if_pos rfl]
    exact j3 u v
  rw [show m + 4 = (m + 3) + 1 from rfl]
  generalize m + 3 = m3 at j2 s3 s4 ⊢
  simp only [tallymanlaw17_SetopsSound.j1]
  rw [if_neg (by decide), s3, Option.bind_some, s4, Option.bind_some]
  dsimp only
  rw [if_pos rfl]
  exact j2 _ _
theorem sound_ev (a b : List Int) (x y : Int) (ha : ∀ z ∈ a, 0 ≤ z) (hb : ∀ z ∈ b, 0 ≤ z) (hx : -9223372036854775808 ≤ x ∧ x ≤ 9223372036854775807) (hy : -9223372036854775808 ≤ y ∧ y ≤ 9223372036854775807) : ∃ k, tallymanlaw17_SetopsSound.f k a b x y = some true := by
  obtain ⟨K0, l0⟩ := lives17_ev
  dsimp only at l0
  have htrue : ∀ k, tallymanlaw17_SetopsSound.j0 (k + 1) a b x y true = some true := by
    intro k
    simp only [tallymanlaw17_SetopsSound.j0]
    rw [if_pos trivial]
  have start : ∀ n, K0 ≤ n + 1 → (a.length ≤ 100 → b.length ≤ 100 → tallymanlaw17_SetopsSound.j0 (n + 1) a b x y false = some true) → tallymanlaw17_SetopsSound.f (n + 1) a b x y = some true := by
    intro n hn hj
    unfold tallymanlaw17_SetopsSound.f
    rw [l0 (n + 1) hn]
    simp only [Option.bind_some, if_true]
    by_cases h1 : (a.length : Int) > 100
    · rw [if_pos h1]; exact htrue _
    · rw [if_neg h1]
      by_cases h2 : (b.length : Int) > 100
      · rw [decide_eq_true h2]; exact htrue _
      · rw [decide_eq_false h2]; exact hj (by omega) (by omega)
  by_cases hg : a.length ≤ 100 ∧ b.length ≤ 100
  · obtain ⟨n1, n2⟩ := hg
    have p1 := pick_ok x 60 (by omega) (by omega) hx
    have p2 := pick_ok y 60 (by omega) (by omega) hy
    obtain ⟨u, hu, hu2⟩ : ∃ u : Nat, x % 60 = (u : Int) ∧ u < 60 := ⟨(x % 60).toNat, by omega, by omega⟩
    obtain ⟨v, hv, hv2⟩ : ∃ v : Nat, y % 60 = (v : Int) ∧ v < 60 := ⟨(y % 60).toNat, by omega, by omega⟩
    rw [hu] at p1
    rw [hv] at p2
    obtain ⟨h1, L1, g1, ⟨K1, s1⟩⟩ := refOf_ev (16 + u) a (by omega) (by omega) (by omega) ha
    obtain ⟨h2, L2, g2, ⟨K2, s2⟩⟩ := refOf_ev (16 + v) b (by omega) (by omega) (by omega) hb
    obtain ⟨K3, s3⟩ := sound_mid (by omega) (by omega) (by omega) (by omega) g1 g2 n1 n2
    refine ⟨max (max K0 K1) (max K2 K3) + 5, start _ (by omega) (fun _ _ => ?_)⟩
    obtain ⟨m, hm⟩ : ∃ m, m = max (max K0 K1) (max K2 K3) := ⟨_, rfl⟩
    rw [← hm]
    have s1 := s1 (m + 4) (by omega)
    have s2 := s2 (m + 4) (by omega)
    have s3 := s3 m (by omega)
    dsimp only at s1 s2
    have w1 : wrap64 (16 + (u : Int)) = ((16 + u : Nat) : Int) := by rw [wz _ (by omega) (by omega)]; omega
    have w2 : wrap64 (16 + (v : Int)) = ((16 + v : Nat) : Int) := by rw [wz _ (by omega) (by omega)]; omega
    rw [show m + 5 = (m + 4) + 1 from rfl]
    generalize m + 4 = m4 at s1 s2 s3 ⊢
    simp only [tallymanlaw17_SetopsSound.j0]
    rw [if_neg (by decide), p1, Option.bind_some, w1, s1, Option.bind_some, p2, Option.bind_some, w2, s2, Option.bind_some]
    dsimp only
    rw [if_pos rfl]
    exact s3
  · exact ⟨K0 + 1, start K0 (by omega) (fun h1 h2 => absurd ⟨h1, h2⟩ hg)⟩
end Go.Proofs.Ytpagondojdlknaa.H
