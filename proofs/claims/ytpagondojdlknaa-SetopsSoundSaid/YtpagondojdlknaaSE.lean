/- Plain facts about the printed functions: what each of them answers. -/
import Derived.Test.YtpagondojdlknaaH19
import Derived.Test.YtpagondojdlknaaH9
import Derived.Test.YtpagondojdlknaaSC
import Derived.Test.YtpagondojdlknaaS9
namespace Go.Proofs.Ytpagondojdlknaa.H
open Go.RowKit Go.Proofs.YtpagondojdlknaaW.PrintWords Go.Proofs.YtpagondojdlknaaW.PrintLast Go.Proofs.YtpagondojdlknaaW.PrintMore
set_option linter.unusedVariables false
set_option linter.unusedSimpArgs false
/-! ### The reference's sketch: sorted by insertion, each once, the first K -/
theorem wz (x : Int) (h1 : -9223372036854775808 ≤ x) (h2 : x ≤ 9223372036854775807) : wrap64 x = x := w64' h1 h2
theorem rd_mid (P Q : List Int) (v : Int) (n : Nat) (hn : n = P.length) : rd (P ++ v :: Q) (n : Int) = v := by
  subst hn
  rw [rd_nat' _ _ (by simp)]
  simp
theorem set_mid (P Q : List Int) (v u : Int) (n : Nat) (hn : n = P.length) : (P ++ v :: Q).set n u = P ++ u :: Q := by
  subst hn
  rw [List.set_append_right _ _ (Nat.le_refl _)]
  simp
theorem sk_inner (K : Int) (R : List Int) (i : Nat) : ∀ (n : Nat) (P Q : List Int) (v : Int), P.length = n → P.length + 1 + Q.length = i + 1 → i + 1 + R.length ≤ 1000000 → (P ++ Q).Pairwise (· ≤ ·) → (∀ q ∈ Q, v < q) →
    ∃ S : List Int, S.Pairwise (· ≤ ·) ∧ S.Perm (P ++ v :: Q) ∧ (∀ r, Ev (fun k => tallymanref16_sketch.l0 k K (S ++ R) ((i + 1 : Nat) : Int)) r → Ev (fun k => tallymanref16_sketch.l1 k K ((P ++ v :: Q) ++ R) (i : Int) (n : Int)) r) := by
  intro n
  induction n with
  | zero =>
    intro P Q v hP hl hb hs hq
    obtain rfl : P = [] := List.length_eq_zero_iff.mp hP
    refine ⟨v :: Q, ?_, List.Perm.refl _, fun r hr => ?_⟩
    · exact List.pairwise_cons.2 ⟨fun q h => Int.le_of_lt (hq q h), hs⟩
    · refine Ev.step (f := fun k => tallymanref16_sketch.l0 k K ((v :: Q) ++ R) ((i + 1 : Nat) : Int)) (fun k => ?_) hr
      simp only [tallymanref16_sketch.l1]
      rw [if_neg (by omega), wz _ (by omega) (by omega)]
      rfl
  | succ n ih =>
    intro P Q v hP hl hb hs hq
    obtain ⟨P', u, rfl⟩ : ∃ P' u, P = P' ++ [u] := ⟨P.dropLast, P.getLast (by intro h; subst h; simp at hP), (List.dropLast_concat_getLast _).symm⟩
    have hP' : P'.length = n := by simp at hP; exact hP
    have e1 : (P' ++ [u] ++ v :: Q) ++ R = P' ++ u :: (v :: Q ++ R) := by simp
    have e2 : (P' ++ [u] ++ v :: Q) ++ R = (P' ++ [u]) ++ v :: (Q ++ R) := by simp
    have r1 : rd ((P' ++ [u] ++ v :: Q) ++ R) (n : Int) = u := by rw [e1]; exact rd_mid _ _ _ n hP'.symm
    have r2 : rd ((P' ++ [u] ++ v :: Q) ++ R) ((n + 1 : Nat) : Int) = v := by rw [e2]; exact rd_mid _ _ _ (n + 1) hP.symm
    have hlen : ((P' ++ [u] ++ v :: Q) ++ R).length = i + 1 + R.length := by simp at hl ⊢; omega
    have hw : wrap64 (((n + 1 : Nat) : Int) - 1) = (n : Int) := by rw [wz _ (by omega) (by omega)]; omega
    have hni : n + 1 ≤ i := by simp at hl; omega
    by_cases hc : u > v
    · have hsl : ((P' ++ [u] ++ v :: Q) ++ R).set n v = (P' ++ v :: (v :: Q ++ R)) := by rw [e1]; exact set_mid _ _ _ _ n hP'.symm
      have hs2 : (((P' ++ [u] ++ v :: Q) ++ R).set n v).set (n + 1) u = (P' ++ v :: (u :: Q)) ++ R := by
        rw [hsl, show P' ++ v :: (v :: Q ++ R) = (P' ++ [v]) ++ v :: (Q ++ R) by simp, set_mid _ _ _ _ (n + 1) (by simp [hP'])]
        simp
      obtain ⟨S, h1, h2, h3⟩ := ih P' (u :: Q) v hP' (by simp at hl ⊢; omega) hb (by simpa using hs) (by
        intro q h
        rcases List.mem_cons.1 h with rfl | h
        · omega
        · exact hq q h)
      refine ⟨S, h1, h2.trans ?_, fun r hr => ?_⟩
      · simp only [List.append_assoc, List.singleton_append]
        exact (List.Perm.swap u v Q).append_left P'
      · refine Ev.step (f := fun k => tallymanref16_sketch.l1 k K ((P' ++ v :: (u :: Q)) ++ R) (i : Int) (n : Int)) (fun k => ?_) (h3 r hr)
        simp only [tallymanref16_sketch.l1]
        rw [if_pos (by omega), hw, if_pos (by omega), if_pos (by rw [hlen]; omega), if_pos (by omega), if_pos (by rw [hlen]; omega), r1, r2, if_pos hc]
        rw [show ((n : Int)).toNat = n by omega, show (((n + 1 : Nat) : Int)).toNat = n + 1 by omega, hs2]
    · refine ⟨P' ++ [u] ++ v :: Q, ?_, List.Perm.refl _, fun r hr => ?_⟩
      · rw [List.pairwise_append] at hs ⊢
        refine ⟨hs.1, List.pairwise_cons.2 ⟨fun q h => Int.le_of_lt (hq q h), hs.2.1⟩, fun a ha b hb => ?_⟩
        have hau : a ≤ u := by
          have := hs.1
          rw [List.pairwise_append] at this
          rcases List.mem_append.1 ha with h | h
          · exact this.2.2 a h u (by simp)
          · rw [List.mem_singleton.1 h]; omega
        rcases List.mem_cons.1 hb with rfl | h
        · omega
        · have := hq b h; omega
      · refine Ev.step (f := fun k => tallymanref16_sketch.l0 k K ((P' ++ [u] ++ v :: Q) ++ R) ((i + 1 : Nat) : Int)) (fun k => ?_) hr
        simp only [tallymanref16_sketch.l1]
        rw [if_pos (by omega), hw, if_pos (by omega), if_pos (by rw [hlen]; omega), if_pos (by omega), if_pos (by rw [hlen]; omega), r1, r2, if_neg hc, wz _ (by omega) (by omega)]
        rfl
theorem sk_outer (K : Int) : ∀ (d : Nat) (x : List Int) (i : Nat), i + d = x.length → 0 < i → x.length ≤ 1000 → (x.take i).Pairwise (· ≤ ·) →
    ∃ S : List Int, S.Pairwise (· ≤ ·) ∧ S.Perm x ∧ (∀ r, Ev (fun k => tallymanref16_sketch.l2 k K S [] 0) r → Ev (fun k => tallymanref16_sketch.l0 k K x (i : Int)) r) := by
  intro d
  induction d with
  | zero =>
    intro x i h h0 hb hs
    rw [List.take_of_length_le (by omega)] at hs
    refine ⟨x, hs, List.Perm.refl _, fun r hr => ?_⟩
    refine Ev.step (f := fun k => tallymanref16_sketch.l2 k K x [] 0) (fun k => ?_) hr
    simp only [tallymanref16_sketch.l0]
    rw [if_neg (by omega)]
  | succ d ih =>
    intro x i h h0 hb hs
    have hi : i < x.length := by omega
    have ex : x = (x.take i ++ [x[i]]) ++ x.drop (i + 1) := by
      rw [List.append_assoc, List.singleton_append, ← List.drop_eq_getElem_cons hi, List.take_append_drop]
    obtain ⟨S0, h1, h2, h3⟩ := sk_inner K (x.drop (i + 1)) i i (x.take i) [] x[i] (by rw [List.length_take]; omega) (by rw [List.length_take]; simp; omega) (by rw [List.length_drop]; omega) (by simpa using hs) (by simp)
    have hl0 : S0.length = i + 1 := by rw [h2.length_eq, List.length_append, List.length_take]; simp; omega
    obtain ⟨S, g1, g2, g3⟩ := ih (S0 ++ x.drop (i + 1)) (i + 1) (by rw [List.length_append, List.length_drop]; omega) (by omega) (by rw [List.length_append, List.length_drop]; omega) (by rw [List.take_append_of_le_length (by omega), List.take_of_length_le (by omega)]; exact h1)
    refine ⟨S, g1, g2.trans ?_, fun r hr => ?_⟩
    · have := h2.append_right (x.drop (i + 1))
      rw [← ex] at this
      exact this
    · have hh := h3 r (g3 r hr)
      rw [← ex] at hh
      refine Ev.step (f := fun k => tallymanref16_sketch.l1 k K x (i : Int) (i : Int)) (fun k => ?_) hh
      simp only [tallymanref16_sketch.l0]
      rw [if_pos (by omega)]
/-- Each once, of a sorted row behind a. -/
def ddr : Int → List Int → List Int
  | _, [] => []
  | a, b :: r => if b = a then ddr b r else b :: ddr b r
def dd : List Int → List Int
  | [] => []
  | a :: r => a :: ddr a r
theorem ddr_len : ∀ (a : Int) (r : List Int), (ddr a r).length ≤ r.length
  | _, [] => Nat.le_refl _
  | a, b :: r => by
    unfold ddr
    have := ddr_len b r
    split <;> simp <;> omega
theorem ddr_mem : ∀ (a : Int) (r : List Int) (x : Int), x = a ∨ x ∈ ddr a r ↔ x = a ∨ x ∈ r
  | _, [], x => by simp [ddr]
  | a, b :: r, x => by
    unfold ddr
    have ih := ddr_mem b r x
    split
    · next h =>
      subst h
      rw [ih, List.mem_cons]
      constructor
      · rintro (h | h)
        · exact .inl h
        · exact .inr (.inr h)
      · rintro (h | h | h)
        · exact .inl h
        · exact .inl h
        · exact .inr h
    · rw [List.mem_cons, List.mem_cons, ih]
theorem ddr_inc : ∀ (a : Int) (r : List Int), (a :: r).Pairwise (· ≤ ·) → (a :: ddr a r).Pairwise (· < ·)
  | a, [], _ => by simp [ddr]
  | a, b :: r, h => by
    have h2 := (List.pairwise_cons.1 h).2
    have hab := (List.pairwise_cons.1 h).1 b (by simp)
    have ih := ddr_inc b r h2
    unfold ddr
    split
    · next e => subst e; exact ih
    · refine List.pairwise_cons.2 ⟨fun y hy => ?_, ih⟩
      rcases List.mem_cons.1 hy with rfl | hy
      · omega
      · have := (List.pairwise_cons.1 ih).1 y hy
        omega
theorem dd_mem (l : List Int) (x : Int) : x ∈ dd l ↔ x ∈ l := by
  cases l with
  | nil => simp [dd]
  | cons a r =>
    have := ddr_mem a r x
    unfold dd
    rw [List.mem_cons, List.mem_cons, this]
theorem dd_inc {l : List Int} (h : l.Pairwise (· ≤ ·)) : (dd l).Pairwise (· < ·) := by
  cases l with
  | nil => simp [dd]
  | cons a r => exact ddr_inc a r h
theorem dd_len (l : List Int) : (dd l).length ≤ l.length := by
  cases l with
  | nil => simp [dd]
  | cons a r => have := ddr_len a r; simp [dd]; omega
def skEnd (K : Nat) (o : List Int) : Int × List Int × Int := if o.length ≤ K then ((K : Int), o, 0) else ((K : Int), o.take K, rd o (K : Int))
theorem sk_once (K : Nat) (S : List Int) (hS : S.length ≤ 1000) : ∀ (d i : Nat) (out : List Int), i + d = S.length → 0 < i → out.length ≤ i →
    Ev (fun k => tallymanref16_sketch.l2 k (K : Int) S out (i : Int)) (skEnd K (out ++ ddr (rd S ((i - 1 : Nat) : Int)) (S.drop i))) := by
  intro d
  induction d with
  | zero =>
    intro i out h h0 ho
    rw [List.drop_of_length_le (by omega), show ddr (rd S ((i - 1 : Nat) : Int)) [] = [] from rfl, List.append_nil]
    refine Ev.step (f := fun _ => some (skEnd K out)) (fun k => ?_) (Ev.now _)
    simp only [tallymanref16_sketch.l2]
    rw [if_neg (by omega)]
    unfold skEnd
    by_cases hc : out.length ≤ K
    · rw [if_pos (by omega), if_pos hc]
    · rw [if_neg (by omega), if_neg hc, if_pos (by omega), if_pos (by omega), if_pos (by omega), show ((K : Int)).toNat = K by omega]
  | succ d ih =>
    intro i out h h0 ho
    have hi : i < S.length := by omega
    have hw : wrap64 ((i : Int) - 1) = ((i - 1 : Nat) : Int) := by rw [wz _ (by omega) (by omega)]; omega
    have hw2 : wrap64 ((i : Int) + 1) = ((i + 1 : Nat) : Int) := by rw [wz _ (by omega) (by omega)]; omega
    have hr : rd S (i : Int) = S[i] := rd_nat' S i hi
    have hd : S.drop i = S[i] :: S.drop (i + 1) := List.drop_eq_getElem_cons hi
    have e1 : ((i + 1 - 1 : Nat) : Int) = (i : Int) := by omega
    rw [hd]
    unfold ddr
    by_cases hc : S[i] = rd S ((i - 1 : Nat) : Int)
    · rw [if_pos hc]
      have := ih (i + 1) out (by omega) (by omega) (by omega)
      rw [e1, hr] at this
      refine Ev.step (f := fun k => tallymanref16_sketch.l2 k (K : Int) S out ((i + 1 : Nat) : Int)) (fun k => ?_) this
      simp only [tallymanref16_sketch.l2]
      rw [if_pos (by omega), if_neg (by omega), if_pos (by omega), hw, if_pos (by omega), if_pos (by omega), hr, if_pos hc, hw2]
    · rw [if_neg hc]
      have := ih (i + 1) (out ++ [S[i]]) (by omega) (by omega) (by simp; omega)
      rw [e1, hr, List.append_assoc, List.singleton_append] at this
      refine Ev.step (f := fun k => tallymanref16_sketch.l2 k (K : Int) S (out ++ [S[i]]) ((i + 1 : Nat) : Int)) (fun k => ?_) this
      simp only [tallymanref16_sketch.l2]
      rw [if_pos (by omega), if_neg (by omega), if_pos (by omega), hw, if_pos (by omega), if_pos (by omega), hr, if_neg hc, if_pos (by omega), hw2]
theorem sk_once0 (K : Nat) (S : List Int) (hS : S.length ≤ 1000) : Ev (fun k => tallymanref16_sketch.l2 k (K : Int) S [] 0) (skEnd K (dd S)) := by
  cases S with
  | nil =>
    refine Ev.step (f := fun _ => some (skEnd K (dd []))) (fun k => ?_) (Ev.now _)
    simp only [tallymanref16_sketch.l2]
    rw [if_neg (by simp)]
    unfold skEnd dd
    rw [if_pos (by simp), if_pos (by simp)]
  | cons a r =>
    have := sk_once K (a :: r) hS r.length 1 [a] (by simp; omega) (by omega) (by simp)
    have e0 : rd (a :: r) (((1 : Nat) - 1 : Nat) : Int) = a := rfl
    rw [e0, show (a :: r).drop 1 = r from rfl] at this
    refine Ev.step (f := fun k => tallymanref16_sketch.l2 k (K : Int) (a :: r) [a] ((1 : Nat) : Int)) (fun k => ?_) this
    simp only [tallymanref16_sketch.l2]
    rw [if_pos (by simp), if_pos trivial, if_pos (by omega), if_pos (by simp), show rd (a :: r) 0 = a from rfl, wz _ (by omega) (by omega)]
    rfl
theorem sketch_ev (K : Nat) (l : List Int) (hl : l.length ≤ 1000) : ∃ S : List Int, S.Pairwise (· ≤ ·) ∧ S.Perm l ∧ Ev (fun k => tallymanref16_sketch.f k (K : Int) l) (skEnd K (dd S)) := by
  have hf : ∀ r, Ev (fun k => tallymanref16_sketch.l0 k (K : Int) l ((1 : Nat) : Int)) r → Ev (fun k => tallymanref16_sketch.f k (K : Int) l) r := fun r hr => by
    unfold tallymanref16_sketch.f
    refine Ev.congr (fun k => ?_) hr
    simp only [Option.bind_some, List.length_nil, List.nil_append]
    rw [if_pos (by omega)]
    rfl
  by_cases h0 : l.length = 0
  · obtain rfl : l = [] := List.length_eq_zero_iff.mp h0
    refine ⟨[], List.Pairwise.nil, List.Perm.refl _, hf _ ?_⟩
    refine Ev.step (f := fun k => tallymanref16_sketch.l2 k (K : Int) [] [] 0) (fun k => ?_) (sk_once0 K [] (by simp))
    simp only [tallymanref16_sketch.l0]
    rw [if_neg (by simp)]
  · obtain ⟨S, h1, h2, h3⟩ := sk_outer (K : Int) (l.length - 1) l 1 (by omega) (by omega) hl (by
      cases l with
      | nil => simp at h0
      | cons a r => simp)
    exact ⟨S, h1, h2, hf _ (h3 _ (sk_once0 K S (by rw [h2.length_eq]; exact hl)))⟩
/-- What a sketch of few hashes is: the least of them, below the limit. -/
structure SkOf (K : Nat) (l h : List Int) (L : Int) : Prop where
  inc : h.Pairwise (· < ·)
  len : h.length ≤ K
  len2 : h.length ≤ l.length
  lim : L = 0 ∨ (h.length = K ∧ ∀ x ∈ h, x < L)
  mem : ∀ x, x ∈ h ↔ x ∈ l ∧ (L = 0 ∨ x < L)
  pos : 0 ≤ L
theorem skEnd_of (K : Nat) (hK : 0 < K) {l o : List Int} (ho : o.Pairwise (· < ·)) (hm : ∀ x, x ∈ o ↔ x ∈ l) (hlen : o.length ≤ l.length) (h0 : ∀ x ∈ l, 0 ≤ x) :
    ∃ (h : List Int) (L : Int), skEnd K o = ((K : Int), h, L) ∧ SkOf K l h L := by
  unfold skEnd
  by_cases hc : o.length ≤ K
  · exact ⟨o, 0, if_pos hc, ho, hc, hlen, .inl rfl, fun x => by rw [hm]; simp, Int.le_refl _⟩
  · have hr : rd o (K : Int) = o[K] := rd_nat' o K (by omega)
    have e0 : o = o.take K ++ o[K] :: o.drop (K + 1) := by rw [← List.drop_eq_getElem_cons (by omega), List.take_append_drop]
    have hp := ho
    rw [e0, List.pairwise_append] at hp
    have hpos : 0 ≤ o[K] := h0 _ ((hm _).1 (List.getElem_mem (by omega)))
    have hlt : ∀ x ∈ o.take K, x < o[K] := fun x hx => hp.2.2 x hx _ (List.mem_cons_self ..)
    have hne : ¬ o[K] = 0 := by
      have hx : o[0] ∈ o.take K := by
        rw [List.mem_take_iff_getElem]
        exact ⟨0, by omega, rfl⟩
      have := hlt _ hx
      have := h0 _ ((hm _).1 (List.mem_of_mem_take hx))
      omega
    refine ⟨o.take K, o[K], by rw [if_neg hc, hr], hp.1, by rw [List.length_take]; omega, by rw [List.length_take]; omega, .inr ⟨by rw [List.length_take]; omega, hlt⟩, fun x => ?_, hpos⟩
    rw [← hm]
    constructor
    · intro hx
      exact ⟨List.mem_of_mem_take hx, .inr (hlt x hx)⟩
    · rintro ⟨hx, hx2⟩
      have hx2 := hx2.resolve_left hne
      have hx' := hx
      rw [e0] at hx'
      rcases List.mem_append.1 hx' with h | h
      · exact h
      · rcases List.mem_cons.1 h with rfl | h
        · omega
        · have := (List.pairwise_cons.1 hp.2.1).1 x h
          omega
theorem refOf_ev (K : Nat) (l : List Int) (h1 : 16 ≤ K) (h2 : K ≤ 4096) (hl : l.length ≤ 1000) (h0 : ∀ x ∈ l, 0 ≤ x) : ∃ (h : List Int) (L : Int), SkOf K l h L ∧ Ev (fun k => tallymanref16_Of.f k (K : Int) l) ((K : Int), h, L, 0) := by
  obtain ⟨S, s1, s2, s3⟩ := sketch_ev K l hl
  obtain ⟨h, L, e, g⟩ := skEnd_of K (by omega) (dd_inc s1) (fun x => by rw [dd_mem]; exact s2.mem_iff) (by have := dd_len S; rw [s2.length_eq] at this; exact this) h0
  refine ⟨h, L, g, ?_⟩
  rw [e] at s3
  unfold tallymanref16_Of.f tallymanref16_may.f
  refine Ev.congr (f := fun k => (tallymanref16_sketch.f k (K : Int) l).bind fun bt599 => (some (bt599.1, bt599.2.1, bt599.2.2, 0))) (fun k => ?_) (Ev.bind s3 (Ev.now _))
  rw [if_pos (by omega), decide_eq_true (by omega)]
  simp only [Option.bind_some, if_true]
/-! ### setops.Of of such a sketch -/
theorem thetaChk_loop {K : Int} {h : List Int} {L : Int} (hi : h.Pairwise (· < ·)) (hL : L = 0 ∨ ∀ x ∈ h, x < L) (hl : h.length ≤ 1000000) : ∀ (d i : Nat), i + d = h.length →
    Ev (fun k => theta_Check.l0 k h (h.length : Int) (i : Int) K h L) 0 := by
  intro d
  induction d with
  | zero =>
    intro i e
    refine Ev.step (f := fun _ => some 0) (fun k => ?_) (Ev.now _)
    simp only [theta_Check.l0]
    rw [if_neg (by omega)]
  | succ d ih =>
    intro i e
    have hi2 : i < h.length := by omega
    have hr : rd h (i : Int) = h[i] := rd_nat' h i hi2
    have hw2 : wrap64 ((i : Int) + 1) = ((i + 1 : Nat) : Int) := by rw [wz _ (by omega) (by omega)]; omega
    refine Ev.step (f := fun k => theta_Check.l0 k h (h.length : Int) ((i + 1 : Nat) : Int) K h L) (fun k => ?_) (ih (i + 1) (by omega))
    simp only [theta_Check.l0]
    rw [if_pos (by omega), if_pos (by omega), if_pos (by omega)]
    have tail : (if L = 0 then theta_Check.l0 k h (h.length : Int) (wrap64 ((i : Int) + 1)) K h L else if rd h (i : Int) ≥ L then some 2 else theta_Check.l0 k h (h.length : Int) (wrap64 ((i : Int) + 1)) K h L) = theta_Check.l0 k h (h.length : Int) ((i + 1 : Nat) : Int) K h L := by
      rw [hw2]
      by_cases h0 : L = 0
      · rw [if_pos h0]
      · have := hL.resolve_left h0 h[i] (List.getElem_mem hi2)
        rw [if_neg h0, hr, if_neg (by omega)]
    by_cases hp : 0 < i
    · have hw : wrap64 ((i : Int) - 1) = ((i - 1 : Nat) : Int) := by rw [wz _ (by omega) (by omega)]; omega
      have hlt : h[i - 1] < h[i] := List.pairwise_iff_getElem.1 hi (i - 1) i (by omega) hi2 (by omega)
      rw [if_pos (by omega), hw, if_pos (by omega), if_pos (by omega), hr, rd_nat' h (i - 1) (by omega), if_neg (by omega)]
      rw [hr] at tail
      exact tail
    · rw [if_neg (by omega)]
      exact tail
theorem setOf_ev {K : Nat} {l h : List Int} {L : Int} (h1 : 16 ≤ K) (h2 : K ≤ 4096) (g : SkOf K l h L) (hl : h.length ≤ 1000000) : Ev (fun k => setops_Of.f k (K : Int) h L) (L, h, 0) := by
  have hc : Ev (fun k => theta_Check.f k (K : Int) h L) 0 := by
    unfold theta_Check.f
    refine Ev.congr (f := fun k => theta_Check.j0 k false (K : Int) h L) (fun k => ?_) ?_
    · have := g.len
      rw [if_neg (by omega), if_neg (by omega), if_neg (by omega)]
      by_cases h0 : L = 0
      · rw [if_pos h0]
      · have := (g.lim.resolve_left h0).1
        rw [if_neg h0, show (((h.length : Int)) != (K : Int)) = false by simpa using (by omega : (h.length : Int) = (K : Int))]
    · refine Ev.step (f := fun k => theta_Check.l0 k h (h.length : Int) ((0 : Nat) : Int) (K : Int) h L) (fun k => ?_) (thetaChk_loop g.inc (g.lim.imp_right (·.2)) hl h.length 0 (by omega))
      simp only [theta_Check.j0]
      rw [if_neg (by decide)]
      rfl
  unfold setops_Of.f
  refine Ev.bind hc (Ev.congr (f := fun _ => some (L, h, 0)) (fun k => ?_) (Ev.now _))
  rw [if_pos rfl]
  unfold slices_Clone_uint64_uint64.f
  rw [if_pos (by omega)]
  rfl
end Go.Proofs.Ytpagondojdlknaa.H
