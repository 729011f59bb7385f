/- read -/
import Derived.Test.YtbclnjinpcfpjaaSU
import Derived.Test.YtbclnjinpcfpjaaS3
namespace Go.Proofs.Ytbclnjinpcfpjaa.H
open Go.RowKit Go.Proofs.YtbclnjinpcfpjaaW.PrintWords Go.Proofs.YtbclnjinpcfpjaaW.PrintLast
set_option linter.unusedVariables false
set_option linter.unusedSimpArgs false
set_option linter.unusedSectionVars false
/-! ### What is encoded is read, and nothing else is -/
theorem numR_numB : ∀ (d x : Nat) (rest : List Int) (i : Nat) (n : Int), x < 128 ^ d → 0 < d → i + d ≤ 9 → (0 < i → 0 < x) → numR (numB x ++ rest) i n = (0, n + (x : Int) * 2 ^ (7 * i), i + (numB x).length) := by
  intro d
  induction d with
  | zero => intro x rest i n _ h; omega
  | succ d ih =>
    intro x rest i n hx _ hi h0
    by_cases h : x < 128
    · rw [numB_lt h]
      show numR ((x : Int) :: rest) i n = _
      unfold numR
      rw [if_neg (by omega), if_pos (by omega), show (x : Int) % 128 = x by omega]
      rfl
    · rw [numB_ge h, List.cons_append]
      have hd : 0 < d := by
        rcases Nat.eq_zero_or_pos d with e | e
        · subst e; omega
        · exact e
      unfold numR
      rw [if_neg (by omega), if_neg (by omega), ih (x / 128) rest (i + 1) _ (by rw [Nat.pow_succ] at hx; omega) hd (by omega) (by omega)]
      have e1 : (((x % 128 + 128 : Nat) : Int)) % 128 = ((x % 128 : Nat) : Int) := by omega
      have e2 : (2 : Int) ^ (7 * (i + 1)) = 128 * 2 ^ (7 * i) := by rw [show 7 * (i + 1) = 7 * i + 7 by omega, Int.pow_add]; omega
      have e3 : (x : Int) = ((x % 128 : Nat) : Int) + 128 * ((x / 128 : Nat) : Int) := by omega
      rw [e1, e2]
      refine Prod.ext rfl (Prod.ext ?_ ?_)
      · show n + _ + _ = n + (x : Int) * 2 ^ (7 * i)
        conv => rhs; rw [e3]
        rw [Int.add_mul, Int.mul_comm 128 (2 ^ (7 * i)), ← Int.mul_assoc, Int.mul_comm (128 : Int) ((x / 128 : Nat) : Int), Int.mul_assoc ((x / 128 : Nat) : Int) 128 _, Int.mul_comm (128 : Int) (2 ^ (7 * i)), ← Int.mul_assoc, Int.add_assoc]
      · show i + 1 + _ = i + (_ + 1)
        omega
theorem numR_inv : ∀ (l : List Int) (i : Nat) (n : Int), l.all isByte = true → (numR l i n).1 = 0 → ∃ x : Nat, (numR l i n).2.1 = n + (x : Int) * 2 ^ (7 * i) ∧ l.take ((numR l i n).2.2 - i) = numB x ∧ i < (numR l i n).2.2 ∧ (0 < i → 0 < x)
  | [], i, n, _, h => by simp [numR] at h
  | c :: r, i, n, hb, h => by
    have hc : 0 ≤ c ∧ c ≤ 255 := by
      have := List.all_eq_true.mp hb c (List.mem_cons_self ..)
      unfold isByte at this
      simpa using this
    have hr : r.all isByte = true := by
      rw [List.all_cons, Bool.and_eq_true] at hb
      exact hb.2
    unfold numR at h ⊢
    by_cases h1 : (i = 9 ∧ 1 < c) ∨ (0 < i ∧ c = 0)
    · rw [if_pos h1] at h
      cases h
    · rw [if_neg h1] at h ⊢
      by_cases h2 : c < 128
      · rw [if_pos h2] at h ⊢
        refine ⟨c.toNat, ?_, ?_, Nat.lt_succ_self i, fun hi => ?_⟩
        · show n + c % 128 * _ = _
          rw [show c % 128 = c by omega, show ((c.toNat : Nat) : Int) = c by omega]
        · show (c :: r).take (i + 1 - i) = _
          rw [show i + 1 - i = 1 by omega, numB_lt (by omega), show ((c.toNat : Nat) : Int) = c by omega]
          rfl
        · omega
      · rw [if_neg h2] at h ⊢
        obtain ⟨x, h3, h4, h5, h6⟩ := numR_inv r (i + 1) _ hr h
        have hx := h6 (by omega)
        have e2 : (2 : Int) ^ (7 * (i + 1)) = 128 * 2 ^ (7 * i) := by rw [show 7 * (i + 1) = 7 * i + 7 by omega, Int.pow_add]; omega
        refine ⟨(c % 128).toNat + 128 * x, ?_, ?_, by omega, fun _ => by omega⟩
        · rw [h3, e2, show (((c % 128).toNat + 128 * x : Nat) : Int) = c % 128 + 128 * (x : Int) by omega, Int.add_mul, Int.mul_assoc 128 (x : Int), Int.mul_left_comm (x : Int) 128, Int.add_assoc]
        · generalize (numR r (i + 1) (n + c % 128 * 2 ^ (7 * i))).2.2 = s at *
          rw [show s - i = (s - (i + 1)) + 1 by omega, List.take_succ_cons, h4]
          conv => rhs; rw [numB_ge (by omega)]
          rw [show ((c % 128).toNat + 128 * x) / 128 = x by omega, show ((((c % 128).toNat + 128 * x) % 128 + 128 : Nat) : Int) = c by omega]
theorem rdUpto_numB (most : Int) (x : Nat) (rest : List Int) (h : (x : Int) ≤ most) (hx : x < 128 ^ 9) : rdUpto most (numB x ++ rest) 0 = ((x : Int), rest, 0) := by
  have hn := numR_numB 9 x rest 0 0 hx (by omega) (by omega) (by omega)
  have e : rdNum (numB x ++ rest) 0 = ((x : Int), rest, 0) := by
    unfold rdNum
    rw [if_pos rfl, hn]
    simp
  unfold rdUpto
  rw [e]
  exact if_neg (by simp; omega)
theorem rdUpto_inv (most : Int) (l : List Int) (hb : l.all isByte = true) (h : (rdUpto most l 0).2.2 = 0) : ∃ x : Nat, (rdUpto most l 0).1 = (x : Int) ∧ (x : Int) ≤ most ∧ l = numB x ++ (rdUpto most l 0).2.1 := by
  unfold rdUpto at h ⊢
  by_cases h1 : (rdNum l 0).2.2 = 0 ∧ most < (rdNum l 0).1
  · rw [if_pos h1] at h
    cases h
  · rw [if_neg h1] at h ⊢
    have h2 : ¬ most < (rdNum l 0).1 := fun e => h1 ⟨h, e⟩
    unfold rdNum at h h2 ⊢
    rw [if_pos rfl] at h h2 ⊢
    by_cases h3 : (numR l 0 0).1 = 0
    · rw [if_pos h3] at h h2 ⊢
      obtain ⟨x, e1, e2, e3, _⟩ := numR_inv l 0 0 hb h3
      have e4 : (numR l 0 0).2.1 = (x : Int) := by rw [e1]; simp
      refine ⟨x, e4, ?_, ?_⟩
      · show (x : Int) ≤ most
        have : ¬ most < (numR l 0 0).2.1 := h2
        omega
      · show l = numB x ++ l.drop _
        rw [← e2, Nat.sub_zero, List.take_append_drop]
    · rw [if_neg h3] at h
      exact absurd h h3
theorem rdUpto_err (most : Int) (l : List Int) (e : Int) (he : ¬ (rdUpto most l e).2.2 = 0) : (rdUpto most l e).1 = 0 := by
  unfold rdUpto at he ⊢
  split
  · rfl
  · rename_i h1
    rw [if_neg h1] at he
    unfold rdNum at he ⊢
    split
    · rename_i h2
      rw [if_pos h2] at he
      split
      · rename_i h3
        rw [if_pos h3] at he
        simp at he
      · rfl
    · rfl
/-! ### Bytes as numbers -/
theorem byte_of {c : List Int} (h : c.all isByte = true) : ∀ x ∈ c, 0 ≤ x ∧ x ≤ 255 := fun x hx => by
  have := List.all_eq_true.mp h x hx
  unfold isByte at this
  simpa using this
theorem bytes_nat {c : List Int} (h : c.all isByte = true) : ∃ cn : List Nat, c = asInt cn ∧ ∀ x ∈ cn, x < 256 := by
  refine ⟨c.map Int.toNat, ?_, fun y hy => ?_⟩
  · unfold asInt
    rw [List.map_map]
    conv => lhs; rw [← List.map_id c]
    refine List.map_congr_left (fun y hy => ?_)
    have := byte_of h y hy
    simp only [id, Function.comp_apply]
    omega
  · obtain ⟨z, hz, rfl⟩ := List.mem_map.1 hy
    have := byte_of h z hz
    omega
theorem str_inj : ∀ (a b : List Int), a.all isByte = true → b.all isByte = true → a.map (fun n => UInt8.ofNat n.toNat) = b.map (fun n => UInt8.ofNat n.toNat) → a = b
  | [], [], _, _, _ => rfl
  | [], _ :: _, _, _, h => by simp at h
  | _ :: _, [], _, _, h => by simp at h
  | x :: a, y :: b, ha, hb, h => by
    have h1 := byte_of ha x (by simp)
    have h2 := byte_of hb y (by simp)
    rw [List.all_cons, Bool.and_eq_true] at ha hb
    simp only [List.map_cons, List.cons.injEq] at h
    have ih := str_inj a b ha.2 hb.2 h.2
    have e := congrArg UInt8.toNat h.1
    rw [UInt8.toNat_ofNat_of_lt' (by show _ < 256; omega), UInt8.toNat_ofNat_of_lt' (by show _ < 256; omega)] at e
    rw [ih, show x = y by omega]
theorem numB_all : ∀ (n x : Nat), x < n → (numB x).all isByte = true := by
  intro n
  induction n with
  | zero => intro x h; omega
  | succ n ih =>
    intro x h
    by_cases c : x < 128
    · rw [numB_lt c]; simp [isByte]; omega
    · rw [numB_ge c, List.all_cons, ih (x / 128) (by omega), Bool.and_true]
      simp [isByte]; omega
theorem asInt_all {l : List Nat} (h : ∀ x ∈ l, x < 256) : (asInt l).all isByte = true := by
  rw [List.all_eq_true]
  intro x hx
  obtain ⟨z, hz, rfl⟩ := List.mem_map.1 hx
  have := h z hz
  simp [isByte]; omega
theorem sparseT_all (P : Nat) (h4 : 4 ≤ P) : ∀ (l : List S32) (last : Int), regsOk P last l = true → (sparseT last l).all isByte = true
  | [], _, _ => rfl
  | r :: t, last, h => by
    obtain ⟨o1, o2, o3, o4, o5⟩ := regsOk_cons h
    rw [sparseT, List.all_append, List.all_append, sparseT_all P h4 t r.f0 o5, numB_all _ _ (Nat.lt_succ_self _)]
    simp [isByte]; omega
theorem ranks_good {P : Nat} (h4 : 4 ≤ P) {l : List S32} (h : regsOk P (-1) l = true) : (ranksOf (List.replicate (2 ^ P) 0) l).length = 4 * 2 ^ (P - 2) ∧ ∀ y ∈ ranksOf (List.replicate (2 ^ P) 0) l, y < 64 := by
  refine ⟨by rw [ranksOf_len, List.length_replicate, pow_four h4], ranksOf_lt P h4 l (-1) _ h (fun y hy => ?_)⟩
  rw [List.eq_of_mem_replicate hy]; omega
theorem denseB_eq {P : Nat} (h4 : 4 ≤ P) {l : List S32} (h : regsOk P (-1) l = true) : ∃ cn : List Nat, denseB P l = (P : Int) :: 1 :: asInt cn ∧ (∀ x ∈ cn, x < 256) ∧ cn.length = 3 * 2 ^ (P - 2) ∧ unpackN cn = asInt (ranksOf (List.replicate (2 ^ P) 0) l) := by
  obtain ⟨g1, g2⟩ := ranks_good h4 h
  have e := packB_N _ _ g1
  refine ⟨packN (ranksOf (List.replicate (2 ^ P) 0) l), ?_, packN_lt _ _ g1, ?_, unpack_packN _ _ g1 g2⟩
  · unfold denseB; rw [e]; rfl
  · have := packB_len _ _ g1
    rw [e] at this
    simpa [asInt] using this
theorem bytesB_all {P : Nat} (h4 : 4 ≤ P) (hP : P ≤ 16) {l : List S32} (h : regsOk P (-1) l = true) : (bytesB P l).all isByte = true := by
  unfold bytesB
  split
  · unfold sparseB
    rw [List.all_append, List.all_append, sparseT_all P h4 l (-1) h, numB_all _ _ (Nat.lt_succ_self _)]
    simp [isByte]; omega
  · obtain ⟨cn, e, hx, _⟩ := denseB_eq h4 h
    rw [e, List.all_cons, List.all_cons, asInt_all hx]
    simp [isByte]; omega
theorem bytesB_len {P : Nat} (h4 : 4 ≤ P) (hP : P ≤ 12) {l : List S32} (h : regsOk P (-1) l = true) : 2 ≤ (bytesB P l).length ∧ (bytesB P l).length ≤ 4000 := by
  obtain ⟨cn, e, _, hx, _⟩ := denseB_eq h4 h
  have hp : 2 ^ (P - 2) ≤ 2 ^ 10 := Nat.pow_le_pow_right (by omega) (by omega)
  have hd : (denseB P l).length = 3 * 2 ^ (P - 2) + 2 := by rw [e]; simp [asInt, hx]
  have hs : 2 ≤ (sparseB P l).length := by unfold sparseB; simp
  unfold bytesB
  split <;> omega
/-! ### The sparse reading of what is encoded -/
theorem regsOk_len {P : Nat} : ∀ (l : List S32) (last : Int), -1 ≤ last → last < ((2 ^ P : Nat) : Int) → regsOk P last l = true → (l.length : Int) + last + 1 ≤ ((2 ^ P : Nat) : Int)
  | [], last, h1, h2, _ => by
    simp only [List.length_nil]
    generalize ((2 ^ P : Nat) : Int) = M at *
    omega
  | r :: t, last, h1, h2, h => by
    obtain ⟨o1, o2, o3, o4, o5⟩ := regsOk_cons h
    have := regsOk_len t r.f0 (by omega) o2 o5
    simp only [List.length_cons]
    generalize ((2 ^ P : Nat) : Int) = M at *
    omega
theorem rdS_enc {P : Nat} (h4 : 4 ≤ P) (hP : P ≤ 16) : ∀ (l : List S32) (last : Int) (acc : List S32) (rest : List Int), -1 ≤ last → regsOk P last l = true → rdS ((2 ^ P : Nat) : Int) l.length last (sparseT last l ++ rest) acc = some (acc ++ l, rest)
  | [], last, acc, rest, _, _ => by
    rw [List.append_nil]; rfl
  | r :: t, last, acc, rest, h1, h => by
    obtain ⟨o1, o2, o3, o4, o5⟩ := regsOk_cons h
    have hp := pow_small hP
    have hu := rdUpto_numB ((2 ^ P : Nat) : Int) (r.f0 - last - 1).toNat ([r.f1] ++ (sparseT r.f0 t ++ rest)) (by omega) (by omega)
    have ih := rdS_enc h4 hP t r.f0 (acc ++ [r]) rest (by omega) o5
    rw [sparseT, List.append_assoc, List.append_assoc, List.length_cons, rdS, hu]
    simp only [List.cons_append, List.nil_append, if_pos]
    rw [show ((r.f0 - last - 1).toNat : Int) = r.f0 - last - 1 by omega, w64 (x := last + 1) (by omega) (by omega), w64 (x := r.f0 - last - 1) (by omega) (by omega), show last + 1 + (r.f0 - last - 1) = r.f0 by omega, w64 (x := r.f0) (by omega) (by omega), w64 (x := r.f1) (by omega) (by omega)]
    rw [List.append_assoc] at ih
    exact ih
/-- No encoding is another and a byte. -/
theorem no_ext {P Q : Nat} (h4 : 4 ≤ P) (hP : P ≤ 16) (g4 : 4 ≤ Q) (hQ : Q ≤ 16) {l m : List S32} (hl : l.length ≤ 65536) (hm : m.length ≤ 65536) (h : regsOk P (-1) l = true) (g : regsOk Q (-1) m = true) (c : Int) : bytesB P l ++ [c] ≠ bytesB Q m := by
  obtain ⟨cn, e, _, en, _⟩ := denseB_eq h4 h
  obtain ⟨dn, f, _, fn, _⟩ := denseB_eq g4 g
  intro H
  unfold bytesB at H
  split at H <;> split at H
  · unfold sparseB at H
    simp only [List.cons_append, List.nil_append, List.append_assoc, List.cons.injEq] at H
    obtain ⟨H1, _, H2⟩ := H
    have H1 : P = Q := by omega
    subst H1
    have u1 := rdUpto_numB 65536 l.length (sparseT (-1) l ++ [c]) (by omega) (by omega)
    have u2 := rdUpto_numB 65536 m.length (sparseT (-1) m) (by omega) (by omega)
    rw [H2, u2] at u1
    simp only [Prod.mk.injEq] at u1
    obtain ⟨v1, v2, _⟩ := u1
    have s1 := rdS_enc h4 hP l (-1) [] [c] (by omega) h
    have s2 := rdS_enc h4 hP m (-1) [] [] (by omega) g
    rw [List.append_nil, v2, show m.length = l.length by omega, s1] at s2
    simp at s2
  · rw [f] at H
    unfold sparseB at H
    simp at H
  · rw [e] at H
    unfold sparseB at H
    simp at H
  · rw [e, f] at H
    simp only [List.cons_append, List.cons.injEq] at H
    have H1 : P = Q := by omega
    subst H1
    have := congrArg List.length H.2.2
    simp [asInt, en, fn] at this
/-! ### The dense reading -/
def regsAt : Nat → List Int → List S32
  | _, [] => []
  | i, v :: r => if v > 0 then (⟨(i : Int), v⟩ : S32) :: regsAt (i + 1) r else regsAt (i + 1) r
theorem regsAt_len : ∀ (t : List Int) (i : Nat), (regsAt i t).length ≤ t.length
  | [], _ => Nat.le_refl _
  | v :: r, i => by
    have := regsAt_len r (i + 1)
    unfold regsAt
    split <;> simp <;> omega
theorem regsAt_zeros : ∀ (n i : Nat) (t : List Int), regsAt i (List.replicate n 0 ++ t) = regsAt (i + n) t
  | 0, i, t => rfl
  | n + 1, i, t => by
    rw [List.replicate_succ, List.cons_append, regsAt, if_neg (by omega), regsAt_zeros n (i + 1) t, show i + 1 + n = i + (n + 1) by omega]
theorem ranksOf_take (m : Nat) : ∀ (l : List S32) (x : List Nat), (∀ r ∈ l, m ≤ r.f0.toNat) → (ranksOf x l).take m = x.take m
  | [], _, _ => rfl
  | r :: t, x, h => by
    show (ranksOf (x.set r.f0.toNat r.f1.toNat) t).take m = _
    rw [ranksOf_take m t _ (fun a ha => h a (by simp [ha])), List.take_set_of_le (h r (by simp))]
theorem regs_above {P : Nat} : ∀ (l : List S32) (last : Int), regsOk P last l = true → ∀ r ∈ l, last < r.f0
  | [], _, _ => by simp
  | r :: t, last, h => by
    obtain ⟨o1, o2, o3, o4, o5⟩ := regsOk_cons h
    intro a ha
    rcases List.mem_cons.1 ha with rfl | ha
    · exact o1
    · have := regs_above t r.f0 o5 a ha
      omega
theorem regsAt_ranks {P : Nat} : ∀ (l : List S32) (i : Nat) (x : List Nat), regsOk P ((i : Int) - 1) l = true → x.length = 2 ^ P → i ≤ 2 ^ P → x.drop i = List.replicate (2 ^ P - i) 0 → regsAt i (asInt ((ranksOf x l).drop i)) = l
  | [], i, x, _, hx, hi, hz => by
    show regsAt i (asInt (x.drop i)) = []
    rw [hz]
    have := regsAt_zeros (2 ^ P - i) i []
    rw [List.append_nil] at this
    unfold asInt
    rw [List.map_replicate]
    exact this
  | r :: t, i, x, h, hx, hi, hz => by
    obtain ⟨o1, o2, o3, o4, o5⟩ := regsOk_cons h
    obtain ⟨j, hj⟩ : ∃ j : Nat, r.f0 = (j : Int) := ⟨r.f0.toNat, by omega⟩
    obtain ⟨v, hv⟩ : ∃ v : Nat, r.f1 = (v : Int) := ⟨r.f1.toNat, by omega⟩
    have hj2 : j < 2 ^ P := by rw [hj] at o2; exact Int.ofNat_lt.1 o2
    have hij : i ≤ j := by omega
    have e0 : ranksOf x (r :: t) = ranksOf (x.set j v) t := by
      show ranksOf (x.set r.f0.toNat r.f1.toNat) t = _
      rw [hj, hv]; rfl
    rw [e0]
    have ih := regsAt_ranks t (j + 1) (x.set j v) (by rw [show ((j + 1 : Nat) : Int) - 1 = r.f0 by omega]; exact o5) (by rw [List.length_set, hx]) hj2 (by
      rw [List.drop_set_of_lt (by omega), show j + 1 = i + (j + 1 - i) by omega, ← List.drop_drop, hz, List.drop_replicate]
      congr 1; omega)
    have ht := ranksOf_take (j + 1) t (x.set j v) (fun a ha => by
      have := regs_above t r.f0 o5 a ha
      omega)
    have es : (x.set j v).take (j + 1) = x.take j ++ [v] := by
      rw [List.take_succ_eq_append_getElem (by rw [List.length_set]; omega), List.take_set_of_le (Nat.le_refl j), List.getElem_set_self]
    have ed : (ranksOf (x.set j v) t).drop i = (List.replicate (j - i) 0 ++ [v]) ++ (ranksOf (x.set j v) t).drop (j + 1) := by
      conv => lhs; rw [← List.take_append_drop (j + 1) (ranksOf (x.set j v) t)]
      rw [ht, es, List.drop_append_of_le_length (by simp; omega), List.drop_append_of_le_length (by simp; omega), List.drop_take, hz, List.take_replicate, show min (j - i) (2 ^ P - i) = j - i by omega]
    rw [ed]
    unfold asInt at ih ⊢
    rw [List.map_append, List.map_append, List.map_replicate, List.append_assoc]
    show regsAt i (List.replicate (j - i) 0 ++ ((v : Int) :: List.map (fun x : Nat => (x : Int)) (List.drop (j + 1) (ranksOf (x.set j v) t)))) = _
    rw [regsAt_zeros, show i + (j - i) = j by omega]
    rw [regsAt, if_pos (by omega), ih]
    congr 1
    cases r
    simp_all
theorem dread_loop (t : List Int) (ht : t.length ≤ 1000000) (b : List Int) (P : Int) (res : Int × List S32 × Int) : ∀ (d i : Nat) (acc : List S32), i + d = t.length → acc.length ≤ i → Ev (fun k => finF k P (acc ++ regsAt i (t.drop i)) b) res → Ev (fun k => dense_Read.l1 k b t (t.length : Int) (i : Int) P acc) res := by
  intro d
  induction d with
  | zero =>
    intro i acc h ha he
    rw [List.drop_of_length_le (by omega)] at he
    simp only [regsAt, List.append_nil] at he
    refine Ev.step (fun k => ?_) he
    simp only [dense_Read.l1]
    rw [if_neg (by omega)]
    rfl
  | succ d ih =>
    intro i acc h ha he
    have hi : i < t.length := by omega
    rw [List.drop_eq_getElem_cons hi, regsAt] at he
    have hr : rd t (i : Int) = t[i] := by simp [rd, hi]
    have hw : wrap64 ((i : Int) + 1) = ((i + 1 : Nat) : Int) := by rw [w64 (by omega) (by omega)]; rfl
    by_cases c : t[i] > 0
    · rw [if_pos c] at he
      refine Ev.step (fun k => ?_) (ih (i + 1) (acc ++ [⟨(i : Int), t[i]⟩]) (by omega) (by simp; omega) (by rw [List.append_assoc]; exact he))
      simp only [dense_Read.l1]
      rw [if_pos (by omega), if_pos (by omega), if_pos (by omega), hr, if_pos c, if_pos (by omega), hw]
    · rw [if_neg c] at he
      refine Ev.step (fun k => ?_) (ih (i + 1) acc (by omega) (by omega) he)
      simp only [dense_Read.l1]
      rw [if_pos (by omega), if_pos (by omega), if_pos (by omega), hr, if_neg c, hw]
end Go.Proofs.Ytbclnjinpcfpjaa.H
