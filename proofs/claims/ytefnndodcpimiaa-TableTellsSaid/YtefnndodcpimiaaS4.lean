/- What Read of a table's bytes is. -/
import Derived.Test.YtefnndodcpimiaaS1
import Derived.Test.YtefnndodcpimiaaM5
namespace Go.Proofs.Ytefnndodcpimiaa.H
open Go.RowKit Go.Proofs.YtefnndodcpimiaaW.PrintWords Go.Proofs.YtefnndodcpimiaaW.PrintLast
/-! ### What is encoded is read, and nothing else is -/
theorem numR_numB : ∀ (d x : Nat) (rest : List Int) (i : Nat) (n : Int), x < 128 ^ d → 0 < d → i + d ≤ 9 → (0 < i → 0 < x) → numR (numB x ++ rest) i n = (0, n + (x : Int) * 2 ^ (7 * i), i + (numB x).length) := by
  intro d
  induction d with
  | zero => intro x rest i n _ h; omega
  | succ d ih =>
    intro x rest i n hx _ hi h0
    by_cases h : x < 128
    · rw [numB_lt h]
      show numR ((x : Int) :: rest) i n = _
      unfold numR
      rw [if_neg (by omega), if_pos (by omega), show (x : Int) % 128 = x by omega]
      rfl
    · rw [numB_ge h, List.cons_append]
      have hd : 0 < d := by
        rcases Nat.eq_zero_or_pos d with e | e
        · subst e; omega
        · exact e
      unfold numR
      rw [if_neg (by omega), if_neg (by omega), ih (x / 128) rest (i + 1) _ (by rw [Nat.pow_succ] at hx; omega) hd (by omega) (by omega)]
      have e1 : (((x % 128 + 128 : Nat) : Int)) % 128 = ((x % 128 : Nat) : Int) := by omega
      have e2 : (2 : Int) ^ (7 * (i + 1)) = 128 * 2 ^ (7 * i) := by rw [show 7 * (i + 1) = 7 * i + 7 by omega, Int.pow_add]; omega
      have e3 : (x : Int) = ((x % 128 : Nat) : Int) + 128 * ((x / 128 : Nat) : Int) := by omega
      rw [e1, e2]
      refine Prod.ext rfl (Prod.ext ?_ ?_)
      · show n + _ + _ = n + (x : Int) * 2 ^ (7 * i)
        conv => rhs; rw [e3]
        rw [Int.add_mul, Int.mul_comm 128 (2 ^ (7 * i)), ← Int.mul_assoc, Int.mul_comm (128 : Int) ((x / 128 : Nat) : Int), Int.mul_assoc ((x / 128 : Nat) : Int) 128 _, Int.mul_comm (128 : Int) (2 ^ (7 * i)), ← Int.mul_assoc, Int.add_assoc]
      · show i + 1 + _ = i + (_ + 1)
        omega
theorem numR_inv : ∀ (l : List Int) (i : Nat) (n : Int), l.all isByte = true → (numR l i n).1 = 0 → ∃ x : Nat, (numR l i n).2.1 = n + (x : Int) * 2 ^ (7 * i) ∧ l.take ((numR l i n).2.2 - i) = numB x ∧ i < (numR l i n).2.2 ∧ (0 < i → 0 < x)
  | [], i, n, _, h => by simp [numR] at h
  | c :: r, i, n, hb, h => by
    have hc : 0 ≤ c ∧ c ≤ 255 := by
      have := List.all_eq_true.mp hb c (List.mem_cons_self ..)
      unfold isByte at this
      simpa using this
    have hr : r.all isByte = true := by
      rw [List.all_cons, Bool.and_eq_true] at hb
      exact hb.2
    unfold numR at h ⊢
    by_cases h1 : (i = 9 ∧ 1 < c) ∨ (0 < i ∧ c = 0)
    · rw [if_pos h1] at h
      cases h
    · rw [if_neg h1] at h ⊢
      by_cases h2 : c < 128
      · rw [if_pos h2] at h ⊢
        refine ⟨c.toNat, ?_, ?_, Nat.lt_succ_self i, fun hi => ?_⟩
        · show n + c % 128 * _ = _
          rw [show c % 128 = c by omega, show ((c.toNat : Nat) : Int) = c by omega]
        · show (c :: r).take (i + 1 - i) = _
          rw [show i + 1 - i = 1 by omega, numB_lt (by omega), show ((c.toNat : Nat) : Int) = c by omega]
          rfl
        · omega
      · rw [if_neg h2] at h ⊢
        obtain ⟨x, h3, h4, h5, h6⟩ := numR_inv r (i + 1) _ hr h
        have hx := h6 (by omega)
        have e2 : (2 : Int) ^ (7 * (i + 1)) = 128 * 2 ^ (7 * i) := by rw [show 7 * (i + 1) = 7 * i + 7 by omega, Int.pow_add]; omega
        refine ⟨(c % 128).toNat + 128 * x, ?_, ?_, by omega, fun _ => by omega⟩
        · rw [h3, e2, show (((c % 128).toNat + 128 * x : Nat) : Int) = c % 128 + 128 * (x : Int) by omega, Int.add_mul, Int.mul_assoc 128 (x : Int), Int.mul_left_comm (x : Int) 128, Int.add_assoc]
        · generalize (numR r (i + 1) (n + c % 128 * 2 ^ (7 * i))).2.2 = s at *
          rw [show s - i = (s - (i + 1)) + 1 by omega, List.take_succ_cons, h4]
          conv => rhs; rw [numB_ge (by omega)]
          rw [show ((c % 128).toNat + 128 * x) / 128 = x by omega, show ((((c % 128).toNat + 128 * x) % 128 + 128 : Nat) : Int) = c by omega]
theorem rdUpto_numB (most : Int) (x : Nat) (rest : List Int) (h : (x : Int) ≤ most) (hx : x < 128 ^ 9) : rdUpto most (numB x ++ rest) 0 = ((x : Int), rest, 0) := by
  have hn := numR_numB 9 x rest 0 0 hx (by omega) (by omega) (by omega)
  have e : rdNum (numB x ++ rest) 0 = ((x : Int), rest, 0) := by
    unfold rdNum
    rw [if_pos rfl, hn]
    simp
  unfold rdUpto
  rw [e]
  exact if_neg (by simp; omega)
theorem rdUpto_inv (most : Int) (l : List Int) (hb : l.all isByte = true) (h : (rdUpto most l 0).2.2 = 0) : ∃ x : Nat, (rdUpto most l 0).1 = (x : Int) ∧ (x : Int) ≤ most ∧ l = numB x ++ (rdUpto most l 0).2.1 := by
  unfold rdUpto at h ⊢
  by_cases h1 : (rdNum l 0).2.2 = 0 ∧ most < (rdNum l 0).1
  · rw [if_pos h1] at h
    cases h
  · rw [if_neg h1] at h ⊢
    have h2 : ¬ most < (rdNum l 0).1 := fun e => h1 ⟨h, e⟩
    unfold rdNum at h h2 ⊢
    rw [if_pos rfl] at h h2 ⊢
    by_cases h3 : (numR l 0 0).1 = 0
    · rw [if_pos h3] at h h2 ⊢
      obtain ⟨x, e1, e2, e3, _⟩ := numR_inv l 0 0 hb h3
      have e4 : (numR l 0 0).2.1 = (x : Int) := by rw [e1]; simp
      refine ⟨x, e4, ?_, ?_⟩
      · show (x : Int) ≤ most
        have : ¬ most < (numR l 0 0).2.1 := h2
        omega
      · show l = numB x ++ l.drop _
        rw [← e2, Nat.sub_zero, List.take_append_drop]
    · rw [if_neg h3] at h
      exact absurd h h3
theorem readGo_enc : ∀ (l rest acc : List Int), (∀ x ∈ l, 0 ≤ x ∧ x ≤ 4096) → readGo l.length (numsB l ++ rest) acc = some (acc ++ l, rest)
  | [], rest, acc, _ => by simp [readGo, numsB]
  | x :: r, rest, acc, h => by
    have hx := h x (List.mem_cons_self ..)
    have hu := rdUpto_numB 4096 x.toNat (numsB r ++ rest) (by omega) (by omega)
    rw [numsB_cons, List.append_assoc, List.length_cons]
    show (if _ then _ else _) = _
    rw [hu, if_pos rfl]
    have := readGo_enc r rest (acc ++ [((x.toNat : Nat) : Int)]) (fun y hy => h y (List.mem_cons_of_mem _ hy))
    rw [this, show ((x.toNat : Nat) : Int) = x by omega]
    simp
theorem all_numB (P : Int → Bool) (h : ∀ x : Int, 0 ≤ x → x ≤ 255 → P x = true) : ∀ (d x : Nat), x < 128 ^ d → (numB x).all P = true := by
  intro d
  induction d with
  | zero =>
    intro x hx
    rw [numB_lt (by omega)]
    simp
    exact h _ (by omega) (by omega)
  | succ d ih =>
    intro x hx
    by_cases h1 : x < 128
    · rw [numB_lt h1]
      simp
      exact h _ (by omega) (by omega)
    · rw [numB_ge h1, List.all_cons, ih (x / 128) (by rw [Nat.pow_succ] at hx; omega), h _ (by omega) (by omega)]
      rfl
theorem isByte_suffix {a l : List Int} (h : (a ++ l).all isByte = true) : l.all isByte = true := by
  rw [List.all_append, Bool.and_eq_true] at h
  exact h.2
theorem readGo_inv : ∀ (k : Nat) (b acc acc' rest : List Int), b.all isByte = true → readGo k b acc = some (acc', rest) → ∃ l : List Int, acc' = acc ++ l ∧ l.length = k ∧ b = numsB l ++ rest
  | 0, b, acc, acc', rest, _, h => by
    have h := Option.some.inj h
    injection h with h1 h2
    exact ⟨[], by simp [h1], rfl, by simp [numsB, h2]⟩
  | k + 1, b, acc, acc', rest, hb, h => by
    have h : (if (rdUpto 4096 b 0).2.2 = 0 then readGo k (rdUpto 4096 b 0).2.1 (acc ++ [(rdUpto 4096 b 0).1]) else none) = some (acc', rest) := h
    by_cases h1 : (rdUpto 4096 b 0).2.2 = 0
    · rw [if_pos h1] at h
      obtain ⟨x, e1, e2, e3⟩ := rdUpto_inv 4096 b hb h1
      generalize (rdUpto 4096 b 0).2.1 = b2 at *
      rw [e1] at h
      obtain ⟨l, f1, f2, f3⟩ := readGo_inv k b2 _ _ _ (isByte_suffix (by rw [← e3]; exact hb)) h
      refine ⟨(x : Int) :: l, by rw [f1]; simp, by simp [f2], ?_⟩
      rw [numsB_cons, show ((x : Int)).toNat = x by omega, List.append_assoc, ← f3]
      exact e3
    · rw [if_neg h1] at h
      cases h
def encT (l : List Int) : List Int := numB l.length ++ numsB l
theorem valid_bounds {l : List Int} (h : chkOk l = true) : ∀ x ∈ l, 0 ≤ x ∧ x ≤ 4096 := by
  intro x hx
  obtain ⟨i, hi, rfl⟩ := List.getElem_of_mem hx
  have := valid_lo h hi
  rw [rd_nat l i hi] at this
  omega
theorem readT_enc {l : List Int} (rest : List Int) (h : chkOk l = true) : readT (encT l ++ rest) = if rest = [] then (l, 0) else ([], 4) := by
  have hl := chkOk_len h
  have hu := rdUpto_numB 65536 l.length (numsB l ++ rest) (by omega) (by omega)
  unfold readT encT
  rw [List.append_assoc, hu]
  simp only [if_true, Int.toNat_natCast]
  rw [readGo_enc l rest [] (valid_bounds h)]
  simp only [List.nil_append]
  by_cases e : rest = []
  · rw [if_pos e, if_pos ⟨by unfold rdEnd; exact if_neg (fun c => c.2 e), h⟩]
  · rw [if_neg e]
    refine if_neg (fun c => ?_)
    have := c.1
    unfold rdEnd at this
    rw [if_pos ⟨rfl, e⟩] at this
    cases this
theorem readT_cases (b : List Int) (hb : b.all isByte = true) : readT b = ([], 4) ∨ ∃ l, readT b = (l, 0) ∧ chkOk l = true ∧ b = encT l := by
  by_cases h1 : (rdUpto 65536 b 0).2.2 = 0
  · obtain ⟨x, e1, e2, e3⟩ := rdUpto_inv 65536 b hb h1
    have hsuf := isByte_suffix (by rw [← e3]; exact hb : (numB x ++ (rdUpto 65536 b 0).2.1).all isByte = true)
    unfold readT
    rw [if_pos h1, e1]
    generalize (rdUpto 65536 b 0).2.1 = b2 at *
    simp only [Int.toNat_natCast]
    cases hg : readGo x b2 [] with
    | none => exact .inl rfl
    | some p =>
      obtain ⟨acc, rest⟩ := p
      obtain ⟨l, f1, f2, f3⟩ := readGo_inv x b2 [] acc rest hsuf hg
      rw [List.nil_append] at f1
      subst f1
      by_cases h2 : rdEnd rest 0 = 0 ∧ chkOk acc = true
      · refine .inr ⟨acc, if_pos h2, h2.2, ?_⟩
        have hr : rest = [] := Classical.byContradiction fun hr => by
          have := h2.1
          unfold rdEnd at this
          rw [if_pos ⟨rfl, hr⟩] at this
          cases this
        rw [e3, f3, hr, List.append_nil]
        unfold encT
        rw [f2]
      · exact .inl (if_neg h2)
  · left
    unfold readT
    rw [if_neg h1]
theorem encT_ne (l : List Int) : encT l ≠ [] := by
  unfold encT
  intro h
  have := congrArg List.length h
  rw [List.length_append] at this
  by_cases h1 : l.length < 128
  · rw [numB_lt h1] at this
    simp at this
  · rw [numB_ge h1] at this
    simp at this
theorem readT_short {l : List Int} (h : chkOk l = true) (hb : (encT l).all isByte = true) : readT ((encT l).take ((encT l).length - 1)) = ([], 4) := by
  have hne := encT_ne l
  have hlen : 0 < (encT l).length := List.length_pos_iff.mpr hne
  have hsp := List.take_append_drop ((encT l).length - 1) (encT l)
  have hb2 : ((encT l).take ((encT l).length - 1)).all isByte = true := by
    rw [← hsp, List.all_append, Bool.and_eq_true] at hb
    exact hb.1
  rcases readT_cases _ hb2 with h1 | ⟨l', h1, h2, h3⟩
  · exact h1
  · exfalso
    have hd : (encT l).drop ((encT l).length - 1) ≠ [] := by
      intro e
      have := congrArg List.length e
      rw [List.length_drop] at this
      simp at this
      omega
    have e1 := readT_enc (l := l') ((encT l).drop ((encT l).length - 1)) h2
    rw [← h3, hsp, if_neg hd] at e1
    have e2 := readT_enc (l := l) [] h
    rw [List.append_nil, if_pos rfl, e1] at e2
    injection e2 with _ e3
    cases e3
theorem encT_bytes {l : List Int} (h : chkOk l = true) : (encT l).all isByte = true := by
  have hP : ∀ x : Int, 0 ≤ x → x ≤ 255 → isByte x = true := by
    intro x h0 h1
    unfold isByte
    simp [h0, h1]
  have hl := chkOk_len h
  unfold encT
  rw [List.all_append, all_numB isByte hP 9 l.length (by omega), Bool.true_and]
  unfold numsB
  rw [List.all_flatten, List.all_map, List.all_eq_true]
  intro x hx
  have := valid_bounds h x hx
  exact all_numB isByte hP 9 x.toNat (by omega)
end Go.Proofs.Ytefnndodcpimiaa.H
