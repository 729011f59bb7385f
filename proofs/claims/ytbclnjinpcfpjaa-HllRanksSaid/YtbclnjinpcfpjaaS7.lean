/- What the functions of hll compute. -/
import Derived.Test.YtbclnjinpcfpjaaS6
namespace Go.Proofs.Ytbclnjinpcfpjaa.H
open Go.RowKit Go.Proofs.YtbclnjinpcfpjaaW.PrintWords Go.Proofs.YtbclnjinpcfpjaaW.PrintLast
/-! ### What the functions compute -/
/-- A hash's register. -/
def spl (P H : Nat) : S32 := ⟨((H / 2 ^ (64 - P) : Nat) : Int), ((65 - P - Lib.bitLen (H % 2 ^ (64 - P)) : Nat) : Int)⟩
theorem two64 {P : Nat} (h : P ≤ 64) : 2 ^ (64 - P) * 2 ^ P = 18446744073709551616 := by rw [← Nat.pow_add, show 64 - P + P = 64 by omega]
theorem len_shift {m P : Nat} (hP : P ≤ 64) (hm : m < 2 ^ (64 - P)) (h0 : 0 < m) : Lib.bitLen (m * 2 ^ P) = P + Lib.bitLen m := by
  have h1 : m * 2 ^ P < 2 ^ 64 := by
    have : m * 2 ^ P < 2 ^ (64 - P) * 2 ^ P := (Nat.mul_lt_mul_right (Nat.two_pow_pos P)).2 hm
    rwa [two64 hP] at this
  rw [Lib.bitLen_shift P (m * 2 ^ P) (Nat.le_mul_of_pos_left _ h0) h1, Nat.mul_div_cancel _ (Nat.two_pow_pos P)]
theorem len_top {a b k : Nat} (hb : b < 2 ^ k) (h0 : 0 < a) (h : a * 2 ^ k + b < 18446744073709551616) : Lib.bitLen (a * 2 ^ k + b) = k + Lib.bitLen a := by
  have h1 : 2 ^ k ≤ a * 2 ^ k + b := Nat.le_trans (Nat.le_mul_of_pos_left _ h0) (Nat.le_add_right _ _)
  rw [Lib.bitLen_shift k _ h1 h]
  congr 1
  congr 1
  rw [Nat.add_comm, Nat.add_mul_div_right _ _ (Nat.two_pow_pos k), Nat.div_eq_of_lt hb, Nat.zero_add]
theorem len_zero : Lib.bitLen 0 = 0 := by decide
theorem len_pos {m : Nat} (h : 0 < m) (h2 : m < 18446744073709551616) : 1 ≤ Lib.bitLen m := by
  rw [Lib.bitLen_half m (by omega) h2]; omega
theorem spl_reg {P H : Nat} (h4 : 4 ≤ P) (hP : P ≤ 16) (hH : H < 18446744073709551616) : Reg ((2 ^ P : Nat) : Int) (65 - (P : Int)) (spl P H) := by
  have h1 : Lib.bitLen (H % 2 ^ (64 - P)) ≤ 64 - P := Lib.bitLen_le _ _ (by omega) (Nat.mod_lt _ (Nat.two_pow_pos _))
  have h2 : H / 2 ^ (64 - P) < 2 ^ P := Nat.div_lt_of_lt_mul (by rw [two64 (by omega)]; exact hH)
  unfold Reg spl
  refine ⟨Int.natCast_nonneg _, Int.ofNat_lt.2 h2, ?_, ?_⟩
  · show (1 : Int) ≤ ((65 - P - Lib.bitLen (H % 2 ^ (64 - P)) : Nat) : Int)
    omega
  · show ((65 - P - Lib.bitLen (H % 2 ^ (64 - P)) : Nat) : Int) ≤ 65 - (P : Int)
    omega
theorem shl_u64 {P : Nat} (hP : P ≤ 64) (H : Nat) : shl .u64 (H : Int) (P : Int) = ((H * 2 ^ P % 18446744073709551616 : Nat) : Int) := by
  unfold shl
  rw [show min ((P : Int)).toNat (IntKind.u64).bits = P by show min P 64 = P; omega]
  have e : IntKind.u64.wrap ((H : Int) * 2 ^ P) = ((H : Int) * 2 ^ P) % 18446744073709551616 := by
    unfold IntKind.wrap
    rfl
  rw [e]
  simp
theorem shr_u64 {n : Nat} (h : n ≤ 64) (H : Nat) : shr .u64 (H : Int) (n : Int) = ((H / 2 ^ n : Nat) : Int) := by
  unfold shr
  rw [show min ((n : Int)).toNat (IntKind.u64).bits = n by show min n 64 = n; omega]
  simp
theorem mn_small (P : Nat) (hP : P ≤ 16) : mn 64 (mx 0 (P : Int)) = (P : Int) := by
  unfold mn mx
  by_cases h : (0 : Int) < (P : Int)
  · rw [if_pos h, if_pos (by omega)]
  · rw [if_neg h, if_pos (by omega)]; omega
theorem len64_ev (x : Nat) (h : x < 18446744073709551616) : bits_Len64.f (x : Int) = some ((Lib.bitLen x : Nat) : Int) := by
  unfold bits_Len64.f
  rw [if_pos (by omega)]
  rfl
theorem split_eq {P H : Nat} (h4 : 4 ≤ P) (hP : P ≤ 16) (hH : H < 18446744073709551616) : hll_split.f (P : Int) (H : Int) = some ((spl P H).f0, (spl P H).f1) := by
  have hr := spl_reg h4 hP hH
  have hp := pow_small hP
  have h2 : H / 2 ^ (64 - P) < 65536 := by
    have h2 : H / 2 ^ (64 - P) < 2 ^ P := Nat.div_lt_of_lt_mul (by rw [two64 (by omega)]; exact hH)
    omega
  have hm : H % 2 ^ (64 - P) < 2 ^ (64 - P) := Nat.mod_lt _ (Nat.two_pow_pos _)
  have e64 : (64 : Int) - (P : Int) = ((64 - P : Nat) : Int) := by omega
  have e1 : xhash_High.f (H : Int) (P : Int) = some ((H / 2 ^ (64 - P) : Nat) : Int) := by
    unfold xhash_High.f xhash_clip.f
    rw [Option.bind_some, mn_small P hP, e64, wu6 (by omega) (by omega), if_pos (by omega), shr_u64 (by omega)]
  have e2 : H * 2 ^ P % 18446744073709551616 = (H % 2 ^ (64 - P)) * 2 ^ P := by
    rw [← two64 (show P ≤ 64 by omega), Nat.mul_mod_mul_right]
  have hlt : H * 2 ^ P % 18446744073709551616 < 18446744073709551616 := Nat.mod_lt _ (by omega)
  have h1 : Lib.bitLen (H % 2 ^ (64 - P)) ≤ 64 - P := Lib.bitLen_le _ _ (by omega) hm
  have e3 : Lib.bitLen (H * 2 ^ P % 18446744073709551616) = if H % 2 ^ (64 - P) = 0 then 0 else P + Lib.bitLen (H % 2 ^ (64 - P)) := by
    rw [e2]
    by_cases h0 : H % 2 ^ (64 - P) = 0
    · rw [if_pos h0, h0, Nat.zero_mul]; exact len_zero
    · rw [if_neg h0]; exact len_shift (by omega) hm (by omega)
  unfold hll_split.f bits_LeadingZeros64.f
  rw [e1, Option.bind_some, if_pos (by omega), shl_u64 (by omega), len64_ev _ hlt, Option.bind_some, Option.bind_some, e3]
  unfold spl
  have h0b : H % 2 ^ (64 - P) = 0 → Lib.bitLen (H % 2 ^ (64 - P)) = 0 := fun h0 => by rw [h0]; exact len_zero
  generalize H / 2 ^ (64 - P) = idx at *
  rw [w6 (x := (idx : Int)) (by omega) (by omega)]
  generalize Lib.bitLen (H % 2 ^ (64 - P)) = bl at *
  clear e1 e2 e3 hlt hr hH hm
  have mnle : ∀ a b : Int, a ≤ b → mn a b = a := fun a b h => by unfold mn; rw [if_neg (by omega)]
  have mnge : ∀ a b : Int, b ≤ a → mn a b = b := fun a b h => by
    unfold mn
    by_cases c : b < a
    · rw [if_pos c]
    · rw [if_neg c]; omega
  by_cases h0 : H % 2 ^ (64 - P) = 0
  · have := h0b h0
    rw [if_pos h0]
    congr 2
    rw [w6 (x := 64 - (P : Int)) (by omega) (by omega), w6 (x := 64 - ((0 : Nat) : Int)) (by omega) (by omega), mnle _ _ (by omega), w6 (by omega) (by omega)]
    show (_ : Int) = ((65 - P - bl : Nat) : Int)
    omega
  · rw [if_neg h0]
    congr 2
    rw [w6 (x := 64 - (P : Int)) (by omega) (by omega), w6 (x := 64 - ((P + bl : Nat) : Int)) (by omega) (by omega), mnge _ _ (by omega), w6 (by omega) (by omega)]
    show (_ : Int) = ((65 - P - bl : Nat) : Int)
    omega
def spls (P : Nat) (hs : List Int) : List S32 := hs.map (fun h => spl P h.toNat)
/-- Hashes. -/
def U64 (hs : List Int) : Prop := ∀ h ∈ hs, 0 ≤ h ∧ h < 18446744073709551616
theorem spls_reg {P : Nat} (h4 : 4 ≤ P) (hP : P ≤ 16) {hs : List Int} (hu : U64 hs) : ∀ x ∈ spls P hs, Reg ((2 ^ P : Nat) : Int) (65 - (P : Int)) x := fun x hx => by
  obtain ⟨h, hh, rfl⟩ := List.mem_map.1 hx
  have := hu h hh
  exact spl_reg h4 hP (by omega)
theorem addall_loop {P : Nat} (h4 : 4 ≤ P) (hP : P ≤ 16) (hs : List Int) (hu : U64 hs) (hn : hs.length ≤ 1000000) (q : List S32) : ∀ (d i : Nat) (l : List S32), i + d = hs.length → Vl P l →
    Ev (fun k => hll_AddAll.l0 k l hs (hs.length : Int) (i : Int) (P : Int) q) ((P : Int), adds l (spls P (hs.drop i)), 0) := by
  intro d
  induction d with
  | zero =>
    intro i l h hv
    rw [List.drop_of_length_le (by omega)]
    refine Ev.step (f := fun _ => some ((P : Int), l, 0)) (fun k => ?_) (Ev.now _)
    simp only [hll_AddAll.l0]
    rw [if_neg (by omega)]
  | succ d ih =>
    intro i l h hv
    have hi : i < hs.length := by omega
    have hh := hu hs[i] (List.getElem_mem hi)
    obtain ⟨H, hH⟩ : ∃ H : Nat, hs[i] = (H : Int) := ⟨hs[i].toNat, by omega⟩
    have hr := spl_reg h4 hP (H := H) (by omega)
    have hpw := pow_small hP
    rw [List.drop_eq_getElem_cons hi, hH]
    refine Ev.step (f := fun k => (hll_put.f k l (spl P H).f0 (spl P H).f1).bind fun t143 => hll_AddAll.l0 k t143 hs (hs.length : Int) ((i + 1 : Nat) : Int) (P : Int) q) (fun k => ?_) (Ev.bind (put_good hP hv (spl P H) (by have := hr.1; have := hr.2.1; omega)) ?_)
    · simp only [hll_AddAll.l0]
      rw [if_pos (by omega), if_pos (by omega), if_pos (by omega), rdI hs i hi, hH, split_eq h4 hP (by omega), Option.bind_some, w6 (x := (i : Int) + 1) (by omega) (by omega)]
      rfl
    · exact ih (i + 1) (insl (spl P H) l) (by omega) (val_insl hr hv)
theorem clone_eq (l : List S32) (h : l.length ≤ 1000000) : api_Reg_63.f l = some l := by
  unfold api_Reg_63.f
  rw [if_pos (by omega)]
theorem addall_ev {P : Nat} (h4 : 4 ≤ P) (hP : P ≤ 16) (hs : List Int) (hu : U64 hs) (hn : hs.length ≤ 1000000) {l : List S32} (hv : Vl P l) :
    Ev (fun k => hll_AddAll.f k (P : Int) l hs) ((P : Int), adds l (spls P hs), 0) := by
  have hl := vl_len hP hv
  refine Ev.congr (fun k => by unfold hll_AddAll.f; rfl) (Ev.bind (chk_good P h4 hP hv) ?_)
  refine Ev.congr (f := fun k => hll_AddAll.l0 k l hs (hs.length : Int) ((0 : Nat) : Int) (P : Int) l) (fun k => ?_) (addall_loop h4 hP hs hu hn l hs.length 0 l (by omega) hv)
  try dsimp only
  rw [if_pos rfl, clone_eq l (by omega), Option.bind_some]
  rfl
/-! ### merged -/
theorem merged_loop : ∀ (n : Nat) (l m acc : List S32), l.length + m.length ≤ n → (∀ r ∈ l, 0 ≤ r.f0 ∧ r.f0 ≤ 65536) → (∀ r ∈ m, 0 ≤ r.f0 ∧ r.f0 ≤ 65536) → acc.length + l.length + m.length ≤ 1000000 →
    Ev (fun k => api_Reg_69.l0 k l m acc) (acc ++ mrg l m) := by
  have drained : ∀ (l m acc : List S32), (l = [] ∨ m = []) → acc.length + l.length + m.length ≤ 1000000 → Ev (fun k => api_Reg_69.l0 k l m acc) (acc ++ mrg l m) := fun l m acc h hl => by
    refine Ev.step (f := fun k => api_Reg_69.j1 k l m acc false) (fun k => ?_) (Ev.step (f := fun _ => some (acc ++ l ++ m)) (fun k => ?_) ?_)
    · simp only [api_Reg_69.l0]
      by_cases c : (l.length : Int) > 0
      · rw [if_pos c]
        rcases h with rfl | rfl
        · simp at c
        · rfl
      · rw [if_neg c]
    · simp only [api_Reg_69.j1]
      rw [if_neg (by decide), if_pos (by omega), Option.bind_some, if_pos (by rw [List.length_append]; omega)]
    · have e : acc ++ mrg l m = acc ++ l ++ m := by
        rcases h with rfl | rfl
        · simp [mrg]
        · simp [mrg_nil]
      rw [e]
      exact Ev.now _
  intro n
  induction n with
  | zero =>
    intro l m acc h h1 h2 hl
    exact drained l m acc (.inl (List.length_eq_zero_iff.mp (by omega))) hl
  | succ n ih =>
    intro l m acc h h1 h2 hl
    match l, m with
    | [], m => exact drained [] m acc (.inl rfl) hl
    | a :: t, [] => exact drained (a :: t) [] acc (.inr rfl) hl
    | a :: t, s :: u =>
      have ha := h1 a (List.mem_cons_self ..)
      have hs := h2 s (List.mem_cons_self ..)
      simp only [List.length_cons] at h hl
      have g1 : rd_T32 (a :: t) 0 = a := rfl
      have g2 : rd_T32 (s :: u) 0 = s := rfl
      have l1 : (0 : Int) < ((a :: t).length : Int) := by simp only [List.length_cons]; omega
      have l2 : (0 : Int) < ((s :: u).length : Int) := by simp only [List.length_cons]; omega
      have ht : ∀ r ∈ t, 0 ≤ r.f0 ∧ r.f0 ≤ 65536 := fun q hq => h1 q (List.mem_cons_of_mem _ hq)
      have hu : ∀ r ∈ u, 0 ≤ r.f0 ∧ r.f0 ≤ 65536 := fun q hq => h2 q (List.mem_cons_of_mem _ hq)
      refine Ev.step (f := fun k => api_Reg_69.j1 k (a :: t) (s :: u) acc true) (fun k => ?_) ?_
      · simp only [api_Reg_69.l0]
        rw [if_pos l1, decide_eq_true l2]
      by_cases c1 : a.f0 < s.f0
      · refine Ev.step (f := fun k => api_Reg_69.l0 k t (s :: u) (acc ++ [a])) (fun k => ?_) ?_
        · simp only [api_Reg_69.j1]
          rw [if_pos trivial, if_pos l1, if_pos l2, g1, g2]
          unfold hll_Merge_1.f
          rw [Option.bind_some, w6 (by omega) (by omega), if_pos (by omega), if_pos (by omega), if_pos (by omega)]
          rfl
        · have := ih t (s :: u) (acc ++ [a]) (by simp only [List.length_cons]; omega) ht h2 (by simp only [List.length_cons, List.length_append, List.length_nil]; omega)
          rw [mrg, if_pos c1]
          simpa using this
      by_cases c2 : s.f0 < a.f0
      · refine Ev.step (f := fun k => api_Reg_69.l0 k (a :: t) u (acc ++ [s])) (fun k => ?_) ?_
        · simp only [api_Reg_69.j1]
          rw [if_pos trivial, if_pos l1, if_pos l2, g1, g2]
          unfold hll_Merge_1.f
          rw [Option.bind_some, w6 (by omega) (by omega), if_neg (by omega), if_pos (by omega), if_pos (by omega), if_pos (by omega)]
          rfl
        · have := ih (a :: t) u (acc ++ [s]) (by simp only [List.length_cons]; omega) h1 hu (by simp only [List.length_cons, List.length_append, List.length_nil]; omega)
          rw [mrg, if_neg c1, if_pos c2]
          simpa using this
      · refine Ev.step (f := fun k => api_Reg_69.l0 k t u (acc ++ [⟨a.f0, mx a.f1 s.f1⟩])) (fun k => ?_) ?_
        · simp only [api_Reg_69.j1]
          rw [if_pos trivial, if_pos l1, if_pos l2, g1, g2]
          unfold hll_Merge_1.f hll_Merge_2.f
          rw [Option.bind_some, w6 (by omega) (by omega), if_neg (by omega), if_neg (by omega), Option.bind_some, if_pos (by omega), if_pos (by omega), if_pos (by omega)]
          rfl
        · have := ih t u (acc ++ [⟨a.f0, mx a.f1 s.f1⟩]) (by omega) ht hu (by simp only [List.length_append, List.length_cons, List.length_nil]; omega)
          rw [mrg, if_neg c1, if_neg c2]
          simpa using this
theorem merged_ev {P : Nat} (hP : P ≤ 16) {l m : List S32} (hl : Vl P l) (hm : Vl P m) (z z' : Int) : Ev (fun k => api_Reg_69.f k l m z z') (mrg l m) := by
  have hp := pow_small hP
  have h1 := vl_len hP hl
  have h2 := vl_len hP hm
  exact merged_loop _ l m [] (Nat.le_refl _) (fun r hr => by have := hl.2 r hr; omega) (fun r hr => by have := hm.2 r hr; omega) (by simp only [List.length_nil]; omega)
theorem merge_ev {P : Nat} (h4 : 4 ≤ P) (hP : P ≤ 16) {l m : List S32} (hl : Vl P l) (hm : Vl P m) : Ev (fun k => hll_Merge.f k (P : Int) l (P : Int) m) ((P : Int), mrg l m, 0) := by
  refine Ev.congr (fun k => by unfold hll_Merge.f; rfl) (Ev.bind (chk_good P h4 hP hl) ?_)
  refine Ev.congr (f := fun k => (hll_Check.f k (P : Int) m).bind fun t270 => (if t270 = 0 then (if (P : Int) = (P : Int) then ((api_Reg_69.f k l m 0 0).bind fun t271 => (some ((P : Int), t271, 0))) else (some (0, ([] : List (S32)), 2))) else (some (0, ([] : List (S32)), 2)))) (fun k => by (try dsimp only); rw [if_pos rfl]) (Ev.bind (chk_good P h4 hP hm) ?_)
  refine Ev.congr (f := fun k => (api_Reg_69.f k l m 0 0).bind fun t271 => (some ((P : Int), t271, 0))) (fun k => by (try dsimp only); rw [if_pos rfl, if_pos rfl]) (Ev.bind (merged_ev hP hl hm 0 0) (Ev.now _))
/-! ### Same -/
theorem same_loop (l m : List S32) (hl : l.length = m.length) (hn : l.length ≤ 1000000) : ∀ (d i : Nat), i + d = l.length →
    ∃ b : Bool, (b = true ↔ l.drop i = m.drop i) ∧ Ev (fun k => api_Reg_68.l0 k l m (l.length : Int) (i : Int)) b := by
  intro d
  induction d with
  | zero =>
    intro i h
    refine ⟨true, by rw [List.drop_of_length_le (by omega), List.drop_of_length_le (by omega)]; simp, ?_⟩
    refine Ev.step (f := fun _ => some true) (fun k => ?_) (Ev.now _)
    simp only [api_Reg_68.l0]
    rw [if_neg (by omega)]
  | succ d ih =>
    intro i h
    have h1 : i < l.length := by omega
    have h2 : i < m.length := by omega
    rw [List.drop_eq_getElem_cons h1, List.drop_eq_getElem_cons h2]
    have key : ∀ k, api_Reg_68.l0 (k + 1) l m (l.length : Int) (i : Int) = if (!(l[i].f0 == m[i].f0) || !(l[i].f1 == m[i].f1)) = true then some false else api_Reg_68.l0 k l m (l.length : Int) ((i + 1 : Nat) : Int) := fun k => by
      simp only [api_Reg_68.l0]
      rw [if_pos (by omega), if_pos (by omega), if_pos (by omega), if_pos (by omega), rdT l i h1, rdT m i h2, w6 (x := (i : Int) + 1) (by omega) (by omega)]
      rfl
    by_cases e : l[i] = m[i]
    · obtain ⟨b, hb, he⟩ := ih (i + 1) (by omega)
      refine ⟨b, ?_, Ev.step (f := fun k => api_Reg_68.l0 k l m (l.length : Int) ((i + 1 : Nat) : Int)) (fun k => ?_) he⟩
      · rw [hb, e, List.cons.injEq]; simp
      · rw [key, e, if_neg (by simp)]
    · refine ⟨false, ?_, Ev.step (f := fun _ => some false) (fun k => ?_) (Ev.now _)⟩
      · rw [List.cons.injEq]; simp [e]
      · rw [key, if_pos]
        by_cases e0 : l[i].f0 = m[i].f0
        · have e1 : ¬ l[i].f1 = m[i].f1 := fun h => e (reg_ext e0 h)
          simp [e1]
        · simp [e0]
theorem same_any (p q : Int) (l m : List S32) (hn : l.length ≤ 1000000) : ∃ b : Bool, (b = true ↔ p = q ∧ l = m) ∧ Ev (fun k => hll_Same.f k p l q m) b := by
  by_cases e : p = q
  · by_cases hl : l.length = m.length
    · obtain ⟨b, hb, he⟩ := same_loop l m hl hn l.length 0 (by omega)
      refine ⟨b, by rw [hb]; simp [e], ?_⟩
      refine Ev.congr (f := fun k => (api_Reg_68.l0 k l m (l.length : Int) ((0 : Nat) : Int)).bind fun t193 => some t193) (fun k => ?_) (Ev.bind he (Ev.now _))
      unfold hll_Same.f api_Reg_68.f
      rw [if_pos e, if_pos (by omega)]
      rfl
    · refine ⟨false, ?_, Ev.congr (f := fun _ => some false) (fun k => ?_) (Ev.now _)⟩
      · simp only [Bool.false_eq_true, false_iff, not_and]
        intro _ h
        exact hl (by rw [h])
      · unfold hll_Same.f api_Reg_68.f
        rw [if_pos e, if_neg (by omega)]
        rfl
  · refine ⟨false, by simp [e], Ev.congr (f := fun _ => some false) (fun k => ?_) (Ev.now _)⟩
    unfold hll_Same.f
    rw [if_neg e]
theorem same_yes (p : Int) (l : List S32) (hn : l.length ≤ 1000000) : Ev (fun k => hll_Same.f k p l p l) true := by
  obtain ⟨b, hb, he⟩ := same_any p p l l hn
  rw [hb.2 ⟨rfl, rfl⟩] at he
  exact he
/-! ### Get, Zeros, New -/
theorem get_ev {P : Nat} (h4 : 4 ≤ P) (hP : P ≤ 16) {l : List S32} (hv : Vl P l) (t : Int) (ht : -9223372036854775808 ≤ t ∧ t ≤ 9223372036854775807) : Ev (fun k => hll_Get.f k (P : Int) l t) (look l t) := by
  have hl := vl_len hP hv
  have hp := pow_small hP
  refine Ev.congr (fun k => by unfold hll_Get.f; rfl) (Ev.bind (chk_good P h4 hP hv) ?_)
  obtain ⟨p, b, hf, he⟩ := srch l t 0 hv.1 (by omega) ht (fun r hr => by have := hv.2 r hr; omega)
  refine Ev.congr (fun k => by (try dsimp only); rw [if_pos rfl]) (Ev.bind he ?_)
  cases b with
  | true =>
    obtain ⟨hp, e⟩ := hf.yes rfl
    refine Ev.congr (f := fun _ => some l[p].f1) (fun k => ?_) ?_
    · dsimp only
      rw [if_pos rfl, if_pos (by omega), if_pos (by omega), rdT l p hp]
    · rw [← e, look_mem hv.1 _ (List.getElem_mem hp)]
      exact Ev.now _
  | false =>
    refine Ev.congr (f := fun _ => some 0) (fun k => by (try dsimp only); rw [if_neg (by decide)]) ?_
    have e : look l t = 0 := by
      by_cases hw : 0 ≤ t ∧ t ≤ 65536
      · have hw2 : ∀ r ∈ l, wrap64 (r.f0 - t) = r.f0 - t := fun r hr => by have := hv.2 r hr; exact w6 (by omega) (by omega)
        refine look_none l t (fun r hr e => ?_)
        obtain ⟨m, hm, rfl⟩ := List.mem_iff_getElem.1 hr
        rcases Nat.lt_trichotomy m p with c | c | c
        · have := hf.lo hw2 m hm c; omega
        · subst c; exact hf.no rfl hm e
        · have h1 := hf.hi hw2 p (by omega) (Nat.le_refl _)
          have h2 := inc_get hv.1 c hm
          omega
      · exact look_none l t (fun r hr e => by have := hv.2 r hr; omega)
    rw [e]
    exact Ev.now _
theorem zeros_ev {P : Nat} (h4 : 4 ≤ P) (hP : P ≤ 16) {l : List S32} (hv : Vl P l) : Ev (fun k => hll_Zeros.f k (P : Int) l) (((2 ^ P : Nat) : Int) - (l.length : Int)) := by
  have hl := vl_len hP hv
  have hp := pow_small hP
  refine Ev.congr (fun k => by unfold hll_Zeros.f; rfl) (Ev.bind (chk_good P h4 hP hv) ?_)
  refine Ev.congr (f := fun _ => some (((2 ^ P : Nat) : Int) - (l.length : Int))) (fun k => ?_) (Ev.now _)
  try dsimp only
  rw [if_pos rfl, if_pos (by omega), shl_pow hP, w6 (by omega) (by omega)]
theorem new_eq {P : Nat} (h4 : 4 ≤ P) (hP : P ≤ 16) : hll_New.f (P : Int) = some ((P : Int), ([] : List S32), 0) := by
  unfold hll_New.f
  rw [if_neg (by omega), if_neg (by omega)]
theorem lives14_ev : Ev (fun k => tallymanlaw14_lives.f k) true := Ev.of (fun k => tallymanlaw14_lives.mono k) (k := 100) (by decide +kernel)
end Go.Proofs.Ytbclnjinpcfpjaa.H
