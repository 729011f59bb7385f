/- Registers in order: plain facts on lists of registers, and what the functions of hll compute. -/
import Derived.Test.YtbclnjinpcfpjaaH2
import Derived.Test.YtbclnjinpcfpjaaH3
import Derived.Test.YtbclnjinpcfpjaaH4
import Derived.Test.YtbclnjinpcfpjaaH5
import Derived.Test.YtbclnjinpcfpjaaH6
import Derived.Test.YtbclnjinpcfpjaaH8
import Derived.Test.YtbclnjinpcfpjaaH11
namespace Go.Proofs.Ytbclnjinpcfpjaa.H
open Go.RowKit Go.Proofs.YtbclnjinpcfpjaaW.PrintWords Go.Proofs.YtbclnjinpcfpjaaW.PrintLast
/-! ### Registers in order: look, put, check, search -/
theorem w6 {x : Int} (h1 : -9223372036854775808 ≤ x) (h2 : x ≤ 9223372036854775807) : wrap64 x = x := by unfold wrap64; omega
theorem wu6 {x : Int} (h1 : 0 ≤ x) (h2 : x ≤ 18446744073709551615) : IntKind.u64.wrap x = x := by
  have e : IntKind.u64.wrap x = x % 18446744073709551616 := by
    unfold IntKind.wrap
    rfl
  rw [e]
  omega
theorem wi6 {x : Int} (h1 : -9223372036854775808 ≤ x) (h2 : x ≤ 9223372036854775807) : IntKind.i64.wrap x = x := by rw [IntKind.wrap_i64]; omega
theorem rdT (l : List S32) (i : Nat) (h : i < l.length) : rd_T32 l (i : Int) = l[i] := by simp [rd_T32, h]
theorem rdI (l : List Int) (i : Nat) (h : i < l.length) : rd l (i : Int) = l[i] := by simp [rd, h]
theorem nat_eq {n : Nat} : ((n : Int)).toNat = n := rfl
theorem reg_ext {a b : S32} (h0 : a.f0 = b.f0) (h1 : a.f1 = b.f1) : a = b := by cases a; cases b; simp_all
def look : List S32 → Int → Int
  | [], _ => 0
  | r :: t, k => if r.f0 = k then r.f1 else look t k
def Inc (l : List S32) : Prop := l.Pairwise (fun a b => a.f0 < b.f0)
/-- A counter that may be: M = 2^P, R = 65 - P. -/
def Val (M R : Int) (l : List S32) : Prop := Inc l ∧ ∀ r ∈ l, 0 ≤ r.f0 ∧ r.f0 < M ∧ 1 ≤ r.f1 ∧ r.f1 ≤ R
theorem inc_len : ∀ (l : List S32) (a b : Int), Inc l → (∀ r ∈ l, a ≤ r.f0 ∧ r.f0 < b) → a ≤ b → (l.length : Int) ≤ b - a
  | [], a, b, _, _, h => by simp; omega
  | r :: t, a, b, hi, hb, h => by
    have h1 := List.pairwise_cons.1 hi
    have h2 := hb r (List.mem_cons_self ..)
    have := inc_len t (r.f0 + 1) b h1.2 (fun s hs => ⟨by have := h1.1 s hs; omega, (hb s (List.mem_cons_of_mem _ hs)).2⟩) (by omega)
    simp only [List.length_cons]
    omega
theorem val_len {M R : Int} {l : List S32} (h : Val M R l) (hM : 0 ≤ M) : (l.length : Int) ≤ M := by
  have := inc_len l 0 M h.1 (fun r hr => ⟨(h.2 r hr).1, (h.2 r hr).2.1⟩) hM
  omega
theorem inc_get {l : List S32} (h : Inc l) {i j : Nat} (hij : i < j) (hj : j < l.length) : (l[i]'(by omega)).f0 < (l[j]).f0 := List.pairwise_iff_getElem.1 h i j (by omega) hj hij
theorem look_none : ∀ (l : List S32) (k : Int), (∀ r ∈ l, r.f0 ≠ k) → look l k = 0
  | [], _, _ => rfl
  | r :: t, k, h => by
    unfold look
    rw [if_neg (h r (List.mem_cons_self ..))]
    exact look_none t k (fun s hs => h s (List.mem_cons_of_mem _ hs))
theorem look_mem : ∀ {l : List S32}, Inc l → ∀ r ∈ l, look l r.f0 = r.f1
  | [], _, r, h => by cases h
  | s :: t, hi, r, h => by
    unfold look
    have h1 := List.pairwise_cons.1 hi
    rcases List.mem_cons.1 h with rfl | h
    · rw [if_pos rfl]
    · rw [if_neg (by have := h1.1 r h; omega)]
      exact look_mem h1.2 r h
theorem look_some : ∀ {l : List S32} {k : Int}, look l k ≠ 0 → ∃ r ∈ l, r.f0 = k ∧ r.f1 = look l k
  | [], _, h => absurd rfl h
  | s :: t, k, h => by
    unfold look at h ⊢
    by_cases e : s.f0 = k
    · rw [if_pos e]; exact ⟨s, List.mem_cons_self .., e, rfl⟩
    · rw [if_neg e] at h ⊢
      obtain ⟨r, hr, h1, h2⟩ := look_some h
      exact ⟨r, List.mem_cons_of_mem _ hr, h1, h2⟩
/-- A register's greater rank. -/
def insl (x : S32) : List S32 → List S32
  | [] => [x]
  | r :: t => if r.f0 < x.f0 then r :: insl x t else if r.f0 = x.f0 then ⟨r.f0, mx r.f1 x.f1⟩ :: t else x :: r :: t
theorem insl_idx (x : S32) : ∀ (l : List S32) (s : S32), s ∈ insl x l → s.f0 = x.f0 ∨ ∃ r ∈ l, r.f0 = s.f0
  | [], s, h => by
    unfold insl at h
    rw [List.mem_singleton.1 h]; exact .inl rfl
  | r :: t, s, h => by
    unfold insl at h
    by_cases h1 : r.f0 < x.f0
    · rw [if_pos h1] at h
      rcases List.mem_cons.1 h with rfl | h
      · exact .inr ⟨s, List.mem_cons_self .., rfl⟩
      · rcases insl_idx x t s h with h | ⟨q, hq, e⟩
        · exact .inl h
        · exact .inr ⟨q, List.mem_cons_of_mem _ hq, e⟩
    · rw [if_neg h1] at h
      by_cases h2 : r.f0 = x.f0
      · rw [if_pos h2] at h
        rcases List.mem_cons.1 h with rfl | h
        · exact .inl h2
        · exact .inr ⟨s, List.mem_cons_of_mem _ h, rfl⟩
      · rw [if_neg h2] at h
        rcases List.mem_cons.1 h with rfl | h
        · exact .inl rfl
        · exact .inr ⟨s, h, rfl⟩
theorem insl_inc (x : S32) : ∀ {l : List S32}, Inc l → Inc (insl x l)
  | [], _ => by unfold insl Inc; simp
  | r :: t, hi => by
    have h1 := List.pairwise_cons.1 hi
    unfold insl
    by_cases c1 : r.f0 < x.f0
    · rw [if_pos c1]
      refine List.pairwise_cons.2 ⟨fun s hs => ?_, insl_inc x h1.2⟩
      rcases insl_idx x t s hs with h | ⟨q, hq, e⟩
      · omega
      · have := h1.1 q hq; omega
    · rw [if_neg c1]
      by_cases c2 : r.f0 = x.f0
      · rw [if_pos c2]
        exact List.pairwise_cons.2 ⟨h1.1, h1.2⟩
      · rw [if_neg c2]
        refine List.pairwise_cons.2 ⟨fun s hs => ?_, hi⟩
        rcases List.mem_cons.1 hs with rfl | hs
        · omega
        · have := h1.1 s hs; omega
theorem mx_le {a b c : Int} : mx a b ≤ c ↔ a ≤ c ∧ b ≤ c := by unfold mx; split <;> omega
theorem mx_cases (a b : Int) : (mx a b = a ∧ b ≤ a) ∨ (mx a b = b ∧ a ≤ b) := by unfold mx; split <;> omega
theorem look_insl (x : S32) (h1 : 1 ≤ x.f1) : ∀ {l : List S32}, Inc l → (∀ r ∈ l, 1 ≤ r.f1) → ∀ k, look (insl x l) k = if x.f0 = k then mx (look l k) x.f1 else look l k
  | [], _, _, k => by
    unfold insl look look
    split
    · unfold mx; rw [if_pos (by omega)]
    · rfl
  | r :: t, hi, hr, k => by
    have hp := List.pairwise_cons.1 hi
    have ih := look_insl x h1 hp.2 (fun s hs => hr s (List.mem_cons_of_mem _ hs)) k
    unfold insl
    by_cases c1 : r.f0 < x.f0
    · rw [if_pos c1]
      unfold look
      by_cases e : r.f0 = k
      · rw [if_pos e, if_neg (by omega), if_pos e]
      · rw [if_neg e, ih, if_neg e]
    · rw [if_neg c1]
      by_cases c2 : r.f0 = x.f0
      · rw [if_pos c2]
        unfold look
        by_cases e : r.f0 = k
        · rw [if_pos e, if_pos (by omega), if_pos e]
        · rw [if_neg e, if_neg (by omega), if_neg e]
      · rw [if_neg c2]
        have e0 : ∀ s ∈ r :: t, s.f0 ≠ x.f0 := fun s hs => by
          rcases List.mem_cons.1 hs with rfl | hs
          · exact c2
          · have := hp.1 s hs; omega
        show look (x :: r :: t) k = _
        rw [show look (x :: r :: t) k = if x.f0 = k then x.f1 else look (r :: t) k from rfl]
        by_cases e : x.f0 = k
        · rw [if_pos e, if_pos e, look_none (r :: t) k (fun s hs => by rw [← e]; exact e0 s hs)]
          unfold mx; rw [if_pos (by omega)]
        · rw [if_neg e, if_neg e]
theorem insl_mem (x : S32) (P : S32 → Prop) (hx : P x) (hm : ∀ r : S32, P r → r.f0 = x.f0 → P ⟨r.f0, mx r.f1 x.f1⟩) : ∀ {l : List S32}, (∀ r ∈ l, P r) → ∀ r ∈ insl x l, P r
  | [], _, r, h => by
    unfold insl at h
    rw [List.mem_singleton.1 h]; exact hx
  | s :: t, ha, r, h => by
    unfold insl at h
    by_cases c1 : s.f0 < x.f0
    · rw [if_pos c1] at h
      rcases List.mem_cons.1 h with rfl | h
      · exact ha _ (List.mem_cons_self ..)
      · exact insl_mem x P hx hm (fun q hq => ha q (List.mem_cons_of_mem _ hq)) r h
    · rw [if_neg c1] at h
      by_cases c2 : s.f0 = x.f0
      · rw [if_pos c2] at h
        rcases List.mem_cons.1 h with rfl | h
        · exact hm s (ha _ (List.mem_cons_self ..)) c2
        · exact ha _ (List.mem_cons_of_mem _ h)
      · rw [if_neg c2] at h
        rcases List.mem_cons.1 h with rfl | h
        · exact hx
        · exact ha _ h
/-- A register that may be. -/
def Reg (M R : Int) (r : S32) : Prop := 0 ≤ r.f0 ∧ r.f0 < M ∧ 1 ≤ r.f1 ∧ r.f1 ≤ R
theorem val_insl {M R : Int} {x : S32} {l : List S32} (hx : Reg M R x) (h : Val M R l) : Val M R (insl x l) :=
  ⟨insl_inc x h.1, insl_mem x (Reg M R) hx (fun r hr e => ⟨hr.1, hr.2.1, by have := mx_cases r.f1 x.f1; have := hr.2.2; have := hx.2.2; show 1 ≤ mx r.f1 x.f1; omega, by have := mx_cases r.f1 x.f1; have := hr.2.2; have := hx.2.2; show mx r.f1 x.f1 ≤ R; omega⟩) h.2⟩
/-- Two counters of the same ranks are the same. -/
theorem look_ext {M R : Int} : ∀ {l m : List S32}, Val M R l → Val M R m → (∀ k, look l k = look m k) → l = m
  | [], [], _, _, _ => rfl
  | [], s :: t, _, hm, h => by
    have := h s.f0
    have h1 := hm.2 s (List.mem_cons_self ..)
    unfold look at this
    rw [if_pos rfl] at this
    omega
  | s :: t, [], hm, _, h => by
    have := h s.f0
    have h1 := hm.2 s (List.mem_cons_self ..)
    unfold look at this
    rw [if_pos rfl] at this
    omega
  | r :: t, s :: u, hl, hm, h => by
    have hp := List.pairwise_cons.1 hl.1
    have hq := List.pairwise_cons.1 hm.1
    have r1 := hl.2 r (List.mem_cons_self ..)
    have s1 := hm.2 s (List.mem_cons_self ..)
    have e0 : r.f0 = s.f0 := by
      rcases Int.lt_trichotomy r.f0 s.f0 with c | c | c
      · have := h r.f0
        rw [look_mem hl.1 r (List.mem_cons_self ..), look_none (s :: u) r.f0 (fun q hq' => by
          rcases List.mem_cons.1 hq' with rfl | hq'
          · omega
          · have := hq.1 q hq'; omega)] at this
        omega
      · exact c
      · have := h s.f0
        rw [look_mem hm.1 s (List.mem_cons_self ..), look_none (r :: t) s.f0 (fun q hq' => by
          rcases List.mem_cons.1 hq' with rfl | hq'
          · omega
          · have := hp.1 q hq'; omega)] at this
        omega
    have e1 : r.f1 = s.f1 := by
      have := h r.f0
      rw [look_mem hl.1 r (List.mem_cons_self ..), e0, look_mem hm.1 s (List.mem_cons_self ..)] at this
      exact this
    have hs := reg_ext e0 e1
    subst hs
    congr 1
    refine look_ext ⟨hp.2, fun q hq' => hl.2 q (List.mem_cons_of_mem _ hq')⟩ ⟨hq.2, fun q hq' => hm.2 q (List.mem_cons_of_mem _ hq')⟩ (fun k => ?_)
    have := h k
    unfold look at this
    by_cases c : r.f0 = k
    · rw [look_none t k (fun q hq' => by have := hp.1 q hq'; omega), look_none u k (fun q hq' => by have := hq.1 q hq'; omega)]
    · rwa [if_neg c, if_neg c] at this
/-! ### The search -/
theorem mid6 (i j : Nat) (h : i ≤ 1000000) (h2 : j ≤ 1000000) : wrap64 ((IntKind.u64.wrap (wrap64 ((i : Int) + (j : Int)))) / 2) = (((i + j) / 2 : Nat) : Int) := by
  rw [w6 (x := (i : Int) + (j : Int)) (by omega) (by omega), wu6 (x := (i : Int) + (j : Int)) (by omega) (by omega), w6 (by omega) (by omega)]; omega
/-- What a search tells: a place, and whether the index stands there. -/
structure Found (l : List S32) (t : Int) (p : Nat) (b : Bool) : Prop where
  le : p ≤ l.length
  yes : b = true → ∃ h : p < l.length, l[p].f0 = t
  lo : (∀ r ∈ l, wrap64 (r.f0 - t) = r.f0 - t) → ∀ (m : Nat) (h : m < l.length), m < p → l[m].f0 < t
  hi : (∀ r ∈ l, wrap64 (r.f0 - t) = r.f0 - t) → ∀ (m : Nat) (h : m < l.length), p ≤ m → t ≤ l[m].f0
  no : b = false → ∀ h : p < l.length, l[p].f0 ≠ t
theorem wrap_zero {a t : Int} (ha : -4611686018427387904 ≤ a ∧ a ≤ 4611686018427387904) (ht : -9223372036854775808 ≤ t ∧ t ≤ 9223372036854775807) (h : wrap64 (a - t) = 0) : a = t := by
  unfold wrap64 at h; omega
theorem srch_loop (l : List S32) (t : Int) (hi : Inc l) (hl : l.length ≤ 1000000) (ht : -9223372036854775808 ≤ t ∧ t ≤ 9223372036854775807) (hb : ∀ r ∈ l, -4611686018427387904 ≤ r.f0 ∧ r.f0 ≤ 4611686018427387904) :
    ∀ (d i j : Nat), j - i ≤ d → i ≤ j → j ≤ l.length →
      ((∀ r ∈ l, wrap64 (r.f0 - t) = r.f0 - t) → (∀ (m : Nat) (h : m < l.length), m < i → l[m].f0 < t) ∧ (∀ (m : Nat) (h : m < l.length), j ≤ m → t ≤ l[m].f0)) →
      ∃ p b, Found l t p b ∧ Ev (fun k => api_Reg_int.l0 k l t (l.length : Int) (i : Int) (j : Int)) ((p : Int), b) := by
  intro d
  induction d with
  | zero =>
    intro i j hd hij hj inv
    obtain rfl : i = j := by omega
    by_cases hn : i < l.length
    · refine ⟨i, (wrap64 (l[i].f0 - t) == 0), ⟨by omega, fun h => ⟨hn, wrap_zero (hb _ (List.getElem_mem hn)) ht (by simpa using h)⟩, fun hw => (inv hw).1, fun hw => (inv hw).2, fun h hp e => by
        rw [e] at h
        simp [wrap64] at h⟩, ?_⟩
      refine Ev.step (f := fun _ => some ((i : Int), (wrap64 (l[i].f0 - t) == 0))) (fun k => ?_) (Ev.now _)
      simp only [api_Reg_int.l0]
      rw [if_neg (by omega), if_pos (by omega), if_pos (by omega), if_pos (by omega), rdT l i hn]
      rfl
    · refine ⟨i, false, ⟨by omega, fun h => absurd h (by decide), fun hw => (inv hw).1, fun hw => (inv hw).2, fun _ h => absurd h hn⟩, ?_⟩
      refine Ev.step (f := fun _ => some ((i : Int), false)) (fun k => ?_) (Ev.now _)
      simp only [api_Reg_int.l0]
      rw [if_neg (by omega), if_neg (by omega)]
  | succ d ih =>
    intro i j hd hij hj inv
    by_cases hlt : i < j
    · have hm : (i + j) / 2 < l.length := by omega
      by_cases hc : wrap64 (l[(i + j) / 2].f0 - t) < 0
      · obtain ⟨p, b, hf, he⟩ := ih ((i + j) / 2 + 1) j (by omega) (by omega) hj (fun hw => ⟨fun m h hmi => by
          rw [hw _ (List.getElem_mem hm)] at hc
          rcases Nat.lt_or_ge m ((i + j) / 2) with c | c
          · have := inc_get hi c hm; omega
          · obtain rfl : m = (i + j) / 2 := by omega
            omega, (inv hw).2⟩)
        refine ⟨p, b, hf, Ev.step (f := fun k => api_Reg_int.l0 k l t (l.length : Int) (((i + j) / 2 + 1 : Nat) : Int) (j : Int)) (fun k => ?_) he⟩
        simp only [api_Reg_int.l0]
        rw [if_pos (by omega), mid6 i j (by omega) (by omega), if_pos (by omega), if_pos (by omega), rdT l _ hm]
        unfold hll_compare.f
        rw [Option.bind_some, if_pos hc, w6 (by omega) (by omega)]
        rfl
      · obtain ⟨p, b, hf, he⟩ := ih i ((i + j) / 2) (by omega) (by omega) (by omega) (fun hw => ⟨(inv hw).1, fun m h hmi => by
          rw [hw _ (List.getElem_mem hm)] at hc
          rcases Nat.lt_or_ge ((i + j) / 2) m with c | c
          · have := inc_get hi c h; omega
          · obtain rfl : m = (i + j) / 2 := by omega
            omega⟩)
        refine ⟨p, b, hf, Ev.step (f := fun k => api_Reg_int.l0 k l t (l.length : Int) (i : Int) (((i + j) / 2 : Nat) : Int)) (fun k => ?_) he⟩
        simp only [api_Reg_int.l0]
        rw [if_pos (by omega), mid6 i j (by omega) (by omega), if_pos (by omega), if_pos (by omega), rdT l _ hm]
        unfold hll_compare.f
        rw [Option.bind_some, if_neg hc]
    · exact ih i j (by omega) hij hj inv
theorem srch (l : List S32) (t z : Int) (hi : Inc l) (hl : l.length ≤ 1000000) (ht : -9223372036854775808 ≤ t ∧ t ≤ 9223372036854775807) (hb : ∀ r ∈ l, -4611686018427387904 ≤ r.f0 ∧ r.f0 ≤ 4611686018427387904) :
    ∃ p b, Found l t p b ∧ Ev (fun k => api_Reg_int.f k l t z) ((p : Int), b) :=
  srch_loop l t hi hl ht hb l.length 0 l.length (by omega) (by omega) (Nat.le_refl _) (fun _ => ⟨fun m _ h => absurd h (by omega), fun m h hm => absurd h (by omega)⟩)
/-- What put makes at a place found. -/
theorem insl_at (x : S32) : ∀ (l : List S32) (p : Nat), Inc l → p ≤ l.length → (∀ (m : Nat) (h : m < l.length), m < p → l[m].f0 < x.f0) → (∀ (m : Nat) (h : m < l.length), p ≤ m → x.f0 ≤ l[m].f0) →
    (∀ h : p < l.length, l[p].f0 = x.f0 → insl x l = l.set p ⟨l[p].f0, mx l[p].f1 x.f1⟩) ∧ ((∀ h : p < l.length, l[p].f0 ≠ x.f0) → insl x l = l.take p ++ [x] ++ l.drop p)
  | [], p, _, hp, _, _ => by
    obtain rfl : p = 0 := by simpa using hp
    exact ⟨fun h => absurd h (by simp), fun _ => rfl⟩
  | r :: t, 0, hi, _, _, hhi => by
    have h0 := hhi 0 (by simp) (Nat.le_refl _)
    simp only [List.getElem_cons_zero] at h0
    refine ⟨fun h e => ?_, fun h => ?_⟩
    · simp only [List.getElem_cons_zero] at e
      unfold insl
      rw [if_neg (by omega), if_pos e]
      rfl
    · have e := h (by simp)
      simp only [List.getElem_cons_zero] at e
      unfold insl
      rw [if_neg (by omega), if_neg e]
      rfl
  | r :: t, p + 1, hi, hp, hlo, hhi => by
    have h0 := hlo 0 (by simp) (by omega)
    simp only [List.getElem_cons_zero] at h0
    have ih := insl_at x t p (List.pairwise_cons.1 hi).2 (by simpa using hp) (fun m h hm => by have := hlo (m + 1) (by simp; omega) (by omega); simpa using this) (fun m h hm => by have := hhi (m + 1) (by simp; omega) (by omega); simpa using this)
    refine ⟨fun h e => ?_, fun h => ?_⟩
    · have h' : p < t.length := by simpa using h
      unfold insl
      rw [if_pos h0, ih.1 h' (by simpa using e)]
      simp
    · unfold insl
      rw [if_pos h0, ih.2 (fun h' => by have := h (by simp; omega); simpa using this)]
      simp
theorem put_ev {l : List S32} (hi : Inc l) (hl : l.length ≤ 1000000) (hb : ∀ r ∈ l, 0 ≤ r.f0 ∧ r.f0 ≤ 4611686018427387904) (a b : Int) (ha : 0 ≤ a ∧ a ≤ 4611686018427387904) : Ev (fun k => hll_put.f k l a b) (insl ⟨a, b⟩ l) := by
  have hw : ∀ r ∈ l, wrap64 (r.f0 - a) = r.f0 - a := fun r hr => by have := hb r hr; exact w6 (by omega) (by omega)
  obtain ⟨p, q, hf, he⟩ := srch l a 0 hi hl (by omega) (fun r hr => by have := hb r hr; omega)
  have hat := insl_at ⟨a, b⟩ l p hi hf.le (hf.lo hw) (hf.hi hw)
  refine Ev.congr (fun k => by unfold hll_put.f; rfl) (Ev.bind he ?_)
  cases q with
  | true =>
    obtain ⟨hp, e⟩ := hf.yes rfl
    refine Ev.congr (f := fun _ => some (insl ⟨a, b⟩ l)) (fun k => ?_) (Ev.now _)
    dsimp only
    rw [if_pos rfl, if_pos (by omega), if_pos (by omega), hat.1 hp e, rdT l p hp]
    rfl
  | false =>
    refine Ev.congr (f := fun _ => some (insl ⟨a, b⟩ l)) (fun k => ?_) (Ev.now _)
    dsimp only
    rw [if_neg (by decide), hat.2 (hf.no rfl)]
    unfold api_Reg_91.f
    rw [if_pos ⟨by omega, by have := hf.le; omega, rfl, by omega⟩, Option.bind_some]
    rfl
/-! ### The check -/
def okR (M R : Int) : Int → List S32 → Bool
  | _, [] => true
  | last, r :: t => decide (last < r.f0) && decide (r.f0 < M) && decide (1 ≤ r.f1) && decide (r.f1 ≤ R) && okR M R r.f0 t
theorem okR_iff (M R : Int) : ∀ (l : List S32) (last : Int), okR M R last l = true ↔ Inc l ∧ ∀ r ∈ l, last < r.f0 ∧ r.f0 < M ∧ 1 ≤ r.f1 ∧ r.f1 ≤ R
  | [], last => by simp [okR, Inc]
  | r :: t, last => by
    unfold okR
    rw [Bool.and_eq_true, okR_iff M R t r.f0]
    simp only [Bool.and_eq_true, decide_eq_true_eq]
    constructor
    · rintro ⟨⟨⟨⟨h1, h2⟩, h3⟩, h4⟩, h5, h6⟩
      refine ⟨List.pairwise_cons.2 ⟨fun s hs => (h6 s hs).1, h5⟩, fun s hs => ?_⟩
      rcases List.mem_cons.1 hs with rfl | hs
      · exact ⟨h1, h2, h3, h4⟩
      · have := h6 s hs; exact ⟨by omega, this.2⟩
    · rintro ⟨h1, h2⟩
      have h3 := h2 r (List.mem_cons_self ..)
      have h4 := List.pairwise_cons.1 h1
      exact ⟨⟨⟨⟨h3.1, h3.2.1⟩, h3.2.2.1⟩, h3.2.2.2⟩, h4.2, fun s hs => ⟨h4.1 s hs, (h2 s (List.mem_cons_of_mem _ hs)).2⟩⟩
theorem okR_val (M R : Int) (l : List S32) : okR M R (-1) l = true ↔ Val M R l := by
  rw [okR_iff]
  exact ⟨fun h => ⟨h.1, fun r hr => ⟨by have := h.2 r hr; omega, (h.2 r hr).2⟩⟩, fun h => ⟨h.1, fun r hr => ⟨by have := h.2 r hr; omega, (h.2 r hr).2⟩⟩⟩
theorem pow_small {P : Nat} (h : P ≤ 16) : 0 < 2 ^ P ∧ 2 ^ P ≤ 65536 := ⟨Nat.two_pow_pos P, Nat.pow_le_pow_right (by omega) h⟩
theorem shl_pow {P : Nat} (h : P ≤ 16) : shl .i64 1 (P : Int) = ((2 ^ P : Nat) : Int) := by
  unfold shl
  have := pow_small h
  rw [show min ((P : Int)).toNat (IntKind.i64).bits = P by show min P 64 = P; omega, Int.one_mul]
  rw [show ((2 : Int) ^ P) = ((2 ^ P : Nat) : Int) by simp]
  exact wi6 (by omega) (by omega)
theorem chk_loop (P : Nat) (hP : P ≤ 16) (l : List S32) (hl : l.length ≤ 1000000) : ∀ (d i : Nat) (last : Int), i + d = l.length →
    Ev (fun k => hll_Check.l0 k last l (l.length : Int) (i : Int) (P : Int) l) (if okR ((2 ^ P : Nat) : Int) (65 - (P : Int)) last (l.drop i) = true then 0 else 2) := by
  intro d
  induction d with
  | zero =>
    intro i last h
    refine Ev.step (f := fun _ => some 0) (fun k => ?_) (by rw [List.drop_of_length_le (by omega)]; exact Ev.now _)
    simp only [hll_Check.l0]
    rw [if_neg (by omega)]
  | succ d ih =>
    intro i last h
    have hi : i < l.length := by omega
    rw [List.drop_eq_getElem_cons hi]
    have key : ∀ k, hll_Check.l0 (k + 1) last l (l.length : Int) (i : Int) (P : Int) l = if l[i].f0 ≤ last then some 2 else if l[i].f0 ≥ ((2 ^ P : Nat) : Int) then some 2 else if l[i].f1 < 1 then some 2 else if l[i].f1 > 65 - (P : Int) then some 2 else hll_Check.l0 k l[i].f0 l (l.length : Int) ((i + 1 : Nat) : Int) (P : Int) l := fun k => by
      simp only [hll_Check.l0]
      rw [if_pos (by omega), if_pos (by omega), if_pos (by omega), rdT l i hi]
      by_cases c : l[i].f0 ≤ last
      · rw [if_pos c, if_pos c]
      · rw [if_neg c, if_neg c, if_pos (by omega), shl_pow hP, w6 (x := 65 - (P : Int)) (by omega) (by omega), w6 (x := (i : Int) + 1) (by omega) (by omega)]
        rfl
    unfold okR
    by_cases c1 : l[i].f0 ≤ last
    · refine Ev.step (f := fun _ => some 2) (fun k => by rw [key, if_pos c1]) ?_
      rw [decide_eq_false (by omega)]
      simp only [Bool.false_and]
      exact Ev.now _
    by_cases c2 : l[i].f0 ≥ ((2 ^ P : Nat) : Int)
    · refine Ev.step (f := fun _ => some 2) (fun k => by rw [key, if_neg c1, if_pos c2]) ?_
      rw [decide_eq_false (show ¬ l[i].f0 < ((2 ^ P : Nat) : Int) by omega)]
      simp only [Bool.false_and, Bool.and_false]
      exact Ev.now _
    by_cases c3 : l[i].f1 < 1
    · refine Ev.step (f := fun _ => some 2) (fun k => by rw [key, if_neg c1, if_neg c2, if_pos c3]) ?_
      rw [decide_eq_false (show ¬ 1 ≤ l[i].f1 by omega)]
      simp only [Bool.false_and, Bool.and_false]
      exact Ev.now _
    by_cases c4 : l[i].f1 > 65 - (P : Int)
    · refine Ev.step (f := fun _ => some 2) (fun k => by rw [key, if_neg c1, if_neg c2, if_neg c3, if_pos c4]) ?_
      rw [decide_eq_false (show ¬ l[i].f1 ≤ 65 - (P : Int) by omega)]
      simp only [Bool.false_and, Bool.and_false]
      exact Ev.now _
    refine Ev.step (f := fun k => hll_Check.l0 k l[i].f0 l (l.length : Int) ((i + 1 : Nat) : Int) (P : Int) l) (fun k => by rw [key, if_neg c1, if_neg c2, if_neg c3, if_neg c4]) ?_
    rw [decide_eq_true (show last < l[i].f0 by omega), decide_eq_true (show l[i].f0 < ((2 ^ P : Nat) : Int) by omega), decide_eq_true (show 1 ≤ l[i].f1 by omega), decide_eq_true (show l[i].f1 ≤ 65 - (P : Int) by omega)]
    simp only [Bool.true_and]
    exact ih (i + 1) l[i].f0 (by omega)
theorem chk_bad (p : Int) (l : List S32) (h : p < 4 ∨ p > 16) : Ev (fun k => hll_Check.f k p l) 2 := by
  refine Ev.step (f := fun _ => some 2) (fun k => ?_) (Ev.now _)
  unfold hll_Check.f
  by_cases c : p < 4
  · rw [if_pos c]; simp only [hll_Check.j0]; rw [if_pos trivial]
  · rw [if_neg c, decide_eq_true (by omega)]; simp only [hll_Check.j0]; rw [if_pos trivial]
theorem chk_ev (P : Nat) (h4 : 4 ≤ P) (hP : P ≤ 16) (l : List S32) (hl : l.length ≤ 1000000) : Ev (fun k => hll_Check.f k (P : Int) l) (if okR ((2 ^ P : Nat) : Int) (65 - (P : Int)) (-1) l = true then 0 else 2) := by
  refine Ev.step (f := fun k => hll_Check.l0 k (-1) l (l.length : Int) ((0 : Nat) : Int) (P : Int) l) (fun k => ?_) (chk_loop P hP l hl l.length 0 (-1) (by omega))
  unfold hll_Check.f
  rw [if_neg (by omega), decide_eq_false (by omega)]
  simp only [hll_Check.j0]
  rw [if_neg (by decide)]
  rfl
/-- A counter. -/
def Vl (P : Nat) (l : List S32) : Prop := Val ((2 ^ P : Nat) : Int) (65 - (P : Int)) l
theorem vl_len {P : Nat} (hP : P ≤ 16) {l : List S32} (h : Vl P l) : l.length ≤ 65536 := by
  have := val_len h (Int.natCast_nonneg _)
  have := pow_small hP
  omega
theorem chk_good (P : Nat) (h4 : 4 ≤ P) (hP : P ≤ 16) {l : List S32} (h : Vl P l) : Ev (fun k => hll_Check.f k (P : Int) l) 0 := by
  have := chk_ev P h4 hP l (by have := vl_len hP h; omega)
  rwa [if_pos ((okR_val _ _ _).2 h)] at this
theorem put_good {P : Nat} (hP : P ≤ 16) {l : List S32} (h : Vl P l) (x : S32) (hx : 0 ≤ x.f0 ∧ x.f0 ≤ 65536) : Ev (fun k => hll_put.f k l x.f0 x.f1) (insl x l) := by
  have := pow_small hP
  exact put_ev h.1 (by have := vl_len hP h; omega) (fun r hr => by have := h.2 r hr; omega) x.f0 x.f1 (by omega)
end Go.Proofs.Ytbclnjinpcfpjaa.H
