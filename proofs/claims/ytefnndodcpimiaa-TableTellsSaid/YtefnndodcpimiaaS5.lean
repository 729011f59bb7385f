/- A table as a function of its places. -/
import Derived.Test.YtefnndodcpimiaaS1
namespace Go.Proofs.Ytefnndodcpimiaa.H
open Go.RowKit Go.Proofs.YtefnndodcpimiaaW.PrintWords Go.Proofs.YtefnndodcpimiaaW.PrintLast
/-! ### A table as a function of its places -/
def vw (l : List Int) (n : Nat) : Int := l.getD n 0
theorem vw_rd (l : List Int) (n : Nat) : rd l (n : Int) = vw l n := rfl
theorem vw_out {l : List Int} {n : Nat} (h : l.length ≤ n) : vw l n = 0 := by
  unfold vw
  rw [List.getD_eq_getElem?_getD, List.getElem?_eq_none h]
  rfl
theorem vw_in {l : List Int} {n : Nat} (h : n < l.length) : vw l n = l[n] := by
  unfold vw
  rw [List.getD_eq_getElem?_getD, List.getElem?_eq_getElem h]
  rfl
theorem vw_lt {l : List Int} {n : Nat} (h : ¬ vw l n = 0) : n < l.length := Nat.lt_of_not_le fun c => h (vw_out c)
theorem vw_mem {l : List Int} {n : Nat} (h : ¬ vw l n = 0) : vw l n ∈ l := by
  have := vw_lt h
  rw [vw_in this]
  exact List.getElem_mem this
theorem mem_vw {l : List Int} {x : Int} (h : x ∈ l) : ∃ n, n < l.length ∧ vw l n = x := by
  obtain ⟨n, hn, e⟩ := List.mem_iff_getElem.1 h
  exact ⟨n, hn, by rw [vw_in hn]; exact e⟩
theorem vw_app (a z : List Int) (hz : ∀ x ∈ z, x = 0) (n : Nat) : vw (a ++ z) n = vw a n := by
  by_cases c : n < a.length
  · rw [vw_in c, vw_in (show n < (a ++ z).length by rw [List.length_append]; omega), List.getElem_append_left c]
  · rw [vw_out (Nat.le_of_not_lt c)]
    by_cases d : n < (a ++ z).length
    · rw [vw_in d, List.getElem_append_right (by omega)]
      exact hz _ (List.getElem_mem _)
    · exact vw_out (by omega)
theorem drop0_split : ∀ r : List Int, ∃ z, r = z ++ r.dropWhile (fun x => x == 0) ∧ (∀ x ∈ z, x = 0)
  | [] => ⟨[], rfl, fun _ h => by cases h⟩
  | x :: r => by
    by_cases c : x = 0
    · subst c
      obtain ⟨z, h1, h2⟩ := drop0_split r
      refine ⟨0 :: z, ?_, fun y hy => ?_⟩
      · rw [List.dropWhile_cons_of_pos (by simp), List.cons_append, ← h1]
      · rcases List.mem_cons.1 hy with h | h
        · exact h
        · exact h2 y h
    · exact ⟨[], by rw [List.dropWhile_cons_of_neg (by simpa using c)]; rfl, fun _ h => by cases h⟩
theorem drop0_head : ∀ (r : List Int) {a : Int} {t : List Int}, r.dropWhile (fun x => x == 0) = a :: t → ¬ a = 0
  | [], _, _, h => by cases h
  | x :: r, a, t, h => by
    by_cases c : x = 0
    · subst c
      rw [List.dropWhile_cons_of_pos (by simp)] at h
      exact drop0_head r h
    · rw [List.dropWhile_cons_of_neg (by simpa using c)] at h
      injection h with h _
      rw [← h]
      exact c
theorem trim_split (l : List Int) : ∃ z, l = trimZ l ++ z ∧ ∀ x ∈ z, x = 0 := by
  obtain ⟨z, h1, h2⟩ := drop0_split l.reverse
  refine ⟨z.reverse, ?_, fun x hx => h2 x (List.mem_reverse.1 hx)⟩
  have := congrArg List.reverse h1
  rw [List.reverse_reverse, List.reverse_append] at this
  exact this
theorem trim_last (l : List Int) : trimZ l = [] ∨ ¬ (trimZ l).getLastD 0 = 0 := by
  unfold trimZ
  cases h : l.reverse.dropWhile (fun x => x == 0) with
  | nil => exact .inl rfl
  | cons a t =>
    refine .inr ?_
    have := drop0_head _ h
    rw [List.reverse_cons]
    simpa using this
theorem vw_trim (l : List Int) (n : Nat) : vw (trimZ l) n = vw l n := by
  obtain ⟨z, h1, h2⟩ := trim_split l
  have := vw_app (trimZ l) z h2 n
  rw [← h1] at this
  exact this.symm
theorem nz_zeros : ∀ z : List Int, (∀ x ∈ z, x = 0) → nz z = []
  | [], _ => rfl
  | x :: r, h => by
    have e := h x (List.mem_cons_self ..)
    subst e
    rw [nz_cons0]
    exact nz_zeros r (fun y hy => h y (List.mem_cons_of_mem _ hy))
theorem nz_trim (l : List Int) : nz (trimZ l) = nz l := by
  obtain ⟨z, h1, h2⟩ := trim_split l
  have := nz_append (trimZ l) z
  rw [← h1, nz_zeros z h2, List.append_nil] at this
  exact this.symm
theorem trim_le (l : List Int) : (trimZ l).length ≤ l.length := by
  obtain ⟨z, h1, _⟩ := trim_split l
  have := congrArg List.length h1
  rw [List.length_append] at this
  omega
def putL (l : List Int) (n : Nat) (p : Int) : List Int := (padTo l (n + 1)).set n p
theorem pad_len (l : List Int) (n : Nat) : n < (padTo l (n + 1)).length ∧ (padTo l (n + 1)).length ≤ l.length + (n + 1) ∧ (l.length ≤ 60 → n < 60 → (padTo l (n + 1)).length ≤ 60) := by
  unfold padTo
  rw [List.length_append, List.length_replicate]
  omega
theorem pad_vw (l : List Int) (n m : Nat) : vw (padTo l n) m = vw l m := vw_app _ _ (fun _ hx => (List.mem_replicate.1 hx).2) m
theorem pad_nz (l : List Int) (n : Nat) : nz (padTo l n) = nz l := by
  unfold padTo
  rw [nz_append, nz_zeros _ (fun _ hx => (List.mem_replicate.1 hx).2), List.append_nil]
theorem putL_vw (l : List Int) (n : Nat) (p : Int) (m : Nat) : vw (putL l n p) m = if m = n then p else vw l m := by
  have h := (pad_len l n).1
  rw [← pad_vw l (n + 1) m]
  unfold putL vw
  rw [List.getD_eq_getElem?_getD, List.getD_eq_getElem?_getD, List.getElem?_set]
  by_cases e : m = n
  · subst e
    rw [if_pos rfl, if_pos h, if_pos rfl]
    rfl
  · rw [if_neg (fun q => e q.symm), if_neg e]
/-- The rows in front of a place and behind it. -/
theorem cut_at {y : List Int} {n : Nat} (h : n < y.length) : y = y.take n ++ y[n] :: y.drop (n + 1) := by
  rw [← List.drop_eq_getElem_cons h, List.take_append_drop]
theorem set_at {y : List Int} {n : Nat} (h : n < y.length) (p : Int) : y.set n p = y.take n ++ p :: y.drop (n + 1) := by
  rw [List.set_eq_take_append_cons_drop, if_pos h]
def one (x : Int) : List Int := if x = 0 then [] else [x]
theorem nz_one (x : Int) (r : List Int) : nz (x :: r) = one x ++ nz r := by
  unfold one
  by_cases c : x = 0
  · subst c
    rw [if_pos rfl, nz_cons0]
    rfl
  · rw [if_neg c, nz_cons _ _ c]
    rfl
theorem putL_nz (l : List Int) (n : Nat) (p : Int) : ∃ a b, nz l = a ++ (one (vw l n) ++ b) ∧ nz (putL l n p) = a ++ (one p ++ b) ∧ (∀ x ∈ a ++ b, ∃ m, m ≠ n ∧ vw l m = x) := by
  have h := (pad_len l n).1
  refine ⟨nz ((padTo l (n + 1)).take n), nz ((padTo l (n + 1)).drop (n + 1)), ?_, ?_, fun x hx => ?_⟩
  · have := congrArg nz (cut_at h)
    rw [pad_nz, nz_append, nz_one] at this
    rw [this, ← vw_in h, pad_vw]
  · unfold putL
    rw [set_at h, nz_append, nz_one]
  · rcases List.mem_append.1 hx with h1 | h1
    · have h2 := (nz_mem.1 h1).1
      rw [List.mem_take_iff_getElem] at h2
      obtain ⟨j, hj, e⟩ := h2
      exact ⟨j, by omega, by rw [← pad_vw l (n + 1), vw_in (by omega)]; exact e⟩
    · have h2 := (nz_mem.1 h1).1
      rw [List.mem_drop_iff_getElem] at h2
      obtain ⟨j, hj, e⟩ := h2
      exact ⟨n + 1 + j, by omega, by rw [← pad_vw l (n + 1), vw_in (by omega)]; exact e⟩
theorem one_len (x : Int) : (one x).length = if x = 0 then 0 else 1 := by
  unfold one
  split <;> rfl
theorem putL_cnt (l : List Int) (n : Nat) (p : Int) : (nz (putL l n p)).length + (if vw l n = 0 then 0 else 1) = (nz l).length + (if p = 0 then 0 else 1) := by
  obtain ⟨a, b, h1, h2, _⟩ := putL_nz l n p
  rw [h1, h2]
  simp only [List.length_append, one_len]
  omega
theorem putL_valid {l : List Int} (hv : Valid l) {n : Nat} (hn : n < 60) (hl : l.length ≤ 60) {p : Int} (hp : p = 0 ∨ isPageB p = true) (hc : p = 0 ∨ ∀ m, vw l m = p → m = n) : Valid (trimZ (putL l n p)) := by
  obtain ⟨a, b, h1, h2, h3⟩ := putL_nz l n p
  have hlen : (putL l n p).length ≤ 60 := by unfold putL; rw [List.length_set]; exact (pad_len l n).2.2 hl hn
  have ho := hv.once
  rw [h1] at ho
  have hab : (a ++ b).Nodup := ho.sublist ((List.Sublist.refl a).append (List.sublist_append_right _ _))
  refine ⟨by have := trim_le (putL l n p); omega, trim_last _, ?_, ?_⟩
  · rw [nz_trim, h2]
    intro x hx
    rcases List.mem_append.1 hx with h | h
    · exact hv.page x (by rw [h1]; exact List.mem_append_left _ h)
    · rcases List.mem_append.1 h with h | h
      · unfold one at h
        split at h
        · cases h
        · rename_i c
          rw [List.mem_singleton.1 h]
          exact hp.resolve_left c
      · exact hv.page x (by rw [h1]; exact List.mem_append_right _ (List.mem_append_right _ h))
  · rw [nz_trim, h2]
    by_cases c : p = 0
    · subst c
      exact hab
    · unfold one
      rw [if_neg c]
      have hpn : p ∉ a ++ b := by
        intro hp
        obtain ⟨m, hm, e⟩ := h3 p hp
        exact hm (hc.resolve_left c m e)
      rw [List.mem_append, not_or] at hpn
      rw [List.nodup_append] at hab ⊢
      refine ⟨hab.1, ?_, ?_⟩
      · rw [List.singleton_append, List.nodup_cons]
        exact ⟨hpn.2, hab.2.1⟩
      · intro x hx y hy
        rcases List.mem_append.1 hy with h | h
        · rw [List.mem_singleton.1 h]
          rintro rfl
          exact hpn.1 hx
        · exact hab.2.2 x hx y h
theorem getS_vw (l : List Int) (n : Nat) : getS l (n : Int) = (vw l n, !(vw l n == 0)) := by
  unfold getS
  by_cases c : n < l.length
  · rw [if_pos ⟨by omega, by omega⟩, vw_rd]
  · rw [if_neg (by omega), vw_out (by omega)]
    rfl
theorem findS_has {l : List Int} (hv : Valid l) {n : Nat} (h : ¬ vw l n = 0) : findS l (vw l n) = ((n : Int), true) := by
  have hl := vw_lt h
  unfold findS
  rw [if_neg h, vw_in hl, findIdx_once hv.once hl (by rw [← vw_in hl]; exact h), if_pos hl]
theorem findS_not {l : List Int} {p : Int} (h : ∀ m, ¬ vw l m = p) : findS l p = (0, false) := by
  unfold findS
  split
  · rfl
  · rw [if_neg]
    intro c
    obtain h2 := List.findIdx_getElem (w := c)
    exact h _ (by rw [vw_in c]; simpa using h2)
end Go.Proofs.Ytefnndodcpimiaa.H
