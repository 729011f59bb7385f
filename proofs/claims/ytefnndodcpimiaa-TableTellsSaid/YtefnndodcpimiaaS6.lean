/- What the two maps and the table say of one another. -/
import Derived.Test.YtefnndodcpimiaaS5
import Derived.Test.YtefnndodcpimiaaMM
namespace Go.Proofs.Ytefnndodcpimiaa.H
open Go.RowKit Go.Proofs.YtefnndodcpimiaaW.PrintWords Go.Proofs.YtefnndodcpimiaaW.PrintLast
/-! ### What the two maps and the table say of one another -/
structure Told (l : List Int) (A B : LogM) : Prop where
  valid : Valid l
  len : l.length ≤ 60
  at_ : ∀ n : Nat, mhas A n = !(vw l n == 0) ∧ mget A n = vw l n
  by1 : ∀ n : Nat, ¬ vw l n = 0 → mhas B (vw l n) = true ∧ mget B (vw l n) = (n : Int)
  by2 : ∀ p : Int, ¬ p = 0 → mhas B p = true → ∃ n : Nat, mget B p = (n : Int) ∧ vw l n = p
  cnt : mlen A = ((nz l).length : Int)
theorem told_nil : Told [] [] [] := ⟨(valid_iff []).mp (by decide), by decide, fun n => ⟨rfl, rfl⟩, fun n h => absurd rfl h, fun p _ h => (by cases h), rfl⟩
theorem told_inj {l : List Int} {A B : LogM} (h : Told l A B) {m n : Nat} (e : vw l m = vw l n) (hn : ¬ vw l n = 0) : m = n := by
  have h1 := (h.by1 n hn).2
  have h2 := (h.by1 m (by rw [e]; exact hn)).2
  rw [e, h1] at h2
  omega
/-- Clear of a place that is there. -/
theorem told_clear {l : List Int} {A B : LogM} (h : Told l A B) {n : Nat} (hn : n < 60) (hz : ¬ vw l n = 0) : Told (trimZ (putL l n 0)) (mdel A n) (mdel B (vw l n)) := by
  have hv := putL_valid h.valid hn h.len (.inl rfl) (.inl rfl)
  refine ⟨hv, ?_, fun m => ?_, fun m => ?_, fun p hp => ?_, ?_⟩
  · have := trim_le (putL l n 0)
    have := (pad_len l n).2.2 h.len hn
    unfold putL at *
    rw [List.length_set] at *
    omega
  · rw [vw_trim, putL_vw, mhas_del, mget_del]
    by_cases e : m = n
    · subst e
      rw [if_pos rfl, if_pos rfl, if_pos rfl]
      exact ⟨rfl, rfl⟩
    · rw [if_neg (show ¬ (n : Int) = (m : Int) by omega), if_neg e, if_neg (show ¬ (n : Int) = (m : Int) by omega)]
      exact h.at_ m
  · rw [vw_trim, putL_vw]
    by_cases e : m = n
    · rw [if_pos e]
      intro q
      exact absurd rfl q
    · rw [if_neg e]
      intro q
      have hne : ¬ vw l n = vw l m := fun c => e (told_inj h c.symm hz)
      rw [mhas_del, mget_del, if_neg hne, if_neg hne]
      exact h.by1 m q
  · rw [mhas_del, mget_del]
    by_cases e : vw l n = p
    · rw [if_pos e]
      intro q
      cases q
    · rw [if_neg e, if_neg e]
      intro q
      obtain ⟨m, h1, h2⟩ := h.by2 p hp q
      refine ⟨m, h1, ?_⟩
      rw [vw_trim, putL_vw, if_neg (by rintro rfl; exact e h2)]
      exact h2
  · have h1 := mlen_del A n
    have h2 := putL_cnt l n 0
    rw [nz_trim]
    rw [(h.at_ n).1, if_pos (by simpa using hz), h.cnt] at h1
    rw [if_neg hz, if_pos rfl] at h2
    omega
/-- Set of a place to a page that stands nowhere else. -/
theorem told_set {l : List Int} {A B : LogM} (h : Told l A B) {n : Nat} (hn : n < 60) {p : Int} (hp : isPageB p = true) (hp0 : ¬ p = 0) (hc : mhas B p = true → mget B p = (n : Int)) :
    Told (trimZ (putL l n p)) (mput A n p) (mput (if mhas A n = true then mdel B (mget A n) else B) p n) := by
  have hc' : ∀ m, vw l m = p → m = n := by
    intro m e
    have h1 := h.by1 m (by rw [e]; exact hp0)
    rw [e] at h1
    have := hc h1.1
    rw [h1.2] at this
    omega
  have hv := putL_valid h.valid hn h.len (.inr hp) (.inr hc')
  have hB : ∀ q : Int, mhas (if mhas A n = true then mdel B (mget A n) else B) q = (if ¬ vw l n = 0 ∧ vw l n = q then false else mhas B q) ∧ (¬ (¬ vw l n = 0 ∧ vw l n = q) → mget (if mhas A n = true then mdel B (mget A n) else B) q = mget B q) := by
    intro q
    rw [(h.at_ n).1, (h.at_ n).2]
    by_cases z : vw l n = 0
    · rw [if_neg (by simpa using z), if_neg (fun c => c.1 z)]
      exact ⟨rfl, fun _ => rfl⟩
    · rw [if_pos (by simpa using z), mhas_del, mget_del]
      by_cases e : vw l n = q
      · rw [if_pos e, if_pos ⟨z, e⟩]
        exact ⟨rfl, fun c => absurd ⟨z, e⟩ c⟩
      · rw [if_neg e, if_neg (fun c => e c.2), if_neg e]
        exact ⟨rfl, fun _ => rfl⟩
  refine ⟨hv, ?_, fun m => ?_, fun m => ?_, fun q hq => ?_, ?_⟩
  · have := trim_le (putL l n p)
    have := (pad_len l n).2.2 h.len hn
    unfold putL at *
    rw [List.length_set] at *
    omega
  · rw [vw_trim, putL_vw, mhas_put, mget_put]
    by_cases e : m = n
    · subst e
      rw [if_pos rfl, if_pos rfl, if_pos rfl]
      exact ⟨by simpa using hp0, rfl⟩
    · rw [if_neg (show ¬ (n : Int) = (m : Int) by omega), if_neg e, if_neg (show ¬ (n : Int) = (m : Int) by omega)]
      exact h.at_ m
  · rw [vw_trim, putL_vw]
    by_cases e : m = n
    · subst e
      rw [if_pos rfl]
      intro _
      rw [mhas_put, mget_put, if_pos rfl, if_pos rfl]
      exact ⟨rfl, rfl⟩
    · rw [if_neg e]
      intro q
      have hne : ¬ p = vw l m := fun c => e (hc' m c.symm)
      have hno : ¬ (¬ vw l n = 0 ∧ vw l n = vw l m) := fun c => e (told_inj h c.2.symm c.1)
      rw [mhas_put, mget_put, if_neg hne, if_neg hne, (hB _).1, (hB _).2 hno, if_neg hno]
      exact h.by1 m q
  · rw [mhas_put, mget_put]
    by_cases e : p = q
    · subst e
      rw [if_pos rfl, if_pos rfl]
      intro _
      exact ⟨n, rfl, by rw [vw_trim, putL_vw, if_pos rfl]⟩
    · rw [if_neg e, if_neg e, (hB q).1]
      by_cases c : ¬ vw l n = 0 ∧ vw l n = q
      · rw [if_pos c]
        intro w
        cases w
      · rw [if_neg c, (hB q).2 c]
        intro w
        obtain ⟨m, h1, h2⟩ := h.by2 q hq w
        refine ⟨m, h1, ?_⟩
        rw [vw_trim, putL_vw, if_neg]
        · exact h2
        · rintro rfl
          exact c ⟨by rw [h2]; exact hq, h2⟩
  · have h1 := mlen_put A n p
    have h2 := putL_cnt l n p
    rw [nz_trim, h1, (h.at_ n).1, h.cnt]
    rw [if_neg hp0] at h2
    by_cases z : vw l n = 0
    · rw [if_pos z] at h2
      rw [if_neg (by simpa using z)]
      omega
    · rw [if_neg z] at h2
      rw [if_pos (by simpa using z)]
      omega
end Go.Proofs.Ytefnndodcpimiaa.H
