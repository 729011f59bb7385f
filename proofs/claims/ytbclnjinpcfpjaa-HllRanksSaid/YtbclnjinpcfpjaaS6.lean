/- Counters as sets. -/
import Derived.Test.YtbclnjinpcfpjaaS5
namespace Go.Proofs.Ytbclnjinpcfpjaa.H
open Go.RowKit Go.Proofs.YtbclnjinpcfpjaaW.PrintWords Go.Proofs.YtbclnjinpcfpjaaW.PrintLast
set_option linter.unusedVariables false
/-! ### What a counter stands for -/
def Sup (X : S32 → Prop) (j v : Int) : Prop := (∀ x, X x → x.f0 = j → x.f1 ≤ v) ∧ (v = 0 ∨ ∃ x, X x ∧ x.f0 = j ∧ x.f1 = v)
def Rep (l : List S32) (X : S32 → Prop) : Prop := ∀ j, Sup X j (look l j)
theorem rep_nil : Rep [] (fun _ => False) := fun j => ⟨fun x h => h.elim, .inl rfl⟩
theorem rep_dom {l : List S32} {Y Z : S32 → Prop} (h : Rep l Y) (h1 : ∀ y, Y y → ∃ z, Z z ∧ z.f0 = y.f0 ∧ y.f1 ≤ z.f1) (h2 : ∀ z, Z z → ∃ y, Y y ∧ y.f0 = z.f0 ∧ z.f1 ≤ y.f1) : Rep l Z := fun j => by
  obtain ⟨hu, ha⟩ := h j
  have up : ∀ z, Z z → z.f0 = j → z.f1 ≤ look l j := fun z hz e => by
    obtain ⟨y, hy, e1, e2⟩ := h2 z hz
    have := hu y hy (by omega)
    omega
  refine ⟨up, ?_⟩
  rcases ha with ha | ⟨y, hy, e1, e2⟩
  · exact .inl ha
  · obtain ⟨z, hz, e3, e4⟩ := h1 y hy
    have := up z hz (by omega)
    exact .inr ⟨z, hz, by omega, by omega⟩
theorem rep_iff {l : List S32} {Y Z : S32 → Prop} (h : Rep l Y) (e : ∀ x, Y x ↔ Z x) : Rep l Z :=
  rep_dom h (fun y hy => ⟨y, (e y).1 hy, rfl, Int.le_refl _⟩) (fun z hz => ⟨z, (e z).2 hz, rfl, Int.le_refl _⟩)
theorem look_pos {M R : Int} {l : List S32} (h : Val M R l) (k : Int) : 0 ≤ look l k := by
  by_cases e : look l k = 0
  · omega
  · obtain ⟨r, hr, _, h2⟩ := look_some e
    have := h.2 r hr
    omega
theorem rep_eq {M R : Int} {l m : List S32} {X : S32 → Prop} (hl : Val M R l) (hm : Val M R m) (h1 : Rep l X) (h2 : Rep m X) : l = m :=
  look_ext hl hm fun k => by
    obtain ⟨u1, a1⟩ := h1 k
    obtain ⟨u2, a2⟩ := h2 k
    have p1 := look_pos hl k
    have p2 := look_pos hm k
    rcases a1 with a1 | ⟨x, hx, e1, e2⟩
    · rcases a2 with a2 | ⟨y, hy, e3, e4⟩
      · omega
      · have := u1 y hy e3; omega
    · have := u2 x hx e1
      rcases a2 with a2 | ⟨y, hy, e3, e4⟩
      · omega
      · have := u1 y hy e3; omega
theorem rep_self {M R : Int} {l : List S32} (h : Val M R l) : Rep l (fun x => x ∈ l) := fun j => by
  refine ⟨fun x hx e => by rw [← e, look_mem h.1 x hx]; exact Int.le_refl _, ?_⟩
  by_cases e : look l j = 0
  · exact .inl e
  · obtain ⟨r, hr, h1, h2⟩ := look_some e
    exact .inr ⟨r, hr, h1, h2⟩
theorem rep_insl {M R : Int} {l : List S32} {X : S32 → Prop} {x : S32} (hv : Val M R l) (hx : 1 ≤ x.f1) (h : Rep l X) : Rep (insl x l) (fun y => X y ∨ y = x) := fun j => by
  rw [look_insl x hx hv.1 (fun r hr => (hv.2 r hr).2.2.1)]
  obtain ⟨hu, ha⟩ := h j
  by_cases e : x.f0 = j
  · rw [if_pos e]
    have hc := mx_cases (look l j) x.f1
    refine ⟨fun y hy ey => ?_, ?_⟩
    · rcases hy with hy | rfl
      · have := hu y hy ey; omega
      · omega
    · rcases hc with ⟨c, d⟩ | ⟨c, d⟩
      · rw [c]
        rcases ha with ha | ⟨y, hy, e1, e2⟩
        · exact .inl ha
        · exact .inr ⟨y, .inl hy, e1, e2⟩
      · rw [c]; exact .inr ⟨x, .inr rfl, e, rfl⟩
  · rw [if_neg e]
    refine ⟨fun y hy ey => ?_, ?_⟩
    · rcases hy with hy | rfl
      · exact hu y hy ey
      · exact absurd ey e
    · rcases ha with ha | ⟨y, hy, e1, e2⟩
      · exact .inl ha
      · exact .inr ⟨y, .inl hy, e1, e2⟩
def adds (l : List S32) (xs : List S32) : List S32 := xs.foldl (fun l x => insl x l) l
theorem adds_ok {M R : Int} : ∀ (xs : List S32) {l : List S32} {X : S32 → Prop}, Val M R l → Rep l X → (∀ x ∈ xs, Reg M R x) → Val M R (adds l xs) ∧ Rep (adds l xs) (fun y => X y ∨ y ∈ xs)
  | [], l, X, hv, h, _ => ⟨hv, rep_iff h (fun x => by simp)⟩
  | x :: xs, l, X, hv, h, ha => by
    have hx := ha x (List.mem_cons_self ..)
    obtain ⟨h1, h2⟩ := adds_ok xs (val_insl hx hv) (rep_insl hv hx.2.2.1 h) (fun y hy => ha y (List.mem_cons_of_mem _ hy))
    exact ⟨h1, rep_iff h2 (fun y => by rw [List.mem_cons, or_assoc])⟩
theorem val_nil (M R : Int) : Val M R [] := ⟨List.Pairwise.nil, fun r h => by cases h⟩
/-! ### Two rows side by side -/
def mrg : List S32 → List S32 → List S32
  | [], m => m
  | r :: t, [] => r :: t
  | r :: t, s :: u => if r.f0 < s.f0 then r :: mrg t (s :: u) else if s.f0 < r.f0 then s :: mrg (r :: t) u else ⟨r.f0, mx r.f1 s.f1⟩ :: mrg t u
termination_by l m => l.length + m.length
theorem mrg_nil (l : List S32) : mrg l [] = l := by cases l <;> simp [mrg]
theorem mrg_all (P : S32 → Prop) (hm : ∀ r s : S32, P r → P s → r.f0 = s.f0 → P ⟨r.f0, mx r.f1 s.f1⟩) : ∀ (n : Nat) (l m : List S32), l.length + m.length ≤ n → (∀ r ∈ l, P r) → (∀ r ∈ m, P r) → ∀ r ∈ mrg l m, P r := by
  intro n
  induction n with
  | zero =>
    intro l m h h1 h2 r hr
    obtain rfl : l = [] := List.length_eq_zero_iff.mp (by omega)
    rw [mrg] at hr
    exact h2 r hr
  | succ n ih =>
    intro l m h h1 h2 r hr
    match l, m with
    | [], m => rw [mrg] at hr; exact h2 r hr
    | a :: t, [] => rw [mrg] at hr; exact h1 r hr
    | a :: t, s :: u =>
      simp only [List.length_cons] at h
      have ha := h1 a (List.mem_cons_self ..)
      have hs := h2 s (List.mem_cons_self ..)
      have ht : ∀ r ∈ t, P r := fun q hq => h1 q (List.mem_cons_of_mem _ hq)
      have hu : ∀ r ∈ u, P r := fun q hq => h2 q (List.mem_cons_of_mem _ hq)
      rw [mrg] at hr
      by_cases c1 : a.f0 < s.f0
      · rw [if_pos c1] at hr
        rcases List.mem_cons.1 hr with rfl | hr
        · exact ha
        · exact ih t (s :: u) (by simp only [List.length_cons]; omega) ht h2 r hr
      · rw [if_neg c1] at hr
        by_cases c2 : s.f0 < a.f0
        · rw [if_pos c2] at hr
          rcases List.mem_cons.1 hr with rfl | hr
          · exact hs
          · exact ih (a :: t) u (by simp only [List.length_cons]; omega) h1 hu r hr
        · rw [if_neg c2] at hr
          rcases List.mem_cons.1 hr with rfl | hr
          · exact hm a s ha hs (by omega)
          · exact ih t u (by omega) ht hu r hr
theorem mrg_ok : ∀ (n : Nat) (l m : List S32), l.length + m.length ≤ n → Inc l → Inc m → (∀ r ∈ l, 1 ≤ r.f1) → (∀ r ∈ m, 1 ≤ r.f1) →
    Inc (mrg l m) ∧ (∀ k, look (mrg l m) k = mx (look l k) (look m k)) ∧ l.length ≤ (mrg l m).length ∧ m.length ≤ (mrg l m).length ∧ (mrg l m).length ≤ l.length + m.length := by
  have mx0 : ∀ l : List S32, (∀ r ∈ l, 1 ≤ r.f1) → ∀ k, 0 ≤ look l k := fun l h k => by
    by_cases e : look l k = 0
    · omega
    · obtain ⟨r, hr, _, h2⟩ := look_some e
      have := h r hr
      omega
  intro n
  induction n with
  | zero =>
    intro l m h i1 i2 p1 p2
    obtain rfl : l = [] := List.length_eq_zero_iff.mp (by omega)
    obtain rfl : m = [] := List.length_eq_zero_iff.mp (by omega)
    rw [mrg]
    exact ⟨i1, fun k => rfl, by simp, by simp, by simp⟩
  | succ n ih =>
    intro l m h i1 i2 p1 p2
    match l, m with
    | [], m =>
      rw [mrg]
      refine ⟨i2, fun k => ?_, by simp, by simp, by simp⟩
      have := mx0 m p2 k
      have := mx_cases (look [] k) (look m k)
      have e : look [] k = 0 := rfl
      omega
    | a :: t, [] =>
      rw [mrg]
      refine ⟨i1, fun k => ?_, by simp, by simp, by simp⟩
      have := mx0 (a :: t) p1 k
      have := mx_cases (look (a :: t) k) (look [] k)
      have e : look [] k = 0 := rfl
      omega
    | a :: t, s :: u =>
      simp only [List.length_cons] at h
      have q1 := List.pairwise_cons.1 i1
      have q2 := List.pairwise_cons.1 i2
      have ht : ∀ r ∈ t, 1 ≤ r.f1 := fun q hq => p1 q (List.mem_cons_of_mem _ hq)
      have hu : ∀ r ∈ u, 1 ≤ r.f1 := fun q hq => p2 q (List.mem_cons_of_mem _ hq)
      have la : ∀ k, look (a :: t) k = if a.f0 = k then a.f1 else look t k := fun _ => rfl
      have ls : ∀ k, look (s :: u) k = if s.f0 = k then s.f1 else look u k := fun _ => rfl
      rw [mrg]
      by_cases c1 : a.f0 < s.f0
      · rw [if_pos c1]
        obtain ⟨j1, j2, j3, j4, j5⟩ := ih t (s :: u) (by simp only [List.length_cons]; omega) q1.2 i2 ht p2
        simp only [List.length_cons] at j3 j4 j5 ⊢
        refine ⟨List.pairwise_cons.2 ⟨mrg_all (fun r => a.f0 < r.f0) (fun r s h1 h2 e => h1) _ t (s :: u) (Nat.le_refl _) q1.1 (fun r hr => ?_), j1⟩, fun k => ?_, by omega, by omega, by omega⟩
        · rcases List.mem_cons.1 hr with rfl | hr
          · exact c1
          · have := q2.1 r hr; omega
        · rw [show look (a :: mrg t (s :: u)) k = if a.f0 = k then a.f1 else look (mrg t (s :: u)) k from rfl, j2, la]
          by_cases e : a.f0 = k
          · rw [if_pos e, if_pos e, look_none (s :: u) k (fun r hr => by
              rcases List.mem_cons.1 hr with rfl | hr
              · omega
              · have := q2.1 r hr; omega)]
            have := p1 a (List.mem_cons_self ..)
            have := mx_cases a.f1 0
            omega
          · rw [if_neg e, if_neg e]
      · rw [if_neg c1]
        by_cases c2 : s.f0 < a.f0
        · rw [if_pos c2]
          obtain ⟨j1, j2, j3, j4, j5⟩ := ih (a :: t) u (by simp only [List.length_cons]; omega) i1 q2.2 p1 hu
          simp only [List.length_cons] at j3 j4 j5 ⊢
          refine ⟨List.pairwise_cons.2 ⟨mrg_all (fun r => s.f0 < r.f0) (fun r s h1 h2 e => h1) _ (a :: t) u (Nat.le_refl _) (fun r hr => ?_) q2.1, j1⟩, fun k => ?_, by omega, by omega, by omega⟩
          · rcases List.mem_cons.1 hr with rfl | hr
            · exact c2
            · have := q1.1 r hr; omega
          · rw [show look (s :: mrg (a :: t) u) k = if s.f0 = k then s.f1 else look (mrg (a :: t) u) k from rfl, j2, ls]
            by_cases e : s.f0 = k
            · rw [if_pos e, if_pos e, look_none (a :: t) k (fun r hr => by
                rcases List.mem_cons.1 hr with rfl | hr
                · omega
                · have := q1.1 r hr; omega)]
              have := p2 s (List.mem_cons_self ..)
              have := mx_cases 0 s.f1
              omega
            · rw [if_neg e, if_neg e]
        · rw [if_neg c2]
          obtain ⟨j1, j2, j3, j4, j5⟩ := ih t u (by omega) q1.2 q2.2 ht hu
          simp only [List.length_cons] at j3 j4 j5 ⊢
          refine ⟨List.pairwise_cons.2 ⟨mrg_all (fun r => a.f0 < r.f0) (fun r s h1 h2 e => h1) _ t u (Nat.le_refl _) q1.1 (fun r hr => by have := q2.1 r hr; omega), j1⟩, fun k => ?_, by omega, by omega, by omega⟩
          rw [show look ((⟨a.f0, mx a.f1 s.f1⟩ : S32) :: mrg t u) k = if a.f0 = k then mx a.f1 s.f1 else look (mrg t u) k from rfl, j2, la, ls]
          by_cases e : a.f0 = k
          · rw [if_pos e, if_pos e, if_pos (by omega)]
          · rw [if_neg e, if_neg e, if_neg (by omega)]
theorem val_mrg {M R : Int} {l m : List S32} (hl : Val M R l) (hm : Val M R m) : Val M R (mrg l m) :=
  ⟨(mrg_ok _ l m (Nat.le_refl _) hl.1 hm.1 (fun r hr => (hl.2 r hr).2.2.1) (fun r hr => (hm.2 r hr).2.2.1)).1,
    mrg_all (Reg M R) (fun r s h1 h2 e => ⟨h1.1, h1.2.1, by have := mx_cases r.f1 s.f1; have := h1.2.2; have := h2.2.2; show 1 ≤ mx r.f1 s.f1; omega, by have := mx_cases r.f1 s.f1; have := h1.2.2; have := h2.2.2; show mx r.f1 s.f1 ≤ R; omega⟩) _ l m (Nat.le_refl _) hl.2 hm.2⟩
theorem look_mrg {M R : Int} {l m : List S32} (hl : Val M R l) (hm : Val M R m) (k : Int) : look (mrg l m) k = mx (look l k) (look m k) :=
  (mrg_ok _ l m (Nat.le_refl _) hl.1 hm.1 (fun r hr => (hl.2 r hr).2.2.1) (fun r hr => (hm.2 r hr).2.2.1)).2.1 k
theorem len_mrg {M R : Int} {l m : List S32} (hl : Val M R l) (hm : Val M R m) : l.length ≤ (mrg l m).length ∧ m.length ≤ (mrg l m).length ∧ (mrg l m).length ≤ l.length + m.length :=
  (mrg_ok _ l m (Nat.le_refl _) hl.1 hm.1 (fun r hr => (hl.2 r hr).2.2.1) (fun r hr => (hm.2 r hr).2.2.1)).2.2
theorem rep_mrg {M R : Int} {l m : List S32} {X Y : S32 → Prop} (hl : Val M R l) (hm : Val M R m) (h1 : Rep l X) (h2 : Rep m Y) : Rep (mrg l m) (fun z => X z ∨ Y z) := fun j => by
  rw [look_mrg hl hm]
  obtain ⟨u1, a1⟩ := h1 j
  obtain ⟨u2, a2⟩ := h2 j
  have hc := mx_cases (look l j) (look m j)
  refine ⟨fun z hz e => ?_, ?_⟩
  · rcases hz with hz | hz
    · have := u1 z hz e; omega
    · have := u2 z hz e; omega
  · rcases hc with ⟨c, d⟩ | ⟨c, d⟩
    · rw [c]
      rcases a1 with a1 | ⟨x, hx, e1, e2⟩
      · exact .inl a1
      · exact .inr ⟨x, .inl hx, e1, e2⟩
    · rw [c]
      rcases a2 with a2 | ⟨x, hx, e1, e2⟩
      · exact .inl a2
      · exact .inr ⟨x, .inr hx, e1, e2⟩
end Go.Proofs.Ytbclnjinpcfpjaa.H
