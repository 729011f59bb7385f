/- What the arguments of a call read as, kind by kind. -/
import Derived.Test.YtefnndodcpimiaaProg
import Derived.Below
import Derived.Deep.Draws
import Derived.Deep.AppendLies
import Derived.Maps.AppendAt
import Derived.OwnWalk
import Derived.Laws.BytesArg
import Derived.Laws.MakeOwn
import Derived.Laws.OwnMore
import Derived.Deep.OwnRows
import Derived.Tactics
import Derived.Lib.ConvBytes
import Derived.Laws.Slices
import Derived.WalkKit
import Derived.KernelRfl
import Derived.RowKit3
import Derived.Deep.LoopGhost
import Derived.Deep.QuietTactic
import Derived.BigQuiet
import Derived.WideLaws
import Derived.Deep.DeepCutAuto
import Derived.Deep.CutBlock
import Derived.Deep.RegionHeld3
import Derived.Laws.Rows
import Derived.Lib.AppendStr
import Derived.ArgAppend
import Derived.Laws.IdiomCopy
import Derived.OrdersHeld
import Derived.Laws.BitsLemmas
import Derived.RowKit
import Derived.WalkSpells
import Derived.WalkLawsBesides
import Derived.Laws.Bits64b
import Derived.Laws.BitsAllLaws
import Derived.Maps.OwnSet
import Derived.Test.YtefnndodcpimiaaVTT
import Derived.ProofKit
import Derived.OpenShut
import Derived.ShutString
import Derived.ChangeOld
import Derived.SizedLaws
namespace Go.Proofs.Ytefnndodcpimiaa.H
open Go.RowKit Go.Proofs.YtefnndodcpimiaaW.PrintWords Go.Proofs.YtefnndodcpimiaaW.PrintLast Go.Proofs.YtefnndodcpimiaaW.PrintMore
attribute [local go_sem] max2_int min2_int max_two min_two max_three min_three max_four min_four
set_option linter.unusedVariables false
set_option linter.unusedSimpArgs false

/-! ### What a call's arguments read as, kind by kind: from the form's own reader to the print's kinds -/
section
open Go.ChangeShapes Go.WideShapes
variable {H : Type} {enc : TypeId × Value → H} {P : Program}
/-- Whatever reads at type t is told by kind d, with ok. -/
def Rdr {α : Type} (enc : TypeId × Value → H) (P : Program) (t : TypeId) (d : Kd α) (ok : α → Prop) : Prop :=
  P.cellsOf t = d.sz ∧ ∀ (w : World) (base : Nat) (spare : Nat → Bool) (held : Bool) (fuel : Nat) (cs : List Value) (x : DataW H × List MemPlace), DataW.trod enc P w base spare held fuel t cs = some x → ∃ a, d.K w a cs ∧ ok a
theorem Rdr.int {t : TypeId} {k : IntKind} (ht : P.underlying t = some (.int k)) (hc : P.cellsOf t = 1) : Rdr enc P t (Kd.int k) (fun x => (Lit.int k x).wf = true) :=
  ⟨hc, fun w base spare held fuel cs x h => by
    obtain ⟨n, rfl, _, hw⟩ := DataW.trod_int ht h
    exact ⟨n, rfl, hw⟩⟩
theorem Rdr.bool {t : TypeId} (ht : P.underlying t = some .bool) (hc : P.cellsOf t = 1) : Rdr enc P t Kd.bool (fun _ => True) :=
  ⟨hc, fun w base spare held fuel cs x h => by
    obtain ⟨n, rfl, _⟩ := DataW.trod_bool ht h
    exact ⟨n, rfl, trivial⟩⟩
theorem Rdr.string {t : TypeId} (ht : P.underlying t = some .string) (hc : P.cellsOf t = 1) : Rdr enc P t Kd.string (fun s => s.size ≤ maxLen) :=
  ⟨hc, fun w base spare held fuel cs x h => by
    obtain ⟨n, rfl, _, hl⟩ := DataW.trod_string ht h
    exact ⟨n, rfl, hl⟩⟩
theorem add_add (a : Addr) (m i : Nat) : (a.add m).add i = a.add (m + i) := by
  unfold Addr.add
  by_cases hm : m = 0 <;> by_cases hi : i = 0 <;> simp [hm, hi, Nat.add_assoc]
theorem mapM_get {α β : Type} {f : α → Option β} : ∀ {l : List α} {ys : List β}, l.mapM f = some ys → ys.length = l.length ∧ ∀ (i : Nat) (x : α), l[i]? = some x → f x = ys[i]?
  | [], ys, h => by
    simp at h
    subst h
    simp
  | a :: r, ys, h => by
    simp only [List.mapM_cons, Option.bind_eq_bind, Option.bind_eq_some_iff, Option.pure_def, Option.some.injEq] at h
    obtain ⟨b, hb, bs, hbs, rfl⟩ := h
    obtain ⟨h1, h2⟩ := mapM_get hbs
    refine ⟨by simp [h1], fun i x hi => ?_⟩
    cases i with
    | zero => simp at hi; subst hi; simpa using hb
    | succ i => simpa using h2 i x (by simpa using hi)
theorem cells_get {w : World} {base n : Nat} {a : Addr} {cs : List Value} (h : w.cells? base a n = some cs) : cs.length = n ∧ ∀ (i : Nat) (u : Value), cs[i]? = some u → w.cell? (a.add i) = some u := by
  unfold World.cells? at h
  split at h
  · obtain ⟨h1, h2⟩ := mapM_get h
    refine ⟨by simpa using h1, fun i u hu => ?_⟩
    have hi : i < n := by
      have := (List.getElem?_eq_some_iff.1 hu).1
      simp at h1
      omega
    rw [h2 i i (by simp [hi]), hu]
  · cases h
theorem list_choose {α : Type} (p : Nat → α → Prop) : ∀ n : Nat, (∀ i, i < n → ∃ a, p i a) → ∃ xs : List α, xs.length = n ∧ ∀ (i : Nat) (a : α), xs[i]? = some a → p i a
  | 0, _ => ⟨[], rfl, fun i a h => by simp at h⟩
  | n + 1, h => by
    obtain ⟨xs, hl, hx⟩ := list_choose p n (fun i hi => h i (by omega))
    obtain ⟨a, ha⟩ := h n (by omega)
    refine ⟨xs ++ [a], by simp [hl], fun i b hb => ?_⟩
    rcases Nat.lt_or_ge i n with hi | hi
    · rw [List.getElem?_append_left (by omega)] at hb
      exact hx i b hb
    · have hlt := (List.getElem?_eq_some_iff.1 hb).1
      simp [hl] at hlt
      have : i = n := by omega
      subst this
      rw [List.getElem?_append_right (by omega), hl] at hb
      simp at hb
      subst hb
      exact ha
theorem Rdr.slice {α : Type} {t e : TypeId} {d : Kd α} {ok : α → Prop} (ht : P.underlying t = some (.slice e)) (hc : P.cellsOf t = 1) (hd : Rdr enc P e d ok) : Rdr enc P t (Kd.slice e d) (fun xs => ∀ x ∈ xs, ok x) :=
  ⟨hc, fun w base spare held fuel cs x h => by
    rcases DataW.trod_slice ht h with ⟨rfl, _⟩ | ⟨a, len, cap, elems, rest, n, _, rfl, _, _, hl, hm, hlen, hel, _, _⟩
    · exact ⟨[], ⟨none, 0, rfl, Nat.le_refl _, Kd.C_nil _ _⟩, fun x hx => by cases hx⟩
    · have each : ∀ i, i < len → ∃ b, (∃ c, c.length = d.sz ∧ d.K w b c ∧ ∀ j u, c[j]? = some u → w.cell? (a.add (i * d.sz + j)) = some u) ∧ ok b := fun i hi => by
        have h1 := hel i hi
        rw [List.getElem?_eq_getElem (by omega)] at h1
        obtain ⟨c, hc1, hc2⟩ := Option.bind_eq_some_iff.1 h1
        obtain ⟨b, hb1, hb2⟩ := hd.2 _ _ _ _ _ _ _ hc2
        obtain ⟨hcl, hcc⟩ := cells_get hc1
        rw [hd.1] at hcc hcl
        exact ⟨b, ⟨c, hcl, hb1, fun j u hu => by rw [← add_add]; exact hcc j u hu⟩, hb2⟩
      obtain ⟨xs, hxl, hx⟩ := list_choose _ len each
      subst hxl
      refine ⟨xs, ⟨some a, cap, rfl, hl, rfl, ?_, fun _ => ⟨a, rfl, fun j p hp => (hx j p hp).1⟩⟩, fun x hx2 => ?_⟩
      · simp only [maxLen] at hm
        omega
      · obtain ⟨i, hi⟩ := List.getElem?_of_mem hx2
        exact (hx i x hi).2⟩
theorem Rdr.struct1 {α : Type} {t : TypeId} {f0 : Field} {d0 : Kd α} {ok0 : α → Prop} (ht : P.underlying t = some (.struct #[f0])) (o0 : f0.offset = 0) (h0 : Rdr enc P f0.type d0 ok0) (hc : P.cellsOf t = d0.sz) : Rdr enc P t d0 ok0 :=
  ⟨hc, fun w base spare held fuel cs x h => by
    obtain ⟨xs, n, _, _, hl, hxl, hf⟩ := DataW.trod_struct ht h
    have e0 := hf 0 f0 rfl
    simp at hxl
    rw [List.getElem?_eq_getElem (show 0 < xs.length by omega), o0, h0.1, List.drop_zero, List.take_of_length_le (by omega)] at e0
    exact h0.2 _ _ _ _ _ _ _ e0⟩
theorem Rdr.struct2 {α β : Type} {t : TypeId} {f0 f1 : Field} {d0 : Kd α} {d1 : Kd β} {ok0 : α → Prop} {ok1 : β → Prop} (ht : P.underlying t = some (.struct #[f0, f1])) (o0 : f0.offset = 0) (o1 : f1.offset = d0.sz) (h0 : Rdr enc P f0.type d0 ok0) (h1 : Rdr enc P f1.type d1 ok1) (hc : P.cellsOf t = d0.sz + d1.sz) :
    Rdr enc P t (Kd.pair d0 d1) (fun x => ok0 x.1 ∧ ok1 x.2) :=
  ⟨hc, fun w base spare held fuel cs x h => by
    obtain ⟨xs, n, _, _, hl, hxl, hf⟩ := DataW.trod_struct ht h
    have e0 := hf 0 f0 rfl
    have e1 := hf 1 f1 rfl
    simp at hxl
    rw [List.getElem?_eq_getElem (show 0 < xs.length by omega), o0, h0.1, List.drop_zero] at e0
    rw [List.getElem?_eq_getElem (show 1 < xs.length by omega), o1, h1.1, List.take_of_length_le (by simp; omega)] at e1
    obtain ⟨a, ha1, ha2⟩ := h0.2 _ _ _ _ _ _ _ e0
    obtain ⟨b, hb1, hb2⟩ := h1.2 _ _ _ _ _ _ _ e1
    exact ⟨(a, b), ⟨_, _, (List.take_append_drop d0.sz cs).symm, ha1, hb1⟩, ha2, hb2⟩⟩
theorem Rdr.struct3 {α β γ : Type} {t : TypeId} {f0 f1 f2 : Field} {d0 : Kd α} {d1 : Kd β} {d2 : Kd γ} {ok0 : α → Prop} {ok1 : β → Prop} {ok2 : γ → Prop} (ht : P.underlying t = some (.struct #[f0, f1, f2])) (o0 : f0.offset = 0) (o1 : f1.offset = d0.sz) (o2 : f2.offset = d0.sz + d1.sz) (h0 : Rdr enc P f0.type d0 ok0) (h1 : Rdr enc P f1.type d1 ok1) (h2 : Rdr enc P f2.type d2 ok2) (hc : P.cellsOf t = d0.sz + (d1.sz + d2.sz)) :
    Rdr enc P t (Kd.pair d0 (Kd.pair d1 d2)) (fun x => ok0 x.1 ∧ ok1 x.2.1 ∧ ok2 x.2.2) :=
  ⟨hc, fun w base spare held fuel cs x h => by
    obtain ⟨xs, n, _, _, hl, hxl, hf⟩ := DataW.trod_struct ht h
    have e0 := hf 0 f0 rfl
    have e1 := hf 1 f1 rfl
    have e2 := hf 2 f2 rfl
    simp at hxl
    rw [List.getElem?_eq_getElem (show 0 < xs.length by omega), o0, h0.1, List.drop_zero] at e0
    rw [List.getElem?_eq_getElem (show 1 < xs.length by omega), o1, h1.1] at e1
    rw [List.getElem?_eq_getElem (show 2 < xs.length by omega), o2, h2.1, List.take_of_length_le (by simp; omega)] at e2
    obtain ⟨a, ha1, ha2⟩ := h0.2 _ _ _ _ _ _ _ e0
    obtain ⟨b, hb1, hb2⟩ := h1.2 _ _ _ _ _ _ _ e1
    obtain ⟨c, hc1, hc2⟩ := h2.2 _ _ _ _ _ _ _ e2
    refine ⟨(a, b, c), ⟨_, _, (List.take_append_drop d0.sz cs).symm, ha1, _, _, ?_, hb1, hc1⟩, ha2, hb2, hc2⟩
    rw [← List.drop_drop]
    exact (List.take_append_drop d1.sz _).symm⟩
theorem Rdr.iso {α β : Type} {t : TypeId} {d : Kd α} {ok : α → Prop} (h : Rdr enc P t d ok) (f : β → α) (g : α → β) (hg : ∀ a, f (g a) = a) : Rdr enc P t (Kd.iso d f) (fun b => ok (f b)) :=
  ⟨h.1, fun w base spare held fuel cs x hx => by
    obtain ⟨a, ha, hb⟩ := h.2 _ _ _ _ _ _ _ hx
    exact ⟨g a, by show d.K w (f (g a)) cs; rw [hg]; exact ha, by show ok (f (g a)); rw [hg]; exact hb⟩⟩
/-- A struct by value. -/
theorem okWide_agg1 {w : World} {base : Nat} {r : Reach} {t : TypeId} {v : Value} {fs : Array Field} (ht : P.underlying t = some (.struct fs)) (h : Value.okWide P w r base t v) : ∃ cs, v = .agg cs := by
  simp only [Value.okWide, ht] at h
  obtain ⟨cs, h, _⟩ := h
  exact ⟨cs, h⟩
end

end Go.Proofs.Ytefnndodcpimiaa.H
