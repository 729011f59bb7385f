/- ranks -/
import Derived.Test.YtbclnjinpcfpjaaS7
import Derived.Test.YtbclnjinpcfpjaaHX
namespace Go.Proofs.Ytbclnjinpcfpjaa.H
open Go.RowKit Go.Proofs.YtbclnjinpcfpjaaW.PrintWords Go.Proofs.YtbclnjinpcfpjaaW.PrintLast
set_option linter.unusedVariables false
set_option linter.unusedSimpArgs false
/-! ### The log of the ranks -/
def logR (M : List S32) (s : S32) : List S32 := mput M s.f0 (mx (mget M s.f0) s.f1)
theorem mput_get (M : List S32) (k v x : Int) : mget (mput M k v) x = if k = x then v else mget M x := mget_snoc M k v x
theorem mD_put (M : List S32) (k v : Int) : mD (mput M k v) = (mD M).put (.int .i64 k) (.lit (.int .i64 v)) := mD_snoc M k v
theorem insl_len (x : S32) (h1 : 1 ≤ x.f1) : ∀ {l : List S32}, Inc l → (∀ r ∈ l, 1 ≤ r.f1) → (insl x l).length = if look l x.f0 = 0 then l.length + 1 else l.length
  | [], _, _ => rfl
  | r :: t, hi, hp => by
    have h2 := List.pairwise_cons.1 hi
    have hr := hp r (List.mem_cons_self ..)
    have ih := insl_len x h1 h2.2 (fun s hs => hp s (List.mem_cons_of_mem _ hs))
    unfold insl look
    by_cases c : r.f0 < x.f0
    · rw [if_pos c, if_neg (show ¬ r.f0 = x.f0 by omega), List.length_cons, ih, List.length_cons]
      split <;> rfl
    · rw [if_neg c]
      by_cases d : r.f0 = x.f0
      · rw [if_pos d, if_pos d, if_neg (show ¬ r.f1 = 0 by omega)]
        rfl
      · rw [if_neg d, if_neg d, look_none t x.f0 (fun s hs => by have := h2.1 s hs; omega), if_pos rfl]
        rfl
structure LogOk (M l : List S32) : Prop where
  get : ∀ j, mget M j = look l j
  has : ∀ j : Int, Maps.has (mD M) (.int .i64 j) = decide (look l j ≠ 0)
  len : mlen M = (l.length : Int)
  tidy : Maps.Tidy (mD M)
theorem logOk_nil : LogOk [] [] := ⟨fun _ => rfl, fun _ => rfl, rfl, Maps.tidy_empty⟩
theorem logOk_step {M l : List S32} (h : LogOk M l) {s : S32} (hs : 1 ≤ s.f1) (hi : Inc l) (hp : ∀ r ∈ l, 1 ≤ r.f1) : LogOk (logR M s) (insl s l) := by
  have hl := look_insl s hs hi hp
  refine ⟨fun j => ?_, fun j => ?_, ?_, ?_⟩
  · unfold logR
    rw [mput_get, hl j]
    by_cases e : s.f0 = j
    · rw [if_pos e, if_pos e, ← e, h.get]
    · rw [if_neg e, if_neg e, h.get]
  · unfold logR
    rw [mD_put, hl j]
    by_cases e : s.f0 = j
    · subst e
      rw [Maps.has_put_same h.tidy.isMap (by trivial), if_pos rfl]
      symm
      apply decide_eq_true
      unfold mx
      split <;> omega
    · rw [Maps.has_put_other (by intro h; injection h with _ h; exact e h.symm), if_neg e, h.has]
  · unfold logR mlen
    rw [mD_put, Maps.size_put h.tidy, h.has, insl_len s hs hi hp]
    have := h.len
    unfold mlen at this
    by_cases e : look l s.f0 = 0
    · rw [if_pos e, decide_eq_false (by simpa using e), if_neg (by decide)]
      omega
    · rw [if_neg e, decide_eq_true e, if_pos rfl]
      omega
  · unfold logR
    rw [mD_put]
    exact h.tidy.put (by trivial) _

theorem cnt14 {P : Nat} (h4 : 4 ≤ P) (hP : P ≤ 16) {hs : List Int} (hu : U64 hs) : Vl P (adds [] (spls P hs)) ∧ Rep (adds [] (spls P hs)) (fun y => y ∈ spls P hs) := by
  obtain ⟨h1, h2⟩ := adds_ok (spls P hs) (val_nil ((2 ^ P : Nat) : Int) (65 - (P : Int))) rep_nil (spls_reg h4 hP hu)
  exact ⟨h1, rep_iff h2 (fun x => by simp)⟩
theorem add_ev14 {P : Nat} (h4 : 4 ≤ P) (hP : P ≤ 16) {h : Int} (hh : 0 ≤ h ∧ h < 18446744073709551616) {l : List S32} (hv : Vl P l) : Ev (fun k => hll_Add.f k (P : Int) l h) ((P : Int), adds l (spls P [h]), 0) := by
  have hu : U64 [h] := fun x hx => by rw [List.mem_singleton.1 hx]; exact hh
  exact Ev.congr (fun k => by unfold hll_Add.f; rfl) (Ev.bind (addall_ev h4 hP [h] hu (by simp) hv) (Ev.now _))
theorem add_in {P : Nat} (h4 : 4 ≤ P) (hP : P ≤ 16) {hs : List Int} (hu : U64 hs) {x : Int} (hx : x ∈ hs) : adds (adds [] (spls P hs)) (spls P [x]) = adds [] (spls P hs) := by
  obtain ⟨v, r⟩ := cnt14 h4 hP hu
  have h1 : U64 [x] := fun y hy => by rw [List.mem_singleton.1 hy]; exact hu x hx
  obtain ⟨va, ra⟩ := adds_ok (spls P [x]) v r (spls_reg h4 hP h1)
  refine rep_eq va v ra (rep_iff r (fun y => ⟨.inl, fun h => h.elim id (fun h => ?_)⟩))
  unfold spls at h ⊢
  obtain ⟨z, hz, rfl⟩ := List.mem_map.1 h
  rw [List.mem_singleton.1 hz]
  exact List.mem_map.2 ⟨x, hx, rfl⟩
theorem rk_end {P : Nat} (h4 : 4 ≤ P) (hP : P ≤ 16) {hs : List Int} (hu : U64 hs) {M : List S32} (hM : LogOk M (adds [] (spls P hs))) (i : Nat) :
    Ev (fun k => tallymanlaw14_HllRanks.j3 k (P : Int) hs M (i : Int) false (P : Int) (adds [] (spls P hs))) true := by
  obtain ⟨v, r⟩ := cnt14 h4 hP hu
  have hp := pow_small hP
  have hl := vl_len hP v
  have hlen := hM.len
  have hll : (adds [] (spls P hs)).length ≤ 65536 := hl
  generalize adds [] (spls P hs) = L at *
  have wu : IntKind.u64.wrap (P : Int) = (P : Int) := wu6 (by omega) (by omega)
  have g1 := get_ev h4 hP v (-1) (by omega)
  have g2 := get_ev h4 hP v ((2 ^ P : Nat) : Int) (by omega)
  rw [look_none L (-1) (fun r hr => by have := v.2 r hr; omega)] at g1
  rw [look_none L ((2 ^ P : Nat) : Int) (fun r hr => by have := v.2 r hr; omega)] at g2
  refine Ev.step (fun k => by simp only [tallymanlaw14_HllRanks.j3]; rw [if_neg (by decide), hlen, if_pos rfl]) (Ev.bind (zeros_ev h4 hP v) ?_)
  refine Ev.congr (fun k => by rw [wu, if_pos (by omega), shl_pow hP, w6 (by omega) (by omega), if_pos rfl]) (Ev.bind g1 ?_)
  refine Ev.congr (fun k => by rw [if_pos rfl]) (Ev.bind g2 ?_)
  exact Ev.congr (f := fun _ => some true) (fun k => rfl) (Ev.now _)
theorem rk_l2 {P : Nat} (h4 : 4 ≤ P) (hP : P ≤ 16) {hs : List Int} (hu : U64 hs) (_ : hs.length ≤ 300) {M : List S32} (hM : LogOk M (adds [] (spls P hs))) : ∀ (d i : Nat), i + d = hs.length →
    Ev (fun k => tallymanlaw14_HllRanks.l2 k (P : Int) hs M (i : Int) (P : Int) (adds [] (spls P hs))) true := by
  obtain ⟨v, r⟩ := cnt14 h4 hP hu
  intro d
  induction d with
  | zero =>
    intro i hi
    refine Ev.step (fun k => ?_) (rk_end h4 hP hu hM i)
    simp only [tallymanlaw14_HllRanks.l2]
    rw [if_neg (by omega)]
  | succ d ih =>
    intro i hi
    by_cases c : (i : Int) < 20
    · refine Ev.step (f := fun k => tallymanlaw14_HllRanks.j3 k (P : Int) hs M (i : Int) true (P : Int) (adds [] (spls P hs))) (fun k => ?_) ?_
      · simp only [tallymanlaw14_HllRanks.l2]
        rw [if_pos (by omega), decide_eq_true c]
      · have hx : rd hs (i : Int) ∈ hs := by
          simp only [rd, Int.toNat_natCast, List.getD_eq_getElem?_getD, List.getElem?_eq_getElem (show i < hs.length by omega), Option.getD_some]
          exact List.getElem_mem _
        have ha := add_ev14 h4 hP (hu _ hx) v
        rw [add_in h4 hP hu hx] at ha
        refine Ev.step (fun k => by simp only [tallymanlaw14_HllRanks.j3]; rw [if_pos trivial, if_pos (by omega), if_pos (by omega)]) (Ev.bind ha ?_)
        refine Ev.congr (fun k => by rw [if_pos rfl]) (Ev.bind (same_yes (P : Int) (adds [] (spls P hs)) (by have := vl_len hP v; omega)) ?_)
        refine Ev.congr (fun k => ?_) (ih (i + 1) (by omega))
        rw [if_pos rfl, w6 (by omega) (by omega)]
        rfl
    · refine Ev.step (fun k => ?_) (rk_end h4 hP hu hM i)
      simp only [tallymanlaw14_HllRanks.l2]
      rw [if_pos (by omega), decide_eq_false c]
theorem logOk_all : ∀ (xs : List S32) {M l : List S32}, (∀ x ∈ xs, 1 ≤ x.f1) → LogOk M l → Inc l → (∀ r ∈ l, 1 ≤ r.f1) → LogOk (xs.foldl logR M) (adds l xs)
  | [], _, _, _, h, _, _ => h
  | x :: t, M, l, hx, h, hi, hp => by
    have h1 := hx x (List.mem_cons_self ..)
    have hm : ∀ r ∈ insl x l, 1 ≤ r.f1 := insl_mem x (fun r => 1 ≤ r.f1) h1 (fun r hr _ => by show 1 ≤ mx r.f1 x.f1; unfold mx; split <;> omega) hp
    exact logOk_all t (fun y hy => hx y (List.mem_cons_of_mem _ hy)) (logOk_step h h1 hi hp) (insl_inc x hi) hm
theorem rk_l1 {P : Nat} (h4 : 4 ≤ P) (hP : P ≤ 16) {hs : List Int} (hu : U64 hs) (hn : hs.length ≤ 300) {M : List S32} (hM : LogOk M (adds [] (spls P hs))) : ∀ (d i : Nat), i + d = (adds [] (spls P hs)).length →
    Ev (fun k => tallymanlaw14_HllRanks.l1 k (P : Int) hs M (i : Int) (P : Int) (adds [] (spls P hs))) true := by
  obtain ⟨v, r⟩ := cnt14 h4 hP hu
  have hl := vl_len hP v
  have hp := pow_small hP
  have h2 := rk_l2 h4 hP hu hn hM hs.length 0 (by omega)
  generalize adds [] (spls P hs) = L at *
  intro d
  induction d with
  | zero =>
    intro i hi
    refine Ev.step (fun k => ?_) h2
    simp only [tallymanlaw14_HllRanks.l1]
    rw [if_neg (by omega)]
    rfl
  | succ d ih =>
    intro i hi
    have hr : rd_T32 L (i : Int) ∈ L := by
      simp only [rd_T32, Int.toNat_natCast, List.getD_eq_getElem?_getD, List.getElem?_eq_getElem (show i < L.length by omega), Option.getD_some]
      exact List.getElem_mem _
    have hk := look_mem v.1 _ hr
    have hb := v.2 _ hr
    have hg := get_ev h4 hP v (rd_T32 L (i : Int)).f0 (by omega)
    rw [hk] at hg
    refine Ev.step (fun k => by simp only [tallymanlaw14_HllRanks.l1]; rw [if_pos (by omega), if_pos (by omega), if_pos ⟨(hM.get _).trans hk, wf64 (by omega) (by omega)⟩]) (Ev.bind hg ?_)
    refine Ev.congr (fun k => ?_) (ih (i + 1) (by omega))
    rw [if_pos rfl, w6 (by omega) (by omega)]
    rfl
theorem rk_l0 {P : Nat} (h4 : 4 ≤ P) (hP : P ≤ 16) {hs : List Int} (hu : U64 hs) (hn : hs.length ≤ 300) : ∀ (d i : Nat), i + d = hs.length →
    Ev (fun k => tallymanlaw14_HllRanks.l0 k (P : Int) hs ((spls P (hs.take i)).foldl logR []) (i : Int) (P : Int) (adds [] (spls P hs))) true := by
  have hp := pow_small hP
  have wu : IntKind.u64.wrap (P : Int) = (P : Int) := wu6 (by omega) (by omega)
  intro d
  induction d with
  | zero =>
    intro i hi
    have hM := logOk_all (spls P hs) (fun x hx => (spls_reg h4 hP hu x hx).2.2.1) logOk_nil List.Pairwise.nil (fun r hr => by cases hr)
    refine Ev.step (fun k => ?_) (rk_l1 h4 hP hu hn hM _ 0 (Nat.zero_add _))
    simp only [tallymanlaw14_HllRanks.l0]
    rw [if_neg (by omega), List.take_of_length_le (by omega)]
    rfl
  | succ d ih =>
    intro i hi
    have hx : rd hs (i : Int) = hs[i]'(by omega) := by
      simp only [rd, Int.toNat_natCast, List.getD_eq_getElem?_getD, List.getElem?_eq_getElem (show i < hs.length by omega), Option.getD_some]
    have hh := hu _ (List.getElem_mem (show i < hs.length by omega))
    obtain ⟨H, hH⟩ : ∃ H : Nat, hs[i]'(by omega) = (H : Int) := ⟨(hs[i]'(by omega)).toNat, by rw [Int.toNat_of_nonneg hh.1]⟩
    rw [hH] at hh
    have hsp := split_eq h4 hP (H := H) (by omega)
    have hreg := spl_reg h4 hP (H := H) (by omega)
    have e1 : hll_Split.f (P : Int) (rd hs (i : Int)) = some ((spl P H).f0, (spl P H).f1, 0) := by
      unfold hll_Split.f
      rw [if_neg (by omega), if_neg (by omega), hx, hH, hsp]
      rfl
    have e2 : (spls P (hs.take (i + 1))).foldl logR [] = logR ((spls P (hs.take i)).foldl logR []) (spl P H) := by
      rw [List.take_succ_eq_append_getElem (show i < hs.length by omega)]
      unfold spls
      rw [List.map_append, List.foldl_append]
      simp [hH]
    have h1 := ih (i + 1) (by omega)
    rw [e2] at h1
    refine Ev.step (fun k => ?_) h1
    simp only [tallymanlaw14_HllRanks.l0]
    obtain ⟨r1, r2, r3, r4⟩ := hreg
    rw [if_pos (by omega), if_pos (by omega), e1, Option.bind_some, wu, shl_pow hP, w6 (x := 65 - (P : Int)) (by omega) (by omega)]
    refine (if_pos rfl).trans ((if_neg (by show ¬ (spl P H).f0 < 0; omega)).trans ((if_pos (by omega)).trans ((if_neg (by show ¬ (spl P H).f0 ≥ _; omega)).trans ((if_neg (by show ¬ (spl P H).f1 < 1; omega)).trans ((if_neg (by show ¬ (spl P H).f1 > _; omega)).trans ?_)))))
    rw [w6 (x := (i : Int) + 1) (by omega) (by omega)]
    rfl
end Go.Proofs.Ytbclnjinpcfpjaa.H
