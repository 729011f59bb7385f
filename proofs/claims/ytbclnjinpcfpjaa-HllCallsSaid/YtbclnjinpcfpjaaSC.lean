/- The reference's calls. -/
import Derived.Test.YtbclnjinpcfpjaaSB
namespace Go.Proofs.Ytbclnjinpcfpjaa.H
open Go.RowKit Go.Proofs.YtbclnjinpcfpjaaW.PrintWords Go.Proofs.YtbclnjinpcfpjaaW.PrintLast
set_option linter.unusedVariables false
/-! ### The reference's calls -/
theorem radd_loop {P : Nat} (h4 : 4 ≤ P) (hP : P ≤ 16) (hs : List Int) (hu : U64 hs) (hn : hs.length ≤ 1000000) (q : List S32) : ∀ (d i : Nat) (T : List Int) (l : List S32), i + d = hs.length → Vl P l → Tb P T l →
    Ev (fun k => tallymanref14_AddAll.l0 k hs T (i : Int) (P : Int) q) ((P : Int), adds l (spls P (hs.drop i)), 0) := by
  have hp := pow_small hP
  intro d
  induction d with
  | zero =>
    intro i T l h hv ht
    rw [List.drop_of_length_le (by omega)]
    refine Ev.step (f := fun k => (tallymanref14_of.f k (P : Int) T).bind fun bt590 => (some (bt590.1, bt590.2, 0))) (fun k => ?_) (Ev.bind (of_ev hP ht hv (P : Int)) (Ev.now _))
    simp only [tallymanref14_AddAll.l0]
    rw [if_neg (by omega)]
  | succ d ih =>
    intro i T l h hv ht
    have hi : i < hs.length := by omega
    have hh := hu hs[i] (List.getElem_mem hi)
    obtain ⟨H, hH⟩ : ∃ H : Nat, hs[i] = (H : Int) := ⟨hs[i].toNat, by omega⟩
    have hr := spl_reg h4 hP (H := H) (by omega)
    have h0 := hr.1
    have h1 := hr.2.1
    have hT := ht.1
    rw [List.drop_eq_getElem_cons hi, hH]
    refine Ev.step (f := fun k => (tallymanref14_Split.f k (P : Int) (H : Int)).bind fun bt585 => (if 0 ≤ bt585.1 then (if bt585.1 < (T.length : Int) then (tallymanref14_AddAll.l0 k hs (T.set (bt585.1 : Int).toNat (mx (rd T bt585.1) bt585.2.1)) ((i + 1 : Nat) : Int) (P : Int) q) else (none)) else (none))) (fun k => ?_) (Ev.bind (rsplit_ev h4 hP (by omega)) ?_)
    · simp only [tallymanref14_AddAll.l0]
      rw [if_pos (by omega), if_pos (by omega), rdI hs i hi, hH, w6 (x := (i : Int) + 1) (by omega) (by omega)]
      rfl
    · refine Ev.congr (fun k => by rw [if_pos h0, if_pos (by omega)]) (ih (i + 1) _ (insl (spl P H) l) (by omega) (val_insl hr hv) (tb_set ht hv hr))
theorem radd_ev {P : Nat} (h4 : 4 ≤ P) (hP : P ≤ 16) (hs : List Int) (hu : U64 hs) (hn : hs.length ≤ 1000000) {l : List S32} (hv : Vl P l) :
    Ev (fun k => tallymanref14_AddAll.f k (P : Int) l hs) ((P : Int), adds l (spls P hs), 0) := by
  obtain ⟨T, ht, he⟩ := ranks_ev hP hv
  refine Ev.congr (fun k => by unfold tallymanref14_AddAll.f; rfl) (Ev.bind (rchk_good P h4 hP hv) ?_)
  refine Ev.congr (fun k => by rw [if_pos rfl]) (Ev.bind he ?_)
  exact radd_loop h4 hP hs hu hn l hs.length 0 T l (by omega) hv ht
theorem rget_loop (l : List S32) (t p : Int) (hl : l.length ≤ 1000000) : ∀ (d i : Nat), i + d = l.length → Ev (fun k => tallymanref14_Get.l0 k t (i : Int) p l) (look (l.drop i) t) := by
  intro d
  induction d with
  | zero =>
    intro i h
    rw [List.drop_of_length_le (by omega)]
    refine Ev.step (f := fun _ => some 0) (fun k => ?_) (Ev.now _)
    simp only [tallymanref14_Get.l0]
    rw [if_neg (by omega)]
  | succ d ih =>
    intro i h
    have hi : i < l.length := by omega
    rw [List.drop_eq_getElem_cons hi]
    by_cases e : l[i].f0 = t
    · refine Ev.step (f := fun _ => some l[i].f1) (fun k => ?_) ?_
      · simp only [tallymanref14_Get.l0]
        rw [if_pos (by omega), if_pos (by omega), rdT l i hi, if_pos e]
      · unfold look
        rw [if_pos e]
        exact Ev.now _
    · refine Ev.step (f := fun k => tallymanref14_Get.l0 k t ((i + 1 : Nat) : Int) p l) (fun k => ?_) ?_
      · simp only [tallymanref14_Get.l0]
        rw [if_pos (by omega), if_pos (by omega), rdT l i hi, if_neg e, w6 (x := (i : Int) + 1) (by omega) (by omega)]
        rfl
      · have := ih (i + 1) (by omega)
        unfold look
        rw [if_neg e]
        exact this
theorem rget_ev {P : Nat} (h4 : 4 ≤ P) (hP : P ≤ 16) {l : List S32} (hv : Vl P l) (t : Int) : Ev (fun k => tallymanref14_Get.f k (P : Int) l t) (look l t) := by
  refine Ev.congr (fun k => by unfold tallymanref14_Get.f; rfl) (Ev.bind (rchk_good P h4 hP hv) ?_)
  exact Ev.congr (fun k => by rw [if_pos rfl]; rfl) (rget_loop l t (P : Int) (by have := vl_len hP hv; omega) l.length 0 (by omega))
theorem rzeros_ev {P : Nat} (h4 : 4 ≤ P) (hP : P ≤ 16) {l : List S32} (hv : Vl P l) : Ev (fun k => tallymanref14_Zeros.f k (P : Int) l) (((2 ^ P : Nat) : Int) - (l.length : Int)) := by
  have hl := vl_len hP hv
  have hp := pow_small hP
  refine Ev.congr (fun k => by unfold tallymanref14_Zeros.f; rfl) (Ev.bind (rchk_good P h4 hP hv) ?_)
  refine Ev.congr (f := fun _ => some (((2 ^ P : Nat) : Int) - (l.length : Int))) (fun k => ?_) (Ev.now _)
  rw [if_pos rfl, wu_small (by omega), if_pos (by omega), shl_pow hP, w6 (by omega) (by omega)]
theorem rmerge_loop {P : Nat} (hP : P ≤ 16) {a b : List S32} (ha : Vl P a) (hb : Vl P b) {U : List Int} (hU : Tb P U b) (q : List S32) : ∀ (d i : Nat) (T : List Int), i + d = 2 ^ P → T.length = 2 ^ P → (∀ (j : Nat) (h : j < T.length), T[j] = if j < i then mx (look a (j : Int)) (look b (j : Int)) else look a (j : Int)) →
    Ev (fun k => tallymanref14_Merge.l0 k T U (i : Int) (P : Int) q) ((P : Int), mrg a b, 0) := by
  have hp := pow_small hP
  have hUl := hU.1
  intro d
  induction d with
  | zero =>
    intro i T h hl ht
    have hT : Tb P T (mrg a b) := ⟨hl, fun j hj => by rw [ht j hj, if_pos (by omega), look_mrg ha hb]⟩
    refine Ev.step (f := fun k => (tallymanref14_of.f k (P : Int) T).bind fun bt614 => (some (bt614.1, bt614.2, 0))) (fun k => ?_) (Ev.bind (of_ev hP hT (val_mrg ha hb) (P : Int)) (Ev.now _))
    simp only [tallymanref14_Merge.l0]
    rw [if_neg (by omega)]
  | succ d ih =>
    intro i T h hl ht
    have hi : i < T.length := by omega
    have hiU : i < U.length := by omega
    refine Ev.step (f := fun k => tallymanref14_Merge.l0 k (T.set i (mx (look a (i : Int)) (look b (i : Int)))) U ((i + 1 : Nat) : Int) (P : Int) q) (fun k => ?_) (ih (i + 1) _ (by omega) (by rw [List.length_set]; exact hl) (fun j hj => ?_))
    · simp only [tallymanref14_Merge.l0]
      rw [if_pos (by omega), if_pos (by omega), if_pos (by omega), rdI T i hi, rdI U i hiU, ht i hi, if_neg (by omega), hU.2 i hiU, w6 (x := (i : Int) + 1) (by omega) (by omega)]
      rfl
    · have hj' : j < T.length := by rwa [List.length_set] at hj
      rw [List.getElem_set, ht j hj']
      by_cases e : i = j
      · rw [if_pos e, if_pos (by omega), e]
      · rw [if_neg e]
        by_cases c : j < i
        · rw [if_pos c, if_pos (by omega)]
        · rw [if_neg c, if_neg (by omega)]
theorem rmerge_ev {P : Nat} (h4 : 4 ≤ P) (hP : P ≤ 16) {a b : List S32} (ha : Vl P a) (hb : Vl P b) : Ev (fun k => tallymanref14_Merge.f k (P : Int) a (P : Int) b) ((P : Int), mrg a b, 0) := by
  obtain ⟨T, ht, he⟩ := ranks_ev hP ha
  obtain ⟨U, hu, hf⟩ := ranks_ev hP hb
  refine Ev.congr (fun k => by unfold tallymanref14_Merge.f; rfl) (Ev.bind (rchk_good P h4 hP ha) ?_)
  refine Ev.congr (fun k => by rw [if_pos rfl]) (Ev.bind (rchk_good P h4 hP hb) ?_)
  refine Ev.congr (f := fun k => tallymanref14_Merge.j0 k false (P : Int) a (P : Int) b) (fun k => by rw [if_pos rfl, show ((P : Int) != (P : Int)) = false by simp]) ?_
  refine Ev.step (f := fun k => (tallymanref14_ranks.f k (P : Int) a).bind fun t605 => ((tallymanref14_ranks.f k (P : Int) b).bind fun t608 => (tallymanref14_Merge.l0 k t605 t608 0 (P : Int) a))) (fun k => ?_) (Ev.bind he (Ev.bind hf ?_))
  · simp only [tallymanref14_Merge.j0]
    rw [if_neg (by decide)]
  · exact rmerge_loop hP ha hb hu a (2 ^ P) 0 T (by omega) ht.1 (fun j hj => by rw [if_neg (by omega)]; exact ht.2 j hj)
theorem rfold_inner {Q n i : Nat} (hn : n ≤ 12) (X : List Int) (p : Int) (q : List S32) (r0 r1 : Int) (hr0 : 0 ≤ r0) (low j : Nat) (hr : r0 = (j : Int)) (hj : j < 65536) (h0 : 0 < low) (hi6 : i ≤ 1000000) (hX : j / 2 ^ n < X.length) (res : Int × List S32 × Int) : ∀ (y : Nat), y ≤ n → low < 2 ^ y →
    Ev (fun k => tallymanref14_Fold.l0 k (Q : Int) (X.set (j / 2 ^ n) (mx (rd X ((j / 2 ^ n : Nat) : Int)) (1 + (n : Int) - ((Lib.bitLen low : Nat) : Int)))) (n : Int) ((i + 1 : Nat) : Int) p q) res →
    Ev (fun k => tallymanref14_Fold.l1 k (Q : Int) X (n : Int) (i : Int) (low : Int) (1 + (n : Int) - (y : Int)) ((y : Int) - 1) p q r0 r1) res := by
  intro y
  induction y with
  | zero =>
    intro _ h _
    have : low < 1 := by simpa using h
    omega
  | succ y ih =>
    intro hy hlow hres
    have ey : (((y + 1 : Nat) : Int) - 1) = (y : Int) := by omega
    have hlow2 : low < 18446744073709551616 := Nat.lt_of_lt_of_le hlow (by
      have : 2 ^ (y + 1) ≤ 2 ^ 13 := Nat.pow_le_pow_right (by omega) (by omega)
      omega)
    have etm : Int.tmod (shr .i64 (low : Int) (IntKind.u64.wrap (y : Int))) 2 = (((low / 2 ^ y) % 2 : Nat) : Int) := by
      rw [wu_small (by omega), shr_i64 (by omega)]
      rfl
    rw [ey]
    by_cases c : low < 2 ^ y
    · have e0 : (low / 2 ^ y) % 2 = 0 := by rw [Nat.div_eq_of_lt c]
      refine Ev.step (f := fun k => tallymanref14_Fold.l1 k (Q : Int) X (n : Int) (i : Int) (low : Int) (1 + (n : Int) - (y : Int)) ((y : Int) - 1) p q r0 r1) (fun k => ?_) (ih (by omega) c hres)
      simp only [tallymanref14_Fold.l1]
      rw [etm, e0, wu_small (by omega), if_pos (by omega), if_pos (by omega), w6 (x := (y : Int) - 1) (by omega) (by omega), w6 (by omega) (by omega)]
      congr 1
      omega
    · have hd : low / 2 ^ y < 2 := Nat.div_lt_of_lt_mul (by rw [Nat.mul_comm, ← Nat.pow_succ']; exact hlow)
      have hd0 := Nat.div_pos (Nat.le_of_not_lt c) (Nat.two_pow_pos y)
      refine Ev.step (fun k => ?_) hres
      simp only [tallymanref14_Fold.l1]
      rw [etm, wu_small (by omega), if_pos (by omega), if_neg (by omega), wu_small (show n ≤ 64 by omega), if_pos (by omega), hr, shr_i64 (by omega), if_pos (Int.natCast_nonneg _), if_pos (Int.ofNat_lt.2 hX), w6 (x := (i : Int) + 1) (by omega) (by omega), len_bit (Nat.le_of_not_lt c) hlow hlow2, nat_eq]
      rfl
theorem rfold_loop {P Q : Nat} (h4 : 4 ≤ Q) (hQ : Q ≤ P) (hP : P ≤ 16) {l : List S32} (hv : Vl P l) (p : Int) : ∀ (d i : Nat) (T : List Int) (acc : List S32), i + d = l.length → Vl Q acc → Tb Q T acc →
    Ev (fun k => tallymanref14_Fold.l0 k (Q : Int) T ((P - Q : Nat) : Int) (i : Int) p l) ((Q : Int), adds acc ((l.drop i).map (fr (P - Q))), 0) := by
  have hl := vl_len hP hv
  have hp := pow_small hP
  have hq := pow_small (show Q ≤ 16 by omega)
  have hpq := pow_small (show P - Q ≤ 16 by omega)
  intro d
  induction d with
  | zero =>
    intro i T acc h ha ht
    rw [List.drop_of_length_le (by omega)]
    refine Ev.step (f := fun k => (tallymanref14_of.f k (Q : Int) T).bind fun bt624 => (some (bt624.1, bt624.2, 0))) (fun k => ?_) (Ev.bind (of_ev (by omega) ht ha (Q : Int)) (Ev.now _))
    simp only [tallymanref14_Fold.l0]
    rw [if_neg (by omega)]
  | succ d ih =>
    intro i T acc h ha ht
    have hi : i < l.length := by omega
    have hr := hv.2 l[i] (List.getElem_mem hi)
    have hf := fr_reg h4 hQ hP hr
    have hT := ht.1
    obtain ⟨j, hj⟩ : ∃ j : Nat, l[i].f0 = (j : Int) := ⟨l[i].f0.toNat, by omega⟩
    have ejn : l[i].f0.toNat = j := by omega
    have hj2 : j < 65536 := by omega
    have e0 : (fr (P - Q) l[i]).f0 = ((j / 2 ^ (P - Q) : Nat) : Int) := by unfold fr; rw [ejn]
    have e1 : (fr (P - Q) l[i]).f1 = if j % 2 ^ (P - Q) = 0 then l[i].f1 + ((P - Q : Nat) : Int) else 1 + ((P - Q : Nat) : Int) - ((Lib.bitLen (j % 2 ^ (P - Q)) : Nat) : Int) := by unfold fr; rw [ejn]
    have hlow : j % 2 ^ (P - Q) < 2 ^ (P - Q) := Nat.mod_lt _ (Nat.two_pow_pos _)
    have hx : j / 2 ^ (P - Q) < T.length := by have h2 := hf.2.1; rw [e0] at h2; rw [hT]; exact Int.ofNat_lt.1 h2
    have hrec := ih (i + 1) _ _ (by omega) (val_insl hf ha) (tb_set ht ha hf)
    rw [List.drop_eq_getElem_cons hi]
    have etm : Int.tmod (j : Int) ((2 ^ (P - Q) : Nat) : Int) = ((j % 2 ^ (P - Q) : Nat) : Int) := rfl
    rw [e0, nat_eq, e1] at hrec
    by_cases c : j % 2 ^ (P - Q) = 0
    · rw [if_pos c] at hrec
      refine Ev.step (fun k => ?_) hrec
      simp only [tallymanref14_Fold.l0]
      rw [if_pos (by omega), if_pos (by omega), wu_small (by omega), if_pos (by omega), shl_pow (by omega), if_neg (by omega), rdT l i hi, hj, etm, if_pos (by omega), shr_i64 (by omega), if_pos (Int.natCast_nonneg _), if_pos (Int.ofNat_lt.2 hx), w6 (x := (i : Int) + 1) (by omega) (by omega), w6 (x := l[i].f1 + ((P - Q : Nat) : Int)) (by omega) (by omega), nat_eq]
      rfl
    · rw [if_neg c] at hrec
      have hin := rfold_inner (Q := Q) (n := P - Q) (i := i) (by omega) T p l (j : Int) l[i].f1 (by omega) (j % 2 ^ (P - Q)) j rfl hj2 (by omega) (by omega) hx _ (P - Q) (Nat.le_refl _) hlow hrec
      refine Ev.step (fun k => ?_) hin
      simp only [tallymanref14_Fold.l0]
      rw [if_pos (by omega), if_pos (by omega), wu_small (by omega), if_pos (by omega), shl_pow (by omega), if_neg (by omega), rdT l i hi, hj, etm, if_neg (by omega), w6 (x := ((P - Q : Nat) : Int) - 1) (by omega) (by omega)]
      congr 1
      omega
theorem rfold_ev {P Q : Nat} (h4 : 4 ≤ Q) (hQ : Q ≤ P) (hP : P ≤ 16) {l : List S32} (hv : Vl P l) : Ev (fun k => tallymanref14_Fold.f k (P : Int) l (Q : Int)) ((Q : Int), fold (P - Q) l, 0) := by
  have hq := pow_small (show Q ≤ 16 by omega)
  refine Ev.congr (fun k => by unfold tallymanref14_Fold.f; rfl) (Ev.bind (rchk_good P (by omega) hP hv) ?_)
  refine Ev.congr (f := fun k => tallymanref14_Fold.j0 k (Q : Int) false (P : Int) l) (fun k => ?_) ?_
  · rw [if_pos rfl, if_neg (by omega), decide_eq_false (by omega)]
  refine Ev.step (f := fun k => tallymanref14_Fold.l0 k (Q : Int) (List.replicate (2 ^ Q) 0) ((P - Q : Nat) : Int) ((0 : Nat) : Int) (P : Int) l) (fun k => ?_) (rfold_loop h4 hQ hP hv (P : Int) l.length 0 _ [] (by omega) (val_nil _ _) (tb_zero Q))
  simp only [tallymanref14_Fold.j0]
  rw [if_neg (by decide), wu_small (by omega), if_pos (by omega), shl_pow (by omega), if_pos (by omega), if_pos (by rw [nat_eq]; omega), nat_eq, w6 (by omega) (by omega), show (P : Int) - (Q : Int) = ((P - Q : Nat) : Int) by omega]
  rfl
/-! ### The kit's comparison -/
theorem khll_loop (p q : Int) (l m : List S32) (hl : l.length = m.length) (hn : l.length ≤ 1000000) : ∀ (d i : Nat), i + d = l.length →
    ∃ b : Bool, (b = true ↔ l.drop i = m.drop i) ∧ Ev (fun k => tallymankit_Hll.l0 k (i : Int) p l q m) b := by
  intro d
  induction d with
  | zero =>
    intro i h
    refine ⟨true, by rw [List.drop_of_length_le (by omega), List.drop_of_length_le (by omega)]; simp, ?_⟩
    refine Ev.step (f := fun _ => some true) (fun k => ?_) (Ev.now _)
    simp only [tallymankit_Hll.l0]
    rw [if_neg (by omega)]
  | succ d ih =>
    intro i h
    have h1 : i < l.length := by omega
    have h2 : i < m.length := by omega
    rw [List.drop_eq_getElem_cons h1, List.drop_eq_getElem_cons h2]
    have key : ∀ k, tallymankit_Hll.l0 (k + 1) (i : Int) p l q m = if (!(l[i].f0 == m[i].f0) || !(l[i].f1 == m[i].f1)) = true then some false else tallymankit_Hll.l0 k ((i + 1 : Nat) : Int) p l q m := fun k => by
      simp only [tallymankit_Hll.l0]
      rw [if_pos (by omega), if_pos (by omega), if_pos (by omega), rdT l i h1, rdT m i h2, w6 (x := (i : Int) + 1) (by omega) (by omega)]
      rfl
    by_cases e : l[i] = m[i]
    · obtain ⟨b, hb, he⟩ := ih (i + 1) (by omega)
      refine ⟨b, ?_, Ev.step (f := fun k => tallymankit_Hll.l0 k ((i + 1 : Nat) : Int) p l q m) (fun k => ?_) he⟩
      · rw [hb, e, List.cons.injEq]; simp
      · rw [key, e, if_neg (by simp)]
    · refine ⟨false, ?_, Ev.step (f := fun _ => some false) (fun k => ?_) (Ev.now _)⟩
      · rw [List.cons.injEq]; simp [e]
      · rw [key, if_pos]
        by_cases e0 : l[i].f0 = m[i].f0
        · have e1 : ¬ l[i].f1 = m[i].f1 := fun h => e (reg_ext e0 h)
          simp [e1]
        · simp [e0]
theorem khll_any (p q : Int) (l m : List S32) (hn : l.length ≤ 1000000) : ∃ b : Bool, (b = true ↔ p = q ∧ l = m) ∧ Ev (fun k => tallymankit_Hll.f k p l q m) b := by
  have out : ∀ p l q m, Ev (fun k => tallymankit_Hll.j0 k true p l q m) false := fun p l q m => by
    refine Ev.step (f := fun _ => some false) (fun k => ?_) (Ev.now _)
    simp only [tallymankit_Hll.j0]
    rw [if_pos trivial]
  by_cases e : p = q
  · by_cases hl : l.length = m.length
    · obtain ⟨b, hb, he⟩ := khll_loop p q l m hl hn l.length 0 (by omega)
      refine ⟨b, by rw [hb]; simp [e], ?_⟩
      refine Ev.step (f := fun k => tallymankit_Hll.l0 k ((0 : Nat) : Int) p l q m) (fun k => ?_) he
      unfold tallymankit_Hll.f
      rw [if_pos e, hl, show ((m.length : Int) != (m.length : Int)) = false by simp]
      simp only [tallymankit_Hll.j0]
      rw [if_neg (by decide)]
      rfl
    · refine ⟨false, ?_, Ev.congr (fun k => ?_) (out p l q m)⟩
      · simp only [Bool.false_eq_true, false_iff, not_and]
        intro _ h
        exact hl (by rw [h])
      · unfold tallymankit_Hll.f
        have : ((l.length : Int) != (m.length : Int)) = true := by simp only [bne_iff_ne, ne_eq]; omega
        rw [if_pos e, this]
  · refine ⟨false, by simp [e], Ev.congr (fun k => ?_) (out p l q m)⟩
    unfold tallymankit_Hll.f
    rw [if_neg e]
theorem khll_yes (p : Int) (l : List S32) (hn : l.length ≤ 1000000) : Ev (fun k => tallymankit_Hll.f k p l p l) true := by
  obtain ⟨b, hb, he⟩ := khll_any p p l l hn
  rw [hb.2 ⟨rfl, rfl⟩] at he
  exact he
end Go.Proofs.Ytbclnjinpcfpjaa.H
