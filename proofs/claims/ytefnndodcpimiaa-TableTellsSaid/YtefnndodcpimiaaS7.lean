/- The law TableTells on lists. -/
import Derived.Test.YtefnndodcpimiaaS6
import Derived.Test.YtefnndodcpimiaaS4
import Derived.Test.YtefnndodcpimiaaHX
namespace Go.Proofs.Ytefnndodcpimiaa.H
open Go.RowKit Go.Proofs.YtefnndodcpimiaaW.PrintWords Go.Proofs.YtefnndodcpimiaaW.PrintLast
theorem readT_len (b : List Int) : (readT b).1.length ≤ 9223372036854775807 := by
  unfold readT
  split
  · split
    · simp
    · split
      · rename_i h
        exact Nat.le_trans (chkOk_len h.2) (by omega)
      · simp
  · simp
theorem check_ev {l : List Int} (hw : l.all inI64 = true) : table_Check.f l = some (if chkOk l = true then 0 else 2) := by
  cases h : chkOk l with
  | true => rw [check_ok hw h]; rfl
  | false => rw [check_no hw h]; rfl
theorem numsB_len : ∀ l : List Int, (∀ x ∈ l, 0 ≤ x ∧ x ≤ 4096) → (numsB l).length ≤ 10 * l.length
  | [], _ => by simp [numsB]
  | x :: r, h => by
    have hx := h x (List.mem_cons_self ..)
    have h1 := numB_len 10 x.toNat (by omega) (by omega)
    have h2 := numsB_len r (fun y hy => h y (List.mem_cons_of_mem _ hy))
    rw [numsB_cons, List.length_append, List.length_cons]
    omega
theorem encT_len {l : List Int} (h : chkOk l = true) (hl : l.length ≤ 65536) : (encT l).length ≤ 700000 := by
  have h1 := numB_len 10 l.length (by omega) (by omega)
  have h2 := numsB_len l (valid_bounds h)
  unfold encT
  rw [List.length_append]
  omega
theorem readf_eq {b : List Int} (hb : b.all isByte = true) (hl : b.length ≤ 1000000) : table_Read.f b = some (readT b) := by
  unfold table_Read.f
  rw [if_pos ⟨hb, by omega⟩]
theorem owne_eq (b : List Int) (h : b.length < 140737488355328) : tallymankit_Own.f b = some b := own_eq b h
theorem valid_i64 {l : List Int} (h : chkOk l = true) : l.all inI64 = true := by
  rw [List.all_eq_true]
  intro x hx
  have := valid_bounds h x hx
  unfold inI64
  simp
  omega
theorem pick_ok (n m : Int) (h1 : 1 ≤ m) (h2 : m ≤ 4294967296) (hn : -9223372036854775808 ≤ n ∧ n ≤ 9223372036854775807) : tallymankit_Pick.f n m = some (n % m) := by
  unfold tallymankit_Pick.f
  rw [if_neg (by omega), if_neg (by omega)]
  have h3 := Int.tmod_def n m
  by_cases h : 0 ≤ n
  · have e : Int.tmod n m = n % m := Int.tmod_eq_emod_of_nonneg h
    have := Int.emod_nonneg n (show m ≠ 0 by omega)
    rw [e, if_neg (by omega)]
  · have e := Int.tmod_eq_emod (a := n) (b := m)
    have h5 := Int.emod_nonneg n (show m ≠ 0 by omega)
    have h6 := Int.emod_lt_of_pos n (show 0 < m by omega)
    have h7 : Int.natAbs m = m := by omega
    by_cases h4 : m ∣ n
    · rw [if_pos (.inr h4)] at e
      have e2 : Int.tmod n m = n % m := by rw [e]; simp
      rw [e2, if_neg (by omega)]
    · rw [if_neg (by omega)] at e
      have h8 : ¬ n % m = 0 := fun e => h4 (Int.dvd_of_emod_eq_zero e)
      rw [e, h7, if_pos (by omega), w64 (by omega) (by omega)]
      congr 1
      omega
/-! ### The law -/
def W50 (x : S50) : Prop := ((Lit.int .i64 x.f0).wf = true ∧ (Lit.int .i64 x.f1).wf = true ∧ (Lit.int .i64 x.f2).wf = true)
theorem wf_rng {x : Int} (h : (Lit.int .i64 x).wf = true) : -9223372036854775808 ≤ x ∧ x ≤ 9223372036854775807 := by
  simp [Lit.wf, IntKind.min, IntKind.max, IntKind.signed, IntKind.bits] at h
  omega
theorem told_chk {l : List Int} {A B : LogM} (h : Told l A B) : chkOk l = true := (valid_iff l).mpr h.valid
theorem told_in {l : List Int} {A B : LogM} (h : Told l A B) : l.all inI64 = true := valid_in h.valid
theorem fresh_at {l : List Int} {x : Nat} (hl : l.length ≤ 60) (h1 : ∀ j, j < x → ¬ vw l j = 0) (h2 : vw l x = 0) : freshS l = ((x : Int), 0) := by
  unfold freshS
  by_cases c : x < l.length
  · have e : l.findIdx (· == 0) = x := by
      rw [List.findIdx_eq c]
      refine ⟨by rw [← vw_in c, h2]; rfl, fun j hj => ?_⟩
      have := h1 j hj
      rw [vw_in (by omega)] at this
      simpa using this
    rw [e, if_pos c]
  · have hx : x = l.length := by
      rcases Nat.lt_or_ge l.length x with q | q
      · exact absurd (vw_out (Nat.le_refl _)) (h1 l.length q)
      · omega
    have e : ¬ l.findIdx (· == 0) < l.length := by
      intro q
      have h3 := List.findIdx_getElem (w := q)
      refine h1 (l.findIdx (· == 0)) (by omega) ?_
      rw [vw_in q]
      simpa using h3
    rw [if_neg e, if_neg (by omega), hx]
theorem tells_end {l : List Int} {A B : LogM} (h : Told l A B) {x : Nat} (h1 : ∀ j, j < x → ¬ vw l j = 0) (h2 : vw l x = 0) (n : Int) (hn : ¬ n < 62) :
    Ev (fun k => tallymanlaw10_TableTells.l1 k (x : Int) n l A) true := by
  have hc := told_chk h
  have hw := told_in h
  have hf := tfresh_ev hw
  have hb := tbytes_ev hw
  unfold freshR at hf
  unfold bytesR at hb
  rw [if_pos hc, fresh_at h.len h1 h2] at hf
  rw [if_pos hc] at hb
  have hl := h.len
  have hr := readf_eq (encT_bytes hc) (Nat.le_trans (encT_len hc (by omega)) (by decide))
  have he := readT_enc [] hc
  rw [List.append_nil, if_pos rfl] at he
  rw [he] at hr
  have hi := ints_ok l l (by omega)
  rw [decide_eq_true rfl] at hi
  refine Ev.step (fun k => by simp only [tallymanlaw10_TableTells.l1]; rw [if_neg hn]) (Ev.bind hf (Ev.bind hb ?_))
  refine Ev.congr (fun k => ?_) (Ev.bind hi (Ev.now true))
  show (table_Read.f (encT l)).bind _ = _
  rw [hr, Option.bind_some]
  refine (if_pos rfl).trans ((if_pos rfl).trans ((if_pos rfl).trans ((if_pos rfl).trans ?_)))
  rfl
theorem tells_l1 {l : List Int} {A B : LogM} (h : Told l A B) : ∀ (d n x : Nat), n + d = 62 → x ≤ n → (∀ j, j < x → ¬ vw l j = 0) → (x = n ∨ vw l x = 0) →
    Ev (fun k => tallymanlaw10_TableTells.l1 k (x : Int) (n : Int) l A) true := by
  have hc := told_chk h
  have hw := told_in h
  intro d
  induction d with
  | zero =>
    intro n x hn hx h1 h2
    refine tells_end h h1 ?_ _ (by omega)
    rcases h2 with h2 | h2
    · exact vw_out (by have := h.len; omega)
    · exact h2
  | succ d ih =>
    intro n x hn hx h1 h2
    have hg := get_ev hw (n : Int)
    rw [if_pos hc, getS_vw] at hg
    have ha := h.at_ n
    have hw1 : wrap64 ((n : Int) + 1) = ((n + 1 : Nat) : Int) := w64 (by omega) (by omega)
    have start : ∀ k, tallymanlaw10_TableTells.l1 (k + 1) (x : Int) (n : Int) l A = tallymanlaw10_TableTells.j4 k (x : Int) (n : Int) (vw l n) (!(vw l n == 0)) false l A := by
      intro k
      simp only [tallymanlaw10_TableTells.l1]
      rw [if_pos (by omega), if_pos (by omega), hg, Option.bind_some, ha.1, ha.2]
      refine (if_neg (by simp)).trans ?_
      rw [bne_self_eq_false]
    by_cases z : vw l n = 0
    · have hz : (!(vw l n == 0)) = false := by rw [z]; rfl
      rw [hz] at start
      refine Ev.step start (Ev.step (fun k => ?_) (ih (n + 1) x (by omega) (by omega) h1 (.inr ?_)))
      · simp only [tallymanlaw10_TableTells.j4]
        rw [if_neg (by decide), if_neg (by decide), hw1]
      · rcases h2 with h2 | h2
        · rw [h2]
          exact z
        · exact h2
    · have hz : (!(vw l n == 0)) = true := by simpa using z
      rw [hz] at start
      have hf := tfind_ev hw (vw l n)
      unfold findR at hf
      rw [if_pos hc, findS_has h.valid z] at hf
      refine Ev.step start (Ev.step (fun k => ?_) (Ev.bind hf (r := true) (f := fun k b => if b.2 = true then tallymanlaw10_TableTells.j5 k (x : Int) (n : Int) true (b.1 != (n : Int)) l A else tallymanlaw10_TableTells.j5 k (x : Int) (n : Int) true true l A) ?_))
      · simp only [tallymanlaw10_TableTells.j4]
        rw [if_neg (by decide), if_pos trivial]
      · refine Ev.congr (f := fun k => tallymanlaw10_TableTells.j5 k (x : Int) (n : Int) true false l A) (fun k => by rw [if_pos rfl, bne_self_eq_false]) ?_
        by_cases e : x = n
        · refine Ev.step (fun k => ?_) (ih (n + 1) (n + 1) (by omega) (Nat.le_refl _) (fun j hj => ?_) (.inl rfl))
          · simp only [tallymanlaw10_TableTells.j5]
            rw [if_neg (by decide), if_pos trivial, if_pos (by rw [e]), e, hw1]
          · rcases Nat.lt_or_ge j n with q | q
            · exact h1 j (by omega)
            · rw [show j = n by omega]
              exact z
        · refine Ev.step (fun k => ?_) (ih (n + 1) x (by omega) (by omega) h1 (.inr (h2.resolve_left e)))
          simp only [tallymanlaw10_TableTells.j5]
          rw [if_neg (by decide), if_pos trivial, if_neg (by omega), hw1]
theorem tells_j2 {xs : List S50} {i : Nat} (hi : i < xs.length) (hx : xs.length ≤ 100) {l : List Int} {A B : LogM} (h : Told l A B)
    (hn : Ev (fun k => tallymanlaw10_TableTells.l0 k xs ((i + 1 : Nat) : Int) l A B) true) : Ev (fun k => tallymanlaw10_TableTells.j2 k xs (i : Int) l A B) true := by
  have hc := told_chk h
  have hw := told_in h
  have hcnt := tcount_ev hw
  have hp : pagesR l = nz l := by unfold pagesR; rw [if_pos hc]; rfl
  rw [hp] at hcnt
  have h0 := check_ok hw hc
  refine Ev.step (fun k => ?_) (Ev.bind hcnt (r := true) (f := fun k x => if x = mlen A then tallymanlaw10_TableTells.l0 k xs (wrap64 ((i : Int) + 1)) l A B else none) ?_)
  · simp only [tallymanlaw10_TableTells.j2]
    rw [h0, Option.bind_some, if_pos rfl]
  · refine Ev.congr (fun k => ?_) hn
    rw [if_pos h.cnt.symm, w64 (by omega) (by omega)]
    rfl
theorem set_pad {l : List Int} {n : Nat} (h : n < l.length) (p : Int) : l.set n p = putL l n p := by
  unfold putL
  rw [pad_lt l n h]
theorem tells_l0 {xs : List S50} (hx : xs.length ≤ 100) (hwf : ∀ x ∈ xs, W50 x) : ∀ (d i : Nat) {l : List Int} {A B : LogM}, i + d = xs.length → Told l A B → A.length + B.length ≤ 3 * i →
    Ev (fun k => tallymanlaw10_TableTells.l0 k xs (i : Int) l A B) true := by
  intro d
  induction d with
  | zero =>
    intro i l A B hi h _
    refine Ev.step (fun k => ?_) (tells_l1 h 62 0 0 rfl (Nat.le_refl _) (fun j hj => by omega) (.inl rfl))
    simp only [tallymanlaw10_TableTells.l0]
    rw [if_neg (by omega)]
    rfl
  | succ d ih =>
    intro i l A B hi h hAB
    have hc := told_chk h
    have hw := told_in h
    have hm : rd_T50 xs (i : Int) ∈ xs := by
      unfold rd_T50
      rw [Int.toNat_natCast, List.getD_eq_getElem?_getD, List.getElem?_eq_getElem (show i < xs.length by omega)]
      exact List.getElem_mem _
    obtain ⟨w0, w1, w2⟩ := hwf _ hm
    generalize hxr : rd_T50 xs (i : Int) = e at *
    have p1 := pick_ok e.f1 60 (by decide) (by decide) (wf_rng w1)
    have p2 := pick_ok e.f2 58 (by decide) (by decide) (wf_rng w2)
    have p0 := pick_ok e.f0 3 (by decide) (by decide) (wf_rng w0)
    obtain ⟨N, hN⟩ : ∃ N : Nat, e.f1 % 60 = (N : Int) := ⟨(e.f1 % 60).toNat, by omega⟩
    have hN60 : N < 60 := by omega
    have hp1 := Int.emod_nonneg e.f2 (show (58 : Int) ≠ 0 by decide)
    have hp2 := Int.emod_lt_of_pos e.f2 (show (0 : Int) < 58 by decide)
    have hpw : wrap64 (2 + e.f2 % 58) = 2 + e.f2 % 58 := w64 (by omega) (by omega)
    rw [hN] at p1
    generalize hP : 2 + e.f2 % 58 = P at *
    have hpg : isPageB P = true := by unfold isPageB; simp; omega
    have ha := h.at_ N
    have hsw : 0 ≤ (i : Int) ∧ A.length + B.length < 1000 := ⟨by omega, by omega⟩
    by_cases ck : e.f0 % 3 = 2
    · -- Clear
      have hcl := tclear_ev hw (N : Int)
      unfold clearS at hcl
      rw [if_pos hc, getS_vw] at hcl
      by_cases z : vw l N = 0
      · have hz : (!(vw l N == 0)) = false := by rw [z]; rfl
        rw [hz] at hcl ha
        have hcl2 : table_Clear.f l (N : Int) = some ([], 6) := by rw [hcl]; exact congrArg some (if_neg (by simp))
        have hj := tells_j2 (i := i) (by omega) hx h (ih (i + 1) (by omega) h (by omega))
        refine Ev.step (fun k => ?_) hj
        simp only [tallymanlaw10_TableTells.l0]
        rw [if_pos (by omega), if_pos hsw, hxr, p1, Option.bind_some, p2, Option.bind_some, p0, Option.bind_some, if_pos ck, hcl2, Option.bind_some, ha.1]
        exact (if_neg (by simp)).trans (if_neg (by simp))
      · have hz : (!(vw l N == 0)) = true := by simpa using z
        rw [hz] at hcl ha
        have hlt := vw_lt z
        rw [if_pos rfl, Int.toNat_natCast, set_pad hlt] at hcl
        have h' := told_clear h hN60 z
        have hj := tells_j2 (i := i) (by omega) hx h' (ih (i + 1) (by omega) h' (by simp only [mdel, List.length_append, List.length_singleton]; omega))
        refine Ev.step (fun k => ?_) hj
        simp only [tallymanlaw10_TableTells.l0]
        rw [if_pos (by omega), if_pos hsw, hxr, p1, Option.bind_some, p2, Option.bind_some, p0, Option.bind_some, if_pos ck, hcl, Option.bind_some, ha.1, ha.2]
        exact (if_neg (by simp)).trans (if_pos rfl)
    · -- Set
      have hse := tset_ev hw (N : Int) P
      unfold setS at hse
      rw [if_pos ⟨hc, by omega, by omega, by omega, by omega⟩, Int.toNat_natCast] at hse
      have fd : findS l P = if mhas B P = true then (mget B P, true) else (0, false) := by
        by_cases q : mhas B P = true
        · obtain ⟨m, m1, m2⟩ := h.by2 P (by omega) q
          rw [if_pos q, m1, ← m2]
          exact findS_has h.valid (by rw [m2]; omega)
        · rw [if_neg q]
          refine findS_not fun m em => q ?_
          have := (h.by1 m (by rw [em]; omega)).1
          rwa [em] at this
      have fin : (mhas B P = true → mget B P = (N : Int)) → ∀ (X : Bool) (T : List Int × Int), T = (trimZ (putL l N P), 0) → X = false →
          Ev (fun k => tallymanlaw10_TableTells.j1 k xs (i : Int) (N : Int) P (mget A (N : Int)) (mhas A (N : Int)) T.2 X l A B T.1) true := by
        intro hq X T hT hX
        have h' := told_set h hN60 hpg (by omega) hq
        have hlen : (mput A (N : Int) P).length + (mput (if mhas A (N : Int) = true then mdel B (mget A (N : Int)) else B) P (N : Int)).length ≤ 3 * (i + 1) := by
          simp only [mput, mdel, List.length_append, List.length_singleton]
          split
          · rw [List.length_append, List.length_singleton]
            omega
          · omega
        have hj := tells_j2 (i := i) (by omega) hx h' (ih (i + 1) (by omega) h' hlen)
        refine Ev.step (fun k => ?_) hj
        rw [hT, hX]
        simp only [tallymanlaw10_TableTells.j1]
        refine (if_neg (by decide)).trans ((if_pos trivial).trans ?_)
        by_cases q : mhas A (N : Int) = true
        · rw [if_pos q, if_pos q]
        · rw [if_neg q, if_neg q]
      by_cases q : mhas B P = true
      · rw [fd, if_pos q] at hse
        by_cases r : mget B P = (N : Int)
        · rw [if_neg (fun c => c.2 r)] at hse
          refine Ev.step (fun k => ?_) (Ev.bind hse (r := true) (f := fun k b => if mhas B P = true then tallymanlaw10_TableTells.j1 k xs (i : Int) (N : Int) P (mget A (N : Int)) (mhas A (N : Int)) b.2 ((b.2 == 0) == (mget B P != (N : Int))) l A B b.1 else tallymanlaw10_TableTells.j1 k xs (i : Int) (N : Int) P (mget A (N : Int)) (mhas A (N : Int)) b.2 ((b.2 == 0) == false) l A B b.1) ?_)
          · simp only [tallymanlaw10_TableTells.l0]
            rw [if_pos (by omega), if_pos hsw, hxr, p1, Option.bind_some, p2, Option.bind_some, p0, Option.bind_some, if_neg ck, hP, hpw]
          · refine Ev.congr (fun k => ?_) (fin (fun _ => r) ((((0 : Int) == 0)) == (mget B P != (N : Int))) (trimZ (putL l N P), 0) rfl (by rw [r]; simp))
            rw [if_pos q]
            rfl
        · rw [if_pos ⟨rfl, r⟩] at hse
          have hj := tells_j2 (i := i) (by omega) hx h (ih (i + 1) (by omega) h (by omega))
          refine Ev.step (fun k => ?_) (Ev.bind hse (r := true) (f := fun k b => if mhas B P = true then tallymanlaw10_TableTells.j1 k xs (i : Int) (N : Int) P (mget A (N : Int)) (mhas A (N : Int)) b.2 ((b.2 == 0) == (mget B P != (N : Int))) l A B b.1 else tallymanlaw10_TableTells.j1 k xs (i : Int) (N : Int) P (mget A (N : Int)) (mhas A (N : Int)) b.2 ((b.2 == 0) == false) l A B b.1) ?_)
          · simp only [tallymanlaw10_TableTells.l0]
            rw [if_pos (by omega), if_pos hsw, hxr, p1, Option.bind_some, p2, Option.bind_some, p0, Option.bind_some, if_neg ck, hP, hpw]
          · refine Ev.step (fun k => ?_) hj
            rw [if_pos q]
            simp only [tallymanlaw10_TableTells.j1]
            have e7 : (((7 : Int) == 0) == (mget B P != (N : Int))) = false := by
              have : (mget B P != (N : Int)) = true := by simpa using r
              rw [this]
              rfl
            rw [e7]
            exact (if_neg (by decide)).trans (if_neg (by decide))
      · rw [fd, if_neg q, if_neg (fun c => by cases c.1)] at hse
        refine Ev.step (fun k => ?_) (Ev.bind hse (r := true) (f := fun k b => if mhas B P = true then tallymanlaw10_TableTells.j1 k xs (i : Int) (N : Int) P (mget A (N : Int)) (mhas A (N : Int)) b.2 ((b.2 == 0) == (mget B P != (N : Int))) l A B b.1 else tallymanlaw10_TableTells.j1 k xs (i : Int) (N : Int) P (mget A (N : Int)) (mhas A (N : Int)) b.2 ((b.2 == 0) == false) l A B b.1) ?_)
        · simp only [tallymanlaw10_TableTells.l0]
          rw [if_pos (by omega), if_pos hsw, hxr, p1, Option.bind_some, p2, Option.bind_some, p0, Option.bind_some, if_neg ck, hP, hpw]
        · refine Ev.congr (fun k => ?_) (fin (fun c => absurd c q) ((((0 : Int) == 0)) == false) (trimZ (putL l N P), 0) rfl rfl)
          rw [if_neg q]
          rfl
theorem table_tells_ok {xs : List S50} (hwf : ∀ x ∈ xs, W50 x) : Ev (fun k => tallymanlaw10_TableTells.f k xs) true := by
  have hlives : Ev (fun k => tallymanlaw10_lives.f k) true := Ev.of tallymanlaw10_lives.mono (k := 80) (by decide +kernel)
  simp only [tallymanlaw10_TableTells.f]
  refine Ev.bind hlives ?_
  by_cases h1 : (xs.length : Int) > 100
  · refine Ev.congr (fun k => ?_) (Ev.now true)
    rw [if_pos rfl, if_pos h1]
  · refine Ev.congr (fun k => ?_) (tells_l0 (by omega) hwf xs.length 0 (Nat.zero_add _) told_nil (by decide))
    rw [if_pos rfl, if_neg h1]
    rfl
end Go.Proofs.Ytefnndodcpimiaa.H
