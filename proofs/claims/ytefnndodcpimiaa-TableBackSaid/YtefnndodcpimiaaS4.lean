/- Plain facts about the printed functions: what each of them answers. -/
import Derived.Test.YtefnndodcpimiaaS3
import Derived.Test.YtefnndodcpimiaaH3
namespace Go.Proofs.Ytefnndodcpimiaa.H
open Go.RowKit Go.Proofs.YtefnndodcpimiaaW.PrintWords Go.Proofs.YtefnndodcpimiaaW.PrintLast Go.Proofs.YtefnndodcpimiaaW.PrintMore
set_option linter.unusedVariables false
set_option linter.unusedSimpArgs false
theorem readT_len (b : List Int) : (readT b).1.length ≤ 9223372036854775807 := by
  unfold readT
  split
  · split
    · simp
    · split
      · rename_i h
        exact Nat.le_trans (chkOk_len h.2) (by omega)
      · simp
  · simp
theorem check_ev {l : List Int} (hw : l.all inI64 = true) : table_Check.f l = some (if chkOk l = true then 0 else 2) := by
  cases h : chkOk l with
  | true => rw [check_ok hw h]; rfl
  | false => rw [check_no hw h]; rfl
theorem numsB_len : ∀ l : List Int, (∀ x ∈ l, 0 ≤ x ∧ x ≤ 4096) → (numsB l).length ≤ 10 * l.length
  | [], _ => by simp [numsB]
  | x :: r, h => by
    have hx := h x (List.mem_cons_self ..)
    have h1 := numB_len 10 x.toNat (by omega) (by omega)
    have h2 := numsB_len r (fun y hy => h y (List.mem_cons_of_mem _ hy))
    rw [numsB_cons, List.length_append, List.length_cons]
    omega
theorem encT_len {l : List Int} (h : chkOk l = true) (hl : l.length ≤ 65536) : (encT l).length ≤ 700000 := by
  have h1 := numB_len 10 l.length (by omega) (by omega)
  have h2 := numsB_len l (valid_bounds h)
  unfold encT
  rw [List.length_append]
  omega
theorem readf_eq {b : List Int} (hb : b.all isByte = true) (hl : b.length ≤ 1000000) : table_Read.f b = some (readT b) := by
  unfold table_Read.f
  rw [if_pos ⟨hb, by omega⟩]
theorem owne_eq (b : List Int) (h : b.length < 140737488355328) : tallymankit_Own.f b = some b := own_eq b h
theorem valid_i64 {l : List Int} (h : chkOk l = true) : l.all inI64 = true := by
  rw [List.all_eq_true]
  intro x hx
  have := valid_bounds h x hx
  unfold inI64
  simp
  omega
theorem back_j1 {l : List Int} (hw : l.all inI64 = true) (hl : l.length ≤ 400) : Ev (fun k => tallymanlaw10_TableBack.j1 k l) true := by
  obtain ⟨K1, k1⟩ := tbytes_ev hw
  obtain ⟨K2, k2⟩ := ints_ok l l (by omega)
  refine ⟨K1 + K2 + 1, fun k hk => ?_⟩
  obtain ⟨k, rfl⟩ : ∃ k', k = k' + 1 := ⟨k - 1, by omega⟩
  have h1 : table_Bytes.f k l = some (bytesR l) := k1 k (by omega)
  have h2 : tallymankit_Ints.f k l l = some (decide (l = l)) := k2 k (by omega)
  rw [decide_eq_true rfl] at h2
  show tallymanlaw10_TableBack.j1 (k + 1) l = some true
  simp only [tallymanlaw10_TableBack.j1]
  rw [h1, Option.bind_some]
  unfold bytesR
  cases h : chkOk l with
  | false =>
    refine (if_neg (by simp)).trans ?_
    rw [check_ev hw, h]
    rfl
  | true =>
    rw [if_pos (rfl : true = true)]
    show (if (0 : Int) = 0 then _ else _) = _
    refine (if_pos rfl).trans ?_
    have hb := encT_bytes h
    have hne := encT_ne l
    have hlen := encT_len h (by omega)
    have hshort := readT_short h hb
    have hfull := readT_enc [] h
    have hmore := readT_enc [0] h
    rw [List.append_nil, if_pos rfl] at hfull
    rw [if_neg (by simp)] at hmore
    show ((tallymankit_Own.f (encT l)).bind _) = _
    have e0 : numB l.length ++ numsB l = encT l := rfl
    simp only [e0]
    have hpos : 0 < (encT l).length := List.length_pos_iff.mpr hne
    generalize encT l = x at *
    have hw1 : wrap64 ((x.length : Int) - 1) = ((x.length - 1 : Nat) : Int) := by rw [w64 (by omega) (by omega)]; omega
    have hb2 : (x.take (x.length - 1)).all isByte = true := by
      rw [← List.take_append_drop (x.length - 1) x, List.all_append, Bool.and_eq_true] at hb
      exact hb.1
    have hb3 : (x ++ [0]).all isByte = true := by
      rw [List.all_append, hb]
      rfl
    rw [owne_eq x (by omega), Option.bind_some, readf_eq hb (by omega), Option.bind_some, hw1, if_pos (by omega), if_pos (by omega), Int.toNat_natCast, readf_eq hb2 (by rw [List.length_take]; omega), Option.bind_some, Option.bind_some, if_pos (by omega), readf_eq hb3 (by rw [List.length_append]; simp; omega), Option.bind_some, hfull, hshort, hmore, if_pos rfl, h2, Option.bind_some, if_pos rfl, if_pos rfl]
    rfl
theorem back_j0 {l : List Int} (hw : l.all inI64 = true) (hl : l.length ≤ 400) {b : List Int} (hb : b.all isByte = true) (hbl : b.length ≤ 1000) : Ev (fun k => tallymanlaw10_TableBack.j0 k b false l) true := by
  obtain ⟨K1, k1⟩ := back_j1 hw hl
  rcases readT_cases b hb with h | ⟨u, h, hu, he⟩
  · refine ⟨K1 + 1, fun k hk => ?_⟩
    obtain ⟨k, rfl⟩ : ∃ k', k = k' + 1 := ⟨k - 1, by omega⟩
    have h1 : tallymanlaw10_TableBack.j1 k l = some true := k1 k (by omega)
    show tallymanlaw10_TableBack.j0 (k + 1) b false l = some true
    simp only [tallymanlaw10_TableBack.j0]
    rw [if_neg (by decide), owne_eq b (by omega), Option.bind_some, readf_eq hb (by omega), Option.bind_some, h]
    exact (if_neg (by decide)).trans h1
  · obtain ⟨K2, k2⟩ := tbytes_ev (valid_i64 hu)
    refine ⟨K1 + K2 + 1, fun k hk => ?_⟩
    obtain ⟨k, rfl⟩ : ∃ k', k = k' + 1 := ⟨k - 1, by omega⟩
    have h1 : tallymanlaw10_TableBack.j1 k l = some true := k1 k (by omega)
    have h2 : table_Bytes.f k u = some (bytesR u) := k2 k (by omega)
    have h3 : bytesR u = (b, 0) := by
      unfold bytesR
      rw [if_pos hu, he]
      rfl
    rw [h3] at h2
    show tallymanlaw10_TableBack.j0 (k + 1) b false l = some true
    simp only [tallymanlaw10_TableBack.j0]
    rw [if_neg (by decide), owne_eq b (by omega), Option.bind_some, readf_eq hb (by omega), Option.bind_some, h]
    refine (if_pos rfl).trans ?_
    rw [h2, Option.bind_some]
    refine (if_pos rfl).trans ?_
    rw [if_pos rfl]
    exact h1
theorem back_out (b l : List Int) : Ev (fun k => tallymanlaw10_TableBack.j0 k b true l) true := by
  refine Ev.step (f := fun _ => some true) (fun k => ?_) (Ev.now _)
  simp only [tallymanlaw10_TableBack.j0]
  rfl
theorem table_back_ok {l : List Int} (hw : l.all inI64 = true) {b : List Int} (hb : b.all isByte = true) : Ev (fun k => tallymanlaw10_TableBack.f k l b) true := by
  have hlives : Ev (fun k => tallymanlaw10_lives.f k) true := Ev.of tallymanlaw10_lives.mono (k := 80) (by decide +kernel)
  simp only [tallymanlaw10_TableBack.f]
  refine Ev.bind hlives ?_
  by_cases h1 : (l.length : Int) > 400
  · refine Ev.congr (fun k => ?_) (back_out b l)
    rw [if_pos rfl, if_pos h1]
  · by_cases h2 : (b.length : Int) > 1000
    · refine Ev.congr (fun k => ?_) (back_out b l)
      rw [if_pos rfl, if_neg h1, decide_eq_true h2]
    · refine Ev.congr (fun k => ?_) (back_j0 hw (by omega) hb (by omega))
      rw [if_pos rfl, if_neg h1, decide_eq_false h2]
end Go.Proofs.Ytefnndodcpimiaa.H
