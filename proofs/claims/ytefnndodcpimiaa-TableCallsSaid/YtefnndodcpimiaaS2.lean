/- Plain facts about the printed functions: what each of them answers. -/
import Derived.Test.YtefnndodcpimiaaS1
import Derived.Test.YtefnndodcpimiaaH8
namespace Go.Proofs.Ytefnndodcpimiaa.H
open Go.RowKit Go.Proofs.YtefnndodcpimiaaW.PrintWords Go.Proofs.YtefnndodcpimiaaW.PrintLast Go.Proofs.YtefnndodcpimiaaW.PrintMore
set_option linter.unusedVariables false
set_option linter.unusedSimpArgs false
theorem trimZ_len (l : List Int) : (trimZ l).length ≤ l.length := by
  unfold trimZ
  rw [List.length_reverse]
  have := (List.dropWhile_sublist (l := l.reverse) (fun x => x == 0)).length_le
  rwa [List.length_reverse] at this
theorem setS_len (l : List Int) (n p : Int) (hl : l.length ≤ 65536) : (setS l n p).1.length ≤ 9223372036854775807 := by
  unfold setS
  split
  · rename_i h
    split
    · simp
    · have h1 := trimZ_len ((padTo l (n.toNat + 1)).set n.toNat p)
      have h2 : ((padTo l (n.toNat + 1)).set n.toNat p).length = l.length + (n.toNat + 1 - l.length) := by unfold padTo; simp
      show (trimZ ((padTo l (n.toNat + 1)).set n.toNat p)).length ≤ _
      omega
  · simp
theorem clearS_len (l : List Int) (n : Int) (hl : l.length ≤ 65536) : (clearS l n).1.length ≤ 9223372036854775807 := by
  unfold clearS
  split
  · split
    · have h1 := trimZ_len (l.set n.toNat 0)
      rw [List.length_set] at h1
      show (trimZ (l.set n.toNat 0)).length ≤ _
      omega
    · simp
  · simp
theorem readT_len (b : List Int) : (readT b).1.length ≤ 9223372036854775807 := by
  unfold readT
  split
  · split
    · simp
    · split
      · rename_i h
        exact Nat.le_trans (chkOk_len h.2) (by omega)
      · simp
  · simp
theorem pagesR_len (l : List Int) (hl : l.length ≤ 65536) : (pagesR l).length ≤ 9223372036854775807 := by
  unfold pagesR pagesS
  split
  · have := List.length_filter_le (fun x : Int => !(x == 0)) l
    omega
  · simp
theorem read_eq {b : List Int} (hb : b.all isByte = true) (hl : b.length ≤ 1000) : table_Read.f b = some (readT b) := by
  unfold table_Read.f
  rw [if_pos ⟨hb, by omega⟩]
theorem check_ev {l : List Int} (hw : l.all inI64 = true) : table_Check.f l = some (if chkOk l = true then 0 else 2) := by
  cases h : chkOk l with
  | true => rw [check_ok hw h]; rfl
  | false => rw [check_no hw h]; rfl
theorem calls_j2 {l : List Int} (hw : l.all inI64 = true) (hl : l.length ≤ 400) (p : Int) {b : List Int} (hb : b.all isByte = true) (hbl : b.length ≤ 1000) : Ev (fun k => tallymanlaw10_TableCalls.j2 k p b false l) true := by
  obtain ⟨K1, k1⟩ := tfind_ev hw p
  obtain ⟨K2, k2⟩ := rfind_ev hw p
  obtain ⟨K3, k3⟩ := tbytes_ev hw
  obtain ⟨K4, k4⟩ := rbytes_ev hw
  obtain ⟨K5, k5⟩ := ints_ok (readT b).1 (readT b).1 (readT_len b)
  obtain ⟨K6, k6⟩ := tpages_ev hw
  obtain ⟨K7, k7⟩ := rpages_ev hw
  obtain ⟨K8, k8⟩ := ints_ok (pagesR l) (pagesR l) (pagesR_len l (by omega))
  obtain ⟨K9, k9⟩ := tcount_ev hw
  refine ⟨K1 + K2 + K3 + K4 + K5 + K6 + K7 + K8 + K9 + 1, fun k hk => ?_⟩
  obtain ⟨k, rfl⟩ : ∃ k', k = k' + 1 := ⟨k - 1, by omega⟩
  have h1 : table_Find.f k l p = some (findR l p) := k1 k (by omega)
  have h2 : tallymanref10_Find.f k l p = some (findR l p) := k2 k (by omega)
  have h3 : table_Bytes.f k l = some (bytesR l) := k3 k (by omega)
  have h4 : tallymanref10_Bytes.f k l = some (bytesR l) := k4 k (by omega)
  have h5 : tallymankit_Ints.f k (readT b).1 (readT b).1 = some (decide ((readT b).1 = (readT b).1)) := k5 k (by omega)
  have h6 : table_Pages.f k l = some (pagesR l) := k6 k (by omega)
  have h7 : tallymanref10_Pages.f k l = some (pagesR l) := k7 k (by omega)
  have h8 : tallymankit_Ints.f k (pagesR l) (pagesR l) = some (decide (pagesR l = pagesR l)) := k8 k (by omega)
  have h9 : table_Count.f k l = some ((pagesR l).length : Int) := k9 k (by omega)
  rw [decide_eq_true rfl] at h5 h8
  have hr := read_eq hb hbl
  have hc := check_ev hw
  show tallymanlaw10_TableCalls.j2 (k + 1) p b false l = some true
  simp only [tallymanlaw10_TableCalls.j2]
  rw [if_neg (by decide), h1, Option.bind_some, h2, Option.bind_some, h3, Option.bind_some, h4, Option.bind_some, own_eq b (by omega), Option.bind_some, hr, Option.bind_some, refread_eq, hr, Option.bind_some]
  refine (if_pos rfl).trans ((if_pos (by simp)).trans ((if_pos rfl).trans ((if_pos rfl).trans ?_)))
  rw [h5, Option.bind_some]
  refine (if_pos rfl).trans ((if_pos rfl).trans ?_)
  rw [hc, Option.bind_some, refcheck_eq, hc, Option.bind_some]
  refine (if_pos rfl).trans ?_
  rw [h6, Option.bind_some, h7, Option.bind_some, h8, Option.bind_some]
  refine (if_pos rfl).trans ?_
  rw [h9, Option.bind_some, Option.bind_some]
  simp
theorem calls_j1 {l : List Int} (hw : l.all inI64 = true) (hl : l.length ≤ 400) (n p : Int) {b : List Int} (hb : b.all isByte = true) (hbl : b.length ≤ 1000) : Ev (fun k => tallymanlaw10_TableCalls.j1 k n p b false l) true := by
  obtain ⟨K2, k2⟩ := rclear_ev hw n
  obtain ⟨K3, k3⟩ := tfresh_ev hw
  obtain ⟨K4, k4⟩ := rfresh_ev hw
  obtain ⟨K5, k5⟩ := ints_ok (clearS l n).1 (clearS l n).1 (clearS_len l n (by omega))
  obtain ⟨K6, k6⟩ := calls_j2 hw hl p hb hbl
  refine ⟨K2 + K3 + K4 + K5 + K6 + 1, fun k hk => ?_⟩
  obtain ⟨k, rfl⟩ : ∃ k', k = k' + 1 := ⟨k - 1, by omega⟩
  have h1 := tclear_ev hw n
  have h2 : tallymanref10_Clear.f k l n = some (clearS l n) := k2 k (by omega)
  have h3 : table_Fresh.f k l = some (freshR l) := k3 k (by omega)
  have h4 : tallymanref10_Fresh.f k l = some (freshR l) := k4 k (by omega)
  have h5 : tallymankit_Ints.f k (clearS l n).1 (clearS l n).1 = some (decide ((clearS l n).1 = (clearS l n).1)) := k5 k (by omega)
  have h6 : tallymanlaw10_TableCalls.j2 k p b false l = some true := k6 k (by omega)
  rw [decide_eq_true rfl] at h5
  show tallymanlaw10_TableCalls.j1 (k + 1) n p b false l = some true
  simp only [tallymanlaw10_TableCalls.j1]
  rw [if_neg (by decide), h1, Option.bind_some, h2, Option.bind_some, h3, Option.bind_some, h4, Option.bind_some, h5, Option.bind_some]
  refine (if_pos rfl).trans ((if_pos rfl).trans ((if_pos rfl).trans ?_))
  rw [bne_self_eq_false]
  exact h6
theorem calls_j0 {l : List Int} (hw : l.all inI64 = true) (hl : l.length ≤ 400) (n p : Int) {b : List Int} (hb : b.all isByte = true) (hbl : b.length ≤ 1000) : Ev (fun k => tallymanlaw10_TableCalls.j0 k n p b false l) true := by
  obtain ⟨K1, k1⟩ := tset_ev hw n p
  obtain ⟨K2, k2⟩ := rset_ev hw n p
  obtain ⟨K5, k5⟩ := ints_ok (setS l n p).1 (setS l n p).1 (setS_len l n p (by omega))
  obtain ⟨K6, k6⟩ := calls_j1 hw hl n p hb hbl
  refine ⟨K1 + K2 + K5 + K6 + 1, fun k hk => ?_⟩
  obtain ⟨k, rfl⟩ : ∃ k', k = k' + 1 := ⟨k - 1, by omega⟩
  have h1 : table_Set.f k l n p = some (setS l n p) := k1 k (by omega)
  have h2 : tallymanref10_Set.f k l n p = some (setS l n p) := k2 k (by omega)
  have h5 : tallymankit_Ints.f k (setS l n p).1 (setS l n p).1 = some (decide ((setS l n p).1 = (setS l n p).1)) := k5 k (by omega)
  have h6 : tallymanlaw10_TableCalls.j1 k n p b false l = some true := k6 k (by omega)
  rw [decide_eq_true rfl] at h5
  have hg := get_ev hw n
  show tallymanlaw10_TableCalls.j0 (k + 1) n p b false l = some true
  simp only [tallymanlaw10_TableCalls.j0]
  rw [if_neg (by decide), hg, Option.bind_some, refget_eq, hg, Option.bind_some, h1, Option.bind_some, h2, Option.bind_some]
  refine (if_pos rfl).trans ((if_neg (by simp)).trans ?_)
  rw [h5, Option.bind_some]
  refine (if_pos rfl).trans ?_
  rw [bne_self_eq_false]
  exact h6
theorem calls_out (n p : Int) (b l : List Int) : Ev (fun k => tallymanlaw10_TableCalls.j0 k n p b true l) true := by
  refine Ev.step (f := fun _ => some true) (fun k => ?_) (Ev.now _)
  simp only [tallymanlaw10_TableCalls.j0]
  rfl
theorem table_calls_ok {l : List Int} (hw : l.all inI64 = true) (n p : Int) {b : List Int} (hb : b.all isByte = true) : Ev (fun k => tallymanlaw10_TableCalls.f k l n p b) true := by
  have hlives : Ev (fun k => tallymanlaw10_lives.f k) true := Ev.of tallymanlaw10_lives.mono (k := 80) (by decide +kernel)
  simp only [tallymanlaw10_TableCalls.f]
  refine Ev.bind hlives ?_
  by_cases h1 : (l.length : Int) > 400
  · refine Ev.congr (fun k => ?_) (calls_out n p b l)
    rw [if_pos rfl, if_pos h1]
  · by_cases h2 : (b.length : Int) > 1000
    · refine Ev.congr (fun k => ?_) (calls_out n p b l)
      rw [if_pos rfl, if_neg h1, if_pos h2]
    · by_cases h3 : n > 3000
      · refine Ev.congr (fun k => ?_) (calls_out n p b l)
        rw [if_pos rfl, if_neg h1, if_neg h2, decide_eq_true h3]
      · refine Ev.congr (fun k => ?_) (calls_j0 hw (by omega) n p hb (by omega))
        rw [if_pos rfl, if_neg h1, if_neg h2, decide_eq_false h3]
end Go.Proofs.Ytefnndodcpimiaa.H
