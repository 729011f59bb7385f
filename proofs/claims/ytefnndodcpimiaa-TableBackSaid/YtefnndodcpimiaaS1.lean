/- Plain facts about the printed functions: what each of them answers. -/
import Derived.Test.YtefnndodcpimiaaM6
import Derived.Test.YtefnndodcpimiaaS0
namespace Go.Proofs.Ytefnndodcpimiaa.H
open Go.RowKit Go.Proofs.YtefnndodcpimiaaW.PrintWords Go.Proofs.YtefnndodcpimiaaW.PrintLast Go.Proofs.YtefnndodcpimiaaW.PrintMore
set_option linter.unusedVariables false
set_option linter.unusedSimpArgs false
theorem own_eq (b : List Int) (h : b.length < 140737488355328) : tallymankit_Own.f b = some b := by
  unfold tallymankit_Own.f
  simp only [Option.bind_some, List.length_nil, Nat.zero_add, List.nil_append]
  rw [if_pos h]
/-! ### octet.Number -/
theorem wu64 {x : Int} (h1 : 0 ≤ x) (h2 : x ≤ 18446744073709551615) : IntKind.u64.wrap x = x := by
  have e : IntKind.u64.wrap x = x % 18446744073709551616 := by
    unfold IntKind.wrap
    simp [show IntKind.u64.signed = false from rfl, show IntKind.u64.bits = 64 from rfl]
  rw [e]
  omega
def numB (x : Nat) : List Int := if x < 128 then [(x : Int)] else ((x % 128 + 128 : Nat) : Int) :: numB (x / 128)
termination_by x
decreasing_by omega
theorem numB_lt {x : Nat} (h : x < 128) : numB x = [(x : Int)] := by rw [numB, if_pos h]
theorem numB_ge {x : Nat} (h : ¬ x < 128) : numB x = ((x % 128 + 128 : Nat) : Int) :: numB (x / 128) := by rw [numB, if_neg h]
theorem numB_len : ∀ (d x : Nat), x < 128 ^ d → 0 < d → 1 ≤ (numB x).length ∧ (numB x).length ≤ d
  | 0, _, _, h => by omega
  | d + 1, x, hx, _ => by
    by_cases h : x < 128
    · rw [numB_lt h]
      simp
    · rw [numB_ge h, List.length_cons]
      have hd : 0 < d := by
        rcases Nat.eq_zero_or_pos d with e | e
        · subst e; omega
        · exact e
      have := numB_len d (x / 128) (by rw [Nat.pow_succ] at hx; omega) hd
      omega
theorem or_128 : ∀ y : Fin 256, y.val ||| 128 = y.val % 128 + 128 := by decide +kernel
theorem bits_or_128 (x : Nat) : Go.bits .or .u8 ((x : Int) % 256) 128 = ((x % 128 + 128 : Nat) : Int) := by
  have e1 : (BitVec.ofInt 8 ((x : Int) % 256)).toNat = x % 256 := by
    rw [BitVec.toNat_ofInt]
    omega
  have e2 : (BitVec.ofInt 8 128).toNat = 128 := rfl
  have e3 : (BitVec.ofInt 8 ((x : Int) % 256) ||| BitVec.ofInt 8 128).toNat = x % 128 + 128 := by
    rw [BitVec.toNat_or, e1, e2]
    have := or_128 ⟨x % 256, Nat.mod_lt _ (by omega)⟩
    simp only at this
    omega
  show IntKind.u8.wrap ((BitVec.ofInt 8 ((x : Int) % 256) ||| BitVec.ofInt 8 128).toNat : Int) = _
  rw [e3]
  have e4 : IntKind.u8.wrap ((x % 128 + 128 : Nat) : Int) = ((x % 128 + 128 : Nat) : Int) % 256 := by
    unfold IntKind.wrap
    simp [show IntKind.u8.signed = false from rfl, show IntKind.u8.bits = 8 from rfl]
  rw [e4]
  omega
theorem num_loop : ∀ (d x : Nat) (b : List Int), x < 128 ^ d → 0 < d → b.length + d < 140737488355328 → Ev (fun k => octet_Number.l0 k b (x : Int)) (b ++ numB x) := by
  intro d
  induction d with
  | zero => intro x b _ h; omega
  | succ d ih =>
    intro x b hx _ hb
    by_cases h : x < 128
    · rw [numB_lt h]
      refine Ev.step (f := fun _ => some (b ++ [(x : Int)])) (fun k => ?_) (Ev.now _)
      simp only [octet_Number.l0]
      rw [if_neg (by omega), if_pos (by omega), show (x : Int) % 256 = x by omega]
    · rw [numB_ge h]
      have hd : 0 < d := by
        rcases Nat.eq_zero_or_pos d with e | e
        · subst e; omega
        · exact e
      refine Ev.step (f := fun k => octet_Number.l0 k (b ++ [((x % 128 + 128 : Nat) : Int)]) ((x / 128 : Nat) : Int)) (fun k => ?_) ?_
      · simp only [octet_Number.l0]
        rw [if_pos (by omega), if_pos (by omega), bits_or_128, show (x : Int) / 128 = ((x / 128 : Nat) : Int) by omega]
      · have := ih (x / 128) (b ++ [((x % 128 + 128 : Nat) : Int)]) (by rw [Nat.pow_succ] at hx; omega) hd (by simp; omega)
        rwa [List.append_assoc] at this
theorem number_ev (x : Nat) (b : List Int) (hx : x < 18446744073709551616) (hb : b.length < 140737488355000) : Ev (fun k => octet_Number.f k b (x : Int)) (b ++ numB x) := by
  refine Ev.congr (f := fun k => octet_Number.l0 k b (x : Int)) (fun k => ?_) (num_loop 10 x b (by omega) (by omega) (by omega))
  simp only [octet_Number.f, slices_Clone_byte_byte.f]
  rw [if_pos (by omega)]
  rfl

/-! ### Bytes, and the law -/
def numsB (l : List Int) : List Int := (l.map fun x => numB x.toNat).flatten
theorem numsB_cons (x : Int) (r : List Int) : numsB (x :: r) = numB x.toNat ++ numsB r := rfl
theorem valid_lo {l : List Int} (h : chkOk l = true) {i : Nat} (hi : i < l.length) : 0 ≤ rd l (i : Int) ∧ rd l (i : Int) < 4096 := by
  have hv := (valid_iff l).1 h
  have hm := rd_mem l i hi
  by_cases hz : rd l (i : Int) = 0
  · omega
  · have := page_range (hv.page _ (nz_mem.mpr ⟨hm, hz⟩))
    omega
theorem tbytes_loop {l : List Int} (h : chkOk l = true) : ∀ (d i : Nat) (x5 : List Int), i + d = l.length → x5.length + 11 * d < 140737488355000 → Ev (fun k => table_Bytes.l0 k x5 l (l.length : Int) (i : Int)) (x5 ++ numsB (l.drop i), 0) := by
  have hl := chkOk_len h
  intro d
  induction d with
  | zero =>
    intro i x5 hi _
    rw [List.drop_of_length_le (by omega)]
    refine Ev.step (f := fun _ => some (x5 ++ numsB [], 0)) (fun k => ?_) (Ev.now _)
    simp only [table_Bytes.l0]
    rw [if_neg (by omega)]
    simp [numsB]
  | succ d ih =>
    intro i x5 hi hx
    have hlt : i < l.length := by omega
    obtain ⟨v0, v1⟩ := valid_lo h hlt
    rw [drop_at l i hlt, numsB_cons, ← List.append_assoc]
    generalize hr : rd l (i : Int) = r at *
    have hnl := numB_len 10 r.toNat (by omega) (by omega)
    have hnum := number_ev r.toNat [] (by omega) (by simp)
    rw [List.nil_append] at hnum
    have e1 : IntKind.u64.wrap r = (r.toNat : Int) := by rw [wu64 (by omega) (by omega)]; omega
    refine Ev.step (f := fun k => (octet_Number.f k [] (r.toNat : Int)).bind fun t => if x5.length + t.length < 140737488355328 then table_Bytes.l0 k (x5 ++ t) l (l.length : Int) ((i + 1 : Nat) : Int) else none) (fun k => ?_) (Ev.bind hnum ?_)
    · simp only [table_Bytes.l0]
      rw [if_pos (by omega), if_pos (by omega), if_pos (by omega), hr, e1, w64 (by omega) (by omega)]
      rfl
    · refine Ev.congr (fun k => ?_) (ih (i + 1) (x5 ++ numB r.toNat) (by omega) (by rw [List.length_append]; omega))
      rw [if_pos (by omega)]
def bytesR (l : List Int) : List Int × Int := if chkOk l = true then (numB l.length ++ numsB l, 0) else ([], 2)
theorem tbytes_ev {l : List Int} (hw : l.all inI64 = true) : Ev (fun k => table_Bytes.f k l) (bytesR l) := by
  unfold bytesR
  cases h : chkOk l with
  | false =>
    refine Ev.congr (f := fun _ => some ([], 2)) (fun k => ?_) (Ev.now _)
    unfold table_Bytes.f
    rw [check_no hw h]
    rfl
  | true =>
    rw [if_pos rfl]
    have hl := chkOk_len h
    have hnl := numB_len 10 l.length (by omega) (by omega)
    have hnum := number_ev l.length [] (by omega) (by simp)
    rw [List.nil_append] at hnum
    have e1 : IntKind.u64.wrap (l.length : Int) = (l.length : Int) := wu64 (by omega) (by omega)
    have hlo := tbytes_loop h l.length 0 (numB l.length) (by omega) (by omega)
    rw [List.drop_zero] at hlo
    refine Ev.congr (f := fun k => (octet_Number.f k [] (l.length : Int)).bind fun t => table_Bytes.l0 k t l (l.length : Int) 0) (fun k => ?_) (Ev.bind hnum hlo)
    unfold table_Bytes.f
    rw [check_ok hw h, e1]
    rfl
end Go.Proofs.Ytefnndodcpimiaa.H
