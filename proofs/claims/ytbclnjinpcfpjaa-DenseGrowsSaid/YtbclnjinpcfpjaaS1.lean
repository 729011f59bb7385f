/- What Sparse, Dense and Bytes compute. -/
import Derived.Test.YtbclnjinpcfpjaaH4
namespace Go.Proofs.Ytbclnjinpcfpjaa.H
open Go.RowKit Go.Proofs.YtbclnjinpcfpjaaW.PrintWords Go.Proofs.YtbclnjinpcfpjaaW.PrintLast
set_option linter.unusedSimpArgs false
set_option linter.unusedVariables false
theorem w64 {x : Int} (h1 : -9223372036854775808 ≤ x) (h2 : x ≤ 9223372036854775807) : wrap64 x = x := by unfold wrap64; omega
theorem wu64 {x : Int} (h1 : 0 ≤ x) (h2 : x ≤ 18446744073709551615) : IntKind.u64.wrap x = x := by
  have e : IntKind.u64.wrap x = x % 18446744073709551616 := by
    unfold IntKind.wrap
    rfl
  rw [e]
  omega
/-! ### What octet.Number, hll.Check, dense.Sparse, Pack, Dense, Bytes answer -/
def numB (x : Nat) : List Int := if x < 128 then [(x : Int)] else ((x % 128 + 128 : Nat) : Int) :: numB (x / 128)
termination_by x
decreasing_by omega
theorem numB_lt {x : Nat} (h : x < 128) : numB x = [(x : Int)] := by rw [numB, if_pos h]
theorem numB_ge {x : Nat} (h : ¬ x < 128) : numB x = ((x % 128 + 128 : Nat) : Int) :: numB (x / 128) := by rw [numB, if_neg h]
theorem numB_len : ∀ (d x : Nat), x < 128 ^ d → 0 < d → 1 ≤ (numB x).length ∧ (numB x).length ≤ d
  | 0, _, _, h => by omega
  | d + 1, x, hx, _ => by
    by_cases h : x < 128
    · rw [numB_lt h]
      simp
    · rw [numB_ge h, List.length_cons]
      have hd : 0 < d := by
        rcases Nat.eq_zero_or_pos d with e | e
        · subst e; omega
        · exact e
      have := numB_len d (x / 128) (by rw [Nat.pow_succ] at hx; omega) hd
      omega
theorem or_128 : ∀ y : Fin 256, y.val ||| 128 = y.val % 128 + 128 := by decide +kernel
theorem bits_or_128 (x : Nat) : Go.bits .or .u8 ((x : Int) % 256) 128 = ((x % 128 + 128 : Nat) : Int) := by
  have e1 : (BitVec.ofInt 8 ((x : Int) % 256)).toNat = x % 256 := by
    rw [BitVec.toNat_ofInt]
    omega
  have e2 : (BitVec.ofInt 8 128).toNat = 128 := rfl
  have e3 : (BitVec.ofInt 8 ((x : Int) % 256) ||| BitVec.ofInt 8 128).toNat = x % 128 + 128 := by
    rw [BitVec.toNat_or, e1, e2]
    have := or_128 ⟨x % 256, Nat.mod_lt _ (by omega)⟩
    simp only at this
    omega
  show IntKind.u8.wrap ((BitVec.ofInt 8 ((x : Int) % 256) ||| BitVec.ofInt 8 128).toNat : Int) = _
  rw [e3]
  have e4 : IntKind.u8.wrap ((x % 128 + 128 : Nat) : Int) = ((x % 128 + 128 : Nat) : Int) % 256 := by
    unfold IntKind.wrap
    simp [show IntKind.u8.signed = false from rfl, show IntKind.u8.bits = 8 from rfl]
  rw [e4]
  omega
theorem num_loop : ∀ (d x : Nat) (b : List Int), x < 128 ^ d → 0 < d → b.length + d < 140737488355328 → Ev (fun k => octet_Number.l0 k b (x : Int)) (b ++ numB x) := by
  intro d
  induction d with
  | zero => intro x b _ h; omega
  | succ d ih =>
    intro x b hx _ hb
    by_cases h : x < 128
    · rw [numB_lt h]
      refine Ev.step (f := fun _ => some (b ++ [(x : Int)])) (fun k => ?_) (Ev.now _)
      simp only [octet_Number.l0]
      rw [if_neg (by omega), if_pos (by omega), show (x : Int) % 256 = x by omega]
    · rw [numB_ge h]
      have hd : 0 < d := by
        rcases Nat.eq_zero_or_pos d with e | e
        · subst e; omega
        · exact e
      refine Ev.step (f := fun k => octet_Number.l0 k (b ++ [((x % 128 + 128 : Nat) : Int)]) ((x / 128 : Nat) : Int)) (fun k => ?_) ?_
      · simp only [octet_Number.l0]
        rw [if_pos (by omega), if_pos (by omega), bits_or_128, show (x : Int) / 128 = ((x / 128 : Nat) : Int) by omega]
      · have := ih (x / 128) (b ++ [((x % 128 + 128 : Nat) : Int)]) (by rw [Nat.pow_succ] at hx; omega) hd (by simp; omega)
        rwa [List.append_assoc] at this
theorem number_ev (x : Nat) (b : List Int) (hx : x < 18446744073709551616) (hb : b.length < 140737488355000) : Ev (fun k => octet_Number.f k b (x : Int)) (b ++ numB x) := by
  refine Ev.congr (f := fun k => octet_Number.l0 k b (x : Int)) (fun k => ?_) (num_loop 10 x b (by omega) (by omega) (by omega))
  simp only [octet_Number.f, slices_Clone_byte_byte.f]
  rw [if_pos (by omega)]
  rfl

theorem rd32_at (l : List S32) (i : Nat) (h : i < l.length) : rd_T32 l (i : Int) = l[i] := by simp [rd_T32, h]
theorem drop32 (l : List S32) (i : Nat) (h : i < l.length) : l.drop i = rd_T32 l (i : Int) :: l.drop (i + 1) := by
  rw [rd32_at l i h]
  exact List.drop_eq_getElem_cons h

def regsOk (p : Nat) : Int → List S32 → Bool
  | _, [] => true
  | last, r :: rs => decide (last < r.f0) && decide (r.f0 < ((2 ^ p : Nat) : Int)) && decide (1 ≤ r.f1) && decide (r.f1 ≤ 65 - (p : Int)) && regsOk p r.f0 rs
theorem regsOk_cons {p : Nat} {last : Int} {r : S32} {rs : List S32} (h : regsOk p last (r :: rs) = true) : last < r.f0 ∧ r.f0 < ((2 ^ p : Nat) : Int) ∧ 1 ≤ r.f1 ∧ r.f1 ≤ 65 - (p : Int) ∧ regsOk p r.f0 rs = true := by
  simp only [regsOk, Bool.and_eq_true, decide_eq_true_eq] at h
  exact ⟨h.1.1.1.1, h.1.1.1.2, h.1.1.2, h.1.2, h.2⟩
theorem pow_p {p : Nat} (h : p ≤ 16) : 2 ^ p ≤ 65536 := Nat.pow_le_pow_right (by omega) h
theorem shl_p {p : Nat} (h : p ≤ 16) : shl .i64 1 (p : Int) = ((2 ^ p : Nat) : Int) := by
  unfold shl
  rw [Int.toNat_natCast, Nat.min_eq_left (by show _ ≤ 64; omega), Int.one_mul, show (2 : Int) ^ p = ((2 ^ p : Nat) : Int) by rw [Int.natCast_pow]; rfl]
  have hT := pow_p h
  generalize 2 ^ p = T at hT
  exact (i64_w _).trans (w64 (by omega) (by omega))
theorem check_loop (p : Nat) (hp : p ≤ 16) (l : List S32) (hl : l.length < 4611686018427387904) (l' : List S32) : ∀ (d i : Nat) (last : Int), i + d = l.length → regsOk p last (l.drop i) = true →
    Ev (fun k => hll_Check.l0 k last l (l.length : Int) (i : Int) (p : Int) l') 0 := by
  intro d
  induction d with
  | zero =>
    intro i last hi _
    refine Ev.step (f := fun _ => some 0) (fun k => ?_) (Ev.now _)
    simp only [hll_Check.l0]
    rw [if_neg (by omega)]
  | succ d ih =>
    intro i last hi hok
    have hlt : i < l.length := by omega
    rw [drop32 l i hlt] at hok
    obtain ⟨o1, o2, o3, o4, o5⟩ := regsOk_cons hok
    refine Ev.step (f := fun k => hll_Check.l0 k (rd_T32 l (i : Int)).f0 l (l.length : Int) ((i + 1 : Nat) : Int) (p : Int) l') (fun k => ?_) (ih (i + 1) _ (by omega) o5)
    simp only [hll_Check.l0]
    rw [shl_p hp, w64 (x := 65 - (p : Int)) (by omega) (by omega), w64 (x := (i : Int) + 1) (by omega) (by omega)]
    generalize ((2 ^ p : Nat) : Int) = T at o2
    rw [if_pos (by omega), if_pos (by omega), if_pos (by omega), if_neg (by omega), if_pos (by omega), if_neg (by omega), if_neg (by omega), if_neg (by omega)]
    rfl
theorem check_ev (p : Nat) (h4 : 4 ≤ p) (hp : p ≤ 16) (l : List S32) (hl : l.length < 4611686018427387904) (hok : regsOk p (-1) l = true) : Ev (fun k => hll_Check.f k (p : Int) l) 0 := by
  have h := check_loop p hp l hl l l.length 0 (-1) (by omega) (by rwa [List.drop_zero])
  refine Ev.congr (f := fun k => hll_Check.j0 k false (p : Int) l) (fun k => ?_) (Ev.step (f := fun k => hll_Check.l0 k (-1) l (l.length : Int) 0 (p : Int) l) (fun k => ?_) h)
  · simp only [hll_Check.f]
    rw [if_neg (by omega), decide_eq_false (by omega)]
  · simp only [hll_Check.j0]
    rfl

def sparseT : Int → List S32 → List Int
  | _, [] => []
  | last, r :: rs => numB (r.f0 - last - 1).toNat ++ [r.f1] ++ sparseT r.f0 rs
theorem sparse_loop (p : Nat) (h4 : 4 ≤ p) (hp : p ≤ 16) (l : List S32) (hl : l.length ≤ 65536) : ∀ (d i : Nat) (last : Int) (x5 : List Int), i + d = l.length → -1 ≤ last → x5.length + 11 * d < 140737488355000 → regsOk p last (l.drop i) = true →
    Ev (fun k => dense_Sparse.l0 k x5 last l (l.length : Int) (i : Int)) (x5 ++ sparseT last (l.drop i), 0) := by
  intro d
  induction d with
  | zero =>
    intro i last x5 hi _ _ _
    rw [List.drop_eq_nil_of_le (by omega)]
    refine Ev.step (f := fun _ => some (x5 ++ sparseT last [], 0)) (fun k => ?_) (Ev.now _)
    simp only [dense_Sparse.l0]
    rw [if_neg (by omega)]
    simp [sparseT]
  | succ d ih =>
    intro i last x5 hi hlast hx hok
    have hlt : i < l.length := by omega
    rw [drop32 l i hlt] at hok ⊢
    obtain ⟨o1, o2, o3, o4, o5⟩ := regsOk_cons hok
    have hT := pow_p hp
    generalize 2 ^ p = T at hT o2
    generalize hr : rd_T32 l (i : Int) = r at *
    have hn := numB_len 10 (r.f0 - last - 1).toNat (by omega) (by omega)
    have hnum := number_ev (r.f0 - last - 1).toNat [] (by omega) (by simp)
    have e1 : IntKind.u64.wrap (wrap64 (wrap64 (r.f0 - last) - 1)) = ((r.f0 - last - 1).toNat : Int) := by
      rw [w64 (x := r.f0 - last) (by omega) (by omega), w64 (by omega) (by omega), wu64 (by omega) (by omega)]
      omega
    have e2 : r.f1 % 256 = r.f1 := by omega
    have hrec := ih (i + 1) r.f0 (x5 ++ numB (r.f0 - last - 1).toNat ++ [r.f1]) (by omega) (by omega) (by simp only [List.length_append, List.length_cons, List.length_nil]; omega) o5
    have er : x5 ++ numB (r.f0 - last - 1).toNat ++ [r.f1] ++ sparseT r.f0 (l.drop (i + 1)) = x5 ++ sparseT last (r :: l.drop (i + 1)) := by simp [sparseT]
    rw [er] at hrec
    refine Ev.step (f := fun k => (octet_Number.f k [] ((r.f0 - last - 1).toNat : Int)).bind fun t => if x5.length + t.length < 140737488355328 then (if (x5 ++ t).length + 1 < 140737488355328 then dense_Sparse.l0 k (x5 ++ t ++ [r.f1]) r.f0 l (l.length : Int) ((i + 1 : Nat) : Int) else none) else none) (fun k => ?_) ?_
    · simp only [dense_Sparse.l0]
      rw [if_pos (by omega), if_pos (by omega), if_pos (by omega), hr, e1, e2, w64 (x := (i : Int) + 1) (by omega) (by omega)]
      rfl
    · refine Ev.bind hnum ?_
      refine Ev.congr (f := fun k => dense_Sparse.l0 k (x5 ++ numB (r.f0 - last - 1).toNat ++ [r.f1]) r.f0 l (l.length : Int) ((i + 1 : Nat) : Int)) (fun k => ?_) hrec
      rw [List.nil_append, if_pos (by omega), if_pos (by simp only [List.length_append, List.length_cons, List.length_nil]; omega)]
def sparseB (p : Nat) (l : List S32) : List Int := [(p : Int), 0] ++ numB l.length ++ sparseT (-1) l
theorem sparse_ev (p : Nat) (h4 : 4 ≤ p) (hp : p ≤ 16) (l : List S32) (hl : l.length ≤ 65536) (hok : regsOk p (-1) l = true) : Ev (fun k => dense_Sparse.f k (p : Int) l) (sparseB p l, 0) := by
  have hn := numB_len 10 l.length (by omega) (by omega)
  have h := sparse_loop p h4 hp l hl l.length 0 (-1) ([(p : Int), 0] ++ numB l.length) (by omega) (by omega) (by simp; omega) (by rwa [List.drop_zero])
  rw [List.drop_zero] at h
  have hnum := number_ev l.length [(p : Int), 0] (by omega) (by simp)
  have e1 : IntKind.u64.wrap (l.length : Int) = (l.length : Int) := wu64 (by omega) (by omega)
  have e2 : (p : Int) % 256 = p := by omega
  simp only [dense_Sparse.f]
  refine Ev.bind (check_ev p h4 hp l (by omega) hok) ?_
  refine Ev.congr (f := fun k => (octet_Number.f k [(p : Int), 0] (l.length : Int)).bind fun t => dense_Sparse.l0 k t (-1) l (l.length : Int) 0) (fun k => ?_) ?_
  · rw [if_pos rfl, e1, e2]
  · exact Ev.bind hnum h
/-! ### Pack, Dense, Bytes -/
theorem or_shift32 (w r i : Nat) (hw : w < 2 ^ i) (h32 : 2 ^ i * r + w < 4294967296) : Go.bits .or .u32 (w : Int) (((2 ^ i * r : Nat)) : Int) = ((2 ^ i * r + w : Nat) : Int) := by
  have e1 : (BitVec.ofInt 32 (w : Int)).toNat = w := by rw [BitVec.toNat_ofInt]; omega
  have e2 : (BitVec.ofInt 32 ((2 ^ i * r : Nat) : Int)).toNat = 2 ^ i * r := by
    rw [BitVec.toNat_ofInt]
    generalize 2 ^ i * r = T at *
    omega
  have e3 : (BitVec.ofInt 32 (w : Int) ||| BitVec.ofInt 32 ((2 ^ i * r : Nat) : Int)).toNat = 2 ^ i * r + w := by
    rw [BitVec.toNat_or, e1, e2, Nat.or_comm]
    exact (Nat.two_pow_add_eq_or_of_lt hw r).symm
  show IntKind.u32.wrap ((BitVec.ofInt 32 (w : Int) ||| BitVec.ofInt 32 ((2 ^ i * r : Nat) : Int)).toNat : Int) = _
  rw [e3]
  generalize 2 ^ i * r + w = T at *
  have e4 : IntKind.u32.wrap (T : Int) = (T : Int) % 4294967296 := by
    unfold IntKind.wrap
    simp [show IntKind.u32.signed = false from rfl, show IntKind.u32.bits = 32 from rfl]
  rw [e4]
  omega
theorem shl_u32 (r i : Nat) (hi : i ≤ 18) (h : r < 64) : shl .u32 (r : Int) (i : Int) = ((2 ^ i * r : Nat) : Int) := by
  unfold shl
  rw [Int.toNat_natCast, Nat.min_eq_left (by show _ ≤ 32; omega), show (r : Int) * (2 : Int) ^ i = ((2 ^ i * r : Nat) : Int) by rw [Int.natCast_mul, Int.natCast_pow, Int.mul_comm]; rfl]
  have hT : 2 ^ i * r ≤ 262144 * 64 := Nat.mul_le_mul (Nat.le_trans (Nat.pow_le_pow_right (by omega) hi) (by decide)) (by omega)
  generalize 2 ^ i * r = T at hT
  have e4 : IntKind.u32.wrap (T : Int) = (T : Int) % 4294967296 := by
    unfold IntKind.wrap
    simp [show IntKind.u32.signed = false from rfl, show IntKind.u32.bits = 32 from rfl]
  rw [e4]
  omega
def packB : List Nat → List Int
  | a :: b :: c :: d :: r => [((262144 * d + (4096 * c + (64 * b + a)) : Nat) : Int) % 256, ((262144 * d + (4096 * c + (64 * b + a)) : Nat) : Int) / 256 % 256, ((262144 * d + (4096 * c + (64 * b + a)) : Nat) : Int) / 65536 % 256] ++ packB r
  | _ => []
def asInt (l : List Nat) : List Int := l.map (fun x : Nat => (x : Int))
theorem pack_one (x0 : List Int) (x4 y : List Int) (w r i : Nat) (hi : i < 4) (hr : rd y (i : Int) = (r : Int)) (hy : y.length = 4) (hr64 : r < 64) (hw : w < 2 ^ (6 * i)) :
    ∀ (res : List Int × Int), Ev (fun k => dense_Pack.l1 k x0 x4 ((2 ^ (6 * i) * r + w : Nat) : Int) y 4 ((i + 1 : Nat) : Int)) res → Ev (fun k => dense_Pack.l1 k x0 x4 (w : Int) y 4 (i : Int)) res := by
  intro res h
  refine Ev.step (f := fun k => dense_Pack.l1 k x0 x4 ((2 ^ (6 * i) * r + w : Nat) : Int) y 4 ((i + 1 : Nat) : Int)) (fun k => ?_) h
  have e6 : wrap64 (6 * (i : Int)) = ((6 * i : Nat) : Int) := by rw [w64 (by omega) (by omega)]; omega
  have e7 : wrap64 ((i : Int) + 1) = ((i + 1 : Nat) : Int) := by rw [w64 (by omega) (by omega)]; omega
  have e8 : (r : Int) % 4294967296 = (r : Int) := by omega
  have hb : 2 ^ (6 * i) * r + w < 4294967296 := by
    have h1 : 2 ^ (6 * i) ≤ 262144 := Nat.le_trans (Nat.pow_le_pow_right (by omega) (show 6 * i ≤ 18 by omega)) (by decide)
    have h2 : 2 ^ (6 * i) * r ≤ 262144 * 63 := Nat.mul_le_mul h1 (by omega)
    omega
  simp only [dense_Pack.l1]
  rw [if_pos (by omega), if_pos (by omega), if_pos (by rw [hy]; omega), hr, if_neg (by omega), if_neg (by omega), e6, if_pos (by omega), e7, e8, shl_u32 r (6 * i) (by omega) hr64, or_shift32 w r (6 * i) hw hb]
theorem pack_loop : ∀ (m : Nat) (l : List Nat) (x4 : List Int), l.length = 4 * m → (∀ x ∈ l, x < 64) → x4.length + 4 * m < 140737488355000 → Ev (fun k => dense_Pack.l0 k (asInt l) x4) (x4 ++ packB l, 0) := by
  intro m
  induction m with
  | zero =>
    intro l x4 hl _ _
    obtain rfl := List.eq_nil_of_length_eq_zero (by omega : l.length = 0)
    refine Ev.step (f := fun _ => some (x4 ++ packB [], 0)) (fun k => ?_) (Ev.now _)
    simp only [dense_Pack.l0, asInt, List.map_nil, List.length_nil]
    rw [if_neg (by omega)]
    simp [packB]
  | succ m ih =>
    intro l x4 hl hx hb
    match l, hl, hx with
    | a :: b :: c :: d :: r, hl, hx =>
      have ha : a < 64 := hx a (by simp)
      have hb2 : b < 64 := hx b (by simp)
      have hc : c < 64 := hx c (by simp)
      have hd : d < 64 := hx d (by simp)
      have hlr : r.length = 4 * m := by simp at hl; omega
      have hrec := ih r (x4 ++ [((262144 * d + (4096 * c + (64 * b + a)) : Nat) : Int) % 256, ((262144 * d + (4096 * c + (64 * b + a)) : Nat) : Int) / 256 % 256, ((262144 * d + (4096 * c + (64 * b + a)) : Nat) : Int) / 65536 % 256]) hlr (fun x h => hx x (by simp [h])) (by simp only [List.length_append, List.length_cons, List.length_nil]; omega)
      rw [List.append_assoc] at hrec
      have hlen : (asInt (a :: b :: c :: d :: r)).length = 4 + 4 * m := by simp [asInt]; omega
      have hE : Ev (fun k => dense_Pack.l1 k (asInt (a :: b :: c :: d :: r)) x4 ((262144 * d + (4096 * c + (64 * b + a)) : Nat) : Int) [(a : Int), b, c, d] 4 ((4 : Nat) : Int)) (x4 ++ packB (a :: b :: c :: d :: r), 0) := by
        refine Ev.step (f := fun k => dense_Pack.l0 k (asInt r) (x4 ++ [((262144 * d + (4096 * c + (64 * b + a)) : Nat) : Int) % 256, ((262144 * d + (4096 * c + (64 * b + a)) : Nat) : Int) / 256 % 256, ((262144 * d + (4096 * c + (64 * b + a)) : Nat) : Int) / 65536 % 256])) (fun k => ?_) hrec
        simp only [dense_Pack.l1, Option.bind_some]
        rw [if_neg (by omega), if_pos (by simp only [List.length_cons, List.length_nil]; omega), hlen, if_pos (by omega)]
        rfl
      refine Ev.step (f := fun k => dense_Pack.l1 k (asInt (a :: b :: c :: d :: r)) x4 ((0 : Nat) : Int) [(a : Int), b, c, d] 4 ((0 : Nat) : Int)) (fun k => ?_) ?_
      · simp only [dense_Pack.l0, Option.bind_some]
        rw [hlen, if_pos (by omega), if_pos (by omega)]
        rfl
      · refine pack_one _ _ _ 0 a 0 (by omega) rfl rfl ha (by decide) _ ?_
        refine pack_one _ _ _ _ b 1 (by omega) rfl rfl hb2 (by omega) _ ?_
        refine pack_one _ _ _ _ c 2 (by omega) rfl rfl hc (by omega) _ ?_
        refine pack_one _ _ _ _ d 3 (by omega) rfl rfl hd (by omega) _ ?_
        have e : 2 ^ (6 * 3) * d + (2 ^ (6 * 2) * c + (2 ^ (6 * 1) * b + (2 ^ (6 * 0) * a + 0))) = 262144 * d + (4096 * c + (64 * b + a)) := by omega
        rw [e]
        exact hE
theorem packB_len : ∀ (m : Nat) (l : List Nat), l.length = 4 * m → (packB l).length = 3 * m
  | 0, l, h => by
    obtain rfl := List.eq_nil_of_length_eq_zero (by omega : l.length = 0)
    rfl
  | m + 1, a :: b :: c :: d :: r, h => by
    have := packB_len m r (by simp at h; omega)
    simp only [packB, List.length_append, List.length_cons, List.length_nil, this]
    omega
theorem pack_ev (m : Nat) (l : List Nat) (hl : l.length = 4 * m) (hm : m ≤ 65536) (hx : ∀ x ∈ l, x < 64) : Ev (fun k => dense_Pack.f k (asInt l)) (packB l, 0) := by
  have h := pack_loop m l [] hl hx (by simp; omega)
  rw [List.nil_append] at h
  refine Ev.congr (f := fun k => dense_Pack.l0 k (asInt l) []) (fun k => ?_) h
  simp only [dense_Pack.f]
  rw [if_pos (by simp [asInt]; omega)]

/-- The ranks, one for each register. -/
def ranksOf (x : List Nat) (l : List S32) : List Nat := l.foldl (fun x r => x.set r.f0.toNat r.f1.toNat) x
theorem ranksOf_len (l : List S32) : ∀ x : List Nat, (ranksOf x l).length = x.length := by
  induction l with
  | nil => intro x; rfl
  | cons r rs ih => intro x; show (ranksOf (x.set _ _) rs).length = _; rw [ih, List.length_set]
theorem ranksOf_lt (p : Nat) (h4 : 4 ≤ p) : ∀ (l : List S32) (last : Int) (x : List Nat), regsOk p last l = true → (∀ y ∈ x, y < 64) → ∀ y ∈ ranksOf x l, y < 64 := by
  intro l
  induction l with
  | nil => intro _ x _ h; exact h
  | cons r rs ih =>
    intro last x hok h
    obtain ⟨o1, o2, o3, o4, o5⟩ := regsOk_cons hok
    refine ih r.f0 (x.set r.f0.toNat r.f1.toNat) o5 ?_
    intro y hy
    rcases List.mem_or_eq_of_mem_set hy with h1 | h1
    · exact h y h1
    · omega
def denseB (p : Nat) (l : List S32) : List Int := [(p : Int), 1] ++ packB (ranksOf (List.replicate (2 ^ p) 0) l)
theorem pow_four {p : Nat} (h4 : 4 ≤ p) : 2 ^ p = 4 * 2 ^ (p - 2) := by
  rw [show (4 : Nat) = 2 ^ 2 from rfl, ← Nat.pow_add, show 2 + (p - 2) = p by omega]
theorem asInt_set (x : List Nat) (i v : Nat) : asInt (x.set i v) = (asInt x).set i (v : Int) := by unfold asInt; rw [List.map_set]
theorem dense_loop (p : Nat) (h4 : 4 ≤ p) (hp : p ≤ 16) (l : List S32) (hl : l.length ≤ 65536) (l' : List S32) : ∀ (d i : Nat) (last : Int) (x : List Nat), i + d = l.length → -1 ≤ last → x.length = 2 ^ p → (∀ y ∈ x, y < 64) → regsOk p last (l.drop i) = true →
    Ev (fun k => dense_Dense.l0 k (asInt x) l (l.length : Int) (i : Int) (p : Int) l') ([(p : Int), 1] ++ packB (ranksOf x (l.drop i)), 0) := by
  intro d
  induction d with
  | zero =>
    intro i last x hi _ hx hy _
    rw [List.drop_eq_nil_of_le (by omega)]
    have hm := pow_four h4
    have hq : 2 ^ (p - 2) ≤ 16384 := Nat.le_trans (Nat.pow_le_pow_right (by omega) (show p - 2 ≤ 14 by omega)) (by decide)
    have hpk := pack_ev (2 ^ (p - 2)) x (by omega) (by omega) hy
    have hpl := packB_len (2 ^ (p - 2)) x (by omega)
    have e2 : (p : Int) % 256 = p := by omega
    refine Ev.step (f := fun k => (dense_Pack.f k (asInt x)).bind fun bt => if bt.2 = 0 then (if 2 + bt.1.length < 140737488355328 then some ([(p : Int), 1] ++ bt.1, 0) else none) else some ([], bt.2)) (fun k => ?_) ?_
    · simp only [dense_Dense.l0, Option.bind_some]
      rw [if_neg (by omega), e2]
      rfl
    · refine Ev.bind hpk ?_
      refine Ev.congr (f := fun _ => some ([(p : Int), 1] ++ packB (ranksOf x []), 0)) (fun k => ?_) (Ev.now _)
      rw [if_pos rfl, hpl, if_pos (by omega)]
      rfl
  | succ d ih =>
    intro i last x hi hlast hx hy hok
    have hlt : i < l.length := by omega
    rw [drop32 l i hlt] at hok ⊢
    have hall := hok
    obtain ⟨o1, o2, o3, o4, o5⟩ := regsOk_cons hok
    generalize hr : rd_T32 l (i : Int) = r at *
    have hxs : (x.set r.f0.toNat r.f1.toNat).length = 2 ^ p := by rw [List.length_set]; exact hx
    have hys : ∀ y ∈ x.set r.f0.toNat r.f1.toNat, y < 64 := by
      intro y hy1
      rcases List.mem_or_eq_of_mem_set hy1 with h1 | h1
      · exact hy y h1
      · omega
    have hrec := ih (i + 1) r.f0 _ (by omega) (by omega) hxs hys o5
    refine Ev.step (f := fun k => dense_Dense.l0 k (asInt (x.set r.f0.toNat r.f1.toNat)) l (l.length : Int) ((i + 1 : Nat) : Int) (p : Int) l') (fun k => ?_) hrec
    have hal : (asInt x).length = x.length := by simp [asInt]
    simp only [dense_Dense.l0]
    rw [if_pos (by omega), if_pos (by omega), if_pos (by omega), hr, if_pos (by omega), if_pos (by rw [hal, hx]; omega), w64 (x := (i : Int) + 1) (by omega) (by omega), asInt_set, Int.toNat_of_nonneg (by omega : 0 ≤ r.f1)]
    rfl
theorem dense_ev (p : Nat) (h4 : 4 ≤ p) (hp : p ≤ 16) (l : List S32) (hl : l.length ≤ 65536) (hok : regsOk p (-1) l = true) : Ev (fun k => dense_Dense.f k (p : Int) l) (denseB p l, 0) := by
  have h := dense_loop p h4 hp l hl l l.length 0 (-1) (List.replicate (2 ^ p) 0) (by omega) (by omega) (by simp) (by intro y hy; have := List.eq_of_mem_replicate hy; omega) (by rwa [List.drop_zero])
  rw [List.drop_zero] at h
  simp only [dense_Dense.f]
  refine Ev.bind (check_ev p h4 hp l (by omega) hok) ?_
  refine Ev.congr (f := fun k => dense_Dense.l0 k (asInt (List.replicate (2 ^ p) 0)) l (l.length : Int) 0 (p : Int) l) (fun k => ?_) h
  have hT := pow_p hp
  have e : asInt (List.replicate (2 ^ p) 0) = List.replicate (2 ^ p) (0 : Int) := by unfold asInt; rw [List.map_replicate]; rfl
  rw [shl_p hp, e, Int.toNat_natCast]
  generalize 2 ^ p = T at hT
  rw [if_pos rfl, if_pos (by omega), if_pos (by omega), if_pos (by omega)]
def bytesB (p : Nat) (l : List S32) : List Int := if (sparseB p l).length < (denseB p l).length then sparseB p l else denseB p l
theorem bytes_ev (p : Nat) (h4 : 4 ≤ p) (hp : p ≤ 16) (l : List S32) (hl : l.length ≤ 65536) (hok : regsOk p (-1) l = true) : Ev (fun k => dense_Bytes.f k (p : Int) l) (bytesB p l, 0) := by
  simp only [dense_Bytes.f]
  refine Ev.bind (sparse_ev p h4 hp l hl hok) ?_
  refine Ev.congr (f := fun k => (dense_Dense.f k (p : Int) l).bind fun bt => if bt.2 = 0 then (if ((sparseB p l).length : Int) < (bt.1.length : Int) then some (sparseB p l, 0) else some (bt.1, 0)) else some ([], bt.2)) (fun k => ?_) (Ev.bind (dense_ev p h4 hp l hl hok) ?_)
  · rw [if_pos rfl]
  · refine Ev.congr (f := fun _ => some (bytesB p l, 0)) (fun k => ?_) (Ev.now _)
    rw [if_pos rfl]
    unfold bytesB
    show (if ((sparseB p l).length : Int) < ((denseB p l).length : Int) then _ else _) = _
    by_cases h : (sparseB p l).length < (denseB p l).length
    · rw [if_pos h, if_pos (by omega)]
    · rw [if_neg h, if_neg (by omega)]
end Go.Proofs.Ytbclnjinpcfpjaa.H
