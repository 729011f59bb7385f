/- unpack -/
import Derived.Test.YtbclnjinpcfpjaaS1
import Derived.Test.YtbclnjinpcfpjaaH5
namespace Go.Proofs.Ytbclnjinpcfpjaa.H
open Go.RowKit Go.Proofs.YtbclnjinpcfpjaaW.PrintWords Go.Proofs.YtbclnjinpcfpjaaW.PrintLast
set_option linter.unusedVariables false
set_option linter.unusedSimpArgs false
set_option linter.unusedSectionVars false
/-! ### Unpack, of any bytes -/
def unpackN : List Nat → List Int
  | a :: b :: c :: r => asInt [(65536 * c + (256 * b + a)) % 64, (65536 * c + (256 * b + a)) / 64 % 64, (65536 * c + (256 * b + a)) / 64 / 64 % 64, (65536 * c + (256 * b + a)) / 64 / 64 / 64 % 64] ++ unpackN r
  | _ => []
theorem and_63 (w : Nat) (h : w < 4294967296) : Go.bits .and .u32 (w : Int) 63 = ((w % 64 : Nat) : Int) := by
  have e1 : (BitVec.ofInt 32 (w : Int)).toNat = w := by rw [BitVec.toNat_ofInt]; omega
  have e2 : (BitVec.ofInt 32 (63 : Int)).toNat = 63 := by decide
  have e3 : (BitVec.ofInt 32 (w : Int) &&& BitVec.ofInt 32 (63 : Int)).toNat = w % 64 := by
    rw [BitVec.toNat_and, e1, e2]
    exact Nat.and_two_pow_sub_one_eq_mod w 6
  show IntKind.u32.wrap ((BitVec.ofInt 32 (w : Int) &&& BitVec.ofInt 32 (63 : Int)).toNat : Int) = _
  rw [e3]
  have e4 : IntKind.u32.wrap ((w % 64 : Nat) : Int) = ((w % 64 : Nat) : Int) % 4294967296 := by
    unfold IntKind.wrap
    simp [show IntKind.u32.signed = false from rfl, show IntKind.u32.bits = 32 from rfl]
  rw [e4]
  omega
theorem word3 (a b c : Nat) (ha : a < 256) (hb : b < 256) (hc : c < 256) : Go.bits .or .u32 (Go.bits .or .u32 ((a : Int) % 4294967296) ((((b : Int) % 4294967296) * 256) % 4294967296)) ((((c : Int) % 4294967296) * 65536) % 4294967296) = ((65536 * c + (256 * b + a) : Nat) : Int) := by
  rw [show (a : Int) % 4294967296 = (a : Int) by omega, show (((b : Int) % 4294967296) * 256) % 4294967296 = ((2 ^ 8 * b : Nat) : Int) by omega, show (((c : Int) % 4294967296) * 65536) % 4294967296 = ((2 ^ 16 * c : Nat) : Int) by omega, or_shift32 a b 8 (by omega) (by omega), or_shift32 (2 ^ 8 * b + a) c 16 (by omega) (by omega)]
theorem unp_one (x0 x2 : List Int) (w i : Nat) (hi : i < 4) (hw : w < 4294967296) (hx : x2.length < 17592186044416) (res : List Int) (h : Ev (fun k => dense_Unpack.l1 k x0 (x2 ++ [((w % 64 : Nat) : Int)]) ((w / 64 : Nat) : Int) ((i + 1 : Nat) : Int)) res) : Ev (fun k => dense_Unpack.l1 k x0 x2 (w : Int) (i : Int)) res := by
  refine Ev.step (fun k => ?_) h
  simp only [dense_Unpack.l1]
  rw [if_pos (by omega), if_pos hx, and_63 w hw, w64 (x := ((w % 64 : Nat) : Int)) (by omega) (by omega), w64 (x := (i : Int) + 1) (by omega) (by omega)]
  rfl
theorem unp_end (l : List Int) (x2 : List Int) (h : l.length < 3) : Ev (fun k => dense_Unpack.l0 k l x2) x2 := by
  refine Ev.step (f := fun _ => some x2) (fun k => ?_) (Ev.now _)
  simp only [dense_Unpack.l0]
  rw [if_neg (by omega)]
theorem unpack_loop : ∀ (m : Nat) (l : List Nat) (x2 : List Int), l.length ≤ 3 * m + 2 → (∀ x ∈ l, x < 256) → x2.length + 4 * m < 17592186044000 → Ev (fun k => dense_Unpack.l0 k (asInt l) x2) (x2 ++ unpackN l) := by
  intro m
  induction m with
  | zero =>
    intro l x2 hl _ _
    have h := unp_end (asInt l) x2 (by simp [asInt]; omega)
    match l, hl, h with
    | [], _, h => show Ev _ (x2 ++ []); rw [List.append_nil]; exact h
    | [_], _, h => show Ev _ (x2 ++ []); rw [List.append_nil]; exact h
    | [_, _], _, h => show Ev _ (x2 ++ []); rw [List.append_nil]; exact h
    | _ :: _ :: _ :: _, hl, _ => simp at hl
  | succ m ih =>
    intro l x2 hl hx hb
    match l, hl, hx with
    | [], _, _ => show Ev _ (x2 ++ []); rw [List.append_nil]; exact unp_end _ _ (by simp [asInt])
    | [_], _, _ => show Ev _ (x2 ++ []); rw [List.append_nil]; exact unp_end _ _ (by simp [asInt])
    | [_, _], _, _ => show Ev _ (x2 ++ []); rw [List.append_nil]; exact unp_end _ _ (by simp [asInt])
    | a :: b :: c :: r, hl, hx =>
      have ha : a < 256 := hx a (by simp)
      have hb' : b < 256 := hx b (by simp)
      have hc : c < 256 := hx c (by simp)
      have hw : 65536 * c + (256 * b + a) < 16777216 := by omega
      have e0 : rd (asInt (a :: b :: c :: r)) 0 = (a : Int) := rfl
      have e1 : rd (asInt (a :: b :: c :: r)) 1 = (b : Int) := rfl
      have e2 : rd (asInt (a :: b :: c :: r)) 2 = (c : Int) := rfl
      have hlen : ((asInt (a :: b :: c :: r)).length : Int) = (r.length : Int) + 3 := by simp [asInt]; omega
      have hdr : (asInt (a :: b :: c :: r)).drop 3 = asInt r := rfl
      refine Ev.step (f := fun k => dense_Unpack.l1 k (asInt (a :: b :: c :: r)) x2 ((65536 * c + (256 * b + a) : Nat) : Int) ((0 : Nat) : Int)) (fun k => ?_) ?_
      · simp only [dense_Unpack.l0]
        rw [e0, e1, e2, hlen, if_pos (by omega), if_pos (by omega), if_pos (by omega), if_pos (by omega), word3 a b c ha hb' hc]
        rfl
      · have hd := ih r (x2 ++ asInt [(65536 * c + (256 * b + a)) % 64, (65536 * c + (256 * b + a)) / 64 % 64, (65536 * c + (256 * b + a)) / 64 / 64 % 64, (65536 * c + (256 * b + a)) / 64 / 64 / 64 % 64]) (by simp at hl; omega) (fun x h => hx x (by simp [h])) (by simp [asInt]; omega)
        rw [unpackN, ← List.append_assoc]
        generalize 65536 * c + (256 * b + a) = w at hd hw ⊢
        refine unp_one _ _ w 0 (by omega) (by omega) (by omega) _ (unp_one _ _ (w / 64) 1 (by omega) (by omega) (by simp; omega) _ (unp_one _ _ (w / 64 / 64) 2 (by omega) (by omega) (by simp; omega) _ (unp_one _ _ (w / 64 / 64 / 64) 3 (by omega) (by omega) (by simp; omega) _ ?_)))
        refine Ev.step (fun k => ?_) hd
        simp only [dense_Unpack.l1]
        rw [if_neg (by omega), if_pos (by rw [hlen]; omega), hdr]
        simp only [List.append_assoc, List.cons_append, List.nil_append]
        rfl
theorem unpack_ev (l : List Nat) (hl : l.length ≤ 1000000) (hx : ∀ x ∈ l, x < 256) : Ev (fun k => dense_Unpack.f k (asInt l)) (unpackN l) := by
  have h := unpack_loop l.length l [] (by omega) hx (by simp; omega)
  rw [List.nil_append] at h
  exact Ev.congr (fun k => by unfold dense_Unpack.f; rfl) h
theorem unpackN_len : ∀ (m : Nat) (l : List Nat), l.length ≤ m → (unpackN l).length ≤ 2 * l.length
  | _, [], _ => by simp [unpackN]
  | _, [_], _ => by simp [unpackN]
  | _, [_, _], _ => by simp [unpackN]
  | 0, _ :: _ :: _ :: _, h => by simp at h
  | m + 1, a :: b :: c :: r, h => by
    have := unpackN_len m r (by simp at h; omega)
    rw [unpackN]
    simp [asInt]
    omega
theorem unpackN_nat : ∀ (m : Nat) (l : List Nat), l.length ≤ m → ∃ t : List Nat, unpackN l = asInt t ∧ ∀ x ∈ t, x < 64
  | _, [], _ => ⟨[], rfl, by simp⟩
  | _, [_], _ => ⟨[], rfl, by simp⟩
  | _, [_, _], _ => ⟨[], rfl, by simp⟩
  | 0, _ :: _ :: _ :: _, h => by simp at h
  | m + 1, a :: b :: c :: r, h => by
    obtain ⟨t, h1, h2⟩ := unpackN_nat m r (by simp at h; omega)
    refine ⟨[(65536 * c + (256 * b + a)) % 64, (65536 * c + (256 * b + a)) / 64 % 64, (65536 * c + (256 * b + a)) / 64 / 64 % 64, (65536 * c + (256 * b + a)) / 64 / 64 / 64 % 64] ++ t, ?_, ?_⟩
    · rw [unpackN, h1]; simp only [asInt, List.map_append]
    · intro x hx
      rw [List.mem_append] at hx
      rcases hx with hx | hx
      · simp only [List.mem_cons, List.not_mem_nil, or_false] at hx
        omega
      · exact h2 x hx
/-! ### What is packed is unpacked -/
def packN : List Nat → List Nat
  | a :: b :: c :: d :: r => [(262144 * d + (4096 * c + (64 * b + a))) % 256, (262144 * d + (4096 * c + (64 * b + a))) / 256 % 256, (262144 * d + (4096 * c + (64 * b + a))) / 65536 % 256] ++ packN r
  | _ => []
theorem packB_N : ∀ (m : Nat) (l : List Nat), l.length = 4 * m → packB l = asInt (packN l)
  | 0, l, h => by
    obtain rfl := List.eq_nil_of_length_eq_zero (by omega : l.length = 0)
    rfl
  | m + 1, a :: b :: c :: d :: r, h => by
    have := packB_N m r (by simp at h; omega)
    rw [packB, packN, this]
    simp only [asInt, List.map_append, List.map_cons, List.map_nil]
    congr 1
theorem packN_lt : ∀ (m : Nat) (l : List Nat), l.length = 4 * m → ∀ x ∈ packN l, x < 256
  | 0, l, h => by
    obtain rfl := List.eq_nil_of_length_eq_zero (by omega : l.length = 0)
    simp [packN]
  | m + 1, a :: b :: c :: d :: r, h => by
    have := packN_lt m r (by simp at h; omega)
    intro x hx
    rw [packN, List.mem_append] at hx
    rcases hx with hx | hx
    · simp only [List.mem_cons, List.not_mem_nil, or_false] at hx
      omega
    · exact this x hx
theorem unpack_packN : ∀ (m : Nat) (l : List Nat), l.length = 4 * m → (∀ x ∈ l, x < 64) → unpackN (packN l) = asInt l
  | 0, l, h, _ => by
    obtain rfl := List.eq_nil_of_length_eq_zero (by omega : l.length = 0)
    rfl
  | m + 1, a :: b :: c :: d :: r, h, hx => by
    have ih := unpack_packN m r (by simp at h; omega) (fun x h => hx x (by simp [h]))
    have ha : a < 64 := hx a (by simp)
    have hb : b < 64 := hx b (by simp)
    have hc : c < 64 := hx c (by simp)
    have hd : d < 64 := hx d (by simp)
    have e : 65536 * ((262144 * d + (4096 * c + (64 * b + a))) / 65536 % 256) + (256 * ((262144 * d + (4096 * c + (64 * b + a))) / 256 % 256) + (262144 * d + (4096 * c + (64 * b + a))) % 256) = 262144 * d + (4096 * c + (64 * b + a)) := by omega
    rw [packN]
    simp only [List.cons_append, List.nil_append]
    rw [unpackN, e, ih]
    rw [show (262144 * d + (4096 * c + (64 * b + a))) % 64 = a by omega, show (262144 * d + (4096 * c + (64 * b + a))) / 64 % 64 = b by omega, show (262144 * d + (4096 * c + (64 * b + a))) / 64 / 64 % 64 = c by omega, show (262144 * d + (4096 * c + (64 * b + a))) / 64 / 64 / 64 % 64 = d by omega]
    rfl
/-! ### Pack, of any ranks -/
def BadR (x : Int) : Prop := x < 0 ∨ 63 < x
theorem pack_chunk (x0 x4 y : List Int) (hy : y.length = 4) (hlen : 4 ≤ x0.length) (hx4 : x4.length < 140737488355000) : ∀ (d i w : Nat), i + d = 4 → w < 2 ^ (6 * i) →
    ((∃ j : Nat, i ≤ j ∧ j < 4 ∧ BadR (rd y (j : Int))) ∨ ∀ z : List Int, z.length = 3 → Ev (fun k => dense_Pack.l0 k (x0.drop 4) (x4 ++ z)) ([], 2)) →
    Ev (fun k => dense_Pack.l1 k x0 x4 (w : Int) y 4 (i : Int)) ([], 2) := by
  intro d
  induction d with
  | zero =>
    intro i w h hw hc
    obtain rfl : i = 4 := by omega
    rcases hc with ⟨j, h1, h2, _⟩ | hc
    · omega
    · refine Ev.step (fun k => ?_) (hc [(w : Int) % 256, ((w : Int) / 256) % 256, ((w : Int) / 65536) % 256] rfl)
      simp only [dense_Pack.l1]
      rw [if_neg (by omega), Option.bind_some, if_pos (by simp; omega), if_pos (by omega)]
  | succ d ih =>
    intro i w h hw hc
    by_cases hb : BadR (rd y (i : Int))
    · refine Ev.step (f := fun _ => some ([], 2)) (fun k => ?_) (Ev.now _)
      simp only [dense_Pack.l1]
      rw [if_pos (by omega), if_pos (by omega), if_pos (by rw [hy]; omega)]
      rcases hb with hb | hb
      · rw [if_pos hb]
      · rw [if_neg (by omega), if_pos hb]
    · have hg : 0 ≤ rd y (i : Int) ∧ rd y (i : Int) ≤ 63 := by unfold BadR at hb; omega
      have e : rd y (i : Int) = (((rd y (i : Int)).toNat : Nat) : Int) := by omega
      refine pack_one x0 x4 y w (rd y (i : Int)).toNat i (by omega) e hy (by omega) hw _ (ih (i + 1) _ (by omega) ?_ ?_)
      · have h1 : (rd y (i : Int)).toNat ≤ 63 := by omega
        have h2 : 2 ^ (6 * i) * (rd y (i : Int)).toNat ≤ 2 ^ (6 * i) * 63 := Nat.mul_le_mul_left _ h1
        rw [show 6 * (i + 1) = 6 * i + 6 by omega, Nat.pow_add]
        omega
      · rcases hc with ⟨j, h1, h2, h3⟩ | hc
        · by_cases e2 : j = i
          · subst e2; exact absurd h3 hb
          · exact .inl ⟨j, by omega, h2, h3⟩
        · exact .inr hc
theorem rd_take4 (l : List Int) (j : Nat) (h : j < 4) : rd (l.take 4) (j : Int) = rd l (j : Int) := by
  unfold rd
  simp only [Int.toNat_natCast, List.getD_eq_getElem?_getD]
  rw [List.getElem?_take_of_lt h]
theorem rd_drop4 (l : List Int) (j : Nat) : rd (l.drop 4) (j : Int) = rd l ((j + 4 : Nat) : Int) := by
  unfold rd
  simp only [Int.toNat_natCast, List.getD_eq_getElem?_getD]
  rw [List.getElem?_drop, Nat.add_comm]
theorem pack_loop_bad : ∀ (m : Nat) (l x4 : List Int), l.length = 4 * m → x4.length + 4 * m < 140737488355000 → (∃ j : Nat, j < l.length ∧ BadR (rd l (j : Int))) → Ev (fun k => dense_Pack.l0 k l x4) ([], 2) := by
  intro m
  induction m with
  | zero => intro l x4 h _ ⟨j, h1, _⟩; omega
  | succ m ih =>
    intro l x4 h hx ⟨j, h1, h2⟩
    have hy : (l.take 4).length = 4 := by rw [List.length_take]; omega
    refine Ev.step (f := fun k => dense_Pack.l1 k l x4 ((0 : Nat) : Int) (l.take 4) 4 ((0 : Nat) : Int)) (fun k => ?_) (pack_chunk l x4 (l.take 4) hy (by omega) (by omega) 4 0 0 (by omega) (by decide) ?_)
    · simp only [dense_Pack.l0]
      rw [if_pos (by omega), if_pos (by omega), Option.bind_some, hy]
      rfl
    · by_cases hj : j < 4
      · exact .inl ⟨j, by omega, hj, by rw [rd_take4 l j hj]; exact h2⟩
      · refine .inr (fun z hz => ih (l.drop 4) (x4 ++ z) (by rw [List.length_drop]; omega) (by rw [List.length_append, hz]; omega) ⟨j - 4, by rw [List.length_drop]; omega, ?_⟩)
        rw [rd_drop4, show j - 4 + 4 = j by omega]
        exact h2
theorem pack_any (l : List Int) (hl : l.length ≤ 100000) : ∃ (x : List Int) (e : Int), Ev (fun k => dense_Pack.f k l) (x, e) ∧ (e = 2 ∨ (e = 0 ∧ ∃ (m : Nat) (n : List Nat), l = asInt n ∧ n.length = 4 * m ∧ (∀ y ∈ n, y < 64) ∧ x = packB n)) := by
  by_cases h4 : l.length % 4 = 0
  · obtain ⟨m, hm⟩ : ∃ m, l.length = 4 * m := ⟨l.length / 4, by omega⟩
    by_cases hb : ∃ j : Nat, j < l.length ∧ BadR (rd l (j : Int))
    · refine ⟨[], 2, Ev.congr (f := fun k => dense_Pack.l0 k l []) (fun k => ?_) (pack_loop_bad m l [] hm (by simp; omega) hb), .inl rfl⟩
      unfold dense_Pack.f
      rw [if_pos (by omega)]
    · have hg : ∀ y ∈ l, 0 ≤ y ∧ y < 64 := fun y hy => by
        obtain ⟨j, hj, e⟩ := List.getElem_of_mem hy
        have h1 : ¬ BadR (rd l (j : Int)) := fun c => hb ⟨j, hj, c⟩
        have h2 : rd l (j : Int) = y := by simp [rd, hj, e]
        rw [h2] at h1
        unfold BadR at h1
        omega
      have he : l = asInt (l.map Int.toNat) := by
        unfold asInt
        rw [List.map_map]
        conv => lhs; rw [← List.map_id l]
        refine List.map_congr_left (fun y hy => ?_)
        have := hg y hy
        simp only [id, Function.comp_apply]
        omega
      refine ⟨_, 0, ?_, .inr ⟨rfl, m, l.map Int.toNat, he, by rw [List.length_map, hm], fun y hy => ?_, rfl⟩⟩
      · refine Ev.congr (fun k => congrArg (dense_Pack.f k) he) ?_
        exact pack_ev m (l.map Int.toNat) (by rw [List.length_map, hm]) (by omega) (fun y hy => by
          obtain ⟨z, hz, rfl⟩ := List.mem_map.1 hy
          have := hg z hz
          omega)
      · obtain ⟨z, hz, rfl⟩ := List.mem_map.1 hy
        have := hg z hz
        omega
  · refine ⟨[], 2, Ev.congr (f := fun _ => some ([], 2)) (fun k => ?_) (Ev.now _), .inl rfl⟩
    unfold dense_Pack.f
    rw [if_neg (by omega)]
end Go.Proofs.Ytbclnjinpcfpjaa.H
