/- Folding. -/
import Derived.Test.YtbclnjinpcfpjaaS7
namespace Go.Proofs.Ytbclnjinpcfpjaa.H
open Go.RowKit Go.Proofs.YtbclnjinpcfpjaaW.PrintWords Go.Proofs.YtbclnjinpcfpjaaW.PrintLast
/-! ### Folding -/
theorem bits_and_low (i n : Nat) (h : i < 65536) (hn : n ≤ 16) : Go.bits .and .u64 (IntKind.u64.wrap (i : Int)) (IntKind.u64.wrap (shl .u64 1 (n : Int) - 1)) = ((i % 2 ^ n : Nat) : Int) := by
  have hp := pow_small hn
  have e1 : shl .u64 1 (n : Int) = ((2 ^ n : Nat) : Int) := by
    have := shl_u64 (show n ≤ 64 by omega) 1
    rw [show ((1 : Nat) : Int) = 1 from rfl] at this
    rw [this, Nat.one_mul, Nat.mod_eq_of_lt (by omega)]
  rw [e1, wu6 (by omega) (by omega), wu6 (by omega) (by omega)]
  have hm : i % 2 ^ n < 2 ^ n := Nat.mod_lt _ (by omega)
  have e2 : (((2 ^ n : Nat) : Int) - 1) = ((2 ^ n - 1 : Nat) : Int) := by omega
  rw [e2]
  have f1 : (BitVec.ofInt 64 (i : Int)).toNat = i := by
    rw [BitVec.toNat_ofInt]
    omega
  have f2 : (BitVec.ofInt 64 ((2 ^ n - 1 : Nat) : Int)).toNat = 2 ^ n - 1 := by
    rw [BitVec.toNat_ofInt]
    omega
  have f3 : (BitVec.ofInt 64 (i : Int) &&& BitVec.ofInt 64 ((2 ^ n - 1 : Nat) : Int)).toNat = i % 2 ^ n := by
    rw [BitVec.toNat_and, f1, f2]
    exact Nat.and_two_pow_sub_one_eq_mod i n
  show IntKind.u64.wrap ((BitVec.ofInt 64 (i : Int) &&& BitVec.ofInt 64 ((2 ^ n - 1 : Nat) : Int)).toNat : Int) = _
  rw [f3, wu6 (by omega) (by omega)]
/-- A register of the folded counter. -/
def fr (n : Nat) (r : S32) : S32 := ⟨((r.f0.toNat / 2 ^ n : Nat) : Int), if r.f0.toNat % 2 ^ n = 0 then r.f1 + (n : Int) else 1 + (n : Int) - ((Lib.bitLen (r.f0.toNat % 2 ^ n) : Nat) : Int)⟩
theorem fr_spl {P Q H : Nat} (h4 : 4 ≤ Q) (hQ : Q ≤ P) (hP : P ≤ 16) (hH : H < 18446744073709551616) : fr (P - Q) (spl P H) = spl Q H := by
  have hA : 2 ^ (64 - Q) = 2 ^ (P - Q) * 2 ^ (64 - P) := by rw [← Nat.pow_add]; congr 1; omega
  have ei : ((spl P H).f0).toNat = H / 2 ^ (64 - P) := rfl
  have hmp : H % 2 ^ (64 - P) < 2 ^ (64 - P) := Nat.mod_lt _ (Nat.two_pow_pos _)
  have hlen : Lib.bitLen (H % 2 ^ (64 - P)) ≤ 64 - P := Lib.bitLen_le _ _ (by omega) hmp
  have hlow : H / 2 ^ (64 - P) % 2 ^ (P - Q) < 2 ^ (P - Q) := Nat.mod_lt _ (Nat.two_pow_pos _)
  have hlenl : Lib.bitLen (H / 2 ^ (64 - P) % 2 ^ (P - Q)) ≤ P - Q := Lib.bitLen_le _ _ (by omega) hlow
  have hmq : H % 2 ^ (64 - Q) = H / 2 ^ (64 - P) % 2 ^ (P - Q) * 2 ^ (64 - P) + H % 2 ^ (64 - P) := by
    rw [hA, Nat.mul_comm (2 ^ (P - Q)), Nat.mod_mul, Nat.add_comm, Nat.mul_comm]
  have hidx : H / 2 ^ (64 - P) / 2 ^ (P - Q) = H / 2 ^ (64 - Q) := by rw [Nat.div_div_eq_div_mul, hA, Nat.mul_comm]
  refine reg_ext ?_ ?_
  · show ((((spl P H).f0).toNat / 2 ^ (P - Q) : Nat) : Int) = ((H / 2 ^ (64 - Q) : Nat) : Int)
    rw [ei, hidx]
  · show (if ((spl P H).f0).toNat % 2 ^ (P - Q) = 0 then ((65 - P - Lib.bitLen (H % 2 ^ (64 - P)) : Nat) : Int) + ((P - Q : Nat) : Int) else 1 + ((P - Q : Nat) : Int) - ((Lib.bitLen (((spl P H).f0).toNat % 2 ^ (P - Q)) : Nat) : Int)) = ((65 - Q - Lib.bitLen (H % 2 ^ (64 - Q)) : Nat) : Int)
    rw [ei]
    by_cases h0 : H / 2 ^ (64 - P) % 2 ^ (P - Q) = 0
    · rw [if_pos h0, hmq, h0, Nat.zero_mul, Nat.zero_add]
      omega
    · have hl : H / 2 ^ (64 - P) % 2 ^ (P - Q) * 2 ^ (64 - P) + H % 2 ^ (64 - P) < 18446744073709551616 := by
        rw [← hmq]
        exact Nat.lt_of_le_of_lt (Nat.mod_le _ _) hH
      rw [if_neg h0, hmq, len_top hmp (by omega) hl]
      generalize Lib.bitLen (H / 2 ^ (64 - P) % 2 ^ (P - Q)) = y at *
      omega
theorem fr_reg {P Q : Nat} (h4 : 4 ≤ Q) (hQ : Q ≤ P) (hP : P ≤ 16) {r : S32} (h : Reg ((2 ^ P : Nat) : Int) (65 - (P : Int)) r) : Reg ((2 ^ Q : Nat) : Int) (65 - (Q : Int)) (fr (P - Q) r) := by
  have hA : 2 ^ P = 2 ^ Q * 2 ^ (P - Q) := by rw [← Nat.pow_add]; congr 1; omega
  have hp := pow_small hP
  have h1 := h.1
  have h2 := h.2.1
  have h3 := h.2.2
  have hi : r.f0.toNat < 2 ^ Q * 2 ^ (P - Q) := by rw [← hA]; omega
  have hlow : r.f0.toNat % 2 ^ (P - Q) < 2 ^ (P - Q) := Nat.mod_lt _ (Nat.two_pow_pos _)
  have hlenl : Lib.bitLen (r.f0.toNat % 2 ^ (P - Q)) ≤ P - Q := Lib.bitLen_le _ _ (by omega) hlow
  have hd : r.f0.toNat / 2 ^ (P - Q) < 2 ^ Q := Nat.div_lt_of_lt_mul (by rw [Nat.mul_comm]; exact hi)
  refine ⟨Int.natCast_nonneg _, Int.ofNat_lt.2 hd, ?_, ?_⟩
  · show 1 ≤ (if r.f0.toNat % 2 ^ (P - Q) = 0 then r.f1 + ((P - Q : Nat) : Int) else 1 + ((P - Q : Nat) : Int) - ((Lib.bitLen (r.f0.toNat % 2 ^ (P - Q)) : Nat) : Int))
    by_cases h0 : r.f0.toNat % 2 ^ (P - Q) = 0
    · rw [if_pos h0]; omega
    · rw [if_neg h0]; omega
  · show (if r.f0.toNat % 2 ^ (P - Q) = 0 then r.f1 + ((P - Q : Nat) : Int) else 1 + ((P - Q : Nat) : Int) - ((Lib.bitLen (r.f0.toNat % 2 ^ (P - Q)) : Nat) : Int)) ≤ 65 - (Q : Int)
    by_cases h0 : r.f0.toNat % 2 ^ (P - Q) = 0
    · rw [if_pos h0]; omega
    · rw [if_neg h0]; omega
theorem fr_mono (n : Nat) {r s : S32} (h0 : r.f0 = s.f0) (h1 : r.f1 ≤ s.f1) : (fr n s).f0 = (fr n r).f0 ∧ (fr n r).f1 ≤ (fr n s).f1 := by
  refine ⟨by unfold fr; rw [h0], ?_⟩
  show (if r.f0.toNat % 2 ^ n = 0 then r.f1 + (n : Int) else 1 + (n : Int) - ((Lib.bitLen (r.f0.toNat % 2 ^ n) : Nat) : Int)) ≤ (if s.f0.toNat % 2 ^ n = 0 then s.f1 + (n : Int) else 1 + (n : Int) - ((Lib.bitLen (s.f0.toNat % 2 ^ n) : Nat) : Int))
  rw [h0]
  by_cases c : s.f0.toNat % 2 ^ n = 0
  · rw [if_pos c, if_pos c]; omega
  · rw [if_neg c, if_neg c]; exact Int.le_refl _
def fold (n : Nat) (l : List S32) : List S32 := adds [] (l.map (fr n))
theorem fold_ok {P Q : Nat} (h4 : 4 ≤ Q) (hQ : Q ≤ P) (hP : P ≤ 16) {l : List S32} {X : S32 → Prop} (hv : Vl P l) (hX : ∀ x, X x → 1 ≤ x.f1) (h : Rep l X) : Vl Q (fold (P - Q) l) ∧ Rep (fold (P - Q) l) (fun y => ∃ x, X x ∧ y = fr (P - Q) x) := by
  obtain ⟨h1, h2⟩ := adds_ok (l.map (fr (P - Q))) (val_nil ((2 ^ Q : Nat) : Int) (65 - (Q : Int))) rep_nil (fun x hx => by
    obtain ⟨r, hr, rfl⟩ := List.mem_map.1 hx
    exact fr_reg h4 hQ hP (hv.2 r hr))
  refine ⟨h1, rep_dom h2 (fun y hy => ?_) (fun z hz => ?_)⟩
  · obtain ⟨r, hr, rfl⟩ := List.mem_map.1 (hy.resolve_left id)
    obtain ⟨hu, ha⟩ := h r.f0
    rw [look_mem hv.1 r hr] at hu ha
    have hpos := (hv.2 r hr).2.2.1
    rcases ha with ha | ⟨x, hx, e1, e2⟩
    · omega
    · exact ⟨_, ⟨x, hx, rfl⟩, fr_mono (P - Q) e1.symm (by omega)⟩
  · obtain ⟨x, hx, rfl⟩ := hz
    obtain ⟨hu, _⟩ := h x.f0
    have h3 := hu x hx rfl
    have h4 := hX x hx
    obtain ⟨r, hr, e1, e2⟩ := look_some (l := l) (k := x.f0) (by omega)
    exact ⟨fr (P - Q) r, .inr (List.mem_map.2 ⟨r, hr, rfl⟩), fr_mono (P - Q) e1.symm (by omega)⟩
theorem shr_i64 {n : Nat} (h : n ≤ 64) (i : Nat) : shr .i64 (i : Int) (n : Int) = ((i / 2 ^ n : Nat) : Int) := by
  unfold shr
  rw [show min ((n : Int)).toNat (IntKind.i64).bits = n by show min n 64 = n; omega]
  simp
theorem fold_loop {P Q : Nat} (h4 : 4 ≤ Q) (hQ : Q ≤ P) (hP : P ≤ 16) {l : List S32} (hv : Vl P l) : ∀ (d i : Nat) (acc : List S32), i + d = l.length → Vl Q acc →
    Ev (fun k => hll_Fold.l0 k (Q : Int) ((P - Q : Nat) : Int) acc l (l.length : Int) (i : Int)) ((Q : Int), adds acc ((l.drop i).map (fr (P - Q))), 0) := by
  have hl := vl_len hP hv
  have hp := pow_small hP
  intro d
  induction d with
  | zero =>
    intro i acc h ha
    rw [List.drop_of_length_le (by omega)]
    refine Ev.step (f := fun _ => some ((Q : Int), acc, 0)) (fun k => ?_) (Ev.now _)
    simp only [hll_Fold.l0]
    rw [if_neg (by omega)]
  | succ d ih =>
    intro i acc h ha
    have hi : i < l.length := by omega
    have hr := hv.2 l[i] (List.getElem_mem hi)
    have hf := fr_reg h4 hQ hP hr
    have hq := pow_small (show Q ≤ 16 by omega)
    obtain ⟨j, hj⟩ : ∃ j : Nat, l[i].f0 = (j : Int) := ⟨l[i].f0.toNat, by omega⟩
    have ejn : l[i].f0.toNat = j := by omega
    have hj2 : j < 65536 := by omega
    have e0 : (fr (P - Q) l[i]).f0 = ((j / 2 ^ (P - Q) : Nat) : Int) := by unfold fr; rw [ejn]
    have e1 : (fr (P - Q) l[i]).f1 = if j % 2 ^ (P - Q) = 0 then l[i].f1 + ((P - Q : Nat) : Int) else 1 + ((P - Q : Nat) : Int) - ((Lib.bitLen (j % 2 ^ (P - Q)) : Nat) : Int) := by unfold fr; rw [ejn]
    have hlow : j % 2 ^ (P - Q) < 2 ^ (P - Q) := Nat.mod_lt _ (Nat.two_pow_pos _)
    have hlenl : Lib.bitLen (j % 2 ^ (P - Q)) ≤ P - Q := Lib.bitLen_le _ _ (by omega) hlow
    have hlow2 : j % 2 ^ (P - Q) ≤ j := Nat.mod_le _ _
    rw [List.drop_eq_getElem_cons hi]
    refine Ev.step (f := fun k => (hll_put.f k acc (fr (P - Q) l[i]).f0 (fr (P - Q) l[i]).f1).bind fun t => hll_Fold.l0 k (Q : Int) ((P - Q : Nat) : Int) t l (l.length : Int) ((i + 1 : Nat) : Int)) (fun k => ?_) (Ev.bind (put_good (by omega) ha (fr (P - Q) l[i]) (by have := hf.1; have := hf.2.1; omega)) (ih (i + 1) _ (by omega) (val_insl hf ha)))
    simp only [hll_Fold.l0]
    rw [if_pos (by omega), if_pos (by omega), if_pos (by omega), if_pos (by omega), rdT l i hi, hj, bits_and_low j (P - Q) hj2 (by omega), shr_i64 (by omega), w6 (x := (i : Int) + 1) (by omega) (by omega), e0, e1]
    by_cases c : j % 2 ^ (P - Q) = 0
    · rw [if_pos (by omega), if_pos c, w6 (by omega) (by omega)]
      rfl
    · rw [if_neg (by omega), if_neg c]
      unfold bits_Len.f
      rw [len64_ev _ (by omega), Option.bind_some, Option.bind_some, w6 (x := 1 + ((P - Q : Nat) : Int)) (by omega) (by omega), w6 (by omega) (by omega)]
      rfl
theorem fold_ev {P Q : Nat} (h4 : 4 ≤ Q) (hQ : Q ≤ P) (hP : P ≤ 16) {l : List S32} (hv : Vl P l) : Ev (fun k => hll_Fold.f k (P : Int) l (Q : Int)) ((Q : Int), fold (P - Q) l, 0) := by
  refine Ev.congr (fun k => by unfold hll_Fold.f; rfl) (Ev.bind (chk_good P (by omega) hP hv) ?_)
  refine Ev.congr (f := fun k => hll_Fold.j0 k (Q : Int) false (P : Int) l) (fun k => ?_) ?_
  · rw [if_pos rfl, if_neg (by omega), decide_eq_false (by omega)]
  refine Ev.step (f := fun k => hll_Fold.l0 k (Q : Int) ((P - Q : Nat) : Int) [] l (l.length : Int) ((0 : Nat) : Int)) (fun k => ?_) (fold_loop h4 hQ hP hv l.length 0 [] (by omega) (val_nil _ _))
  simp only [hll_Fold.j0]
  rw [if_neg (by decide), w6 (by omega) (by omega), show (P : Int) - (Q : Int) = ((P - Q : Nat) : Int) by omega]
  rfl
end Go.Proofs.Ytbclnjinpcfpjaa.H
