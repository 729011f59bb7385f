-- Made by this session's own call of the printer (functions that are proved by hand are taken from a text beside it).
import Derived.Test.YtbclnjinpcfpjaaZ4
import Derived.Test.YtbclnjinpcfpjaaZ5
import Derived.Test.YtbclnjinpcfpjaaM4
import Derived.Test.YtbclnjinpcfpjaaH0
import Derived.Test.YtbclnjinpcfpjaaH2
import Derived.Test.YtbclnjinpcfpjaaH4
namespace Go.Proofs.Ytbclnjinpcfpjaa.H
open Go.RowKit Go.Proofs.YtbclnjinpcfpjaaW.PrintWords Go.Proofs.YtbclnjinpcfpjaaW.PrintLast Go.Proofs.YtbclnjinpcfpjaaW.PrintMore
attribute [local go_sem] max2_int min2_int max_two min_two max_three min_three max_four min_four   -- for this text's walks alone
set_option linter.unusedVariables false
set_option linter.unusedSimpArgs false

/-! ### tallymanlaw15_lives: function 15 -/
def tallymanlaw15_lives.f (k : Nat)  : Option (Bool) := (dense_Bytes.f k 4 ([] : List (S32))).bind fun bt180 => ((dense_Bytes.f k 4 (([(⟨2, 3⟩ : S32)] : List (S32)))).bind fun bt187 => (if bt180.2 = 0 then (if bt187.2 = 0 then (if (strOfNums bt180.1).toList = ([4, 0, 0] : List UInt8) then (if (strOfNums bt187.1).toList = ([4, 0, 1, 2, 3] : List UInt8) then ((dense_Log2.f k 1).bind fun t191 => (if t191 = 0 then ((dense_Log2.f k 8).bind fun t192 => (if t192 = 196608 then ((dense_Log2.f k 3).bind fun t193 => (some (t193 == 103872))) else (none))) else (none))) else (none)) else (none)) else (none)) else (none)))
theorem tallymanlaw15_lives.mono : ∀ k, LeO (tallymanlaw15_lives.f k ) (tallymanlaw15_lives.f (k + 1) ) := by
 intro  k
 unfold tallymanlaw15_lives.f
 repeat' first
   | (with_reducible exact dense_Bytes.mono _ _ _)
   | (with_reducible exact dense_Log2.mono _ _)
   | (with_reducible exact LeO.refl _)
   | (with_reducible exact LeO.none _)
   | (with_reducible refine LeO.ite ?_ ?_)
   | (with_reducible refine LeO.bind ?_ (fun _ => ?_))
set_option maxHeartbeats 8000000 in
set_option maxRecDepth 100000 in
theorem tallymanlaw15_lives.calls (k : Nat)  (r : Bool) (w : World) (h : tallymanlaw15_lives.f k  = some r) :
  Calls Try.prog 15 #[] w fun e w' => e = .returned (.bool r) ∧ Below w.heap.size w w' := by
 have hu30 := Try.underlying30
 have hu32 := Try.underlying32
 have HB := am (Below.refl w.heap.size w)
 have H : ((dense_Bytes.f k 4 ([] : List (S32))).bind fun bt180 => ((dense_Bytes.f k 4 (([(⟨2, 3⟩ : S32)] : List (S32)))).bind fun bt187 => (if bt180.2 = 0 then (if bt187.2 = 0 then (if (strOfNums bt180.1).toList = ([4, 0, 0] : List UInt8) then (if (strOfNums bt187.1).toList = ([4, 0, 1, 2, 3] : List UInt8) then ((dense_Log2.f k 1).bind fun t191 => (if t191 = 0 then ((dense_Log2.f k 8).bind fun t192 => (if t192 = 196608 then ((dense_Log2.f k 3).bind fun t193 => (some (t193 == 103872))) else (none))) else (none))) else (none)) else (none)) else (none)) else (none)))) = some r := h
 clear h
 replace H := Option.bind_eq_some_iff.mp H
 obtain ⟨⟨t180, t183⟩, A10, H⟩ := H
 try dsimp only at H
 have A1 := Aside0.mk A10
 clear A10
 obtain ⟨y184, hy184⟩ : ∃ y_ : List (S32), y_ = (([(⟨2, 3⟩ : S32)] : List (S32))) := ⟨_, rfl⟩
 replace H : ((dense_Bytes.f k 4 y184).bind fun bt187 => (if t183 = 0 then (if bt187.2 = 0 then (if (strOfNums t180).toList = ([4, 0, 0] : List UInt8) then (if (strOfNums bt187.1).toList = ([4, 0, 1, 2, 3] : List UInt8) then ((dense_Log2.f k 1).bind fun t191 => (if t191 = 0 then ((dense_Log2.f k 8).bind fun t192 => (if t192 = 196608 then ((dense_Log2.f k 3).bind fun t193 => (some (t193 == 103872))) else (none))) else (none))) else (none)) else (none)) else (none)) else (none))) = some r := by first | (rw [hy184]; with_reducible exact H) | (have H2_ := (Option.bind_some _ _).symm.trans H; rw [hy184]; with_reducible exact H2_) | (have H2_ := (Option.bind_some _ _).symm.trans H; with_reducible exact H2_) | with_reducible exact H | (rw [hy184]; exact H) | exact H
 have Ny184 := Aside0.mk hy184
 clear hy184
 replace H := Option.bind_eq_some_iff.mp H
 obtain ⟨⟨t187, t190⟩, A20, H⟩ := H
 try dsimp only at H
 have A2 := Aside0.mk A20
 clear A20
 by_cases c3 : t183 = 0
 ·
  rw [if_pos c3] at H
  have c3b0 : (t183 == 0) = true := beq_iff_eq.mpr c3
  have c3b1 : (t183 != 0) = false := bne_eq_false_iff_eq.mpr c3
  clear c3
  by_cases c4 : t190 = 0
  ·
   rw [if_pos c4] at H
   have c4b0 : (t190 == 0) = true := beq_iff_eq.mpr c4
   have c4b1 : (t190 != 0) = false := bne_eq_false_iff_eq.mpr c4
   clear c4
   by_cases c5 : (strOfNums t180).toList = ([4, 0, 0] : List UInt8)
   ·
    rw [if_pos c5] at H
    have c5b0 : ((strOfNums t180).toList == ([4, 0, 0] : List UInt8)) = true := beq_iff_eq.mpr c5
    have c5b1 : ((strOfNums t180).toList != ([4, 0, 0] : List UInt8)) = false := bne_eq_false_iff_eq.mpr c5
    clear c5
    by_cases c6 : (strOfNums t187).toList = ([4, 0, 1, 2, 3] : List UInt8)
    ·
     rw [if_pos c6] at H
     have c6b0 : ((strOfNums t187).toList == ([4, 0, 1, 2, 3] : List UInt8)) = true := beq_iff_eq.mpr c6
     have c6b1 : ((strOfNums t187).toList != ([4, 0, 1, 2, 3] : List UInt8)) = false := bne_eq_false_iff_eq.mpr c6
     clear c6
     replace H := Option.bind_eq_some_iff.mp H
     obtain ⟨t191, A70, H⟩ := H
     try dsimp only at H
     have A7 := Aside0.mk A70
     clear A70
     by_cases c8 : t191 = 0
     ·
      rw [if_pos c8] at H
      have c8b0 : (t191 == 0) = true := beq_iff_eq.mpr c8
      have c8b1 : (t191 != 0) = false := bne_eq_false_iff_eq.mpr c8
      clear c8
      replace H := Option.bind_eq_some_iff.mp H
      obtain ⟨t192, A90, H⟩ := H
      try dsimp only at H
      have A9 := Aside0.mk A90
      clear A90
      by_cases c10 : t192 = 196608
      ·
       rw [if_pos c10] at H
       have c10b0 : (t192 == 196608) = true := beq_iff_eq.mpr c10
       have c10b1 : (t192 != 196608) = false := bne_eq_false_iff_eq.mpr c10
       clear c10
       replace H := Option.bind_eq_some_iff.mp H
       obtain ⟨t193, A110, H⟩ := H
       replace H : (some (t193 == 103872)) = some r := H
       have A11 := Aside0.mk A110
       clear A110
       obtain rfl := Option.some.inj H
       go_enter Try.func15, Try.ntmps15
       go_wp2_with (first | ((with_reducible refine gate_callee (f := 20) rfl ?_); refine goesL_ (some 7) rfl rfl Try.func20 (by kernel_rfl) rfl #[.agg #[.int .i64 4, .slice none 0 0]] rfl (by (try simp only [List.map_toArray, List.map_cons, List.map_nil]); first | done | rfl) ?_; (refine (dense_Bytes.calls k 4 _ _ ([] : List (S32)) t180 t183 _ ?side1 ?side2 A1.out).mono ?_); (case side1 => exact Kd.C_nil _ _); (case side2 => exact Nat.le_refl _); rintro e w12 ⟨v181, rfl, ho0, hb⟩; refine ⟨_, rfl, ?_⟩; have HO182 := am (Kd.R_lower ho0 (below_size (hu HB.out))); replace HB := am (below_step (hu HB.out) hb); (try clear hb); (try clear ho0)) | ((with_reducible refine gate_dst (N := 12) rfl ?_); refine Kd.R_lit k32 _ 32 ?hg (N := 12) ?hd (xs := ([(⟨2, 3⟩ : S32)] : List (S32))) (inner := [.int .i64 2, .int .i64 3]) (ok := fun _ => True) (okp := fun _ => True) ?hr ?hp (fun _ hk => hk) trivial (Below.refl _ _) (Nat.le_refl _) (by simp) ?_; (case hd => rfl); (case hg => rfl); (case hr => go_simp; try rfl); (case hp => exact (Reps.c2 (show Kd.M k32 _ _ _ (⟨2, 3⟩ : S32) [.int .i64 2, .int .i64 3] from (k32_mkM _ _ _ (⟨2, 3⟩ : S32) )) (Reps.none _ _))); intro v185 w13 ho14 hb hg_ hnew_; clear hg_ hnew_; (first | rw [← Ny184.out] at ho14 | (simp only [Int.reduceToNat] at ho14; rw [← Ny184.out] at ho14)); have HO186 := am (Kd.R_lower ho14 (below_size (hu HB.out))); replace HO182 := rb HO182 hb; replace HB := am (below_step (hu HB.out) hb); clear hb ho14; obtain ⟨Ao15, co15, eo15⟩ := Kd.R_slice HO186.out; subst eo15) | ((with_reducible refine gate_callee (f := 20) rfl ?_); refine goesL_ (some 14) rfl rfl Try.func20 (by kernel_rfl) rfl #[.agg #[.int .i64 4, .slice Ao15 y184.length co15]] rfl (by (try simp only [List.map_toArray, List.map_cons, List.map_nil]); first | done | rfl) ?_; (with_reducible refine (dense_Bytes.calls k 4 _ _ y184 t187 t190 _ ?side1 ?side2 A2.out).mono ?_); (case side1 => repeat (first | exact (Kd.R_reads' HO186.out).2.2 | (with_reducible refine Kd.C_alloc ?_ _) | (with_reducible refine Kd.C_drewN ?_ _) | (with_reducible refine Kd.C_drew ?_))); (case side2 => exact (Kd.R_reads' HO186.out).2.1); rintro e w16 ⟨v188, rfl, ho0, hb⟩; refine ⟨_, rfl, ?_⟩; have HO189 := am (Kd.R_lower (Kd.R_new' ho0 (Kd.R_lt (ru (HO182.out)))) (below_size (hu HB.out))); replace HO182 := am (Kd.R_elder' (ru (HO182.out)) (Kd.R_base ho0) hb); replace HO186 := rb HO186 hb; replace HB := am (below_step (hu HB.out) hb); (try clear hb); (try clear ho0); have hcv17 := own_string (P := Try.prog) Try.underlying33 Try.underlying5 Try.underlying9 (Kd.own_of_R HO182.out); have hcv18 := fun nq_ : Nat => own_string (P := Try.prog) Try.underlying33 Try.underlying5 Try.underlying9 (pw_own_drewN (Kd.own_of_R HO182.out) nq_); have hcv19 := own_string (P := Try.prog) Try.underlying33 Try.underlying5 Try.underlying9 (Kd.own_of_R HO189.out); have hcv20 := fun nq_ : Nat => own_string (P := Try.prog) Try.underlying33 Try.underlying5 Try.underlying9 (pw_own_drewN (Kd.own_of_R HO189.out) nq_)) | (go_at_call 16; (with_reducible refine (dense_Log2.calls k 1 t191 _ A7.out).mono ?_); rintro e w' ⟨rfl, ⟨nd, rfl⟩⟩) | (go_at_call 16; (with_reducible refine (dense_Log2.calls k 8 t192 _ A9.out).mono ?_); rintro e w' ⟨rfl, ⟨nd, rfl⟩⟩) | (go_at_call 16; (with_reducible refine (dense_Log2.calls k 3 t193 _ A11.out).mono ?_); rintro e w' ⟨rfl, ⟨nd, rfl⟩⟩))
       go_ret
       exact ⟨by first | rfl | (simp [errW_none, errW_some] <;> rfl) | (simp [*, errW_none, errW_some] <;> rfl), by repeat (with_reducible first | exact HB.out | apply bA | apply bN | apply bD)⟩
      ·
       rw [if_neg c10] at H
       exact absurd H (by simp)
     ·
      rw [if_neg c8] at H
      exact absurd H (by simp)
    ·
     rw [if_neg c6] at H
     exact absurd H (by simp)
   ·
    rw [if_neg c5] at H
    exact absurd H (by simp)
  ·
   rw [if_neg c4] at H
   exact absurd H (by simp)
 ·
  rw [if_neg c3] at H
  exact absurd H (by simp)

/-! ### dense_Unpack: function 39 -/
mutual
def dense_Unpack.l0 : Nat → List Int → List Int → Option (List Int)
 | 0, _, _ => none
 | k + 1, x0, x2 => if (x0.length : Int) ≥ 3 then (if 0 < (x0.length : Int) then (if 1 < (x0.length : Int) then (if 2 < (x0.length : Int) then (dense_Unpack.l1 k x0 x2 (Go.bits .or .u32 (Go.bits .or .u32 ((rd x0 0) % 4294967296) ((((rd x0 1) % 4294967296) * 256) % 4294967296)) ((((rd x0 2) % 4294967296) * 65536) % 4294967296)) 0) else (none)) else (none)) else (none)) else (some x2)
def dense_Unpack.l1 : Nat → List Int → List Int → Int → Int → Option (List Int)
 | 0, _, _, _, _ => none
 | k + 1, x0, x2, x3, x25 => if x25 < 4 then (if x2.length < 17592186044416 then (dense_Unpack.l1 k x0 (x2 ++ [wrap64 (Go.bits .and .u32 x3 63)]) (x3 / 64) (wrap64 (x25 + 1))) else (none)) else (if 3 ≤ (x0.length : Int) then (dense_Unpack.l0 k (x0.drop 3) x2) else (none))
end
def dense_Unpack.f (k : Nat) (l0 : List Int) : Option (List Int) := dense_Unpack.l0 k l0 ([] : List Int)
theorem dense_Unpack.mono_l : ∀ k, (∀ y0 y1, LeO (dense_Unpack.l0 k y0 y1) (dense_Unpack.l0 (k + 1) y0 y1)) ∧ (∀ y0 y1 y2 y3, LeO (dense_Unpack.l1 k y0 y1 y2 y3) (dense_Unpack.l1 (k + 1) y0 y1 y2 y3))
 | 0 => ⟨fun _ _ r h => by simp [dense_Unpack.l0] at h, fun _ _ _ _ r h => by simp [dense_Unpack.l1] at h⟩
 | k + 1 => by
  obtain ⟨ih0, ih1⟩ := dense_Unpack.mono_l k
  refine ⟨?_, ?_⟩
  ·
   intro y0 y1
   unfold dense_Unpack.l0
   repeat' first
   | (with_reducible exact ih0 _ _)
   | (with_reducible exact ih1 _ _ _ _)
   | (with_reducible exact LeO.refl _)
   | (with_reducible exact LeO.none _)
   | (with_reducible refine LeO.ite ?_ ?_)
   | (with_reducible refine LeO.bind ?_ (fun _ => ?_))
  ·
   intro y0 y1 y2 y3
   unfold dense_Unpack.l1
   repeat' first
   | (with_reducible exact ih0 _ _)
   | (with_reducible exact ih1 _ _ _ _)
   | (with_reducible exact LeO.refl _)
   | (with_reducible exact LeO.none _)
   | (with_reducible refine LeO.ite ?_ ?_)
   | (with_reducible refine LeO.bind ?_ (fun _ => ?_))
theorem dense_Unpack.mono : ∀ a0 k, LeO (dense_Unpack.f k a0) (dense_Unpack.f (k + 1) a0) := by
 intro a0 k
 obtain ⟨ih0, ih1⟩ := dense_Unpack.mono_l k
 unfold dense_Unpack.f
 repeat' first
   | (with_reducible exact ih0 _ _)
   | (with_reducible exact ih1 _ _ _ _)
   | (with_reducible exact LeO.refl _)
   | (with_reducible exact LeO.none _)
   | (with_reducible refine LeO.ite ?_ ?_)
   | (with_reducible refine LeO.bind ?_ (fun _ => ?_))
set_option maxHeartbeats 8000000 in
set_option maxRecDepth 100000 in
theorem dense_Unpack.calls (k : Nat) (P0_ : Nat → Prop) (A0 : Option Addr) (c0 : Nat) (l0 : List Int) (r : List Int) (w : World) (hs0 : Kd.V (Kd.int .u8) 5 w w.heap.size (fun k_ => P0_ k_) (.slice A0 l0.length c0) l0) (h : dense_Unpack.f k l0 = some r) :
  Calls Try.prog 39 #[.slice A0 l0.length c0] w fun e w' => ∃ v0_ : Value, e = .returned (v0_) ∧ Kd.R (Kd.int .i64) 3 w' w.heap.size (fun k_ => (w.heap.size ≤ k_)) v0_ r ∧ Below w.heap.size w w' := by
 have HO0 := am (show Kd.V (Kd.int .u8) 5 w w.heap.size (fun k_ => (P0_ k_ ∨ w.heap.size ≤ k_)) (.slice A0 l0.length c0) l0 from Kd.V_mono hs0 (fun k_ hk => .inl hk))
 have HB := am (Below.refl w.heap.size w)
 have H : (dense_Unpack.l0 k l0 ([] : List Int)) = some r := h
 clear h
 have H' := Aside0.mk H
 clear H
 go_enter Try.func39, Try.ntmps39
 go_wp2
 repeat (go_quiet (fail); try go_wp2)
 go_loopg [0, 2] k (fun kq v0 v2 w' => ∃ (x0_1 : List Int) (x2_1 : List Int), Aside0 (dense_Unpack.l0 kq x0_1 x2_1 = some r) ∧ Aside0 (kq ≤ k) ∧ Aside0 (Kd.V (Kd.int .u8) 5 w' w.heap.size (fun k_ => (P0_ k_ ∨ w.heap.size ≤ k_) ∧ some k_ ≠ (v2 : Value).ownBlock) v0 x0_1) ∧ Aside0 (Kd.R (Kd.int .i64) 3 w' w.heap.size (fun k_ => (w.heap.size ≤ k_)) v2 x2_1) ∧ Aside0 (Below w.heap.size w w'))
 case atStart => exact ⟨(l0), (([] : List Int)), H', ⟨Nat.le_refl _⟩, ⟨by (with_reducible repeat (first | apply Kd.V_alloc | apply Kd.V_drewN | apply Kd.V_drew)); exact Kd.V_mono HO0.out (fun _ hk => ⟨hk, (by simp [Value.ownBlock])⟩)⟩, ⟨by first | exact Kd.R_nil _ _ _ _ _ | exact Kd.V_nil _ _ _ _ _⟩, ⟨by repeat (with_reducible first | exact HB.out | apply bA | apply bN | apply bD)⟩⟩
 case round =>
  clear H'
  obtain ⟨x0_1, x2_1, HA, HK1, HO_0, HO_2, HB⟩ := hrel
  cases gk with
  | zero => exact absurd HA.out (by simp [dense_Unpack.l0])
  | succ k1 =>
   have H := HA.out
   clear HA
   simp only [dense_Unpack.l0] at H
   by_cases c2 : (x0_1.length : Int) ≥ 3
   ·
    rw [if_pos c2] at H
    have c2b0 : decide (3 ≤ (x0_1.length : Int)) = true := decide_eq_true c2
    have c2b1 : decide (3 ≤ x0_1.length) = true := decide_eq_true (by omega)
    clear c2
    by_cases c3 : 0 < (x0_1.length : Int)
    ·
     rw [if_pos c3] at H
     have c3b0 : decide (0 < (x0_1.length : Int)) = true := decide_eq_true c3
     have c3b1 : decide (0 < x0_1.length) = true := decide_eq_true (by omega)
     clear c3
     by_cases c4 : 1 < (x0_1.length : Int)
     ·
      rw [if_pos c4] at H
      have c4b0 : decide (1 < (x0_1.length : Int)) = true := decide_eq_true c4
      have c4b1 : decide (1 < x0_1.length) = true := decide_eq_true (by omega)
      clear c4
      by_cases c5 : 2 < (x0_1.length : Int)
      ·
       rw [if_pos c5] at H
       have c5b0 : decide (2 < (x0_1.length : Int)) = true := decide_eq_true c5
       have c5b1 : decide (2 < x0_1.length) = true := decide_eq_true (by omega)
       clear c5
       have H' := Aside0.mk H
       clear H
       obtain ⟨Ao6, co6, eo6⟩ := Kd.V_slice HO_0.out
       subst eo6
       have p194 : 0 ≤ (0 : Int) := (by omega)
       have q194 : 0 < (x0_1.length : Int) := of_decide_eq_true (by first | (with_reducible assumption) | assumption)
       obtain ⟨ad194, e194, hx194_0⟩ := Kd.at_int (Kd.V_reads' HO_0.out).2.2 0 p194 q194
       cases e194
       have qi194 : (0 < x0_1.length) = True := eq_true (by omega)
       (try rw [show ((0 : Int)).toNat = 0 from rfl] at hx194_0)
       (try rw [Addr.add_zero'] at hx194_0)
       replace p194 := eq_true p194
       replace q194 := eq_true q194
       have p195 : 0 ≤ (1 : Int) := (by omega)
       have q195 : 1 < (x0_1.length : Int) := of_decide_eq_true (by first | (with_reducible assumption) | assumption)
       obtain ⟨ad195, e195, hx195_0⟩ := Kd.at_int (Kd.V_reads' HO_0.out).2.2 1 p195 q195
       obtain rfl : ad194 = ad195 := (by injection e195)
       (try simp only [show (1 : Int).toNat = 1 from rfl, Nat.reduceMul, Nat.reduceEqDiff, Go.Addr.add, ↓reduceIte] at hx195_0)
       have qi195 : (1 < x0_1.length) = True := eq_true (by omega)
       (try rw [show ((1 : Int)).toNat = 1 from rfl] at hx195_0)
       replace p195 := eq_true p195
       replace q195 := eq_true q195
       have p196 : 0 ≤ (2 : Int) := (by omega)
       have q196 : 2 < (x0_1.length : Int) := of_decide_eq_true (by first | (with_reducible assumption) | assumption)
       obtain ⟨ad196, e196, hx196_0⟩ := Kd.at_int (Kd.V_reads' HO_0.out).2.2 2 p196 q196
       obtain rfl : ad194 = ad196 := (by injection e196)
       (try simp only [show (2 : Int).toNat = 2 from rfl, Nat.reduceMul, Nat.reduceEqDiff, Go.Addr.add, ↓reduceIte] at hx196_0)
       have qi196 : (2 < x0_1.length) = True := eq_true (by omega)
       (try rw [show ((2 : Int)).toNat = 2 from rfl] at hx196_0)
       replace p196 := eq_true p196
       replace q196 := eq_true q196
       go_wp2
       repeat (go_quiet (fail); try go_wp2)
       go_loopg [2, 3, 25] k1 (fun kq v2 v3 v25 w' => ∃ (x2_2 : List Int) (x3_2 : Int) (x25_2 : Int), v3 = .int .u32 x3_2 ∧ v25 = .int .i64 x25_2 ∧ Aside0 (dense_Unpack.l1 kq x0_1 x2_2 x3_2 x25_2 = some r) ∧ Aside0 (kq ≤ k1) ∧ Aside0 (Kd.V (Kd.int .u8) 5 w' w.heap.size (fun k_ => (P0_ k_ ∨ w.heap.size ≤ k_) ∧ some k_ ≠ (v2 : Value).ownBlock) (.slice (some ad194) x0_1.length co6) x0_1) ∧ Aside0 (Kd.R (Kd.int .i64) 3 w' w.heap.size (fun k_ => (w.heap.size ≤ k_)) v2 x2_2) ∧ Aside0 (Below w.heap.size w w'))
       case atStart => exact ⟨(x2_1), (Go.bits .or .u32 (Go.bits .or .u32 ((rd x0_1 0) % 4294967296) ((((rd x0_1 1) % 4294967296) * 256) % 4294967296)) ((((rd x0_1 2) % 4294967296) * 65536) % 4294967296)), (0), (by first | rfl | (simp; done) | (simp [*]; done)), (by first | rfl | (simp; done) | (simp [*]; done)), H', ⟨Nat.le_refl _⟩, ⟨by (with_reducible repeat (first | apply Kd.V_alloc | apply Kd.V_drewN | apply Kd.V_drew)); exact HO_0.out⟩, ⟨ru HO_2.out⟩, ⟨by repeat (with_reducible first | exact HB.out | apply bA | apply bN | apply bD)⟩⟩
       case round =>
        clear H'
        obtain ⟨x2_2, x3_2, x25_2, rfl, rfl, HA, HK2, HO_0, HO_2, HB⟩ := hrel
        cases gk with
        | zero => exact absurd HA.out (by simp [dense_Unpack.l1])
        | succ k2 =>
         have H := HA.out
         clear HA
         simp only [dense_Unpack.l1] at H
         by_cases c7 : x25_2 < 4
         ·
          rw [if_pos c7] at H
          have c7b0 : decide (x25_2 < 4) = true := decide_eq_true c7
          clear c7
          by_cases c8 : x2_2.length < 17592186044416
          ·
           rw [if_pos c8] at H
           have LMc8 := Aside0.mk c8
           clear c8
           obtain ⟨y197, hy197⟩ : ∃ y_ : List Int, y_ = (x2_2 ++ [wrap64 (Go.bits .and .u32 x3_2 63)]) := ⟨_, rfl⟩
           replace H : (dense_Unpack.l1 k2 x0_1 y197 (x3_2 / 64) (wrap64 (x25_2 + 1))) = some r := by first | (rw [hy197]; with_reducible exact H) | (have H2_ := (Option.bind_some _ _).symm.trans H; rw [hy197]; with_reducible exact H2_) | (have H2_ := (Option.bind_some _ _).symm.trans H; with_reducible exact H2_) | with_reducible exact H | (rw [hy197]; exact H) | exact H
           have Ny197 := Aside0.mk hy197
           clear hy197
           have H' := Aside0.mk H
           clear H
           go_wp2_with (first | ((with_reducible refine gate_builtin (b := .append) (xs := #[.tmp 27, .tmp 31]) rfl ?_); at_builtin; refine Kd.R_append (Kd.int .i64) (w0 := w) w.heap.size rfl (.tmp 27) (.tmp 31) 58 3 (.int .i64 0) 8 rfl Try.underlying58 info3 rfl (by decide) (by omega) u2 x2_2 (wrap64 (Go.bits .and .u32 x3_2 63)) [.int .i64 (wrap64 (Go.bits .and .u32 x3_2 63))] (fun k_ => (w.heap.size ≤ k_)) (fun _ => False) rfl rfl ?aP (fun _ hk => hk.elim) ?aF ?aO ?aB ?aS ?aL ?_; (case aP => exact rfl); (case aB => exact (hu HB.out)); (case aF => exact (fun k_ hk => (Nat.le_trans (below_size (hu HB.out)) hk))); (case aO => exact (ru (HO_2.out))); (case aS => exact (below_size (hu HB.out))); (case aL => have := LMc8.out; omega); intro v198 w9 ho hb hg hat; rw [← Ny197.out] at ho; have HO199 := am (ho); replace HO_0 := am (Kd.V_afterv (ok := (fun k_ => (P0_ k_ ∨ w.heap.size ≤ k_))) (by (with_reducible repeat (first | apply Kd.V_alloc | apply Kd.V_drewN | apply Kd.V_drew)); exact HO_0.out) hg hat); replace HB := am (hb); clear HO_2; clear ho hb hg hat))
           repeat (go_quiet (first | ((with_reducible refine gate_builtin (b := .append) (xs := #[.tmp 27, .tmp 31]) rfl ?_); at_builtin; refine Kd.R_append (Kd.int .i64) (w0 := w) w.heap.size rfl (.tmp 27) (.tmp 31) 58 3 (.int .i64 0) 8 rfl Try.underlying58 info3 rfl (by decide) (by omega) u2 x2_2 (wrap64 (Go.bits .and .u32 x3_2 63)) [.int .i64 (wrap64 (Go.bits .and .u32 x3_2 63))] (fun k_ => (w.heap.size ≤ k_)) (fun _ => False) rfl rfl ?aP (fun _ hk => hk.elim) ?aF ?aO ?aB ?aS ?aL ?_; (case aP => exact rfl); (case aB => exact (hu HB.out)); (case aF => exact (fun k_ hk => (Nat.le_trans (below_size (hu HB.out)) hk))); (case aO => exact (ru (HO_2.out))); (case aS => exact (below_size (hu HB.out))); (case aL => have := LMc8.out; omega); intro v198 w9 ho hb hg hat; rw [← Ny197.out] at ho; have HO199 := am (ho); replace HO_0 := am (Kd.V_afterv (ok := (fun k_ => (P0_ k_ ∨ w.heap.size ≤ k_))) (by (with_reducible repeat (first | apply Kd.V_alloc | apply Kd.V_drewN | apply Kd.V_drew)); exact HO_0.out) hg hat); replace HB := am (hb); clear HO_2; clear ho hb hg hat)); try go_wp2_with (first | ((with_reducible refine gate_builtin (b := .append) (xs := #[.tmp 27, .tmp 31]) rfl ?_); at_builtin; refine Kd.R_append (Kd.int .i64) (w0 := w) w.heap.size rfl (.tmp 27) (.tmp 31) 58 3 (.int .i64 0) 8 rfl Try.underlying58 info3 rfl (by decide) (by omega) u2 x2_2 (wrap64 (Go.bits .and .u32 x3_2 63)) [.int .i64 (wrap64 (Go.bits .and .u32 x3_2 63))] (fun k_ => (w.heap.size ≤ k_)) (fun _ => False) rfl rfl ?aP (fun _ hk => hk.elim) ?aF ?aO ?aB ?aS ?aL ?_; (case aP => exact rfl); (case aB => exact (hu HB.out)); (case aF => exact (fun k_ hk => (Nat.le_trans (below_size (hu HB.out)) hk))); (case aO => exact (ru (HO_2.out))); (case aS => exact (below_size (hu HB.out))); (case aL => have := LMc8.out; omega); intro v198 w9 ho hb hg hat; rw [← Ny197.out] at ho; have HO199 := am (ho); replace HO_0 := am (Kd.V_afterv (ok := (fun k_ => (P0_ k_ ∨ w.heap.size ≤ k_))) (by (with_reducible repeat (first | apply Kd.V_alloc | apply Kd.V_drewN | apply Kd.V_drew)); exact HO_0.out) hg hat); replace HB := am (hb); clear HO_2; clear ho hb hg hat)))
           go_roundg k2
           case measure => have := HK1.out; have := HK2.out; omega
           case rel => exact ⟨(y197), (x3_2 / 64), (wrap64 (x25_2 + 1)), (by first | rfl | (simp; done) | (simp [*]; done)), (by first | rfl | (simp; done) | (simp [*]; done)), H', ⟨by have := HK1.out; have := HK2.out; omega⟩, ⟨by (with_reducible repeat (first | apply Kd.V_alloc | apply Kd.V_drewN | apply Kd.V_drew)); exact HO_0.out⟩, ⟨ru HO199.out⟩, ⟨by repeat (with_reducible first | exact HB.out | apply bA | apply bN | apply bD)⟩⟩
          ·
           rw [if_neg c8] at H
           exact absurd H (by simp)
         ·
          rw [if_neg c7] at H
          have c7b0 : decide (x25_2 < 4) = false := decide_eq_false c7
          clear c7
          by_cases c10 : 3 ≤ (x0_1.length : Int)
          ·
           rw [if_pos c10] at H
           have c10b0 := eq_true c10
           have c10b1 : decide (3 ≤ (x0_1.length : Int)) = true := decide_eq_true c10
           clear c10
           obtain ⟨y200, hy200⟩ : ∃ y_ : List Int, y_ = (x0_1.drop 3) := ⟨_, rfl⟩
           replace H : (dense_Unpack.l0 k2 y200 x2_2) = some r := by first | (rw [hy200]; with_reducible exact H) | (have H2_ := (Option.bind_some _ _).symm.trans H; rw [hy200]; with_reducible exact H2_) | (have H2_ := (Option.bind_some _ _).symm.trans H; with_reducible exact H2_) | with_reducible exact H | (rw [hy200]; exact H) | exact H
           have Ny200 := Aside0.mk hy200
           clear hy200
           have H' := Aside0.mk H
           clear H
           have q11 : (3 : Int) ≤ ((x0_1.length : Int) : Int) := of_decide_eq_true (by first | (with_reducible assumption) | assumption)
           obtain ⟨i011, hi011, _, hsz11, _⟩ := info_parts info5
           have hroom11 : x0_1.length ≤ co6 := (Kd.V_reads' HO_0.out).2.1
           have hC11 : Kd.F (Kd.int .u8) _ _ (some ad194) x0_1.length x0_1 := (Kd.V_at (base := w.heap.size) HO_0.out).2.2
           have hcut11 := cut_from (P := Try.prog) 33 5 .i64 Try.underlying33 hi011 1 hsz11 (some ad194) x0_1.length co6 3 (by omega) q11
           have hr11 := Kd.F_cut (m := (3 : Int).toNat) (c := co6) hC11 (by omega) hroom11
           obtain ⟨A11, hA11⟩ : ∃ A1, A1 = (if co6 = (3 : Int).toNat then (some ad194) else ((some ad194) : Option Addr).map (·.add ((3 : Int).toNat * 1))) := ⟨_, rfl⟩
           obtain ⟨c11, hc11⟩ : ∃ c1, c1 = co6 - (3 : Int).toNat := ⟨_, rfl⟩
           have hy11 : y200.length = x0_1.length - (3 : Int).toNat := (by rw [Ny200.out, List.length_drop] <;> omega)
           rw [show (x0_1).drop (3 : Int).toNat = y200 from Ny200.out.symm] at hr11
           replace hr11 : Kd.F (Kd.int .u8) _ _ A11 y200.length y200 := (by rw [hA11]; exact hr11)
           rw [← hy11, ← hA11, ← hc11] at hcut11
           have HO204 := am (show Kd.V (Kd.int .u8) 5 _ w.heap.size _ (.slice A11 y200.length c11) y200 from Kd.V_mk (by rw [hy11, hc11]; exact Nat.sub_le_sub_right hroom11 _) hr11)
           have HC204 := am (show y200.length ≤ c11 from by rw [hy11, hc11]; exact Nat.sub_le_sub_right hroom11 _)
           clear hr11 hC11 hroom11 hi011 hsz11 hc11
           have KY11 := Aside0.mk hy11; have KA11 := Aside0.mk hA11
           clear hy11 hA11
           replace q11 := eq_true q11
           go_wp2
           repeat (go_quiet (fail); try go_wp2)
           go_roundg k2
           case measure => have := HK1.out; have := HK2.out; omega
           case rel => exact ⟨(y200), (x2_2), H', ⟨by have := HK1.out; have := HK2.out; omega⟩, ⟨by (with_reducible repeat (first | apply Kd.V_alloc | apply Kd.V_drewN | apply Kd.V_drew)); exact HO204.out⟩, ⟨ru HO_2.out⟩, ⟨by repeat (with_reducible first | exact HB.out | apply bA | apply bN | apply bD)⟩⟩
          ·
           rw [if_neg c10] at H
           exact absurd H (by simp)
      ·
       rw [if_neg c5] at H
       exact absurd H (by simp)
     ·
      rw [if_neg c4] at H
      exact absurd H (by simp)
    ·
     rw [if_neg c3] at H
     exact absurd H (by simp)
   ·
    rw [if_neg c2] at H
    have c2b0 : decide (3 ≤ (x0_1.length : Int)) = false := decide_eq_false c2
    have c2b1 : decide (3 ≤ x0_1.length) = false := decide_eq_false (by omega)
    clear c2
    obtain rfl := Option.some.inj H
    obtain ⟨Ao12, co12, eo12⟩ := Kd.V_slice HO_0.out
    subst eo12
    go_wp2
    repeat (go_quiet (fail); try go_wp2)
    go_ret
    exact ⟨_, by first | rfl | (simp [errW_none, errW_some] <;> rfl) | (simp [*, errW_none, errW_some] <;> rfl), by (with_reducible repeat (first | apply Kd.R_alloc | apply Kd.R_drewN | apply Kd.R_drew)); exact HO_2.out, by repeat (with_reducible first | exact HB.out | apply bA | apply bN | apply bD)⟩

-- BY HAND: function 72 (octet_New)

-- BY HAND: function 97 (octet_Reader_made)

/-! ### octet_Reader_ready: function 95 -/
def octet_Reader_ready.f (s0_0 : List Int) (s0_1 : Int) (s0_2 : Int) (s0_3 : Bool) : Option (Bool × Int × Int × Bool) := (octet_Reader_made.f s0_0 s0_1 s0_2 s0_3).bind fun bt205 => (if bt205.1 = true then (some ((bt205.2.2.1 == 0), bt205.2.1, bt205.2.2.1, bt205.2.2.2)) else (some (false, bt205.2.1, bt205.2.2.1, bt205.2.2.2)))
set_option maxHeartbeats 1000000 in
set_option maxRecDepth 100000 in
theorem octet_Reader_ready.calls (g r0_ : Nat) (s0_0 : List Int) (s0_1 : Int) (s0_2 : Int) (s0_3 : Bool) (r1 : Bool) (r2 : Int) (r3 : Int) (r4 : Bool) (w0 w : World) (hI : IsS101 w0 w g r0_ s0_0 s0_1 s0_2 s0_3) (hB : Below w0.heap.size w0 w) (h : octet_Reader_ready.f s0_0 s0_1 s0_2 s0_3 = some (r1, r2, r3, r4)) :
  Calls Try.prog 95 #[.pointer (some ⟨g, 0, none⟩)] w fun e w' => e = .returned (.bool r1) ∧ IsS101 w0 w' g r0_ s0_0 r2 r3 r4 ∧ Below w0.heap.size w0 w' ∧ KeepBut w w' g none := by
 have HS := Aside0.mk (And.intro hI hB)
 unfold octet_Reader_ready.f octet_Reader_made.f at h
 rw [Option.bind_some] at h
 clear hI hB
 cases s0_3 with
 | true =>
  rw [if_pos rfl] at h
  simp only [Option.some.injEq, Prod.mk.injEq] at h
  obtain ⟨rfl, rfl, rfl, rfl⟩ := h
  go_enter Try.func95, Try.ntmps95
  go_wp2_with (go_at_call 97; refine (octet_Reader_made.calls g r0_ s0_0 s0_1 s0_2 true true s0_1 s0_2 true w0 _ HS.out.1 HS.out.2 rfl).mono ?_; rintro e w1 ⟨rfl, hi, hb, hk⟩; have HS1 := Aside0.mk (And.intro hi (And.intro hb hk)); obtain ⟨A, c, h1, h2, h7, h8⟩ := hi; have hc0 := cellS101_0 h1; have hc1 := cellS101_1 h1; have hc2 := cellS101_2 h1; clear h1 h2 h7 h8 hb hk)
  repeat (go_quiet (fail); try go_wp2)
  go_ret
  exact ⟨rfl, by first | exact HS1.out | exact ⟨HS1.out.1.drew, below_drew1 HS1.out.2.1, keep_drew HS1.out.2.2⟩ | exact ⟨HS1.out.1.drewN _, pw_below_drewN HS1.out.2.1 _, keep_drewN HS1.out.2.2 _⟩ | exact ⟨(HS1.out.1.drewN _).drew, below_drew1 (pw_below_drewN HS1.out.2.1 _), keep_drew (keep_drewN HS1.out.2.2 _)⟩⟩
 | false =>
  rw [if_neg Bool.false_ne_true] at h
  simp only [Option.some.injEq, Prod.mk.injEq] at h
  obtain ⟨rfl, rfl, rfl, rfl⟩ := h
  go_enter Try.func95, Try.ntmps95
  go_wp2_with (go_at_call 97; refine (octet_Reader_made.calls g r0_ s0_0 s0_1 s0_2 false false s0_1 s0_2 false w0 _ HS.out.1 HS.out.2 rfl).mono ?_; rintro e w1 ⟨rfl, hi, hb, hk⟩; have HS1 := Aside0.mk (And.intro hi (And.intro hb hk)); obtain ⟨A, c, h1, h2, h7, h8⟩ := hi; have hc0 := cellS101_0 h1; have hc1 := cellS101_1 h1; have hc2 := cellS101_2 h1; clear h1 h2 h7 h8 hb hk)
  repeat (go_quiet (fail); try go_wp2)
  go_ret
  exact ⟨rfl, by first | exact HS1.out | exact ⟨HS1.out.1.drew, below_drew1 HS1.out.2.1, keep_drew HS1.out.2.2⟩ | exact ⟨HS1.out.1.drewN _, pw_below_drewN HS1.out.2.1 _, keep_drewN HS1.out.2.2 _⟩ | exact ⟨(HS1.out.1.drewN _).drew, below_drew1 (pw_below_drewN HS1.out.2.1 _), keep_drew (keep_drewN HS1.out.2.2 _)⟩⟩

/-! ### octet_Reader_fail: function 96 -/
def octet_Reader_fail.f (s0_0 : List Int) (s0_1 : Int) (s0_2 : Int) (s0_3 : Bool) (a1 : Int) : Option (Int × Int × Bool) := some (s0_1, a1, s0_3)
set_option maxHeartbeats 8000000 in
set_option maxRecDepth 100000 in
theorem octet_Reader_fail.calls (g r0_ : Nat) (s0_0 : List Int) (s0_1 : Int) (s0_2 : Int) (s0_3 : Bool) (a1 : Int) (r1 : Int) (r2 : Int) (r3 : Bool) (w0 w : World) (hI : IsS101 w0 w g r0_ s0_0 s0_1 s0_2 s0_3) (hB : Below w0.heap.size w0 w) (h : octet_Reader_fail.f s0_0 s0_1 s0_2 s0_3 a1 = some (r1, r2, r3)) :
  Calls Try.prog 96 #[.pointer (some ⟨g, 0, none⟩), .int .i64 a1] w fun e w' => e = .returned (.tuple #[]) ∧ IsS101 w0 w' g r0_ s0_0 r1 r2 r3 ∧ Below w0.heap.size w0 w' ∧ KeepBut w w' g none := by
 have HI0 := Aside0.mk hI
 have HK := am (KeepBut.refl w g none)
 have HL := Aside0.mk hB.size
 clear hI
 have HW0 := Aside0.mk hB.size
 have HB := Aside0.mk hB
 clear hB
 have H : (some (s0_1, a1, s0_3)) = some (r1, r2, r3) := h
 clear h
 simp only [Option.some.injEq, Prod.mk.injEq] at H
 obtain ⟨rfl, rfl, rfl⟩ := H
 obtain ⟨ASz3_0, cSz3_0, HGz3, hgz3, HSz3_0⟩ := HI0.out
 have hcz3_0 := cellS101_0 HGz3
 have hcz3_1 := cellS101_1 HGz3
 have hcz3_2 := cellS101_2 HGz3
 have hcz3_3 := cellS101_3 HGz3
 have hfz3_1 := blk_frozen HGz3 1
 have hfz3_2 := blk_frozen HGz3 2
 have hfz3_3 := blk_frozen HGz3 3
 clear HGz3 hgz3
 go_enter Try.func96, Try.ntmps96
 go_wp2
 first | go_end0 | ((try simp only [Exit.inBlock, Exit.then]); refine bodyPost_ret (results_none rfl _ _ _) rfl ?_)
 exact ⟨by first | rfl | (simp [errW_none, errW_some] <;> rfl) | (simp [*, errW_none, errW_some] <;> rfl), by repeat (with_reducible first | exact HI0.out | apply yA101 | apply yN101 | apply yD101 | apply IsS101.set_1 | apply IsS101.set_2 | apply IsS101.set_3), by repeat (with_reducible first | exact HB.out | apply bA | apply bN | apply bD | refine bS ?_ (IsS101.ge HI0.out)), by repeat (with_reducible first | exact HK.out | apply KeepBut.set_ | apply keep_drewN | apply keep_drew | apply keep_alloc)⟩

-- BY HAND: function 106 (octet_Reader_number)

/-! ### octet_Reader_Number: function 94 -/
def octet_Reader_Number.f (s0_0 : List Int) (s0_1 : Int) (s0_2 : Int) (s0_3 : Bool) : Option (Int × Int × Int × Bool) := (octet_Reader_ready.f s0_0 s0_1 s0_2 s0_3).bind fun bt209 => (if bt209.1 = true then ((octet_Reader_number.f s0_0 bt209.2.1 bt209.2.2.1 bt209.2.2.2).bind fun bt213 => (if bt213.2.2.1 = true then (some (bt213.1, wrap64 (bt213.2.2.2.1 + bt213.2.1), bt213.2.2.2.2.1, bt213.2.2.2.2.2)) else (some (0, bt213.2.2.2.1, bt213.2.2.2.2.1, bt213.2.2.2.2.2)))) else (some (0, bt209.2.1, bt209.2.2.1, bt209.2.2.2)))
set_option maxHeartbeats 8000000 in
set_option maxRecDepth 100000 in
theorem octet_Reader_Number.calls (g r0_ : Nat) (s0_0 : List Int) (s0_1 : Int) (s0_2 : Int) (s0_3 : Bool) (r1 : Int) (r2 : Int) (r3 : Int) (r4 : Bool) (w0 w : World) (hI : IsS101 w0 w g r0_ s0_0 s0_1 s0_2 s0_3) (hB : Below w0.heap.size w0 w) (h : octet_Reader_Number.f s0_0 s0_1 s0_2 s0_3 = some (r1, r2, r3, r4)) :
  Calls Try.prog 94 #[.pointer (some ⟨g, 0, none⟩)] w fun e w' => e = .returned (.int .u64 r1) ∧ IsS101 w0 w' g r0_ s0_0 r2 r3 r4 ∧ Below w0.heap.size w0 w' ∧ KeepBut w w' g none := by
 have HI0 := Aside0.mk hI
 have HK := am (KeepBut.refl w g none)
 have HL := Aside0.mk hB.size
 clear hI
 have HW0 := Aside0.mk hB.size
 have HB := Aside0.mk hB
 clear hB
 have H : ((octet_Reader_ready.f s0_0 s0_1 s0_2 s0_3).bind fun bt209 => (if bt209.1 = true then ((octet_Reader_number.f s0_0 bt209.2.1 bt209.2.2.1 bt209.2.2.2).bind fun bt213 => (if bt213.2.2.1 = true then (some (bt213.1, wrap64 (bt213.2.2.2.1 + bt213.2.1), bt213.2.2.2.2.1, bt213.2.2.2.2.2)) else (some (0, bt213.2.2.2.1, bt213.2.2.2.2.1, bt213.2.2.2.2.2)))) else (some (0, bt209.2.1, bt209.2.2.1, bt209.2.2.2)))) = some (r1, r2, r3, r4) := h
 clear h
 replace H := Option.bind_eq_some_iff.mp H
 obtain ⟨⟨t209, t210, t211, t212⟩, A20, H⟩ := H
 try dsimp only at H
 have A2 := Aside0.mk A20
 clear A20
 by_cases c3 : t209 = true
 ·
  subst c3
  rw [if_pos rfl] at H
  replace H := Option.bind_eq_some_iff.mp H
  obtain ⟨⟨t213, t214, t215, t216, t217, t218⟩, A40, H⟩ := H
  try dsimp only at H
  have A4 := Aside0.mk A40
  clear A40
  by_cases c5 : t215 = true
  ·
   subst c5
   rw [if_pos rfl] at H
   simp only [Option.some.injEq, Prod.mk.injEq] at H
   obtain ⟨rfl, rfl, rfl, rfl⟩ := H
   go_enter Try.func94, Try.ntmps94
   go_wp2_with (first | ((with_reducible refine gate_callee (f := 95) rfl ?_); refine goesL_ (some 7) rfl rfl Try.func95 (by kernel_rfl) rfl #[.pointer (some ⟨g, 0, none⟩)] rfl (by (try simp only [List.map_toArray, List.map_cons, List.map_nil]); first | done | rfl) ?_; (with_reducible refine (octet_Reader_ready.calls g r0_ s0_0 s0_1 s0_2 s0_3 true t210 t211 t212 w0 _ ?side1 ?side2 A2.out).mono ?_); (case side1 => repeat (with_reducible first | exact HI0.out | apply yA101 | apply yN101 | apply yD101 | apply IsS101.set_1 | apply IsS101.set_2 | apply IsS101.set_3)); (case side2 => repeat (with_reducible first | exact HB.out | apply bA | apply bN | apply bD | refine bS ?_ (IsS101.ge HI0.out))); rintro e w6 ⟨rfl, hi, hb, hk⟩; refine ⟨_, rfl, ?_⟩; replace HK := am (KeepBut.trans (by repeat (with_reducible first | exact HK.out | apply KeepBut.set_ | apply keep_drewN | apply keep_drew | apply keep_alloc)) hk (.inl rfl)); replace HB := am (hb); replace HI0 := am (hi); (try clear hb)) | ((with_reducible refine gate_callee (f := 106) rfl ?_); refine goesL_ (some 11) rfl rfl Try.func106 (by kernel_rfl) rfl #[.pointer (some ⟨g, 0, none⟩)] rfl (by (try simp only [List.map_toArray, List.map_cons, List.map_nil]); first | done | rfl) ?_; (with_reducible refine (octet_Reader_number.calls g r0_ s0_0 t210 t211 t212 t213 t214 true t216 t217 t218 w0 _ ?side1 ?side2 A4.out).mono ?_); (case side1 => repeat (with_reducible first | exact HI0.out | apply yA101 | apply yN101 | apply yD101 | apply IsS101.set_1 | apply IsS101.set_2 | apply IsS101.set_3)); (case side2 => repeat (with_reducible first | exact HB.out | apply bA | apply bN | apply bD | refine bS ?_ (IsS101.ge HI0.out))); rintro e w7 ⟨rfl, hi, hb, hk⟩; refine ⟨_, rfl, ?_⟩; replace HK := am (KeepBut.trans (by repeat (with_reducible first | exact HK.out | apply KeepBut.set_ | apply keep_drewN | apply keep_drew | apply keep_alloc)) hk (.inl rfl)); replace HB := am (hb); replace HI0 := am (hi); (try clear hb); obtain ⟨ASz8_0, cSz8_0, HGz8, hgz8, HSz8_0⟩ := HI0.out; have hcz8_0 := cellS101_0 HGz8; have hcz8_1 := cellS101_1 HGz8; have hcz8_2 := cellS101_2 HGz8; have hcz8_3 := cellS101_3 HGz8; have hfz8_1 := blk_frozen HGz8 1; have hfz8_2 := blk_frozen HGz8 2; have hfz8_3 := blk_frozen HGz8 3; clear HGz8 hgz8))
   go_ret
   exact ⟨by first | rfl | (simp [errW_none, errW_some] <;> rfl) | (simp [*, errW_none, errW_some] <;> rfl), by repeat (with_reducible first | exact HI0.out | apply yA101 | apply yN101 | apply yD101 | apply IsS101.set_1 | apply IsS101.set_2 | apply IsS101.set_3), by repeat (with_reducible first | exact HB.out | apply bA | apply bN | apply bD | refine bS ?_ (IsS101.ge HI0.out)), by repeat (with_reducible first | exact HK.out | apply KeepBut.set_ | apply keep_drewN | apply keep_drew | apply keep_alloc)⟩
  ·
   replace c5 := Bool.eq_false_iff.mpr c5
   subst c5
   rw [if_neg Bool.false_ne_true] at H
   simp only [Option.some.injEq, Prod.mk.injEq] at H
   obtain ⟨rfl, rfl, rfl, rfl⟩ := H
   go_enter Try.func94, Try.ntmps94
   go_wp2_with (first | ((with_reducible refine gate_callee (f := 95) rfl ?_); refine goesL_ (some 7) rfl rfl Try.func95 (by kernel_rfl) rfl #[.pointer (some ⟨g, 0, none⟩)] rfl (by (try simp only [List.map_toArray, List.map_cons, List.map_nil]); first | done | rfl) ?_; (with_reducible refine (octet_Reader_ready.calls g r0_ s0_0 s0_1 s0_2 s0_3 true t210 t211 t212 w0 _ ?side1 ?side2 A2.out).mono ?_); (case side1 => repeat (with_reducible first | exact HI0.out | apply yA101 | apply yN101 | apply yD101 | apply IsS101.set_1 | apply IsS101.set_2 | apply IsS101.set_3)); (case side2 => repeat (with_reducible first | exact HB.out | apply bA | apply bN | apply bD | refine bS ?_ (IsS101.ge HI0.out))); rintro e w9 ⟨rfl, hi, hb, hk⟩; refine ⟨_, rfl, ?_⟩; replace HK := am (KeepBut.trans (by repeat (with_reducible first | exact HK.out | apply KeepBut.set_ | apply keep_drewN | apply keep_drew | apply keep_alloc)) hk (.inl rfl)); replace HB := am (hb); replace HI0 := am (hi); (try clear hb)) | ((with_reducible refine gate_callee (f := 106) rfl ?_); refine goesL_ (some 11) rfl rfl Try.func106 (by kernel_rfl) rfl #[.pointer (some ⟨g, 0, none⟩)] rfl (by (try simp only [List.map_toArray, List.map_cons, List.map_nil]); first | done | rfl) ?_; (with_reducible refine (octet_Reader_number.calls g r0_ s0_0 t210 t211 t212 t213 t214 false t216 t217 t218 w0 _ ?side1 ?side2 A4.out).mono ?_); (case side1 => repeat (with_reducible first | exact HI0.out | apply yA101 | apply yN101 | apply yD101 | apply IsS101.set_1 | apply IsS101.set_2 | apply IsS101.set_3)); (case side2 => repeat (with_reducible first | exact HB.out | apply bA | apply bN | apply bD | refine bS ?_ (IsS101.ge HI0.out))); rintro e w10 ⟨rfl, hi, hb, hk⟩; refine ⟨_, rfl, ?_⟩; replace HK := am (KeepBut.trans (by repeat (with_reducible first | exact HK.out | apply KeepBut.set_ | apply keep_drewN | apply keep_drew | apply keep_alloc)) hk (.inl rfl)); replace HB := am (hb); replace HI0 := am (hi); (try clear hb)))
   go_ret
   exact ⟨by first | rfl | (simp [errW_none, errW_some] <;> rfl) | (simp [*, errW_none, errW_some] <;> rfl), by repeat (with_reducible first | exact HI0.out | apply yA101 | apply yN101 | apply yD101 | apply IsS101.set_1 | apply IsS101.set_2 | apply IsS101.set_3), by repeat (with_reducible first | exact HB.out | apply bA | apply bN | apply bD | refine bS ?_ (IsS101.ge HI0.out)), by repeat (with_reducible first | exact HK.out | apply KeepBut.set_ | apply keep_drewN | apply keep_drew | apply keep_alloc)⟩
 ·
  replace c3 := Bool.eq_false_iff.mpr c3
  subst c3
  rw [if_neg Bool.false_ne_true] at H
  simp only [Option.some.injEq, Prod.mk.injEq] at H
  obtain ⟨rfl, rfl, rfl, rfl⟩ := H
  go_enter Try.func94, Try.ntmps94
  go_wp2_with (first | ((with_reducible refine gate_callee (f := 95) rfl ?_); refine goesL_ (some 7) rfl rfl Try.func95 (by kernel_rfl) rfl #[.pointer (some ⟨g, 0, none⟩)] rfl (by (try simp only [List.map_toArray, List.map_cons, List.map_nil]); first | done | rfl) ?_; (with_reducible refine (octet_Reader_ready.calls g r0_ s0_0 s0_1 s0_2 s0_3 false t210 t211 t212 w0 _ ?side1 ?side2 A2.out).mono ?_); (case side1 => repeat (with_reducible first | exact HI0.out | apply yA101 | apply yN101 | apply yD101 | apply IsS101.set_1 | apply IsS101.set_2 | apply IsS101.set_3)); (case side2 => repeat (with_reducible first | exact HB.out | apply bA | apply bN | apply bD | refine bS ?_ (IsS101.ge HI0.out))); rintro e w11 ⟨rfl, hi, hb, hk⟩; refine ⟨_, rfl, ?_⟩; replace HK := am (KeepBut.trans (by repeat (with_reducible first | exact HK.out | apply KeepBut.set_ | apply keep_drewN | apply keep_drew | apply keep_alloc)) hk (.inl rfl)); replace HB := am (hb); replace HI0 := am (hi); (try clear hb)))
  go_ret
  exact ⟨by first | rfl | (simp [errW_none, errW_some] <;> rfl) | (simp [*, errW_none, errW_some] <;> rfl), by repeat (with_reducible first | exact HI0.out | apply yA101 | apply yN101 | apply yD101 | apply IsS101.set_1 | apply IsS101.set_2 | apply IsS101.set_3), by repeat (with_reducible first | exact HB.out | apply bA | apply bN | apply bD | refine bS ?_ (IsS101.ge HI0.out)), by repeat (with_reducible first | exact HK.out | apply KeepBut.set_ | apply keep_drewN | apply keep_drew | apply keep_alloc)⟩

/-! ### octet_Reader_Upto: function 73 -/
def octet_Reader_Upto.f (s0_0 : List Int) (s0_1 : Int) (s0_2 : Int) (s0_3 : Bool) (a1 : Int) : Option (Int × Int × Int × Bool) := (octet_Reader_Number.f s0_0 s0_1 s0_2 s0_3).bind fun bt219 => ((octet_Reader_ready.f s0_0 bt219.2.1 bt219.2.2.1 bt219.2.2.2).bind fun bt223 => (if bt223.1 = true then (if bt219.1 > a1 then ((octet_Reader_fail.f s0_0 bt223.2.1 bt223.2.2.1 bt223.2.2.2 3).bind fun bt227 => (some (0, bt227.1, bt227.2.1, bt227.2.2))) else (some (bt219.1, bt223.2.1, bt223.2.2.1, bt223.2.2.2))) else (some (bt219.1, bt223.2.1, bt223.2.2.1, bt223.2.2.2))))
set_option maxHeartbeats 8000000 in
set_option maxRecDepth 100000 in
theorem octet_Reader_Upto.calls (g r0_ : Nat) (s0_0 : List Int) (s0_1 : Int) (s0_2 : Int) (s0_3 : Bool) (a1 : Int) (r1 : Int) (r2 : Int) (r3 : Int) (r4 : Bool) (w0 w : World) (hI : IsS101 w0 w g r0_ s0_0 s0_1 s0_2 s0_3) (hB : Below w0.heap.size w0 w) (h : octet_Reader_Upto.f s0_0 s0_1 s0_2 s0_3 a1 = some (r1, r2, r3, r4)) :
  Calls Try.prog 73 #[.pointer (some ⟨g, 0, none⟩), .int .u64 a1] w fun e w' => e = .returned (.int .u64 r1) ∧ IsS101 w0 w' g r0_ s0_0 r2 r3 r4 ∧ Below w0.heap.size w0 w' ∧ KeepBut w w' g none := by
 have HI0 := Aside0.mk hI
 have HK := am (KeepBut.refl w g none)
 have HL := Aside0.mk hB.size
 clear hI
 have HW0 := Aside0.mk hB.size
 have HB := Aside0.mk hB
 clear hB
 have H : ((octet_Reader_Number.f s0_0 s0_1 s0_2 s0_3).bind fun bt219 => ((octet_Reader_ready.f s0_0 bt219.2.1 bt219.2.2.1 bt219.2.2.2).bind fun bt223 => (if bt223.1 = true then (if bt219.1 > a1 then ((octet_Reader_fail.f s0_0 bt223.2.1 bt223.2.2.1 bt223.2.2.2 3).bind fun bt227 => (some (0, bt227.1, bt227.2.1, bt227.2.2))) else (some (bt219.1, bt223.2.1, bt223.2.2.1, bt223.2.2.2))) else (some (bt219.1, bt223.2.1, bt223.2.2.1, bt223.2.2.2))))) = some (r1, r2, r3, r4) := h
 clear h
 replace H := Option.bind_eq_some_iff.mp H
 obtain ⟨⟨t219, t220, t221, t222⟩, A30, H⟩ := H
 try dsimp only at H
 have A3 := Aside0.mk A30
 clear A30
 replace H := Option.bind_eq_some_iff.mp H
 obtain ⟨⟨t223, t224, t225, t226⟩, A40, H⟩ := H
 try dsimp only at H
 have A4 := Aside0.mk A40
 clear A40
 by_cases c5 : t223 = true
 ·
  subst c5
  rw [if_pos rfl] at H
  by_cases c6 : t219 > a1
  ·
   rw [if_pos c6] at H
   have c6b0 : decide (a1 < t219) = true := decide_eq_true c6
   clear c6
   replace H := Option.bind_eq_some_iff.mp H
   obtain ⟨⟨t227, t228, t229⟩, A70, H⟩ := H
   try dsimp only at H
   have A7 := Aside0.mk A70
   clear A70
   simp only [Option.some.injEq, Prod.mk.injEq] at H
   obtain ⟨rfl, rfl, rfl, rfl⟩ := H
   go_enter Try.func73, Try.ntmps73
   go_wp2_with (first | ((with_reducible refine gate_callee (f := 94) rfl ?_); refine goesL_ (some 7) rfl rfl Try.func94 (by kernel_rfl) rfl #[.pointer (some ⟨g, 0, none⟩)] rfl (by (try simp only [List.map_toArray, List.map_cons, List.map_nil]); first | done | rfl) ?_; (with_reducible refine (octet_Reader_Number.calls g r0_ s0_0 s0_1 s0_2 s0_3 t219 t220 t221 t222 w0 _ ?side1 ?side2 A3.out).mono ?_); (case side1 => repeat (with_reducible first | exact HI0.out | apply yA101 | apply yN101 | apply yD101 | apply IsS101.set_1 | apply IsS101.set_2 | apply IsS101.set_3)); (case side2 => repeat (with_reducible first | exact HB.out | apply bA | apply bN | apply bD | refine bS ?_ (IsS101.ge HI0.out))); rintro e w8 ⟨rfl, hi, hb, hk⟩; refine ⟨_, rfl, ?_⟩; replace HK := am (KeepBut.trans (by repeat (with_reducible first | exact HK.out | apply KeepBut.set_ | apply keep_drewN | apply keep_drew | apply keep_alloc)) hk (.inl rfl)); replace HB := am (hb); replace HI0 := am (hi); (try clear hb)) | ((with_reducible refine gate_callee (f := 95) rfl ?_); refine goesL_ (some 9) rfl rfl Try.func95 (by kernel_rfl) rfl #[.pointer (some ⟨g, 0, none⟩)] rfl (by (try simp only [List.map_toArray, List.map_cons, List.map_nil]); first | done | rfl) ?_; (with_reducible refine (octet_Reader_ready.calls g r0_ s0_0 t220 t221 t222 true t224 t225 t226 w0 _ ?side1 ?side2 A4.out).mono ?_); (case side1 => repeat (with_reducible first | exact HI0.out | apply yA101 | apply yN101 | apply yD101 | apply IsS101.set_1 | apply IsS101.set_2 | apply IsS101.set_3)); (case side2 => repeat (with_reducible first | exact HB.out | apply bA | apply bN | apply bD | refine bS ?_ (IsS101.ge HI0.out))); rintro e w9 ⟨rfl, hi, hb, hk⟩; refine ⟨_, rfl, ?_⟩; replace HK := am (KeepBut.trans (by repeat (with_reducible first | exact HK.out | apply KeepBut.set_ | apply keep_drewN | apply keep_drew | apply keep_alloc)) hk (.inl rfl)); replace HB := am (hb); replace HI0 := am (hi); (try clear hb)) | ((with_reducible refine gate_callee (f := 96) rfl ?_); refine goesL_ (some 16) rfl rfl Try.func96 (by kernel_rfl) rfl #[.pointer (some ⟨g, 0, none⟩), .int .i64 3] rfl (by (try simp only [List.map_toArray, List.map_cons, List.map_nil]); first | done | rfl) ?_; (with_reducible refine (octet_Reader_fail.calls g r0_ s0_0 t224 t225 t226 3 t227 t228 t229 w0 _ ?side1 ?side2 A7.out).mono ?_); (case side1 => repeat (with_reducible first | exact HI0.out | apply yA101 | apply yN101 | apply yD101 | apply IsS101.set_1 | apply IsS101.set_2 | apply IsS101.set_3)); (case side2 => repeat (with_reducible first | exact HB.out | apply bA | apply bN | apply bD | refine bS ?_ (IsS101.ge HI0.out))); rintro e w10 ⟨rfl, hi, hb, hk⟩; refine ⟨_, rfl, ?_⟩; replace HK := am (KeepBut.trans (by repeat (with_reducible first | exact HK.out | apply KeepBut.set_ | apply keep_drewN | apply keep_drew | apply keep_alloc)) hk (.inl rfl)); replace HB := am (hb); replace HI0 := am (hi); (try clear hb)))
   go_ret
   exact ⟨by first | rfl | (simp [errW_none, errW_some] <;> rfl) | (simp [*, errW_none, errW_some] <;> rfl), by repeat (with_reducible first | exact HI0.out | apply yA101 | apply yN101 | apply yD101 | apply IsS101.set_1 | apply IsS101.set_2 | apply IsS101.set_3), by repeat (with_reducible first | exact HB.out | apply bA | apply bN | apply bD | refine bS ?_ (IsS101.ge HI0.out)), by repeat (with_reducible first | exact HK.out | apply KeepBut.set_ | apply keep_drewN | apply keep_drew | apply keep_alloc)⟩
  ·
   rw [if_neg c6] at H
   have c6b0 : decide (a1 < t219) = false := decide_eq_false c6
   clear c6
   simp only [Option.some.injEq, Prod.mk.injEq] at H
   obtain ⟨rfl, rfl, rfl, rfl⟩ := H
   go_enter Try.func73, Try.ntmps73
   go_wp2_with (first | ((with_reducible refine gate_callee (f := 94) rfl ?_); refine goesL_ (some 7) rfl rfl Try.func94 (by kernel_rfl) rfl #[.pointer (some ⟨g, 0, none⟩)] rfl (by (try simp only [List.map_toArray, List.map_cons, List.map_nil]); first | done | rfl) ?_; (with_reducible refine (octet_Reader_Number.calls g r0_ s0_0 s0_1 s0_2 s0_3 t219 t220 t221 t222 w0 _ ?side1 ?side2 A3.out).mono ?_); (case side1 => repeat (with_reducible first | exact HI0.out | apply yA101 | apply yN101 | apply yD101 | apply IsS101.set_1 | apply IsS101.set_2 | apply IsS101.set_3)); (case side2 => repeat (with_reducible first | exact HB.out | apply bA | apply bN | apply bD | refine bS ?_ (IsS101.ge HI0.out))); rintro e w11 ⟨rfl, hi, hb, hk⟩; refine ⟨_, rfl, ?_⟩; replace HK := am (KeepBut.trans (by repeat (with_reducible first | exact HK.out | apply KeepBut.set_ | apply keep_drewN | apply keep_drew | apply keep_alloc)) hk (.inl rfl)); replace HB := am (hb); replace HI0 := am (hi); (try clear hb)) | ((with_reducible refine gate_callee (f := 95) rfl ?_); refine goesL_ (some 9) rfl rfl Try.func95 (by kernel_rfl) rfl #[.pointer (some ⟨g, 0, none⟩)] rfl (by (try simp only [List.map_toArray, List.map_cons, List.map_nil]); first | done | rfl) ?_; (with_reducible refine (octet_Reader_ready.calls g r0_ s0_0 t220 t221 t222 true t224 t225 t226 w0 _ ?side1 ?side2 A4.out).mono ?_); (case side1 => repeat (with_reducible first | exact HI0.out | apply yA101 | apply yN101 | apply yD101 | apply IsS101.set_1 | apply IsS101.set_2 | apply IsS101.set_3)); (case side2 => repeat (with_reducible first | exact HB.out | apply bA | apply bN | apply bD | refine bS ?_ (IsS101.ge HI0.out))); rintro e w12 ⟨rfl, hi, hb, hk⟩; refine ⟨_, rfl, ?_⟩; replace HK := am (KeepBut.trans (by repeat (with_reducible first | exact HK.out | apply KeepBut.set_ | apply keep_drewN | apply keep_drew | apply keep_alloc)) hk (.inl rfl)); replace HB := am (hb); replace HI0 := am (hi); (try clear hb)))
   go_ret
   exact ⟨by first | rfl | (simp [errW_none, errW_some] <;> rfl) | (simp [*, errW_none, errW_some] <;> rfl), by repeat (with_reducible first | exact HI0.out | apply yA101 | apply yN101 | apply yD101 | apply IsS101.set_1 | apply IsS101.set_2 | apply IsS101.set_3), by repeat (with_reducible first | exact HB.out | apply bA | apply bN | apply bD | refine bS ?_ (IsS101.ge HI0.out)), by repeat (with_reducible first | exact HK.out | apply KeepBut.set_ | apply keep_drewN | apply keep_drew | apply keep_alloc)⟩
 ·
  replace c5 := Bool.eq_false_iff.mpr c5
  subst c5
  rw [if_neg Bool.false_ne_true] at H
  simp only [Option.some.injEq, Prod.mk.injEq] at H
  obtain ⟨rfl, rfl, rfl, rfl⟩ := H
  go_enter Try.func73, Try.ntmps73
  go_wp2_with (first | ((with_reducible refine gate_callee (f := 94) rfl ?_); refine goesL_ (some 7) rfl rfl Try.func94 (by kernel_rfl) rfl #[.pointer (some ⟨g, 0, none⟩)] rfl (by (try simp only [List.map_toArray, List.map_cons, List.map_nil]); first | done | rfl) ?_; (with_reducible refine (octet_Reader_Number.calls g r0_ s0_0 s0_1 s0_2 s0_3 t219 t220 t221 t222 w0 _ ?side1 ?side2 A3.out).mono ?_); (case side1 => repeat (with_reducible first | exact HI0.out | apply yA101 | apply yN101 | apply yD101 | apply IsS101.set_1 | apply IsS101.set_2 | apply IsS101.set_3)); (case side2 => repeat (with_reducible first | exact HB.out | apply bA | apply bN | apply bD | refine bS ?_ (IsS101.ge HI0.out))); rintro e w13 ⟨rfl, hi, hb, hk⟩; refine ⟨_, rfl, ?_⟩; replace HK := am (KeepBut.trans (by repeat (with_reducible first | exact HK.out | apply KeepBut.set_ | apply keep_drewN | apply keep_drew | apply keep_alloc)) hk (.inl rfl)); replace HB := am (hb); replace HI0 := am (hi); (try clear hb)) | ((with_reducible refine gate_callee (f := 95) rfl ?_); refine goesL_ (some 9) rfl rfl Try.func95 (by kernel_rfl) rfl #[.pointer (some ⟨g, 0, none⟩)] rfl (by (try simp only [List.map_toArray, List.map_cons, List.map_nil]); first | done | rfl) ?_; (with_reducible refine (octet_Reader_ready.calls g r0_ s0_0 t220 t221 t222 false t224 t225 t226 w0 _ ?side1 ?side2 A4.out).mono ?_); (case side1 => repeat (with_reducible first | exact HI0.out | apply yA101 | apply yN101 | apply yD101 | apply IsS101.set_1 | apply IsS101.set_2 | apply IsS101.set_3)); (case side2 => repeat (with_reducible first | exact HB.out | apply bA | apply bN | apply bD | refine bS ?_ (IsS101.ge HI0.out))); rintro e w14 ⟨rfl, hi, hb, hk⟩; refine ⟨_, rfl, ?_⟩; replace HK := am (KeepBut.trans (by repeat (with_reducible first | exact HK.out | apply KeepBut.set_ | apply keep_drewN | apply keep_drew | apply keep_alloc)) hk (.inl rfl)); replace HB := am (hb); replace HI0 := am (hi); (try clear hb)))
  go_ret
  exact ⟨by first | rfl | (simp [errW_none, errW_some] <;> rfl) | (simp [*, errW_none, errW_some] <;> rfl), by repeat (with_reducible first | exact HI0.out | apply yA101 | apply yN101 | apply yD101 | apply IsS101.set_1 | apply IsS101.set_2 | apply IsS101.set_3), by repeat (with_reducible first | exact HB.out | apply bA | apply bN | apply bD | refine bS ?_ (IsS101.ge HI0.out)), by repeat (with_reducible first | exact HK.out | apply KeepBut.set_ | apply keep_drewN | apply keep_drew | apply keep_alloc)⟩

-- BY HAND: function 74 (octet_Reader_Fixed)

/-! ### octet_Reader_Err: function 75 -/
def octet_Reader_Err.f (s0_0 : List Int) (s0_1 : Int) (s0_2 : Int) (s0_3 : Bool) : Option (Int × Int × Int × Bool) := (octet_Reader_made.f s0_0 s0_1 s0_2 s0_3).bind fun bt230 => (if bt230.1 = true then (some (bt230.2.2.1, bt230.2.1, bt230.2.2.1, bt230.2.2.2)) else (some (1, bt230.2.1, bt230.2.2.1, bt230.2.2.2)))
set_option maxHeartbeats 1000000 in
set_option maxRecDepth 100000 in
theorem octet_Reader_Err.calls (g r0_ : Nat) (s0_0 : List Int) (s0_1 : Int) (s0_2 : Int) (s0_3 : Bool) (r1 : Int) (r2 : Int) (r3 : Int) (r4 : Bool) (w0 w : World) (hI : IsS101 w0 w g r0_ s0_0 s0_1 s0_2 s0_3) (hB : Below w0.heap.size w0 w) (h : octet_Reader_Err.f s0_0 s0_1 s0_2 s0_3 = some (r1, r2, r3, r4)) :
  Calls Try.prog 75 #[.pointer (some ⟨g, 0, none⟩)] w fun e w' => e = .returned (.int .i64 r1) ∧ IsS101 w0 w' g r0_ s0_0 r2 r3 r4 ∧ Below w0.heap.size w0 w' ∧ KeepBut w w' g none := by
 have HS := Aside0.mk (And.intro hI hB)
 unfold octet_Reader_Err.f octet_Reader_made.f at h
 rw [Option.bind_some] at h
 clear hI hB
 cases s0_3 with
 | true =>
  rw [if_pos rfl] at h
  simp only [Option.some.injEq, Prod.mk.injEq] at h
  obtain ⟨rfl, rfl, rfl, rfl⟩ := h
  go_enter Try.func75, Try.ntmps75
  go_wp2_with (go_at_call 97; refine (octet_Reader_made.calls g r0_ s0_0 s0_1 s0_2 true true s0_1 s0_2 true w0 _ HS.out.1 HS.out.2 rfl).mono ?_; rintro e w1 ⟨rfl, hi, hb, hk⟩; have HS1 := Aside0.mk (And.intro hi (And.intro hb hk)); obtain ⟨A, c, h1, h2, h7, h8⟩ := hi; have hc0 := cellS101_0 h1; have hc1 := cellS101_1 h1; have hc2 := cellS101_2 h1; clear h1 h2 h7 h8 hb hk)
  repeat (go_quiet (fail); try go_wp2)
  go_ret
  exact ⟨rfl, by first | exact HS1.out | exact ⟨HS1.out.1.drew, below_drew1 HS1.out.2.1, keep_drew HS1.out.2.2⟩ | exact ⟨HS1.out.1.drewN _, pw_below_drewN HS1.out.2.1 _, keep_drewN HS1.out.2.2 _⟩ | exact ⟨(HS1.out.1.drewN _).drew, below_drew1 (pw_below_drewN HS1.out.2.1 _), keep_drew (keep_drewN HS1.out.2.2 _)⟩⟩
 | false =>
  rw [if_neg Bool.false_ne_true] at h
  simp only [Option.some.injEq, Prod.mk.injEq] at h
  obtain ⟨rfl, rfl, rfl, rfl⟩ := h
  go_enter Try.func75, Try.ntmps75
  go_wp2_with (go_at_call 97; refine (octet_Reader_made.calls g r0_ s0_0 s0_1 s0_2 false false s0_1 s0_2 false w0 _ HS.out.1 HS.out.2 rfl).mono ?_; rintro e w1 ⟨rfl, hi, hb, hk⟩; have HS1 := Aside0.mk (And.intro hi (And.intro hb hk)); obtain ⟨A, c, h1, h2, h7, h8⟩ := hi; have hc0 := cellS101_0 h1; have hc1 := cellS101_1 h1; have hc2 := cellS101_2 h1; clear h1 h2 h7 h8 hb hk)
  repeat (go_quiet (fail); try go_wp2)
  go_ret
  exact ⟨rfl, by first | exact HS1.out | exact ⟨HS1.out.1.drew, below_drew1 HS1.out.2.1, keep_drew HS1.out.2.2⟩ | exact ⟨HS1.out.1.drewN _, pw_below_drewN HS1.out.2.1 _, keep_drewN HS1.out.2.2 _⟩ | exact ⟨(HS1.out.1.drewN _).drew, below_drew1 (pw_below_drewN HS1.out.2.1 _), keep_drew (keep_drewN HS1.out.2.2 _)⟩⟩

end Go.Proofs.Ytbclnjinpcfpjaa.H
