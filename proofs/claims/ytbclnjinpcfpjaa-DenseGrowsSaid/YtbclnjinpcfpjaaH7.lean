-- Made by this session's own call of the printer (functions that are proved by hand are taken from a text beside it).
import Derived.Test.YtbclnjinpcfpjaaZ4
import Derived.Test.YtbclnjinpcfpjaaZ5
import Derived.Test.YtbclnjinpcfpjaaM6
import Derived.Test.YtbclnjinpcfpjaaH0
import Derived.Test.YtbclnjinpcfpjaaH4
import Derived.Test.YtbclnjinpcfpjaaH5
import Derived.Test.YtbclnjinpcfpjaaH6
namespace Go.Proofs.Ytbclnjinpcfpjaa.H
open Go.RowKit Go.Proofs.YtbclnjinpcfpjaaW.PrintWords Go.Proofs.YtbclnjinpcfpjaaW.PrintLast Go.Proofs.YtbclnjinpcfpjaaW.PrintMore
attribute [local go_sem] max2_int min2_int max_two min_two max_three min_three max_four min_four   -- for this text's walks alone
set_option linter.unusedVariables false
set_option linter.unusedSimpArgs false

/-! ### dense_Read: function 34 -/
mutual
def dense_Read.j0 : Nat → List Int → Bool → Option (Int × (List (S32)) × Int)
 | 0, _, _ => none
 | k + 1, x0, x27 => if x27 = true then (some (0, ([] : List (S32)), 4)) else (if 0 < (x0.length : Int) then (if 1 < (x0.length : Int) then (if (rd x0 1) = 0 then (if 2 ≤ (x0.length : Int) then ((octet_New.f (x0.drop 2)).bind fun bt256 => (if 0 ≤ (wrap64 (rd x0 0)) then ((octet_Reader_Upto.f bt256.1 bt256.2.1 bt256.2.2.1 bt256.2.2.2 (shl .u64 1 (wrap64 (rd x0 0)))).bind fun bt261 => (dense_Read.l0 k x0 (-1) bt261.1 0 (wrap64 (rd x0 0)) ([] : List (S32)) bt256.1 bt261.2.1 bt261.2.2.1 bt261.2.2.2)) else (none))) else (none)) else (if (rd x0 1) = 1 then (if 0 ≤ (wrap64 (rd x0 0)) then (if (wrap64 ((x0.length : Int) - 2)) = (wrap64 (Int.tdiv (shl .i64 6 (wrap64 (rd x0 0))) 8)) then (if 2 ≤ (x0.length : Int) then ((dense_Unpack.f k (x0.drop 2)).bind fun t292 => (dense_Read.l1 k x0 t292 (t292.length : Int) 0 (wrap64 (rd x0 0)) ([] : List (S32)))) else (none)) else (some (0, ([] : List (S32)), 4))) else (none)) else ((dense_Bytes.f k (wrap64 (rd x0 0)) ([] : List (S32))).bind fun bt303 => (if bt303.2 = 0 then (if (strOfNums bt303.1).toList = (strOfNums x0).toList then (some (wrap64 (rd x0 0), ([] : List (S32)), 0)) else (some (0, ([] : List (S32)), 4))) else (some (0, ([] : List (S32)), 4)))))) else (none)) else (none))
def dense_Read.l0 : Nat → List Int → Int → Int → Int → Int → List (S32) → List Int → Int → Int → Bool → Option (Int × (List (S32)) × Int)
 | 0, _, _, _, _, _, _, _, _, _, _ => none
 | k + 1, x0, x6, x46, x47, x254000, x254001, x261000, x261001, x261002, x261003 => if x47 < x46 then (if 0 ≤ x254000 then ((octet_Reader_Upto.f x261000 x261001 x261002 x261003 (shl .u64 1 x254000)).bind fun bt265 => ((octet_Reader_Fixed.f x261000 bt265.2.1 bt265.2.2.1 bt265.2.2.2 1).bind fun bt269 => ((octet_Reader_Err.f x261000 bt269.2.1 bt269.2.2.1 bt269.2.2.2).bind fun bt275 => (if bt275.1 = 0 then (if 0 < (bt269.1.length : Int) then (if x254001.length < 8796093022208 then (dense_Read.l0 k x0 (wrap64 ((wrap64 (x6 + 1)) + (wrap64 (bt265.1)))) x46 (IntKind.u64.wrap (x47 + 1)) x254000 (x254001 ++ [(⟨wrap64 ((wrap64 (x6 + 1)) + (wrap64 (bt265.1))), wrap64 (rd bt269.1 0)⟩ : S32)]) x261000 bt275.2.1 bt275.2.2.1 bt275.2.2.2) else (none)) else (none)) else (some (0, ([] : List (S32)), 4)))))) else (none)) else ((octet_Reader_End.f x261000 x261001 x261002 x261003).bind fun bt283 => (if bt283.1 = 0 then ((dense_Bytes.f k x254000 x254001).bind fun bt287 => (if bt287.2 = 0 then (if (strOfNums bt287.1).toList = (strOfNums x0).toList then (some (x254000, x254001, 0)) else (some (0, ([] : List (S32)), 4))) else (some (0, ([] : List (S32)), 4)))) else (some (0, ([] : List (S32)), 4))))
def dense_Read.l1 : Nat → List Int → List Int → Int → Int → Int → List (S32) → Option (Int × (List (S32)) × Int)
 | 0, _, _, _, _, _, _ => none
 | k + 1, x0, x94, x95, x96, x254000, x254001 => if x96 < x95 then (if 0 ≤ x96 then (if x96 < (x94.length : Int) then (if (rd x94 x96) > 0 then (if x254001.length < 8796093022208 then (dense_Read.l1 k x0 x94 x95 (wrap64 (x96 + 1)) x254000 (x254001 ++ [(⟨x96, rd x94 x96⟩ : S32)])) else (none)) else (dense_Read.l1 k x0 x94 x95 (wrap64 (x96 + 1)) x254000 x254001)) else (none)) else (none)) else ((dense_Bytes.f k x254000 x254001).bind fun bt299 => (if bt299.2 = 0 then (if (strOfNums bt299.1).toList = (strOfNums x0).toList then (some (x254000, x254001, 0)) else (some (0, ([] : List (S32)), 4))) else (some (0, ([] : List (S32)), 4))))
end
def dense_Read.f (k : Nat) (l0 : List Int) : Option (Int × (List (S32)) × Int) := if (l0.length : Int) < 2 then (dense_Read.j0 k l0 true) else (if 0 < (l0.length : Int) then (if (rd l0 0) < 4 then (dense_Read.j0 k l0 true) else (dense_Read.j0 k l0 (decide ((rd l0 0) > 16)))) else (none))
theorem dense_Read.mono_l : ∀ k, (∀ y0 y1, LeO (dense_Read.j0 k y0 y1) (dense_Read.j0 (k + 1) y0 y1)) ∧ (∀ y0 y1 y2 y3 y4 y5 y6 y7 y8 y9, LeO (dense_Read.l0 k y0 y1 y2 y3 y4 y5 y6 y7 y8 y9) (dense_Read.l0 (k + 1) y0 y1 y2 y3 y4 y5 y6 y7 y8 y9)) ∧ (∀ y0 y1 y2 y3 y4 y5, LeO (dense_Read.l1 k y0 y1 y2 y3 y4 y5) (dense_Read.l1 (k + 1) y0 y1 y2 y3 y4 y5))
 | 0 => ⟨fun _ _ r h => by simp [dense_Read.j0] at h, fun _ _ _ _ _ _ _ _ _ _ r h => by simp [dense_Read.l0] at h, fun _ _ _ _ _ _ r h => by simp [dense_Read.l1] at h⟩
 | k + 1 => by
  obtain ⟨ih0, ih1, ih2⟩ := dense_Read.mono_l k
  refine ⟨?_, ?_, ?_⟩
  ·
   intro y0 y1
   unfold dense_Read.j0
   repeat' first
   | (with_reducible exact ih0 _ _)
   | (with_reducible exact ih1 _ _ _ _ _ _ _ _ _ _)
   | (with_reducible exact ih2 _ _ _ _ _ _)
   | (with_reducible exact dense_Bytes.mono _ _ _)
   | (with_reducible exact dense_Unpack.mono _ _)
   | (with_reducible exact LeO.refl _)
   | (with_reducible exact LeO.none _)
   | (with_reducible refine LeO.ite ?_ ?_)
   | (with_reducible refine LeO.bind ?_ (fun _ => ?_))
  ·
   intro y0 y1 y2 y3 y4 y5 y6 y7 y8 y9
   unfold dense_Read.l0
   repeat' first
   | (with_reducible exact ih0 _ _)
   | (with_reducible exact ih1 _ _ _ _ _ _ _ _ _ _)
   | (with_reducible exact ih2 _ _ _ _ _ _)
   | (with_reducible exact dense_Bytes.mono _ _ _)
   | (with_reducible exact dense_Unpack.mono _ _)
   | (with_reducible exact LeO.refl _)
   | (with_reducible exact LeO.none _)
   | (with_reducible refine LeO.ite ?_ ?_)
   | (with_reducible refine LeO.bind ?_ (fun _ => ?_))
  ·
   intro y0 y1 y2 y3 y4 y5
   unfold dense_Read.l1
   repeat' first
   | (with_reducible exact ih0 _ _)
   | (with_reducible exact ih1 _ _ _ _ _ _ _ _ _ _)
   | (with_reducible exact ih2 _ _ _ _ _ _)
   | (with_reducible exact dense_Bytes.mono _ _ _)
   | (with_reducible exact dense_Unpack.mono _ _)
   | (with_reducible exact LeO.refl _)
   | (with_reducible exact LeO.none _)
   | (with_reducible refine LeO.ite ?_ ?_)
   | (with_reducible refine LeO.bind ?_ (fun _ => ?_))
theorem dense_Read.mono : ∀ a0 k, LeO (dense_Read.f k a0) (dense_Read.f (k + 1) a0) := by
 intro a0 k
 obtain ⟨ih0, ih1, ih2⟩ := dense_Read.mono_l k
 unfold dense_Read.f
 repeat' first
   | (with_reducible exact ih0 _ _)
   | (with_reducible exact ih1 _ _ _ _ _ _ _ _ _ _)
   | (with_reducible exact ih2 _ _ _ _ _ _)
   | (with_reducible exact dense_Bytes.mono _ _ _)
   | (with_reducible exact dense_Unpack.mono _ _)
   | (with_reducible exact LeO.refl _)
   | (with_reducible exact LeO.none _)
   | (with_reducible refine LeO.ite ?_ ?_)
   | (with_reducible refine LeO.bind ?_ (fun _ => ?_))
def dense_Read.T14 : Bool × List (List Nat × List Nat) := (true, [([], []), ([0], [0]), ([], []), ([], []), ([3], [3]), ([4], [4]), ([5], [5]), ([2, 6], [2, 6]), ([7], [7]), ([1, 8], [1, 8]), ([0, 1, 2, 3, 4, 5, 6, 7, 8, 9], []), ([10, 9, 9, 0, 1, 2, 3, 4, 5, 6, 7, 8, 9], [9, 10])])
def dense_Read.B14 : List Nat := [0, 1, 0, 0, 8, 24, 56, 124, 252, 511, 1023, 2047]
theorem dense_Read.tab14 : rtab .any (opsOf Try.f34 14) = dense_Read.T14 := by kernel_rfl
theorem dense_Read.bits14 : waitsOk dense_Read.T14.2 dense_Read.B14 = true := by kernel_rfl
set_option maxHeartbeats 8000000 in
set_option maxRecDepth 100000 in
theorem dense_Read.calls (k : Nat) (A0 : Option Addr) (c0 : Nat) (l0 : List Int) (r1 : Int) (r2 : List (S32)) (r3 : Int) (w : World) (hr0 : Kd.C (Kd.int .u8) w A0 l0.length l0) (hc0 : l0.length ≤ c0) (h : dense_Read.f k l0 = some (r1, r2, r3)) :
  Calls Try.prog 34 #[.slice A0 l0.length c0] w fun e w' => ∃ v1_ : Value, e = .returned (.tuple #[.agg #[.int .i64 r1, v1_], .int .i64 r3]) ∧ Kd.R k32 32 w' w.heap.size (fun _ => True) v1_ r2 ∧ Below w.heap.size w w' := by
 have hu30 := Try.underlying30
 have hu32 := Try.underlying32
 have HR0 := Aside0.mk hr0
 have HC0 := Aside0.mk hc0
 clear hr0 hc0
 have HB := am (Below.refl w.heap.size w)
 have H : (if (l0.length : Int) < 2 then (dense_Read.j0 k l0 true) else (if 0 < (l0.length : Int) then (if (rd l0 0) < 4 then (dense_Read.j0 k l0 true) else (dense_Read.j0 k l0 (decide ((rd l0 0) > 16)))) else (none))) = some (r1, r2, r3) := h
 clear h
 have HC2 := Aside0.mk H
 clear H
 go_enter Try.func34, Try.ntmps34
 go_upto_region 1 with (first | ((with_reducible refine gate_dst (N := 2) rfl ?_); refine box_event ?hg (N := 2) ?hd (cs := #[.int .i64 0, .slice none 0 0]) (t := 30) ?hr ?_; (case hd => rfl); (case hg => rfl); (case hr => go_simp; try rfl); intro gb249 hg w3 hbox hb; obtain ⟨HBn, GW249⟩ := tri hg hb (hu HB.out); have GE249 := GW249; have BK249 := am (hbox); clear HB; have HB := HBn; clear HBn; clear hb hbox hg))
 (try simp only [Act.put, List.setIfInBounds_toArray, List.set_cons_zero, List.set_cons_succ])
 go_cut [27] (fun v27 wc => ∃ (kq : Nat) (x27_1 : Bool), v27 = .bool x27_1 ∧ Aside0 (dense_Read.j0 kq l0 x27_1 = some (r1, r2, r3)) ∧ Aside0 (kq ≤ k) ∧ Aside0 (wc.heap[gb249]? = some (.cells #[.int .i64 0, (.slice none 0 0)] 30 (0, 0))) ∧ Aside0 (Below w.heap.size w wc))
 case first =>
  have H := HC2.out
  clear HC2
  by_cases c4 : (l0.length : Int) < 2
  ·
   rw [if_pos c4] at H
   have c4b0 : decide ((l0.length : Int) < 2) = true := decide_eq_true c4
   have c4b1 : decide (l0.length < 2) = true := decide_eq_true (by omega)
   clear c4
   (first | rw [c4b0] | (simp only [i64_w, i32_w]; rw [c4b0]) | skip)
   have H' := Aside0.mk H
   clear H
   go_wp2
   go_meet
   case rel => exact ⟨_, (true), (by first | rfl | (simp; done) | (simp [*]; done)), H', ⟨by first | omega | exact Nat.le_refl _⟩, ⟨bu BK249.out⟩, ⟨by repeat (with_reducible first | exact HB.out | apply bA | apply bN | apply bD | refine bS ?_ ao)⟩⟩
  ·
   rw [if_neg c4] at H
   have c4b0 : decide ((l0.length : Int) < 2) = false := decide_eq_false c4
   have c4b1 : decide (l0.length < 2) = false := decide_eq_false (by omega)
   clear c4
   (first | rw [c4b0] | (simp only [i64_w, i32_w]; rw [c4b0]) | skip)
   by_cases c5 : 0 < (l0.length : Int)
   ·
    rw [if_pos c5] at H
    have c5b0 : decide (0 < (l0.length : Int)) = true := decide_eq_true c5
    have c5b1 : decide (0 < l0.length) = true := decide_eq_true (by omega)
    clear c5
    by_cases c6 : (rd l0 0) < 4
    ·
     rw [if_pos c6] at H
     have c6b0 : decide ((rd l0 0) < 4) = true := decide_eq_true c6
     clear c6
     have H' := Aside0.mk H
     clear H
     have p250 : 0 ≤ (0 : Int) := (by omega)
     have q250 : 0 < (l0.length : Int) := of_decide_eq_true (by first | (with_reducible assumption) | assumption)
     obtain ⟨ad250, e250, hx250_0⟩ := Kd.at_int HR0.out 0 p250 q250
     cases e250
     have qi250 : (0 < l0.length) = True := eq_true (by omega)
     (try rw [show ((0 : Int)).toNat = 0 from rfl] at hx250_0)
     (try rw [Addr.add_zero'] at hx250_0)
     replace hx250_0 := (HB.out.cell (World.block_lt_of_cell? w _ hx250_0)).trans hx250_0
     replace p250 := eq_true p250
     replace q250 := eq_true q250
     go_wp2
     go_meet
     case rel => exact ⟨_, (true), (by first | rfl | (simp; done) | (simp [*]; done)), H', ⟨by first | omega | exact Nat.le_refl _⟩, ⟨bu BK249.out⟩, ⟨by repeat (with_reducible first | exact HB.out | apply bA | apply bN | apply bD | refine bS ?_ ao)⟩⟩
    ·
     rw [if_neg c6] at H
     have c6b0 : decide ((rd l0 0) < 4) = false := decide_eq_false c6
     clear c6
     have H' := Aside0.mk H
     clear H
     have p250 : 0 ≤ (0 : Int) := (by omega)
     have q250 : 0 < (l0.length : Int) := of_decide_eq_true (by first | (with_reducible assumption) | assumption)
     obtain ⟨ad250, e250, hx250_0⟩ := Kd.at_int HR0.out 0 p250 q250
     cases e250
     have qi250 : (0 < l0.length) = True := eq_true (by omega)
     (try rw [show ((0 : Int)).toNat = 0 from rfl] at hx250_0)
     (try rw [Addr.add_zero'] at hx250_0)
     replace hx250_0 := (HB.out.cell (World.block_lt_of_cell? w _ hx250_0)).trans hx250_0
     replace p250 := eq_true p250
     replace q250 := eq_true q250
     have p251 : 0 ≤ (0 : Int) := (by omega)
     have q251 : 0 < (l0.length : Int) := of_decide_eq_true (by first | (with_reducible assumption) | assumption)
     obtain ⟨ad251, e251, hx251_0⟩ := Kd.at_int HR0.out 0 p251 q251
     obtain rfl : ad250 = ad251 := (by injection e251)
     have qi251 : (0 < l0.length) = True := eq_true (by omega)
     (try rw [show ((0 : Int)).toNat = 0 from rfl] at hx251_0)
     (try rw [Addr.add_zero'] at hx251_0)
     replace hx251_0 := (HB.out.cell (World.block_lt_of_cell? w _ hx251_0)).trans hx251_0
     replace p251 := eq_true p251
     replace q251 := eq_true q251
     go_wp2
     go_meet
     case rel => exact ⟨_, (decide ((rd l0 0) > 16)), (by first | rfl | (simp; done) | (simp [*]; done)), H', ⟨by first | omega | exact Nat.le_refl _⟩, ⟨bu BK249.out⟩, ⟨by repeat (with_reducible first | exact HB.out | apply bA | apply bN | apply bD | refine bS ?_ ao)⟩⟩
   ·
    rw [if_neg c5] at H
    exact absurd H (by simp)
 case rest =>
  clear HC2
  obtain ⟨kq, x27_1, rfl, HA, HJ1, BK249, HB⟩ := hcut
  cases kq with
  | zero => exact absurd HA.out (by simp [dense_Read.j0])
  | succ kj1 =>
   have H := HA.out
   clear HA
   simp only [dense_Read.j0] at H
   by_cases c7 : x27_1 = true
   ·
    subst c7
    rw [if_pos rfl] at H
    simp only [Option.some.injEq, Prod.mk.injEq] at H
    obtain ⟨rfl, rfl, rfl⟩ := H
    obtain ⟨hcz8_0, hcz8_1, hfz8_0, hfz8_1⟩ := cf BK249.out
    go_wp2
    refine bodyPost_ret (results_ct rfl _ _ gb249 30 #[.int .i64 0, .slice none 0 0] (0, 0) _ rfl (by (with_reducible repeat (first | refine blk_drewN ?_ _ | refine blk_drew ?_ | refine blk_alloc ?_ _)); refine blk_put (cs := #[.int .i64 0, .slice none 0 0]) ?_ 1 _ rfl; (with_reducible repeat (first | refine blk_drewN ?_ _ | refine blk_drew ?_ | refine blk_alloc ?_ _)); refine blk_put (cs := #[.int .i64 0, .slice none 0 0]) ?_ 0 _ rfl; exact bu BK249.out) Try.underlying30 rfl (by kernel_rfl)) rfl ?_
    exact ⟨_, by first | rfl | (simp [errW_none, errW_some] <;> rfl) | (simp [*, errW_none, errW_some] <;> rfl), by first | exact Kd.R_nil _ _ _ _ _ | exact Kd.V_nil _ _ _ _ _, by repeat (with_reducible first | exact HB.out | apply bA | apply bN | apply bD | refine bS ?_ ao)⟩
   ·
    replace c7 := Bool.eq_false_iff.mpr c7
    subst c7
    rw [if_neg Bool.false_ne_true] at H
    by_cases c9 : 0 < (l0.length : Int)
    ·
     rw [if_pos c9] at H
     have c9b0 : decide (0 < (l0.length : Int)) = true := decide_eq_true c9
     have c9b1 : decide (0 < l0.length) = true := decide_eq_true (by omega)
     clear c9
     by_cases c10 : 1 < (l0.length : Int)
     ·
      rw [if_pos c10] at H
      have c10b0 : decide (1 < (l0.length : Int)) = true := decide_eq_true c10
      have c10b1 : decide (1 < l0.length) = true := decide_eq_true (by omega)
      clear c10
      by_cases c11 : (rd l0 1) = 0
      ·
       rw [if_pos c11] at H
       have c11b0 : ((rd l0 1) == 0) = true := beq_iff_eq.mpr c11
       have c11b1 : ((rd l0 1) != 0) = false := bne_eq_false_iff_eq.mpr c11
       clear c11
       by_cases c12 : 2 ≤ (l0.length : Int)
       ·
        rw [if_pos c12] at H
        have c12b0 := eq_true c12
        have c12b1 : decide (2 ≤ (l0.length : Int)) = true := decide_eq_true c12
        clear c12
        replace H := Option.bind_eq_some_iff.mp H
        obtain ⟨⟨t256, t257, t258, t259⟩, A130, H⟩ := H
        try dsimp only at H
        have A13 := Aside0.mk A130
        clear A130
        obtain ⟨ji14, hji14⟩ : ∃ j_ : Int, (wrap64 (rd l0 0)) = j_ := ⟨_, rfl⟩
        first | rw [hji14] at H | simp only [hji14] at H
        (try rw [hji14] at A13)
        have hji14w : (IntKind.i64.wrap (rd l0 0)) = ji14 := (i64_w _).trans hji14
        by_cases c15 : 0 ≤ (ji14)
        ·
         rw [if_pos c15] at H
         have c15b0 := eq_true c15
         have c15b1 : decide (0 ≤ (ji14)) = true := decide_eq_true c15
         clear c15
         obtain ⟨ji16, hji16⟩ : ∃ j_ : Int, (shl .u64 1 (ji14)) = j_ := ⟨_, rfl⟩
         first | rw [hji16] at H | simp only [hji16] at H
         (try rw [hji16] at A13)
         have hji16_ : (IntKind.u64.wrap (1 * 2 ^ min (ji14).toNat 64)) = ji16 := hji16
         have hji16z : (ji14) ≤ 64 → (IntKind.u64.wrap (1 * 2 ^ (ji14).toNat)) = ji16 := shl_small hji16
         have hji16u : (IntKind.u64.wrap (2 ^ min (ji14).toNat 64)) = ji16 := by have h_ := hji16_; rw [Int.one_mul] at h_; exact h_
         have hji16v : (ji14) ≤ 64 → (IntKind.u64.wrap (2 ^ (ji14).toNat)) = ji16 := fun hle_ => by have h_ := hji16z hle_; rw [Int.one_mul] at h_; exact h_
         replace H := Option.bind_eq_some_iff.mp H
         obtain ⟨⟨t261, t262, t263, t264⟩, A170, H⟩ := H
         try dsimp only at H
         have A17 := Aside0.mk A170
         clear A170
         have H' := Aside0.mk H
         clear H
         have p252 : 0 ≤ (0 : Int) := (by omega)
         have q252 : 0 < (l0.length : Int) := of_decide_eq_true (by first | (with_reducible assumption) | assumption)
         obtain ⟨ad252, e252, hx252_0⟩ := Kd.at_int HR0.out 0 p252 q252
         cases e252
         have qi252 : (0 < l0.length) = True := eq_true (by omega)
         (try rw [show ((0 : Int)).toNat = 0 from rfl] at hx252_0)
         (try rw [Addr.add_zero'] at hx252_0)
         replace hx252_0 := (HB.out.cell (World.block_lt_of_cell? w _ hx252_0)).trans hx252_0
         replace p252 := eq_true p252
         replace q252 := eq_true q252
         go_wp2_with (first | ((with_reducible refine gate_dst (N := 4) rfl ?_); refine box_event ?hg (N := 4) ?hd (cs := #[.int .i64 0, .slice none 0 0]) (t := 30) ?hr ?_; (case hd => rfl); (case hg => rfl); (case hr => go_simp; try rfl); intro gb253 hg w18 hbox hb; obtain ⟨HBn, GW253⟩ := tri hg hb (by repeat (with_reducible first | exact HB.out | apply bA | apply bN | apply bD | refine bS ?_ ao)); have GE253 := GW253; have BK253 := am (hbox); have NB249_253 := nl hg (bu BK249.out); have NB253_249 := nr hg (bu BK249.out); replace BK249 := bb BK249 hb; clear HB; have HB := HBn; clear HBn; clear hb hbox hg; have hnb19 := NB253_249.out; have hnc19 := NB249_253.out; obtain ⟨hcz20_0, hcz20_1, hfz20_0, hfz20_1⟩ := cf BK253.out; have p254 : 0 ≤ (1 : Int) := (by omega); have q254 : 1 < (l0.length : Int) := of_decide_eq_true (by first | (with_reducible assumption) | assumption); obtain ⟨ad254, e254, hx254_0⟩ := Kd.at_int HR0.out 1 p254 q254; obtain rfl : ad252 = ad254 := (by injection e254); (try simp only [show (1 : Int).toNat = 1 from rfl, Nat.reduceMul, Nat.reduceEqDiff, Go.Addr.add, ↓reduceIte] at hx254_0); have qi254 : (1 < l0.length) = True := eq_true (by omega); (try rw [show ((1 : Int)).toNat = 1 from rfl] at hx254_0); have hn254_0 : ad252.block ≠ gb253 := Nat.ne_of_lt (Nat.lt_of_lt_of_le (by have := World.block_lt_of_cell? _ _ hx254_0; first | rwa [add_block] at this | exact this) GW253.out); have hn254_1 : ad252.block ≠ gb253 := Nat.ne_of_lt (Nat.lt_of_lt_of_le (by have := World.block_lt_of_cell? _ _ hx254_0; first | rwa [add_block] at this | exact this) GW253.out); replace hx254_0 := (HB.out.cell (World.block_lt_of_cell? w _ hx254_0)).trans hx254_0; replace hx254_0 := (cell_far (p := ⟨gb253, 0, none⟩) (by first | (rw [add_block]; exact hn254_0) | (show (Addr.add _ _).block ≠ _; rw [add_block]; exact hn254_0) | exact hn254_0) (.int .i64 ji14)).trans hx254_0; replace hx254_0 := (cell_far (p := ⟨gb253, 1, none⟩) (by first | (rw [add_block]; exact hn254_1) | (show (Addr.add _ _).block ≠ _; rw [add_block]; exact hn254_1) | exact hn254_1) (.slice none 0 0)).trans hx254_0; clear hn254_0; clear hn254_1; replace p254 := eq_true p254; replace q254 := eq_true q254; obtain ⟨i021, hi021, _, hsz21, _⟩ := info_parts info5; obtain ⟨A21, hcut21, hA21, hC21⟩ := print_drop_of (P := Try.prog) (Value.int .u8) 0 33 5 .i64 Try.underlying33 hi021 hsz21 (some ad252) c0 l0 2 (by omega) (of_decide_eq_true (by first | (with_reducible assumption) | assumption)) HC0.out; have HR255 := am (Kd.C_of_reads (h1 := fun _ => rfl) (hA21 _ (Kd.reads_of_C HR0.out))); have HC255 := Aside0.mk hC21; clear hA21 hC21 hi021 hsz21) | ((with_reducible refine gate_callee (f := 72) rfl ?_); refine goesL_ (some 41) rfl rfl Try.func72 (by kernel_rfl) rfl #[.slice A21 (l0.drop 2).length (c0 - 2)] rfl (by (try simp only [List.map_toArray, List.map_cons, List.map_nil]); first | done | (rw [show (l0.drop 2).length = (l0.length - 2) from List.length_drop] <;> rfl) | rfl | (simp only [List.length_drop, List.length_take]; rfl)) ?_; (with_reducible refine (octet_New.calls _ _ (l0.drop 2) t256 t257 t258 t259 w _ ?side1 ?side2 ?side3 A13.out).mono ?_); (case side1 => repeat (with_reducible first | exact HB.out | apply bA | apply bN | apply bD | refine bS ?_ ao)); (case side2 => exact HR255.out); (case side3 => exact HC255.out); rintro e w22 ⟨g260, r260, rfl, hi, hb, hb2⟩; refine ⟨_, rfl, ?_⟩; have HI260 := am (hi); have NB260_249 := am (IsS101.ne_blk hi (blk_below (g := gb249) (o := .cells #[.int .i64 0, .slice none 0 0] 30 (0, 0)) (bf NB249_253.out BK249.out) hb2) (by decide)); have NB249_260 := am (Ne.symm (IsS101.ne_blk1 hi (blk_below (g := gb249) (o := .cells #[.int .i64 0, .slice none 0 0] 30 (0, 0)) (bf NB249_253.out BK249.out) hb2) (by decide))); have NB260_253 := am (IsS101.ne_blk hi (blk_below (g := gb253) (o := .cells #[.int .i64 ji14, .slice none 0 0] 30 (0, 0)) (by (with_reducible repeat (first | refine blk_drewN ?_ _ | refine blk_drew ?_ | refine blk_alloc ?_ _)); refine blk_put (cs := #[.int .i64 ji14, .slice none 0 0]) ?_ 1 _ rfl; (with_reducible repeat (first | refine blk_drewN ?_ _ | refine blk_drew ?_ | refine blk_alloc ?_ _)); refine blk_put (cs := #[.int .i64 0, .slice none 0 0]) ?_ 0 _ rfl; exact bu BK253.out) hb2) (by decide)); have NB253_260 := am (Ne.symm (IsS101.ne_blk1 hi (blk_below (g := gb253) (o := .cells #[.int .i64 ji14, .slice none 0 0] 30 (0, 0)) (by (with_reducible repeat (first | refine blk_drewN ?_ _ | refine blk_drew ?_ | refine blk_alloc ?_ _)); refine blk_put (cs := #[.int .i64 ji14, .slice none 0 0]) ?_ 1 _ rfl; (with_reducible repeat (first | refine blk_drewN ?_ _ | refine blk_drew ?_ | refine blk_alloc ?_ _)); refine blk_put (cs := #[.int .i64 0, .slice none 0 0]) ?_ 0 _ rfl; exact bu BK253.out) hb2) (by decide))); replace BK249 := am (blk_below (g := gb249) (o := .cells #[.int .i64 0, .slice none 0 0] 30 (0, 0)) (bf NB249_253.out BK249.out) hb2); replace BK253 := am (blk_below (g := gb253) (o := .cells #[.int .i64 ji14, .slice none 0 0] 30 (0, 0)) (by (with_reducible repeat (first | refine blk_drewN ?_ _ | refine blk_drew ?_ | refine blk_alloc ?_ _)); refine blk_put (cs := #[.int .i64 ji14, .slice none 0 0]) ?_ 1 _ rfl; (with_reducible repeat (first | refine blk_drewN ?_ _ | refine blk_drew ?_ | refine blk_alloc ?_ _)); refine blk_put (cs := #[.int .i64 0, .slice none 0 0]) ?_ 0 _ rfl; exact bu BK253.out) hb2); replace HB := am (hb); (try clear hb); have hnb23 := NB253_260.out; have hnc23 := NB260_253.out.1; obtain ⟨hcz24_0, hcz24_1, hfz24_0, hfz24_1⟩ := cf BK253.out) | ((with_reducible refine gate_callee (f := 73) rfl ?_); refine goesL_ (some 46) rfl rfl Try.func73 (by kernel_rfl) rfl #[.pointer (some ⟨g260, 0, none⟩), .int .u64 ji16] rfl (by (try simp only [List.map_toArray, List.map_cons, List.map_nil]); first | done | (simp only [hji16]; rfl) | rfl | (simp only [List.length_drop, List.length_take]; rfl)) ?_; (with_reducible refine (octet_Reader_Upto.calls g260 r260 t256 t257 t258 t259 ji16 t261 t262 t263 t264 w _ ?side1 ?side2 A17.out).mono ?_); (case side1 => repeat (with_reducible first | exact HI260.out | apply yA101 | apply yN101 | apply yD101 | refine yF101 ?_ NB260_249.out _ | refine yF101 ?_ NB260_253.out _)); (case side2 => repeat (with_reducible first | exact HB.out | apply bA | apply bN | apply bD | refine bS ?_ (IsS101.ge HI260.out) | refine bS ?_ ao)); rintro e w25 ⟨rfl, hi, hb, hk⟩; refine ⟨_, rfl, ?_⟩; replace BK249 := am (KeepBut.blk hk (g' := gb249) (o := .cells #[.int .i64 0, .slice none 0 0] 30 (0, 0)) (bu BK249.out) NB249_260.out (by simp)); replace BK253 := am (KeepBut.blk hk (g' := gb253) (o := .cells #[.int .i64 ji14, .slice none 0 0] 30 (0, 0)) (bu BK253.out) NB253_260.out (by simp)); replace HB := am (hb); replace HI260 := am (hi); (try clear hb)))
         (try simp only [Act.put, List.setIfInBounds_toArray, List.set_cons_zero, List.set_cons_succ])
         go_loopg [6, 47] kj1 (fun kq v6 v47 w' => ∃ (x6_2 : Int) (x47_2 : Int) (x250000_2 : Int) (x254001_2 : List (S32)) (x261001_2 : Int) (x261002_2 : Int) (x261003_2 : Bool) (u254001 : Value), v6 = .int .i64 x6_2 ∧ v47 = .int .u64 x47_2 ∧ Aside0 (dense_Read.l0 kq l0 x6_2 t261 x47_2 ji14 x254001_2 t256 x261001_2 x261002_2 x261003_2 = some (r1, r2, r3)) ∧ Aside0 (kq ≤ kj1) ∧ Aside0 (Kd.R k32 32 w' w.heap.size (fun _ => True) u254001 x254001_2) ∧ Aside0 (w'.heap[gb249]? = some (.cells #[.int .i64 x250000_2, (.slice none 0 0)] 30 (0, 0))) ∧ Aside0 (w'.heap[gb253]? = some (.cells #[.int .i64 ji14, u254001] 30 (0, 0))) ∧ Aside0 (IsS101 w w' g260 r260 t256 x261001_2 x261002_2 x261003_2) ∧ Aside0 (Below w.heap.size w w'))
         case atStart => exact ⟨((-1)), (0), (0), (([] : List (S32))), (t262), (t263), (t264), (.slice none 0 0), (by first | rfl | (simp; done) | (simp [*]; done)), (by first | rfl | (simp; done) | (simp [*]; done)), H', ⟨Nat.le_refl _⟩, ⟨by first | exact Kd.R_nil _ _ _ _ _ | exact Kd.V_nil _ _ _ _ _⟩, ⟨bu BK249.out⟩, ⟨bu BK253.out⟩, ⟨by repeat (with_reducible first | exact HI260.out | apply yA101 | apply yN101 | apply yD101 | refine yF101 ?_ NB260_249.out _ | refine yF101 ?_ NB260_253.out _)⟩, ⟨by repeat (with_reducible first | exact HB.out | apply bA | apply bN | apply bD | refine bS ?_ (IsS101.ge HI260.out) | refine bS ?_ ao)⟩⟩
         case round =>
          clear H'
          obtain ⟨x6_2, x47_2, x250000_2, x254001_2, x261001_2, x261002_2, x261003_2, u254001, rfl, rfl, HA, HK2, HO_254001, BK249, BK253, HI260, HB⟩ := hrel
          cases gk with
          | zero => exact absurd HA.out (by simp [dense_Read.l0])
          | succ k2 =>
           have H := HA.out
           clear HA
           simp only [dense_Read.l0] at H
           by_cases c26 : x47_2 < t261
           ·
            rw [if_pos c26] at H
            have c26b0 : decide (x47_2 < t261) = true := decide_eq_true c26
            clear c26
            by_cases c27 : 0 ≤ ji14
            ·
             rw [if_pos c27] at H
             have c27b0 := eq_true c27
             have c27b1 : decide (0 ≤ ji14) = true := decide_eq_true c27
             clear c27
             obtain ⟨ji28, hji28⟩ : ∃ j_ : Int, (shl .u64 1 ji14) = j_ := ⟨_, rfl⟩
             obtain rfl : ji28 = ji16 := hji28.symm.trans hji16
             first | rw [hji28] at H | simp only [hji28] at H
             have hji28_ : (IntKind.u64.wrap (1 * 2 ^ min ji14.toNat 64)) = ji28 := hji28
             have hji28z : ji14 ≤ 64 → (IntKind.u64.wrap (1 * 2 ^ ji14.toNat)) = ji28 := shl_small hji28
             have hji28u : (IntKind.u64.wrap (2 ^ min ji14.toNat 64)) = ji28 := by have h_ := hji28_; rw [Int.one_mul] at h_; exact h_
             have hji28v : ji14 ≤ 64 → (IntKind.u64.wrap (2 ^ ji14.toNat)) = ji28 := fun hle_ => by have h_ := hji28z hle_; rw [Int.one_mul] at h_; exact h_
             replace H := Option.bind_eq_some_iff.mp H
             obtain ⟨⟨t265, t266, t267, t268⟩, A290, H⟩ := H
             try dsimp only at H
             have A29 := Aside0.mk A290
             clear A290
             replace H := Option.bind_eq_some_iff.mp H
             obtain ⟨⟨t269, t272, t273, t274⟩, A300, H⟩ := H
             try dsimp only at H
             have A30 := Aside0.mk A300
             clear A300
             replace H := Option.bind_eq_some_iff.mp H
             obtain ⟨⟨t275, t276, t277, t278⟩, A310, H⟩ := H
             try dsimp only at H
             have A31 := Aside0.mk A310
             clear A310
             by_cases c32 : t275 = 0
             ·
              rw [if_pos c32] at H
              have c32b0 : (t275 == 0) = true := beq_iff_eq.mpr c32
              have c32b1 : (t275 != 0) = false := bne_eq_false_iff_eq.mpr c32
              clear c32
              by_cases c33 : 0 < (t269.length : Int)
              ·
               rw [if_pos c33] at H
               have c33b0 : decide (0 < (t269.length : Int)) = true := decide_eq_true c33
               have c33b1 : decide (0 < t269.length) = true := decide_eq_true (by omega)
               clear c33
               by_cases c34 : x254001_2.length < 8796093022208
               ·
                rw [if_pos c34] at H
                have LMc34 := Aside0.mk c34
                clear c34
                obtain ⟨y280, hy280⟩ : ∃ y_ : List (S32), y_ = (x254001_2 ++ [(⟨wrap64 ((wrap64 (x6_2 + 1)) + (wrap64 (t265))), wrap64 (rd t269 0)⟩ : S32)]) := ⟨_, rfl⟩
                replace H : (dense_Read.l0 k2 l0 (wrap64 ((wrap64 (x6_2 + 1)) + (wrap64 (t265)))) t261 (IntKind.u64.wrap (x47_2 + 1)) ji14 y280 t256 t276 t277 t278) = some (r1, r2, r3) := by first | (rw [hy280]; with_reducible exact H) | (have H2_ := (Option.bind_some _ _).symm.trans H; rw [hy280]; with_reducible exact H2_) | (have H2_ := (Option.bind_some _ _).symm.trans H; with_reducible exact H2_) | with_reducible exact H | (rw [hy280]; exact H) | exact H
                have Ny280 := Aside0.mk hy280
                clear hy280
                have H' := Aside0.mk H
                clear H
                have hnb35 := NB253_249.out; have hnc35 := NB249_253.out; have hnb36 := NB253_260.out; have hnc36 := NB260_253.out.1; obtain ⟨hcz37_0, hcz37_1, hfz37_0, hfz37_1⟩ := cf BK253.out
                try go_wp2_with (first | ((with_reducible refine gate_callee (f := 73) rfl ?_); refine goesL_ (some 55) rfl rfl Try.func73 (by kernel_rfl) rfl #[.pointer (some ⟨g260, 0, none⟩), .int .u64 ji28] rfl (by (try simp only [List.map_toArray, List.map_cons, List.map_nil]); first | done | (simp only [hji28]; rfl) | rfl | (simp only [List.length_drop, List.length_take]; rfl)) ?_; (with_reducible refine (octet_Reader_Upto.calls g260 r260 t256 x261001_2 x261002_2 x261003_2 ji28 t265 t266 t267 t268 w _ ?side1 ?side2 A29.out).mono ?_); (case side1 => repeat (with_reducible first | exact HI260.out | apply yA101 | apply yN101 | apply yD101 | refine yF101 ?_ NB260_249.out _ | refine yF101 ?_ NB260_253.out _)); (case side2 => repeat (with_reducible first | exact HB.out | apply bA | apply bN | apply bD | refine bS ?_ (IsS101.ge HI260.out) | refine bS ?_ ao)); rintro e w38 ⟨rfl, hi, hb, hk⟩; refine ⟨_, rfl, ?_⟩; replace HO_254001 := am (Kd.R_mono (Kd.R_keep (IsS101.apart (show IsS101 w _ g260 r260 t256 x261001_2 x261002_2 x261003_2 from by repeat (with_reducible first | exact HI260.out | apply yA101 | apply yN101 | apply yD101 | refine yF101 ?_ NB260_249.out _ | refine yF101 ?_ NB260_253.out _)) (ru (HO_254001.out)) (by decide)) hk (fun _ h => h.2)) (fun _ h => h.1)); replace BK249 := am (KeepBut.blk hk (g' := gb249) (o := .cells #[.int .i64 x250000_2, .slice none 0 0] 30 (0, 0)) (bu BK249.out) NB249_260.out (by simp)); replace BK253 := am (KeepBut.blk hk (g' := gb253) (o := .cells #[.int .i64 ji14, u254001] 30 (0, 0)) (bu BK253.out) NB253_260.out (by simp)); replace HB := am (hb); replace HI260 := am (hi); (try clear hb)) | ((with_reducible refine gate_callee (f := 74) rfl ?_); refine goesL_ (some 59) rfl rfl Try.func74 (by kernel_rfl) rfl #[.pointer (some ⟨g260, 0, none⟩), .int .i64 1] rfl (by (try simp only [List.map_toArray, List.map_cons, List.map_nil]); first | done | rfl) ?_; (with_reducible refine (octet_Reader_Fixed.calls g260 r260 t256 t266 t267 t268 1 t269 t272 t273 t274 w _ ?side1 ?side2 A30.out).mono ?_); (case side1 => repeat (with_reducible first | exact HI260.out | apply yA101 | apply yN101 | apply yD101 | refine yF101 ?_ NB260_249.out _ | refine yF101 ?_ NB260_253.out _)); (case side2 => repeat (with_reducible first | exact HB.out | apply bA | apply bN | apply bD | refine bS ?_ (IsS101.ge HI260.out) | refine bS ?_ ao)); rintro e w39 ⟨v270, rfl, ho0, hi, hb, hk⟩; refine ⟨_, rfl, ?_⟩; have HO271 := am (Kd.R_lower ho0 (below_size (by repeat (with_reducible first | exact HB.out | apply bA | apply bN | apply bD | refine bS ?_ (IsS101.ge HI260.out) | refine bS ?_ ao)))); replace HO_254001 := am (Kd.R_mono (Kd.R_keep (IsS101.apart (show IsS101 w _ g260 r260 t256 t266 t267 t268 from by repeat (with_reducible first | exact HI260.out | apply yA101 | apply yN101 | apply yD101 | refine yF101 ?_ NB260_249.out _ | refine yF101 ?_ NB260_253.out _)) (ru (HO_254001.out)) (by decide)) hk (fun _ h => h.2)) (fun _ h => h.1)); replace BK249 := am (KeepBut.blk hk (g' := gb249) (o := .cells #[.int .i64 x250000_2, .slice none 0 0] 30 (0, 0)) (bu BK249.out) NB249_260.out (by simp)); replace BK253 := am (KeepBut.blk hk (g' := gb253) (o := .cells #[.int .i64 ji14, u254001] 30 (0, 0)) (bu BK253.out) NB253_260.out (by simp)); replace HB := am (hb); replace HI260 := am (hi); (try clear hb); (try clear ho0)) | ((with_reducible refine gate_callee (f := 75) rfl ?_); refine goesL_ (some 61) rfl rfl Try.func75 (by kernel_rfl) rfl #[.pointer (some ⟨g260, 0, none⟩)] rfl (by (try simp only [List.map_toArray, List.map_cons, List.map_nil]); first | done | rfl) ?_; (with_reducible refine (octet_Reader_Err.calls g260 r260 t256 t272 t273 t274 t275 t276 t277 t278 w _ ?side1 ?side2 A31.out).mono ?_); (case side1 => repeat (with_reducible first | exact HI260.out | apply yA101 | apply yN101 | apply yD101 | refine yF101 ?_ NB260_249.out _ | refine yF101 ?_ NB260_253.out _)); (case side2 => repeat (with_reducible first | exact HB.out | apply bA | apply bN | apply bD | refine bS ?_ (IsS101.ge HI260.out) | refine bS ?_ ao)); rintro e w40 ⟨rfl, hi, hb, hk⟩; refine ⟨_, rfl, ?_⟩; replace HO_254001 := am (Kd.R_mono (Kd.R_keep (IsS101.apart (show IsS101 w _ g260 r260 t256 t272 t273 t274 from by repeat (with_reducible first | exact HI260.out | apply yA101 | apply yN101 | apply yD101 | refine yF101 ?_ NB260_249.out _ | refine yF101 ?_ NB260_253.out _)) (ru (HO_254001.out)) (by decide)) hk (fun _ h => h.2)) (fun _ h => h.1)); replace BK249 := am (KeepBut.blk hk (g' := gb249) (o := .cells #[.int .i64 x250000_2, .slice none 0 0] 30 (0, 0)) (bu BK249.out) NB249_260.out (by simp)); replace BK253 := am (KeepBut.blk hk (g' := gb253) (o := .cells #[.int .i64 ji14, u254001] 30 (0, 0)) (bu BK253.out) NB253_260.out (by simp)); replace HO271 := am (Kd.R_mono (Kd.R_keep (IsS101.apart (show IsS101 w _ g260 r260 t256 t272 t273 t274 from by repeat (with_reducible first | exact HI260.out | apply yA101 | apply yN101 | apply yD101 | refine yF101 ?_ NB260_249.out _ | refine yF101 ?_ NB260_253.out _)) (ru (HO271.out)) (by decide)) hk (fun _ h => h.2)) (fun _ h => h.1)); replace HB := am (hb); replace HI260 := am (hi); (try clear hb)))
                replace HO_254001 := am (Kd.R_drew HO_254001.out); replace HO271 := am (Kd.R_drew HO271.out); replace BK249 := am (blk_drew BK249.out); replace BK253 := am (blk_drew BK253.out); replace HI260 := am (yD101 HI260.out); replace HB := am (below_drew1 HB.out)
                obtain ⟨Ao42, co42, eo42⟩ := Kd.R_slice HO271.out
                (first | subst eo42 | (injection eo42 with f1_ f2_ f3_; have f4_ := f1_.symm; have f5_ := f3_.symm; clear f1_ f2_ f3_; subst f4_; subst f5_))
                have p279 : 0 ≤ (0 : Int) := (by omega)
                have q279 : 0 < (t269.length : Int) := of_decide_eq_true (by first | (with_reducible assumption) | assumption)
                obtain ⟨ad279, e279, hx279_0⟩ := Kd.at_int (Kd.R_reads' HO271.out).2.2 0 p279 q279
                cases e279
                have qi279 : (0 < t269.length) = True := eq_true (by omega)
                (try rw [show ((0 : Int)).toNat = 0 from rfl] at hx279_0)
                (try rw [Addr.add_zero'] at hx279_0)
                replace p279 := eq_true p279
                replace q279 := eq_true q279
                refine start_ (n := 12) (S := fun w' => w'.cell? ⟨gb253, 0, none⟩ = some (.int .i64 ji14) ∧ w'.cell? ⟨gb253, 1, none⟩ = some (u254001) ∧ w'.cell? ad279 = some (.int .u8 (rd t269 0))) (ds := [9, 11]) (tb 0 12) (by kernel_rfl) rfl rfl ⟨(blk_cell BK253.out 0).trans rfl, (blk_cell BK253.out 1).trans rfl, hx279_0⟩ (fun hHeld => ?_); refine with_tabW dense_Read.tab14 dense_Read.bits14 (fun HT_ HW_ => ?_)
                generalize w40.drew = w41 at HO_254001 HO271 BK249 BK253 HI260 HB hx279_0 hHeld ⊢
                refine pu 0 (some 64) (v := ?_) (a' := ?_) (tb 1 12) rfl rfl (any_of HT_.out (by kernel_rfl)) (fun _ _ _ h => h) ⟨by rfl, ?_⟩ ?_ ?_; rotate_left; · (intro w'; go_simp; with_reducible rfl)
                rotate_left; · (simp only [Act.put, sa_, sb_, sc_, i64_w, i32_w]; rfl)
                refine pu 2 (some 66) (v := ?_) (a' := ?_) #[true, false, true, false, false, false, false, false, false, false, false, false] rfl rfl (any_of HT_.out (by kernel_rfl)) (fun _ _ _ h => h) ⟨by rfl, ?_⟩ ?_ ?_; rotate_left; · (intro w'; go_simp; with_reducible rfl)
                rotate_left; · (simp only [Act.put, sa_, sb_, sc_, i64_w, i32_w]; rfl)
                refine pu 3 (some 67) (v := ?_) (a' := ?_) #[true, false, true, true, false, false, false, false, false, false, false, false] rfl rfl (any_of HT_.out (by kernel_rfl)) (fun _ _ _ h => h) ⟨by rfl, ?_⟩ ?_ ?_; rotate_left; · (intro w'; go_simp; with_reducible rfl)
                rotate_left; · (simp only [Act.put, sa_, sb_, sc_, i64_w, i32_w]; rfl)
                refine pu 4 (some 68) (v := ?_) (a' := ?_) #[true, false, true, true, true, false, false, false, false, false, false, false] rfl rfl (any_of HT_.out (by kernel_rfl)) (fun _ _ _ h => h) ⟨by rfl, ?_⟩ ?_ ?_; rotate_left; · (intro w'; go_simp; with_reducible rfl)
                rotate_left; · (simp only [Act.put, sa_, sb_, sc_, i64_w, i32_w]; rfl)
                refine tk 1 (some 65) (v := ?_) (a' := ?_) (tb 5 12) rfl rfl (take_ofW HT_.out HW_.out (by kernel_rfl)) (fun _ _ _ h => h) ⟨by rfl, ?_⟩ hHeld ?_ ?_; rotate_left; · (rintro w' ⟨s0, s1, s2⟩; go_simp; with_reducible rfl)
                rotate_left; · (simp only [Act.put, sa_, sb_, sc_, i64_w, i32_w]; rfl)
                refine tk 5 (some 69) (v := ?_) (a' := ?_) (tb 6 12) rfl rfl (take_ofW HT_.out HW_.out (by kernel_rfl)) (fun _ _ _ h => h) ⟨by rfl, ?_⟩ hHeld ?_ ?_; rotate_left; · (rintro w' ⟨s0, s1, s2⟩; go_simp; with_reducible rfl)
                rotate_left; · (simp only [Act.put, sa_, sb_, sc_, i64_w, i32_w]; rfl)
                refine pu 6 (some 70) (v := ?_) (a' := ?_) (tb 7 12) rfl rfl (any_of HT_.out (by kernel_rfl)) (fun _ _ _ h => h) ⟨by rfl, ?_⟩ ?_ ?_; rotate_left; · (intro w'; go_simp; with_reducible rfl)
                rotate_left; · (simp only [Act.put, sa_, sb_, sc_, i64_w, i32_w]; rfl)
                refine pu 7 (some 71) (v := ?_) (a' := ?_) (tb 8 12) rfl rfl (any_of HT_.out (by kernel_rfl)) (fun _ _ _ h => h) ⟨by rfl, ?_⟩ ?_ ?_; rotate_left; · (intro w'; go_simp; with_reducible rfl)
                rotate_left; · (simp only [Act.put, sa_, sb_, sc_, i64_w, i32_w]; rfl)
                refine one_ (i := 8) (N := some 72) (tb 9 12) rfl rfl (one_of HT_.out (by kernel_rfl)) (by decide) (fun K hK => ?_)
                refine value_ (w1 := ?_) (v := ?_) (by rfl) rfl ?_ ?_
                rotate_left 2
                ·
                 go_simp
                 constructor
                 ·
                  rfl
                 ·
                  rfl
                refine hK.out _ _ ⟨(blk_cell (blk_alloc BK253.out _) 0).trans rfl, (blk_cell (blk_alloc BK253.out _) 1).trans rfl, (World.cell?_alloc_lt _ _ _ (World.block_lt_of_cell? _ _ (hHeld.2.2))).trans (hHeld.2.2)⟩ (fun hHeld => ?_)
                clear hK K
                refine norm_ (a' := ?_) ?_ ?_
                rotate_left
                ·
                 show Act.put _ (some 72) _ = _
                 simp only [Act.put, List.setIfInBounds_toArray, List.set_cons_zero, List.set_cons_succ, i64_w, i32_w]
                 rfl
                refine last_ (i := 9) (N := some 73) (tb 10 12) rfl rfl (one_of HT_.out (by kernel_rfl)) (by decide) (fun K hK => ?_)
                refine Kd.R_append_step k32 (w0 := w) w.heap.size (by rfl) (.tmp 65) (.tmp 72) 28 32 (.agg #[(.int .i64 0), (.int .i64 0)]) 16 rfl Try.underlying28 info32 rfl (by decide) (by omega) u254001 x254001_2 (⟨wrap64 ((wrap64 (x6_2 + 1)) + (wrap64 (t265))), wrap64 (rd t269 0)⟩ : S32) [.int .i64 (wrap64 ((wrap64 (x6_2 + 1)) + (wrap64 (t265)))), .int .i64 (wrap64 (rd t269 0))] (fun _ => True) (fun _ => False) rfl rfl ?aP (fun _ hk => hk.elim) ?aF ?aO ?aB ?aS ?aL ?_
                (case aP => exact k32_mkM _ _ _ (⟨wrap64 ((wrap64 (x6_2 + 1)) + (wrap64 (t265))), wrap64 (rd t269 0)⟩ : S32))
                (case aB => exact (by repeat (with_reducible first | exact HB.out | apply bA | apply bN | apply bD | refine bS ?_ (IsS101.ge HI260.out) | refine bS ?_ ao)))
                (case aF => exact (fun _ _ => trivial))
                (case aO => exact (ru (HO_254001.out)))
                (case aS => exact (below_size (by repeat (with_reducible first | exact HB.out | apply bA | apply bN | apply bD | refine bS ?_ (IsS101.ge HI260.out) | refine bS ?_ ao))))
                (case aL => have := LMc34.out; omega)
                intro v281 w43 ho hb hg hat
                rw [← Ny280.out] at ho
                have HO282 := am (ho); replace BK249 := am (blk_grown (g := gb249) (o := .cells #[.int .i64 x250000_2, .slice none 0 0] 30 (0, 0)) (bu BK249.out) hg (Kd.R_ne HO_254001.out BK249.out (by decide))); replace BK253 := am (blk_grown (g := gb253) (o := .cells #[.int .i64 ji14, u254001] 30 (0, 0)) (bu BK253.out) hg (Kd.R_ne HO_254001.out BK253.out (by decide))); replace HI260 := am (IsS101.grown (by repeat (with_reducible first | exact HI260.out | apply yA101 | apply yN101 | apply yD101 | refine yF101 ?_ NB260_249.out _ | refine yF101 ?_ NB260_253.out _)) hg (IsS101.own_ne HI260.out HO_254001.out (by decide))); replace HO271 := am (Kd.R_over' (ru (HO271.out)) (Kd.R_typed (ru (HO_254001.out))) (by decide) hg); replace HB := am (hb); clear HO_254001
                clear ho hb hg hat
                obtain ⟨Ao44, co44, eo44⟩ := Kd.R_slice HO282.out
                (first | subst eo44 | (injection eo44 with f1_ f2_ f3_; have f4_ := f1_.symm; have f5_ := f3_.symm; clear f1_ f2_ f3_; subst f4_; subst f5_))
                refine hK.out _ _ ?_
                clear hK K
                refine norm_ (a' := ?_) ?_ ?_
                rotate_left
                ·
                 show Act.put _ (some 73) _ = _
                 simp only [Act.put, List.setIfInBounds_toArray, List.set_cons_zero, List.set_cons_succ, i64_w, i32_w]
                 rfl
                refine pu 10 (some 74) (v := ?_) (a' := ?_) (tb 11 12) rfl rfl (any_of HT_.out (by kernel_rfl)) (fun _ _ _ h => h) ⟨by rfl, ?_⟩ ?_ ?_; rotate_left; · (intro w'; go_simp; with_reducible rfl)
                rotate_left; · (simp only [Act.put, sa_, sb_, sc_, i64_w, i32_w]; rfl)
                refine last_ (i := 11) (N := none) (tb 12 12) rfl rfl (one_of HT_.out (by kernel_rfl)) (by decide) (fun K hK => ?_)
                have hs45 : w43.cell? ⟨gb253, 1, none⟩ = some (u254001) := (blk_cell BK253.out 1).trans rfl
                have hfs45 := blk_frozen BK253.out 1; have hns45_0 := NB249_253.out; have hms45_0 := NB253_249.out
                refine skip_ (w1 := ?_) (by rfl) rfl ?_ ?_
                rotate_left
                ·
                 go_simp
                 rfl
                refine hK.out _ _ ?_
                clear hK K
                refine done_ (done_of HT_.out (by kernel_rfl)) ?_
                try go_wp2
                go_roundg k2
                case measure => have := HJ1.out; have := HK2.out; omega
                case rel => exact ⟨(wrap64 ((wrap64 (x6_2 + 1)) + (wrap64 (t265)))), (IntKind.u64.wrap (x47_2 + 1)), (x250000_2), (y280), (t276), (t277), (t278), (.slice Ao44 y280.length co44), (by first | rfl | (simp; done) | (simp [*]; done)), (by first | rfl | (simp; done) | (simp [*]; done)), H', ⟨by have := HJ1.out; have := HK2.out; omega⟩, ⟨Kd.R_mono (rf HO282.out BK253.out (by decide)) (fun _ hk => trivial)⟩, ⟨bf NB249_253.out BK249.out⟩, ⟨by (with_reducible repeat (first | refine blk_drewN ?_ _ | refine blk_drew ?_ | refine blk_alloc ?_ _)); refine blk_put (cs := #[.int .i64 ji14, u254001]) ?_ 1 _ rfl; exact bu BK253.out⟩, ⟨by repeat (with_reducible first | exact HI260.out | apply yA101 | apply yN101 | apply yD101 | refine yF101 ?_ NB260_249.out _ | refine yF101 ?_ NB260_253.out _)⟩, ⟨by repeat (with_reducible first | exact HB.out | apply bA | apply bN | apply bD | refine bS ?_ (IsS101.ge HI260.out) | refine bS ?_ ao)⟩⟩
               ·
                rw [if_neg c34] at H
                exact absurd H (by simp)
              ·
               rw [if_neg c33] at H
               exact absurd H (by simp)
             ·
              rw [if_neg c32] at H
              have c32b0 : (t275 == 0) = false := beq_eq_false_iff_ne.mpr c32
              have c32b1 : (t275 != 0) = true := bne_iff_ne.mpr c32
              simp only [Option.some.injEq, Prod.mk.injEq] at H
              obtain ⟨rfl, rfl, rfl⟩ := H
              have hnb46 := NB253_249.out; have hnc46 := NB249_253.out; have hnb47 := NB253_260.out; have hnc47 := NB260_253.out.1; obtain ⟨hcz48_0, hcz48_1, hfz48_0, hfz48_1⟩ := cf BK253.out
              go_wp2_with (first | ((with_reducible refine gate_callee (f := 73) rfl ?_); refine goesL_ (some 55) rfl rfl Try.func73 (by kernel_rfl) rfl #[.pointer (some ⟨g260, 0, none⟩), .int .u64 ji28] rfl (by (try simp only [List.map_toArray, List.map_cons, List.map_nil]); first | done | (simp only [hji28]; rfl) | rfl | (simp only [List.length_drop, List.length_take]; rfl)) ?_; (with_reducible refine (octet_Reader_Upto.calls g260 r260 t256 x261001_2 x261002_2 x261003_2 ji28 t265 t266 t267 t268 w _ ?side1 ?side2 A29.out).mono ?_); (case side1 => repeat (with_reducible first | exact HI260.out | apply yA101 | apply yN101 | apply yD101 | refine yF101 ?_ NB260_249.out _ | refine yF101 ?_ NB260_253.out _)); (case side2 => repeat (with_reducible first | exact HB.out | apply bA | apply bN | apply bD | refine bS ?_ (IsS101.ge HI260.out) | refine bS ?_ ao)); rintro e w49 ⟨rfl, hi, hb, hk⟩; refine ⟨_, rfl, ?_⟩; replace HO_254001 := am (Kd.R_mono (Kd.R_keep (IsS101.apart (show IsS101 w _ g260 r260 t256 x261001_2 x261002_2 x261003_2 from by repeat (with_reducible first | exact HI260.out | apply yA101 | apply yN101 | apply yD101 | refine yF101 ?_ NB260_249.out _ | refine yF101 ?_ NB260_253.out _)) (ru (HO_254001.out)) (by decide)) hk (fun _ h => h.2)) (fun _ h => h.1)); replace BK249 := am (KeepBut.blk hk (g' := gb249) (o := .cells #[.int .i64 x250000_2, .slice none 0 0] 30 (0, 0)) (bu BK249.out) NB249_260.out (by simp)); replace BK253 := am (KeepBut.blk hk (g' := gb253) (o := .cells #[.int .i64 ji14, u254001] 30 (0, 0)) (bu BK253.out) NB253_260.out (by simp)); replace HB := am (hb); replace HI260 := am (hi); (try clear hb)) | ((with_reducible refine gate_callee (f := 74) rfl ?_); refine goesL_ (some 59) rfl rfl Try.func74 (by kernel_rfl) rfl #[.pointer (some ⟨g260, 0, none⟩), .int .i64 1] rfl (by (try simp only [List.map_toArray, List.map_cons, List.map_nil]); first | done | rfl) ?_; (with_reducible refine (octet_Reader_Fixed.calls g260 r260 t256 t266 t267 t268 1 t269 t272 t273 t274 w _ ?side1 ?side2 A30.out).mono ?_); (case side1 => repeat (with_reducible first | exact HI260.out | apply yA101 | apply yN101 | apply yD101 | refine yF101 ?_ NB260_249.out _ | refine yF101 ?_ NB260_253.out _)); (case side2 => repeat (with_reducible first | exact HB.out | apply bA | apply bN | apply bD | refine bS ?_ (IsS101.ge HI260.out) | refine bS ?_ ao)); rintro e w50 ⟨v270, rfl, ho0, hi, hb, hk⟩; refine ⟨_, rfl, ?_⟩; have HO271 := am (Kd.R_lower ho0 (below_size (by repeat (with_reducible first | exact HB.out | apply bA | apply bN | apply bD | refine bS ?_ (IsS101.ge HI260.out) | refine bS ?_ ao)))); replace HO_254001 := am (Kd.R_mono (Kd.R_keep (IsS101.apart (show IsS101 w _ g260 r260 t256 t266 t267 t268 from by repeat (with_reducible first | exact HI260.out | apply yA101 | apply yN101 | apply yD101 | refine yF101 ?_ NB260_249.out _ | refine yF101 ?_ NB260_253.out _)) (ru (HO_254001.out)) (by decide)) hk (fun _ h => h.2)) (fun _ h => h.1)); replace BK249 := am (KeepBut.blk hk (g' := gb249) (o := .cells #[.int .i64 x250000_2, .slice none 0 0] 30 (0, 0)) (bu BK249.out) NB249_260.out (by simp)); replace BK253 := am (KeepBut.blk hk (g' := gb253) (o := .cells #[.int .i64 ji14, u254001] 30 (0, 0)) (bu BK253.out) NB253_260.out (by simp)); replace HB := am (hb); replace HI260 := am (hi); (try clear hb); (try clear ho0)) | ((with_reducible refine gate_callee (f := 75) rfl ?_); refine goesL_ (some 61) rfl rfl Try.func75 (by kernel_rfl) rfl #[.pointer (some ⟨g260, 0, none⟩)] rfl (by (try simp only [List.map_toArray, List.map_cons, List.map_nil]); first | done | rfl) ?_; (with_reducible refine (octet_Reader_Err.calls g260 r260 t256 t272 t273 t274 t275 t276 t277 t278 w _ ?side1 ?side2 A31.out).mono ?_); (case side1 => repeat (with_reducible first | exact HI260.out | apply yA101 | apply yN101 | apply yD101 | refine yF101 ?_ NB260_249.out _ | refine yF101 ?_ NB260_253.out _)); (case side2 => repeat (with_reducible first | exact HB.out | apply bA | apply bN | apply bD | refine bS ?_ (IsS101.ge HI260.out) | refine bS ?_ ao)); rintro e w51 ⟨rfl, hi, hb, hk⟩; refine ⟨_, rfl, ?_⟩; replace HO_254001 := am (Kd.R_mono (Kd.R_keep (IsS101.apart (show IsS101 w _ g260 r260 t256 t272 t273 t274 from by repeat (with_reducible first | exact HI260.out | apply yA101 | apply yN101 | apply yD101 | refine yF101 ?_ NB260_249.out _ | refine yF101 ?_ NB260_253.out _)) (ru (HO_254001.out)) (by decide)) hk (fun _ h => h.2)) (fun _ h => h.1)); replace BK249 := am (KeepBut.blk hk (g' := gb249) (o := .cells #[.int .i64 x250000_2, .slice none 0 0] 30 (0, 0)) (bu BK249.out) NB249_260.out (by simp)); replace BK253 := am (KeepBut.blk hk (g' := gb253) (o := .cells #[.int .i64 ji14, u254001] 30 (0, 0)) (bu BK253.out) NB253_260.out (by simp)); replace HO271 := am (Kd.R_mono (Kd.R_keep (IsS101.apart (show IsS101 w _ g260 r260 t256 t272 t273 t274 from by repeat (with_reducible first | exact HI260.out | apply yA101 | apply yN101 | apply yD101 | refine yF101 ?_ NB260_249.out _ | refine yF101 ?_ NB260_253.out _)) (ru (HO271.out)) (by decide)) hk (fun _ h => h.2)) (fun _ h => h.1)); replace HB := am (hb); replace HI260 := am (hi); (try clear hb); have hnb52 := NB249_260.out; have hnc52 := NB260_249.out.1; obtain ⟨hcz53_0, hcz53_1, hfz53_0, hfz53_1⟩ := cf BK249.out))
              refine bodyPost_ret (results_ct rfl _ _ gb249 30 #[.int .i64 0, .slice none 0 0] (0, 0) _ rfl (by (with_reducible repeat (first | refine blk_drewN ?_ _ | refine blk_drew ?_ | refine blk_alloc ?_ _)); refine blk_put (cs := #[.int .i64 0, .slice none 0 0]) ?_ 1 _ rfl; (with_reducible repeat (first | refine blk_drewN ?_ _ | refine blk_drew ?_ | refine blk_alloc ?_ _)); refine blk_put (cs := #[.int .i64 x250000_2, .slice none 0 0]) ?_ 0 _ rfl; exact bu BK249.out) Try.underlying30 rfl (by kernel_rfl)) rfl ?_
              exact ⟨_, by first | rfl | (simp [errW_none, errW_some] <;> rfl) | (simp only [← hji14, ← hji16, ← hji28]; first | rfl | (simp [errW_none, errW_some] <;> rfl)) | (simp [*, errW_none, errW_some] <;> rfl), by first | exact Kd.R_nil _ _ _ _ _ | exact Kd.V_nil _ _ _ _ _, by repeat (with_reducible first | exact HB.out | apply bA | apply bN | apply bD | refine bS ?_ (IsS101.ge HI260.out) | refine bS ?_ ao)⟩
            ·
             rw [if_neg c27] at H
             exact absurd H (by simp)
           ·
            rw [if_neg c26] at H
            have c26b0 : decide (x47_2 < t261) = false := decide_eq_false c26
            clear c26
            replace H := Option.bind_eq_some_iff.mp H
            obtain ⟨⟨t283, t284, t285, t286⟩, A540, H⟩ := H
            try dsimp only at H
            have A54 := Aside0.mk A540
            clear A540
            by_cases c55 : t283 = 0
            ·
             rw [if_pos c55] at H
             have c55b0 : (t283 == 0) = true := beq_iff_eq.mpr c55
             have c55b1 : (t283 != 0) = false := bne_eq_false_iff_eq.mpr c55
             clear c55
             replace H := Option.bind_eq_some_iff.mp H
             obtain ⟨⟨t287, t290⟩, A560, H⟩ := H
             try dsimp only at H
             have A56 := Aside0.mk A560
             clear A560
             by_cases c57 : t290 = 0
             ·
              rw [if_pos c57] at H
              have c57b0 : (t290 == 0) = true := beq_iff_eq.mpr c57
              have c57b1 : (t290 != 0) = false := bne_eq_false_iff_eq.mpr c57
              clear c57
              by_cases c58 : (strOfNums t287).toList = (strOfNums l0).toList
              ·
               rw [if_pos c58] at H
               have c58b0 : ((strOfNums t287).toList == (strOfNums l0).toList) = true := beq_iff_eq.mpr c58
               have c58b1 : ((strOfNums t287).toList != (strOfNums l0).toList) = false := bne_eq_false_iff_eq.mpr c58
               clear c58
               simp only [Option.some.injEq, Prod.mk.injEq] at H
               obtain ⟨rfl, rfl, rfl⟩ := H
               go_wp2_with (first | ((with_reducible refine gate_callee (f := 76) rfl ?_); refine goesL_ (some 78) rfl rfl Try.func76 (by kernel_rfl) rfl #[.pointer (some ⟨g260, 0, none⟩)] rfl (by (try simp only [List.map_toArray, List.map_cons, List.map_nil]); first | done | rfl) ?_; (with_reducible refine (octet_Reader_End.calls g260 r260 t256 x261001_2 x261002_2 x261003_2 t283 t284 t285 t286 w _ ?side1 ?side2 A54.out).mono ?_); (case side1 => repeat (with_reducible first | exact HI260.out | apply yA101 | apply yN101 | apply yD101 | refine yF101 ?_ NB260_249.out _ | refine yF101 ?_ NB260_253.out _)); (case side2 => repeat (with_reducible first | exact HB.out | apply bA | apply bN | apply bD | refine bS ?_ (IsS101.ge HI260.out) | refine bS ?_ ao)); rintro e w59 ⟨rfl, hi, hb, hk⟩; refine ⟨_, rfl, ?_⟩; replace HO_254001 := am (Kd.R_mono (Kd.R_keep (IsS101.apart (show IsS101 w _ g260 r260 t256 x261001_2 x261002_2 x261003_2 from by repeat (with_reducible first | exact HI260.out | apply yA101 | apply yN101 | apply yD101 | refine yF101 ?_ NB260_249.out _ | refine yF101 ?_ NB260_253.out _)) (ru (HO_254001.out)) (by decide)) hk (fun _ h => h.2)) (fun _ h => h.1)); replace BK249 := am (KeepBut.blk hk (g' := gb249) (o := .cells #[.int .i64 x250000_2, .slice none 0 0] 30 (0, 0)) (bu BK249.out) NB249_260.out (by simp)); replace BK253 := am (KeepBut.blk hk (g' := gb253) (o := .cells #[.int .i64 ji14, u254001] 30 (0, 0)) (bu BK253.out) NB253_260.out (by simp)); replace HB := am (hb); replace HI260 := am (hi); (try clear hb); have hnb60 := NB253_249.out; have hnc60 := NB249_253.out; have hnb61 := NB253_260.out; have hnc61 := NB260_253.out.1; obtain ⟨hcz62_0, hcz62_1, hfz62_0, hfz62_1⟩ := cf BK253.out; obtain ⟨Ao63, co63, eo63⟩ := Kd.R_slice HO_254001.out; subst eo63) | ((with_reducible refine gate_callee (f := 20) rfl ?_); refine goesL_ (some 114) rfl rfl Try.func20 (by kernel_rfl) rfl #[.agg #[.int .i64 ji14, .slice Ao63 x254001_2.length co63]] rfl (by (try simp only [List.map_toArray, List.map_cons, List.map_nil]); first | done | (simp only [hji14]; rfl) | rfl | (simp only [List.length_drop, List.length_take]; rfl)) ?_; (with_reducible refine (dense_Bytes.calls k2 ji14 _ _ x254001_2 t287 t290 _ ?side1 ?side2 A56.out).mono ?_); (case side1 => repeat (first | exact (Kd.R_reads' HO_254001.out).2.2 | (with_reducible refine Kd.C_alloc ?_ _) | (with_reducible refine Kd.C_drewN ?_ _) | (with_reducible refine Kd.C_drew ?_))); (case side2 => exact (Kd.R_reads' HO_254001.out).2.1); rintro e w64 ⟨v288, rfl, ho0, hb⟩; refine ⟨_, rfl, ?_⟩; have HO289 := am (Kd.R_lower ho0 (below_size (by repeat (with_reducible first | exact HB.out | apply bA | apply bN | apply bD | refine bS ?_ (IsS101.ge HI260.out) | refine bS ?_ ao)))); replace HO_254001 := rb HO_254001 hb; replace BK249 := bb BK249 hb; replace BK253 := bb BK253 hb; replace HI260 := am (IsS101.below (by repeat (with_reducible first | exact HI260.out | apply yA101 | apply yN101 | apply yD101 | refine yF101 ?_ NB260_249.out _ | refine yF101 ?_ NB260_253.out _)) hb); replace HB := am (below_step (by repeat (with_reducible first | exact HB.out | apply bA | apply bN | apply bD | refine bS ?_ (IsS101.ge HI260.out) | refine bS ?_ ao)) hb); (try clear hb); (try clear ho0); have hcv65 := own_string (P := Try.prog) Try.underlying33 Try.underlying5 Try.underlying9 (Kd.own_of_R HO289.out); have hcv66 := fun nq_ : Nat => own_string (P := Try.prog) Try.underlying33 Try.underlying5 Try.underlying9 (pw_own_drewN (Kd.own_of_R HO289.out) nq_); have hcv67 := Kd.C_string (P := Try.prog) (A := (some ad252)) (c := c0) Try.underlying33 Try.underlying5 Try.underlying9 (Kd.C_below HR0.out HB.out); have hcv68 := fun nq_ : Nat => Kd.C_string (P := Try.prog) (A := (some ad252)) (c := c0) Try.underlying33 Try.underlying5 Try.underlying9 (Kd.C_drewN (Kd.C_below HR0.out HB.out) nq_); obtain ⟨hcz69_0, hcz69_1, hfz69_0, hfz69_1⟩ := cf BK253.out; have hnb70 := NB249_260.out; have hnc70 := NB260_249.out.1; obtain ⟨hcz71_0, hcz71_1, hfz71_0, hfz71_1⟩ := cf BK249.out))
               refine bodyPost_ret (results_ct rfl _ _ gb249 30 #[.int .i64 ji14, .slice Ao63 x254001_2.length co63] (0, 0) _ rfl (by (with_reducible repeat (first | refine blk_drewN ?_ _ | refine blk_drew ?_ | refine blk_alloc ?_ _)); refine blk_put (cs := #[.int .i64 ji14, .slice none 0 0]) ?_ 1 _ rfl; (with_reducible repeat (first | refine blk_drewN ?_ _ | refine blk_drew ?_ | refine blk_alloc ?_ _)); refine blk_put (cs := #[.int .i64 x250000_2, .slice none 0 0]) ?_ 0 _ rfl; exact bu BK249.out) Try.underlying30 rfl (by kernel_rfl)) rfl ?_
               exact ⟨_, by first | rfl | (simp [errW_none, errW_some] <;> rfl) | (simp only [← hji14, ← hji16]; first | rfl | (simp [errW_none, errW_some] <;> rfl)) | (simp [*, errW_none, errW_some] <;> rfl), by (with_reducible repeat (first | apply Kd.R_alloc | apply Kd.R_drewN | apply Kd.R_drew)); exact Kd.R_mono (Kd.R_far (p := ⟨gb249, 1, none⟩) (Kd.R_far (p := ⟨gb249, 0, none⟩) (Kd.R_types HO_254001.out BK249.out (by decide)) (fun _ hk => hk.2) (.int .i64 ji14)) (fun _ hk => hk.2) (.slice Ao63 x254001_2.length co63)) (fun _ hk => trivial), by repeat (with_reducible first | exact HB.out | apply bA | apply bN | apply bD | refine bS ?_ (IsS101.ge HI260.out) | refine bS ?_ ao)⟩
              ·
               rw [if_neg c58] at H
               have c58b0 : ((strOfNums t287).toList == (strOfNums l0).toList) = false := beq_eq_false_iff_ne.mpr c58
               have c58b1 : ((strOfNums t287).toList != (strOfNums l0).toList) = true := bne_iff_ne.mpr c58
               simp only [Option.some.injEq, Prod.mk.injEq] at H
               obtain ⟨rfl, rfl, rfl⟩ := H
               go_wp2_with (first | ((with_reducible refine gate_callee (f := 76) rfl ?_); refine goesL_ (some 78) rfl rfl Try.func76 (by kernel_rfl) rfl #[.pointer (some ⟨g260, 0, none⟩)] rfl (by (try simp only [List.map_toArray, List.map_cons, List.map_nil]); first | done | rfl) ?_; (with_reducible refine (octet_Reader_End.calls g260 r260 t256 x261001_2 x261002_2 x261003_2 t283 t284 t285 t286 w _ ?side1 ?side2 A54.out).mono ?_); (case side1 => repeat (with_reducible first | exact HI260.out | apply yA101 | apply yN101 | apply yD101 | refine yF101 ?_ NB260_249.out _ | refine yF101 ?_ NB260_253.out _)); (case side2 => repeat (with_reducible first | exact HB.out | apply bA | apply bN | apply bD | refine bS ?_ (IsS101.ge HI260.out) | refine bS ?_ ao)); rintro e w72 ⟨rfl, hi, hb, hk⟩; refine ⟨_, rfl, ?_⟩; replace HO_254001 := am (Kd.R_mono (Kd.R_keep (IsS101.apart (show IsS101 w _ g260 r260 t256 x261001_2 x261002_2 x261003_2 from by repeat (with_reducible first | exact HI260.out | apply yA101 | apply yN101 | apply yD101 | refine yF101 ?_ NB260_249.out _ | refine yF101 ?_ NB260_253.out _)) (ru (HO_254001.out)) (by decide)) hk (fun _ h => h.2)) (fun _ h => h.1)); replace BK249 := am (KeepBut.blk hk (g' := gb249) (o := .cells #[.int .i64 x250000_2, .slice none 0 0] 30 (0, 0)) (bu BK249.out) NB249_260.out (by simp)); replace BK253 := am (KeepBut.blk hk (g' := gb253) (o := .cells #[.int .i64 ji14, u254001] 30 (0, 0)) (bu BK253.out) NB253_260.out (by simp)); replace HB := am (hb); replace HI260 := am (hi); (try clear hb); have hnb73 := NB253_249.out; have hnc73 := NB249_253.out; have hnb74 := NB253_260.out; have hnc74 := NB260_253.out.1; obtain ⟨hcz75_0, hcz75_1, hfz75_0, hfz75_1⟩ := cf BK253.out; obtain ⟨Ao76, co76, eo76⟩ := Kd.R_slice HO_254001.out; subst eo76) | ((with_reducible refine gate_callee (f := 20) rfl ?_); refine goesL_ (some 114) rfl rfl Try.func20 (by kernel_rfl) rfl #[.agg #[.int .i64 ji14, .slice Ao76 x254001_2.length co76]] rfl (by (try simp only [List.map_toArray, List.map_cons, List.map_nil]); first | done | (simp only [hji14]; rfl) | rfl | (simp only [List.length_drop, List.length_take]; rfl)) ?_; (with_reducible refine (dense_Bytes.calls k2 ji14 _ _ x254001_2 t287 t290 _ ?side1 ?side2 A56.out).mono ?_); (case side1 => repeat (first | exact (Kd.R_reads' HO_254001.out).2.2 | (with_reducible refine Kd.C_alloc ?_ _) | (with_reducible refine Kd.C_drewN ?_ _) | (with_reducible refine Kd.C_drew ?_))); (case side2 => exact (Kd.R_reads' HO_254001.out).2.1); rintro e w77 ⟨v288, rfl, ho0, hb⟩; refine ⟨_, rfl, ?_⟩; have HO289 := am (Kd.R_lower ho0 (below_size (by repeat (with_reducible first | exact HB.out | apply bA | apply bN | apply bD | refine bS ?_ (IsS101.ge HI260.out) | refine bS ?_ ao)))); replace HO_254001 := rb HO_254001 hb; replace BK249 := bb BK249 hb; replace BK253 := bb BK253 hb; replace HI260 := am (IsS101.below (by repeat (with_reducible first | exact HI260.out | apply yA101 | apply yN101 | apply yD101 | refine yF101 ?_ NB260_249.out _ | refine yF101 ?_ NB260_253.out _)) hb); replace HB := am (below_step (by repeat (with_reducible first | exact HB.out | apply bA | apply bN | apply bD | refine bS ?_ (IsS101.ge HI260.out) | refine bS ?_ ao)) hb); (try clear hb); (try clear ho0); have hcv78 := own_string (P := Try.prog) Try.underlying33 Try.underlying5 Try.underlying9 (Kd.own_of_R HO289.out); have hcv79 := fun nq_ : Nat => own_string (P := Try.prog) Try.underlying33 Try.underlying5 Try.underlying9 (pw_own_drewN (Kd.own_of_R HO289.out) nq_); have hcv80 := Kd.C_string (P := Try.prog) (A := (some ad252)) (c := c0) Try.underlying33 Try.underlying5 Try.underlying9 (Kd.C_below HR0.out HB.out); have hcv81 := fun nq_ : Nat => Kd.C_string (P := Try.prog) (A := (some ad252)) (c := c0) Try.underlying33 Try.underlying5 Try.underlying9 (Kd.C_drewN (Kd.C_below HR0.out HB.out) nq_); have hnb82 := NB249_260.out; have hnc82 := NB260_249.out.1; obtain ⟨hcz83_0, hcz83_1, hfz83_0, hfz83_1⟩ := cf BK249.out))
               refine bodyPost_ret (results_ct rfl _ _ gb249 30 #[.int .i64 0, .slice none 0 0] (0, 0) _ rfl (by (with_reducible repeat (first | refine blk_drewN ?_ _ | refine blk_drew ?_ | refine blk_alloc ?_ _)); refine blk_put (cs := #[.int .i64 0, .slice none 0 0]) ?_ 1 _ rfl; (with_reducible repeat (first | refine blk_drewN ?_ _ | refine blk_drew ?_ | refine blk_alloc ?_ _)); refine blk_put (cs := #[.int .i64 x250000_2, .slice none 0 0]) ?_ 0 _ rfl; exact bu BK249.out) Try.underlying30 rfl (by kernel_rfl)) rfl ?_
               exact ⟨_, by first | rfl | (simp [errW_none, errW_some] <;> rfl) | (simp only [← hji14, ← hji16]; first | rfl | (simp [errW_none, errW_some] <;> rfl)) | (simp [*, errW_none, errW_some] <;> rfl), by first | exact Kd.R_nil _ _ _ _ _ | exact Kd.V_nil _ _ _ _ _, by repeat (with_reducible first | exact HB.out | apply bA | apply bN | apply bD | refine bS ?_ (IsS101.ge HI260.out) | refine bS ?_ ao)⟩
             ·
              rw [if_neg c57] at H
              have c57b0 : (t290 == 0) = false := beq_eq_false_iff_ne.mpr c57
              have c57b1 : (t290 != 0) = true := bne_iff_ne.mpr c57
              simp only [Option.some.injEq, Prod.mk.injEq] at H
              obtain ⟨rfl, rfl, rfl⟩ := H
              go_wp2_with (first | ((with_reducible refine gate_callee (f := 76) rfl ?_); refine goesL_ (some 78) rfl rfl Try.func76 (by kernel_rfl) rfl #[.pointer (some ⟨g260, 0, none⟩)] rfl (by (try simp only [List.map_toArray, List.map_cons, List.map_nil]); first | done | rfl) ?_; (with_reducible refine (octet_Reader_End.calls g260 r260 t256 x261001_2 x261002_2 x261003_2 t283 t284 t285 t286 w _ ?side1 ?side2 A54.out).mono ?_); (case side1 => repeat (with_reducible first | exact HI260.out | apply yA101 | apply yN101 | apply yD101 | refine yF101 ?_ NB260_249.out _ | refine yF101 ?_ NB260_253.out _)); (case side2 => repeat (with_reducible first | exact HB.out | apply bA | apply bN | apply bD | refine bS ?_ (IsS101.ge HI260.out) | refine bS ?_ ao)); rintro e w84 ⟨rfl, hi, hb, hk⟩; refine ⟨_, rfl, ?_⟩; replace HO_254001 := am (Kd.R_mono (Kd.R_keep (IsS101.apart (show IsS101 w _ g260 r260 t256 x261001_2 x261002_2 x261003_2 from by repeat (with_reducible first | exact HI260.out | apply yA101 | apply yN101 | apply yD101 | refine yF101 ?_ NB260_249.out _ | refine yF101 ?_ NB260_253.out _)) (ru (HO_254001.out)) (by decide)) hk (fun _ h => h.2)) (fun _ h => h.1)); replace BK249 := am (KeepBut.blk hk (g' := gb249) (o := .cells #[.int .i64 x250000_2, .slice none 0 0] 30 (0, 0)) (bu BK249.out) NB249_260.out (by simp)); replace BK253 := am (KeepBut.blk hk (g' := gb253) (o := .cells #[.int .i64 ji14, u254001] 30 (0, 0)) (bu BK253.out) NB253_260.out (by simp)); replace HB := am (hb); replace HI260 := am (hi); (try clear hb); have hnb85 := NB253_249.out; have hnc85 := NB249_253.out; have hnb86 := NB253_260.out; have hnc86 := NB260_253.out.1; obtain ⟨hcz87_0, hcz87_1, hfz87_0, hfz87_1⟩ := cf BK253.out; obtain ⟨Ao88, co88, eo88⟩ := Kd.R_slice HO_254001.out; subst eo88) | ((with_reducible refine gate_callee (f := 20) rfl ?_); refine goesL_ (some 114) rfl rfl Try.func20 (by kernel_rfl) rfl #[.agg #[.int .i64 ji14, .slice Ao88 x254001_2.length co88]] rfl (by (try simp only [List.map_toArray, List.map_cons, List.map_nil]); first | done | (simp only [hji14]; rfl) | rfl | (simp only [List.length_drop, List.length_take]; rfl)) ?_; (with_reducible refine (dense_Bytes.calls k2 ji14 _ _ x254001_2 t287 t290 _ ?side1 ?side2 A56.out).mono ?_); (case side1 => repeat (first | exact (Kd.R_reads' HO_254001.out).2.2 | (with_reducible refine Kd.C_alloc ?_ _) | (with_reducible refine Kd.C_drewN ?_ _) | (with_reducible refine Kd.C_drew ?_))); (case side2 => exact (Kd.R_reads' HO_254001.out).2.1); rintro e w89 ⟨v288, rfl, ho0, hb⟩; refine ⟨_, rfl, ?_⟩; have HO289 := am (Kd.R_lower ho0 (below_size (by repeat (with_reducible first | exact HB.out | apply bA | apply bN | apply bD | refine bS ?_ (IsS101.ge HI260.out) | refine bS ?_ ao)))); replace HO_254001 := rb HO_254001 hb; replace BK249 := bb BK249 hb; replace BK253 := bb BK253 hb; replace HI260 := am (IsS101.below (by repeat (with_reducible first | exact HI260.out | apply yA101 | apply yN101 | apply yD101 | refine yF101 ?_ NB260_249.out _ | refine yF101 ?_ NB260_253.out _)) hb); replace HB := am (below_step (by repeat (with_reducible first | exact HB.out | apply bA | apply bN | apply bD | refine bS ?_ (IsS101.ge HI260.out) | refine bS ?_ ao)) hb); (try clear hb); (try clear ho0); have hnb90 := NB249_260.out; have hnc90 := NB260_249.out.1; obtain ⟨hcz91_0, hcz91_1, hfz91_0, hfz91_1⟩ := cf BK249.out))
              refine bodyPost_ret (results_ct rfl _ _ gb249 30 #[.int .i64 0, .slice none 0 0] (0, 0) _ rfl (by (with_reducible repeat (first | refine blk_drewN ?_ _ | refine blk_drew ?_ | refine blk_alloc ?_ _)); refine blk_put (cs := #[.int .i64 0, .slice none 0 0]) ?_ 1 _ rfl; (with_reducible repeat (first | refine blk_drewN ?_ _ | refine blk_drew ?_ | refine blk_alloc ?_ _)); refine blk_put (cs := #[.int .i64 x250000_2, .slice none 0 0]) ?_ 0 _ rfl; exact bu BK249.out) Try.underlying30 rfl (by kernel_rfl)) rfl ?_
              exact ⟨_, by first | rfl | (simp [errW_none, errW_some] <;> rfl) | (simp only [← hji14, ← hji16]; first | rfl | (simp [errW_none, errW_some] <;> rfl)) | (simp [*, errW_none, errW_some] <;> rfl), by first | exact Kd.R_nil _ _ _ _ _ | exact Kd.V_nil _ _ _ _ _, by repeat (with_reducible first | exact HB.out | apply bA | apply bN | apply bD | refine bS ?_ (IsS101.ge HI260.out) | refine bS ?_ ao)⟩
            ·
             rw [if_neg c55] at H
             have c55b0 : (t283 == 0) = false := beq_eq_false_iff_ne.mpr c55
             have c55b1 : (t283 != 0) = true := bne_iff_ne.mpr c55
             simp only [Option.some.injEq, Prod.mk.injEq] at H
             obtain ⟨rfl, rfl, rfl⟩ := H
             go_wp2_with (first | ((with_reducible refine gate_callee (f := 76) rfl ?_); refine goesL_ (some 78) rfl rfl Try.func76 (by kernel_rfl) rfl #[.pointer (some ⟨g260, 0, none⟩)] rfl (by (try simp only [List.map_toArray, List.map_cons, List.map_nil]); first | done | rfl) ?_; (with_reducible refine (octet_Reader_End.calls g260 r260 t256 x261001_2 x261002_2 x261003_2 t283 t284 t285 t286 w _ ?side1 ?side2 A54.out).mono ?_); (case side1 => repeat (with_reducible first | exact HI260.out | apply yA101 | apply yN101 | apply yD101 | refine yF101 ?_ NB260_249.out _ | refine yF101 ?_ NB260_253.out _)); (case side2 => repeat (with_reducible first | exact HB.out | apply bA | apply bN | apply bD | refine bS ?_ (IsS101.ge HI260.out) | refine bS ?_ ao)); rintro e w92 ⟨rfl, hi, hb, hk⟩; refine ⟨_, rfl, ?_⟩; replace HO_254001 := am (Kd.R_mono (Kd.R_keep (IsS101.apart (show IsS101 w _ g260 r260 t256 x261001_2 x261002_2 x261003_2 from by repeat (with_reducible first | exact HI260.out | apply yA101 | apply yN101 | apply yD101 | refine yF101 ?_ NB260_249.out _ | refine yF101 ?_ NB260_253.out _)) (ru (HO_254001.out)) (by decide)) hk (fun _ h => h.2)) (fun _ h => h.1)); replace BK249 := am (KeepBut.blk hk (g' := gb249) (o := .cells #[.int .i64 x250000_2, .slice none 0 0] 30 (0, 0)) (bu BK249.out) NB249_260.out (by simp)); replace BK253 := am (KeepBut.blk hk (g' := gb253) (o := .cells #[.int .i64 ji14, u254001] 30 (0, 0)) (bu BK253.out) NB253_260.out (by simp)); replace HB := am (hb); replace HI260 := am (hi); (try clear hb); have hnb93 := NB249_253.out; have hnc93 := NB253_249.out; have hnb94 := NB249_260.out; have hnc94 := NB260_249.out.1; obtain ⟨hcz95_0, hcz95_1, hfz95_0, hfz95_1⟩ := cf BK249.out))
             refine bodyPost_ret (results_ct rfl _ _ gb249 30 #[.int .i64 0, .slice none 0 0] (0, 0) _ rfl (by (with_reducible repeat (first | refine blk_drewN ?_ _ | refine blk_drew ?_ | refine blk_alloc ?_ _)); refine blk_put (cs := #[.int .i64 0, .slice none 0 0]) ?_ 1 _ rfl; (with_reducible repeat (first | refine blk_drewN ?_ _ | refine blk_drew ?_ | refine blk_alloc ?_ _)); refine blk_put (cs := #[.int .i64 x250000_2, .slice none 0 0]) ?_ 0 _ rfl; exact bu BK249.out) Try.underlying30 rfl (by kernel_rfl)) rfl ?_
             exact ⟨_, by first | rfl | (simp [errW_none, errW_some] <;> rfl) | (simp only [← hji14, ← hji16]; first | rfl | (simp [errW_none, errW_some] <;> rfl)) | (simp [*, errW_none, errW_some] <;> rfl), by first | exact Kd.R_nil _ _ _ _ _ | exact Kd.V_nil _ _ _ _ _, by repeat (with_reducible first | exact HB.out | apply bA | apply bN | apply bD | refine bS ?_ (IsS101.ge HI260.out) | refine bS ?_ ao)⟩
        ·
         rw [if_neg c15] at H
         exact absurd H (by simp)
       ·
        rw [if_neg c12] at H
        exact absurd H (by simp)
      ·
       rw [if_neg c11] at H
       have c11b0 : ((rd l0 1) == 0) = false := beq_eq_false_iff_ne.mpr c11
       have c11b1 : ((rd l0 1) != 0) = true := bne_iff_ne.mpr c11
       by_cases c96 : (rd l0 1) = 1
       ·
        rw [if_pos c96] at H
        have c96b0 : ((rd l0 1) == 1) = true := beq_iff_eq.mpr c96
        have c96b1 : ((rd l0 1) != 1) = false := bne_eq_false_iff_eq.mpr c96
        clear c96
        obtain ⟨ji97, hji97⟩ : ∃ j_ : Int, (wrap64 (rd l0 0)) = j_ := ⟨_, rfl⟩
        first | rw [hji97] at H | simp only [hji97] at H
        have hji97w : (IntKind.i64.wrap (rd l0 0)) = ji97 := (i64_w _).trans hji97
        by_cases c98 : 0 ≤ (ji97)
        ·
         rw [if_pos c98] at H
         have c98b0 := eq_true c98
         have c98b1 : decide (0 ≤ (ji97)) = true := decide_eq_true c98
         clear c98
         obtain ⟨ji99, hji99⟩ : ∃ j_ : Int, (shl .i64 6 (ji97)) = j_ := ⟨_, rfl⟩
         first | rw [hji99] at H | simp only [hji99] at H
         have hji99_ : (IntKind.i64.wrap (6 * 2 ^ min (ji97).toNat 64)) = ji99 := hji99
         have hji99z : (ji97) ≤ 64 → (IntKind.i64.wrap (6 * 2 ^ (ji97).toNat)) = ji99 := shl_small hji99
         have hji99y : (wrap64 (6 * 2 ^ min (ji97).toNat 64)) = ji99 := (i64_w _).symm.trans hji99_
         have hji99x : (ji97) ≤ 64 → (wrap64 (6 * 2 ^ (ji97).toNat)) = ji99 := fun h_ => (i64_w _).symm.trans (hji99z h_)
         by_cases c100 : (wrap64 ((l0.length : Int) - 2)) = (wrap64 (Int.tdiv (ji99) 8))
         ·
          rw [if_pos c100] at H
          have c100b0 : ((wrap64 ((l0.length : Int) - 2)) == (wrap64 (Int.tdiv (ji99) 8))) = true := beq_iff_eq.mpr c100
          have c100b1 : ((wrap64 ((l0.length : Int) - 2)) != (wrap64 (Int.tdiv (ji99) 8))) = false := bne_eq_false_iff_eq.mpr c100
          clear c100
          by_cases c101 : 2 ≤ (l0.length : Int)
          ·
           rw [if_pos c101] at H
           have c101b0 := eq_true c101
           have c101b1 : decide (2 ≤ (l0.length : Int)) = true := decide_eq_true c101
           clear c101
           replace H := Option.bind_eq_some_iff.mp H
           obtain ⟨t292, A1020, H⟩ := H
           try dsimp only at H
           have A102 := Aside0.mk A1020
           clear A1020
           have H' := Aside0.mk H
           clear H
           have p252 : 0 ≤ (0 : Int) := (by omega)
           have q252 : 0 < (l0.length : Int) := of_decide_eq_true (by first | (with_reducible assumption) | assumption)
           obtain ⟨ad252, e252, hx252_0⟩ := Kd.at_int HR0.out 0 p252 q252
           cases e252
           have qi252 : (0 < l0.length) = True := eq_true (by omega)
           (try rw [show ((0 : Int)).toNat = 0 from rfl] at hx252_0)
           (try rw [Addr.add_zero'] at hx252_0)
           replace hx252_0 := (HB.out.cell (World.block_lt_of_cell? w _ hx252_0)).trans hx252_0
           replace p252 := eq_true p252
           replace q252 := eq_true q252
           go_wp2_with (first | ((with_reducible refine gate_dst (N := 4) rfl ?_); refine box_event ?hg (N := 4) ?hd (cs := #[.int .i64 0, .slice none 0 0]) (t := 30) ?hr ?_; (case hd => rfl); (case hg => rfl); (case hr => go_simp; try rfl); intro gb253 hg w103 hbox hb; obtain ⟨HBn, GW253⟩ := tri hg hb (by repeat (with_reducible first | exact HB.out | apply bA | apply bN | apply bD | refine bS ?_ ao)); have GE253 := GW253; have BK253 := am (hbox); have NB249_253 := nl hg (bu BK249.out); have NB253_249 := nr hg (bu BK249.out); replace BK249 := bb BK249 hb; clear HB; have HB := HBn; clear HBn; clear hb hbox hg; have hnb104 := NB253_249.out; have hnc104 := NB249_253.out; obtain ⟨hcz105_0, hcz105_1, hfz105_0, hfz105_1⟩ := cf BK253.out) | ((with_reducible refine gate_store (t := 30) (p := 4) rfl ?_); refine store_event (t := 30) (p := 4) (v := ?vo_w106) (w1 := ((w103.setCell ⟨gb253, 0, none⟩ (.int .i64 ji97)).setCell ⟨gb253, 1, none⟩ (.slice none 0 0))) ?hg ?ho ?hn ?hr ?_; (case ho => rfl); (case hg => rfl); (case hn => rfl); (case hr => go_simp; try rfl); intro w106 hw; have n0_ : Aside0 (w106.heap[gb249]? = some (.cells #[.int .i64 0, .slice none 0 0] 30 (0, 0))) := ⟨(by rw [hw]; exact (bf NB249_253.out BK249.out))⟩; have n1_ : Aside0 (w106.heap[gb253]? = some (.cells #[.int .i64 ji97, .slice none 0 0] 30 (0, 0))) := ⟨(by rw [hw]; exact (by (with_reducible repeat (first | refine blk_drewN ?_ _ | refine blk_drew ?_ | refine blk_alloc ?_ _)); refine blk_put (cs := #[.int .i64 ji97, .slice none 0 0]) ?_ 1 _ rfl; (with_reducible repeat (first | refine blk_drewN ?_ _ | refine blk_drew ?_ | refine blk_alloc ?_ _)); refine blk_put (cs := #[.int .i64 0, .slice none 0 0]) ?_ 0 _ rfl; exact bu BK253.out))⟩; have n2_ : Aside0 (Below w.heap.size w w106) := ⟨(by rw [hw]; exact (by repeat (with_reducible first | exact HB.out | apply bA | apply bN | apply bD | refine bS ?_ ao)))⟩; clear hw; clear BK249; clear BK253; clear HB; have BK249 := n0_; have BK253 := n1_; have HB := n2_; clear n0_ n1_ n2_; have p254 : 0 ≤ (1 : Int) := (by omega); have q254 : 1 < (l0.length : Int) := of_decide_eq_true (by first | (with_reducible assumption) | assumption); obtain ⟨ad254, e254, hx254_0⟩ := Kd.at_int HR0.out 1 p254 q254; obtain rfl : ad252 = ad254 := (by injection e254); (try simp only [show (1 : Int).toNat = 1 from rfl, Nat.reduceMul, Nat.reduceEqDiff, Go.Addr.add, ↓reduceIte] at hx254_0); have qi254 : (1 < l0.length) = True := eq_true (by omega); (try rw [show ((1 : Int)).toNat = 1 from rfl] at hx254_0); replace hx254_0 := (HB.out.cell (World.block_lt_of_cell? w _ hx254_0)).trans hx254_0; replace p254 := eq_true p254; replace q254 := eq_true q254; obtain ⟨hcz107_0, hcz107_1, hfz107_0, hfz107_1⟩ := cf BK253.out; obtain ⟨i0108, hi0108, _, hsz108, _⟩ := info_parts info5; obtain ⟨A108, hcut108, hA108, hC108⟩ := print_drop_of (P := Try.prog) (Value.int .u8) 0 33 5 .i64 Try.underlying33 hi0108 hsz108 (some ad252) c0 l0 2 (by omega) (of_decide_eq_true (by first | (with_reducible assumption) | assumption)) HC0.out; have HR291 := am (Kd.C_of_reads (h1 := fun _ => rfl) (hA108 _ (Kd.reads_of_C HR0.out))); have HC291 := Aside0.mk hC108; clear hA108 hC108 hi0108 hsz108) | ((with_reducible refine gate_callee (f := 39) rfl ?_); refine goesL_ (some 94) rfl rfl Try.func39 (by kernel_rfl) rfl #[.slice A108 (l0.drop 2).length (c0 - 2)] rfl (by (try simp only [List.map_toArray, List.map_cons, List.map_nil]); first | done | (rw [show (l0.drop 2).length = (l0.length - 2) from List.length_drop] <;> rfl) | rfl | (simp only [List.length_drop, List.length_take]; rfl)) ?_; (with_reducible refine (dense_Unpack.calls kj1 (fun k_ => k_ < w.heap.size) _ _ (l0.drop 2) t292 _ ?side1 A102.out).mono ?_); (case side1 => exact Kd.V_mk HC291.out (Kd.F_below (Kd.C_F (Kd.heap_int .u8) HR291.out) (by repeat (with_reducible first | exact HB.out | apply bA | apply bN | apply bD | refine bS ?_ ao)))); rintro e w109 ⟨v293, rfl, ho0, hb⟩; refine ⟨_, rfl, ?_⟩; have HO294 := am (Kd.R_lower (Kd.R_mono (ok' := fun k_ => True) ho0 (fun _ hk_ => trivial)) (below_size (by repeat (with_reducible first | exact HB.out | apply bA | apply bN | apply bD | refine bS ?_ ao)))); replace BK249 := bb BK249 hb; replace BK253 := bb BK253 hb; replace HB := am (below_step (by repeat (with_reducible first | exact HB.out | apply bA | apply bN | apply bD | refine bS ?_ ao)) hb); (try clear hb); (try clear ho0); obtain ⟨Ao110, co110, eo110⟩ := Kd.R_slice HO294.out; subst eo110))
           (try simp only [Act.put, List.setIfInBounds_toArray, List.set_cons_zero, List.set_cons_succ])
           go_loopg [96] kj1 (fun kq v96 w' => ∃ (x96_2 : Int) (x254001_2 : List (S32)) (u254001 : Value), v96 = .int .i64 x96_2 ∧ Aside0 (dense_Read.l1 kq l0 t292 (t292.length : Int) x96_2 ji97 x254001_2 = some (r1, r2, r3)) ∧ Aside0 (kq ≤ kj1) ∧ Aside0 (Kd.R (Kd.int .i64) 3 w' w.heap.size (fun _ => True) (.slice Ao110 t292.length co110) t292) ∧ Aside0 (Kd.R k32 32 w' w.heap.size (fun _ => True) u254001 x254001_2) ∧ Aside0 (w'.heap[gb249]? = some (.cells #[.int .i64 0, (.slice none 0 0)] 30 (0, 0))) ∧ Aside0 (w'.heap[gb253]? = some (.cells #[.int .i64 ji97, u254001] 30 (0, 0))) ∧ Aside0 (Below w.heap.size w w'))
           case atStart => exact ⟨(0), (([] : List (S32))), (.slice none 0 0), (by first | rfl | (simp; done) | (simp [*]; done)), H', ⟨Nat.le_refl _⟩, ⟨ru HO294.out⟩, ⟨by first | exact Kd.R_nil _ _ _ _ _ | exact Kd.V_nil _ _ _ _ _⟩, ⟨bu BK249.out⟩, ⟨bu BK253.out⟩, ⟨by repeat (with_reducible first | exact HB.out | apply bA | apply bN | apply bD | refine bS ?_ ao)⟩⟩
           case round =>
            clear H'
            obtain ⟨x96_2, x254001_2, u254001, rfl, HA, HK2, HO_94, HO_254001, BK249, BK253, HB⟩ := hrel
            cases gk with
            | zero => exact absurd HA.out (by simp [dense_Read.l1])
            | succ k2 =>
             have H := HA.out
             clear HA
             simp only [dense_Read.l1] at H
             by_cases c111 : x96_2 < (t292.length : Int)
             ·
              rw [if_pos c111] at H
              have c111b0 : decide (x96_2 < (t292.length : Int)) = true := decide_eq_true c111
              clear c111
              by_cases c112 : 0 ≤ x96_2
              ·
               rw [if_pos c112] at H
               have c112b0 : decide (0 ≤ x96_2) = true := decide_eq_true c112
               clear c112
               by_cases c113 : x96_2 < (t292.length : Int)
               ·
                rw [if_pos c113] at H
                have c113b0 : decide (x96_2 < (t292.length : Int)) = true := decide_eq_true c113
                clear c113
                by_cases c114 : (rd t292 x96_2) > 0
                ·
                 rw [if_pos c114] at H
                 have c114b0 : decide (0 < (rd t292 x96_2)) = true := decide_eq_true c114
                 clear c114
                 by_cases c115 : x254001_2.length < 8796093022208
                 ·
                  rw [if_pos c115] at H
                  have LMc115 := Aside0.mk c115
                  clear c115
                  obtain ⟨y296, hy296⟩ : ∃ y_ : List (S32), y_ = (x254001_2 ++ [(⟨x96_2, rd t292 x96_2⟩ : S32)]) := ⟨_, rfl⟩
                  replace H : (dense_Read.l1 k2 l0 t292 (t292.length : Int) (wrap64 (x96_2 + 1)) ji97 y296) = some (r1, r2, r3) := by first | (rw [hy296]; with_reducible exact H) | (have H2_ := (Option.bind_some _ _).symm.trans H; rw [hy296]; with_reducible exact H2_) | (have H2_ := (Option.bind_some _ _).symm.trans H; with_reducible exact H2_) | with_reducible exact H | (rw [hy296]; exact H) | exact H
                  have Ny296 := Aside0.mk hy296
                  clear hy296
                  have H' := Aside0.mk H
                  clear H
                  have p295 : 0 ≤ (x96_2 : Int) := of_decide_eq_true (by first | (with_reducible assumption) | assumption)
                  have q295 : x96_2 < (t292.length : Int) := of_decide_eq_true (by first | (with_reducible assumption) | assumption)
                  obtain ⟨ad295, e295, hx295_0⟩ := Kd.at_int (Kd.R_reads' HO_94.out).2.2 x96_2 p295 q295
                  cases e295
                  replace p295 := eq_true p295
                  replace q295 := eq_true q295
                  have hnb116 := NB253_249.out; have hnc116 := NB249_253.out; obtain ⟨hcz117_0, hcz117_1, hfz117_0, hfz117_1⟩ := cf BK253.out
                  go_wp2_with (first | ((with_reducible refine gate_builtin (b := .append) (xs := #[.tmp 104, .tmp 108]) rfl ?_); at_builtin; refine Kd.R_append k32 (w0 := w) w.heap.size rfl (.tmp 104) (.tmp 108) 28 32 (.agg #[(.int .i64 0), (.int .i64 0)]) 16 rfl Try.underlying28 info32 rfl (by decide) (by omega) u254001 x254001_2 (⟨x96_2, rd t292 x96_2⟩ : S32) [.int .i64 x96_2, .int .i64 (rd t292 x96_2)] (fun _ => True) (fun _ => False) rfl rfl ?aP (fun _ hk => hk.elim) ?aF ?aO ?aB ?aS ?aL ?_; (case aP => exact k32_mkM _ _ _ (⟨x96_2, rd t292 x96_2⟩ : S32)); (case aB => exact (by repeat (with_reducible first | exact HB.out | apply bA | apply bN | apply bD | refine bS ?_ ao))); (case aF => exact (fun _ _ => trivial)); (case aO => exact (ru (HO_254001.out))); (case aS => exact (below_size (by repeat (with_reducible first | exact HB.out | apply bA | apply bN | apply bD | refine bS ?_ ao)))); (case aL => have := LMc115.out; omega); intro v297 w118 ho hb hg hat; rw [← Ny296.out] at ho; have HO298 := am (ho); replace HO_94 := am (Kd.R_over' (ru (HO_94.out)) (Kd.R_typed (ru (HO_254001.out))) (by decide) hg); replace BK249 := am (blk_grown (g := gb249) (o := .cells #[.int .i64 0, .slice none 0 0] 30 (0, 0)) (bu BK249.out) hg (Kd.R_ne HO_254001.out BK249.out (by decide))); replace BK253 := am (blk_grown (g := gb253) (o := .cells #[.int .i64 ji97, u254001] 30 (0, 0)) (bu BK253.out) hg (Kd.R_ne HO_254001.out BK253.out (by decide))); replace HB := am (hb); clear HO_254001; clear ho hb hg hat; obtain ⟨Ao119, co119, eo119⟩ := Kd.R_slice HO298.out; subst eo119; obtain ⟨hcz120_0, hcz120_1, hfz120_0, hfz120_1⟩ := cf BK253.out))
                  go_roundg k2
                  case measure => have := HJ1.out; have := HK2.out; omega
                  case rel => exact ⟨(wrap64 (x96_2 + 1)), (y296), (.slice Ao119 y296.length co119), (by first | rfl | (simp; done) | (simp [*]; done)), H', ⟨by have := HJ1.out; have := HK2.out; omega⟩, ⟨Kd.R_mono (rf HO_94.out BK253.out (by decide)) (fun _ hk => trivial)⟩, ⟨Kd.R_mono (rf HO298.out BK253.out (by decide)) (fun _ hk => trivial)⟩, ⟨bf NB249_253.out BK249.out⟩, ⟨by (with_reducible repeat (first | refine blk_drewN ?_ _ | refine blk_drew ?_ | refine blk_alloc ?_ _)); refine blk_put (cs := #[.int .i64 ji97, u254001]) ?_ 1 _ rfl; exact bu BK253.out⟩, ⟨by repeat (with_reducible first | exact HB.out | apply bA | apply bN | apply bD | refine bS ?_ ao)⟩⟩
                 ·
                  rw [if_neg c115] at H
                  exact absurd H (by simp)
                ·
                 rw [if_neg c114] at H
                 have c114b0 : decide (0 < (rd t292 x96_2)) = false := decide_eq_false c114
                 clear c114
                 have H' := Aside0.mk H
                 clear H
                 have p295 : 0 ≤ (x96_2 : Int) := of_decide_eq_true (by first | (with_reducible assumption) | assumption)
                 have q295 : x96_2 < (t292.length : Int) := of_decide_eq_true (by first | (with_reducible assumption) | assumption)
                 obtain ⟨ad295, e295, hx295_0⟩ := Kd.at_int (Kd.R_reads' HO_94.out).2.2 x96_2 p295 q295
                 cases e295
                 replace p295 := eq_true p295
                 replace q295 := eq_true q295
                 go_wp2
                 go_roundg k2
                 case measure => have := HJ1.out; have := HK2.out; omega
                 case rel => exact ⟨(wrap64 (x96_2 + 1)), (x254001_2), (u254001), (by first | rfl | (simp; done) | (simp [*]; done)), H', ⟨by have := HJ1.out; have := HK2.out; omega⟩, ⟨ru HO_94.out⟩, ⟨ru HO_254001.out⟩, ⟨bu BK249.out⟩, ⟨bu BK253.out⟩, ⟨by repeat (with_reducible first | exact HB.out | apply bA | apply bN | apply bD | refine bS ?_ ao)⟩⟩
               ·
                rw [if_neg c113] at H
                exact absurd H (by simp)
              ·
               rw [if_neg c112] at H
               exact absurd H (by simp)
             ·
              rw [if_neg c111] at H
              have c111b0 : decide (x96_2 < (t292.length : Int)) = false := decide_eq_false c111
              clear c111
              replace H := Option.bind_eq_some_iff.mp H
              obtain ⟨⟨t299, t302⟩, A1210, H⟩ := H
              try dsimp only at H
              have A121 := Aside0.mk A1210
              clear A1210
              by_cases c122 : t302 = 0
              ·
               rw [if_pos c122] at H
               have c122b0 : (t302 == 0) = true := beq_iff_eq.mpr c122
               have c122b1 : (t302 != 0) = false := bne_eq_false_iff_eq.mpr c122
               clear c122
               by_cases c123 : (strOfNums t299).toList = (strOfNums l0).toList
               ·
                rw [if_pos c123] at H
                have c123b0 : ((strOfNums t299).toList == (strOfNums l0).toList) = true := beq_iff_eq.mpr c123
                have c123b1 : ((strOfNums t299).toList != (strOfNums l0).toList) = false := bne_eq_false_iff_eq.mpr c123
                clear c123
                simp only [Option.some.injEq, Prod.mk.injEq] at H
                obtain ⟨rfl, rfl, rfl⟩ := H
                have hnb124 := NB253_249.out; have hnc124 := NB249_253.out; obtain ⟨hcz125_0, hcz125_1, hfz125_0, hfz125_1⟩ := cf BK253.out
                obtain ⟨Ao126, co126, eo126⟩ := Kd.R_slice HO_254001.out
                subst eo126
                go_wp2_with (first | ((with_reducible refine gate_callee (f := 20) rfl ?_); refine goesL_ (some 114) rfl rfl Try.func20 (by kernel_rfl) rfl #[.agg #[.int .i64 ji97, .slice Ao126 x254001_2.length co126]] rfl (by (try simp only [List.map_toArray, List.map_cons, List.map_nil]); first | done | (simp only [hji97]; rfl) | rfl | (simp only [List.length_drop, List.length_take]; rfl)) ?_; (with_reducible refine (dense_Bytes.calls k2 ji97 _ _ x254001_2 t299 t302 _ ?side1 ?side2 A121.out).mono ?_); (case side1 => repeat (first | exact (Kd.R_reads' HO_254001.out).2.2 | (with_reducible refine Kd.C_alloc ?_ _) | (with_reducible refine Kd.C_drewN ?_ _) | (with_reducible refine Kd.C_drew ?_))); (case side2 => exact (Kd.R_reads' HO_254001.out).2.1); rintro e w127 ⟨v300, rfl, ho0, hb⟩; refine ⟨_, rfl, ?_⟩; have HO301 := am (Kd.R_lower ho0 (below_size (by repeat (with_reducible first | exact HB.out | apply bA | apply bN | apply bD | refine bS ?_ ao)))); replace HO_94 := rb HO_94 hb; replace HO_254001 := rb HO_254001 hb; replace BK249 := bb BK249 hb; replace BK253 := bb BK253 hb; replace HB := am (below_step (by repeat (with_reducible first | exact HB.out | apply bA | apply bN | apply bD | refine bS ?_ ao)) hb); (try clear hb); (try clear ho0); have hcv128 := own_string (P := Try.prog) Try.underlying33 Try.underlying5 Try.underlying9 (Kd.own_of_R HO301.out); have hcv129 := fun nq_ : Nat => own_string (P := Try.prog) Try.underlying33 Try.underlying5 Try.underlying9 (pw_own_drewN (Kd.own_of_R HO301.out) nq_); have hcv130 := Kd.C_string (P := Try.prog) (A := (some ad252)) (c := c0) Try.underlying33 Try.underlying5 Try.underlying9 (Kd.C_below HR0.out HB.out); have hcv131 := fun nq_ : Nat => Kd.C_string (P := Try.prog) (A := (some ad252)) (c := c0) Try.underlying33 Try.underlying5 Try.underlying9 (Kd.C_drewN (Kd.C_below HR0.out HB.out) nq_); obtain ⟨hcz132_0, hcz132_1, hfz132_0, hfz132_1⟩ := cf BK253.out; obtain ⟨hcz133_0, hcz133_1, hfz133_0, hfz133_1⟩ := cf BK249.out))
                refine bodyPost_ret (results_ct rfl _ _ gb249 30 #[.int .i64 ji97, .slice Ao126 x254001_2.length co126] (0, 0) _ rfl (by (with_reducible repeat (first | refine blk_drewN ?_ _ | refine blk_drew ?_ | refine blk_alloc ?_ _)); refine blk_put (cs := #[.int .i64 ji97, .slice none 0 0]) ?_ 1 _ rfl; (with_reducible repeat (first | refine blk_drewN ?_ _ | refine blk_drew ?_ | refine blk_alloc ?_ _)); refine blk_put (cs := #[.int .i64 0, .slice none 0 0]) ?_ 0 _ rfl; exact bu BK249.out) Try.underlying30 rfl (by kernel_rfl)) rfl ?_
                exact ⟨_, by first | rfl | (simp [errW_none, errW_some] <;> rfl) | (simp only [← hji97, ← hji99]; first | rfl | (simp [errW_none, errW_some] <;> rfl)) | (simp [*, errW_none, errW_some] <;> rfl), by (with_reducible repeat (first | apply Kd.R_alloc | apply Kd.R_drewN | apply Kd.R_drew)); exact Kd.R_mono (Kd.R_far (p := ⟨gb249, 1, none⟩) (Kd.R_far (p := ⟨gb249, 0, none⟩) (Kd.R_types HO_254001.out BK249.out (by decide)) (fun _ hk => hk.2) (.int .i64 ji97)) (fun _ hk => hk.2) (.slice Ao126 x254001_2.length co126)) (fun _ hk => trivial), by repeat (with_reducible first | exact HB.out | apply bA | apply bN | apply bD | refine bS ?_ ao)⟩
               ·
                rw [if_neg c123] at H
                have c123b0 : ((strOfNums t299).toList == (strOfNums l0).toList) = false := beq_eq_false_iff_ne.mpr c123
                have c123b1 : ((strOfNums t299).toList != (strOfNums l0).toList) = true := bne_iff_ne.mpr c123
                simp only [Option.some.injEq, Prod.mk.injEq] at H
                obtain ⟨rfl, rfl, rfl⟩ := H
                have hnb134 := NB253_249.out; have hnc134 := NB249_253.out; obtain ⟨hcz135_0, hcz135_1, hfz135_0, hfz135_1⟩ := cf BK253.out
                obtain ⟨Ao136, co136, eo136⟩ := Kd.R_slice HO_254001.out
                subst eo136
                go_wp2_with (first | ((with_reducible refine gate_callee (f := 20) rfl ?_); refine goesL_ (some 114) rfl rfl Try.func20 (by kernel_rfl) rfl #[.agg #[.int .i64 ji97, .slice Ao136 x254001_2.length co136]] rfl (by (try simp only [List.map_toArray, List.map_cons, List.map_nil]); first | done | (simp only [hji97]; rfl) | rfl | (simp only [List.length_drop, List.length_take]; rfl)) ?_; (with_reducible refine (dense_Bytes.calls k2 ji97 _ _ x254001_2 t299 t302 _ ?side1 ?side2 A121.out).mono ?_); (case side1 => repeat (first | exact (Kd.R_reads' HO_254001.out).2.2 | (with_reducible refine Kd.C_alloc ?_ _) | (with_reducible refine Kd.C_drewN ?_ _) | (with_reducible refine Kd.C_drew ?_))); (case side2 => exact (Kd.R_reads' HO_254001.out).2.1); rintro e w137 ⟨v300, rfl, ho0, hb⟩; refine ⟨_, rfl, ?_⟩; have HO301 := am (Kd.R_lower ho0 (below_size (by repeat (with_reducible first | exact HB.out | apply bA | apply bN | apply bD | refine bS ?_ ao)))); replace HO_94 := rb HO_94 hb; replace HO_254001 := rb HO_254001 hb; replace BK249 := bb BK249 hb; replace BK253 := bb BK253 hb; replace HB := am (below_step (by repeat (with_reducible first | exact HB.out | apply bA | apply bN | apply bD | refine bS ?_ ao)) hb); (try clear hb); (try clear ho0); have hcv138 := own_string (P := Try.prog) Try.underlying33 Try.underlying5 Try.underlying9 (Kd.own_of_R HO301.out); have hcv139 := fun nq_ : Nat => own_string (P := Try.prog) Try.underlying33 Try.underlying5 Try.underlying9 (pw_own_drewN (Kd.own_of_R HO301.out) nq_); have hcv140 := Kd.C_string (P := Try.prog) (A := (some ad252)) (c := c0) Try.underlying33 Try.underlying5 Try.underlying9 (Kd.C_below HR0.out HB.out); have hcv141 := fun nq_ : Nat => Kd.C_string (P := Try.prog) (A := (some ad252)) (c := c0) Try.underlying33 Try.underlying5 Try.underlying9 (Kd.C_drewN (Kd.C_below HR0.out HB.out) nq_); obtain ⟨hcz142_0, hcz142_1, hfz142_0, hfz142_1⟩ := cf BK249.out))
                refine bodyPost_ret (results_ct rfl _ _ gb249 30 #[.int .i64 0, .slice none 0 0] (0, 0) _ rfl (by (with_reducible repeat (first | refine blk_drewN ?_ _ | refine blk_drew ?_ | refine blk_alloc ?_ _)); refine blk_put (cs := #[.int .i64 0, .slice none 0 0]) ?_ 1 _ rfl; (with_reducible repeat (first | refine blk_drewN ?_ _ | refine blk_drew ?_ | refine blk_alloc ?_ _)); refine blk_put (cs := #[.int .i64 0, .slice none 0 0]) ?_ 0 _ rfl; exact bu BK249.out) Try.underlying30 rfl (by kernel_rfl)) rfl ?_
                exact ⟨_, by first | rfl | (simp [errW_none, errW_some] <;> rfl) | (simp only [← hji97, ← hji99]; first | rfl | (simp [errW_none, errW_some] <;> rfl)) | (simp [*, errW_none, errW_some] <;> rfl), by first | exact Kd.R_nil _ _ _ _ _ | exact Kd.V_nil _ _ _ _ _, by repeat (with_reducible first | exact HB.out | apply bA | apply bN | apply bD | refine bS ?_ ao)⟩
              ·
               rw [if_neg c122] at H
               have c122b0 : (t302 == 0) = false := beq_eq_false_iff_ne.mpr c122
               have c122b1 : (t302 != 0) = true := bne_iff_ne.mpr c122
               simp only [Option.some.injEq, Prod.mk.injEq] at H
               obtain ⟨rfl, rfl, rfl⟩ := H
               have hnb143 := NB253_249.out; have hnc143 := NB249_253.out; obtain ⟨hcz144_0, hcz144_1, hfz144_0, hfz144_1⟩ := cf BK253.out
               obtain ⟨Ao145, co145, eo145⟩ := Kd.R_slice HO_254001.out
               subst eo145
               go_wp2_with (first | ((with_reducible refine gate_callee (f := 20) rfl ?_); refine goesL_ (some 114) rfl rfl Try.func20 (by kernel_rfl) rfl #[.agg #[.int .i64 ji97, .slice Ao145 x254001_2.length co145]] rfl (by (try simp only [List.map_toArray, List.map_cons, List.map_nil]); first | done | (simp only [hji97]; rfl) | rfl | (simp only [List.length_drop, List.length_take]; rfl)) ?_; (with_reducible refine (dense_Bytes.calls k2 ji97 _ _ x254001_2 t299 t302 _ ?side1 ?side2 A121.out).mono ?_); (case side1 => repeat (first | exact (Kd.R_reads' HO_254001.out).2.2 | (with_reducible refine Kd.C_alloc ?_ _) | (with_reducible refine Kd.C_drewN ?_ _) | (with_reducible refine Kd.C_drew ?_))); (case side2 => exact (Kd.R_reads' HO_254001.out).2.1); rintro e w146 ⟨v300, rfl, ho0, hb⟩; refine ⟨_, rfl, ?_⟩; have HO301 := am (Kd.R_lower ho0 (below_size (by repeat (with_reducible first | exact HB.out | apply bA | apply bN | apply bD | refine bS ?_ ao)))); replace HO_94 := rb HO_94 hb; replace HO_254001 := rb HO_254001 hb; replace BK249 := bb BK249 hb; replace BK253 := bb BK253 hb; replace HB := am (below_step (by repeat (with_reducible first | exact HB.out | apply bA | apply bN | apply bD | refine bS ?_ ao)) hb); (try clear hb); (try clear ho0); obtain ⟨hcz147_0, hcz147_1, hfz147_0, hfz147_1⟩ := cf BK249.out))
               refine bodyPost_ret (results_ct rfl _ _ gb249 30 #[.int .i64 0, .slice none 0 0] (0, 0) _ rfl (by (with_reducible repeat (first | refine blk_drewN ?_ _ | refine blk_drew ?_ | refine blk_alloc ?_ _)); refine blk_put (cs := #[.int .i64 0, .slice none 0 0]) ?_ 1 _ rfl; (with_reducible repeat (first | refine blk_drewN ?_ _ | refine blk_drew ?_ | refine blk_alloc ?_ _)); refine blk_put (cs := #[.int .i64 0, .slice none 0 0]) ?_ 0 _ rfl; exact bu BK249.out) Try.underlying30 rfl (by kernel_rfl)) rfl ?_
               exact ⟨_, by first | rfl | (simp [errW_none, errW_some] <;> rfl) | (simp only [← hji97, ← hji99]; first | rfl | (simp [errW_none, errW_some] <;> rfl)) | (simp [*, errW_none, errW_some] <;> rfl), by first | exact Kd.R_nil _ _ _ _ _ | exact Kd.V_nil _ _ _ _ _, by repeat (with_reducible first | exact HB.out | apply bA | apply bN | apply bD | refine bS ?_ ao)⟩
          ·
           rw [if_neg c101] at H
           exact absurd H (by simp)
         ·
          rw [if_neg c100] at H
          have c100b0 : ((wrap64 ((l0.length : Int) - 2)) == (wrap64 (Int.tdiv (ji99) 8))) = false := beq_eq_false_iff_ne.mpr c100
          have c100b1 : ((wrap64 ((l0.length : Int) - 2)) != (wrap64 (Int.tdiv (ji99) 8))) = true := bne_iff_ne.mpr c100
          simp only [Option.some.injEq, Prod.mk.injEq] at H
          obtain ⟨rfl, rfl, rfl⟩ := H
          have p252 : 0 ≤ (0 : Int) := (by omega)
          have q252 : 0 < (l0.length : Int) := of_decide_eq_true (by first | (with_reducible assumption) | assumption)
          obtain ⟨ad252, e252, hx252_0⟩ := Kd.at_int HR0.out 0 p252 q252
          cases e252
          have qi252 : (0 < l0.length) = True := eq_true (by omega)
          (try rw [show ((0 : Int)).toNat = 0 from rfl] at hx252_0)
          (try rw [Addr.add_zero'] at hx252_0)
          replace hx252_0 := (HB.out.cell (World.block_lt_of_cell? w _ hx252_0)).trans hx252_0
          replace p252 := eq_true p252
          replace q252 := eq_true q252
          go_wp2_with (first | ((with_reducible refine gate_dst (N := 4) rfl ?_); refine box_event ?hg (N := 4) ?hd (cs := #[.int .i64 0, .slice none 0 0]) (t := 30) ?hr ?_; (case hd => rfl); (case hg => rfl); (case hr => go_simp; try rfl); intro gb253 hg w148 hbox hb; obtain ⟨HBn, GW253⟩ := tri hg hb (by repeat (with_reducible first | exact HB.out | apply bA | apply bN | apply bD | refine bS ?_ ao)); have GE253 := GW253; have BK253 := am (hbox); have NB249_253 := nl hg (bu BK249.out); have NB253_249 := nr hg (bu BK249.out); replace BK249 := bb BK249 hb; clear HB; have HB := HBn; clear HBn; clear hb hbox hg; have hnb149 := NB253_249.out; have hnc149 := NB249_253.out; obtain ⟨hcz150_0, hcz150_1, hfz150_0, hfz150_1⟩ := cf BK253.out; have p254 : 0 ≤ (1 : Int) := (by omega); have q254 : 1 < (l0.length : Int) := of_decide_eq_true (by first | (with_reducible assumption) | assumption); obtain ⟨ad254, e254, hx254_0⟩ := Kd.at_int HR0.out 1 p254 q254; obtain rfl : ad252 = ad254 := (by injection e254); (try simp only [show (1 : Int).toNat = 1 from rfl, Nat.reduceMul, Nat.reduceEqDiff, Go.Addr.add, ↓reduceIte] at hx254_0); have qi254 : (1 < l0.length) = True := eq_true (by omega); (try rw [show ((1 : Int)).toNat = 1 from rfl] at hx254_0); have hn254_0 : ad252.block ≠ gb253 := Nat.ne_of_lt (Nat.lt_of_lt_of_le (by have := World.block_lt_of_cell? _ _ hx254_0; first | rwa [add_block] at this | exact this) GW253.out); have hn254_1 : ad252.block ≠ gb253 := Nat.ne_of_lt (Nat.lt_of_lt_of_le (by have := World.block_lt_of_cell? _ _ hx254_0; first | rwa [add_block] at this | exact this) GW253.out); replace hx254_0 := (HB.out.cell (World.block_lt_of_cell? w _ hx254_0)).trans hx254_0; replace hx254_0 := (cell_far (p := ⟨gb253, 0, none⟩) (by first | (rw [add_block]; exact hn254_0) | (show (Addr.add _ _).block ≠ _; rw [add_block]; exact hn254_0) | exact hn254_0) (.int .i64 ji97)).trans hx254_0; replace hx254_0 := (cell_far (p := ⟨gb253, 1, none⟩) (by first | (rw [add_block]; exact hn254_1) | (show (Addr.add _ _).block ≠ _; rw [add_block]; exact hn254_1) | exact hn254_1) (.slice none 0 0)).trans hx254_0; clear hn254_0; clear hn254_1; replace p254 := eq_true p254; replace q254 := eq_true q254; obtain ⟨hcz151_0, hcz151_1, hfz151_0, hfz151_1⟩ := cf BK249.out))
          refine bodyPost_ret (results_ct rfl _ _ gb249 30 #[.int .i64 0, .slice none 0 0] (0, 0) _ rfl (by (with_reducible repeat (first | refine blk_drewN ?_ _ | refine blk_drew ?_ | refine blk_alloc ?_ _)); refine blk_put (cs := #[.int .i64 0, .slice none 0 0]) ?_ 1 _ rfl; (with_reducible repeat (first | refine blk_drewN ?_ _ | refine blk_drew ?_ | refine blk_alloc ?_ _)); refine blk_put (cs := #[.int .i64 0, .slice none 0 0]) ?_ 0 _ rfl; (with_reducible repeat (first | refine blk_drewN ?_ _ | refine blk_drew ?_ | refine blk_alloc ?_ _)); refine blk_far ?_ NB249_253.out _; (with_reducible repeat (first | refine blk_drewN ?_ _ | refine blk_drew ?_ | refine blk_alloc ?_ _)); refine blk_far ?_ NB249_253.out _; exact bu BK249.out) Try.underlying30 rfl (by kernel_rfl)) rfl ?_
          exact ⟨_, by first | rfl | (simp [errW_none, errW_some] <;> rfl) | (simp only [← hji97, ← hji99]; first | rfl | (simp [errW_none, errW_some] <;> rfl)) | (simp [*, errW_none, errW_some] <;> rfl), by first | exact Kd.R_nil _ _ _ _ _ | exact Kd.V_nil _ _ _ _ _, by repeat (with_reducible first | exact HB.out | apply bA | apply bN | apply bD | refine bS ?_ ao)⟩
        ·
         rw [if_neg c98] at H
         exact absurd H (by simp)
       ·
        rw [if_neg c96] at H
        have c96b0 : ((rd l0 1) == 1) = false := beq_eq_false_iff_ne.mpr c96
        have c96b1 : ((rd l0 1) != 1) = true := bne_iff_ne.mpr c96
        replace H := Option.bind_eq_some_iff.mp H
        obtain ⟨⟨t303, t306⟩, A1520, H⟩ := H
        try dsimp only at H
        have A152 := Aside0.mk A1520
        clear A1520
        by_cases c153 : t306 = 0
        ·
         rw [if_pos c153] at H
         have c153b0 : (t306 == 0) = true := beq_iff_eq.mpr c153
         have c153b1 : (t306 != 0) = false := bne_eq_false_iff_eq.mpr c153
         clear c153
         by_cases c154 : (strOfNums t303).toList = (strOfNums l0).toList
         ·
          rw [if_pos c154] at H
          have c154b0 : ((strOfNums t303).toList == (strOfNums l0).toList) = true := beq_iff_eq.mpr c154
          have c154b1 : ((strOfNums t303).toList != (strOfNums l0).toList) = false := bne_eq_false_iff_eq.mpr c154
          clear c154
          simp only [Option.some.injEq, Prod.mk.injEq] at H
          obtain ⟨rfl, rfl, rfl⟩ := H
          have p252 : 0 ≤ (0 : Int) := (by omega)
          have q252 : 0 < (l0.length : Int) := of_decide_eq_true (by first | (with_reducible assumption) | assumption)
          obtain ⟨ad252, e252, hx252_0⟩ := Kd.at_int HR0.out 0 p252 q252
          cases e252
          have qi252 : (0 < l0.length) = True := eq_true (by omega)
          (try rw [show ((0 : Int)).toNat = 0 from rfl] at hx252_0)
          (try rw [Addr.add_zero'] at hx252_0)
          replace hx252_0 := (HB.out.cell (World.block_lt_of_cell? w _ hx252_0)).trans hx252_0
          replace p252 := eq_true p252
          replace q252 := eq_true q252
          go_wp2_with (first | ((with_reducible refine gate_dst (N := 4) rfl ?_); refine box_event ?hg (N := 4) ?hd (cs := #[.int .i64 0, .slice none 0 0]) (t := 30) ?hr ?_; (case hd => rfl); (case hg => rfl); (case hr => go_simp; try rfl); intro gb253 hg w155 hbox hb; obtain ⟨HBn, GW253⟩ := tri hg hb (by repeat (with_reducible first | exact HB.out | apply bA | apply bN | apply bD | refine bS ?_ ao)); have GE253 := GW253; have BK253 := am (hbox); have NB249_253 := nl hg (bu BK249.out); have NB253_249 := nr hg (bu BK249.out); replace BK249 := bb BK249 hb; clear HB; have HB := HBn; clear HBn; clear hb hbox hg; have hnb156 := NB253_249.out; have hnc156 := NB249_253.out; obtain ⟨hcz157_0, hcz157_1, hfz157_0, hfz157_1⟩ := cf BK253.out; have p254 : 0 ≤ (1 : Int) := (by omega); have q254 : 1 < (l0.length : Int) := of_decide_eq_true (by first | (with_reducible assumption) | assumption); obtain ⟨ad254, e254, hx254_0⟩ := Kd.at_int HR0.out 1 p254 q254; obtain rfl : ad252 = ad254 := (by injection e254); (try simp only [show (1 : Int).toNat = 1 from rfl, Nat.reduceMul, Nat.reduceEqDiff, Go.Addr.add, ↓reduceIte] at hx254_0); have qi254 : (1 < l0.length) = True := eq_true (by omega); (try rw [show ((1 : Int)).toNat = 1 from rfl] at hx254_0); have hn254_0 : ad252.block ≠ gb253 := Nat.ne_of_lt (Nat.lt_of_lt_of_le (by have := World.block_lt_of_cell? _ _ hx254_0; first | rwa [add_block] at this | exact this) GW253.out); have hn254_1 : ad252.block ≠ gb253 := Nat.ne_of_lt (Nat.lt_of_lt_of_le (by have := World.block_lt_of_cell? _ _ hx254_0; first | rwa [add_block] at this | exact this) GW253.out); replace hx254_0 := (HB.out.cell (World.block_lt_of_cell? w _ hx254_0)).trans hx254_0; replace hx254_0 := (cell_far (p := ⟨gb253, 0, none⟩) (by first | (rw [add_block]; exact hn254_0) | (show (Addr.add _ _).block ≠ _; rw [add_block]; exact hn254_0) | exact hn254_0) (.int .i64 (wrap64 (rd l0 0)))).trans hx254_0; replace hx254_0 := (cell_far (p := ⟨gb253, 1, none⟩) (by first | (rw [add_block]; exact hn254_1) | (show (Addr.add _ _).block ≠ _; rw [add_block]; exact hn254_1) | exact hn254_1) (.slice none 0 0)).trans hx254_0; clear hn254_0; clear hn254_1; replace p254 := eq_true p254; replace q254 := eq_true q254) | ((with_reducible refine gate_callee (f := 20) rfl ?_); refine goesL_ (some 114) rfl rfl Try.func20 (by kernel_rfl) rfl #[.agg #[.int .i64 (wrap64 (rd l0 0)), .slice none 0 0]] rfl (by (try simp only [List.map_toArray, List.map_cons, List.map_nil]); first | done | rfl) ?_; (refine (dense_Bytes.calls kj1 (wrap64 (rd l0 0)) _ _ ([] : List (S32)) t303 t306 _ ?side1 ?side2 A152.out).mono ?_); (case side1 => exact Kd.C_nil _ _); (case side2 => exact Nat.le_refl _); rintro e w158 ⟨v304, rfl, ho0, hb⟩; refine ⟨_, rfl, ?_⟩; have HO305 := am (Kd.R_lower ho0 (below_size (by repeat (with_reducible first | exact HB.out | apply bA | apply bN | apply bD | refine bS ?_ ao)))); replace BK249 := am (blk_below (bf NB249_253.out BK249.out) hb); replace BK253 := am (blk_below (g := gb253) (o := .cells #[.int .i64 (wrap64 (rd l0 0)), .slice none 0 0] 30 (0, 0)) (by (with_reducible repeat (first | refine blk_drewN ?_ _ | refine blk_drew ?_ | refine blk_alloc ?_ _)); refine blk_put (cs := #[.int .i64 (wrap64 (rd l0 0)), .slice none 0 0]) ?_ 1 _ rfl; (with_reducible repeat (first | refine blk_drewN ?_ _ | refine blk_drew ?_ | refine blk_alloc ?_ _)); refine blk_put (cs := #[.int .i64 0, .slice none 0 0]) ?_ 0 _ rfl; exact bu BK253.out) hb); replace HB := am (below_step (by repeat (with_reducible first | exact HB.out | apply bA | apply bN | apply bD | refine bS ?_ ao)) hb); (try clear hb); (try clear ho0); have hcv159 := own_string (P := Try.prog) Try.underlying33 Try.underlying5 Try.underlying9 (Kd.own_of_R HO305.out); have hcv160 := fun nq_ : Nat => own_string (P := Try.prog) Try.underlying33 Try.underlying5 Try.underlying9 (pw_own_drewN (Kd.own_of_R HO305.out) nq_); have hcv161 := Kd.C_string (P := Try.prog) (A := (some ad252)) (c := c0) Try.underlying33 Try.underlying5 Try.underlying9 (Kd.C_below HR0.out HB.out); have hcv162 := fun nq_ : Nat => Kd.C_string (P := Try.prog) (A := (some ad252)) (c := c0) Try.underlying33 Try.underlying5 Try.underlying9 (Kd.C_drewN (Kd.C_below HR0.out HB.out) nq_); obtain ⟨hcz163_0, hcz163_1, hfz163_0, hfz163_1⟩ := cf BK253.out; obtain ⟨hcz164_0, hcz164_1, hfz164_0, hfz164_1⟩ := cf BK249.out))
          refine bodyPost_ret (results_ct rfl _ _ gb249 30 #[.int .i64 (wrap64 (rd l0 0)), .slice none 0 0] (0, 0) _ rfl (by (with_reducible repeat (first | refine blk_drewN ?_ _ | refine blk_drew ?_ | refine blk_alloc ?_ _)); refine blk_put (cs := #[.int .i64 (wrap64 (rd l0 0)), .slice none 0 0]) ?_ 1 _ rfl; (with_reducible repeat (first | refine blk_drewN ?_ _ | refine blk_drew ?_ | refine blk_alloc ?_ _)); refine blk_put (cs := #[.int .i64 0, .slice none 0 0]) ?_ 0 _ rfl; exact bu BK249.out) Try.underlying30 rfl (by kernel_rfl)) rfl ?_
          exact ⟨_, by first | rfl | (simp [errW_none, errW_some] <;> rfl) | (simp [*, errW_none, errW_some] <;> rfl), by first | exact Kd.R_nil _ _ _ _ _ | exact Kd.V_nil _ _ _ _ _, by repeat (with_reducible first | exact HB.out | apply bA | apply bN | apply bD | refine bS ?_ ao)⟩
         ·
          rw [if_neg c154] at H
          have c154b0 : ((strOfNums t303).toList == (strOfNums l0).toList) = false := beq_eq_false_iff_ne.mpr c154
          have c154b1 : ((strOfNums t303).toList != (strOfNums l0).toList) = true := bne_iff_ne.mpr c154
          simp only [Option.some.injEq, Prod.mk.injEq] at H
          obtain ⟨rfl, rfl, rfl⟩ := H
          have p252 : 0 ≤ (0 : Int) := (by omega)
          have q252 : 0 < (l0.length : Int) := of_decide_eq_true (by first | (with_reducible assumption) | assumption)
          obtain ⟨ad252, e252, hx252_0⟩ := Kd.at_int HR0.out 0 p252 q252
          cases e252
          have qi252 : (0 < l0.length) = True := eq_true (by omega)
          (try rw [show ((0 : Int)).toNat = 0 from rfl] at hx252_0)
          (try rw [Addr.add_zero'] at hx252_0)
          replace hx252_0 := (HB.out.cell (World.block_lt_of_cell? w _ hx252_0)).trans hx252_0
          replace p252 := eq_true p252
          replace q252 := eq_true q252
          go_wp2_with (first | ((with_reducible refine gate_dst (N := 4) rfl ?_); refine box_event ?hg (N := 4) ?hd (cs := #[.int .i64 0, .slice none 0 0]) (t := 30) ?hr ?_; (case hd => rfl); (case hg => rfl); (case hr => go_simp; try rfl); intro gb253 hg w165 hbox hb; obtain ⟨HBn, GW253⟩ := tri hg hb (by repeat (with_reducible first | exact HB.out | apply bA | apply bN | apply bD | refine bS ?_ ao)); have GE253 := GW253; have BK253 := am (hbox); have NB249_253 := nl hg (bu BK249.out); have NB253_249 := nr hg (bu BK249.out); replace BK249 := bb BK249 hb; clear HB; have HB := HBn; clear HBn; clear hb hbox hg; have hnb166 := NB253_249.out; have hnc166 := NB249_253.out; obtain ⟨hcz167_0, hcz167_1, hfz167_0, hfz167_1⟩ := cf BK253.out; have p254 : 0 ≤ (1 : Int) := (by omega); have q254 : 1 < (l0.length : Int) := of_decide_eq_true (by first | (with_reducible assumption) | assumption); obtain ⟨ad254, e254, hx254_0⟩ := Kd.at_int HR0.out 1 p254 q254; obtain rfl : ad252 = ad254 := (by injection e254); (try simp only [show (1 : Int).toNat = 1 from rfl, Nat.reduceMul, Nat.reduceEqDiff, Go.Addr.add, ↓reduceIte] at hx254_0); have qi254 : (1 < l0.length) = True := eq_true (by omega); (try rw [show ((1 : Int)).toNat = 1 from rfl] at hx254_0); have hn254_0 : ad252.block ≠ gb253 := Nat.ne_of_lt (Nat.lt_of_lt_of_le (by have := World.block_lt_of_cell? _ _ hx254_0; first | rwa [add_block] at this | exact this) GW253.out); have hn254_1 : ad252.block ≠ gb253 := Nat.ne_of_lt (Nat.lt_of_lt_of_le (by have := World.block_lt_of_cell? _ _ hx254_0; first | rwa [add_block] at this | exact this) GW253.out); replace hx254_0 := (HB.out.cell (World.block_lt_of_cell? w _ hx254_0)).trans hx254_0; replace hx254_0 := (cell_far (p := ⟨gb253, 0, none⟩) (by first | (rw [add_block]; exact hn254_0) | (show (Addr.add _ _).block ≠ _; rw [add_block]; exact hn254_0) | exact hn254_0) (.int .i64 (wrap64 (rd l0 0)))).trans hx254_0; replace hx254_0 := (cell_far (p := ⟨gb253, 1, none⟩) (by first | (rw [add_block]; exact hn254_1) | (show (Addr.add _ _).block ≠ _; rw [add_block]; exact hn254_1) | exact hn254_1) (.slice none 0 0)).trans hx254_0; clear hn254_0; clear hn254_1; replace p254 := eq_true p254; replace q254 := eq_true q254) | ((with_reducible refine gate_callee (f := 20) rfl ?_); refine goesL_ (some 114) rfl rfl Try.func20 (by kernel_rfl) rfl #[.agg #[.int .i64 (wrap64 (rd l0 0)), .slice none 0 0]] rfl (by (try simp only [List.map_toArray, List.map_cons, List.map_nil]); first | done | rfl) ?_; (refine (dense_Bytes.calls kj1 (wrap64 (rd l0 0)) _ _ ([] : List (S32)) t303 t306 _ ?side1 ?side2 A152.out).mono ?_); (case side1 => exact Kd.C_nil _ _); (case side2 => exact Nat.le_refl _); rintro e w168 ⟨v304, rfl, ho0, hb⟩; refine ⟨_, rfl, ?_⟩; have HO305 := am (Kd.R_lower ho0 (below_size (by repeat (with_reducible first | exact HB.out | apply bA | apply bN | apply bD | refine bS ?_ ao)))); replace BK249 := am (blk_below (bf NB249_253.out BK249.out) hb); replace BK253 := am (blk_below (g := gb253) (o := .cells #[.int .i64 (wrap64 (rd l0 0)), .slice none 0 0] 30 (0, 0)) (by (with_reducible repeat (first | refine blk_drewN ?_ _ | refine blk_drew ?_ | refine blk_alloc ?_ _)); refine blk_put (cs := #[.int .i64 (wrap64 (rd l0 0)), .slice none 0 0]) ?_ 1 _ rfl; (with_reducible repeat (first | refine blk_drewN ?_ _ | refine blk_drew ?_ | refine blk_alloc ?_ _)); refine blk_put (cs := #[.int .i64 0, .slice none 0 0]) ?_ 0 _ rfl; exact bu BK253.out) hb); replace HB := am (below_step (by repeat (with_reducible first | exact HB.out | apply bA | apply bN | apply bD | refine bS ?_ ao)) hb); (try clear hb); (try clear ho0); have hcv169 := own_string (P := Try.prog) Try.underlying33 Try.underlying5 Try.underlying9 (Kd.own_of_R HO305.out); have hcv170 := fun nq_ : Nat => own_string (P := Try.prog) Try.underlying33 Try.underlying5 Try.underlying9 (pw_own_drewN (Kd.own_of_R HO305.out) nq_); have hcv171 := Kd.C_string (P := Try.prog) (A := (some ad252)) (c := c0) Try.underlying33 Try.underlying5 Try.underlying9 (Kd.C_below HR0.out HB.out); have hcv172 := fun nq_ : Nat => Kd.C_string (P := Try.prog) (A := (some ad252)) (c := c0) Try.underlying33 Try.underlying5 Try.underlying9 (Kd.C_drewN (Kd.C_below HR0.out HB.out) nq_); obtain ⟨hcz173_0, hcz173_1, hfz173_0, hfz173_1⟩ := cf BK249.out))
          refine bodyPost_ret (results_ct rfl _ _ gb249 30 #[.int .i64 0, .slice none 0 0] (0, 0) _ rfl (by (with_reducible repeat (first | refine blk_drewN ?_ _ | refine blk_drew ?_ | refine blk_alloc ?_ _)); refine blk_put (cs := #[.int .i64 0, .slice none 0 0]) ?_ 1 _ rfl; (with_reducible repeat (first | refine blk_drewN ?_ _ | refine blk_drew ?_ | refine blk_alloc ?_ _)); refine blk_put (cs := #[.int .i64 0, .slice none 0 0]) ?_ 0 _ rfl; exact bu BK249.out) Try.underlying30 rfl (by kernel_rfl)) rfl ?_
          exact ⟨_, by first | rfl | (simp [errW_none, errW_some] <;> rfl) | (simp [*, errW_none, errW_some] <;> rfl), by first | exact Kd.R_nil _ _ _ _ _ | exact Kd.V_nil _ _ _ _ _, by repeat (with_reducible first | exact HB.out | apply bA | apply bN | apply bD | refine bS ?_ ao)⟩
        ·
         rw [if_neg c153] at H
         have c153b0 : (t306 == 0) = false := beq_eq_false_iff_ne.mpr c153
         have c153b1 : (t306 != 0) = true := bne_iff_ne.mpr c153
         simp only [Option.some.injEq, Prod.mk.injEq] at H
         obtain ⟨rfl, rfl, rfl⟩ := H
         have p252 : 0 ≤ (0 : Int) := (by omega)
         have q252 : 0 < (l0.length : Int) := of_decide_eq_true (by first | (with_reducible assumption) | assumption)
         obtain ⟨ad252, e252, hx252_0⟩ := Kd.at_int HR0.out 0 p252 q252
         cases e252
         have qi252 : (0 < l0.length) = True := eq_true (by omega)
         (try rw [show ((0 : Int)).toNat = 0 from rfl] at hx252_0)
         (try rw [Addr.add_zero'] at hx252_0)
         replace hx252_0 := (HB.out.cell (World.block_lt_of_cell? w _ hx252_0)).trans hx252_0
         replace p252 := eq_true p252
         replace q252 := eq_true q252
         go_wp2_with (first | ((with_reducible refine gate_dst (N := 4) rfl ?_); refine box_event ?hg (N := 4) ?hd (cs := #[.int .i64 0, .slice none 0 0]) (t := 30) ?hr ?_; (case hd => rfl); (case hg => rfl); (case hr => go_simp; try rfl); intro gb253 hg w174 hbox hb; obtain ⟨HBn, GW253⟩ := tri hg hb (by repeat (with_reducible first | exact HB.out | apply bA | apply bN | apply bD | refine bS ?_ ao)); have GE253 := GW253; have BK253 := am (hbox); have NB249_253 := nl hg (bu BK249.out); have NB253_249 := nr hg (bu BK249.out); replace BK249 := bb BK249 hb; clear HB; have HB := HBn; clear HBn; clear hb hbox hg; have hnb175 := NB253_249.out; have hnc175 := NB249_253.out; obtain ⟨hcz176_0, hcz176_1, hfz176_0, hfz176_1⟩ := cf BK253.out; have p254 : 0 ≤ (1 : Int) := (by omega); have q254 : 1 < (l0.length : Int) := of_decide_eq_true (by first | (with_reducible assumption) | assumption); obtain ⟨ad254, e254, hx254_0⟩ := Kd.at_int HR0.out 1 p254 q254; obtain rfl : ad252 = ad254 := (by injection e254); (try simp only [show (1 : Int).toNat = 1 from rfl, Nat.reduceMul, Nat.reduceEqDiff, Go.Addr.add, ↓reduceIte] at hx254_0); have qi254 : (1 < l0.length) = True := eq_true (by omega); (try rw [show ((1 : Int)).toNat = 1 from rfl] at hx254_0); have hn254_0 : ad252.block ≠ gb253 := Nat.ne_of_lt (Nat.lt_of_lt_of_le (by have := World.block_lt_of_cell? _ _ hx254_0; first | rwa [add_block] at this | exact this) GW253.out); have hn254_1 : ad252.block ≠ gb253 := Nat.ne_of_lt (Nat.lt_of_lt_of_le (by have := World.block_lt_of_cell? _ _ hx254_0; first | rwa [add_block] at this | exact this) GW253.out); replace hx254_0 := (HB.out.cell (World.block_lt_of_cell? w _ hx254_0)).trans hx254_0; replace hx254_0 := (cell_far (p := ⟨gb253, 0, none⟩) (by first | (rw [add_block]; exact hn254_0) | (show (Addr.add _ _).block ≠ _; rw [add_block]; exact hn254_0) | exact hn254_0) (.int .i64 (wrap64 (rd l0 0)))).trans hx254_0; replace hx254_0 := (cell_far (p := ⟨gb253, 1, none⟩) (by first | (rw [add_block]; exact hn254_1) | (show (Addr.add _ _).block ≠ _; rw [add_block]; exact hn254_1) | exact hn254_1) (.slice none 0 0)).trans hx254_0; clear hn254_0; clear hn254_1; replace p254 := eq_true p254; replace q254 := eq_true q254) | ((with_reducible refine gate_callee (f := 20) rfl ?_); refine goesL_ (some 114) rfl rfl Try.func20 (by kernel_rfl) rfl #[.agg #[.int .i64 (wrap64 (rd l0 0)), .slice none 0 0]] rfl (by (try simp only [List.map_toArray, List.map_cons, List.map_nil]); first | done | rfl) ?_; (refine (dense_Bytes.calls kj1 (wrap64 (rd l0 0)) _ _ ([] : List (S32)) t303 t306 _ ?side1 ?side2 A152.out).mono ?_); (case side1 => exact Kd.C_nil _ _); (case side2 => exact Nat.le_refl _); rintro e w177 ⟨v304, rfl, ho0, hb⟩; refine ⟨_, rfl, ?_⟩; have HO305 := am (Kd.R_lower ho0 (below_size (by repeat (with_reducible first | exact HB.out | apply bA | apply bN | apply bD | refine bS ?_ ao)))); replace BK249 := am (blk_below (bf NB249_253.out BK249.out) hb); replace BK253 := am (blk_below (g := gb253) (o := .cells #[.int .i64 (wrap64 (rd l0 0)), .slice none 0 0] 30 (0, 0)) (by (with_reducible repeat (first | refine blk_drewN ?_ _ | refine blk_drew ?_ | refine blk_alloc ?_ _)); refine blk_put (cs := #[.int .i64 (wrap64 (rd l0 0)), .slice none 0 0]) ?_ 1 _ rfl; (with_reducible repeat (first | refine blk_drewN ?_ _ | refine blk_drew ?_ | refine blk_alloc ?_ _)); refine blk_put (cs := #[.int .i64 0, .slice none 0 0]) ?_ 0 _ rfl; exact bu BK253.out) hb); replace HB := am (below_step (by repeat (with_reducible first | exact HB.out | apply bA | apply bN | apply bD | refine bS ?_ ao)) hb); (try clear hb); (try clear ho0); obtain ⟨hcz178_0, hcz178_1, hfz178_0, hfz178_1⟩ := cf BK249.out))
         refine bodyPost_ret (results_ct rfl _ _ gb249 30 #[.int .i64 0, .slice none 0 0] (0, 0) _ rfl (by (with_reducible repeat (first | refine blk_drewN ?_ _ | refine blk_drew ?_ | refine blk_alloc ?_ _)); refine blk_put (cs := #[.int .i64 0, .slice none 0 0]) ?_ 1 _ rfl; (with_reducible repeat (first | refine blk_drewN ?_ _ | refine blk_drew ?_ | refine blk_alloc ?_ _)); refine blk_put (cs := #[.int .i64 0, .slice none 0 0]) ?_ 0 _ rfl; exact bu BK249.out) Try.underlying30 rfl (by kernel_rfl)) rfl ?_
         exact ⟨_, by first | rfl | (simp [errW_none, errW_some] <;> rfl) | (simp [*, errW_none, errW_some] <;> rfl), by first | exact Kd.R_nil _ _ _ _ _ | exact Kd.V_nil _ _ _ _ _, by repeat (with_reducible first | exact HB.out | apply bA | apply bN | apply bD | refine bS ?_ ao)⟩
     ·
      rw [if_neg c10] at H
      exact absurd H (by simp)
    ·
     rw [if_neg c9] at H
     exact absurd H (by simp)

end Go.Proofs.Ytbclnjinpcfpjaa.H
