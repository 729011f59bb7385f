-- Made by this session's own call of the printer (functions that are proved by hand are taken from a text beside it).
import Derived.Test.YtbclnjinpcfpjaaZ4
import Derived.Test.YtbclnjinpcfpjaaZ6
import Derived.Test.YtbclnjinpcfpjaaMD
import Derived.Test.YtbclnjinpcfpjaaH0
import Derived.Test.YtbclnjinpcfpjaaHC
namespace Go.Proofs.Ytbclnjinpcfpjaa.H
open Go.RowKit Go.Proofs.YtbclnjinpcfpjaaW.PrintWords Go.Proofs.YtbclnjinpcfpjaaW.PrintLast Go.Proofs.YtbclnjinpcfpjaaW.PrintMore
attribute [local go_sem] max2_int min2_int max_two min_two max_three min_three max_four min_four   -- for this text's walks alone
set_option linter.unusedVariables false
set_option linter.unusedSimpArgs false

/-! ### tallymanref15_Read: function 53 -/
mutual
def tallymanref15_Read.j0 : Nat → List Int → Bool → Option (Int × (List (S32)) × Int)
 | 0, _, _ => none
 | k + 1, x0, x34 => if x34 = true then (some (0, ([] : List (S32)), 4)) else (if 0 < (x0.length : Int) then (if 1 < (x0.length : Int) then (if (rd x0 1) = 1 then (if 0 ≤ (IntKind.u64.wrap (wrap64 (rd x0 0))) then (if (x0.length : Int) = (wrap64 (2 + (wrap64 (Int.tdiv (shl .i64 3 (IntKind.u64.wrap (wrap64 (rd x0 0)))) 4)))) then (if 2 ≤ (x0.length : Int) then ((tallymanref15_Unpack.f k (x0.drop 2)).bind fun t540 => (tallymanref15_Read.l0 k x0 t540 0 (wrap64 (rd x0 0)) ([] : List (S32)))) else (none)) else (some (0, ([] : List (S32)), 4))) else (none)) else (if 2 ≤ (x0.length : Int) then ((tallymanref01_New.f (x0.drop 2)).bind fun bt553 => (if 0 ≤ (IntKind.u64.wrap (wrap64 (rd x0 0))) then ((tallymanref01_Reader_Upto.f bt553.1 bt553.2.1 bt553.2.2 (shl .u64 1 (IntKind.u64.wrap (wrap64 (rd x0 0))))).bind fun bt557 => (tallymanref15_Read.l1 k x0 (wrap64 (bt557.1)) (-1) 0 (wrap64 (rd x0 0)) ([] : List (S32)) bt553.1 bt557.2.1 bt557.2.2)) else (none))) else (none))) else (none)) else (none))
def tallymanref15_Read.l0 : Nat → List Int → List Int → Int → Int → List (S32) → Option (Int × (List (S32)) × Int)
 | 0, _, _, _, _, _ => none
 | k + 1, x0, x5, x6, x538000, x538001 => if x6 < (x5.length : Int) then (if 0 ≤ x6 then (if (rd x5 x6) > 0 then (if x538001.length < 8796093022208 then (tallymanref15_Read.l0 k x0 x5 (wrap64 (x6 + 1)) x538000 (x538001 ++ [(⟨x6, rd x5 x6⟩ : S32)])) else (none)) else (tallymanref15_Read.l0 k x0 x5 (wrap64 (x6 + 1)) x538000 x538001)) else (none)) else ((tallymanref15_Bytes.f k x538000 x538001).bind fun bt548 => (if bt548.2 = 0 then (if (strOfNums bt548.1).toList = (strOfNums x0).toList then (some (x538000, x538001, 0)) else (some (0, ([] : List (S32)), 4))) else (some (0, ([] : List (S32)), 4))))
def tallymanref15_Read.l1 : Nat → List Int → Int → Int → Int → Int → List (S32) → List Int → Int → Int → Option (Int × (List (S32)) × Int)
 | 0, _, _, _, _, _, _, _, _, _ => none
 | k + 1, x0, x8, x9, x10, x538000, x538001, x557000, x557001, x557002 => if x10 < x8 then ((tallymanref01_Reader_Err.f x557000 x557001 x557002).bind fun bt560 => (tallymanref15_Read.j3 k x0 x8 x9 x10 (bt560.1 == 0) x538000 x538001 x557000 bt560.2.1 bt560.2.2)) else (tallymanref15_Read.j3 k x0 x8 x9 x10 false x538000 x538001 x557000 x557001 x557002)
def tallymanref15_Read.j3 : Nat → List Int → Int → Int → Int → Bool → Int → List (S32) → List Int → Int → Int → Option (Int × (List (S32)) × Int)
 | 0, _, _, _, _, _, _, _, _, _, _ => none
 | k + 1, x0, x8, x9, x10, x97, x538000, x538001, x557000, x557001, x557002 => if x97 = true then (if 0 ≤ (IntKind.u64.wrap (x538000)) then ((tallymanref01_Reader_Upto.f x557000 x557001 x557002 (shl .u64 1 (IntKind.u64.wrap (x538000)))).bind fun bt563 => ((tallymanref01_Reader_Fixed.f x557000 bt563.2.1 bt563.2.2 1).bind fun bt566 => (if (bt566.1.length : Int) = 1 then (if 0 < (bt566.1.length : Int) then (if x538001.length < 8796093022208 then (tallymanref15_Read.l1 k x0 x8 (wrap64 ((wrap64 (x9 + 1)) + (wrap64 (bt563.1)))) (wrap64 (x10 + 1)) x538000 (x538001 ++ [(⟨wrap64 ((wrap64 (x9 + 1)) + (wrap64 (bt563.1))), wrap64 (rd bt566.1 0)⟩ : S32)]) x557000 bt566.2.1 bt566.2.2) else (none)) else (none)) else (tallymanref15_Read.l1 k x0 x8 (wrap64 ((wrap64 (x9 + 1)) + (wrap64 (bt563.1)))) (wrap64 (x10 + 1)) x538000 x538001 x557000 bt566.2.1 bt566.2.2)))) else (none)) else ((tallymanref01_Reader_End.f x557000 x557001 x557002).bind fun bt575 => (if bt575.1 = 0 then ((tallymanref15_Bytes.f k x538000 x538001).bind fun bt578 => (if bt578.2 = 0 then (if (strOfNums bt578.1).toList = (strOfNums x0).toList then (some (x538000, x538001, 0)) else (some (0, ([] : List (S32)), 4))) else (some (0, ([] : List (S32)), 4)))) else (some (0, ([] : List (S32)), 4))))
end
def tallymanref15_Read.f (k : Nat) (l0 : List Int) : Option (Int × (List (S32)) × Int) := if (l0.length : Int) < 2 then (tallymanref15_Read.j0 k l0 true) else (if 0 < (l0.length : Int) then (if (rd l0 0) < 4 then (tallymanref15_Read.j0 k l0 true) else (if (rd l0 0) > 16 then (tallymanref15_Read.j0 k l0 true) else (if 1 < (l0.length : Int) then (tallymanref15_Read.j0 k l0 (decide ((rd l0 1) > 1))) else (none)))) else (none))
theorem tallymanref15_Read.mono_l : ∀ k, (∀ y0 y1, LeO (tallymanref15_Read.j0 k y0 y1) (tallymanref15_Read.j0 (k + 1) y0 y1)) ∧ (∀ y0 y1 y2 y3 y4, LeO (tallymanref15_Read.l0 k y0 y1 y2 y3 y4) (tallymanref15_Read.l0 (k + 1) y0 y1 y2 y3 y4)) ∧ (∀ y0 y1 y2 y3 y4 y5 y6 y7 y8, LeO (tallymanref15_Read.l1 k y0 y1 y2 y3 y4 y5 y6 y7 y8) (tallymanref15_Read.l1 (k + 1) y0 y1 y2 y3 y4 y5 y6 y7 y8)) ∧ (∀ y0 y1 y2 y3 y4 y5 y6 y7 y8 y9, LeO (tallymanref15_Read.j3 k y0 y1 y2 y3 y4 y5 y6 y7 y8 y9) (tallymanref15_Read.j3 (k + 1) y0 y1 y2 y3 y4 y5 y6 y7 y8 y9))
 | 0 => ⟨fun _ _ r h => by simp [tallymanref15_Read.j0] at h, fun _ _ _ _ _ r h => by simp [tallymanref15_Read.l0] at h, fun _ _ _ _ _ _ _ _ _ r h => by simp [tallymanref15_Read.l1] at h, fun _ _ _ _ _ _ _ _ _ _ r h => by simp [tallymanref15_Read.j3] at h⟩
 | k + 1 => by
  obtain ⟨ih0, ih1, ih2, ih3⟩ := tallymanref15_Read.mono_l k
  refine ⟨?_, ?_, ?_, ?_⟩
  ·
   intro y0 y1
   unfold tallymanref15_Read.j0
   repeat' first
   | (with_reducible exact ih0 _ _)
   | (with_reducible exact ih1 _ _ _ _ _)
   | (with_reducible exact ih2 _ _ _ _ _ _ _ _ _)
   | (with_reducible exact ih3 _ _ _ _ _ _ _ _ _ _)
   | (with_reducible exact tallymanref15_Bytes.mono _ _ _)
   | (with_reducible exact tallymanref15_Unpack.mono _ _)
   | (with_reducible exact LeO.refl _)
   | (with_reducible exact LeO.none _)
   | (with_reducible refine LeO.ite ?_ ?_)
   | (with_reducible refine LeO.bind ?_ (fun _ => ?_))
  ·
   intro y0 y1 y2 y3 y4
   unfold tallymanref15_Read.l0
   repeat' first
   | (with_reducible exact ih0 _ _)
   | (with_reducible exact ih1 _ _ _ _ _)
   | (with_reducible exact ih2 _ _ _ _ _ _ _ _ _)
   | (with_reducible exact ih3 _ _ _ _ _ _ _ _ _ _)
   | (with_reducible exact tallymanref15_Bytes.mono _ _ _)
   | (with_reducible exact tallymanref15_Unpack.mono _ _)
   | (with_reducible exact LeO.refl _)
   | (with_reducible exact LeO.none _)
   | (with_reducible refine LeO.ite ?_ ?_)
   | (with_reducible refine LeO.bind ?_ (fun _ => ?_))
  ·
   intro y0 y1 y2 y3 y4 y5 y6 y7 y8
   unfold tallymanref15_Read.l1
   repeat' first
   | (with_reducible exact ih0 _ _)
   | (with_reducible exact ih1 _ _ _ _ _)
   | (with_reducible exact ih2 _ _ _ _ _ _ _ _ _)
   | (with_reducible exact ih3 _ _ _ _ _ _ _ _ _ _)
   | (with_reducible exact tallymanref15_Bytes.mono _ _ _)
   | (with_reducible exact tallymanref15_Unpack.mono _ _)
   | (with_reducible exact LeO.refl _)
   | (with_reducible exact LeO.none _)
   | (with_reducible refine LeO.ite ?_ ?_)
   | (with_reducible refine LeO.bind ?_ (fun _ => ?_))
  ·
   intro y0 y1 y2 y3 y4 y5 y6 y7 y8 y9
   unfold tallymanref15_Read.j3
   repeat' first
   | (with_reducible exact ih0 _ _)
   | (with_reducible exact ih1 _ _ _ _ _)
   | (with_reducible exact ih2 _ _ _ _ _ _ _ _ _)
   | (with_reducible exact ih3 _ _ _ _ _ _ _ _ _ _)
   | (with_reducible exact tallymanref15_Bytes.mono _ _ _)
   | (with_reducible exact tallymanref15_Unpack.mono _ _)
   | (with_reducible exact LeO.refl _)
   | (with_reducible exact LeO.none _)
   | (with_reducible refine LeO.ite ?_ ?_)
   | (with_reducible refine LeO.bind ?_ (fun _ => ?_))
theorem tallymanref15_Read.mono : ∀ a0 k, LeO (tallymanref15_Read.f k a0) (tallymanref15_Read.f (k + 1) a0) := by
 intro a0 k
 obtain ⟨ih0, ih1, ih2, ih3⟩ := tallymanref15_Read.mono_l k
 unfold tallymanref15_Read.f
 repeat' first
   | (with_reducible exact ih0 _ _)
   | (with_reducible exact ih1 _ _ _ _ _)
   | (with_reducible exact ih2 _ _ _ _ _ _ _ _ _)
   | (with_reducible exact ih3 _ _ _ _ _ _ _ _ _ _)
   | (with_reducible exact tallymanref15_Bytes.mono _ _ _)
   | (with_reducible exact tallymanref15_Unpack.mono _ _)
   | (with_reducible exact LeO.refl _)
   | (with_reducible exact LeO.none _)
   | (with_reducible refine LeO.ite ?_ ?_)
   | (with_reducible refine LeO.bind ?_ (fun _ => ?_))
def tallymanref15_Read.T12 : Bool × List (List Nat × List Nat) := (true, [([], []), ([0], [0]), ([], []), ([], []), ([], []), ([3, 4], [3, 4]), ([5], [5]), ([2, 6], [2, 6]), ([7], [7]), ([1, 8], [1, 8]), ([0, 1, 2, 3, 4, 5, 6, 7, 8, 9], []), ([10, 9, 9, 0, 1, 2, 3, 4, 5, 6, 7, 8, 9], [9, 10])])
def tallymanref15_Read.B12 : List Nat := [0, 1, 0, 0, 0, 24, 56, 124, 252, 511, 1023, 2047]
theorem tallymanref15_Read.tab12 : rtab .any (opsOf Try.f53 12) = tallymanref15_Read.T12 := by kernel_rfl
theorem tallymanref15_Read.bits12 : waitsOk tallymanref15_Read.T12.2 tallymanref15_Read.B12 = true := by kernel_rfl
def tallymanref15_Read.T22 : Bool × List (List Nat × List Nat) := (true, [([], []), ([0], [0]), ([], []), ([], []), ([3], [3]), ([4], [4]), ([5], [5]), ([2, 6], [2, 6]), ([7], [7]), ([1, 8], [1, 8]), ([0, 1, 2, 3, 4, 5, 6, 7, 8, 9], []), ([10, 9, 9, 0, 1, 2, 3, 4, 5, 6, 7, 8, 9], [9, 10])])
def tallymanref15_Read.B22 : List Nat := [0, 1, 0, 0, 8, 24, 56, 124, 252, 511, 1023, 2047]
theorem tallymanref15_Read.tab22 : rtab .any (opsOf Try.f53 22) = tallymanref15_Read.T22 := by kernel_rfl
theorem tallymanref15_Read.bits22 : waitsOk tallymanref15_Read.T22.2 tallymanref15_Read.B22 = true := by kernel_rfl
set_option maxHeartbeats 8000000 in
set_option maxRecDepth 100000 in
theorem tallymanref15_Read.calls (k : Nat) (A0 : Option Addr) (c0 : Nat) (l0 : List Int) (r1 : Int) (r2 : List (S32)) (r3 : Int) (w : World) (hr0 : Kd.C (Kd.int .u8) w A0 l0.length l0) (hc0 : l0.length ≤ c0) (h : tallymanref15_Read.f k l0 = some (r1, r2, r3)) :
  Calls Try.prog 53 #[.slice A0 l0.length c0] w fun e w' => ∃ v1_ : Value, e = .returned (.tuple #[.agg #[.int .i64 r1, v1_], .int .i64 r3]) ∧ Kd.R k32 32 w' w.heap.size (fun _ => True) v1_ r2 ∧ Below w.heap.size w w' := by
 have hu30 := Try.underlying30
 have hu32 := Try.underlying32
 have HR0 := Aside0.mk hr0
 have HC0 := Aside0.mk hc0
 clear hr0 hc0
 have HB := am (Below.refl w.heap.size w)
 have H : (if (l0.length : Int) < 2 then (tallymanref15_Read.j0 k l0 true) else (if 0 < (l0.length : Int) then (if (rd l0 0) < 4 then (tallymanref15_Read.j0 k l0 true) else (if (rd l0 0) > 16 then (tallymanref15_Read.j0 k l0 true) else (if 1 < (l0.length : Int) then (tallymanref15_Read.j0 k l0 (decide ((rd l0 1) > 1))) else (none)))) else (none))) = some (r1, r2, r3) := h
 clear h
 have HC2 := Aside0.mk H
 clear H
 go_enter Try.func53, Try.ntmps53
 go_upto_region 1 with (first | ((with_reducible refine gate_dst (N := 2) rfl ?_); refine box_event ?hg (N := 2) ?hd (cs := #[.int .i64 0, .slice none 0 0]) (t := 30) ?hr ?_; (case hd => rfl); (case hg => rfl); (case hr => go_simp; try rfl); intro gb532 hg w3 hbox hb; obtain ⟨HBn, GW532⟩ := tri hg hb (hu HB.out); have GE532 := GW532; have BK532 := am (hbox); clear HB; have HB := HBn; clear HBn; clear hb hbox hg))
 (try simp only [Act.put, List.setIfInBounds_toArray, List.set_cons_zero, List.set_cons_succ])
 go_cut [34] (fun v34 wc => ∃ (kq : Nat) (x34_1 : Bool), v34 = .bool x34_1 ∧ Aside0 (tallymanref15_Read.j0 kq l0 x34_1 = some (r1, r2, r3)) ∧ Aside0 (kq ≤ k) ∧ Aside0 (wc.heap[gb532]? = some (.cells #[.int .i64 0, (.slice none 0 0)] 30 (0, 0))) ∧ Aside0 (Below w.heap.size w wc))
 case first =>
  have H := HC2.out
  clear HC2
  by_cases c4 : (l0.length : Int) < 2
  ·
   rw [if_pos c4] at H
   have c4b0 : decide ((l0.length : Int) < 2) = true := decide_eq_true c4
   have c4b1 : decide (l0.length < 2) = true := decide_eq_true (by omega)
   clear c4
   (first | rw [c4b0] | (simp only [i64_w, i32_w]; rw [c4b0]) | skip)
   have H' := Aside0.mk H
   clear H
   go_wp2
   go_meet
   case rel => exact ⟨_, (true), (by first | rfl | (simp; done) | (simp [*]; done)), H', ⟨by first | omega | exact Nat.le_refl _⟩, ⟨bu BK532.out⟩, ⟨by repeat (with_reducible first | exact HB.out | apply bA | apply bN | apply bD | refine bS ?_ ao)⟩⟩
  ·
   rw [if_neg c4] at H
   have c4b0 : decide ((l0.length : Int) < 2) = false := decide_eq_false c4
   have c4b1 : decide (l0.length < 2) = false := decide_eq_false (by omega)
   clear c4
   (first | rw [c4b0] | (simp only [i64_w, i32_w]; rw [c4b0]) | skip)
   by_cases c5 : 0 < (l0.length : Int)
   ·
    rw [if_pos c5] at H
    have c5b0 : decide (0 < (l0.length : Int)) = true := decide_eq_true c5
    have c5b1 : decide (0 < l0.length) = true := decide_eq_true (by omega)
    clear c5
    by_cases c6 : (rd l0 0) < 4
    ·
     rw [if_pos c6] at H
     have c6b0 : decide ((rd l0 0) < 4) = true := decide_eq_true c6
     clear c6
     have H' := Aside0.mk H
     clear H
     have p533 : 0 ≤ (0 : Int) := (by omega)
     have q533 : 0 < (l0.length : Int) := of_decide_eq_true (by first | (with_reducible assumption) | assumption)
     obtain ⟨ad533, e533, hx533_0⟩ := Kd.at_int HR0.out 0 p533 q533
     cases e533
     have qi533 : (0 < l0.length) = True := eq_true (by omega)
     (try rw [show ((0 : Int)).toNat = 0 from rfl] at hx533_0)
     (try rw [Addr.add_zero'] at hx533_0)
     replace hx533_0 := (HB.out.cell (World.block_lt_of_cell? w _ hx533_0)).trans hx533_0
     replace p533 := eq_true p533
     replace q533 := eq_true q533
     go_wp2
     go_meet
     case rel => exact ⟨_, (true), (by first | rfl | (simp; done) | (simp [*]; done)), H', ⟨by first | omega | exact Nat.le_refl _⟩, ⟨bu BK532.out⟩, ⟨by repeat (with_reducible first | exact HB.out | apply bA | apply bN | apply bD | refine bS ?_ ao)⟩⟩
    ·
     rw [if_neg c6] at H
     have c6b0 : decide ((rd l0 0) < 4) = false := decide_eq_false c6
     clear c6
     by_cases c7 : (rd l0 0) > 16
     ·
      rw [if_pos c7] at H
      have c7b0 : decide (16 < (rd l0 0)) = true := decide_eq_true c7
      clear c7
      have H' := Aside0.mk H
      clear H
      have p533 : 0 ≤ (0 : Int) := (by omega)
      have q533 : 0 < (l0.length : Int) := of_decide_eq_true (by first | (with_reducible assumption) | assumption)
      obtain ⟨ad533, e533, hx533_0⟩ := Kd.at_int HR0.out 0 p533 q533
      cases e533
      have qi533 : (0 < l0.length) = True := eq_true (by omega)
      (try rw [show ((0 : Int)).toNat = 0 from rfl] at hx533_0)
      (try rw [Addr.add_zero'] at hx533_0)
      replace hx533_0 := (HB.out.cell (World.block_lt_of_cell? w _ hx533_0)).trans hx533_0
      replace p533 := eq_true p533
      replace q533 := eq_true q533
      have p534 : 0 ≤ (0 : Int) := (by omega)
      have q534 : 0 < (l0.length : Int) := of_decide_eq_true (by first | (with_reducible assumption) | assumption)
      obtain ⟨ad534, e534, hx534_0⟩ := Kd.at_int HR0.out 0 p534 q534
      obtain rfl : ad533 = ad534 := (by injection e534)
      have qi534 : (0 < l0.length) = True := eq_true (by omega)
      (try rw [show ((0 : Int)).toNat = 0 from rfl] at hx534_0)
      (try rw [Addr.add_zero'] at hx534_0)
      replace hx534_0 := (HB.out.cell (World.block_lt_of_cell? w _ hx534_0)).trans hx534_0
      replace p534 := eq_true p534
      replace q534 := eq_true q534
      go_wp2
      go_meet
      case rel => exact ⟨_, (true), (by first | rfl | (simp; done) | (simp [*]; done)), H', ⟨by first | omega | exact Nat.le_refl _⟩, ⟨bu BK532.out⟩, ⟨by repeat (with_reducible first | exact HB.out | apply bA | apply bN | apply bD | refine bS ?_ ao)⟩⟩
     ·
      rw [if_neg c7] at H
      have c7b0 : decide (16 < (rd l0 0)) = false := decide_eq_false c7
      clear c7
      by_cases c8 : 1 < (l0.length : Int)
      ·
       rw [if_pos c8] at H
       have c8b0 : decide (1 < (l0.length : Int)) = true := decide_eq_true c8
       have c8b1 : decide (1 < l0.length) = true := decide_eq_true (by omega)
       clear c8
       have H' := Aside0.mk H
       clear H
       have p533 : 0 ≤ (0 : Int) := (by omega)
       have q533 : 0 < (l0.length : Int) := of_decide_eq_true (by first | (with_reducible assumption) | assumption)
       obtain ⟨ad533, e533, hx533_0⟩ := Kd.at_int HR0.out 0 p533 q533
       cases e533
       have qi533 : (0 < l0.length) = True := eq_true (by omega)
       (try rw [show ((0 : Int)).toNat = 0 from rfl] at hx533_0)
       (try rw [Addr.add_zero'] at hx533_0)
       replace hx533_0 := (HB.out.cell (World.block_lt_of_cell? w _ hx533_0)).trans hx533_0
       replace p533 := eq_true p533
       replace q533 := eq_true q533
       have p534 : 0 ≤ (0 : Int) := (by omega)
       have q534 : 0 < (l0.length : Int) := of_decide_eq_true (by first | (with_reducible assumption) | assumption)
       obtain ⟨ad534, e534, hx534_0⟩ := Kd.at_int HR0.out 0 p534 q534
       obtain rfl : ad533 = ad534 := (by injection e534)
       have qi534 : (0 < l0.length) = True := eq_true (by omega)
       (try rw [show ((0 : Int)).toNat = 0 from rfl] at hx534_0)
       (try rw [Addr.add_zero'] at hx534_0)
       replace hx534_0 := (HB.out.cell (World.block_lt_of_cell? w _ hx534_0)).trans hx534_0
       replace p534 := eq_true p534
       replace q534 := eq_true q534
       have p535 : 0 ≤ (1 : Int) := (by omega)
       have q535 : 1 < (l0.length : Int) := of_decide_eq_true (by first | (with_reducible assumption) | assumption)
       obtain ⟨ad535, e535, hx535_0⟩ := Kd.at_int HR0.out 1 p535 q535
       obtain rfl : ad533 = ad535 := (by injection e535)
       (try simp only [show (1 : Int).toNat = 1 from rfl, Nat.reduceMul, Nat.reduceEqDiff, Go.Addr.add, ↓reduceIte] at hx535_0)
       have qi535 : (1 < l0.length) = True := eq_true (by omega)
       (try rw [show ((1 : Int)).toNat = 1 from rfl] at hx535_0)
       replace hx535_0 := (HB.out.cell (World.block_lt_of_cell? w _ hx535_0)).trans hx535_0
       replace p535 := eq_true p535
       replace q535 := eq_true q535
       go_wp2
       go_meet
       case rel => exact ⟨_, (decide ((rd l0 1) > 1)), (by first | rfl | (simp; done) | (simp [*]; done)), H', ⟨by first | omega | exact Nat.le_refl _⟩, ⟨bu BK532.out⟩, ⟨by repeat (with_reducible first | exact HB.out | apply bA | apply bN | apply bD | refine bS ?_ ao)⟩⟩
      ·
       rw [if_neg c8] at H
       exact absurd H (by simp)
   ·
    rw [if_neg c5] at H
    exact absurd H (by simp)
 case rest =>
  clear HC2
  obtain ⟨kq, x34_1, rfl, HA, HJ1, BK532, HB⟩ := hcut
  cases kq with
  | zero => exact absurd HA.out (by simp [tallymanref15_Read.j0])
  | succ kj1 =>
   have H := HA.out
   clear HA
   simp only [tallymanref15_Read.j0] at H
   by_cases c9 : x34_1 = true
   ·
    subst c9
    rw [if_pos rfl] at H
    simp only [Option.some.injEq, Prod.mk.injEq] at H
    obtain ⟨rfl, rfl, rfl⟩ := H
    obtain ⟨hcz10_0, hcz10_1, hfz10_0, hfz10_1⟩ := cf BK532.out
    go_wp2
    refine bodyPost_ret (results_ct rfl _ _ gb532 30 #[.int .i64 0, .slice none 0 0] (0, 0) _ rfl (by (with_reducible repeat (first | refine blk_drewN ?_ _ | refine blk_drew ?_ | refine blk_alloc ?_ _)); refine blk_put (cs := #[.int .i64 0, .slice none 0 0]) ?_ 1 _ rfl; (with_reducible repeat (first | refine blk_drewN ?_ _ | refine blk_drew ?_ | refine blk_alloc ?_ _)); refine blk_put (cs := #[.int .i64 0, .slice none 0 0]) ?_ 0 _ rfl; exact bu BK532.out) Try.underlying30 rfl (by kernel_rfl)) rfl ?_
    exact ⟨_, by first | rfl | (simp [errW_none, errW_some] <;> rfl) | (simp [*, errW_none, errW_some] <;> rfl), by first | exact Kd.R_nil _ _ _ _ _ | exact Kd.V_nil _ _ _ _ _, by repeat (with_reducible first | exact HB.out | apply bA | apply bN | apply bD | refine bS ?_ ao)⟩
   ·
    replace c9 := Bool.eq_false_iff.mpr c9
    subst c9
    rw [if_neg Bool.false_ne_true] at H
    by_cases c11 : 0 < (l0.length : Int)
    ·
     rw [if_pos c11] at H
     have c11b0 : decide (0 < (l0.length : Int)) = true := decide_eq_true c11
     have c11b1 : decide (0 < l0.length) = true := decide_eq_true (by omega)
     clear c11
     by_cases c12 : 1 < (l0.length : Int)
     ·
      rw [if_pos c12] at H
      have c12b0 : decide (1 < (l0.length : Int)) = true := decide_eq_true c12
      have c12b1 : decide (1 < l0.length) = true := decide_eq_true (by omega)
      clear c12
      by_cases c13 : (rd l0 1) = 1
      ·
       rw [if_pos c13] at H
       have c13b0 : ((rd l0 1) == 1) = true := beq_iff_eq.mpr c13
       have c13b1 : ((rd l0 1) != 1) = false := bne_eq_false_iff_eq.mpr c13
       clear c13
       obtain ⟨ji14, hji14⟩ : ∃ j_ : Int, (IntKind.u64.wrap (wrap64 (rd l0 0))) = j_ := ⟨_, rfl⟩
       first | rw [hji14] at H | simp only [hji14] at H
       by_cases c15 : 0 ≤ (ji14)
       ·
        rw [if_pos c15] at H
        have c15b0 := eq_true c15
        have c15b1 : decide (0 ≤ (ji14)) = true := decide_eq_true c15
        clear c15
        obtain ⟨ji16, hji16⟩ : ∃ j_ : Int, (shl .i64 3 (ji14)) = j_ := ⟨_, rfl⟩
        first | rw [hji16] at H | simp only [hji16] at H
        have hji16_ : (IntKind.i64.wrap (3 * 2 ^ min (ji14).toNat 64)) = ji16 := hji16
        have hji16z : (ji14) ≤ 64 → (IntKind.i64.wrap (3 * 2 ^ (ji14).toNat)) = ji16 := shl_small hji16
        have hji16y : (wrap64 (3 * 2 ^ min (ji14).toNat 64)) = ji16 := (i64_w _).symm.trans hji16_
        have hji16x : (ji14) ≤ 64 → (wrap64 (3 * 2 ^ (ji14).toNat)) = ji16 := fun h_ => (i64_w _).symm.trans (hji16z h_)
        by_cases c17 : (l0.length : Int) = (wrap64 (2 + (wrap64 (Int.tdiv (ji16) 4))))
        ·
         rw [if_pos c17] at H
         have c17b0 : ((l0.length : Int) == (wrap64 (2 + (wrap64 (Int.tdiv (ji16) 4))))) = true := beq_iff_eq.mpr c17
         have c17b1 : ((l0.length : Int) != (wrap64 (2 + (wrap64 (Int.tdiv (ji16) 4))))) = false := bne_eq_false_iff_eq.mpr c17
         clear c17
         by_cases c18 : 2 ≤ (l0.length : Int)
         ·
          rw [if_pos c18] at H
          have c18b0 := eq_true c18
          have c18b1 : decide (2 ≤ (l0.length : Int)) = true := decide_eq_true c18
          clear c18
          replace H := Option.bind_eq_some_iff.mp H
          obtain ⟨t540, A190, H⟩ := H
          try dsimp only at H
          have A19 := Aside0.mk A190
          clear A190
          have H' := Aside0.mk H
          clear H
          have p536 : 0 ≤ (0 : Int) := (by omega)
          have q536 : 0 < (l0.length : Int) := of_decide_eq_true (by first | (with_reducible assumption) | assumption)
          obtain ⟨ad536, e536, hx536_0⟩ := Kd.at_int HR0.out 0 p536 q536
          cases e536
          have qi536 : (0 < l0.length) = True := eq_true (by omega)
          (try rw [show ((0 : Int)).toNat = 0 from rfl] at hx536_0)
          (try rw [Addr.add_zero'] at hx536_0)
          replace hx536_0 := (HB.out.cell (World.block_lt_of_cell? w _ hx536_0)).trans hx536_0
          replace p536 := eq_true p536
          replace q536 := eq_true q536
          go_wp2_with (first | ((with_reducible refine gate_dst (N := 4) rfl ?_); refine box_event ?hg (N := 4) ?hd (cs := #[.int .i64 0, .slice none 0 0]) (t := 30) ?hr ?_; (case hd => rfl); (case hg => rfl); (case hr => go_simp; try rfl); intro gb537 hg w20 hbox hb; obtain ⟨HBn, GW537⟩ := tri hg hb (by repeat (with_reducible first | exact HB.out | apply bA | apply bN | apply bD | refine bS ?_ ao)); have GE537 := GW537; have BK537 := am (hbox); have NB532_537 := nl hg (bu BK532.out); have NB537_532 := nr hg (bu BK532.out); replace BK532 := bb BK532 hb; clear HB; have HB := HBn; clear HBn; clear hb hbox hg; have hnb21 := NB537_532.out; have hnc21 := NB532_537.out; obtain ⟨hcz22_0, hcz22_1, hfz22_0, hfz22_1⟩ := cf BK537.out; have p538 : 0 ≤ (1 : Int) := (by omega); have q538 : 1 < (l0.length : Int) := of_decide_eq_true (by first | (with_reducible assumption) | assumption); obtain ⟨ad538, e538, hx538_0⟩ := Kd.at_int HR0.out 1 p538 q538; obtain rfl : ad536 = ad538 := (by injection e538); (try simp only [show (1 : Int).toNat = 1 from rfl, Nat.reduceMul, Nat.reduceEqDiff, Go.Addr.add, ↓reduceIte] at hx538_0); have qi538 : (1 < l0.length) = True := eq_true (by omega); (try rw [show ((1 : Int)).toNat = 1 from rfl] at hx538_0); have hn538_0 : ad536.block ≠ gb537 := Nat.ne_of_lt (Nat.lt_of_lt_of_le (by have := World.block_lt_of_cell? _ _ hx538_0; first | rwa [add_block] at this | exact this) GW537.out); have hn538_1 : ad536.block ≠ gb537 := Nat.ne_of_lt (Nat.lt_of_lt_of_le (by have := World.block_lt_of_cell? _ _ hx538_0; first | rwa [add_block] at this | exact this) GW537.out); replace hx538_0 := (HB.out.cell (World.block_lt_of_cell? w _ hx538_0)).trans hx538_0; replace hx538_0 := (cell_far (p := ⟨gb537, 0, none⟩) (by first | (rw [add_block]; exact hn538_0) | (show (Addr.add _ _).block ≠ _; rw [add_block]; exact hn538_0) | exact hn538_0) (.int .i64 (wrap64 (rd l0 0)))).trans hx538_0; replace hx538_0 := (cell_far (p := ⟨gb537, 1, none⟩) (by first | (rw [add_block]; exact hn538_1) | (show (Addr.add _ _).block ≠ _; rw [add_block]; exact hn538_1) | exact hn538_1) (.slice none 0 0)).trans hx538_0; clear hn538_0; clear hn538_1; replace p538 := eq_true p538; replace q538 := eq_true q538; obtain ⟨i023, hi023, _, hsz23, _⟩ := info_parts info5; obtain ⟨A23, hcut23, hA23, hC23⟩ := print_drop_of (P := Try.prog) (Value.int .u8) 0 33 5 .i64 Try.underlying33 hi023 hsz23 (some ad536) c0 l0 2 (by omega) (of_decide_eq_true (by first | (with_reducible assumption) | assumption)) HC0.out; have HR539 := am (Kd.C_of_reads (h1 := fun _ => rfl) (hA23 _ (Kd.reads_of_C HR0.out))); have HC539 := Aside0.mk hC23; clear hA23 hC23 hi023 hsz23) | ((with_reducible refine gate_callee (f := 55) rfl ?_); refine goesL_ (some 57) rfl rfl Try.func55 (by kernel_rfl) rfl #[.slice A23 (l0.drop 2).length (c0 - 2)] rfl (by (try simp only [List.map_toArray, List.map_cons, List.map_nil]); first | done | (rw [show (l0.drop 2).length = (l0.length - 2) from List.length_drop] <;> rfl) | rfl | (simp only [List.length_drop, List.length_take]; rfl)) ?_; (with_reducible refine (tallymanref15_Unpack.calls kj1 _ _ (l0.drop 2) t540 _ ?side1 ?side2 A19.out).mono ?_); (case side1 => exact Kd.C_below HR539.out (by repeat (with_reducible first | exact HB.out | apply bA | apply bN | apply bD | refine bS ?_ ao))); (case side2 => exact HC539.out); rintro e w24 ⟨v541, rfl, ho0, hb⟩; refine ⟨_, rfl, ?_⟩; have HO542 := am (Kd.R_lower ho0 (below_size (by repeat (with_reducible first | exact HB.out | apply bA | apply bN | apply bD | refine bS ?_ ao)))); replace BK532 := am (blk_below (bf NB532_537.out BK532.out) hb); replace BK537 := am (blk_below (g := gb537) (o := .cells #[.int .i64 (wrap64 (rd l0 0)), .slice none 0 0] 30 (0, 0)) (by (with_reducible repeat (first | refine blk_drewN ?_ _ | refine blk_drew ?_ | refine blk_alloc ?_ _)); refine blk_put (cs := #[.int .i64 (wrap64 (rd l0 0)), .slice none 0 0]) ?_ 1 _ rfl; (with_reducible repeat (first | refine blk_drewN ?_ _ | refine blk_drew ?_ | refine blk_alloc ?_ _)); refine blk_put (cs := #[.int .i64 0, .slice none 0 0]) ?_ 0 _ rfl; exact bu BK537.out) hb); replace HB := am (below_step (by repeat (with_reducible first | exact HB.out | apply bA | apply bN | apply bD | refine bS ?_ ao)) hb); (try clear hb); (try clear ho0)))
          (try simp only [Act.put, List.setIfInBounds_toArray, List.set_cons_zero, List.set_cons_succ])
          go_loopg [6] kj1 (fun kq v6 w' => ∃ (x6_2 : Int) (x538001_2 : List (S32)) (u538001 : Value), v6 = .int .i64 x6_2 ∧ Aside0 (tallymanref15_Read.l0 kq l0 t540 x6_2 (wrap64 (rd l0 0)) x538001_2 = some (r1, r2, r3)) ∧ Aside0 (kq ≤ kj1) ∧ Aside0 (Kd.R (Kd.int .i64) 3 w' w.heap.size (fun _ => True) v541 t540) ∧ Aside0 (Kd.R k32 32 w' w.heap.size (fun _ => True) u538001 x538001_2) ∧ Aside0 (w'.heap[gb532]? = some (.cells #[.int .i64 0, (.slice none 0 0)] 30 (0, 0))) ∧ Aside0 (w'.heap[gb537]? = some (.cells #[.int .i64 (wrap64 (rd l0 0)), u538001] 30 (0, 0))) ∧ Aside0 (Below w.heap.size w w'))
          case atStart => exact ⟨(0), (([] : List (S32))), (.slice none 0 0), (by first | rfl | (simp; done) | (simp [*]; done)), H', ⟨Nat.le_refl _⟩, ⟨ru HO542.out⟩, ⟨by first | exact Kd.R_nil _ _ _ _ _ | exact Kd.V_nil _ _ _ _ _⟩, ⟨bu BK532.out⟩, ⟨bu BK537.out⟩, ⟨by repeat (with_reducible first | exact HB.out | apply bA | apply bN | apply bD | refine bS ?_ ao)⟩⟩
          case round =>
           clear H'
           obtain ⟨x6_2, x538001_2, u538001, rfl, HA, HK2, HO_5, HO_538001, BK532, BK537, HB⟩ := hrel
           cases gk with
           | zero => exact absurd HA.out (by simp [tallymanref15_Read.l0])
           | succ k2 =>
            have H := HA.out
            clear HA
            simp only [tallymanref15_Read.l0] at H
            by_cases c25 : x6_2 < (t540.length : Int)
            ·
             rw [if_pos c25] at H
             have c25b0 : decide (x6_2 < (t540.length : Int)) = true := decide_eq_true c25
             clear c25
             by_cases c26 : 0 ≤ x6_2
             ·
              rw [if_pos c26] at H
              have c26b0 : decide (0 ≤ x6_2) = true := decide_eq_true c26
              clear c26
              by_cases c27 : (rd t540 x6_2) > 0
              ·
               rw [if_pos c27] at H
               have c27b0 : decide (0 < (rd t540 x6_2)) = true := decide_eq_true c27
               clear c27
               by_cases c28 : x538001_2.length < 8796093022208
               ·
                rw [if_pos c28] at H
                have LMc28 := Aside0.mk c28
                clear c28
                obtain ⟨y545, hy545⟩ : ∃ y_ : List (S32), y_ = (x538001_2 ++ [(⟨x6_2, rd t540 x6_2⟩ : S32)]) := ⟨_, rfl⟩
                replace H : (tallymanref15_Read.l0 k2 l0 t540 (wrap64 (x6_2 + 1)) (wrap64 (rd l0 0)) y545) = some (r1, r2, r3) := by first | (rw [hy545]; with_reducible exact H) | (have H2_ := (Option.bind_some _ _).symm.trans H; rw [hy545]; with_reducible exact H2_) | (have H2_ := (Option.bind_some _ _).symm.trans H; with_reducible exact H2_) | with_reducible exact H | (rw [hy545]; exact H) | exact H
                have Ny545 := Aside0.mk hy545
                clear hy545
                have H' := Aside0.mk H
                clear H
                obtain ⟨Ao29, co29, eo29⟩ := Kd.R_slice HO_5.out
                subst eo29
                have p543 : 0 ≤ (x6_2 : Int) := of_decide_eq_true (by first | (with_reducible assumption) | assumption)
                have q543 : x6_2 < (t540.length : Int) := of_decide_eq_true (by first | (with_reducible assumption) | assumption)
                obtain ⟨ad543, e543, hx543_0⟩ := Kd.at_int (Kd.R_reads' HO_5.out).2.2 x6_2 p543 q543
                cases e543
                replace p543 := eq_true p543
                replace q543 := eq_true q543
                try go_wp2
                replace HO_5 := am (Kd.R_drew HO_5.out); replace HO_538001 := am (Kd.R_drew HO_538001.out); replace BK532 := am (blk_drew BK532.out); replace BK537 := am (blk_drew BK537.out); replace HB := am (below_drew1 HB.out)
                have p544 : 0 ≤ (x6_2 : Int) := of_decide_eq_true (by first | (with_reducible assumption) | assumption)
                have q544 : x6_2 < (t540.length : Int) := of_decide_eq_true (by first | (with_reducible assumption) | assumption)
                obtain ⟨ad544, e544, hx544_0⟩ := Kd.at_int (Kd.R_reads' HO_5.out).2.2 x6_2 p544 q544
                obtain rfl : ad543 = ad544 := (by injection e544)
                replace p544 := eq_true p544
                replace q544 := eq_true q544
                refine start_ (n := 12) (S := fun w' => w'.cell? ⟨gb537, 0, none⟩ = some (.int .i64 (wrap64 (rd l0 0))) ∧ w'.cell? ⟨gb537, 1, none⟩ = some (u538001) ∧ w'.cell? (ad543.add (x6_2).toNat) = some (.int .i64 (rd t540 x6_2))) (ds := [9, 11]) (tb 0 12) (by kernel_rfl) rfl rfl ⟨(blk_cell BK537.out 0).trans rfl, (blk_cell BK537.out 1).trans rfl, hx544_0⟩ (fun hHeld => ?_); refine with_tabW tallymanref15_Read.tab12 tallymanref15_Read.bits12 (fun HT_ HW_ => ?_)
                generalize wr.drew = w30 at HO_5 HO_538001 BK532 BK537 HB hx544_0 hHeld ⊢
                refine pu 0 (some 69) (v := ?_) (a' := ?_) (tb 1 12) rfl rfl (any_of HT_.out (by kernel_rfl)) (fun _ _ _ h => h) ⟨by rfl, ?_⟩ ?_ ?_; rotate_left; · (intro w'; go_simp; with_reducible rfl)
                rotate_left; · (simp only [Act.put, sa_, sb_, sc_, i64_w, i32_w]; rfl)
                refine pu 2 (some 71) (v := ?_) (a' := ?_) #[true, false, true, false, false, false, false, false, false, false, false, false] rfl rfl (any_of HT_.out (by kernel_rfl)) (fun _ _ _ h => h) ⟨by rfl, ?_⟩ ?_ ?_; rotate_left; · (intro w'; go_simp; with_reducible rfl)
                rotate_left; · (simp only [Act.put, sa_, sb_, sc_, i64_w, i32_w]; rfl)
                refine pu 3 (some 72) (v := ?_) (a' := ?_) #[true, false, true, true, false, false, false, false, false, false, false, false] rfl rfl (any_of HT_.out (by kernel_rfl)) (fun _ _ _ h => h) ⟨by rfl, ?_⟩ ?_ ?_; rotate_left; · (intro w'; go_simp; with_reducible rfl)
                rotate_left; · (simp only [Act.put, sa_, sb_, sc_, i64_w, i32_w]; rfl)
                refine pu 4 (some 73) (v := ?_) (a' := ?_) #[true, false, true, true, true, false, false, false, false, false, false, false] rfl rfl (any_of HT_.out (by kernel_rfl)) (fun _ _ _ h => h) ⟨by rfl, ?_⟩ ?_ ?_; rotate_left; · (intro w'; go_simp; with_reducible rfl)
                rotate_left; · (simp only [Act.put, sa_, sb_, sc_, i64_w, i32_w]; rfl)
                refine pu 5 (some 74) (v := ?_) (a' := ?_) #[true, false, true, true, true, true, false, false, false, false, false, false] rfl rfl (any_of HT_.out (by kernel_rfl)) (fun _ _ _ h => h) ⟨by rfl, ?_⟩ ?_ ?_; rotate_left; · (intro w'; go_simp; with_reducible rfl)
                rotate_left; · (simp only [Act.put, sa_, sb_, sc_, i64_w, i32_w]; rfl)
                refine tk 1 (some 70) (v := ?_) (a' := ?_) (tb 6 12) rfl rfl (take_ofW HT_.out HW_.out (by kernel_rfl)) (fun _ _ _ h => h) ⟨by rfl, ?_⟩ hHeld ?_ ?_; rotate_left; · (rintro w' ⟨s0, s1, s2⟩; go_simp; with_reducible rfl)
                rotate_left; · (simp only [Act.put, sa_, sb_, sc_, i64_w, i32_w]; rfl)
                refine tk 6 (some 75) (v := ?_) (a' := ?_) (tb 7 12) rfl rfl (take_ofW HT_.out HW_.out (by kernel_rfl)) (fun _ _ _ h => h) ⟨by rfl, ?_⟩ hHeld ?_ ?_; rotate_left; · (rintro w' ⟨s0, s1, s2⟩; go_simp; with_reducible rfl)
                rotate_left; · (simp only [Act.put, sa_, sb_, sc_, i64_w, i32_w]; rfl)
                refine pu 7 (some 76) (v := ?_) (a' := ?_) (tb 8 12) rfl rfl (any_of HT_.out (by kernel_rfl)) (fun _ _ _ h => h) ⟨by rfl, ?_⟩ ?_ ?_; rotate_left; · (intro w'; go_simp; with_reducible rfl)
                rotate_left; · (simp only [Act.put, sa_, sb_, sc_, i64_w, i32_w]; rfl)
                refine one_ (i := 8) (N := some 77) (tb 9 12) rfl rfl (one_of HT_.out (by kernel_rfl)) (by decide) (fun K hK => ?_)
                refine value_ (w1 := ?_) (v := ?_) (by rfl) rfl ?_ ?_
                rotate_left 2
                ·
                 go_simp
                 constructor
                 ·
                  rfl
                 ·
                  rfl
                refine hK.out _ _ ⟨(blk_cell (blk_alloc BK537.out _) 0).trans rfl, (blk_cell (blk_alloc BK537.out _) 1).trans rfl, (World.cell?_alloc_lt _ _ _ (World.block_lt_of_cell? _ _ (hHeld.2.2))).trans (hHeld.2.2)⟩ (fun hHeld => ?_)
                clear hK K
                refine norm_ (a' := ?_) ?_ ?_
                rotate_left
                ·
                 show Act.put _ (some 77) _ = _
                 simp only [Act.put, List.setIfInBounds_toArray, List.set_cons_zero, List.set_cons_succ, i64_w, i32_w]
                 rfl
                refine last_ (i := 9) (N := some 78) (tb 10 12) rfl rfl (one_of HT_.out (by kernel_rfl)) (by decide) (fun K hK => ?_)
                refine Kd.R_append_step k32 (w0 := w) w.heap.size (by rfl) (.tmp 70) (.tmp 77) 28 32 (.agg #[(.int .i64 0), (.int .i64 0)]) 16 rfl Try.underlying28 info32 rfl (by decide) (by omega) u538001 x538001_2 (⟨x6_2, rd t540 x6_2⟩ : S32) [.int .i64 x6_2, .int .i64 (rd t540 x6_2)] (fun _ => True) (fun _ => False) rfl rfl ?aP (fun _ hk => hk.elim) ?aF ?aO ?aB ?aS ?aL ?_
                (case aP => exact k32_mkM _ _ _ (⟨x6_2, rd t540 x6_2⟩ : S32))
                (case aB => exact (by repeat (with_reducible first | exact HB.out | apply bA | apply bN | apply bD | refine bS ?_ ao)))
                (case aF => exact (fun _ _ => trivial))
                (case aO => exact (ru (HO_538001.out)))
                (case aS => exact (below_size (by repeat (with_reducible first | exact HB.out | apply bA | apply bN | apply bD | refine bS ?_ ao))))
                (case aL => have := LMc28.out; omega)
                intro v546 w31 ho hb hg hat
                rw [← Ny545.out] at ho
                have HO547 := am (ho); replace HO_5 := am (Kd.R_over' (ru (HO_5.out)) (Kd.R_typed (ru (HO_538001.out))) (by decide) hg); replace BK532 := am (blk_grown (g := gb532) (o := .cells #[.int .i64 0, .slice none 0 0] 30 (0, 0)) (bu BK532.out) hg (Kd.R_ne HO_538001.out BK532.out (by decide))); replace BK537 := am (blk_grown (g := gb537) (o := .cells #[.int .i64 (wrap64 (rd l0 0)), u538001] 30 (0, 0)) (bu BK537.out) hg (Kd.R_ne HO_538001.out BK537.out (by decide))); replace HB := am (hb); clear HO_538001
                clear ho hb hg hat
                obtain ⟨Ao32, co32, eo32⟩ := Kd.R_slice HO547.out
                (first | subst eo32 | (injection eo32 with f1_ f2_ f3_; have f4_ := f1_.symm; have f5_ := f3_.symm; clear f1_ f2_ f3_; subst f4_; subst f5_))
                refine hK.out _ _ ?_
                clear hK K
                refine norm_ (a' := ?_) ?_ ?_
                rotate_left
                ·
                 show Act.put _ (some 78) _ = _
                 simp only [Act.put, List.setIfInBounds_toArray, List.set_cons_zero, List.set_cons_succ, i64_w, i32_w]
                 rfl
                refine pu 10 (some 79) (v := ?_) (a' := ?_) (tb 11 12) rfl rfl (any_of HT_.out (by kernel_rfl)) (fun _ _ _ h => h) ⟨by rfl, ?_⟩ ?_ ?_; rotate_left; · (intro w'; go_simp; with_reducible rfl)
                rotate_left; · (simp only [Act.put, sa_, sb_, sc_, i64_w, i32_w]; rfl)
                refine last_ (i := 11) (N := none) (tb 12 12) rfl rfl (one_of HT_.out (by kernel_rfl)) (by decide) (fun K hK => ?_)
                have hs33 : w31.cell? ⟨gb537, 1, none⟩ = some (u538001) := (blk_cell BK537.out 1).trans rfl
                have hfs33 := blk_frozen BK537.out 1; have hns33_0 := NB532_537.out; have hms33_0 := NB537_532.out
                refine skip_ (w1 := ?_) (by rfl) rfl ?_ ?_
                rotate_left
                ·
                 go_simp
                 rfl
                refine hK.out _ _ ?_
                clear hK K
                refine done_ (done_of HT_.out (by kernel_rfl)) ?_
                try go_wp2
                go_roundg k2
                case measure => have := HJ1.out; have := HK2.out; omega
                case rel => exact ⟨(wrap64 (x6_2 + 1)), (y545), (.slice Ao32 y545.length co32), (by first | rfl | (simp; done) | (simp [*]; done)), H', ⟨by have := HJ1.out; have := HK2.out; omega⟩, ⟨Kd.R_mono (rf HO_5.out BK537.out (by decide)) (fun _ hk => trivial)⟩, ⟨Kd.R_mono (rf HO547.out BK537.out (by decide)) (fun _ hk => trivial)⟩, ⟨bf NB532_537.out BK532.out⟩, ⟨by (with_reducible repeat (first | refine blk_drewN ?_ _ | refine blk_drew ?_ | refine blk_alloc ?_ _)); refine blk_put (cs := #[.int .i64 (wrap64 (rd l0 0)), u538001]) ?_ 1 _ rfl; exact bu BK537.out⟩, ⟨by repeat (with_reducible first | exact HB.out | apply bA | apply bN | apply bD | refine bS ?_ ao)⟩⟩
               ·
                rw [if_neg c28] at H
                exact absurd H (by simp)
              ·
               rw [if_neg c27] at H
               have c27b0 : decide (0 < (rd t540 x6_2)) = false := decide_eq_false c27
               clear c27
               have H' := Aside0.mk H
               clear H
               obtain ⟨Ao34, co34, eo34⟩ := Kd.R_slice HO_5.out
               subst eo34
               have p543 : 0 ≤ (x6_2 : Int) := of_decide_eq_true (by first | (with_reducible assumption) | assumption)
               have q543 : x6_2 < (t540.length : Int) := of_decide_eq_true (by first | (with_reducible assumption) | assumption)
               obtain ⟨ad543, e543, hx543_0⟩ := Kd.at_int (Kd.R_reads' HO_5.out).2.2 x6_2 p543 q543
               cases e543
               replace p543 := eq_true p543
               replace q543 := eq_true q543
               go_wp2
               go_roundg k2
               case measure => have := HJ1.out; have := HK2.out; omega
               case rel => exact ⟨(wrap64 (x6_2 + 1)), (x538001_2), (u538001), (by first | rfl | (simp; done) | (simp [*]; done)), H', ⟨by have := HJ1.out; have := HK2.out; omega⟩, ⟨ru HO_5.out⟩, ⟨ru HO_538001.out⟩, ⟨bu BK532.out⟩, ⟨bu BK537.out⟩, ⟨by repeat (with_reducible first | exact HB.out | apply bA | apply bN | apply bD | refine bS ?_ ao)⟩⟩
             ·
              rw [if_neg c26] at H
              exact absurd H (by simp)
            ·
             rw [if_neg c25] at H
             have c25b0 : decide (x6_2 < (t540.length : Int)) = false := decide_eq_false c25
             clear c25
             replace H := Option.bind_eq_some_iff.mp H
             obtain ⟨⟨t548, t551⟩, A350, H⟩ := H
             try dsimp only at H
             have A35 := Aside0.mk A350
             clear A350
             by_cases c36 : t551 = 0
             ·
              rw [if_pos c36] at H
              have c36b0 : (t551 == 0) = true := beq_iff_eq.mpr c36
              have c36b1 : (t551 != 0) = false := bne_eq_false_iff_eq.mpr c36
              clear c36
              by_cases c37 : (strOfNums t548).toList = (strOfNums l0).toList
              ·
               rw [if_pos c37] at H
               have c37b0 : ((strOfNums t548).toList == (strOfNums l0).toList) = true := beq_iff_eq.mpr c37
               have c37b1 : ((strOfNums t548).toList != (strOfNums l0).toList) = false := bne_eq_false_iff_eq.mpr c37
               clear c37
               simp only [Option.some.injEq, Prod.mk.injEq] at H
               obtain ⟨rfl, rfl, rfl⟩ := H
               obtain ⟨Ao38, co38, eo38⟩ := Kd.R_slice HO_5.out
               subst eo38
               have hnb39 := NB537_532.out; have hnc39 := NB532_537.out; obtain ⟨hcz40_0, hcz40_1, hfz40_0, hfz40_1⟩ := cf BK537.out
               obtain ⟨Ao41, co41, eo41⟩ := Kd.R_slice HO_538001.out
               subst eo41
               go_wp2_with (first | ((with_reducible refine gate_callee (f := 52) rfl ?_); refine goesL_ (some 132) rfl rfl Try.func52 (by kernel_rfl) rfl #[.agg #[.int .i64 (wrap64 (rd l0 0)), .slice Ao41 x538001_2.length co41]] rfl (by (try simp only [List.map_toArray, List.map_cons, List.map_nil]); first | done | rfl) ?_; (with_reducible refine (tallymanref15_Bytes.calls k2 (wrap64 (rd l0 0)) _ _ x538001_2 t548 t551 _ ?side1 ?side2 A35.out).mono ?_); (case side1 => repeat (first | exact (Kd.R_reads' HO_538001.out).2.2 | (with_reducible refine Kd.C_alloc ?_ _) | (with_reducible refine Kd.C_drewN ?_ _) | (with_reducible refine Kd.C_drew ?_))); (case side2 => exact (Kd.R_reads' HO_538001.out).2.1); rintro e w42 ⟨v549, rfl, ho0, hb⟩; refine ⟨_, rfl, ?_⟩; have HO550 := am (Kd.R_lower ho0 (below_size (by repeat (with_reducible first | exact HB.out | apply bA | apply bN | apply bD | refine bS ?_ ao)))); replace HO_5 := rb HO_5 hb; replace HO_538001 := rb HO_538001 hb; replace BK532 := bb BK532 hb; replace BK537 := bb BK537 hb; replace HB := am (below_step (by repeat (with_reducible first | exact HB.out | apply bA | apply bN | apply bD | refine bS ?_ ao)) hb); (try clear hb); (try clear ho0); have hcv43 := own_string (P := Try.prog) Try.underlying33 Try.underlying5 Try.underlying9 (Kd.own_of_R HO550.out); have hcv44 := fun nq_ : Nat => own_string (P := Try.prog) Try.underlying33 Try.underlying5 Try.underlying9 (pw_own_drewN (Kd.own_of_R HO550.out) nq_); have hcv45 := Kd.C_string (P := Try.prog) (A := (some ad536)) (c := c0) Try.underlying33 Try.underlying5 Try.underlying9 (Kd.C_below HR0.out HB.out); have hcv46 := fun nq_ : Nat => Kd.C_string (P := Try.prog) (A := (some ad536)) (c := c0) Try.underlying33 Try.underlying5 Try.underlying9 (Kd.C_drewN (Kd.C_below HR0.out HB.out) nq_); obtain ⟨hcz47_0, hcz47_1, hfz47_0, hfz47_1⟩ := cf BK537.out; obtain ⟨hcz48_0, hcz48_1, hfz48_0, hfz48_1⟩ := cf BK532.out))
               refine bodyPost_ret (results_ct rfl _ _ gb532 30 #[.int .i64 (wrap64 (rd l0 0)), .slice Ao41 x538001_2.length co41] (0, 0) _ rfl (by (with_reducible repeat (first | refine blk_drewN ?_ _ | refine blk_drew ?_ | refine blk_alloc ?_ _)); refine blk_put (cs := #[.int .i64 (wrap64 (rd l0 0)), .slice none 0 0]) ?_ 1 _ rfl; (with_reducible repeat (first | refine blk_drewN ?_ _ | refine blk_drew ?_ | refine blk_alloc ?_ _)); refine blk_put (cs := #[.int .i64 0, .slice none 0 0]) ?_ 0 _ rfl; exact bu BK532.out) Try.underlying30 rfl (by kernel_rfl)) rfl ?_
               exact ⟨_, by first | rfl | (simp [errW_none, errW_some] <;> rfl) | (simp only [← hji14, ← hji16]; first | rfl | (simp [errW_none, errW_some] <;> rfl)) | (simp [*, errW_none, errW_some] <;> rfl), by (with_reducible repeat (first | apply Kd.R_alloc | apply Kd.R_drewN | apply Kd.R_drew)); exact Kd.R_mono (Kd.R_far (p := ⟨gb532, 1, none⟩) (Kd.R_far (p := ⟨gb532, 0, none⟩) (Kd.R_types HO_538001.out BK532.out (by decide)) (fun _ hk => hk.2) (.int .i64 (wrap64 (rd l0 0)))) (fun _ hk => hk.2) (.slice Ao41 x538001_2.length co41)) (fun _ hk => trivial), by repeat (with_reducible first | exact HB.out | apply bA | apply bN | apply bD | refine bS ?_ ao)⟩
              ·
               rw [if_neg c37] at H
               have c37b0 : ((strOfNums t548).toList == (strOfNums l0).toList) = false := beq_eq_false_iff_ne.mpr c37
               have c37b1 : ((strOfNums t548).toList != (strOfNums l0).toList) = true := bne_iff_ne.mpr c37
               simp only [Option.some.injEq, Prod.mk.injEq] at H
               obtain ⟨rfl, rfl, rfl⟩ := H
               obtain ⟨Ao49, co49, eo49⟩ := Kd.R_slice HO_5.out
               subst eo49
               have hnb50 := NB537_532.out; have hnc50 := NB532_537.out; obtain ⟨hcz51_0, hcz51_1, hfz51_0, hfz51_1⟩ := cf BK537.out
               obtain ⟨Ao52, co52, eo52⟩ := Kd.R_slice HO_538001.out
               subst eo52
               go_wp2_with (first | ((with_reducible refine gate_callee (f := 52) rfl ?_); refine goesL_ (some 132) rfl rfl Try.func52 (by kernel_rfl) rfl #[.agg #[.int .i64 (wrap64 (rd l0 0)), .slice Ao52 x538001_2.length co52]] rfl (by (try simp only [List.map_toArray, List.map_cons, List.map_nil]); first | done | rfl) ?_; (with_reducible refine (tallymanref15_Bytes.calls k2 (wrap64 (rd l0 0)) _ _ x538001_2 t548 t551 _ ?side1 ?side2 A35.out).mono ?_); (case side1 => repeat (first | exact (Kd.R_reads' HO_538001.out).2.2 | (with_reducible refine Kd.C_alloc ?_ _) | (with_reducible refine Kd.C_drewN ?_ _) | (with_reducible refine Kd.C_drew ?_))); (case side2 => exact (Kd.R_reads' HO_538001.out).2.1); rintro e w53 ⟨v549, rfl, ho0, hb⟩; refine ⟨_, rfl, ?_⟩; have HO550 := am (Kd.R_lower ho0 (below_size (by repeat (with_reducible first | exact HB.out | apply bA | apply bN | apply bD | refine bS ?_ ao)))); replace HO_5 := rb HO_5 hb; replace HO_538001 := rb HO_538001 hb; replace BK532 := bb BK532 hb; replace BK537 := bb BK537 hb; replace HB := am (below_step (by repeat (with_reducible first | exact HB.out | apply bA | apply bN | apply bD | refine bS ?_ ao)) hb); (try clear hb); (try clear ho0); have hcv54 := own_string (P := Try.prog) Try.underlying33 Try.underlying5 Try.underlying9 (Kd.own_of_R HO550.out); have hcv55 := fun nq_ : Nat => own_string (P := Try.prog) Try.underlying33 Try.underlying5 Try.underlying9 (pw_own_drewN (Kd.own_of_R HO550.out) nq_); have hcv56 := Kd.C_string (P := Try.prog) (A := (some ad536)) (c := c0) Try.underlying33 Try.underlying5 Try.underlying9 (Kd.C_below HR0.out HB.out); have hcv57 := fun nq_ : Nat => Kd.C_string (P := Try.prog) (A := (some ad536)) (c := c0) Try.underlying33 Try.underlying5 Try.underlying9 (Kd.C_drewN (Kd.C_below HR0.out HB.out) nq_); obtain ⟨hcz58_0, hcz58_1, hfz58_0, hfz58_1⟩ := cf BK532.out))
               refine bodyPost_ret (results_ct rfl _ _ gb532 30 #[.int .i64 0, .slice none 0 0] (0, 0) _ rfl (by (with_reducible repeat (first | refine blk_drewN ?_ _ | refine blk_drew ?_ | refine blk_alloc ?_ _)); refine blk_put (cs := #[.int .i64 0, .slice none 0 0]) ?_ 1 _ rfl; (with_reducible repeat (first | refine blk_drewN ?_ _ | refine blk_drew ?_ | refine blk_alloc ?_ _)); refine blk_put (cs := #[.int .i64 0, .slice none 0 0]) ?_ 0 _ rfl; exact bu BK532.out) Try.underlying30 rfl (by kernel_rfl)) rfl ?_
               exact ⟨_, by first | rfl | (simp [errW_none, errW_some] <;> rfl) | (simp only [← hji14, ← hji16]; first | rfl | (simp [errW_none, errW_some] <;> rfl)) | (simp [*, errW_none, errW_some] <;> rfl), by first | exact Kd.R_nil _ _ _ _ _ | exact Kd.V_nil _ _ _ _ _, by repeat (with_reducible first | exact HB.out | apply bA | apply bN | apply bD | refine bS ?_ ao)⟩
             ·
              rw [if_neg c36] at H
              have c36b0 : (t551 == 0) = false := beq_eq_false_iff_ne.mpr c36
              have c36b1 : (t551 != 0) = true := bne_iff_ne.mpr c36
              simp only [Option.some.injEq, Prod.mk.injEq] at H
              obtain ⟨rfl, rfl, rfl⟩ := H
              obtain ⟨Ao59, co59, eo59⟩ := Kd.R_slice HO_5.out
              subst eo59
              have hnb60 := NB537_532.out; have hnc60 := NB532_537.out; obtain ⟨hcz61_0, hcz61_1, hfz61_0, hfz61_1⟩ := cf BK537.out
              obtain ⟨Ao62, co62, eo62⟩ := Kd.R_slice HO_538001.out
              subst eo62
              go_wp2_with (first | ((with_reducible refine gate_callee (f := 52) rfl ?_); refine goesL_ (some 132) rfl rfl Try.func52 (by kernel_rfl) rfl #[.agg #[.int .i64 (wrap64 (rd l0 0)), .slice Ao62 x538001_2.length co62]] rfl (by (try simp only [List.map_toArray, List.map_cons, List.map_nil]); first | done | rfl) ?_; (with_reducible refine (tallymanref15_Bytes.calls k2 (wrap64 (rd l0 0)) _ _ x538001_2 t548 t551 _ ?side1 ?side2 A35.out).mono ?_); (case side1 => repeat (first | exact (Kd.R_reads' HO_538001.out).2.2 | (with_reducible refine Kd.C_alloc ?_ _) | (with_reducible refine Kd.C_drewN ?_ _) | (with_reducible refine Kd.C_drew ?_))); (case side2 => exact (Kd.R_reads' HO_538001.out).2.1); rintro e w63 ⟨v549, rfl, ho0, hb⟩; refine ⟨_, rfl, ?_⟩; have HO550 := am (Kd.R_lower ho0 (below_size (by repeat (with_reducible first | exact HB.out | apply bA | apply bN | apply bD | refine bS ?_ ao)))); replace HO_5 := rb HO_5 hb; replace HO_538001 := rb HO_538001 hb; replace BK532 := bb BK532 hb; replace BK537 := bb BK537 hb; replace HB := am (below_step (by repeat (with_reducible first | exact HB.out | apply bA | apply bN | apply bD | refine bS ?_ ao)) hb); (try clear hb); (try clear ho0); obtain ⟨hcz64_0, hcz64_1, hfz64_0, hfz64_1⟩ := cf BK532.out))
              refine bodyPost_ret (results_ct rfl _ _ gb532 30 #[.int .i64 0, .slice none 0 0] (0, 0) _ rfl (by (with_reducible repeat (first | refine blk_drewN ?_ _ | refine blk_drew ?_ | refine blk_alloc ?_ _)); refine blk_put (cs := #[.int .i64 0, .slice none 0 0]) ?_ 1 _ rfl; (with_reducible repeat (first | refine blk_drewN ?_ _ | refine blk_drew ?_ | refine blk_alloc ?_ _)); refine blk_put (cs := #[.int .i64 0, .slice none 0 0]) ?_ 0 _ rfl; exact bu BK532.out) Try.underlying30 rfl (by kernel_rfl)) rfl ?_
              exact ⟨_, by first | rfl | (simp [errW_none, errW_some] <;> rfl) | (simp only [← hji14, ← hji16]; first | rfl | (simp [errW_none, errW_some] <;> rfl)) | (simp [*, errW_none, errW_some] <;> rfl), by first | exact Kd.R_nil _ _ _ _ _ | exact Kd.V_nil _ _ _ _ _, by repeat (with_reducible first | exact HB.out | apply bA | apply bN | apply bD | refine bS ?_ ao)⟩
         ·
          rw [if_neg c18] at H
          exact absurd H (by simp)
        ·
         rw [if_neg c17] at H
         have c17b0 : ((l0.length : Int) == (wrap64 (2 + (wrap64 (Int.tdiv (ji16) 4))))) = false := beq_eq_false_iff_ne.mpr c17
         have c17b1 : ((l0.length : Int) != (wrap64 (2 + (wrap64 (Int.tdiv (ji16) 4))))) = true := bne_iff_ne.mpr c17
         simp only [Option.some.injEq, Prod.mk.injEq] at H
         obtain ⟨rfl, rfl, rfl⟩ := H
         have p536 : 0 ≤ (0 : Int) := (by omega)
         have q536 : 0 < (l0.length : Int) := of_decide_eq_true (by first | (with_reducible assumption) | assumption)
         obtain ⟨ad536, e536, hx536_0⟩ := Kd.at_int HR0.out 0 p536 q536
         cases e536
         have qi536 : (0 < l0.length) = True := eq_true (by omega)
         (try rw [show ((0 : Int)).toNat = 0 from rfl] at hx536_0)
         (try rw [Addr.add_zero'] at hx536_0)
         replace hx536_0 := (HB.out.cell (World.block_lt_of_cell? w _ hx536_0)).trans hx536_0
         replace p536 := eq_true p536
         replace q536 := eq_true q536
         go_wp2_with (first | ((with_reducible refine gate_dst (N := 4) rfl ?_); refine box_event ?hg (N := 4) ?hd (cs := #[.int .i64 0, .slice none 0 0]) (t := 30) ?hr ?_; (case hd => rfl); (case hg => rfl); (case hr => go_simp; try rfl); intro gb537 hg w65 hbox hb; obtain ⟨HBn, GW537⟩ := tri hg hb (by repeat (with_reducible first | exact HB.out | apply bA | apply bN | apply bD | refine bS ?_ ao)); have GE537 := GW537; have BK537 := am (hbox); have NB532_537 := nl hg (bu BK532.out); have NB537_532 := nr hg (bu BK532.out); replace BK532 := bb BK532 hb; clear HB; have HB := HBn; clear HBn; clear hb hbox hg; have hnb66 := NB537_532.out; have hnc66 := NB532_537.out; obtain ⟨hcz67_0, hcz67_1, hfz67_0, hfz67_1⟩ := cf BK537.out; have p538 : 0 ≤ (1 : Int) := (by omega); have q538 : 1 < (l0.length : Int) := of_decide_eq_true (by first | (with_reducible assumption) | assumption); obtain ⟨ad538, e538, hx538_0⟩ := Kd.at_int HR0.out 1 p538 q538; obtain rfl : ad536 = ad538 := (by injection e538); (try simp only [show (1 : Int).toNat = 1 from rfl, Nat.reduceMul, Nat.reduceEqDiff, Go.Addr.add, ↓reduceIte] at hx538_0); have qi538 : (1 < l0.length) = True := eq_true (by omega); (try rw [show ((1 : Int)).toNat = 1 from rfl] at hx538_0); have hn538_0 : ad536.block ≠ gb537 := Nat.ne_of_lt (Nat.lt_of_lt_of_le (by have := World.block_lt_of_cell? _ _ hx538_0; first | rwa [add_block] at this | exact this) GW537.out); have hn538_1 : ad536.block ≠ gb537 := Nat.ne_of_lt (Nat.lt_of_lt_of_le (by have := World.block_lt_of_cell? _ _ hx538_0; first | rwa [add_block] at this | exact this) GW537.out); replace hx538_0 := (HB.out.cell (World.block_lt_of_cell? w _ hx538_0)).trans hx538_0; replace hx538_0 := (cell_far (p := ⟨gb537, 0, none⟩) (by first | (rw [add_block]; exact hn538_0) | (show (Addr.add _ _).block ≠ _; rw [add_block]; exact hn538_0) | exact hn538_0) (.int .i64 (wrap64 (rd l0 0)))).trans hx538_0; replace hx538_0 := (cell_far (p := ⟨gb537, 1, none⟩) (by first | (rw [add_block]; exact hn538_1) | (show (Addr.add _ _).block ≠ _; rw [add_block]; exact hn538_1) | exact hn538_1) (.slice none 0 0)).trans hx538_0; clear hn538_0; clear hn538_1; replace p538 := eq_true p538; replace q538 := eq_true q538; obtain ⟨hcz68_0, hcz68_1, hfz68_0, hfz68_1⟩ := cf BK532.out))
         refine bodyPost_ret (results_ct rfl _ _ gb532 30 #[.int .i64 0, .slice none 0 0] (0, 0) _ rfl (by (with_reducible repeat (first | refine blk_drewN ?_ _ | refine blk_drew ?_ | refine blk_alloc ?_ _)); refine blk_put (cs := #[.int .i64 0, .slice none 0 0]) ?_ 1 _ rfl; (with_reducible repeat (first | refine blk_drewN ?_ _ | refine blk_drew ?_ | refine blk_alloc ?_ _)); refine blk_put (cs := #[.int .i64 0, .slice none 0 0]) ?_ 0 _ rfl; (with_reducible repeat (first | refine blk_drewN ?_ _ | refine blk_drew ?_ | refine blk_alloc ?_ _)); refine blk_far ?_ NB532_537.out _; (with_reducible repeat (first | refine blk_drewN ?_ _ | refine blk_drew ?_ | refine blk_alloc ?_ _)); refine blk_far ?_ NB532_537.out _; exact bu BK532.out) Try.underlying30 rfl (by kernel_rfl)) rfl ?_
         exact ⟨_, by first | rfl | (simp [errW_none, errW_some] <;> rfl) | (simp only [← hji14, ← hji16]; first | rfl | (simp [errW_none, errW_some] <;> rfl)) | (simp [*, errW_none, errW_some] <;> rfl), by first | exact Kd.R_nil _ _ _ _ _ | exact Kd.V_nil _ _ _ _ _, by repeat (with_reducible first | exact HB.out | apply bA | apply bN | apply bD | refine bS ?_ ao)⟩
       ·
        rw [if_neg c15] at H
        exact absurd H (by simp)
      ·
       rw [if_neg c13] at H
       have c13b0 : ((rd l0 1) == 1) = false := beq_eq_false_iff_ne.mpr c13
       have c13b1 : ((rd l0 1) != 1) = true := bne_iff_ne.mpr c13
       by_cases c69 : 2 ≤ (l0.length : Int)
       ·
        rw [if_pos c69] at H
        have c69b0 := eq_true c69
        have c69b1 : decide (2 ≤ (l0.length : Int)) = true := decide_eq_true c69
        clear c69
        replace H := Option.bind_eq_some_iff.mp H
        obtain ⟨⟨t553, t554, t555⟩, A700, H⟩ := H
        try dsimp only at H
        have A70 := Aside0.mk A700
        clear A700
        obtain ⟨ji71, hji71⟩ : ∃ j_ : Int, (IntKind.u64.wrap (wrap64 (rd l0 0))) = j_ := ⟨_, rfl⟩
        first | rw [hji71] at H | simp only [hji71] at H
        (try rw [hji71] at A70)
        by_cases c72 : 0 ≤ (ji71)
        ·
         rw [if_pos c72] at H
         have c72b0 := eq_true c72
         have c72b1 : decide (0 ≤ (ji71)) = true := decide_eq_true c72
         clear c72
         obtain ⟨ji73, hji73⟩ : ∃ j_ : Int, (shl .u64 1 (ji71)) = j_ := ⟨_, rfl⟩
         first | rw [hji73] at H | simp only [hji73] at H
         (try rw [hji73] at A70)
         have hji73_ : (IntKind.u64.wrap (1 * 2 ^ min (ji71).toNat 64)) = ji73 := hji73
         have hji73z : (ji71) ≤ 64 → (IntKind.u64.wrap (1 * 2 ^ (ji71).toNat)) = ji73 := shl_small hji73
         have hji73u : (IntKind.u64.wrap (2 ^ min (ji71).toNat 64)) = ji73 := by have h_ := hji73_; rw [Int.one_mul] at h_; exact h_
         have hji73v : (ji71) ≤ 64 → (IntKind.u64.wrap (2 ^ (ji71).toNat)) = ji73 := fun hle_ => by have h_ := hji73z hle_; rw [Int.one_mul] at h_; exact h_
         replace H := Option.bind_eq_some_iff.mp H
         obtain ⟨⟨t557, t558, t559⟩, A740, H⟩ := H
         try dsimp only at H
         have A74 := Aside0.mk A740
         clear A740
         have H' := Aside0.mk H
         clear H
         have p536 : 0 ≤ (0 : Int) := (by omega)
         have q536 : 0 < (l0.length : Int) := of_decide_eq_true (by first | (with_reducible assumption) | assumption)
         obtain ⟨ad536, e536, hx536_0⟩ := Kd.at_int HR0.out 0 p536 q536
         cases e536
         have qi536 : (0 < l0.length) = True := eq_true (by omega)
         (try rw [show ((0 : Int)).toNat = 0 from rfl] at hx536_0)
         (try rw [Addr.add_zero'] at hx536_0)
         replace hx536_0 := (HB.out.cell (World.block_lt_of_cell? w _ hx536_0)).trans hx536_0
         replace p536 := eq_true p536
         replace q536 := eq_true q536
         go_wp2_with (first | ((with_reducible refine gate_dst (N := 4) rfl ?_); refine box_event ?hg (N := 4) ?hd (cs := #[.int .i64 0, .slice none 0 0]) (t := 30) ?hr ?_; (case hd => rfl); (case hg => rfl); (case hr => go_simp; try rfl); intro gb537 hg w75 hbox hb; obtain ⟨HBn, GW537⟩ := tri hg hb (by repeat (with_reducible first | exact HB.out | apply bA | apply bN | apply bD | refine bS ?_ ao)); have GE537 := GW537; have BK537 := am (hbox); have NB532_537 := nl hg (bu BK532.out); have NB537_532 := nr hg (bu BK532.out); replace BK532 := bb BK532 hb; clear HB; have HB := HBn; clear HBn; clear hb hbox hg; have hnb76 := NB537_532.out; have hnc76 := NB532_537.out; obtain ⟨hcz77_0, hcz77_1, hfz77_0, hfz77_1⟩ := cf BK537.out; have p538 : 0 ≤ (1 : Int) := (by omega); have q538 : 1 < (l0.length : Int) := of_decide_eq_true (by first | (with_reducible assumption) | assumption); obtain ⟨ad538, e538, hx538_0⟩ := Kd.at_int HR0.out 1 p538 q538; obtain rfl : ad536 = ad538 := (by injection e538); (try simp only [show (1 : Int).toNat = 1 from rfl, Nat.reduceMul, Nat.reduceEqDiff, Go.Addr.add, ↓reduceIte] at hx538_0); have qi538 : (1 < l0.length) = True := eq_true (by omega); (try rw [show ((1 : Int)).toNat = 1 from rfl] at hx538_0); have hn538_0 : ad536.block ≠ gb537 := Nat.ne_of_lt (Nat.lt_of_lt_of_le (by have := World.block_lt_of_cell? _ _ hx538_0; first | rwa [add_block] at this | exact this) GW537.out); have hn538_1 : ad536.block ≠ gb537 := Nat.ne_of_lt (Nat.lt_of_lt_of_le (by have := World.block_lt_of_cell? _ _ hx538_0; first | rwa [add_block] at this | exact this) GW537.out); replace hx538_0 := (HB.out.cell (World.block_lt_of_cell? w _ hx538_0)).trans hx538_0; replace hx538_0 := (cell_far (p := ⟨gb537, 0, none⟩) (by first | (rw [add_block]; exact hn538_0) | (show (Addr.add _ _).block ≠ _; rw [add_block]; exact hn538_0) | exact hn538_0) (.int .i64 (wrap64 (rd l0 0)))).trans hx538_0; replace hx538_0 := (cell_far (p := ⟨gb537, 1, none⟩) (by first | (rw [add_block]; exact hn538_1) | (show (Addr.add _ _).block ≠ _; rw [add_block]; exact hn538_1) | exact hn538_1) (.slice none 0 0)).trans hx538_0; clear hn538_0; clear hn538_1; replace p538 := eq_true p538; replace q538 := eq_true q538; obtain ⟨i078, hi078, _, hsz78, _⟩ := info_parts info5; obtain ⟨A78, hcut78, hA78, hC78⟩ := print_drop_of (P := Try.prog) (Value.int .u8) 0 33 5 .i64 Try.underlying33 hi078 hsz78 (some ad536) c0 l0 2 (by omega) (of_decide_eq_true (by first | (with_reducible assumption) | assumption)) HC0.out; have HR552 := am (Kd.C_of_reads (h1 := fun _ => rfl) (hA78 _ (Kd.reads_of_C HR0.out))); have HC552 := Aside0.mk hC78; clear hA78 hC78 hi078 hsz78) | ((with_reducible refine gate_callee (f := 83) rfl ?_); refine goesL_ (some 82) rfl rfl Try.func83 (by kernel_rfl) rfl #[.slice A78 (l0.drop 2).length (c0 - 2)] rfl (by (try simp only [List.map_toArray, List.map_cons, List.map_nil]); first | done | (rw [show (l0.drop 2).length = (l0.length - 2) from List.length_drop] <;> rfl) | rfl | (simp only [List.length_drop, List.length_take]; rfl)) ?_; (with_reducible refine (tallymanref01_New.calls _ _ (l0.drop 2) t553 t554 t555 w _ ?side1 ?side2 ?side3 A70.out).mono ?_); (case side1 => repeat (with_reducible first | exact HB.out | apply bA | apply bN | apply bD | refine bS ?_ ao)); (case side2 => exact HR552.out); (case side3 => exact HC552.out); rintro e w79 ⟨g556, r556, rfl, hi, hb, hb2⟩; refine ⟨_, rfl, ?_⟩; have HI556 := am (hi); have NB556_532 := am (IsS108.ne_blk hi (blk_below (g := gb532) (o := .cells #[.int .i64 0, .slice none 0 0] 30 (0, 0)) (bf NB532_537.out BK532.out) hb2) (by decide)); have NB532_556 := am (Ne.symm (IsS108.ne_blk1 hi (blk_below (g := gb532) (o := .cells #[.int .i64 0, .slice none 0 0] 30 (0, 0)) (bf NB532_537.out BK532.out) hb2) (by decide))); have NB556_537 := am (IsS108.ne_blk hi (blk_below (g := gb537) (o := .cells #[.int .i64 (wrap64 (rd l0 0)), .slice none 0 0] 30 (0, 0)) (by (with_reducible repeat (first | refine blk_drewN ?_ _ | refine blk_drew ?_ | refine blk_alloc ?_ _)); refine blk_put (cs := #[.int .i64 (wrap64 (rd l0 0)), .slice none 0 0]) ?_ 1 _ rfl; (with_reducible repeat (first | refine blk_drewN ?_ _ | refine blk_drew ?_ | refine blk_alloc ?_ _)); refine blk_put (cs := #[.int .i64 0, .slice none 0 0]) ?_ 0 _ rfl; exact bu BK537.out) hb2) (by decide)); have NB537_556 := am (Ne.symm (IsS108.ne_blk1 hi (blk_below (g := gb537) (o := .cells #[.int .i64 (wrap64 (rd l0 0)), .slice none 0 0] 30 (0, 0)) (by (with_reducible repeat (first | refine blk_drewN ?_ _ | refine blk_drew ?_ | refine blk_alloc ?_ _)); refine blk_put (cs := #[.int .i64 (wrap64 (rd l0 0)), .slice none 0 0]) ?_ 1 _ rfl; (with_reducible repeat (first | refine blk_drewN ?_ _ | refine blk_drew ?_ | refine blk_alloc ?_ _)); refine blk_put (cs := #[.int .i64 0, .slice none 0 0]) ?_ 0 _ rfl; exact bu BK537.out) hb2) (by decide))); replace BK532 := am (blk_below (g := gb532) (o := .cells #[.int .i64 0, .slice none 0 0] 30 (0, 0)) (bf NB532_537.out BK532.out) hb2); replace BK537 := am (blk_below (g := gb537) (o := .cells #[.int .i64 (wrap64 (rd l0 0)), .slice none 0 0] 30 (0, 0)) (by (with_reducible repeat (first | refine blk_drewN ?_ _ | refine blk_drew ?_ | refine blk_alloc ?_ _)); refine blk_put (cs := #[.int .i64 (wrap64 (rd l0 0)), .slice none 0 0]) ?_ 1 _ rfl; (with_reducible repeat (first | refine blk_drewN ?_ _ | refine blk_drew ?_ | refine blk_alloc ?_ _)); refine blk_put (cs := #[.int .i64 0, .slice none 0 0]) ?_ 0 _ rfl; exact bu BK537.out) hb2); replace HB := am (hb); (try clear hb); have hnb80 := NB537_556.out; have hnc80 := NB556_537.out.1; obtain ⟨hcz81_0, hcz81_1, hfz81_0, hfz81_1⟩ := cf BK537.out) | ((with_reducible refine gate_callee (f := 84) rfl ?_); refine goesL_ (some 88) rfl rfl Try.func84 (by kernel_rfl) rfl #[.pointer (some ⟨g556, 0, none⟩), .int .u64 ji73] rfl (by (try simp only [List.map_toArray, List.map_cons, List.map_nil]); first | done | (simp only [hji73]; rfl) | rfl | (simp only [List.length_drop, List.length_take]; rfl)) ?_; (with_reducible refine (tallymanref01_Reader_Upto.calls g556 r556 t553 t554 t555 ji73 t557 t558 t559 w _ ?side1 ?side2 A74.out).mono ?_); (case side1 => repeat (with_reducible first | exact HI556.out | apply yA108 | apply yN108 | apply yD108 | refine yF108 ?_ NB556_532.out _ | refine yF108 ?_ NB556_537.out _)); (case side2 => repeat (with_reducible first | exact HB.out | apply bA | apply bN | apply bD | refine bS ?_ (IsS108.ge HI556.out) | refine bS ?_ ao)); rintro e w82 ⟨rfl, hi, hb, hk⟩; refine ⟨_, rfl, ?_⟩; replace BK532 := am (KeepBut.blk hk (g' := gb532) (o := .cells #[.int .i64 0, .slice none 0 0] 30 (0, 0)) (bu BK532.out) NB532_556.out (by simp)); replace BK537 := am (KeepBut.blk hk (g' := gb537) (o := .cells #[.int .i64 (wrap64 (rd l0 0)), .slice none 0 0] 30 (0, 0)) (bu BK537.out) NB537_556.out (by simp)); replace HB := am (hb); replace HI556 := am (hi); (try clear hb)))
         (try simp only [Act.put, List.setIfInBounds_toArray, List.set_cons_zero, List.set_cons_succ])
         go_loopg [9, 10] kj1 (fun kq v9 v10 w' => ∃ (x9_2 : Int) (x10_2 : Int) (x538001_2 : List (S32)) (x557001_2 : Int) (x557002_2 : Int) (u538001 : Value), v9 = .int .i64 x9_2 ∧ v10 = .int .i64 x10_2 ∧ Aside0 (tallymanref15_Read.l1 kq l0 (wrap64 (t557)) x9_2 x10_2 (wrap64 (rd l0 0)) x538001_2 t553 x557001_2 x557002_2 = some (r1, r2, r3)) ∧ Aside0 (kq ≤ kj1) ∧ Aside0 (Kd.R k32 32 w' w.heap.size (fun _ => True) u538001 x538001_2) ∧ Aside0 (w'.heap[gb532]? = some (.cells #[.int .i64 0, (.slice none 0 0)] 30 (0, 0))) ∧ Aside0 (w'.heap[gb537]? = some (.cells #[.int .i64 (wrap64 (rd l0 0)), u538001] 30 (0, 0))) ∧ Aside0 (IsS108 w w' g556 r556 t553 x557001_2 x557002_2) ∧ Aside0 (Below w.heap.size w w'))
         case atStart => exact ⟨((-1)), (0), (([] : List (S32))), (t558), (t559), (.slice none 0 0), (by first | rfl | (simp; done) | (simp [*]; done)), (by first | rfl | (simp; done) | (simp [*]; done)), H', ⟨Nat.le_refl _⟩, ⟨by first | exact Kd.R_nil _ _ _ _ _ | exact Kd.V_nil _ _ _ _ _⟩, ⟨bu BK532.out⟩, ⟨bu BK537.out⟩, ⟨by repeat (with_reducible first | exact HI556.out | apply yA108 | apply yN108 | apply yD108 | refine yF108 ?_ NB556_532.out _ | refine yF108 ?_ NB556_537.out _)⟩, ⟨by repeat (with_reducible first | exact HB.out | apply bA | apply bN | apply bD | refine bS ?_ (IsS108.ge HI556.out) | refine bS ?_ ao)⟩⟩
         case round =>
          clear H'
          obtain ⟨x9_2, x10_2, x538001_2, x557001_2, x557002_2, u538001, rfl, rfl, HA, HK2, HO_538001, BK532, BK537, HI556, HB⟩ := hrel
          cases gk with
          | zero => exact absurd HA.out (by simp [tallymanref15_Read.l1])
          | succ k2 =>
           have H := HA.out
           clear HA
           simp only [tallymanref15_Read.l1] at H
           have HC83 := Aside0.mk H
           clear H
           go_upto_region 17 with (fail)
           go_cut [97] (fun v97 wc => ∃ (kq : Nat) (x97_82 : Bool) (x557001_82 : Int) (x557002_82 : Int), v97 = .bool x97_82 ∧ Aside0 (tallymanref15_Read.j3 kq l0 (wrap64 (t557)) x9_2 x10_2 x97_82 (wrap64 (rd l0 0)) x538001_2 t553 x557001_82 x557002_82 = some (r1, r2, r3)) ∧ Aside0 (kq ≤ k2) ∧ Aside0 (Kd.R k32 32 wc w.heap.size (fun _ => True) u538001 x538001_2) ∧ Aside0 (wc.heap[gb532]? = some (.cells #[.int .i64 0, (.slice none 0 0)] 30 (0, 0))) ∧ Aside0 (wc.heap[gb537]? = some (.cells #[.int .i64 (wrap64 (rd l0 0)), u538001] 30 (0, 0))) ∧ Aside0 (IsS108 w wc g556 r556 t553 x557001_82 x557002_82) ∧ Aside0 (Below w.heap.size w wc))
           case first =>
            have H := HC83.out
            clear HC83
            by_cases c84 : x10_2 < (wrap64 (t557))
            ·
             rw [if_pos c84] at H
             have c84b0 : decide (x10_2 < (wrap64 (t557))) = true := decide_eq_true c84
             clear c84
             (first | rw [c84b0] | (simp only [i64_w, i32_w]; rw [c84b0]) | skip)
             replace H := Option.bind_eq_some_iff.mp H
             obtain ⟨⟨t560, t561, t562⟩, A850, H⟩ := H
             try dsimp only at H
             have A85 := Aside0.mk A850
             clear A850
             have H' := Aside0.mk H
             clear H
             go_wp2_with (first | (go_at_call 85; (with_reducible refine (tallymanref01_Reader_Err.calls g556 r556 t553 x557001_2 x557002_2 t560 t561 t562 w _ ?side1 ?side2 A85.out).mono ?_); (case side1 => repeat (with_reducible first | exact HI556.out | apply yA108 | apply yN108 | apply yD108 | refine yF108 ?_ NB556_532.out _ | refine yF108 ?_ NB556_537.out _)); (case side2 => repeat (with_reducible first | exact HB.out | apply bA | apply bN | apply bD | refine bS ?_ (IsS108.ge HI556.out) | refine bS ?_ ao)); rintro e w86 ⟨rfl, hi, hb, hk⟩; replace HO_538001 := am (Kd.R_mono (Kd.R_keep (IsS108.apart (show IsS108 w _ g556 r556 t553 x557001_2 x557002_2 from by repeat (with_reducible first | exact HI556.out | apply yA108 | apply yN108 | apply yD108 | refine yF108 ?_ NB556_532.out _ | refine yF108 ?_ NB556_537.out _)) (ru (HO_538001.out)) (by decide)) hk (fun _ h => h.2)) (fun _ h => h.1)); replace BK532 := am (KeepBut.blk hk (g' := gb532) (o := .cells #[.int .i64 0, .slice none 0 0] 30 (0, 0)) (bu BK532.out) NB532_556.out (by simp)); replace BK537 := am (KeepBut.blk hk (g' := gb537) (o := .cells #[.int .i64 (wrap64 (rd l0 0)), u538001] 30 (0, 0)) (bu BK537.out) NB537_556.out (by simp)); replace HB := am (hb); replace HI556 := am (hi); (try clear hb)))
             go_meet
             case rel => exact ⟨_, ((t560 == 0)), (t561), (t562), (by first | rfl | (simp; done) | (simp [*]; done)), H', ⟨by have := HJ1.out; have := HK2.out; first | omega | exact Nat.le_refl _⟩, ⟨ru HO_538001.out⟩, ⟨bu BK532.out⟩, ⟨bu BK537.out⟩, ⟨by repeat (with_reducible first | exact HI556.out | apply yA108 | apply yN108 | apply yD108 | refine yF108 ?_ NB556_532.out _ | refine yF108 ?_ NB556_537.out _)⟩, ⟨by repeat (with_reducible first | exact HB.out | apply bA | apply bN | apply bD | refine bS ?_ (IsS108.ge HI556.out) | refine bS ?_ ao)⟩⟩
            ·
             rw [if_neg c84] at H
             have c84b0 : decide (x10_2 < (wrap64 (t557))) = false := decide_eq_false c84
             clear c84
             (first | rw [c84b0] | (simp only [i64_w, i32_w]; rw [c84b0]) | skip)
             have H' := Aside0.mk H
             clear H
             go_wp2
             go_meet
             case rel => exact ⟨_, (false), (x557001_2), (x557002_2), (by first | rfl | (simp; done) | (simp [*]; done)), H', ⟨by have := HJ1.out; have := HK2.out; first | omega | exact Nat.le_refl _⟩, ⟨ru HO_538001.out⟩, ⟨bu BK532.out⟩, ⟨bu BK537.out⟩, ⟨by repeat (with_reducible first | exact HI556.out | apply yA108 | apply yN108 | apply yD108 | refine yF108 ?_ NB556_532.out _ | refine yF108 ?_ NB556_537.out _)⟩, ⟨by repeat (with_reducible first | exact HB.out | apply bA | apply bN | apply bD | refine bS ?_ (IsS108.ge HI556.out) | refine bS ?_ ao)⟩⟩
           case rest =>
            clear HC83
            obtain ⟨kq, x97_82, x557001_82, x557002_82, rfl, HA, HJ82, HO_538001, BK532, BK537, HI556, HB⟩ := hcut
            cases kq with
            | zero => exact absurd HA.out (by simp [tallymanref15_Read.j3])
            | succ kj82 =>
             have H := HA.out
             clear HA
             simp only [tallymanref15_Read.j3] at H
             by_cases c87 : x97_82 = true
             ·
              subst c87
              rw [if_pos rfl] at H
              obtain ⟨ji88, hji88⟩ : ∃ j_ : Int, (IntKind.u64.wrap ((wrap64 (rd l0 0)))) = j_ := ⟨_, rfl⟩
              obtain rfl : ji88 = ji71 := hji88.symm.trans hji71
              first | rw [hji88] at H | simp only [hji88] at H
              by_cases c89 : 0 ≤ (ji88)
              ·
               rw [if_pos c89] at H
               have c89b0 := eq_true c89
               have c89b1 : decide (0 ≤ (ji88)) = true := decide_eq_true c89
               clear c89
               obtain ⟨ji90, hji90⟩ : ∃ j_ : Int, (shl .u64 1 (ji88)) = j_ := ⟨_, rfl⟩
               obtain rfl : ji90 = ji73 := hji90.symm.trans hji73
               first | rw [hji90] at H | simp only [hji90] at H
               have hji90_ : (IntKind.u64.wrap (1 * 2 ^ min (ji88).toNat 64)) = ji90 := hji90
               have hji90z : (ji88) ≤ 64 → (IntKind.u64.wrap (1 * 2 ^ (ji88).toNat)) = ji90 := shl_small hji90
               have hji90u : (IntKind.u64.wrap (2 ^ min (ji88).toNat 64)) = ji90 := by have h_ := hji90_; rw [Int.one_mul] at h_; exact h_
               have hji90v : (ji88) ≤ 64 → (IntKind.u64.wrap (2 ^ (ji88).toNat)) = ji90 := fun hle_ => by have h_ := hji90z hle_; rw [Int.one_mul] at h_; exact h_
               replace H := Option.bind_eq_some_iff.mp H
               obtain ⟨⟨t563, t564, t565⟩, A910, H⟩ := H
               try dsimp only at H
               have A91 := Aside0.mk A910
               clear A910
               replace H := Option.bind_eq_some_iff.mp H
               obtain ⟨⟨t566, t569, t570⟩, A920, H⟩ := H
               try dsimp only at H
               have A92 := Aside0.mk A920
               clear A920
               by_cases c93 : (t566.length : Int) = 1
               ·
                rw [if_pos c93] at H
                have c93b0 : ((t566.length : Int) == 1) = true := beq_iff_eq.mpr c93
                have c93b1 : ((t566.length : Int) != 1) = false := bne_eq_false_iff_eq.mpr c93
                clear c93
                by_cases c94 : 0 < (t566.length : Int)
                ·
                 rw [if_pos c94] at H
                 have c94b0 : decide (0 < (t566.length : Int)) = true := decide_eq_true c94
                 have c94b1 : decide (0 < t566.length) = true := decide_eq_true (by omega)
                 clear c94
                 by_cases c95 : x538001_2.length < 8796093022208
                 ·
                  rw [if_pos c95] at H
                  have LMc95 := Aside0.mk c95
                  clear c95
                  obtain ⟨y572, hy572⟩ : ∃ y_ : List (S32), y_ = (x538001_2 ++ [(⟨wrap64 ((wrap64 (x9_2 + 1)) + (wrap64 (t563))), wrap64 (rd t566 0)⟩ : S32)]) := ⟨_, rfl⟩
                  replace H : (tallymanref15_Read.l1 kj82 l0 (wrap64 (t557)) (wrap64 ((wrap64 (x9_2 + 1)) + (wrap64 (t563)))) (wrap64 (x10_2 + 1)) (wrap64 (rd l0 0)) y572 t553 t569 t570) = some (r1, r2, r3) := by first | (rw [hy572]; with_reducible exact H) | (have H2_ := (Option.bind_some _ _).symm.trans H; rw [hy572]; with_reducible exact H2_) | (have H2_ := (Option.bind_some _ _).symm.trans H; with_reducible exact H2_) | with_reducible exact H | (rw [hy572]; exact H) | exact H
                  have Ny572 := Aside0.mk hy572
                  clear hy572
                  have H' := Aside0.mk H
                  clear H
                  have hnb96 := NB537_532.out; have hnc96 := NB532_537.out; have hnb97 := NB537_556.out; have hnc97 := NB556_537.out.1; obtain ⟨hcz98_0, hcz98_1, hfz98_0, hfz98_1⟩ := cf BK537.out
                  try go_wp2_with (first | ((with_reducible refine gate_callee (f := 84) rfl ?_); refine goesL_ (some 107) rfl rfl Try.func84 (by kernel_rfl) rfl #[.pointer (some ⟨g556, 0, none⟩), .int .u64 ji90] rfl (by (try simp only [List.map_toArray, List.map_cons, List.map_nil]); first | done | (simp only [hji90]; rfl) | rfl | (simp only [List.length_drop, List.length_take]; rfl)) ?_; (with_reducible refine (tallymanref01_Reader_Upto.calls g556 r556 t553 x557001_82 x557002_82 ji90 t563 t564 t565 w _ ?side1 ?side2 A91.out).mono ?_); (case side1 => repeat (with_reducible first | exact HI556.out | apply yA108 | apply yN108 | apply yD108 | refine yF108 ?_ NB556_532.out _ | refine yF108 ?_ NB556_537.out _)); (case side2 => repeat (with_reducible first | exact HB.out | apply bA | apply bN | apply bD | refine bS ?_ (IsS108.ge HI556.out) | refine bS ?_ ao)); rintro e w99 ⟨rfl, hi, hb, hk⟩; refine ⟨_, rfl, ?_⟩; replace HO_538001 := am (Kd.R_mono (Kd.R_keep (IsS108.apart (show IsS108 w _ g556 r556 t553 x557001_82 x557002_82 from by repeat (with_reducible first | exact HI556.out | apply yA108 | apply yN108 | apply yD108 | refine yF108 ?_ NB556_532.out _ | refine yF108 ?_ NB556_537.out _)) (ru (HO_538001.out)) (by decide)) hk (fun _ h => h.2)) (fun _ h => h.1)); replace BK532 := am (KeepBut.blk hk (g' := gb532) (o := .cells #[.int .i64 0, .slice none 0 0] 30 (0, 0)) (bu BK532.out) NB532_556.out (by simp)); replace BK537 := am (KeepBut.blk hk (g' := gb537) (o := .cells #[.int .i64 (wrap64 (rd l0 0)), u538001] 30 (0, 0)) (bu BK537.out) NB537_556.out (by simp)); replace HB := am (hb); replace HI556 := am (hi); (try clear hb)) | ((with_reducible refine gate_callee (f := 86) rfl ?_); refine goesL_ (some 111) rfl rfl Try.func86 (by kernel_rfl) rfl #[.pointer (some ⟨g556, 0, none⟩), .int .i64 1] rfl (by (try simp only [List.map_toArray, List.map_cons, List.map_nil]); first | done | rfl) ?_; (with_reducible refine (tallymanref01_Reader_Fixed.calls g556 r556 t553 t564 t565 1 t566 t569 t570 w _ ?side1 ?side2 A92.out).mono ?_); (case side1 => repeat (with_reducible first | exact HI556.out | apply yA108 | apply yN108 | apply yD108 | refine yF108 ?_ NB556_532.out _ | refine yF108 ?_ NB556_537.out _)); (case side2 => repeat (with_reducible first | exact HB.out | apply bA | apply bN | apply bD | refine bS ?_ (IsS108.ge HI556.out) | refine bS ?_ ao)); rintro e w100 ⟨v567, rfl, ho0, hi, hb, hk⟩; refine ⟨_, rfl, ?_⟩; have HO568 := am (Kd.R_lower ho0 (below_size (by repeat (with_reducible first | exact HB.out | apply bA | apply bN | apply bD | refine bS ?_ (IsS108.ge HI556.out) | refine bS ?_ ao)))); replace HO_538001 := am (Kd.R_mono (Kd.R_keep (IsS108.apart (show IsS108 w _ g556 r556 t553 t564 t565 from by repeat (with_reducible first | exact HI556.out | apply yA108 | apply yN108 | apply yD108 | refine yF108 ?_ NB556_532.out _ | refine yF108 ?_ NB556_537.out _)) (ru (HO_538001.out)) (by decide)) hk (fun _ h => h.2)) (fun _ h => h.1)); replace BK532 := am (KeepBut.blk hk (g' := gb532) (o := .cells #[.int .i64 0, .slice none 0 0] 30 (0, 0)) (bu BK532.out) NB532_556.out (by simp)); replace BK537 := am (KeepBut.blk hk (g' := gb537) (o := .cells #[.int .i64 (wrap64 (rd l0 0)), u538001] 30 (0, 0)) (bu BK537.out) NB537_556.out (by simp)); replace HB := am (hb); replace HI556 := am (hi); (try clear hb); (try clear ho0); obtain ⟨Ao101, co101, eo101⟩ := Kd.R_slice HO568.out; subst eo101))
                  replace HO_538001 := am (Kd.R_drew HO_538001.out); replace HO568 := am (Kd.R_drew HO568.out); replace BK532 := am (blk_drew BK532.out); replace BK537 := am (blk_drew BK537.out); replace HI556 := am (yD108 HI556.out); replace HB := am (below_drew1 HB.out)
                  have p571 : 0 ≤ (0 : Int) := (by omega)
                  have q571 : 0 < (t566.length : Int) := of_decide_eq_true (by first | (with_reducible assumption) | assumption)
                  obtain ⟨ad571, e571, hx571_0⟩ := Kd.at_int (Kd.R_reads' HO568.out).2.2 0 p571 q571
                  cases e571
                  have qi571 : (0 < t566.length) = True := eq_true (by omega)
                  (try rw [show ((0 : Int)).toNat = 0 from rfl] at hx571_0)
                  (try rw [Addr.add_zero'] at hx571_0)
                  replace p571 := eq_true p571
                  replace q571 := eq_true q571
                  refine start_ (n := 12) (S := fun w' => w'.cell? ⟨gb537, 0, none⟩ = some (.int .i64 (wrap64 (rd l0 0))) ∧ w'.cell? ⟨gb537, 1, none⟩ = some (u538001) ∧ w'.cell? ad571 = some (.int .u8 (rd t566 0))) (ds := [9, 11]) (tb 0 12) (by kernel_rfl) rfl rfl ⟨(blk_cell BK537.out 0).trans rfl, (blk_cell BK537.out 1).trans rfl, hx571_0⟩ (fun hHeld => ?_); refine with_tabW tallymanref15_Read.tab22 tallymanref15_Read.bits22 (fun HT_ HW_ => ?_)
                  generalize w100.drew = w102 at HO_538001 HO568 BK532 BK537 HI556 HB hx571_0 hHeld ⊢
                  refine pu 0 (some 115) (v := ?_) (a' := ?_) (tb 1 12) rfl rfl (any_of HT_.out (by kernel_rfl)) (fun _ _ _ h => h) ⟨by rfl, ?_⟩ ?_ ?_; rotate_left; · (intro w'; go_simp; with_reducible rfl)
                  rotate_left; · (simp only [Act.put, sa_, sb_, sc_, i64_w, i32_w]; rfl)
                  refine pu 2 (some 117) (v := ?_) (a' := ?_) #[true, false, true, false, false, false, false, false, false, false, false, false] rfl rfl (any_of HT_.out (by kernel_rfl)) (fun _ _ _ h => h) ⟨by rfl, ?_⟩ ?_ ?_; rotate_left; · (intro w'; go_simp; with_reducible rfl)
                  rotate_left; · (simp only [Act.put, sa_, sb_, sc_, i64_w, i32_w]; rfl)
                  refine pu 3 (some 118) (v := ?_) (a' := ?_) #[true, false, true, true, false, false, false, false, false, false, false, false] rfl rfl (any_of HT_.out (by kernel_rfl)) (fun _ _ _ h => h) ⟨by rfl, ?_⟩ ?_ ?_; rotate_left; · (intro w'; go_simp; with_reducible rfl)
                  rotate_left; · (simp only [Act.put, sa_, sb_, sc_, i64_w, i32_w]; rfl)
                  refine pu 4 (some 119) (v := ?_) (a' := ?_) #[true, false, true, true, true, false, false, false, false, false, false, false] rfl rfl (any_of HT_.out (by kernel_rfl)) (fun _ _ _ h => h) ⟨by rfl, ?_⟩ ?_ ?_; rotate_left; · (intro w'; go_simp; with_reducible rfl)
                  rotate_left; · (simp only [Act.put, sa_, sb_, sc_, i64_w, i32_w]; rfl)
                  refine tk 1 (some 116) (v := ?_) (a' := ?_) (tb 5 12) rfl rfl (take_ofW HT_.out HW_.out (by kernel_rfl)) (fun _ _ _ h => h) ⟨by rfl, ?_⟩ hHeld ?_ ?_; rotate_left; · (rintro w' ⟨s0, s1, s2⟩; go_simp; with_reducible rfl)
                  rotate_left; · (simp only [Act.put, sa_, sb_, sc_, i64_w, i32_w]; rfl)
                  refine tk 5 (some 120) (v := ?_) (a' := ?_) (tb 6 12) rfl rfl (take_ofW HT_.out HW_.out (by kernel_rfl)) (fun _ _ _ h => h) ⟨by rfl, ?_⟩ hHeld ?_ ?_; rotate_left; · (rintro w' ⟨s0, s1, s2⟩; go_simp; with_reducible rfl)
                  rotate_left; · (simp only [Act.put, sa_, sb_, sc_, i64_w, i32_w]; rfl)
                  refine pu 6 (some 121) (v := ?_) (a' := ?_) (tb 7 12) rfl rfl (any_of HT_.out (by kernel_rfl)) (fun _ _ _ h => h) ⟨by rfl, ?_⟩ ?_ ?_; rotate_left; · (intro w'; go_simp; with_reducible rfl)
                  rotate_left; · (simp only [Act.put, sa_, sb_, sc_, i64_w, i32_w]; rfl)
                  refine pu 7 (some 122) (v := ?_) (a' := ?_) (tb 8 12) rfl rfl (any_of HT_.out (by kernel_rfl)) (fun _ _ _ h => h) ⟨by rfl, ?_⟩ ?_ ?_; rotate_left; · (intro w'; go_simp; with_reducible rfl)
                  rotate_left; · (simp only [Act.put, sa_, sb_, sc_, i64_w, i32_w]; rfl)
                  refine one_ (i := 8) (N := some 123) (tb 9 12) rfl rfl (one_of HT_.out (by kernel_rfl)) (by decide) (fun K hK => ?_)
                  refine value_ (w1 := ?_) (v := ?_) (by rfl) rfl ?_ ?_
                  rotate_left 2
                  ·
                   go_simp
                   constructor
                   ·
                    rfl
                   ·
                    rfl
                  refine hK.out _ _ ⟨(blk_cell (blk_alloc BK537.out _) 0).trans rfl, (blk_cell (blk_alloc BK537.out _) 1).trans rfl, (World.cell?_alloc_lt _ _ _ (World.block_lt_of_cell? _ _ (hHeld.2.2))).trans (hHeld.2.2)⟩ (fun hHeld => ?_)
                  clear hK K
                  refine norm_ (a' := ?_) ?_ ?_
                  rotate_left
                  ·
                   show Act.put _ (some 123) _ = _
                   simp only [Act.put, List.setIfInBounds_toArray, List.set_cons_zero, List.set_cons_succ, i64_w, i32_w]
                   rfl
                  refine last_ (i := 9) (N := some 124) (tb 10 12) rfl rfl (one_of HT_.out (by kernel_rfl)) (by decide) (fun K hK => ?_)
                  refine Kd.R_append_step k32 (w0 := w) w.heap.size (by rfl) (.tmp 116) (.tmp 123) 28 32 (.agg #[(.int .i64 0), (.int .i64 0)]) 16 rfl Try.underlying28 info32 rfl (by decide) (by omega) u538001 x538001_2 (⟨wrap64 ((wrap64 (x9_2 + 1)) + (wrap64 (t563))), wrap64 (rd t566 0)⟩ : S32) [.int .i64 (wrap64 ((wrap64 (x9_2 + 1)) + (wrap64 (t563)))), .int .i64 (wrap64 (rd t566 0))] (fun _ => True) (fun _ => False) rfl rfl ?aP (fun _ hk => hk.elim) ?aF ?aO ?aB ?aS ?aL ?_
                  (case aP => exact k32_mkM _ _ _ (⟨wrap64 ((wrap64 (x9_2 + 1)) + (wrap64 (t563))), wrap64 (rd t566 0)⟩ : S32))
                  (case aB => exact (by repeat (with_reducible first | exact HB.out | apply bA | apply bN | apply bD | refine bS ?_ (IsS108.ge HI556.out) | refine bS ?_ ao)))
                  (case aF => exact (fun _ _ => trivial))
                  (case aO => exact (ru (HO_538001.out)))
                  (case aS => exact (below_size (by repeat (with_reducible first | exact HB.out | apply bA | apply bN | apply bD | refine bS ?_ (IsS108.ge HI556.out) | refine bS ?_ ao))))
                  (case aL => have := LMc95.out; omega)
                  intro v573 w103 ho hb hg hat
                  rw [← Ny572.out] at ho
                  have HO574 := am (ho); replace BK532 := am (blk_grown (g := gb532) (o := .cells #[.int .i64 0, .slice none 0 0] 30 (0, 0)) (bu BK532.out) hg (Kd.R_ne HO_538001.out BK532.out (by decide))); replace BK537 := am (blk_grown (g := gb537) (o := .cells #[.int .i64 (wrap64 (rd l0 0)), u538001] 30 (0, 0)) (bu BK537.out) hg (Kd.R_ne HO_538001.out BK537.out (by decide))); replace HI556 := am (IsS108.grown (by repeat (with_reducible first | exact HI556.out | apply yA108 | apply yN108 | apply yD108 | refine yF108 ?_ NB556_532.out _ | refine yF108 ?_ NB556_537.out _)) hg (IsS108.own_ne HI556.out HO_538001.out (by decide))); replace HO568 := am (Kd.R_over' (ru (HO568.out)) (Kd.R_typed (ru (HO_538001.out))) (by decide) hg); replace HB := am (hb); clear HO_538001
                  clear ho hb hg hat
                  obtain ⟨Ao104, co104, eo104⟩ := Kd.R_slice HO574.out
                  (first | subst eo104 | (injection eo104 with f1_ f2_ f3_; have f4_ := f1_.symm; have f5_ := f3_.symm; clear f1_ f2_ f3_; subst f4_; subst f5_))
                  refine hK.out _ _ ?_
                  clear hK K
                  refine norm_ (a' := ?_) ?_ ?_
                  rotate_left
                  ·
                   show Act.put _ (some 124) _ = _
                   simp only [Act.put, List.setIfInBounds_toArray, List.set_cons_zero, List.set_cons_succ, i64_w, i32_w]
                   rfl
                  refine pu 10 (some 125) (v := ?_) (a' := ?_) (tb 11 12) rfl rfl (any_of HT_.out (by kernel_rfl)) (fun _ _ _ h => h) ⟨by rfl, ?_⟩ ?_ ?_; rotate_left; · (intro w'; go_simp; with_reducible rfl)
                  rotate_left; · (simp only [Act.put, sa_, sb_, sc_, i64_w, i32_w]; rfl)
                  refine last_ (i := 11) (N := none) (tb 12 12) rfl rfl (one_of HT_.out (by kernel_rfl)) (by decide) (fun K hK => ?_)
                  have hs105 : w103.cell? ⟨gb537, 1, none⟩ = some (u538001) := (blk_cell BK537.out 1).trans rfl
                  have hfs105 := blk_frozen BK537.out 1; have hns105_0 := NB532_537.out; have hms105_0 := NB537_532.out
                  refine skip_ (w1 := ?_) (by rfl) rfl ?_ ?_
                  rotate_left
                  ·
                   go_simp
                   rfl
                  refine hK.out _ _ ?_
                  clear hK K
                  refine done_ (done_of HT_.out (by kernel_rfl)) ?_
                  try go_wp2
                  go_roundg kj82
                  case measure => have := HJ1.out; have := HK2.out; have := HJ82.out; omega
                  case rel => exact ⟨(wrap64 ((wrap64 (x9_2 + 1)) + (wrap64 (t563)))), (wrap64 (x10_2 + 1)), (y572), (t569), (t570), (.slice Ao104 y572.length co104), (by first | rfl | (simp; done) | (simp [*]; done)), (by first | rfl | (simp; done) | (simp [*]; done)), H', ⟨by have := HJ1.out; have := HK2.out; have := HJ82.out; omega⟩, ⟨Kd.R_mono (rf HO574.out BK537.out (by decide)) (fun _ hk => trivial)⟩, ⟨bf NB532_537.out BK532.out⟩, ⟨by (with_reducible repeat (first | refine blk_drewN ?_ _ | refine blk_drew ?_ | refine blk_alloc ?_ _)); refine blk_put (cs := #[.int .i64 (wrap64 (rd l0 0)), u538001]) ?_ 1 _ rfl; exact bu BK537.out⟩, ⟨by repeat (with_reducible first | exact HI556.out | apply yA108 | apply yN108 | apply yD108 | refine yF108 ?_ NB556_532.out _ | refine yF108 ?_ NB556_537.out _)⟩, ⟨by repeat (with_reducible first | exact HB.out | apply bA | apply bN | apply bD | refine bS ?_ (IsS108.ge HI556.out) | refine bS ?_ ao)⟩⟩
                 ·
                  rw [if_neg c95] at H
                  exact absurd H (by simp)
                ·
                 rw [if_neg c94] at H
                 exact absurd H (by simp)
               ·
                rw [if_neg c93] at H
                have c93b0 : ((t566.length : Int) == 1) = false := beq_eq_false_iff_ne.mpr c93
                have c93b1 : ((t566.length : Int) != 1) = true := bne_iff_ne.mpr c93
                have H' := Aside0.mk H
                clear H
                have hnb106 := NB537_532.out; have hnc106 := NB532_537.out; have hnb107 := NB537_556.out; have hnc107 := NB556_537.out.1; obtain ⟨hcz108_0, hcz108_1, hfz108_0, hfz108_1⟩ := cf BK537.out
                go_wp2_with (first | ((with_reducible refine gate_callee (f := 84) rfl ?_); refine goesL_ (some 107) rfl rfl Try.func84 (by kernel_rfl) rfl #[.pointer (some ⟨g556, 0, none⟩), .int .u64 ji90] rfl (by (try simp only [List.map_toArray, List.map_cons, List.map_nil]); first | done | (simp only [hji90]; rfl) | rfl | (simp only [List.length_drop, List.length_take]; rfl)) ?_; (with_reducible refine (tallymanref01_Reader_Upto.calls g556 r556 t553 x557001_82 x557002_82 ji90 t563 t564 t565 w _ ?side1 ?side2 A91.out).mono ?_); (case side1 => repeat (with_reducible first | exact HI556.out | apply yA108 | apply yN108 | apply yD108 | refine yF108 ?_ NB556_532.out _ | refine yF108 ?_ NB556_537.out _)); (case side2 => repeat (with_reducible first | exact HB.out | apply bA | apply bN | apply bD | refine bS ?_ (IsS108.ge HI556.out) | refine bS ?_ ao)); rintro e w109 ⟨rfl, hi, hb, hk⟩; refine ⟨_, rfl, ?_⟩; replace HO_538001 := am (Kd.R_mono (Kd.R_keep (IsS108.apart (show IsS108 w _ g556 r556 t553 x557001_82 x557002_82 from by repeat (with_reducible first | exact HI556.out | apply yA108 | apply yN108 | apply yD108 | refine yF108 ?_ NB556_532.out _ | refine yF108 ?_ NB556_537.out _)) (ru (HO_538001.out)) (by decide)) hk (fun _ h => h.2)) (fun _ h => h.1)); replace BK532 := am (KeepBut.blk hk (g' := gb532) (o := .cells #[.int .i64 0, .slice none 0 0] 30 (0, 0)) (bu BK532.out) NB532_556.out (by simp)); replace BK537 := am (KeepBut.blk hk (g' := gb537) (o := .cells #[.int .i64 (wrap64 (rd l0 0)), u538001] 30 (0, 0)) (bu BK537.out) NB537_556.out (by simp)); replace HB := am (hb); replace HI556 := am (hi); (try clear hb)) | ((with_reducible refine gate_callee (f := 86) rfl ?_); refine goesL_ (some 111) rfl rfl Try.func86 (by kernel_rfl) rfl #[.pointer (some ⟨g556, 0, none⟩), .int .i64 1] rfl (by (try simp only [List.map_toArray, List.map_cons, List.map_nil]); first | done | rfl) ?_; (with_reducible refine (tallymanref01_Reader_Fixed.calls g556 r556 t553 t564 t565 1 t566 t569 t570 w _ ?side1 ?side2 A92.out).mono ?_); (case side1 => repeat (with_reducible first | exact HI556.out | apply yA108 | apply yN108 | apply yD108 | refine yF108 ?_ NB556_532.out _ | refine yF108 ?_ NB556_537.out _)); (case side2 => repeat (with_reducible first | exact HB.out | apply bA | apply bN | apply bD | refine bS ?_ (IsS108.ge HI556.out) | refine bS ?_ ao)); rintro e w110 ⟨v567, rfl, ho0, hi, hb, hk⟩; refine ⟨_, rfl, ?_⟩; have HO568 := am (Kd.R_lower ho0 (below_size (by repeat (with_reducible first | exact HB.out | apply bA | apply bN | apply bD | refine bS ?_ (IsS108.ge HI556.out) | refine bS ?_ ao)))); replace HO_538001 := am (Kd.R_mono (Kd.R_keep (IsS108.apart (show IsS108 w _ g556 r556 t553 t564 t565 from by repeat (with_reducible first | exact HI556.out | apply yA108 | apply yN108 | apply yD108 | refine yF108 ?_ NB556_532.out _ | refine yF108 ?_ NB556_537.out _)) (ru (HO_538001.out)) (by decide)) hk (fun _ h => h.2)) (fun _ h => h.1)); replace BK532 := am (KeepBut.blk hk (g' := gb532) (o := .cells #[.int .i64 0, .slice none 0 0] 30 (0, 0)) (bu BK532.out) NB532_556.out (by simp)); replace BK537 := am (KeepBut.blk hk (g' := gb537) (o := .cells #[.int .i64 (wrap64 (rd l0 0)), u538001] 30 (0, 0)) (bu BK537.out) NB537_556.out (by simp)); replace HB := am (hb); replace HI556 := am (hi); (try clear hb); (try clear ho0); obtain ⟨Ao111, co111, eo111⟩ := Kd.R_slice HO568.out; subst eo111))
                go_roundg kj82
                case measure => have := HJ1.out; have := HK2.out; have := HJ82.out; omega
                case rel => exact ⟨(wrap64 ((wrap64 (x9_2 + 1)) + (wrap64 (t563)))), (wrap64 (x10_2 + 1)), (x538001_2), (t569), (t570), (u538001), (by first | rfl | (simp; done) | (simp [*]; done)), (by first | rfl | (simp; done) | (simp [*]; done)), H', ⟨by have := HJ1.out; have := HK2.out; have := HJ82.out; omega⟩, ⟨ru HO_538001.out⟩, ⟨bu BK532.out⟩, ⟨bu BK537.out⟩, ⟨by repeat (with_reducible first | exact HI556.out | apply yA108 | apply yN108 | apply yD108 | refine yF108 ?_ NB556_532.out _ | refine yF108 ?_ NB556_537.out _)⟩, ⟨by repeat (with_reducible first | exact HB.out | apply bA | apply bN | apply bD | refine bS ?_ (IsS108.ge HI556.out) | refine bS ?_ ao)⟩⟩
              ·
               rw [if_neg c89] at H
               exact absurd H (by simp)
             ·
              replace c87 := Bool.eq_false_iff.mpr c87
              subst c87
              rw [if_neg Bool.false_ne_true] at H
              replace H := Option.bind_eq_some_iff.mp H
              obtain ⟨⟨t575, t576, t577⟩, A1120, H⟩ := H
              try dsimp only at H
              have A112 := Aside0.mk A1120
              clear A1120
              by_cases c113 : t575 = 0
              ·
               rw [if_pos c113] at H
               have c113b0 : (t575 == 0) = true := beq_iff_eq.mpr c113
               have c113b1 : (t575 != 0) = false := bne_eq_false_iff_eq.mpr c113
               clear c113
               replace H := Option.bind_eq_some_iff.mp H
               obtain ⟨⟨t578, t581⟩, A1140, H⟩ := H
               try dsimp only at H
               have A114 := Aside0.mk A1140
               clear A1140
               by_cases c115 : t581 = 0
               ·
                rw [if_pos c115] at H
                have c115b0 : (t581 == 0) = true := beq_iff_eq.mpr c115
                have c115b1 : (t581 != 0) = false := bne_eq_false_iff_eq.mpr c115
                clear c115
                by_cases c116 : (strOfNums t578).toList = (strOfNums l0).toList
                ·
                 rw [if_pos c116] at H
                 have c116b0 : ((strOfNums t578).toList == (strOfNums l0).toList) = true := beq_iff_eq.mpr c116
                 have c116b1 : ((strOfNums t578).toList != (strOfNums l0).toList) = false := bne_eq_false_iff_eq.mpr c116
                 clear c116
                 simp only [Option.some.injEq, Prod.mk.injEq] at H
                 obtain ⟨rfl, rfl, rfl⟩ := H
                 go_wp2_with (first | ((with_reducible refine gate_callee (f := 87) rfl ?_); refine goesL_ (some 127) rfl rfl Try.func87 (by kernel_rfl) rfl #[.pointer (some ⟨g556, 0, none⟩)] rfl (by (try simp only [List.map_toArray, List.map_cons, List.map_nil]); first | done | rfl) ?_; (with_reducible refine (tallymanref01_Reader_End.calls g556 r556 t553 x557001_82 x557002_82 t575 t576 t577 w _ ?side1 ?side2 A112.out).mono ?_); (case side1 => repeat (with_reducible first | exact HI556.out | apply yA108 | apply yN108 | apply yD108 | refine yF108 ?_ NB556_532.out _ | refine yF108 ?_ NB556_537.out _)); (case side2 => repeat (with_reducible first | exact HB.out | apply bA | apply bN | apply bD | refine bS ?_ (IsS108.ge HI556.out) | refine bS ?_ ao)); rintro e w117 ⟨rfl, hi, hb, hk⟩; refine ⟨_, rfl, ?_⟩; replace HO_538001 := am (Kd.R_mono (Kd.R_keep (IsS108.apart (show IsS108 w _ g556 r556 t553 x557001_82 x557002_82 from by repeat (with_reducible first | exact HI556.out | apply yA108 | apply yN108 | apply yD108 | refine yF108 ?_ NB556_532.out _ | refine yF108 ?_ NB556_537.out _)) (ru (HO_538001.out)) (by decide)) hk (fun _ h => h.2)) (fun _ h => h.1)); replace BK532 := am (KeepBut.blk hk (g' := gb532) (o := .cells #[.int .i64 0, .slice none 0 0] 30 (0, 0)) (bu BK532.out) NB532_556.out (by simp)); replace BK537 := am (KeepBut.blk hk (g' := gb537) (o := .cells #[.int .i64 (wrap64 (rd l0 0)), u538001] 30 (0, 0)) (bu BK537.out) NB537_556.out (by simp)); replace HB := am (hb); replace HI556 := am (hi); (try clear hb); have hnb118 := NB537_532.out; have hnc118 := NB532_537.out; have hnb119 := NB537_556.out; have hnc119 := NB556_537.out.1; obtain ⟨hcz120_0, hcz120_1, hfz120_0, hfz120_1⟩ := cf BK537.out; obtain ⟨Ao121, co121, eo121⟩ := Kd.R_slice HO_538001.out; subst eo121) | ((with_reducible refine gate_callee (f := 52) rfl ?_); refine goesL_ (some 132) rfl rfl Try.func52 (by kernel_rfl) rfl #[.agg #[.int .i64 (wrap64 (rd l0 0)), .slice Ao121 x538001_2.length co121]] rfl (by (try simp only [List.map_toArray, List.map_cons, List.map_nil]); first | done | rfl) ?_; (with_reducible refine (tallymanref15_Bytes.calls kj82 (wrap64 (rd l0 0)) _ _ x538001_2 t578 t581 _ ?side1 ?side2 A114.out).mono ?_); (case side1 => repeat (first | exact (Kd.R_reads' HO_538001.out).2.2 | (with_reducible refine Kd.C_alloc ?_ _) | (with_reducible refine Kd.C_drewN ?_ _) | (with_reducible refine Kd.C_drew ?_))); (case side2 => exact (Kd.R_reads' HO_538001.out).2.1); rintro e w122 ⟨v579, rfl, ho0, hb⟩; refine ⟨_, rfl, ?_⟩; have HO580 := am (Kd.R_lower ho0 (below_size (by repeat (with_reducible first | exact HB.out | apply bA | apply bN | apply bD | refine bS ?_ (IsS108.ge HI556.out) | refine bS ?_ ao)))); replace HO_538001 := rb HO_538001 hb; replace BK532 := bb BK532 hb; replace BK537 := bb BK537 hb; replace HI556 := am (IsS108.below (by repeat (with_reducible first | exact HI556.out | apply yA108 | apply yN108 | apply yD108 | refine yF108 ?_ NB556_532.out _ | refine yF108 ?_ NB556_537.out _)) hb); replace HB := am (below_step (by repeat (with_reducible first | exact HB.out | apply bA | apply bN | apply bD | refine bS ?_ (IsS108.ge HI556.out) | refine bS ?_ ao)) hb); (try clear hb); (try clear ho0); have hcv123 := own_string (P := Try.prog) Try.underlying33 Try.underlying5 Try.underlying9 (Kd.own_of_R HO580.out); have hcv124 := fun nq_ : Nat => own_string (P := Try.prog) Try.underlying33 Try.underlying5 Try.underlying9 (pw_own_drewN (Kd.own_of_R HO580.out) nq_); have hcv125 := Kd.C_string (P := Try.prog) (A := (some ad536)) (c := c0) Try.underlying33 Try.underlying5 Try.underlying9 (Kd.C_below HR0.out HB.out); have hcv126 := fun nq_ : Nat => Kd.C_string (P := Try.prog) (A := (some ad536)) (c := c0) Try.underlying33 Try.underlying5 Try.underlying9 (Kd.C_drewN (Kd.C_below HR0.out HB.out) nq_); obtain ⟨hcz127_0, hcz127_1, hfz127_0, hfz127_1⟩ := cf BK537.out; have hnb128 := NB532_556.out; have hnc128 := NB556_532.out.1; obtain ⟨hcz129_0, hcz129_1, hfz129_0, hfz129_1⟩ := cf BK532.out))
                 refine bodyPost_ret (results_ct rfl _ _ gb532 30 #[.int .i64 (wrap64 (rd l0 0)), .slice Ao121 x538001_2.length co121] (0, 0) _ rfl (by (with_reducible repeat (first | refine blk_drewN ?_ _ | refine blk_drew ?_ | refine blk_alloc ?_ _)); refine blk_put (cs := #[.int .i64 (wrap64 (rd l0 0)), .slice none 0 0]) ?_ 1 _ rfl; (with_reducible repeat (first | refine blk_drewN ?_ _ | refine blk_drew ?_ | refine blk_alloc ?_ _)); refine blk_put (cs := #[.int .i64 0, .slice none 0 0]) ?_ 0 _ rfl; exact bu BK532.out) Try.underlying30 rfl (by kernel_rfl)) rfl ?_
                 exact ⟨_, by first | rfl | (simp [errW_none, errW_some] <;> rfl) | (simp only [← hji71, ← hji73]; first | rfl | (simp [errW_none, errW_some] <;> rfl)) | (simp [*, errW_none, errW_some] <;> rfl), by (with_reducible repeat (first | apply Kd.R_alloc | apply Kd.R_drewN | apply Kd.R_drew)); exact Kd.R_mono (Kd.R_far (p := ⟨gb532, 1, none⟩) (Kd.R_far (p := ⟨gb532, 0, none⟩) (Kd.R_types HO_538001.out BK532.out (by decide)) (fun _ hk => hk.2) (.int .i64 (wrap64 (rd l0 0)))) (fun _ hk => hk.2) (.slice Ao121 x538001_2.length co121)) (fun _ hk => trivial), by repeat (with_reducible first | exact HB.out | apply bA | apply bN | apply bD | refine bS ?_ (IsS108.ge HI556.out) | refine bS ?_ ao)⟩
                ·
                 rw [if_neg c116] at H
                 have c116b0 : ((strOfNums t578).toList == (strOfNums l0).toList) = false := beq_eq_false_iff_ne.mpr c116
                 have c116b1 : ((strOfNums t578).toList != (strOfNums l0).toList) = true := bne_iff_ne.mpr c116
                 simp only [Option.some.injEq, Prod.mk.injEq] at H
                 obtain ⟨rfl, rfl, rfl⟩ := H
                 go_wp2_with (first | ((with_reducible refine gate_callee (f := 87) rfl ?_); refine goesL_ (some 127) rfl rfl Try.func87 (by kernel_rfl) rfl #[.pointer (some ⟨g556, 0, none⟩)] rfl (by (try simp only [List.map_toArray, List.map_cons, List.map_nil]); first | done | rfl) ?_; (with_reducible refine (tallymanref01_Reader_End.calls g556 r556 t553 x557001_82 x557002_82 t575 t576 t577 w _ ?side1 ?side2 A112.out).mono ?_); (case side1 => repeat (with_reducible first | exact HI556.out | apply yA108 | apply yN108 | apply yD108 | refine yF108 ?_ NB556_532.out _ | refine yF108 ?_ NB556_537.out _)); (case side2 => repeat (with_reducible first | exact HB.out | apply bA | apply bN | apply bD | refine bS ?_ (IsS108.ge HI556.out) | refine bS ?_ ao)); rintro e w130 ⟨rfl, hi, hb, hk⟩; refine ⟨_, rfl, ?_⟩; replace HO_538001 := am (Kd.R_mono (Kd.R_keep (IsS108.apart (show IsS108 w _ g556 r556 t553 x557001_82 x557002_82 from by repeat (with_reducible first | exact HI556.out | apply yA108 | apply yN108 | apply yD108 | refine yF108 ?_ NB556_532.out _ | refine yF108 ?_ NB556_537.out _)) (ru (HO_538001.out)) (by decide)) hk (fun _ h => h.2)) (fun _ h => h.1)); replace BK532 := am (KeepBut.blk hk (g' := gb532) (o := .cells #[.int .i64 0, .slice none 0 0] 30 (0, 0)) (bu BK532.out) NB532_556.out (by simp)); replace BK537 := am (KeepBut.blk hk (g' := gb537) (o := .cells #[.int .i64 (wrap64 (rd l0 0)), u538001] 30 (0, 0)) (bu BK537.out) NB537_556.out (by simp)); replace HB := am (hb); replace HI556 := am (hi); (try clear hb); have hnb131 := NB537_532.out; have hnc131 := NB532_537.out; have hnb132 := NB537_556.out; have hnc132 := NB556_537.out.1; obtain ⟨hcz133_0, hcz133_1, hfz133_0, hfz133_1⟩ := cf BK537.out; obtain ⟨Ao134, co134, eo134⟩ := Kd.R_slice HO_538001.out; subst eo134) | ((with_reducible refine gate_callee (f := 52) rfl ?_); refine goesL_ (some 132) rfl rfl Try.func52 (by kernel_rfl) rfl #[.agg #[.int .i64 (wrap64 (rd l0 0)), .slice Ao134 x538001_2.length co134]] rfl (by (try simp only [List.map_toArray, List.map_cons, List.map_nil]); first | done | rfl) ?_; (with_reducible refine (tallymanref15_Bytes.calls kj82 (wrap64 (rd l0 0)) _ _ x538001_2 t578 t581 _ ?side1 ?side2 A114.out).mono ?_); (case side1 => repeat (first | exact (Kd.R_reads' HO_538001.out).2.2 | (with_reducible refine Kd.C_alloc ?_ _) | (with_reducible refine Kd.C_drewN ?_ _) | (with_reducible refine Kd.C_drew ?_))); (case side2 => exact (Kd.R_reads' HO_538001.out).2.1); rintro e w135 ⟨v579, rfl, ho0, hb⟩; refine ⟨_, rfl, ?_⟩; have HO580 := am (Kd.R_lower ho0 (below_size (by repeat (with_reducible first | exact HB.out | apply bA | apply bN | apply bD | refine bS ?_ (IsS108.ge HI556.out) | refine bS ?_ ao)))); replace HO_538001 := rb HO_538001 hb; replace BK532 := bb BK532 hb; replace BK537 := bb BK537 hb; replace HI556 := am (IsS108.below (by repeat (with_reducible first | exact HI556.out | apply yA108 | apply yN108 | apply yD108 | refine yF108 ?_ NB556_532.out _ | refine yF108 ?_ NB556_537.out _)) hb); replace HB := am (below_step (by repeat (with_reducible first | exact HB.out | apply bA | apply bN | apply bD | refine bS ?_ (IsS108.ge HI556.out) | refine bS ?_ ao)) hb); (try clear hb); (try clear ho0); have hcv136 := own_string (P := Try.prog) Try.underlying33 Try.underlying5 Try.underlying9 (Kd.own_of_R HO580.out); have hcv137 := fun nq_ : Nat => own_string (P := Try.prog) Try.underlying33 Try.underlying5 Try.underlying9 (pw_own_drewN (Kd.own_of_R HO580.out) nq_); have hcv138 := Kd.C_string (P := Try.prog) (A := (some ad536)) (c := c0) Try.underlying33 Try.underlying5 Try.underlying9 (Kd.C_below HR0.out HB.out); have hcv139 := fun nq_ : Nat => Kd.C_string (P := Try.prog) (A := (some ad536)) (c := c0) Try.underlying33 Try.underlying5 Try.underlying9 (Kd.C_drewN (Kd.C_below HR0.out HB.out) nq_); have hnb140 := NB532_556.out; have hnc140 := NB556_532.out.1; obtain ⟨hcz141_0, hcz141_1, hfz141_0, hfz141_1⟩ := cf BK532.out))
                 refine bodyPost_ret (results_ct rfl _ _ gb532 30 #[.int .i64 0, .slice none 0 0] (0, 0) _ rfl (by (with_reducible repeat (first | refine blk_drewN ?_ _ | refine blk_drew ?_ | refine blk_alloc ?_ _)); refine blk_put (cs := #[.int .i64 0, .slice none 0 0]) ?_ 1 _ rfl; (with_reducible repeat (first | refine blk_drewN ?_ _ | refine blk_drew ?_ | refine blk_alloc ?_ _)); refine blk_put (cs := #[.int .i64 0, .slice none 0 0]) ?_ 0 _ rfl; exact bu BK532.out) Try.underlying30 rfl (by kernel_rfl)) rfl ?_
                 exact ⟨_, by first | rfl | (simp [errW_none, errW_some] <;> rfl) | (simp only [← hji71, ← hji73]; first | rfl | (simp [errW_none, errW_some] <;> rfl)) | (simp [*, errW_none, errW_some] <;> rfl), by first | exact Kd.R_nil _ _ _ _ _ | exact Kd.V_nil _ _ _ _ _, by repeat (with_reducible first | exact HB.out | apply bA | apply bN | apply bD | refine bS ?_ (IsS108.ge HI556.out) | refine bS ?_ ao)⟩
               ·
                rw [if_neg c115] at H
                have c115b0 : (t581 == 0) = false := beq_eq_false_iff_ne.mpr c115
                have c115b1 : (t581 != 0) = true := bne_iff_ne.mpr c115
                simp only [Option.some.injEq, Prod.mk.injEq] at H
                obtain ⟨rfl, rfl, rfl⟩ := H
                go_wp2_with (first | ((with_reducible refine gate_callee (f := 87) rfl ?_); refine goesL_ (some 127) rfl rfl Try.func87 (by kernel_rfl) rfl #[.pointer (some ⟨g556, 0, none⟩)] rfl (by (try simp only [List.map_toArray, List.map_cons, List.map_nil]); first | done | rfl) ?_; (with_reducible refine (tallymanref01_Reader_End.calls g556 r556 t553 x557001_82 x557002_82 t575 t576 t577 w _ ?side1 ?side2 A112.out).mono ?_); (case side1 => repeat (with_reducible first | exact HI556.out | apply yA108 | apply yN108 | apply yD108 | refine yF108 ?_ NB556_532.out _ | refine yF108 ?_ NB556_537.out _)); (case side2 => repeat (with_reducible first | exact HB.out | apply bA | apply bN | apply bD | refine bS ?_ (IsS108.ge HI556.out) | refine bS ?_ ao)); rintro e w142 ⟨rfl, hi, hb, hk⟩; refine ⟨_, rfl, ?_⟩; replace HO_538001 := am (Kd.R_mono (Kd.R_keep (IsS108.apart (show IsS108 w _ g556 r556 t553 x557001_82 x557002_82 from by repeat (with_reducible first | exact HI556.out | apply yA108 | apply yN108 | apply yD108 | refine yF108 ?_ NB556_532.out _ | refine yF108 ?_ NB556_537.out _)) (ru (HO_538001.out)) (by decide)) hk (fun _ h => h.2)) (fun _ h => h.1)); replace BK532 := am (KeepBut.blk hk (g' := gb532) (o := .cells #[.int .i64 0, .slice none 0 0] 30 (0, 0)) (bu BK532.out) NB532_556.out (by simp)); replace BK537 := am (KeepBut.blk hk (g' := gb537) (o := .cells #[.int .i64 (wrap64 (rd l0 0)), u538001] 30 (0, 0)) (bu BK537.out) NB537_556.out (by simp)); replace HB := am (hb); replace HI556 := am (hi); (try clear hb); have hnb143 := NB537_532.out; have hnc143 := NB532_537.out; have hnb144 := NB537_556.out; have hnc144 := NB556_537.out.1; obtain ⟨hcz145_0, hcz145_1, hfz145_0, hfz145_1⟩ := cf BK537.out; obtain ⟨Ao146, co146, eo146⟩ := Kd.R_slice HO_538001.out; subst eo146) | ((with_reducible refine gate_callee (f := 52) rfl ?_); refine goesL_ (some 132) rfl rfl Try.func52 (by kernel_rfl) rfl #[.agg #[.int .i64 (wrap64 (rd l0 0)), .slice Ao146 x538001_2.length co146]] rfl (by (try simp only [List.map_toArray, List.map_cons, List.map_nil]); first | done | rfl) ?_; (with_reducible refine (tallymanref15_Bytes.calls kj82 (wrap64 (rd l0 0)) _ _ x538001_2 t578 t581 _ ?side1 ?side2 A114.out).mono ?_); (case side1 => repeat (first | exact (Kd.R_reads' HO_538001.out).2.2 | (with_reducible refine Kd.C_alloc ?_ _) | (with_reducible refine Kd.C_drewN ?_ _) | (with_reducible refine Kd.C_drew ?_))); (case side2 => exact (Kd.R_reads' HO_538001.out).2.1); rintro e w147 ⟨v579, rfl, ho0, hb⟩; refine ⟨_, rfl, ?_⟩; have HO580 := am (Kd.R_lower ho0 (below_size (by repeat (with_reducible first | exact HB.out | apply bA | apply bN | apply bD | refine bS ?_ (IsS108.ge HI556.out) | refine bS ?_ ao)))); replace HO_538001 := rb HO_538001 hb; replace BK532 := bb BK532 hb; replace BK537 := bb BK537 hb; replace HI556 := am (IsS108.below (by repeat (with_reducible first | exact HI556.out | apply yA108 | apply yN108 | apply yD108 | refine yF108 ?_ NB556_532.out _ | refine yF108 ?_ NB556_537.out _)) hb); replace HB := am (below_step (by repeat (with_reducible first | exact HB.out | apply bA | apply bN | apply bD | refine bS ?_ (IsS108.ge HI556.out) | refine bS ?_ ao)) hb); (try clear hb); (try clear ho0); have hnb148 := NB532_556.out; have hnc148 := NB556_532.out.1; obtain ⟨hcz149_0, hcz149_1, hfz149_0, hfz149_1⟩ := cf BK532.out))
                refine bodyPost_ret (results_ct rfl _ _ gb532 30 #[.int .i64 0, .slice none 0 0] (0, 0) _ rfl (by (with_reducible repeat (first | refine blk_drewN ?_ _ | refine blk_drew ?_ | refine blk_alloc ?_ _)); refine blk_put (cs := #[.int .i64 0, .slice none 0 0]) ?_ 1 _ rfl; (with_reducible repeat (first | refine blk_drewN ?_ _ | refine blk_drew ?_ | refine blk_alloc ?_ _)); refine blk_put (cs := #[.int .i64 0, .slice none 0 0]) ?_ 0 _ rfl; exact bu BK532.out) Try.underlying30 rfl (by kernel_rfl)) rfl ?_
                exact ⟨_, by first | rfl | (simp [errW_none, errW_some] <;> rfl) | (simp only [← hji71, ← hji73]; first | rfl | (simp [errW_none, errW_some] <;> rfl)) | (simp [*, errW_none, errW_some] <;> rfl), by first | exact Kd.R_nil _ _ _ _ _ | exact Kd.V_nil _ _ _ _ _, by repeat (with_reducible first | exact HB.out | apply bA | apply bN | apply bD | refine bS ?_ (IsS108.ge HI556.out) | refine bS ?_ ao)⟩
              ·
               rw [if_neg c113] at H
               have c113b0 : (t575 == 0) = false := beq_eq_false_iff_ne.mpr c113
               have c113b1 : (t575 != 0) = true := bne_iff_ne.mpr c113
               simp only [Option.some.injEq, Prod.mk.injEq] at H
               obtain ⟨rfl, rfl, rfl⟩ := H
               go_wp2_with (first | ((with_reducible refine gate_callee (f := 87) rfl ?_); refine goesL_ (some 127) rfl rfl Try.func87 (by kernel_rfl) rfl #[.pointer (some ⟨g556, 0, none⟩)] rfl (by (try simp only [List.map_toArray, List.map_cons, List.map_nil]); first | done | rfl) ?_; (with_reducible refine (tallymanref01_Reader_End.calls g556 r556 t553 x557001_82 x557002_82 t575 t576 t577 w _ ?side1 ?side2 A112.out).mono ?_); (case side1 => repeat (with_reducible first | exact HI556.out | apply yA108 | apply yN108 | apply yD108 | refine yF108 ?_ NB556_532.out _ | refine yF108 ?_ NB556_537.out _)); (case side2 => repeat (with_reducible first | exact HB.out | apply bA | apply bN | apply bD | refine bS ?_ (IsS108.ge HI556.out) | refine bS ?_ ao)); rintro e w150 ⟨rfl, hi, hb, hk⟩; refine ⟨_, rfl, ?_⟩; replace HO_538001 := am (Kd.R_mono (Kd.R_keep (IsS108.apart (show IsS108 w _ g556 r556 t553 x557001_82 x557002_82 from by repeat (with_reducible first | exact HI556.out | apply yA108 | apply yN108 | apply yD108 | refine yF108 ?_ NB556_532.out _ | refine yF108 ?_ NB556_537.out _)) (ru (HO_538001.out)) (by decide)) hk (fun _ h => h.2)) (fun _ h => h.1)); replace BK532 := am (KeepBut.blk hk (g' := gb532) (o := .cells #[.int .i64 0, .slice none 0 0] 30 (0, 0)) (bu BK532.out) NB532_556.out (by simp)); replace BK537 := am (KeepBut.blk hk (g' := gb537) (o := .cells #[.int .i64 (wrap64 (rd l0 0)), u538001] 30 (0, 0)) (bu BK537.out) NB537_556.out (by simp)); replace HB := am (hb); replace HI556 := am (hi); (try clear hb); have hnb151 := NB532_537.out; have hnc151 := NB537_532.out; have hnb152 := NB532_556.out; have hnc152 := NB556_532.out.1; obtain ⟨hcz153_0, hcz153_1, hfz153_0, hfz153_1⟩ := cf BK532.out))
               refine bodyPost_ret (results_ct rfl _ _ gb532 30 #[.int .i64 0, .slice none 0 0] (0, 0) _ rfl (by (with_reducible repeat (first | refine blk_drewN ?_ _ | refine blk_drew ?_ | refine blk_alloc ?_ _)); refine blk_put (cs := #[.int .i64 0, .slice none 0 0]) ?_ 1 _ rfl; (with_reducible repeat (first | refine blk_drewN ?_ _ | refine blk_drew ?_ | refine blk_alloc ?_ _)); refine blk_put (cs := #[.int .i64 0, .slice none 0 0]) ?_ 0 _ rfl; exact bu BK532.out) Try.underlying30 rfl (by kernel_rfl)) rfl ?_
               exact ⟨_, by first | rfl | (simp [errW_none, errW_some] <;> rfl) | (simp only [← hji71, ← hji73]; first | rfl | (simp [errW_none, errW_some] <;> rfl)) | (simp [*, errW_none, errW_some] <;> rfl), by first | exact Kd.R_nil _ _ _ _ _ | exact Kd.V_nil _ _ _ _ _, by repeat (with_reducible first | exact HB.out | apply bA | apply bN | apply bD | refine bS ?_ (IsS108.ge HI556.out) | refine bS ?_ ao)⟩
        ·
         rw [if_neg c72] at H
         exact absurd H (by simp)
       ·
        rw [if_neg c69] at H
        exact absurd H (by simp)
     ·
      rw [if_neg c12] at H
      exact absurd H (by simp)
    ·
     rw [if_neg c11] at H
     exact absurd H (by simp)

end Go.Proofs.Ytbclnjinpcfpjaa.H
