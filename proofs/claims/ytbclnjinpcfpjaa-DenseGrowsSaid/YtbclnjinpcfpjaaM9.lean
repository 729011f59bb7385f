/- Printed walks, mended. -/
import Derived.Test.YtbclnjinpcfpjaaZ4
import Derived.Test.YtbclnjinpcfpjaaM8
import Derived.Test.YtbclnjinpcfpjaaM7
namespace Go.Proofs.Ytbclnjinpcfpjaa.H
open Go.RowKit Go.Proofs.YtbclnjinpcfpjaaW.PrintWords Go.Proofs.YtbclnjinpcfpjaaW.PrintLast Go.Proofs.YtbclnjinpcfpjaaW.PrintMore
attribute [local go_sem] max2_int min2_int max_two min_two max_three min_three max_four min_four   -- for this text's walks alone
set_option linter.unusedVariables false
set_option linter.unusedSimpArgs false

/-! ### dense_by: function 62 -/
mutual
def dense_by.l0 : Nat → Int → Int → Int → Bool → Int → Int → Int → Int → Int → Int → Option (Int)
 | 0, _, _, _, _, _, _, _, _, _, _ => none
 | k + 1, x2, x3, x13, x14, x15, x197000, x197001, x197002, x198000, x198001 => if x15 ≥ 0 then (if 0 ≤ wrap64 (2 - (wrap64 (Int.tdiv x15 64))) ∧ wrap64 (2 - (wrap64 (Int.tdiv x15 64))) < 3 then (if 0 ≤ (Int.tmod x15 64) then (if x14 = true then (dense_by.j1 k x2 x3 x13 true x15 (x198000 / 9223372036854775808) x197000 x197001 x197002 (Go.bits .or .u64 (IntKind.u64.wrap (x198000 * 2)) (x198001 / 9223372036854775808)) (Go.bits .or .u64 (IntKind.u64.wrap (x198001 * 2)) (Go.bits .and .u64 (shr .u64 (rd [x197000, x197001, x197002] (wrap64 (2 - (wrap64 (Int.tdiv x15 64))))) (Int.tmod x15 64)) 1))) else (dense_by.j1 k x2 x3 x13 ((x13 / 9223372036854775808) == 1) x15 (x198000 / 9223372036854775808) x197000 x197001 x197002 (Go.bits .or .u64 (IntKind.u64.wrap (x198000 * 2)) (x198001 / 9223372036854775808)) (Go.bits .or .u64 (IntKind.u64.wrap (x198001 * 2)) (Go.bits .and .u64 (shr .u64 (rd [x197000, x197001, x197002] (wrap64 (2 - (wrap64 (Int.tdiv x15 64))))) (Int.tmod x15 64)) 1)))) else (none)) else (none)) else (if x14 = true then (some 9223372036854775807) else (some (mn x13 9223372036854775807)))
def dense_by.j1 : Nat → Int → Int → Int → Bool → Int → Int → Int → Int → Int → Int → Int → Option (Int)
 | 0, _, _, _, _, _, _, _, _, _, _, _ => none
 | k + 1, x2, x3, x13, x14, x15, x16, x197000, x197001, x197002, x198000, x198001 => if x16 = 1 then (dense_by.j2 k x2 x3 (IntKind.u64.wrap (x13 * 2)) x14 x15 true x197000 x197001 x197002 x198000 x198001) else (if x198000 > x2 then (dense_by.j2 k x2 x3 (IntKind.u64.wrap (x13 * 2)) x14 x15 true x197000 x197001 x197002 x198000 x198001) else (if x198000 = x2 then (dense_by.j2 k x2 x3 (IntKind.u64.wrap (x13 * 2)) x14 x15 (decide (x198001 ≥ x3)) x197000 x197001 x197002 x198000 x198001) else (dense_by.j2 k x2 x3 (IntKind.u64.wrap (x13 * 2)) x14 x15 false x197000 x197001 x197002 x198000 x198001)))
def dense_by.j2 : Nat → Int → Int → Int → Bool → Int → Bool → Int → Int → Int → Int → Int → Option (Int)
 | 0, _, _, _, _, _, _, _, _, _, _, _ => none
 | k + 1, x2, x3, x13, x14, x15, x93, x197000, x197001, x197002, x198000, x198001 => if x93 = true then ((bits_Sub64.f x198001 x3 0).bind fun bt198 => ((bits_Sub64.f x198000 x2 bt198.2).bind fun bt200 => (dense_by.l0 k x2 x3 (Go.bits .or .u64 x13 1) x14 (wrap64 (x15 - 1)) x197000 x197001 x197002 bt200.1 bt198.1))) else (dense_by.l0 k x2 x3 x13 x14 (wrap64 (x15 - 1)) x197000 x197001 x197002 x198000 x198001)
end
def dense_by.f (k : Nat) (a0 : Int) (a1 : Int) (a2 : Int) (a3 : Int) : Option (Int) := (bits_Mul64.f (IntKind.u64.wrap (a0 * a1)) a1).bind fun bt194 => (dense_by.l0 k a2 a3 0 false 191 (bt194.1 / 262144) (Go.bits .or .u64 (IntKind.u64.wrap (bt194.1 * 70368744177664)) (bt194.2 / 262144)) (IntKind.u64.wrap (bt194.2 * 70368744177664)) 0 0)
theorem dense_by.mono_l : ∀ k, (∀ y0 y1 y2 y3 y4 y5 y6 y7 y8 y9, LeO (dense_by.l0 k y0 y1 y2 y3 y4 y5 y6 y7 y8 y9) (dense_by.l0 (k + 1) y0 y1 y2 y3 y4 y5 y6 y7 y8 y9)) ∧ (∀ y0 y1 y2 y3 y4 y5 y6 y7 y8 y9 y10, LeO (dense_by.j1 k y0 y1 y2 y3 y4 y5 y6 y7 y8 y9 y10) (dense_by.j1 (k + 1) y0 y1 y2 y3 y4 y5 y6 y7 y8 y9 y10)) ∧ (∀ y0 y1 y2 y3 y4 y5 y6 y7 y8 y9 y10, LeO (dense_by.j2 k y0 y1 y2 y3 y4 y5 y6 y7 y8 y9 y10) (dense_by.j2 (k + 1) y0 y1 y2 y3 y4 y5 y6 y7 y8 y9 y10))
 | 0 => ⟨fun _ _ _ _ _ _ _ _ _ _ r h => by simp [dense_by.l0] at h, fun _ _ _ _ _ _ _ _ _ _ _ r h => by simp [dense_by.j1] at h, fun _ _ _ _ _ _ _ _ _ _ _ r h => by simp [dense_by.j2] at h⟩
 | k + 1 => by
  obtain ⟨ih0, ih1, ih2⟩ := dense_by.mono_l k
  refine ⟨?_, ?_, ?_⟩
  ·
   intro y0 y1 y2 y3 y4 y5 y6 y7 y8 y9
   unfold dense_by.l0
   repeat' first
   | (with_reducible exact ih0 _ _ _ _ _ _ _ _ _ _)
   | (with_reducible exact ih1 _ _ _ _ _ _ _ _ _ _ _)
   | (with_reducible exact ih2 _ _ _ _ _ _ _ _ _ _ _)
   | (with_reducible exact LeO.refl _)
   | (with_reducible exact LeO.none _)
   | (with_reducible refine LeO.ite ?_ ?_)
   | (with_reducible refine LeO.bind ?_ (fun _ => ?_))
  ·
   intro y0 y1 y2 y3 y4 y5 y6 y7 y8 y9 y10
   unfold dense_by.j1
   repeat' first
   | (with_reducible exact ih0 _ _ _ _ _ _ _ _ _ _)
   | (with_reducible exact ih1 _ _ _ _ _ _ _ _ _ _ _)
   | (with_reducible exact ih2 _ _ _ _ _ _ _ _ _ _ _)
   | (with_reducible exact LeO.refl _)
   | (with_reducible exact LeO.none _)
   | (with_reducible refine LeO.ite ?_ ?_)
   | (with_reducible refine LeO.bind ?_ (fun _ => ?_))
  ·
   intro y0 y1 y2 y3 y4 y5 y6 y7 y8 y9 y10
   unfold dense_by.j2
   repeat' first
   | (with_reducible exact ih0 _ _ _ _ _ _ _ _ _ _)
   | (with_reducible exact ih1 _ _ _ _ _ _ _ _ _ _ _)
   | (with_reducible exact ih2 _ _ _ _ _ _ _ _ _ _ _)
   | (with_reducible exact LeO.refl _)
   | (with_reducible exact LeO.none _)
   | (with_reducible refine LeO.ite ?_ ?_)
   | (with_reducible refine LeO.bind ?_ (fun _ => ?_))
theorem dense_by.mono : ∀ a0 a1 a2 a3 k, LeO (dense_by.f k a0 a1 a2 a3) (dense_by.f (k + 1) a0 a1 a2 a3) := by
 intro a0 a1 a2 a3 k
 obtain ⟨ih0, ih1, ih2⟩ := dense_by.mono_l k
 unfold dense_by.f
 repeat' first
   | (with_reducible exact ih0 _ _ _ _ _ _ _ _ _ _)
   | (with_reducible exact ih1 _ _ _ _ _ _ _ _ _ _ _)
   | (with_reducible exact ih2 _ _ _ _ _ _ _ _ _ _ _)
   | (with_reducible exact LeO.refl _)
   | (with_reducible exact LeO.none _)
   | (with_reducible refine LeO.ite ?_ ?_)
   | (with_reducible refine LeO.bind ?_ (fun _ => ?_))
def dense_by.T11 : Bool × List (List Nat × List Nat) := (true, [([], []), ([0], [0]), ([1], [1]), ([], []), ([3], [3]), ([4], [4]), ([5], [5]), ([6], [6]), ([], []), ([8], [8]), ([7, 9], [7, 9]), ([10], [10]), ([2, 11], [2, 11]), ([0, 1, 2, 3, 4, 5, 6, 7, 8, 9, 10, 11, 12], []), ([13, 12, 0, 1, 2, 3, 4, 5, 6, 7, 8, 9, 10, 11, 12], [12, 13])])
def dense_by.B11 : List Nat := [0, 1, 3, 0, 8, 24, 56, 120, 0, 256, 1016, 2040, 4095, 8191, 16383]
theorem dense_by.tab11 : rtab .any (opsOf Try.f62 11) = dense_by.T11 := by kernel_rfl
theorem dense_by.bits11 : waitsOk dense_by.T11.2 dense_by.B11 = true := by kernel_rfl
set_option maxHeartbeats 8000000 in
set_option maxRecDepth 100000 in
theorem dense_by.calls (k : Nat) (a0 : Int) (a1 : Int) (a2 : Int) (a3 : Int) (r : Int) (w : World) (h : dense_by.f k a0 a1 a2 a3 = some r) :
  Calls Try.prog 62 #[.int .u64 a0, .int .u64 a1, .int .u64 a2, .int .u64 a3] w fun e w' => e = .returned (.int .u64 r) ∧ Below w.heap.size w w' := by
 have hu97 := Try.underlying97
 have hu98 := Try.underlying98
 have HB := am (Below.refl w.heap.size w)
 have H : ((bits_Mul64.f (IntKind.u64.wrap (a0 * a1)) a1).bind fun bt194 => (dense_by.l0 k a2 a3 0 false 191 (bt194.1 / 262144) (Go.bits .or .u64 (IntKind.u64.wrap (bt194.1 * 70368744177664)) (bt194.2 / 262144)) (IntKind.u64.wrap (bt194.2 * 70368744177664)) 0 0)) = some r := h
 clear h
 replace H := Option.bind_eq_some_iff.mp H
 obtain ⟨⟨t194, t195⟩, A50, H⟩ := H
 try dsimp only at H
 have A5 := Aside0.mk A50
 clear A50
 have H' := Aside0.mk H
 clear H
 go_enter Try.func62, Try.ntmps62
 go_wp2_with (first | ((with_reducible refine gate_callee (f := 60) rfl ?_); refine goesL_ (some 23) rfl rfl Try.func60 (by kernel_rfl) rfl #[.int .u64 (IntKind.u64.wrap (a0 * a1)), .int .u64 a1] rfl (by (try simp only [List.map_toArray, List.map_cons, List.map_nil]); first | done | rfl) ?_; (with_reducible refine (bits_Mul64.calls (IntKind.u64.wrap (a0 * a1)) a1 t194 t195 _ A5.out).mono ?_); rintro e w' ⟨rfl, ⟨nd, rfl⟩⟩; refine ⟨_, rfl, ?_⟩) | ((with_reducible refine gate_dst (N := 11) rfl ?_); refine box_event ?hg (N := 11) ?hd (cs := #[.int .u64 0, .int .u64 0, .int .u64 0]) (t := 97) ?hr ?_; (case hd => rfl); (case hg => rfl); (case hr => go_simp; try rfl); intro gb196 hg w6 hbox hb; obtain ⟨HBn, GW196⟩ := tri hg hb (hu HB.out); have GE196 := GW196; have BK196 := am (hbox); clear HB; have HB := HBn; clear HBn; clear hb hbox hg; have hcz7_0 : w6.cell? ⟨gb196, 0, none⟩ = some (.int .u64 0) := (blk_cell BK196.out 0).trans rfl; have hcz7_1 : w6.cell? ⟨gb196, 1, none⟩ = some (.int .u64 0) := (blk_cell BK196.out 1).trans rfl; have hcz7_2 : w6.cell? ⟨gb196, 2, none⟩ = some (.int .u64 0) := (blk_cell BK196.out 2).trans rfl; have hfz7_0 := blk_frozen BK196.out 0; have hfz7_1 := blk_frozen BK196.out 1; have hfz7_2 := blk_frozen BK196.out 2) | ((with_reducible refine gate_dst (N := 12) rfl ?_); refine box_event ?hg (N := 12) ?hd (cs := #[.int .u64 0, .int .u64 0]) (t := 98) ?hr ?_; (case hd => rfl); (case hg => rfl); (case hr => go_simp; try rfl); intro gb197 hg w8 hbox hb; obtain ⟨HBn, GW197⟩ := tri hg hb (by repeat (with_reducible first | exact HB.out | apply bA | apply bN | apply bD | refine bS ?_ ao)); have GE197 := GW197; have BK197 := am (hbox); have NB196_197 := am ((by rw [hg]; exact Nat.ne_of_lt (blk_lt (g := gb196) (o := .cells #[.int .u64 (t194 / 262144), .int .u64 (Go.bits .or .u64 (IntKind.u64.wrap (t194 * 70368744177664)) (t195 / 262144)), .int .u64 (IntKind.u64.wrap (t195 * 70368744177664))] 97 (0, 0)) (by (with_reducible repeat (first | refine blk_drewN ?_ _ | refine blk_drew ?_ | refine blk_alloc ?_ _)); refine blk_put (cs := #[.int .u64 (t194 / 262144), .int .u64 (Go.bits .or .u64 (IntKind.u64.wrap (t194 * 70368744177664)) (t195 / 262144)), .int .u64 0]) ?_ 2 _ rfl; (with_reducible repeat (first | refine blk_drewN ?_ _ | refine blk_drew ?_ | refine blk_alloc ?_ _)); refine blk_put (cs := #[.int .u64 (t194 / 262144), .int .u64 0, .int .u64 0]) ?_ 1 _ rfl; (with_reducible repeat (first | refine blk_drewN ?_ _ | refine blk_drew ?_ | refine blk_alloc ?_ _)); refine blk_put (cs := #[.int .u64 0, .int .u64 0, .int .u64 0]) ?_ 0 _ rfl; exact bu BK196.out)) : gb196 ≠ gb197)); have NB197_196 := am ((by rw [hg]; exact Nat.ne_of_gt (blk_lt (g := gb196) (o := .cells #[.int .u64 (t194 / 262144), .int .u64 (Go.bits .or .u64 (IntKind.u64.wrap (t194 * 70368744177664)) (t195 / 262144)), .int .u64 (IntKind.u64.wrap (t195 * 70368744177664))] 97 (0, 0)) (by (with_reducible repeat (first | refine blk_drewN ?_ _ | refine blk_drew ?_ | refine blk_alloc ?_ _)); refine blk_put (cs := #[.int .u64 (t194 / 262144), .int .u64 (Go.bits .or .u64 (IntKind.u64.wrap (t194 * 70368744177664)) (t195 / 262144)), .int .u64 0]) ?_ 2 _ rfl; (with_reducible repeat (first | refine blk_drewN ?_ _ | refine blk_drew ?_ | refine blk_alloc ?_ _)); refine blk_put (cs := #[.int .u64 (t194 / 262144), .int .u64 0, .int .u64 0]) ?_ 1 _ rfl; (with_reducible repeat (first | refine blk_drewN ?_ _ | refine blk_drew ?_ | refine blk_alloc ?_ _)); refine blk_put (cs := #[.int .u64 0, .int .u64 0, .int .u64 0]) ?_ 0 _ rfl; exact bu BK196.out)) : gb197 ≠ gb196)); replace BK196 := am (blk_below (g := gb196) (o := .cells #[.int .u64 (t194 / 262144), .int .u64 (Go.bits .or .u64 (IntKind.u64.wrap (t194 * 70368744177664)) (t195 / 262144)), .int .u64 (IntKind.u64.wrap (t195 * 70368744177664))] 97 (0, 0)) (by (with_reducible repeat (first | refine blk_drewN ?_ _ | refine blk_drew ?_ | refine blk_alloc ?_ _)); refine blk_put (cs := #[.int .u64 (t194 / 262144), .int .u64 (Go.bits .or .u64 (IntKind.u64.wrap (t194 * 70368744177664)) (t195 / 262144)), .int .u64 0]) ?_ 2 _ rfl; (with_reducible repeat (first | refine blk_drewN ?_ _ | refine blk_drew ?_ | refine blk_alloc ?_ _)); refine blk_put (cs := #[.int .u64 (t194 / 262144), .int .u64 0, .int .u64 0]) ?_ 1 _ rfl; (with_reducible repeat (first | refine blk_drewN ?_ _ | refine blk_drew ?_ | refine blk_alloc ?_ _)); refine blk_put (cs := #[.int .u64 0, .int .u64 0, .int .u64 0]) ?_ 0 _ rfl; exact bu BK196.out) hb); clear HB; have HB := HBn; clear HBn; clear hb hbox hg; have hnb9 := NB197_196.out; have hnc9 := NB196_197.out; obtain ⟨hcz10_0, hcz10_1, hfz10_0, hfz10_1⟩ := cf BK197.out))
 go_loopg [13, 14, 15] k (fun kq v13 v14 v15 w' => ∃ (x13_1 : Int) (x14_1 : Bool) (x15_1 : Int) (x198000_1 : Int) (x198001_1 : Int), v13 = .int .u64 x13_1 ∧ v14 = .bool x14_1 ∧ v15 = .int .i64 x15_1 ∧ Aside0 (dense_by.l0 kq a2 a3 x13_1 x14_1 x15_1 (t194 / 262144) (Go.bits .or .u64 (IntKind.u64.wrap (t194 * 70368744177664)) (t195 / 262144)) (IntKind.u64.wrap (t195 * 70368744177664)) x198000_1 x198001_1 = some r) ∧ Aside0 (kq ≤ k) ∧ Aside0 (w'.heap[gb196]? = some (.cells #[.int .u64 (t194 / 262144), .int .u64 (Go.bits .or .u64 (IntKind.u64.wrap (t194 * 70368744177664)) (t195 / 262144)), .int .u64 (IntKind.u64.wrap (t195 * 70368744177664))] 97 (0, 0))) ∧ Aside0 (w'.heap[gb197]? = some (.cells #[.int .u64 x198000_1, .int .u64 x198001_1] 98 (0, 0))) ∧ Aside0 (Below w.heap.size w w'))
 case atStart => exact ⟨(0), (false), (191), (0), (0), (by first | rfl | (simp; done) | (simp [*]; done)), (by first | rfl | (simp; done) | (simp [*]; done)), (by first | rfl | (simp; done) | (simp [*]; done)), H', ⟨Nat.le_refl _⟩, ⟨bf NB196_197.out BK196.out⟩, ⟨by (with_reducible repeat (first | refine blk_drewN ?_ _ | refine blk_drew ?_ | refine blk_alloc ?_ _)); refine blk_put (cs := #[.int .u64 0, .int .u64 0]) ?_ 1 _ rfl; (with_reducible repeat (first | refine blk_drewN ?_ _ | refine blk_drew ?_ | refine blk_alloc ?_ _)); refine blk_put (cs := #[.int .u64 0, .int .u64 0]) ?_ 0 _ rfl; exact bu BK197.out⟩, ⟨by repeat (with_reducible first | exact HB.out | apply bA | apply bN | apply bD | refine bS ?_ ao)⟩⟩
 case round =>
  clear H'
  obtain ⟨x13_1, x14_1, x15_1, x198000_1, x198001_1, rfl, rfl, rfl, HA, HK1, BK196, BK197, HB⟩ := hrel
  cases gk with
  | zero => exact absurd HA.out (by simp [dense_by.l0])
  | succ k1 =>
   have H := HA.out
   clear HA
   simp only [dense_by.l0] at H
   by_cases c11 : x15_1 ≥ 0
   ·
    rw [if_pos c11] at H
    have c11b0 : decide (0 ≤ x15_1) = true := decide_eq_true c11
    clear c11
    by_cases cI : 0 ≤ wrap64 (2 - (wrap64 (Int.tdiv x15_1 64))) ∧ wrap64 (2 - (wrap64 (Int.tdiv x15_1 64))) < 3
    case neg => rw [if_neg cI] at H; cases H
    rw [if_pos cI] at H
    obtain ⟨ix, hix⟩ : ∃ ix : Nat, wrap64 (2 - (wrap64 (Int.tdiv x15_1 64))) = (ix : Int) := ⟨(wrap64 (2 - (wrap64 (Int.tdiv x15_1 64)))).toNat, by omega⟩
    have hi3 : ix < 3 := by omega
    obtain ⟨xi, hxi⟩ : ∃ xi : Int, rd [t194 / 262144, Go.bits .or .u64 (IntKind.u64.wrap (t194 * 70368744177664)) (t195 / 262144), IntKind.u64.wrap (t195 * 70368744177664)] (wrap64 (2 - (wrap64 (Int.tdiv x15_1 64)))) = xi := ⟨_, rfl⟩
    have hcI : (#[Value.int .u64 (t194 / 262144), .int .u64 (Go.bits .or .u64 (IntKind.u64.wrap (t194 * 70368744177664)) (t195 / 262144)), .int .u64 (IntKind.u64.wrap (t195 * 70368744177664))] : Array Value)[ix]? = some (.int .u64 xi) := by
     rw [hix] at hxi
     rcases (by omega : ix = 0 ∨ ix = 1 ∨ ix = 2) with rfl | rfl | rfl <;> (rw [← hxi]; rfl)
    rw [hxi] at H
    obtain ⟨ji12, hji12⟩ : ∃ j_ : Int, (Int.tmod x15_1 64) = j_ := ⟨_, rfl⟩
    first | rw [hji12] at H | simp only [hji12] at H
    by_cases c13 : 0 ≤ (ji12)
    ·
     rw [if_pos c13] at H
     have c13b0 := eq_true c13
     have c13b1 : decide (0 ≤ (ji12)) = true := decide_eq_true c13
     clear c13
     obtain ⟨ji14, hji14⟩ : ∃ j_ : Int, (shr .u64 (xi) (ji12)) = j_ := ⟨_, rfl⟩
     first | rw [hji14] at H | simp only [hji14] at H
     have hji14_ : ((xi) / 2 ^ min (ji12).toNat 64) = ji14 := hji14
     have hji14z : (ji12) ≤ 64 → ((xi) / 2 ^ (ji12).toNat) = ji14 := shr_small hji14
     have HC15 := Aside0.mk H
     clear H
     have hnb16 := NB197_196.out
     have hnc16 := NB196_197.out
     obtain ⟨hcz17_0, hcz17_1, hfz17_0, hfz17_1⟩ := cf BK197.out
     try go_wp2
     have n0_ : Aside0 ((wr.setCell ⟨gb197, 0, none⟩ (.int .u64 (Go.bits .or .u64 (IntKind.u64.wrap (x198000_1 * 2)) (x198001_1 / 9223372036854775808)))).heap[gb196]? = some (.cells #[.int .u64 (t194 / 262144), .int .u64 (Go.bits .or .u64 (IntKind.u64.wrap (t194 * 70368744177664)) (t195 / 262144)), .int .u64 (IntKind.u64.wrap (t195 * 70368744177664))] 97 (0, 0))) := ⟨bf NB196_197.out BK196.out⟩
     have n1_ : Aside0 ((wr.setCell ⟨gb197, 0, none⟩ (.int .u64 (Go.bits .or .u64 (IntKind.u64.wrap (x198000_1 * 2)) (x198001_1 / 9223372036854775808)))).heap[gb197]? = some (.cells #[.int .u64 (Go.bits .or .u64 (IntKind.u64.wrap (x198000_1 * 2)) (x198001_1 / 9223372036854775808)), .int .u64 x198001_1] 98 (0, 0))) := ⟨by (with_reducible repeat (first | refine blk_drewN ?_ _ | refine blk_drew ?_ | refine blk_alloc ?_ _)); refine blk_put (cs := #[.int .u64 x198000_1, .int .u64 x198001_1]) ?_ 0 _ rfl; exact bu BK197.out⟩
     have n2_ : Aside0 (Below w.heap.size w (wr.setCell ⟨gb197, 0, none⟩ (.int .u64 (Go.bits .or .u64 (IntKind.u64.wrap (x198000_1 * 2)) (x198001_1 / 9223372036854775808))))) := ⟨by repeat (with_reducible first | exact HB.out | apply bA | apply bN | apply bD | refine bS ?_ ao)⟩
     (try clear BK196)
     (try clear BK197)
     (try clear HB)
     generalize (wr.setCell ⟨gb197, 0, none⟩ (.int .u64 (Go.bits .or .u64 (IntKind.u64.wrap (x198000_1 * 2)) (x198001_1 / 9223372036854775808)))) = w18 at n0_ n1_ n2_ ⊢
     have BK196 := n0_
     have BK197 := n1_
     have HB := n2_
     clear n0_ n1_ n2_
     replace BK196 := am (blk_drew BK196.out); replace BK197 := am (blk_drew BK197.out); replace HB := am (below_drew1 HB.out)
     refine start_ (n := 15) (S := fun w' => w'.cell? ⟨gb197, 0, none⟩ = some (.int .u64 (Go.bits .or .u64 (IntKind.u64.wrap (x198000_1 * 2)) (x198001_1 / 9223372036854775808))) ∧ w'.cell? ⟨gb197, 1, none⟩ = some (.int .u64 x198001_1) ∧ w'.cell? ⟨gb196, ix, none⟩ = some (.int .u64 xi) ∧ w'.cell? ⟨gb196, 1, none⟩ = some (.int .u64 (Go.bits .or .u64 (IntKind.u64.wrap (t194 * 70368744177664)) (t195 / 262144))) ∧ w'.cell? ⟨gb196, 2, none⟩ = some (.int .u64 (IntKind.u64.wrap (t195 * 70368744177664)))) (ds := [14]) (tb 0 15) (by kernel_rfl) rfl rfl ⟨(blk_cell BK197.out 0).trans rfl, (blk_cell BK197.out 1).trans rfl, (blk_cell BK196.out ix).trans hcI, (blk_cell BK196.out 1).trans rfl, (blk_cell BK196.out 2).trans rfl⟩ (fun hHeld => ?_); refine with_tabW dense_by.tab11 dense_by.bits11 (fun HT_ HW_ => ?_)
     generalize w18.drew = w19 at BK196 BK197 HB hHeld ⊢
     refine pu 0 (some 52) (v := ?_) (a' := ?_) (tb 1 15) rfl rfl (any_of HT_.out (by kernel_rfl)) (fun _ _ _ h => h) ⟨by rfl, ?_⟩ ?_ ?_; rotate_left; · (intro w'; go_simp; with_reducible rfl)
     rotate_left; · (simp only [Act.put, sa_, sb_, sc_, i64_w, i32_w]; rfl)
     refine pu 3 (some 55) (v := ?_) (a' := ?_) #[true, false, false, true, false, false, false, false, false, false, false, false, false, false, false] rfl rfl (any_of HT_.out (by kernel_rfl)) (fun _ _ _ h => h) ⟨by rfl, ?_⟩ ?_ ?_; rotate_left; · (intro w'; go_simp; with_reducible rfl)
     rotate_left; · (simp only [Act.put, sa_, sb_, sc_, i64_w, i32_w]; rfl)
     refine pu 4 (some 56) (v := ?_) (a' := ?_) #[true, false, false, true, true, false, false, false, false, false, false, false, false, false, false] rfl rfl (any_of HT_.out (by kernel_rfl)) (fun _ _ _ h => h) ⟨by rfl, ?_⟩ ?_ ?_; rotate_left; · (intro w'; go_simp; with_reducible rfl)
     rotate_left; · (simp only [Act.put, sa_, sb_, sc_, i64_w, i32_w]; rfl)
     refine pu 5 (some 57) (v := ?_) (a' := ?_) #[true, false, false, true, true, true, false, false, false, false, false, false, false, false, false] rfl rfl (any_of HT_.out (by kernel_rfl)) (fun _ _ _ h => h) ⟨by rfl, ?_⟩ ?_ ?_; rotate_left; · (intro w'; go_simp; with_reducible rfl)
     rotate_left; · (simp only [Act.put, sa_, sb_, sc_, i64_w, i32_w]; rfl)
     refine pure_ (i := 6) (N := some 58) (v := ?_) (a' := ?_) #[true, false, false, true, true, true, true, false, false, false, false, false, false, false, false] rfl rfl (any_of HT_.out (by kernel_rfl)) (fun _ _ _ h => h) (Or.inl ⟨by rfl, ?_⟩) ?_ ?_
     rotate_left
     ·
      intro w'
      go_simp
      rw [if_pos (show (ix : Int) < 3 by omega)]
     rotate_left
     ·
      simp only [Act.put, List.setIfInBounds_toArray, List.set_cons_zero, List.set_cons_succ, i64_w, i32_w]
      rfl
     refine pu 8 (some 60) (v := ?_) (a' := ?_) #[true, false, false, true, true, true, true, false, true, false, false, false, false, false, false] rfl rfl (any_of HT_.out (by kernel_rfl)) (fun _ _ _ h => h) ⟨by rfl, ?_⟩ ?_ ?_; rotate_left; · (intro w'; go_simp; with_reducible rfl)
     rotate_left; · (simp only [Act.put, sa_, sb_, sc_, i64_w, i32_w]; rfl)
     refine pu 9 (some 61) (v := ?_) (a' := ?_) #[true, false, false, true, true, true, true, false, true, true, false, false, false, false, false] rfl rfl (any_of HT_.out (by kernel_rfl)) (fun _ _ _ h => h) ⟨by rfl, ?_⟩ ?_ ?_; rotate_left; · (intro w'; go_simp; with_reducible rfl)
     rotate_left; · (simp only [Act.put, sa_, sb_, sc_, i64_w, i32_w]; rfl)
     refine tk 1 (some 53) (v := ?_) (a' := ?_) #[true, true, false, true, true, true, true, false, true, true, false, false, false, false, false] rfl rfl (take_ofW HT_.out HW_.out (by kernel_rfl)) (fun _ _ _ h => h) ⟨by rfl, ?_⟩ hHeld ?_ ?_; rotate_left; · (rintro w' ⟨s0, s1, s2, s3, s4⟩; go_simp; with_reducible rfl)
     rotate_left; · (simp only [Act.put, sa_, sb_, sc_, i64_w, i32_w]; rfl)
     refine pu 2 (some 54) (v := ?_) (a' := ?_) #[true, true, true, true, true, true, true, false, true, true, false, false, false, false, false] rfl rfl (any_of HT_.out (by kernel_rfl)) (fun _ _ _ h => h) ⟨by rfl, ?_⟩ ?_ ?_; rotate_left; · (intro w'; go_simp; with_reducible rfl)
     rotate_left; · (simp only [Act.put, sa_, sb_, sc_, i64_w, i32_w]; rfl)
     refine tk 7 (some 59) (v := ?_) (a' := ?_) (tb 10 15) rfl rfl (take_ofW HT_.out HW_.out (by kernel_rfl)) (fun _ _ _ h => h) ⟨by rfl, ?_⟩ hHeld ?_ ?_; rotate_left; · (rintro w' ⟨s0, s1, s2, s3, s4⟩; go_simp; with_reducible rfl)
     rotate_left; · (simp only [Act.put, sa_, sb_, sc_, i64_w, i32_w]; rfl)
     refine pu 10 (some 62) (v := ?_) (a' := ?_) (tb 11 15) rfl rfl (any_of HT_.out (by kernel_rfl)) (fun _ _ _ h => h) ⟨by rfl, ?_⟩ ?_ ?_; rotate_left; · (intro w'; go_simp; with_reducible rfl)
     rotate_left; · (simp only [Act.put, sa_, sb_, sc_, i64_w, i32_w]; rfl)
     refine pu 11 (some 63) (v := ?_) (a' := ?_) (tb 12 15) rfl rfl (any_of HT_.out (by kernel_rfl)) (fun _ _ _ h => h) ⟨by rfl, ?_⟩ ?_ ?_; rotate_left; · (intro w'; go_simp; with_reducible rfl)
     rotate_left; · (simp only [Act.put, sa_, sb_, sc_, i64_w, i32_w]; rfl)
     refine pu 12 (some 64) (v := ?_) (a' := ?_) (tb 13 15) rfl rfl (any_of HT_.out (by kernel_rfl)) (fun _ _ _ h => h) ⟨by rfl, ?_⟩ ?_ ?_; rotate_left; · (intro w'; go_simp; with_reducible rfl)
     rotate_left; · (simp only [Act.put, sa_, sb_, sc_, i64_w, i32_w]; rfl)
     refine pu 13 (some 65) (v := ?_) (a' := ?_) (tb 14 15) rfl rfl (any_of HT_.out (by kernel_rfl)) (fun _ _ _ h => h) ⟨by rfl, ?_⟩ ?_ ?_; rotate_left; · (intro w'; go_simp; with_reducible rfl)
     rotate_left; · (simp only [Act.put, sa_, sb_, sc_, i64_w, i32_w]; rfl)
     refine last_ (i := 14) (N := none) (tb 15 15) rfl rfl (one_of HT_.out (by kernel_rfl)) (by decide) (fun K hK => ?_)
     have hs20 : w19.cell? ⟨gb197, 1, none⟩ = some (.int .u64 x198001_1) := (blk_cell BK197.out 1).trans rfl
     have hfs20 := blk_frozen BK197.out 1
     have hns20_0 := NB196_197.out
     have hms20_0 := NB197_196.out
     refine skip_ (w1 := ?_) (by rfl) rfl ?_ ?_
     rotate_left
     ·
      go_simp
      rfl
     refine hK.out _ _ ?_
     clear hK K
     refine done_ (done_of HT_.out (by kernel_rfl)) ?_
     go_upto_region 12 with (fail)
     go_cut [14] (fun v14 wc => ∃ (kq : Nat) (x14_14 : Bool), v14 = .bool x14_14 ∧ Aside0 (dense_by.j1 kq a2 a3 x13_1 x14_14 x15_1 (x198000_1 / 9223372036854775808) (t194 / 262144) (Go.bits .or .u64 (IntKind.u64.wrap (t194 * 70368744177664)) (t195 / 262144)) (IntKind.u64.wrap (t195 * 70368744177664)) (Go.bits .or .u64 (IntKind.u64.wrap (x198000_1 * 2)) (x198001_1 / 9223372036854775808)) (Go.bits .or .u64 (IntKind.u64.wrap (x198001_1 * 2)) (Go.bits .and .u64 (ji14) 1)) = some r) ∧ Aside0 (kq ≤ k1) ∧ Aside0 (wc.heap[gb196]? = some (.cells #[.int .u64 (t194 / 262144), .int .u64 (Go.bits .or .u64 (IntKind.u64.wrap (t194 * 70368744177664)) (t195 / 262144)), .int .u64 (IntKind.u64.wrap (t195 * 70368744177664))] 97 (0, 0))) ∧ Aside0 (wc.heap[gb197]? = some (.cells #[.int .u64 (Go.bits .or .u64 (IntKind.u64.wrap (x198000_1 * 2)) (x198001_1 / 9223372036854775808)), .int .u64 (Go.bits .or .u64 (IntKind.u64.wrap (x198001_1 * 2)) (Go.bits .and .u64 (ji14) 1))] 98 (0, 0))) ∧ Aside0 (Below w.heap.size w wc))
     case first =>
      have H := HC15.out
      clear HC15
      by_cases c21 : x14_1 = true
      ·
       subst c21
       rw [if_pos rfl] at H
       have H' := Aside0.mk H
       clear H
       go_wp2
       go_meet
       case rel => exact ⟨_, (true), (by first | rfl | (simp; done) | (simp [*]; done)), H', ⟨by have := HK1.out; first | omega | exact Nat.le_refl _⟩, ⟨bf NB196_197.out BK196.out⟩, ⟨by (with_reducible repeat (first | refine blk_drewN ?_ _ | refine blk_drew ?_ | refine blk_alloc ?_ _)); refine blk_put (cs := #[.int .u64 (Go.bits .or .u64 (IntKind.u64.wrap (x198000_1 * 2)) (x198001_1 / 9223372036854775808)), .int .u64 x198001_1]) ?_ 1 _ rfl; exact bu BK197.out⟩, ⟨by repeat (with_reducible first | exact HB.out | apply bA | apply bN | apply bD | refine bS ?_ ao)⟩⟩
      ·
       replace c21 := Bool.eq_false_iff.mpr c21
       subst c21
       rw [if_neg Bool.false_ne_true] at H
       have H' := Aside0.mk H
       clear H
       go_wp2
       go_meet
       case rel => exact ⟨_, (((x13_1 / 9223372036854775808) == 1)), (by first | rfl | (simp; done) | (simp [*]; done)), H', ⟨by have := HK1.out; first | omega | exact Nat.le_refl _⟩, ⟨bf NB196_197.out BK196.out⟩, ⟨by (with_reducible repeat (first | refine blk_drewN ?_ _ | refine blk_drew ?_ | refine blk_alloc ?_ _)); refine blk_put (cs := #[.int .u64 (Go.bits .or .u64 (IntKind.u64.wrap (x198000_1 * 2)) (x198001_1 / 9223372036854775808)), .int .u64 x198001_1]) ?_ 1 _ rfl; exact bu BK197.out⟩, ⟨by repeat (with_reducible first | exact HB.out | apply bA | apply bN | apply bD | refine bS ?_ ao)⟩⟩
     case rest =>
      clear HC15
      obtain ⟨kq, x14_14, rfl, HA, HJ14, BK196, BK197, HB⟩ := hcut
      cases kq with
      | zero => exact absurd HA.out (by simp [dense_by.j1])
      | succ kj14 =>
       have H := HA.out
       clear HA
       simp only [dense_by.j1] at H
       have HC22 := Aside0.mk H
       clear H
       go_upto_region 14 with (fail)
       go_cut [93] (fun v93 wc => ∃ (kq : Nat) (x93_21 : Bool), v93 = .bool x93_21 ∧ Aside0 (dense_by.j2 kq a2 a3 (IntKind.u64.wrap (x13_1 * 2)) x14_14 x15_1 x93_21 (t194 / 262144) (Go.bits .or .u64 (IntKind.u64.wrap (t194 * 70368744177664)) (t195 / 262144)) (IntKind.u64.wrap (t195 * 70368744177664)) (Go.bits .or .u64 (IntKind.u64.wrap (x198000_1 * 2)) (x198001_1 / 9223372036854775808)) (Go.bits .or .u64 (IntKind.u64.wrap (x198001_1 * 2)) (Go.bits .and .u64 (ji14) 1)) = some r) ∧ Aside0 (kq ≤ kj14) ∧ Aside0 (wc.heap[gb196]? = some (.cells #[.int .u64 (t194 / 262144), .int .u64 (Go.bits .or .u64 (IntKind.u64.wrap (t194 * 70368744177664)) (t195 / 262144)), .int .u64 (IntKind.u64.wrap (t195 * 70368744177664))] 97 (0, 0))) ∧ Aside0 (wc.heap[gb197]? = some (.cells #[.int .u64 (Go.bits .or .u64 (IntKind.u64.wrap (x198000_1 * 2)) (x198001_1 / 9223372036854775808)), .int .u64 (Go.bits .or .u64 (IntKind.u64.wrap (x198001_1 * 2)) (Go.bits .and .u64 (ji14) 1))] 98 (0, 0))) ∧ Aside0 (Below w.heap.size w wc))
       case first =>
        have H := HC22.out
        clear HC22
        by_cases c23 : (x198000_1 / 9223372036854775808) = 1
        ·
         rw [if_pos c23] at H
         have c23b0 : ((x198000_1 / 9223372036854775808) == 1) = true := beq_iff_eq.mpr c23
         have c23b1 : ((x198000_1 / 9223372036854775808) != 1) = false := bne_eq_false_iff_eq.mpr c23
         clear c23
         (first | rw [c23b0] | (simp only [i64_w, i32_w]; rw [c23b0]) | skip)
         have H' := Aside0.mk H
         clear H
         go_wp2
         go_meet
         case rel => exact ⟨_, (true), (by first | rfl | (simp; done) | (simp [*]; done)), H', ⟨by have := HK1.out; have := HJ14.out; first | omega | exact Nat.le_refl _⟩, ⟨bu BK196.out⟩, ⟨bu BK197.out⟩, ⟨by repeat (with_reducible first | exact HB.out | apply bA | apply bN | apply bD | refine bS ?_ ao)⟩⟩
        ·
         rw [if_neg c23] at H
         have c23b0 : ((x198000_1 / 9223372036854775808) == 1) = false := beq_eq_false_iff_ne.mpr c23
         have c23b1 : ((x198000_1 / 9223372036854775808) != 1) = true := bne_iff_ne.mpr c23
         (first | rw [c23b0] | (simp only [i64_w, i32_w]; rw [c23b0]) | skip)
         by_cases c24 : (Go.bits .or .u64 (IntKind.u64.wrap (x198000_1 * 2)) (x198001_1 / 9223372036854775808)) > a2
         ·
          rw [if_pos c24] at H
          have c24b0 : decide (a2 < (Go.bits .or .u64 (IntKind.u64.wrap (x198000_1 * 2)) (x198001_1 / 9223372036854775808))) = true := decide_eq_true c24
          clear c24
          have H' := Aside0.mk H
          clear H
          have hnb25 := NB197_196.out; have hnc25 := NB196_197.out; obtain ⟨hcz26_0, hcz26_1, hfz26_0, hfz26_1⟩ := cf BK197.out
          go_wp2
          go_meet
          case rel => exact ⟨_, (true), (by first | rfl | (simp; done) | (simp [*]; done)), H', ⟨by have := HK1.out; have := HJ14.out; first | omega | exact Nat.le_refl _⟩, ⟨bu BK196.out⟩, ⟨bu BK197.out⟩, ⟨by repeat (with_reducible first | exact HB.out | apply bA | apply bN | apply bD | refine bS ?_ ao)⟩⟩
         ·
          rw [if_neg c24] at H
          have c24b0 : decide (a2 < (Go.bits .or .u64 (IntKind.u64.wrap (x198000_1 * 2)) (x198001_1 / 9223372036854775808))) = false := decide_eq_false c24
          clear c24
          by_cases c27 : (Go.bits .or .u64 (IntKind.u64.wrap (x198000_1 * 2)) (x198001_1 / 9223372036854775808)) = a2
          ·
           rw [if_pos c27] at H
           have c27b0 : ((Go.bits .or .u64 (IntKind.u64.wrap (x198000_1 * 2)) (x198001_1 / 9223372036854775808)) == a2) = true := beq_iff_eq.mpr c27
           have c27b1 : ((Go.bits .or .u64 (IntKind.u64.wrap (x198000_1 * 2)) (x198001_1 / 9223372036854775808)) != a2) = false := bne_eq_false_iff_eq.mpr c27
           clear c27
           have H' := Aside0.mk H
           clear H
           have hnb28 := NB197_196.out; have hnc28 := NB196_197.out; obtain ⟨hcz29_0, hcz29_1, hfz29_0, hfz29_1⟩ := cf BK197.out
           go_wp2
           go_meet
           case rel => exact ⟨_, (decide ((Go.bits .or .u64 (IntKind.u64.wrap (x198001_1 * 2)) (Go.bits .and .u64 (ji14) 1)) ≥ a3)), (by first | rfl | (simp; done) | (simp only [← hji14] <;> (first | rfl | simp)) | (simp [*]; done)), H', ⟨by have := HK1.out; have := HJ14.out; first | omega | exact Nat.le_refl _⟩, ⟨bu BK196.out⟩, ⟨bu BK197.out⟩, ⟨by repeat (with_reducible first | exact HB.out | apply bA | apply bN | apply bD | refine bS ?_ ao)⟩⟩
          ·
           rw [if_neg c27] at H
           have c27b0 : ((Go.bits .or .u64 (IntKind.u64.wrap (x198000_1 * 2)) (x198001_1 / 9223372036854775808)) == a2) = false := beq_eq_false_iff_ne.mpr c27
           have c27b1 : ((Go.bits .or .u64 (IntKind.u64.wrap (x198000_1 * 2)) (x198001_1 / 9223372036854775808)) != a2) = true := bne_iff_ne.mpr c27
           have H' := Aside0.mk H
           clear H
           have hnb30 := NB197_196.out; have hnc30 := NB196_197.out; obtain ⟨hcz31_0, hcz31_1, hfz31_0, hfz31_1⟩ := cf BK197.out
           go_wp2
           go_meet
           case rel => exact ⟨_, (false), (by first | rfl | (simp; done) | (simp [*]; done)), H', ⟨by have := HK1.out; have := HJ14.out; first | omega | exact Nat.le_refl _⟩, ⟨bu BK196.out⟩, ⟨bu BK197.out⟩, ⟨by repeat (with_reducible first | exact HB.out | apply bA | apply bN | apply bD | refine bS ?_ ao)⟩⟩
       case rest =>
        clear HC22
        obtain ⟨kq, x93_21, rfl, HA, HJ21, BK196, BK197, HB⟩ := hcut
        cases kq with
        | zero => exact absurd HA.out (by simp [dense_by.j2])
        | succ kj21 =>
         have H := HA.out
         clear HA
         simp only [dense_by.j2] at H
         by_cases c32 : x93_21 = true
         ·
          subst c32
          rw [if_pos rfl] at H
          replace H := Option.bind_eq_some_iff.mp H
          obtain ⟨⟨t198, t199⟩, A330, H⟩ := H
          try dsimp only at H
          have A33 := Aside0.mk A330
          clear A330
          replace H := Option.bind_eq_some_iff.mp H
          obtain ⟨⟨t200, t201⟩, A340, H⟩ := H
          try dsimp only at H
          have A34 := Aside0.mk A340
          clear A340
          have H' := Aside0.mk H
          clear H
          have hnb35 := NB197_196.out; have hnc35 := NB196_197.out; obtain ⟨hcz36_0, hcz36_1, hfz36_0, hfz36_1⟩ := cf BK197.out
          go_wp2_with (first | (rw [bits_Sub64.run A33.out]; (try (rw [drewN_self wc]; generalize hq_ : World.drewN wc _ = wc; have n0_ : Aside0 (wc.heap[gb196]? = some (.cells #[.int .u64 (t194 / 262144), .int .u64 (Go.bits .or .u64 (IntKind.u64.wrap (t194 * 70368744177664)) (t195 / 262144)), .int .u64 (IntKind.u64.wrap (t195 * 70368744177664))] 97 (0, 0))) := ⟨by rw [← hq_]; exact (bu BK196.out)⟩; have n1_ : Aside0 (wc.heap[gb197]? = some (.cells #[.int .u64 (Go.bits .or .u64 (IntKind.u64.wrap (x198000_1 * 2)) (x198001_1 / 9223372036854775808)), .int .u64 (Go.bits .or .u64 (IntKind.u64.wrap (x198001_1 * 2)) (Go.bits .and .u64 (ji14) 1))] 98 (0, 0))) := ⟨by rw [← hq_]; exact (bu BK197.out)⟩; have n2_ : Aside0 (Below w.heap.size w wc) := ⟨by rw [← hq_]; exact (by repeat (with_reducible first | exact HB.out | apply bA | apply bN | apply bD | refine bS ?_ ao))⟩; clear BK196 BK197 HB hq_; have BK196 := n0_; have BK197 := n1_; have HB := n2_; clear n0_ n1_ n2_))) | (rw [bits_Sub64.run A34.out]))
          go_roundg kj21
          case measure => have := HK1.out; have := HJ14.out; have := HJ21.out; omega
          case rel => exact ⟨(Go.bits .or .u64 (IntKind.u64.wrap (x13_1 * 2)) 1), (x14_14), (wrap64 (x15_1 - 1)), (t200), (t198), (by first | rfl | (simp; done) | (simp [*]; done)), (by first | rfl | (simp; done) | (simp [*]; done)), (by first | rfl | (simp; done) | (simp [*]; done)), H', ⟨by have := HK1.out; have := HJ14.out; have := HJ21.out; omega⟩, ⟨bf NB196_197.out BK196.out⟩, ⟨by (with_reducible repeat (first | refine blk_drewN ?_ _ | refine blk_drew ?_ | refine blk_alloc ?_ _)); refine blk_put (cs := #[.int .u64 (Go.bits .or .u64 (IntKind.u64.wrap (x198000_1 * 2)) (x198001_1 / 9223372036854775808)), .int .u64 t198]) ?_ 0 _ rfl; (with_reducible repeat (first | refine blk_drewN ?_ _ | refine blk_drew ?_ | refine blk_alloc ?_ _)); refine blk_put (cs := #[.int .u64 (Go.bits .or .u64 (IntKind.u64.wrap (x198000_1 * 2)) (x198001_1 / 9223372036854775808)), .int .u64 (Go.bits .or .u64 (IntKind.u64.wrap (x198001_1 * 2)) (Go.bits .and .u64 (ji14) 1))]) ?_ 1 _ rfl; exact bu BK197.out⟩, ⟨by repeat (with_reducible first | exact HB.out | apply bA | apply bN | apply bD | refine bS ?_ ao)⟩⟩
         ·
          replace c32 := Bool.eq_false_iff.mpr c32
          subst c32
          rw [if_neg Bool.false_ne_true] at H
          have H' := Aside0.mk H
          clear H
          go_wp2
          go_roundg kj21
          case measure => have := HK1.out; have := HJ14.out; have := HJ21.out; omega
          case rel => exact ⟨((IntKind.u64.wrap (x13_1 * 2))), (x14_14), (wrap64 (x15_1 - 1)), ((Go.bits .or .u64 (IntKind.u64.wrap (x198000_1 * 2)) (x198001_1 / 9223372036854775808))), ((Go.bits .or .u64 (IntKind.u64.wrap (x198001_1 * 2)) (Go.bits .and .u64 (ji14) 1))), (by first | rfl | (simp; done) | (simp [*]; done)), (by first | rfl | (simp; done) | (simp [*]; done)), (by first | rfl | (simp; done) | (simp [*]; done)), H', ⟨by have := HK1.out; have := HJ14.out; have := HJ21.out; omega⟩, ⟨bu BK196.out⟩, ⟨bu BK197.out⟩, ⟨by repeat (with_reducible first | exact HB.out | apply bA | apply bN | apply bD | refine bS ?_ ao)⟩⟩
    ·
     rw [if_neg c13] at H
     exact absurd H (by simp)
   ·
    rw [if_neg c11] at H
    have c11b0 : decide (0 ≤ x15_1) = false := decide_eq_false c11
    clear c11
    by_cases c37 : x14_1 = true
    ·
     subst c37
     rw [if_pos rfl] at H
     obtain rfl := Option.some.inj H
     go_wp2
     go_ret
     exact ⟨by first | rfl | (simp [errW_none, errW_some] <;> rfl) | (simp [*, errW_none, errW_some] <;> rfl), by repeat (with_reducible first | exact HB.out | apply bA | apply bN | apply bD | refine bS ?_ ao)⟩
    ·
     replace c37 := Bool.eq_false_iff.mpr c37
     subst c37
     rw [if_neg Bool.false_ne_true] at H
     obtain ⟨ji38, hji38⟩ : ∃ j_ : Int, (mn x13_1 9223372036854775807) = j_ := ⟨_, rfl⟩
     first | rw [hji38] at H | simp only [hji38] at H
     have hji38_ : (if 9223372036854775807 < x13_1 then 9223372036854775807 else x13_1) = ji38 := hji38
     obtain rfl := Option.some.inj H
     go_wp2
     go_ret
     exact ⟨by first | rfl | (simp [errW_none, errW_some] <;> rfl) | (simp only [← hji38]; first | rfl | (simp [errW_none, errW_some] <;> rfl)) | (simp [*, errW_none, errW_some] <;> rfl), by repeat (with_reducible first | exact HB.out | apply bA | apply bN | apply bD | refine bS ?_ ao)⟩

end Go.Proofs.Ytbclnjinpcfpjaa.H
