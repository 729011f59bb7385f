/- Contracts of Go functions, walked by hand: each call comes to the Lean function beside it and leaves what was there before. -/
import Derived.Test.YtbclnjinpcfpjaaProg
import Derived.Below
import Derived.Deep.Draws
import Derived.Deep.AppendLies
import Derived.Maps.AppendAt
import Derived.OwnWalk
import Derived.Laws.BytesArg
import Derived.Laws.MakeOwn
import Derived.Laws.OwnMore
import Derived.Deep.OwnRows
import Derived.Tactics
import Derived.Lib.ConvBytes
import Derived.Laws.Slices
import Derived.WalkKit
import Derived.KernelRfl
import Derived.RowKit3
import Derived.Deep.LoopGhost
import Derived.Deep.QuietTactic
import Derived.BigQuiet
import Derived.WideLaws
import Derived.Deep.DeepCutAuto
import Derived.Deep.CutBlock
import Derived.Deep.RegionHeld3
import Derived.Laws.Rows
import Derived.Lib.AppendStr
import Derived.ArgAppend
import Derived.Laws.IdiomCopy
import Derived.OrdersHeld
import Derived.Laws.BitsLemmas
import Derived.RowKit
import Derived.WalkSpells
import Derived.WalkLawsBesides
import Derived.Laws.Bits64b
import Derived.Laws.BitsAllLaws
import Derived.Maps.OwnSet
import Derived.Test.YtbclnjinpcfpjaaVC
import Derived.Test.YtbclnjinpcfpjaaMA
namespace Go.Proofs.Ytbclnjinpcfpjaa.H
open Go.RowKit Go.Proofs.YtbclnjinpcfpjaaW.PrintWords Go.Proofs.YtbclnjinpcfpjaaW.PrintLast Go.Proofs.YtbclnjinpcfpjaaW.PrintMore
attribute [local go_sem] max2_int min2_int max_two min_two max_three min_three max_four min_four
set_option linter.unusedVariables false
set_option linter.unusedSimpArgs false

/-! ### tallymanref01.Reader: take, Fixed -/
theorem RRd.grown {P : Nat → Prop} {base : Nat} {W W1 : World} {g : Nat} {rest : List Int} {err : Int} {row : Option Nat} (h : RRd P base W g rest err) (hg : W.grownBy W1 row) (h1 : some g ≠ row) (h2 : ∀ k, P k → some k ≠ row) : RRd P base W1 g rest err := by
  obtain ⟨v, k1, k2, k3, k4, k5, k6⟩ := h
  exact ⟨v, blk_grown k1 hg h1, k2, Kd.V_grown k3 hg h2, fun k hk => by obtain ⟨cs', hc⟩ := k4 k hk; exact ⟨cs', blk_grown hc hg (h2 k hk)⟩, k5, k6⟩
theorem RRd.drew {P : Nat → Prop} {base : Nat} {W : World} {g : Nat} {rest : List Int} {err : Int} (h : RRd P base W g rest err) : RRd P base W.drew g rest err := h.below (below_drew (Below.refl _ _))
theorem RRd.lt {P : Nat → Prop} {base : Nat} {W : World} {g : Nat} {rest : List Int} {err : Int} (h : RRd P base W g rest err) : g < W.heap.size := by
  obtain ⟨v, h1, _⟩ := h
  exact blk_lt h1
set_option maxHeartbeats 1000000 in
set_option maxRecDepth 100000 in
theorem ref_take_off (P : Nat → Prop) (base g : Nat) (rest : List Int) (err n : Int) (w : World) (h : RRd P base w g rest err) (he : ¬ err = 0) :
    Calls Try.prog 102 #[.pointer (some ⟨g, 0, none⟩), .int .i64 n] w fun e w' => ∃ v0_ : Value, e = .returned (.tuple #[v0_, .bool false]) ∧ Kd.R (Kd.int .u8) 5 w' w.heap.size (fun _ => True) v0_ [] ∧ RRd P base w' g rest err ∧ OnlyAt w w' g := by
  have HR := Aside0.mk h
  obtain ⟨v, h1, h2⟩ := h
  have hc1 : w.cell? ⟨g, 1, none⟩ = some (.int .i64 err) := (blk_cell h1 1).trans rfl
  have e1 : (err == 0) = false := by simpa using he
  have e2 : (err != 0) = true := by simpa using he
  clear h1 h2 he
  go_enter Try.func102, Try.ntmps102
  go_wp2
  repeat (go_quiet (fail); try go_wp2)
  go_ret2
  exact ⟨_, rfl, Kd.R_nil _ _ _ _ _, by first | exact HR.out | exact HR.out.drewN _ | exact HR.out.drew | exact (HR.out.drewN _).drew, by repeat (first | exact OnlyAt.refl _ _ | apply OnlyAt.drew | apply OnlyAt.drewN)⟩
set_option maxHeartbeats 1000000 in
set_option maxRecDepth 100000 in
theorem ref_take_more (P : Nat → Prop) (base g : Nat) (rest : List Int) (n : Int) (w : World) (h : RRd P base w g rest 0) (hn : (rest.length : Int) < n) :
    Calls Try.prog 102 #[.pointer (some ⟨g, 0, none⟩), .int .i64 n] w fun e w' => ∃ v0_ : Value, e = .returned (.tuple #[v0_, .bool false]) ∧ Kd.R (Kd.int .u8) 5 w' w.heap.size (fun _ => True) v0_ [] ∧ RRd P base w' g rest 5 ∧ OnlyAt w w' g := by
  have HR := Aside0.mk h
  obtain ⟨v, h1, h2, ⟨A, c, rfl, _⟩, _⟩ := h
  have hc0 : w.cell? ⟨g, 0, none⟩ = some (.slice A rest.length c) := (blk_cell h1 0).trans rfl
  have hc1 : w.cell? ⟨g, 1, none⟩ = some (.int .i64 0) := (blk_cell h1 1).trans rfl
  have hf1 := blk_frozen h1 1
  have hd1 : decide ((rest.length : Int) < n) = true := decide_eq_true hn
  have hcn : ∀ q : Nat, ((w.drewN q).setCell ⟨g, 1, none⟩ (.int .i64 5)).cell? ⟨g, 1, none⟩ = some (.int .i64 5) := fun q => (blk_cell (blk_set (show (w.drewN q).heap[g]? = _ from h1) 1 (.int .i64 5)) 1).trans rfl
  have hcm : (w.setCell ⟨g, 1, none⟩ (.int .i64 5)).cell? ⟨g, 1, none⟩ = some (.int .i64 5) := (blk_cell (blk_set h1 1 (.int .i64 5)) 1).trans rfl
  clear h1 h2 hn
  go_enter Try.func102, Try.ntmps102
  go_wp2
  repeat (go_quiet (fail); try go_wp2)
  go_ret2
  exact ⟨_, rfl, Kd.R_nil _ _ _ _ _, by first | exact HR.out.err 5 | exact (HR.out.drewN _).err 5 | exact ((HR.out.err 5).drewN _) | exact ((HR.out.drewN _).err 5).drewN _, by repeat (first | exact OnlyAt.refl _ _ | apply OnlyAt.set | apply OnlyAt.drew | apply OnlyAt.drewN)⟩
set_option maxHeartbeats 4000000 in
set_option maxRecDepth 100000 in
theorem ref_take_row (P : Nat → Prop) (base g : Nat) (rest : List Int) (k : Nat) (w : World) (h : RRd P base w g rest 0) (hk : k ≤ rest.length) (xs : List Int) (hxs : xs = rest.take k) :
    Calls Try.prog 102 #[.pointer (some ⟨g, 0, none⟩), .int .i64 k] w fun e w' => ∃ v0_ : Value, e = .returned (.tuple #[v0_, .bool true]) ∧ Kd.R (Kd.int .u8) 5 w' w.heap.size (fun _ => True) v0_ xs ∧ RRd P base w' g (rest.drop k) 0 ∧ OnlyAt w w' g := by
  have HR := Aside0.mk h
  have HK := Aside0.mk hk
  have HXS := Aside0.mk hxs
  obtain ⟨v, h1, h2, ⟨A, c, rfl, hl, hf⟩, h4, h5, h6⟩ := h
  have hc0 : w.cell? ⟨g, 0, none⟩ = some (.slice A rest.length c) := (blk_cell h1 0).trans rfl
  have hc1 : w.cell? ⟨g, 1, none⟩ = some (.int .i64 0) := (blk_cell h1 1).trans rfl
  have hd1 : decide ((rest.length : Int) < (k : Int)) = false := decide_eq_false (by omega)
  have hd2 : decide (rest.length < k) = false := decide_eq_false (by omega)
  have HL6 := Aside0.mk h6
  have HLC := Aside0.mk hl
  have HGW := Aside0.mk h1
  have HTY := Aside0.mk h4
  obtain ⟨i0, hi0, _, hsz, _⟩ := info_parts minfo_byte
  have hcut := cut_to (P := Try.prog) 33 5 .i64 Try.underlying33 hi0 A rest.length c (k : Int) (by omega) (by omega) hl
  rw [show ((k : Int)).toNat = k by omega] at hcut
  have hcut2 := cut_from (P := Try.prog) 33 5 .i64 Try.underlying33 hi0 1 hsz A rest.length c (k : Int) (by omega) (by omega)
  rw [show ((k : Int)).toNat = k by omega] at hcut2
  obtain ⟨A', hA'⟩ : ∃ A', A' = (if c = k then A else A.map (·.add (k * 1))) := ⟨_, rfl⟩
  obtain ⟨c', hc'⟩ : ∃ c', c' = c - k := ⟨_, rfl⟩
  rw [← hA', ← hc'] at hcut2
  have HA' := Aside0.mk hA'
  have HC' := Aside0.mk hc'
  have HF : Aside0 (Kd.C (Kd.int .u8) w A k xs) := ⟨by
    have h := Kd.C_take (m := k) (Kd.F_now hf) hk
    rw [← hxs] at h
    have e : xs.length = k := by rw [hxs, List.length_take]; omega
    rwa [e] at h⟩
  have p1 : (k : Int) ≤ (rest.length : Int) := by omega
  have p0 : (0 : Int) ≤ (k : Int) := by omega
  clear h1 h2 hl hf h4 h5 h6 hk hxs hA' hc' hi0 hsz
  go_enter Try.func102, Try.ntmps102
  have HB := Aside0.mk (Below.refl w.heap.size w)
  go_wp2_with (first
    | ((with_reducible refine gate_dst (N := 29) rfl ?_); refine Kd.R_lit (Kd.int .u8) _ 5 ?hg (N := 29) ?hd (xs := ([] : List Int)) (inner := []) (ok := fun _ => True) (okp := fun _ => True) ?hr ?hp (fun _ hk => hk) trivial (Below.refl _ _) (Nat.le_refl _) (by simp) ?_; (case hd => rfl); (case hg => rfl); (case hr => first | (go_simp; done) | (go_simp; rfl)); (case hp => exact (Reps.none _ _)); intro v3 w3 ho3 hb3 hg3 hnew3; obtain ⟨b3, hb3e, hb3l⟩ := hnew3; have NG3 : Aside0 (some g ≠ v3.ownBlock) := ⟨by rw [hb3e]; intro h; injection h with h; have := blk_lt HGW.out; omega⟩; have NR3 : Aside0 (∀ k, P k → some k ≠ v3.ownBlock) := ⟨fun k hk => by rw [hb3e]; intro h; injection h with h; obtain ⟨cs, hty⟩ := HTY.out k hk; have := blk_lt hty; omega⟩; have HO3 := Aside0.mk ho3; have HR3 := Aside0.mk (HR.out.below hb3); have HF3 := Aside0.mk (Kd.C_below HF.out hb3); have HB3 := Aside0.mk hb3; have hc3 : w3.cell? ⟨g, 0, none⟩ = some (.slice A rest.length c) := (blk_cell (blk_below HGW.out hb3) 0).trans rfl; clear ho3 hb3 hg3 hb3e hb3l)
    | ((with_reducible refine gate_builtin (b := .append) (xs := #[.tmp 29, .tmp 35]) rfl ?_); at_builtin; refine Kd.R_append_rows (Kd.int .u8) (w0 := w) w.heap.size rfl (.tmp 29) (.tmp 35) 33 5 (.int .u8 0) 1 rfl Try.underlying33 minfo_byte rfl (by decide) (by omega) v3 [] xs _ _ _ (fun _ => True) (fun _ => False) rfl rfl ?aO ?aR (fun _ _ h => h) (fun _ h => h.elim) ?aF ?aB ?aS ?aL ?_; (case aR => exact HF3.out); (case aB => exact HB3.out); (case aF => exact (fun _ _ => trivial)); (case aO => exact HO3.out); (case aS => exact HB3.out.size); (case aL => have := HK.out; have := HL6.out; simp only [List.length_nil]; omega); intro v4 w4 ho hb hg hat; rw [List.nil_append] at ho; have HR4 := Aside0.mk (HR3.out.grown hg NG3.out NR3.out); have HB4 := Aside0.mk hb; have HO4 := Aside0.mk ho; have HCUT := Aside0.mk (HR4.out.cut k HK.out); have hg4 := blk_grown (blk_below HGW.out HB3.out) hg NG3.out; have hc4 : w4.cell? ⟨g, 0, none⟩ = some (.slice A rest.length c) := (blk_cell hg4 0).trans rfl; have hf4 := blk_frozen hg4 0; have HTY4 : Aside0 (Kd.R (Kd.int .u8) 5 w4 w.heap.size (fun k => True ∧ k ≠ g) v4 xs) := ⟨Kd.R_types ho hg4 (by decide)⟩; obtain ⟨A4, c4, ev⟩ := Kd.R_slice ho; subst ev; clear hg4 ho hb hg hat))
  go_ret2
  obtain ⟨A0, A1, c0, c1, e0, e1, e2, e3, e4⟩ := HCUT.out
  rw [hc4] at e0
  injection e0 with e0
  injection e0 with ea en ec
  subst ea ec
  rw [← HA'.out] at e2
  rw [← HC'.out] at e3
  subst e2 e3
  exact ⟨_, rfl, Kd.R_mono (Kd.R_far HTY4.out (fun k hk => hk.2) _) (fun _ _ => trivial), e4, (OnlyAt.of_below HB4.out).set 0 _⟩

end Go.Proofs.Ytbclnjinpcfpjaa.H
