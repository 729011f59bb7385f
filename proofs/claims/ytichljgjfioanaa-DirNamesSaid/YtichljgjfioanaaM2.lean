/- Contracts of Go functions, walked by hand: each call comes to the Lean function beside it and leaves what was there before. -/
import Derived.Test.YtichljgjfioanaaProg
import Derived.Below
import Derived.Deep.Draws
import Derived.Deep.AppendLies
import Derived.Maps.AppendAt
import Derived.OwnWalk
import Derived.Laws.BytesArg
import Derived.Laws.MakeOwn
import Derived.Laws.OwnMore
import Derived.Deep.OwnRows
import Derived.Tactics
import Derived.Lib.ConvBytes
import Derived.Laws.Slices
import Derived.WalkKit
import Derived.KernelRfl
import Derived.RowKit3
import Derived.Deep.LoopGhost
import Derived.Deep.QuietTactic
import Derived.BigQuiet
import Derived.WideLaws
import Derived.Deep.DeepCutAuto
import Derived.Deep.CutBlock
import Derived.Deep.RegionHeld3
import Derived.Laws.Rows
import Derived.Lib.AppendStr
import Derived.ArgAppend
import Derived.Laws.IdiomCopy
import Derived.OrdersHeld
import Derived.Laws.BitsLemmas
import Derived.RowKit
import Derived.WalkSpells
import Derived.WalkLawsBesides
import Derived.Laws.Bits64b
import Derived.Laws.BitsAllLaws
import Derived.Maps.OwnSet
import Derived.Test.YtichljgjfioanaaVDN
import Derived.Test.YtichljgjfioanaaH0
import Derived.Test.YtichljgjfioanaaM1
import Derived.Test.YtichljgjfioanaaH3
import Derived.Laws.CopyOwn
import Derived.OwnWalk
import Derived.Shelf.RegionOpenPlain
namespace Go.Proofs.Ytichljgjfioanaa.H
open Go.RowKit Go.Proofs.YtichljgjfioanaaW.PrintWords Go.Proofs.YtichljgjfioanaaW.PrintLast Go.Proofs.YtichljgjfioanaaW.PrintMore
attribute [local go_sem] max2_int min2_int max_two min_two max_three min_three max_four min_four
set_option linter.unusedVariables false
set_option linter.unusedSimpArgs false


/-! ### slices.Repeat at whole numbers, twice -/
def slices_Repeat_int_int.f (l0 : List Int) (a1 : Int) : Option (List Int) := if a1 = 2 ∧ 1 ≤ l0.length ∧ l0.length ≤ 1024 then some (l0 ++ l0) else none
theorem mul_two (n : Nat) (h : n ≤ 1024) : bits_Mul.f (n : Int) 2 = some (0, ((2 * n : Nat) : Int)) := by
  have : ∀ m : Fin 1025, bits_Mul.f ((m.val : Nat) : Int) 2 = some (0, ((2 * m.val : Nat) : Int)) := by decide +kernel
  exact this ⟨n, by omega⟩
theorem R_block {w : World} {g base : Nat} {xs : List Int} (hb : base ≤ g) (hh : w.heap[g]? = some (.cells (encs (Value.int .i64) xs).toArray 3 (0, 0))) (hm : xs.length ≤ maxLen) : Kd.R (Kd.int .i64) 3 w base (fun _ => True) (.slice (some ⟨g, 0, none⟩) xs.length xs.length) xs :=
  ⟨fun _ _ => trivial, encs (Value.int .i64) xs, ⟨by simp [encs, Kd.int, Kd.scalar], .inr ⟨g, xs.length, _, rfl, hb, hh, Nat.le_refl _, hm, by simp [encs, Kd.int, Kd.scalar], by simp [encs, Kd.int, Kd.scalar]; exact List.take_of_length_le (by simp)⟩⟩, Kd.reps_scalar xs⟩
theorem splice_head {z c : List Value} (h : c.length ≤ z.length) : (splice z 0 c).take c.length = c ∧ (splice z 0 c).length = z.length := by
  unfold splice
  refine ⟨by rw [List.take_zero, List.nil_append, List.take_append_of_le_length (Nat.le_refl _), List.take_length], by simp; omega⟩
theorem splice_two {z c : List Value} (h : z.length = c.length + c.length) : splice (splice z 0 c) c.length c = c ++ c := by
  have h1 := splice_head (z := z) (c := c) (by omega)
  show (splice z 0 c).take c.length ++ (c ++ (splice z 0 c).drop (c.length + c.length)) = _
  rw [h1.1, List.drop_of_length_le (by rw [h1.2, h]; exact Nat.le_refl _), List.append_nil]
theorem encs_one (xs : List Int) : ∀ v ∈ encs (Value.int .i64) xs, v.oneCell' = true := by
  intro v hv
  unfold encs at hv
  obtain ⟨x, _, rfl⟩ := List.mem_map.1 hv
  rfl
section
variable {ops rest : List Oper} {o : Oper} {a : Act} {Q : Exit → Act → World → Prop} {W : World} {opsA : Array Oper}
/-- make([]int, m). -/
theorem mk_event (hg : o.guard = none) {N : Tmp} (hd : o.dst = some N) {x y : Operand} (ho : o.op = .makeSlice 42 x y) {m : Nat} (hm : m * 8 ≤ 281474976710656) (hx : a.eval x = .int .i64 (m : Int)) (hy : a.eval y = .int .i64 (m : Int))
    (h : ∀ g, g = W.heap.size → ∀ w1, Aside0 (w1.heap[g]? = some (.cells (List.replicate m (Value.int .i64 0)).toArray 3 (0, 0))) → Below W.heap.size W w1 → wpList Try.prog opsA Q rest (a.put (some N) (.slice (some ⟨g, 0, none⟩) m m)) w1) : wpList Try.prog opsA Q (o :: rest) a W := by
  refine wpList_plain hg fun K hK => ?_
  have hrun := print_make_of (P := Try.prog) 42 3 (.int .i64 0) 8 Try.underlying42 minfo_int rfl (by decide) m hm W
  unfold Oper.wp
  simp only [execOp, ho, hx, hy, hrun, Sem.run_bind, Sem.run_pure, Result.andThen_ok]
  have hl : (madeCells #[(Value.int .i64 0)] m) = (List.replicate m (Value.int .i64 0)).toArray := by
    apply Array.ext_getElem?
    intro i
    by_cases hi : i < m
    · rw [Array.getElem?_eq_getElem (by rw [size_madeCells]; exact hi)]
      simp [madeCells, hi, Nat.mod_one]
    · rw [Array.getElem?_eq_none (by rw [size_madeCells]; omega)]
      simp [hi]
  have := hK _ _ (h _ rfl (W.alloc (.cells (madeCells #[(Value.int .i64 0)] m) 3)) ⟨by rw [hl]; show (W.heap.push _)[W.heap.size]? = _; simp⟩ (below_alloc (Below.refl _ _) _))
  rw [← hd] at this
  exact this
end
set_option maxHeartbeats 8000000 in
set_option maxRecDepth 100000 in
theorem slices_Repeat_int_int.calls (A0 : Option Addr) (c0 : Nat) (l0 : List Int) (a1 : Int) (r : List Int) (w : World) (hr0 : Kd.C (Kd.int .i64) w A0 l0.length l0) (hc0 : l0.length ≤ c0) (h : slices_Repeat_int_int.f l0 a1 = some r) :
    Calls Try.prog 77 #[.slice A0 l0.length c0, .int .i64 a1] w fun e w' => ∃ v0_ : Value, e = .returned v0_ ∧ Kd.R (Kd.int .i64) 3 w' w.heap.size (fun _ => True) v0_ r ∧ Below w.heap.size w w' := by
  unfold slices_Repeat_int_int.f at h
  split at h
  case isFalse => cases h
  case isTrue hl =>
  obtain ⟨rfl, h1, h2⟩ := hl
  obtain rfl := Option.some.inj h
  clear h
  obtain ⟨_, _, hrd⟩ := hr0
  obtain ⟨ad, rfl, hcells⟩ := hrd (by omega)
  obtain ⟨n, hn⟩ : ∃ n : Nat, n = l0.length := ⟨_, rfl⟩
  obtain ⟨m, hm⟩ : ∃ m : Nat, m = 2 * l0.length := ⟨_, rfl⟩
  obtain ⟨cs, hcs⟩ : ∃ cs : List Value, cs = encs (Value.int .i64) l0 := ⟨_, rfl⟩
  have hcl : cs.length = n := by rw [hcs, hn]; simp [encs]
  have hone : ∀ v ∈ cs, v.oneCell' = true := by rw [hcs]; exact encs_one l0
  have hsrc : ∀ j v, cs[j]? = some v → w.cell? (ad.add j) = some v := by
    intro j v hj
    rw [hcs] at hj
    unfold encs at hj
    rw [List.getElem?_map] at hj
    obtain ⟨x, hx, rfl⟩ := Option.map_eq_some_iff.1 hj
    obtain ⟨c, hc1, hc2, hc3⟩ := hcells j x hx
    have hc4 : c = [Value.int .i64 x] := hc2
    have := hc3 0 (Value.int .i64 x) (by rw [hc4]; rfl)
    simpa [Kd.int, Kd.scalar] using this
  have AM : Aside0 (bits_Mul.f (n : Int) 2 = some (0, (m : Int))) := ⟨by rw [hn, hm]; exact mul_two _ h2⟩
  have hwn : IntKind.u64.wrap (n : Int) = (n : Int) := by simp [IntKind.wrap, IntKind.signed, IntKind.bits]; omega
  have hwm : IntKind.i64.wrap (m : Int) = (m : Int) := by rw [i64_w]; unfold wrap64; omega
  have hwm2 : wrap64 (m : Int) = (m : Int) := by unfold wrap64; omega
  have hws : wrap64 ((n : Int) + (n : Int)) = (m : Int) := by unfold wrap64; omega
  have hws2 : IntKind.i64.wrap ((n : Int) + (n : Int)) = (m : Int) := by rw [i64_w]; exact hws
  have d1 : decide ((9223372036854775807 : Int) < (m : Int)) = false := decide_eq_false (by omega)
  have d2 : decide ((n : Int) < (m : Int)) = true := decide_eq_true (by omega)
  have d3 : decide ((m : Int) < (m : Int)) = false := decide_eq_false (by omega)
  have d2n : decide (n < m) = true := decide_eq_true (by omega)
  have d4 : decide ((n : Int) ≤ (m : Int)) = true := decide_eq_true (by omega)
  have d4n : decide (n ≤ m) = true := decide_eq_true (by omega)
  have d5 : decide ((0 : Int) ≤ (n : Int)) = true := decide_eq_true (by omega)
  have e1 : ((m : Int) - (n : Int)).toNat = n := by omega
  have e2 : m - n = n := by omega
  have p4 : (n ≤ m) = True := eq_true (by omega)
  have ne1 : (m = n) = False := eq_false (by omega)
  have ne2 : (n = m) = False := eq_false (by omega)
  have p2 : (n < m) = True := eq_true (by omega)
  have SRC := Aside0.mk hsrc
  have CL := Aside0.mk hcl
  have NM := Aside0.mk (show m = n + n ∧ 1 ≤ n ∧ n ≤ 1024 ∧ n = l0.length from ⟨by omega, by omega, by omega, hn⟩)
  have CS := Aside0.mk hcs
  have ONE := Aside0.mk hone
  have HB := Aside0.mk (Below.refl w.heap.size w)
  rw [← hn]
  clear hn hsrc hcl hm hcs hone hcells hrd h1 h2 hc0
  go_enter Try.func77, Try.ntmps77
  go_wp2_with (first
    | (go_at_call 105; (with_reducible refine (bits_Mul.calls (n : Int) 2 0 (m : Int) _ AM.out).mono ?_); rintro e w' ⟨rfl, ⟨nd, rfl⟩⟩)
    | (at_make; refine mk_event (m := m) rfl rfl rfl (by have := NM.out; omega) (by simp [Act.eval, *]) (by simp [Act.eval, *]) ?_; intro g hg w2 HG hb; have n0_ := Aside0.mk (below_step (by repeat (first | (with_reducible first | exact HB.out | apply below_alloc | apply pw_below_drewN | apply below_drew1) | exact HB.out)) hb); have GE : Aside0 (w.heap.size ≤ g) := ⟨by rw [hg]; exact below_size (by repeat (first | (with_reducible first | exact HB.out | apply below_alloc | apply pw_below_drewN | apply below_drew1) | exact HB.out))⟩; clear HB hb hg; have HB := n0_; clear n0_)
    | ((with_reducible refine gate_builtin (b := .copy) (xs := #[.tmp 31, .tmp 32]) rfl ?_); refine wpList_copy_splice rfl (.tmp 31) (.tmp 32) 42 42 rfl 3 Try.underlying42 (by kernel_rfl) (some ⟨g, 0, none⟩) (some ad) m m n c0 rfl rfl g 0 (List.replicate m (Value.int .i64 0)) 3 HG.out cs (by have h1 := NM.out; have h2 := CL.out; rw [h2]; show n = min n m; omega) (fun _ => ⟨rfl, ad, rfl, fun j v hj => (HB.out.cell (World.block_lt_of_cell? w _ (SRC.out j v hj))).trans (SRC.out j v hj)⟩) (by have h1 := NM.out; have h2 := CL.out; simp; omega) ONE.out w.heap.size w HB.out GE.out ?_; intro w3 hH hb; have n0_ := Aside0.mk hb; have HG2 := Aside0.mk hH.out; clear HB hb hH HG; have HB := n0_; clear n0_))
  go_loopg [8] 1 (fun kq v8 w' => ∃ x8 : Int, v8 = .int .i64 x8 ∧ Aside0 (∃ L : List Value, w'.heap[g]? = some (.cells L.toArray 3 (0, 0)) ∧ ((kq = 1 ∧ x8 = (n : Int) ∧ L = splice (List.replicate m (Value.int .i64 0)) 0 cs) ∨ (kq = 0 ∧ x8 = (m : Int) ∧ L = cs ++ cs))) ∧ Aside0 (Below w.heap.size w w'))
  case atStart => exact ⟨(n : Int), (by first | rfl | (simp; done) | (simp [*]; done) | (simp [CL.out]; done)), ⟨_, HG2.out, .inl ⟨rfl, rfl, rfl⟩⟩, HB⟩
  case round =>
    clear HG2 HB
    obtain ⟨x8, rfl, HL, HB⟩ := hrel
    obtain ⟨L, hL, hc⟩ := HL.out
    rcases hc with ⟨hk, hx, hLe⟩ | ⟨hk, hx, hLe⟩
    · subst hk hx
      have HG3 := Aside0.mk hL
      have HLE := Aside0.mk hLe
      clear hL hLe HL
      go_wp2
      have HP : Aside0 (∀ j v, cs[j]? = some v → wr.drew.cell? ((⟨g, 0, none⟩ : Addr).add j) = some v) := ⟨by
        intro j v hj
        have h1 := NM.out
        have h2 := CL.out
        have h3 := (splice_head (z := List.replicate m (Value.int .i64 0)) (c := cs) (by rw [List.length_replicate]; omega)).1
        rw [← HLE.out] at h3
        rw [Addr.add_lit, Nat.zero_add, blk_cell (blk_drew HG3.out) j, ← hj, ← h3]
        have hlt : j < cs.length := (List.getElem?_eq_some_iff.1 hj).1
        rw [List.getElem?_toArray, List.getElem?_take, if_pos hlt]⟩
      have HF : Aside0 (n + cs.length ≤ L.length) := ⟨by
        have h1 := NM.out
        have h2 := CL.out
        rw [HLE.out, (splice_head (z := List.replicate m (Value.int .i64 0)) (c := cs) (by rw [List.length_replicate]; omega)).2, List.length_replicate]
        omega⟩
      have HS : Aside0 (splice L n cs = cs ++ cs) := ⟨by
        have h1 := NM.out
        have h2 := CL.out
        rw [HLE.out, ← h2]
        exact splice_two (by rw [List.length_replicate]; omega)⟩
      go_region_law_o (refine step_copy_splice rfl _ _ 42 42 rfl 3 Try.underlying42 (by kernel_rfl) (some ⟨g, n, none⟩) (some ⟨g, 0, none⟩) n n n m (by simp [Act.eval, Act.put, ne1, ne2, e2]) (by simp [Act.eval, Act.put, ne1, ne2, e2]) g n _ 3 HG3.out cs (by have h2 := CL.out; rw [h2]; show n = min n n; omega) (fun _ => ⟨rfl, _, rfl, HP.out⟩) HF.out ONE.out w.heap.size w (below_drew1 HB.out) GE.out ?_; intro w4 hH hb; have HG4 := Aside0.mk hH.out; have n0_ := Aside0.mk hb; clear HB hH hb; have HB := n0_; clear n0_)
      go_wp2
      go_roundg 0
      case measure => omega
      case rel => exact ⟨(m : Int), (by first | rfl | (simp [CL.out, hws2]; done) | (simp; done) | (simp [CL.out, hws]; done) | (simp [*]; done)), ⟨_, HG4.out, .inr ⟨rfl, rfl, HS.out⟩⟩, HB⟩
    · subst hk hx
      have HG3 := Aside0.mk hL
      have HLE := Aside0.mk hLe
      clear hL hLe HL
      go_wp2
      go_ret
      have hr := NM.out
      refine ⟨_, rfl, ?_, HB.out⟩
      have hll : (l0 ++ l0).length = m := by rw [List.length_append]; omega
      have := R_block (xs := l0 ++ l0) (w := wr) (g := g) GE.out (by rw [HG3.out, HLE.out, CS.out]; simp [encs]) (by rw [hll]; unfold maxLen; omega)
      rw [hll] at this
      exact this

end Go.Proofs.Ytichljgjfioanaa.H
