/- Contracts of Go functions, walked by hand: each call comes to the Lean function beside it and leaves what was there before. -/
import Derived.Test.YtbclnjinpcfpjaaProg
import Derived.Below
import Derived.Deep.Draws
import Derived.Deep.AppendLies
import Derived.Maps.AppendAt
import Derived.OwnWalk
import Derived.Laws.BytesArg
import Derived.Laws.MakeOwn
import Derived.Laws.OwnMore
import Derived.Deep.OwnRows
import Derived.Tactics
import Derived.Lib.ConvBytes
import Derived.Laws.Slices
import Derived.WalkKit
import Derived.KernelRfl
import Derived.RowKit3
import Derived.Deep.LoopGhost
import Derived.Deep.QuietTactic
import Derived.BigQuiet
import Derived.WideLaws
import Derived.Deep.DeepCutAuto
import Derived.Deep.CutBlock
import Derived.Deep.RegionHeld3
import Derived.Laws.Rows
import Derived.Lib.AppendStr
import Derived.ArgAppend
import Derived.Laws.IdiomCopy
import Derived.OrdersHeld
import Derived.Laws.BitsLemmas
import Derived.RowKit
import Derived.WalkSpells
import Derived.WalkLawsBesides
import Derived.Laws.Bits64b
import Derived.Laws.BitsAllLaws
import Derived.Maps.OwnSet
import Derived.Test.YtbclnjinpcfpjaaWWords
import Derived.Test.YtbclnjinpcfpjaaWLast
import Derived.Test.YtbclnjinpcfpjaaWMore
import Derived.Test.YtbclnjinpcfpjaaH0
import Derived.Test.YtbclnjinpcfpjaaWArr
import Derived.Test.YtbclnjinpcfpjaaWEqStruct
import Derived.Test.YtbclnjinpcfpjaaWInv
import Derived.Test.YtbclnjinpcfpjaaWKept
import Derived.Test.YtbclnjinpcfpjaaWMore
import Derived.Maps.OwnSet
import Derived.Maps.OwnOps
namespace Go.Proofs.Ytbclnjinpcfpjaa.H
open Go.RowKit Go.Proofs.YtbclnjinpcfpjaaW.PrintWords Go.Proofs.YtbclnjinpcfpjaaW.PrintLast Go.Proofs.YtbclnjinpcfpjaaW.PrintMore
attribute [local go_sem] max2_int min2_int max_two min_two max_three min_three max_four min_four
set_option linter.unusedVariables false
set_option linter.unusedSimpArgs false


/-! ### A map of whole numbers, told by the list of what was put into it -/
open Go.Maps in
def mD (M : List S32) : DataW Unit := M.foldl (fun D e => D.put (.int .i64 e.f0) (.lit (.int .i64 e.f1))) (.map [])
theorem mD_snoc (M : List S32) (k v : Int) : mD (M ++ [⟨k, v⟩]) = (mD M).put (.int .i64 k) (.lit (.int .i64 v)) := by
  unfold mD
  rw [List.foldl_append]
  rfl
def mget (M : List S32) (k : Int) : Int := M.foldl (fun v e => if e.f0 = k then e.f1 else v) 0
theorem mget_snoc (M : List S32) (k v x : Int) : mget (M ++ [⟨k, v⟩]) x = if k = x then v else mget M x := by
  unfold mget
  rw [List.foldl_append]
  rfl
def mput (M : List S32) (k v : Int) : List S32 := M ++ [⟨k, v⟩]
theorem mD_isMap (M : List S32) : Maps.IsMap (mD M) := by
  unfold mD
  generalize hD : (DataW.map [] : DataW Unit) = D
  have h0 : Maps.IsMap D := hD ▸ Maps.isMap_empty
  clear hD
  induction M generalizing D with
  | nil => exact h0
  | cons a r ih =>
    refine ih _ ?_
    obtain ⟨es, rfl⟩ := h0
    exact ⟨_, rfl⟩
theorem mD_at (x : Int) (M : List S32) : (mD M).atKey (.int .i64 x) (.lit (.int .i64 0)) = .lit (.int .i64 (mget M x)) := by
  have key : ∀ r : List S32, (mD r.reverse).atKey (.int .i64 x) (.lit (.int .i64 0)) = .lit (.int .i64 (mget r.reverse x)) := by
    intro r
    induction r with
    | nil => rfl
    | cons a r ih =>
      obtain ⟨k, v⟩ := a
      rw [List.reverse_cons, mD_snoc, mget_snoc]
      by_cases e : k = x
      · subst e
        rw [Maps.atKey_put_same (mD_isMap _) (by trivial), if_pos rfl]
      · rw [Maps.atKey_put_other (by intro h; injection h with _ h; exact e h.symm), ih, if_neg e]
  have := key M.reverse
  rwa [List.reverse_reverse] at this
def mlen (M : List S32) : Int := (Maps.size (mD M) : Int)
theorem zero_int (w : World) : (zeroValue 3).run Try.prog w = .ok (.int .i64 0) w := by kernel_rfl
abbrev OwnsM (w : World) (mb n : Nat) (M : List S32) : Prop := w.ownsMap Try.prog 3 (plainElem (H := Unit) Try.prog 3) mb n (mD M)
/-- What a map is in a world is in each world that has the same block there. -/
theorem ownsM_form {w : World} {mb n : Nat} {M : List S32} (h : OwnsM w mb n M) : ∃ es c, w.heap[mb]? = some (.map es c) ∧ ∀ W : World, W.heap[mb]? = some (.map es c) → OwnsM W mb n M := by
  obtain ⟨es, c, hb, F, hn, hD⟩ := h
  exact ⟨es, c, hb, fun W hW => ⟨es, c, hW, F, hn, hD⟩⟩
/-- A row of cells stays where a map is turned. -/
theorem R_map {α : Type} {d : Kd α} {e base mb : Nat} {w w1 : World} {ok : Nat → Prop} {v : Value} {xs : List α} {es : Array MapEntry} {c : Nat} (h : Kd.R d e w base ok v xs) (hb : w.heap[mb]? = some (.map es c)) (hg : w.grownBy w1 (some mb)) : Kd.R d e w1 base ok v xs := by
  refine Kd.R_mono (Kd.R_grown (Kd.R_mono (Kd.R_bound h) (ok' := fun k => ok k ∧ k ≠ mb) (fun k hk => ⟨hk.1, ?_⟩)) hg (fun k hk e_ => hk.2 (by injection e_))) (fun k hk => hk.1)
  obtain ⟨_, _, _, q, hq, cells', hc⟩ := hk
  rintro rfl
  rw [hc] at hb
  injection hb with hb
  cases hb
theorem blk_grown {w w1 : World} {g mb : Nat} {o : Obj} (h : w.heap[g]? = some o) (hg : w.grownBy w1 (some mb)) (hne : g ≠ mb) : w1.heap[g]? = some o :=
  (hg.block g (blk_lt h) (fun e_ => hne (by injection e_))).trans h
theorem keyed_int : Maps.Keyed Try.prog 3 := Maps.int_keyed Try.underlying3
theorem keyM {x : Int} (hx : (Lit.int .i64 x).wf = true) : keyOf Try.prog 3 (.int .i64 x) = some (.int .i64 x) := Maps.keyOf_int_mk Try.underlying3 hx
/-- best[x], read. -/
theorem lookM {w : World} {mb n : Nat} {M : List S32} (h : OwnsM w mb n M) {x : Int} (hx : (Lit.int .i64 x).wf = true) : (Instr.lookup 45 (.map (some mb)) (.int .i64 x) false).run Try.prog w = .ok (.int .i64 (mget M x)) w ∧ (Lit.int .i64 (mget M x)).wf = true := by
  obtain ⟨c, hrun, hat, hwc⟩ := h.lookup_int keyed_int Try.underlying45 Try.underlying3 (zero_int w) (keyM hx)
  rw [mD_at] at hat
  injection hat with hat
  injection hat with _ hat
  subst hat
  exact ⟨hrun, hwc⟩
/-- best[x] = v. -/
theorem putM {w : World} {mb n : Nat} {M : List S32} (h : OwnsM w mb n M) (hn : n < maxLen) {x v : Int} (hx : (Lit.int .i64 x).wf = true) (hv : (Lit.int .i64 v).wf = true) : ∃ w', (Instr.mapUpdate 45 (.map (some mb)) (.int .i64 x) (.int .i64 v)).run Try.prog w = .ok () w' ∧ OwnsM w' mb (n + 1) (mput M x v) ∧ w.grownBy w' (some mb) := by
  obtain ⟨w', h1, h2, h3⟩ := h.update keyed_int Try.underlying45 hn (keyM hx) (plainElem_int Try.underlying3 hv)
  refine ⟨w', h1, ?_, h3⟩
  unfold OwnsM mput
  rw [mD_snoc]
  exact h2
/-- len(best). -/
theorem lenM {w : World} {mb n : Nat} {M : List S32} (h : OwnsM w mb n M) (ty : TypeId) : (Builtin.len_ #[45] ty #[.map (some mb)]).run Try.prog w = .ok (.int .i64 (mlen M)) w := h.len Try.underlying45 ty
theorem ownsM_made (w : World) : OwnsM (w.alloc (.map #[] 0)) w.heap.size 0 [] := World.ownsMap_made _ _ _ _
section
variable {ops rest : List Oper} {o : Oper} {a : Act} {Q : Exit → Act → World → Prop} {W : World} {opsA : Array Oper}
/-- best := map[int]int{}. -/
theorem makeM_event (hg : o.guard = none) {N : Tmp} (hd : o.dst = some N) (ho : o.op = .makeMap 45 none)
    (h : ∀ mb, mb = W.heap.size → ∀ w1, OwnsM w1 mb 0 [] → Below W.heap.size W w1 → wpList Try.prog opsA Q rest (a.put (some N) (.map (some mb))) w1) : wpList Try.prog opsA Q (o :: rest) a W := by
  refine wpList_plain hg fun K hK => ?_
  have hrun := run_makeMap (P := Try.prog) 45 W
  unfold Oper.wp
  simp [execOp, ho, hrun, Result.andThen]
  have := hK _ _ (h _ rfl _ (ownsM_made W) (below_alloc (Below.refl _ _) _))
  rw [← hd] at this
  exact this
/-- best[x] = v. -/
theorem putM_event (hg : o.guard = none) {m x v : Operand} (ho : o.op = .mapUpdate 45 m x v) {mb n : Nat} {M : List S32} (hm : a.eval m = .map (some mb)) (hown : OwnsM W mb n M) (hn : n < maxLen) {kx kv : Int}
    (hx : a.eval x = .int .i64 kx) (hv : a.eval v = .int .i64 kv) (wx : (Lit.int .i64 kx).wf = true) (wv : (Lit.int .i64 kv).wf = true)
    (h : ∀ w1, OwnsM w1 mb (n + 1) (mput M kx kv) → W.grownBy w1 (some mb) → wpList Try.prog opsA Q rest (a.put o.dst undef) w1) : wpList Try.prog opsA Q (o :: rest) a W := by
  refine wpList_plain hg fun K hK => ?_
  obtain ⟨w1, hrun, h1, h2⟩ := putM hown hn wx wv
  unfold Oper.wp
  simp [execOp, ho, hm, hx, hv, hrun, Result.andThen]
  exact hK _ _ (h _ h1 h2)
end
theorem OwnsM.below {w w1 : World} {mb n : Nat} {M : List S32} (h : OwnsM w mb n M) (hb : Below w.heap.size w w1) : OwnsM w1 mb n M := World.ownsMap.kept h (grown_of_below hb none) (by simp)
theorem R_mapO {α : Type} {d : Kd α} {e base mb n : Nat} {w w1 : World} {ok : Nat → Prop} {v : Value} {xs : List α} {M : List S32} (h : Kd.R d e w base ok v xs) (hown : OwnsM w mb n M) (hg : w.grownBy w1 (some mb)) : Kd.R d e w1 base ok v xs := by
  obtain ⟨es, c, hb, _⟩ := ownsM_form hown
  exact R_map h hb hg
theorem blk_ne_new {w : World} {g m : Nat} {o : Obj} (hm : m = w.heap.size) (h : w.heap[g]? = some o) : g ≠ m := by
  have := blk_lt h
  omega
theorem shl_in (x s : Int) : -9223372036854775808 ≤ shl .i64 x s ∧ shl .i64 x s ≤ 9223372036854775807 := by
  unfold shl
  rw [i64_w]
  unfold wrap64
  omega
theorem wf64 {x : Int} (h1 : -9223372036854775808 ≤ x) (h2 : x ≤ 9223372036854775807) : (Lit.int .i64 x).wf = true := by
  simp [Lit.wf, IntKind.min, IntKind.max, IntKind.signed, IntKind.bits]
  omega
theorem wf_below_shl {x y s j : Int} (hj : shl .i64 y s = j) (h0 : decide (x < 0) = false) (h1 : decide (j ≤ x) = false) : (Lit.int .i64 x).wf = true := by
  have a := of_decide_eq_false h0
  have b := of_decide_eq_false h1
  have c := shl_in y s
  exact wf64 (by omega) (by omega)
theorem wf_below_wrap {x z : Int} (h0 : decide (x < 1) = false) (h1 : decide (wrap64 z < x) = false) : (Lit.int .i64 x).wf = true := by
  have a := of_decide_eq_false h0
  have b := of_decide_eq_false h1
  have c : wrap64 z ≤ 9223372036854775807 := by unfold wrap64; omega
  exact wf64 (by omega) (by omega)
theorem wf_mx {x y j : Int} (hj : mx x y = j) (h0 : (Lit.int .i64 x).wf = true) (h1 : (Lit.int .i64 y).wf = true) : (Lit.int .i64 j).wf = true := by
  rw [← hj]
  unfold mx
  split
  · exact h1
  · exact h0
theorem mput_len {M : List S32} {k v x n : Int} (h : (M.length : Int) = x) (h1 : decide (x < n) = true) (h2 : n ≤ 300) : ((mput M k v).length : Int) = wrap64 (x + 1) := by
  have a := of_decide_eq_true h1
  unfold mput wrap64
  rw [List.length_append, List.length_singleton]
  omega
theorem room_len {M : List S32} {x n : Int} (h : (M.length : Int) = x) (h1 : decide (x < n) = true) (h2 : n ≤ 300) : M.length < maxLen := by
  have a := of_decide_eq_true h1
  unfold maxLen
  omega

end Go.Proofs.Ytbclnjinpcfpjaa.H
