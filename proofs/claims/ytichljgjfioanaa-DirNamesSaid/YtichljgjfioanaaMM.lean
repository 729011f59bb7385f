/- Contracts of Go functions, walked by hand: each call comes to the Lean function beside it and leaves what was there before. -/
import Derived.Test.YtichljgjfioanaaProg
import Derived.Below
import Derived.Deep.Draws
import Derived.Deep.AppendLies
import Derived.Maps.AppendAt
import Derived.OwnWalk
import Derived.Laws.BytesArg
import Derived.Laws.MakeOwn
import Derived.Laws.OwnMore
import Derived.Deep.OwnRows
import Derived.Tactics
import Derived.Lib.ConvBytes
import Derived.Laws.Slices
import Derived.WalkKit
import Derived.KernelRfl
import Derived.RowKit3
import Derived.Deep.LoopGhost
import Derived.Deep.QuietTactic
import Derived.BigQuiet
import Derived.WideLaws
import Derived.Deep.DeepCutAuto
import Derived.Deep.CutBlock
import Derived.Deep.RegionHeld3
import Derived.Laws.Rows
import Derived.Lib.AppendStr
import Derived.ArgAppend
import Derived.Laws.IdiomCopy
import Derived.OrdersHeld
import Derived.Laws.BitsLemmas
import Derived.RowKit
import Derived.WalkSpells
import Derived.WalkLawsBesides
import Derived.Laws.Bits64b
import Derived.Laws.BitsAllLaws
import Derived.Maps.OwnSet
import Derived.Test.YtichljgjfioanaaVDN
import Derived.Test.YtichljgjfioanaaH0
import Derived.Maps.OwnSet
import Derived.Maps.OwnOps
namespace Go.Proofs.Ytichljgjfioanaa.H
open Go.RowKit Go.Proofs.YtichljgjfioanaaW.PrintWords Go.Proofs.YtichljgjfioanaaW.PrintLast Go.Proofs.YtichljgjfioanaaW.PrintMore
attribute [local go_sem] max2_int min2_int max_two min_two max_three min_three max_four min_four
set_option linter.unusedVariables false
set_option linter.unusedSimpArgs false


/-! ### A map of whole numbers, told by the log of what was put into it and struck out of it -/
abbrev LogM := List (Int × Option Int)
open Go.Maps in
def mD1 (D : DataW Unit) (e : Int × Option Int) : DataW Unit := match e.2 with
  | some v => D.put (.int .i64 e.1) (.lit (.int .i64 v))
  | none => D.del (.int .i64 e.1)
def mD (M : LogM) : DataW Unit := M.foldl mD1 (.map [])
def mput (M : LogM) (k v : Int) : LogM := M ++ [(k, some v)]
def mdel (M : LogM) (k : Int) : LogM := M ++ [(k, none)]
theorem mD_snoc (M : LogM) (e : Int × Option Int) : mD (M ++ [e]) = mD1 (mD M) e := by
  unfold mD
  rw [List.foldl_append]
  rfl
theorem mD_put (M : LogM) (k v : Int) : mD (mput M k v) = (mD M).put (.int .i64 k) (.lit (.int .i64 v)) := mD_snoc M (k, some v)
theorem mD_del (M : LogM) (k : Int) : mD (mdel M k) = (mD M).del (.int .i64 k) := mD_snoc M (k, none)
def mget1 (x v : Int) (e : Int × Option Int) : Int := if e.1 = x then e.2.getD 0 else v
def mget (M : LogM) (x : Int) : Int := M.foldl (mget1 x) 0
theorem mget_put (M : LogM) (k v x : Int) : mget (mput M k v) x = if k = x then v else mget M x := by
  unfold mget mput
  rw [List.foldl_append]
  rfl
theorem mget_del (M : LogM) (k x : Int) : mget (mdel M k) x = if k = x then 0 else mget M x := by
  unfold mget mdel
  rw [List.foldl_append]
  rfl
def mhas (M : LogM) (x : Int) : Bool := Maps.has (mD M) (.int .i64 x)
def mlen (M : LogM) : Int := (Maps.size (mD M) : Int)
theorem mD_tidy (M : LogM) : Maps.Tidy (mD M) := by
  unfold mD
  generalize hD : (DataW.map [] : DataW Unit) = D
  have h0 : Maps.Tidy D := hD ▸ Maps.tidy_empty
  clear hD
  induction M generalizing D with
  | nil => exact h0
  | cons a r ih =>
    refine ih _ ?_
    obtain ⟨k, v⟩ := a
    cases v with
    | none => exact h0.del _
    | some v => exact h0.put (by trivial) _
theorem mkey_ne {k x : Int} (e : ¬ k = x) : (Lit.int .i64 x) ≠ .int .i64 k := by
  intro h
  injection h with _ h
  exact e h.symm
theorem mhas_put (M : LogM) (k v x : Int) : mhas (mput M k v) x = if k = x then true else mhas M x := by
  unfold mhas
  rw [mD_put]
  by_cases e : k = x
  · subst e
    rw [Maps.has_put_same (mD_tidy M).isMap (by trivial), if_pos rfl]
  · rw [Maps.has_put_other (mkey_ne e), if_neg e]
theorem mhas_del (M : LogM) (k x : Int) : mhas (mdel M k) x = if k = x then false else mhas M x := by
  unfold mhas
  rw [mD_del]
  by_cases e : k = x
  · subst e
    rw [Maps.has_del_same, if_pos rfl]
  · rw [Maps.has_del_other (mkey_ne e), if_neg e]
theorem mlen_put (M : LogM) (k v : Int) : mlen (mput M k v) = if mhas M k = true then mlen M else mlen M + 1 := by
  unfold mlen mhas
  rw [mD_put, Maps.size_put (mD_tidy M)]
  split <;> rfl
theorem mlen_del (M : LogM) (k : Int) : mlen (mdel M k) + (if mhas M k = true then 1 else 0) = mlen M := by
  have := Maps.size_del (mD_tidy M) (k := .int .i64 k)
  unfold mlen mhas
  rw [mD_del, ← this]
  split <;> rfl
theorem mD_at (x : Int) (M : LogM) : (mD M).atKey (.int .i64 x) (.lit (.int .i64 0)) = .lit (.int .i64 (mget M x)) := by
  have key : ∀ r : LogM, (mD r.reverse).atKey (.int .i64 x) (.lit (.int .i64 0)) = .lit (.int .i64 (mget r.reverse x)) := by
    intro r
    induction r with
    | nil => rfl
    | cons a r ih =>
      obtain ⟨k, v⟩ := a
      rw [List.reverse_cons]
      cases v with
      | none =>
        rw [show r.reverse ++ [(k, none)] = mdel r.reverse k from rfl, mD_del, mget_del]
        by_cases e : k = x
        · subst e
          rw [Maps.atKey_del_same, if_pos rfl]
        · rw [Maps.atKey_del_other (mkey_ne e), ih, if_neg e]
      | some v =>
        rw [show r.reverse ++ [(k, some v)] = mput r.reverse k v from rfl, mD_put, mget_put]
        by_cases e : k = x
        · subst e
          rw [Maps.atKey_put_same (mD_tidy _).isMap (by trivial), if_pos rfl]
        · rw [Maps.atKey_put_other (mkey_ne e), ih, if_neg e]
  have := key M.reverse
  rwa [List.reverse_reverse] at this
theorem zero_intm (w : World) : (zeroValue 3).run Try.prog w = .ok (.int .i64 0) w := by kernel_rfl
def OwnsM (w : World) (mb : Nat) (M : LogM) : Prop := w.ownsMap Try.prog 3 (plainElem (H := Unit) Try.prog 3) mb M.length (mD M)
theorem keyed_int' : Maps.Keyed Try.prog 3 := Maps.int_keyed Try.underlying3
theorem keyM {x : Int} (hx : (Lit.int .i64 x).wf = true) : keyOf Try.prog 3 (.int .i64 x) = some (.int .i64 x) := Maps.keyOf_int_mk Try.underlying3 hx
section
variable {w w1 : World} {mb : Nat} {M : LogM}
theorem own_lt (h : OwnsM w mb M) : mb < w.heap.size := World.ownsMap.lt h
theorem own_drewN (h : OwnsM w mb M) (n : Nat) : OwnsM (w.drewN n) mb M := h
theorem own_drew (h : OwnsM w mb M) : OwnsM w.drew mb M := h
theorem own_alloc (h : OwnsM w mb M) (o : Obj) : OwnsM (w.alloc o) mb M := World.ownsMap.alloc h o
theorem own_far (h : OwnsM w mb M) {p : Addr} (hp : mb ≠ p.block) (u : Value) : OwnsM (w.setCell p u) mb M := World.ownsMap.setCell h hp u
theorem own_grown (h : OwnsM w mb M) {row : Option Nat} (hg : w.grownBy w1 row) (hne : some mb ≠ row) : OwnsM w1 mb M := World.ownsMap.kept h hg hne
theorem own_below (h : OwnsM w mb M) (hb : Below w.heap.size w w1) : OwnsM w1 mb M := World.ownsMap.kept h (grown_of_below hb none) (by simp)
theorem own_fresh (h : OwnsM w mb M) : ∀ k, w.heap.size ≤ k → k ≠ mb := fun k hk => by have := own_lt h; omega
theorem own_look (h : OwnsM w mb M) {x : Int} (hx : (Lit.int .i64 x).wf = true) : (Instr.lookup 72 (.map (some mb)) (.int .i64 x) true).run Try.prog w = .ok (.tuple #[.int .i64 (mget M x), .bool (mhas M x)]) w ∧ (Lit.int .i64 (mget M x)).wf = true := by
  obtain ⟨v, ps, hrun, hv⟩ := World.ownsMap.look_ok h keyed_int' Try.underlying72 (zero_intm w) (plainElem_int Try.underlying3 (by decide)) (keyM hx)
  obtain ⟨c, rfl, hc, hwc⟩ := plainElem_int_inv Try.underlying3 hv
  have hat := congrArg Prod.fst hc
  dsimp only at hat
  rw [mD_at] at hat
  injection hat with hat
  injection hat with _ hat
  subst hat
  exact ⟨hrun, hwc⟩
theorem own_look1 (h : OwnsM w mb M) {x : Int} (hx : (Lit.int .i64 x).wf = true) : (Instr.lookup 72 (.map (some mb)) (.int .i64 x) false).run Try.prog w = .ok (.int .i64 (mget M x)) w ∧ (Lit.int .i64 (mget M x)).wf = true := by
  obtain ⟨c, hrun, hat, hwc⟩ := World.ownsMap.lookup_int h keyed_int' Try.underlying72 Try.underlying3 (zero_intm w) (keyM hx)
  rw [mD_at] at hat
  injection hat with hat
  injection hat with _ hat
  subst hat
  exact ⟨hrun, hwc⟩
theorem own_wf (h : OwnsM w mb M) {x : Int} (hx : (Lit.int .i64 x).wf = true) : (Lit.int .i64 (mget M x)).wf = true := (own_look h hx).2
theorem own_put (h : OwnsM w mb M) (hn : M.length < maxLen) {x v : Int} (hx : (Lit.int .i64 x).wf = true) (hv : (Lit.int .i64 v).wf = true) : ∃ w', (Instr.mapUpdate 72 (.map (some mb)) (.int .i64 x) (.int .i64 v)).run Try.prog w = .ok () w' ∧ OwnsM w' mb (mput M x v) ∧ w.grownBy w' (some mb) := by
  obtain ⟨w', h1, h2, h3⟩ := World.ownsMap.update h keyed_int' Try.underlying72 hn (keyM hx) (plainElem_int Try.underlying3 hv)
  refine ⟨w', h1, ?_, h3⟩
  unfold OwnsM
  rw [mD_put, show (mput M x v).length = M.length + 1 by simp [mput]]
  exact h2
theorem own_del (h : OwnsM w mb M) {x : Int} (hx : (Lit.int .i64 x).wf = true) (ty : TypeId) : ∃ w', (Builtin.delete_ #[72, 3] ty #[.map (some mb), .int .i64 x]).run Try.prog w = .ok (.tuple #[]) w' ∧ OwnsM w' mb (mdel M x) ∧ w.grownBy w' (some mb) := by
  obtain ⟨w', h1, h2, h3⟩ := World.ownsMap.drop h keyed_int' Try.underlying72 (keyM hx) ty
  refine ⟨w', h1, ?_, h3.grown⟩
  unfold OwnsM
  rw [mD_del]
  exact h2.mono (by simp [mdel])
theorem own_len (h : OwnsM w mb M) (ty : TypeId) : (Builtin.len_ #[72] ty #[.map (some mb)]).run Try.prog w = .ok (.int .i64 (mlen M)) w := World.ownsMap.len h Try.underlying72 ty
theorem own_made (w : World) : OwnsM (w.alloc (.map #[] 0)) w.heap.size [] := World.ownsMap_made _ _ _ _
end
theorem grown_ne {g m : Nat} (h : g ≠ m) : some g ≠ some m := fun e => h (by injection e)
theorem below_grown {w W W1 : World} {g : Nat} (h : Below w.heap.size w W) (hg : W.grownBy W1 (some g)) (hge : w.heap.size ≤ g) : Below w.heap.size w W1 :=
  h.grown hg (below_size h) (fun k hk => by injection hk with hk; rw [← hk]; exact hge)
section
variable {ops rest : List Oper} {o : Oper} {a : Act} {Q : Exit → Act → World → Prop} {W : World} {opsA : Array Oper}
/-- m := map[int]int{}. -/
theorem makeM_event (hg : o.guard = none) {N : Tmp} (hd : o.dst = some N) (ho : o.op = .makeMap 72 none)
    (h : ∀ mb, mb = W.heap.size → ∀ w1, OwnsM w1 mb [] → Below W.heap.size W w1 → wpList Try.prog opsA Q rest (a.put (some N) (.map (some mb))) w1) : wpList Try.prog opsA Q (o :: rest) a W := by
  refine wpList_plain hg fun K hK => ?_
  have hrun := run_makeMap (P := Try.prog) 72 W
  unfold Oper.wp
  simp [execOp, ho, hrun, Result.andThen]
  have := hK _ _ (h _ rfl _ (own_made W) (below_alloc (Below.refl _ _) _))
  rw [← hd] at this
  exact this
/-- m[k] = v. -/
theorem putM_event (hg : o.guard = none) {m x v : Operand} (ho : o.op = .mapUpdate 72 m x v) {mb : Nat} {M : LogM} (hm : a.eval m = .map (some mb)) (hown : OwnsM W mb M) {kx kv : Int}
    (hx : a.eval x = .int .i64 kx) (hv : a.eval v = .int .i64 kv) (hn : M.length < maxLen) (wx : (Lit.int .i64 kx).wf = true) (wv : (Lit.int .i64 kv).wf = true)
    (h : ∀ w1, OwnsM w1 mb (mput M kx kv) → W.grownBy w1 (some mb) → wpList Try.prog opsA Q rest (a.put o.dst undef) w1) : wpList Try.prog opsA Q (o :: rest) a W := by
  refine wpList_plain hg fun K hK => ?_
  obtain ⟨w1, hrun, h1, h2⟩ := own_put hown hn wx wv
  unfold Oper.wp
  simp [execOp, ho, hm, hx, hv, hrun, Result.andThen]
  exact hK _ _ (h _ h1 h2)
/-- delete(m, k). -/
theorem delM_event (hg : o.guard = none) {m x : Operand} (ho : o.op = Op.call { callee := Callee.builtin Builtin.delete, args := #[m, x], argTypes := #[72, 3] }) {mb : Nat} {M : LogM} (hm : a.eval m = .map (some mb)) (hown : OwnsM W mb M) {kx : Int}
    (hx : a.eval x = .int .i64 kx) (wx : (Lit.int .i64 kx).wf = true)
    (h : ∀ w1, OwnsM w1 mb (mdel M kx) → W.grownBy w1 (some mb) → wpList Try.prog opsA Q rest (a.put o.dst (.tuple #[])) w1) : wpList Try.prog opsA Q (o :: rest) a W := by
  refine wpList_plain hg fun K hK => ?_
  obtain ⟨w1, hrun, h1, h2⟩ := own_del hown wx o.type
  unfold Oper.wp
  simp [execOp, ho, resolve, invoke, builtin, hm, hx, hrun, Result.andThen]
  exact hK _ _ (h _ h1 h2)
/-- v, ok := m[k]. -/
theorem lookM_event (hg : o.guard = none) {m x : Operand} (ho : o.op = .lookup 72 m x true) {mb : Nat} {M : LogM} (hm : a.eval m = .map (some mb)) (hown : OwnsM W mb M) {kx : Int}
    (hx : a.eval x = .int .i64 kx) (wx : (Lit.int .i64 kx).wf = true)
    (h : wpList Try.prog opsA Q rest (a.put o.dst (.tuple #[.int .i64 (mget M kx), .bool (mhas M kx)])) W) : wpList Try.prog opsA Q (o :: rest) a W := by
  refine wpList_plain hg fun K hK => ?_
  have hrun := (own_look hown wx).1
  unfold Oper.wp
  simp [execOp, ho, hm, hx, hrun, Result.andThen]
  exact hK _ _ h
/-- m[k]. -/
theorem look1M_event (hg : o.guard = none) {m x : Operand} (ho : o.op = .lookup 72 m x false) {mb : Nat} {M : LogM} (hm : a.eval m = .map (some mb)) (hown : OwnsM W mb M) {kx : Int}
    (hx : a.eval x = .int .i64 kx) (wx : (Lit.int .i64 kx).wf = true)
    (h : wpList Try.prog opsA Q rest (a.put o.dst (.int .i64 (mget M kx))) W) : wpList Try.prog opsA Q (o :: rest) a W := by
  refine wpList_plain hg fun K hK => ?_
  have hrun := (own_look1 hown wx).1
  unfold Oper.wp
  simp [execOp, ho, hm, hx, hrun, Result.andThen]
  exact hK _ _ h
/-- len(m). -/
theorem lenM_event (hg : o.guard = none) {m : Operand} (ho : o.op = Op.call { callee := Callee.builtin Builtin.len, args := #[m], argTypes := #[72] }) {mb : Nat} {M : LogM} (hm : a.eval m = .map (some mb)) (hown : OwnsM W mb M)
    (h : wpList Try.prog opsA Q rest (a.put o.dst (.int .i64 (mlen M))) W) : wpList Try.prog opsA Q (o :: rest) a W := by
  refine wpList_plain hg fun K hK => ?_
  have hrun := own_len hown o.type
  unfold Oper.wp
  simp [execOp, ho, resolve, invoke, builtin, hm, hrun, Result.andThen]
  exact hK _ _ h
end
theorem wf64 {x : Int} (h1 : -9223372036854775808 ≤ x) (h2 : x ≤ 9223372036854775807) : (Lit.int .i64 x).wf = true := by
  simp [Lit.wf, IntKind.min, IntKind.max, IntKind.signed, IntKind.bits]
  omega
theorem wf_wrap64 (x : Int) : (Lit.int .i64 (wrap64 x)).wf = true := wf64 (by unfold wrap64; omega) (by unfold wrap64; omega)

end Go.Proofs.Ytichljgjfioanaa.H
