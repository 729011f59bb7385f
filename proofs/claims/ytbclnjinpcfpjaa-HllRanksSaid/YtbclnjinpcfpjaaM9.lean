/- Contracts of Go functions, walked by hand: each call comes to the Lean function beside it and leaves what was there before. -/
import Derived.Test.YtbclnjinpcfpjaaProg
import Derived.Below
import Derived.Deep.Draws
import Derived.Deep.AppendLies
import Derived.Maps.AppendAt
import Derived.OwnWalk
import Derived.Laws.BytesArg
import Derived.Laws.MakeOwn
import Derived.Laws.OwnMore
import Derived.Deep.OwnRows
import Derived.Tactics
import Derived.Lib.ConvBytes
import Derived.Laws.Slices
import Derived.WalkKit
import Derived.KernelRfl
import Derived.RowKit3
import Derived.Deep.LoopGhost
import Derived.Deep.QuietTactic
import Derived.BigQuiet
import Derived.WideLaws
import Derived.Deep.DeepCutAuto
import Derived.Deep.CutBlock
import Derived.Deep.RegionHeld3
import Derived.Laws.Rows
import Derived.Lib.AppendStr
import Derived.ArgAppend
import Derived.Laws.IdiomCopy
import Derived.OrdersHeld
import Derived.Laws.BitsLemmas
import Derived.RowKit
import Derived.WalkSpells
import Derived.WalkLawsBesides
import Derived.Laws.Bits64b
import Derived.Laws.BitsAllLaws
import Derived.Maps.OwnSet
import Derived.Test.YtbclnjinpcfpjaaWWords
import Derived.Test.YtbclnjinpcfpjaaWLast
import Derived.Test.YtbclnjinpcfpjaaWTab
import Derived.Test.YtbclnjinpcfpjaaWFour
import Derived.Test.YtbclnjinpcfpjaaWQPut
import Derived.Test.YtbclnjinpcfpjaaWApart
import Derived.Test.YtbclnjinpcfpjaaWArr
import Derived.Test.YtbclnjinpcfpjaaWZeros
import Derived.Test.YtbclnjinpcfpjaaWFoot
import Derived.Test.YtbclnjinpcfpjaaWKept
import Derived.Test.YtbclnjinpcfpjaaWShare
import Derived.Test.YtbclnjinpcfpjaaWN
import Derived.Test.YtbclnjinpcfpjaaWFootNe
import Derived.Test.YtbclnjinpcfpjaaWAt
import Derived.Test.YtbclnjinpcfpjaaWEqStruct
import Derived.Test.YtbclnjinpcfpjaaWRepsOne
import Derived.Test.YtbclnjinpcfpjaaWInv
import Derived.Test.YtbclnjinpcfpjaaWInvWords
import Derived.Test.YtbclnjinpcfpjaaWGuard
import Derived.Test.YtbclnjinpcfpjaaWNEv
import Derived.Test.YtbclnjinpcfpjaaWMore
import Derived.Test.YtbclnjinpcfpjaaH0
import Derived.Lib.AppendZerosOnto
import Derived.Lib.Overlaps
import Derived.Shelf.RegionOpenPlain
import Derived.Laws.IdiomCopy
import Derived.Lib.SliceRun
import Derived.Shelf.Spec.SlicesInsert
namespace Go.Proofs.Ytbclnjinpcfpjaa.H
open Go.RowKit Go.Proofs.YtbclnjinpcfpjaaW.PrintWords Go.Proofs.YtbclnjinpcfpjaaW.PrintLast Go.Proofs.YtbclnjinpcfpjaaW.PrintMore
attribute [local go_sem] max2_int min2_int max_two min_two max_three min_three max_four min_four
set_option linter.unusedVariables false
set_option linter.unusedSimpArgs false

/-! ### copy where an element has k cells -/
theorem run_copy_rowk {P : Program} (k : Nat) (w : World) (dT sT ty elem : TypeId) (g o dLen dCap : Nat) (a : Addr) (sLen sCap : Nat) (cur : Array Value) (t : TypeId) (cs : List Value) (n : Nat)
    (hu : P.underlying dT = some (.slice elem)) (hs : (P.info? elem).map (·.size) = some k)
    (hg : w.heap[g]? = some (.cells cur t (0, 0))) (hn : n = Nat.min sLen dLen) (hcl : cs.length = n * k)
    (hsrc : ∀ j v, cs[j]? = some v → w.cell? (a.add j) = some v) (hfit : o + cs.length ≤ cur.size) (h1 : ∀ v ∈ cs, v.oneCell' = true) :
    (Builtin.copy_ #[dT, sT] ty #[.slice (some ⟨g, o, none⟩) dLen dCap, .slice (some a) sLen sCap]).run P w =
      .ok (goInt n) (w.setRow g (cur.toList.take o ++ cs ++ cur.toList.drop (o + cs.length)).toArray) := by
  have hl := run_loadCells_list (P := P) w a cs hsrc
  have hst := run_storeCells_at P g o t cs 0 cur w hg (by simpa using hfit) h1
  cases hq : P.info? elem with
  | none => simp [hq] at hs
  | some i =>
    have hi : i.size = k := by simpa [hq] using hs
    rw [hcl] at hl
    simp [Builtin.copy_, run_underlying hu, Builtin.lenOf, Builtin.firstCells, sizeOf, typeInfo, hq, hi, ← hn, hl, hst]
/-! ### slices.Insert at registers: one register into a row of one's own -/
def api_Reg_91.f (l0 : List S32) (a1 : Int) (l2 : List S32) : Option (List S32) := if 0 ≤ a1 ∧ a1 ≤ l0.length ∧ l2.length = 1 ∧ l0.length < 8796093022207 then some (l0.take a1.toNat ++ l2 ++ l0.drop a1.toNat) else none
set_option maxHeartbeats 8000000 in
set_option maxRecDepth 100000 in
theorem ins_end (P0_ : Nat → Prop) (u9000_ : Value) (l0 : List S32) (A2 : Option Addr) (c2 : Nat) (l2 : List S32) (w0 w : World) (hB : Below w0.heap.size w0 w) (ho0 : Kd.R k32 32 w w0.heap.size P0_ u9000_ l0) (hr2 : Kd.C k32 w A2 1 l2) (hc2 : 1 ≤ c2) (hl : l0.length < 8796093022207) (h1 : l2.length = 1) :
    Calls Try.prog 91 #[u9000_, .int .i64 (l0.length : Int), .slice A2 1 c2] w fun e w' => ∃ v0_ : Value, e = .returned v0_ ∧ Kd.R k32 32 w' w0.heap.size (fun k_ => (P0_ k_ ∨ w.heap.size ≤ k_)) v0_ (l0 ++ l2) ∧ Below w0.heap.size w0 w' ∧ Kept w w' (fun k_ => P0_ k_) := by
  obtain ⟨A, c, rfl⟩ := Kd.R_slice ho0
  have hnc : l0.length ≤ c := (Kd.R_reads' ho0).2.1
  have HO := Aside0.mk (Kd.R_mono (ok' := fun k_ => (P0_ k_ ∨ w.heap.size ≤ k_)) ho0 (fun _ hk => .inl hk))
  have HP := Aside0.mk ho0.1
  have HR := Aside0.mk hr2
  have HB := Aside0.mk hB
  have HL := Aside0.mk hl
  have HBS := Aside0.mk (hB.size)
  have d1 : decide (0 ≤ (l0.length : Int)) = true := decide_eq_true (by omega)
  clear ho0 hr2 hB hl
  go_enter Try.func91, Try.ntmps91
  go_wp2_with ((with_reducible refine gate_builtin (b := .append) (xs := #[.tmp 23, .tmp 24]) rfl ?_); at_builtin; refine Kd.R_append_rows k32 (w0 := w0) w0.heap.size rfl (.tmp 23) (.tmp 24) 28 32 (.agg #[.int .i64 0, .int .i64 0]) 16 rfl Try.underlying28 info32 rfl (by decide) (by omega) (.slice A l0.length c) l0 l2 _ _ _ (fun k_ => (P0_ k_ ∨ w.heap.size ≤ k_)) (fun _ => False) rfl rfl HO.out HR.out (fun _ _ h => h) (fun _ h => h.elim) (fun _ h => .inr h) HB.out HBS.out (by have := HL.out; omega) ?_; intro v1 w1 ho hb hg hat)
  all_goals
    go_ret
    exact ⟨_, rfl, ho, hb, (Kept.of_grown hg (Kept.refl _ _) (fun k hk => .inl (HP.out k hk)))⟩
theorem setRow_at {w : World} {g : Nat} {cur cs : Array Value} {t : TypeId} {fz : Nat × Nat} (h : w.heap[g]? = some (.cells cur t fz)) : (w.setRow g cs).heap[g]? = some (.cells cs t fz) := by
  simp [World.setRow, Array.getElem?_modify, h]
theorem setRow_ne {w : World} {g k : Nat} {cs : Array Value} (h : k ≠ g) : (w.setRow g cs).heap[k]? = w.heap[k]? := by
  simp [World.setRow, Array.getElem?_modify, Ne.symm h]
theorem cell_of_row {w : World} {g j : Nat} {cur : Array Value} {t : TypeId} {fz : Nat × Nat} {v : Value} (h : w.heap[g]? = some (.cells cur t fz)) (hv : cur.toList[j]? = some v) : w.cell? ⟨g, j, none⟩ = some v := by
  have : cur[j]? = some v := by simpa using hv
  simp [World.cell?, h, this]
set_option maxHeartbeats 8000000 in
set_option maxRecDepth 100000 in
theorem ins_shift (g cap i n g2 c2 : Nat) (cur cur2 : Array Value) (w : World) (hin : i < n) (hroom : n + 1 ≤ cap) (hc63 : cap ≤ 9223372036854775807) (hg : w.heap[g]? = some (.cells cur 32 (0, 0))) (hsz : cur.size = cap * 2) (hone : ∀ v ∈ cur.toList.take (n * 2), v.oneCell' = true)
    (hg2 : w.heap[g2]? = some (.cells cur2 32 (0, 0))) (hne : g2 ≠ g) (hsz2 : 2 ≤ cur2.size) (hone2 : ∀ v ∈ cur2.toList.take 2, v.oneCell' = true) :
    Calls Try.prog 91 #[.slice (some ⟨g, 0, none⟩) n cap, .int .i64 i, .slice (some ⟨g2, 0, none⟩) 1 c2] w fun e w' =>
      ∃ r1 r2 : Array Value, e = .returned (.slice (some ⟨g, 0, none⟩) (n + 1) cap) ∧ w' = (w.drew.setRow g r1).setRow g r2 ∧
        r1 = (cur.toList.take ((i + 1) * 2) ++ (cur.toList.drop (i * 2)).take ((n - i) * 2) ++ cur.toList.drop ((i + 1) * 2 + (n - i) * 2)).toArray ∧
        r2 = (r1.toList.take (i * 2) ++ cur2.toList.take 2 ++ r1.toList.drop (i * 2 + 2)).toArray := by
  have mixed : Try.prog.follows Departure.mixedOrders = true := by kernel_rfl
  have u28 := run_underlying Try.underlying28
  have hz2 : ¬ ((i : Int) = (n : Int)) := by omega
  have hw1 : IntKind.i64.wrap ((i : Int) + 1) = (i : Int) + 1 := by rw [IntKind.wrap_i64]; omega
  have hw2 : IntKind.i64.wrap ((n : Int) + 1) = (n : Int) + 1 := by rw [IntKind.wrap_i64]; omega
  have hw3 : wrap64 ((i : Int) + 1) = (i : Int) + 1 := by unfold wrap64; omega
  have hw4 : wrap64 ((n : Int) + 1) = (n : Int) + 1 := by unfold wrap64; omega
  have hb1 : (0 : Int) ≤ (i : Int) + 1 := by omega
  have hb0 : (0 : Int) ≤ (n : Int) + 1 := by omega
  have hin' : i ≤ n := by omega
  have htn : ((i : Int) + 1).toNat = i + 1 := by omega
  have htn2 : ((n : Int) + 1).toNat = n + 1 := by omega
  have hb2 : ¬ (cap = i + 1) := by omega
  have hb3 : (i : Int) ≤ (n : Int) + 1 := by omega
  have hb4 : ¬ (cap = i) := by omega
  have hz5 : ¬ ((cap : Int) < (n : Int) + 1) := by omega
  have hb6 : (n : Int) + 1 ≤ (cap : Int) := by omega
  have hsz1 : (Try.prog.info? 32).map (·.size) = some 2 := by
    have := info32
    cases hq : Try.prog.info? 32 with
    | none => simp [hq] at this
    | some q => simp [hq] at this; simp [this]
  have hsize : ∀ w, (Go.sizeOf 32).run Try.prog w = .ok 2 w := by
    intro w
    cases hq : Try.prog.info? 32 with
    | none => simp [hq] at hsz1
    | some q => simp [hq] at hsz1; simp [sizeOf, typeInfo, hq, hsz1]
  have hlen : cur.toList.length = cap * 2 := by simpa using hsz
  have hov : ∀ lb cb, (callFunc 103 #[.slice (some ⟨g2, 0, none⟩) 1 c2, .slice (some ⟨g, (i + 1) * 2, none⟩) lb cb]).run Try.prog w = .ok (.value (.bool false)) w := fun lb cb => by
    rw [run_callFunc_extern Try.func103 (by kernel_rfl) (by kernel_rfl) (by kernel_rfl) (e := Extern.SlicesOverlaps.overlaps #[28, 28] #[4]) (by kernel_rfl),
      Lib.run_overlaps_apart w 28 4 32 Try.underlying28 2 hsize ⟨g2, 0, none⟩ ⟨g, (i + 1) * 2, none⟩ 1 c2 lb cb hne 32 32 cur2.size cur.size (by simp [World.shape?, hg2]) (by simp [World.shape?, hg]) (by omega) (by simp [World.frozen?, hg2]) (by simp [World.frozen?, hg2])]
    rfl
  obtain ⟨cs1, hcs1⟩ : ∃ cs1, cs1 = (cur.toList.drop (i * 2)).take ((n - i) * 2) := ⟨_, rfl⟩
  have hcl1 : cs1.length = (n - i) * 2 := by rw [hcs1, List.length_take, List.length_drop]; omega
  obtain ⟨r1, hr1⟩ : ∃ r1 : Array Value, r1 = (cur.toList.take ((i + 1) * 2) ++ cs1 ++ cur.toList.drop ((i + 1) * 2 + cs1.length)).toArray := ⟨_, rfl⟩
  have hcp1 : ∀ ty dc sc, (Builtin.copy_ #[28, 28] ty #[.slice (some ⟨g, (i + 1) * 2, none⟩) (n - i) dc, .slice (some ⟨g, i * 2, none⟩) (n + 1 - i) sc]).run Try.prog w.drew = .ok (goInt ((n - i : Nat) : Int)) (w.drew.setRow g r1) := fun ty dc sc => by
    rw [hr1]
    exact run_copy_rowk 2 w.drew 28 28 ty 32 g ((i + 1) * 2) (n - i) dc ⟨g, i * 2, none⟩ (n + 1 - i) sc cur 32 cs1 (n - i) Try.underlying28 hsz1 hg (by simp only [Nat.min_def]; split <;> omega) hcl1
      (fun j v hj => by
        rw [hcs1, List.getElem?_take] at hj
        split at hj
        · rw [List.getElem?_drop] at hj
          rw [Addr.add_lit]
          exact cell_of_row (w := w.drew) hg hj
        · cases hj) (by rw [hcl1, hsz]; omega) (fun v hv => hone v (by
        rw [hcs1] at hv
        have h3 : (cur.toList.drop (i * 2)).take ((n - i) * 2) = (cur.toList.take (n * 2)).drop (i * 2) := by
          rw [List.drop_take]; congr 1; omega
        rw [h3] at hv
        exact List.mem_of_mem_drop hv))
  obtain ⟨cs2, hcs2⟩ : ∃ cs2, cs2 = cur2.toList.take 2 := ⟨_, rfl⟩
  have hcl2 : cs2.length = 2 := by rw [hcs2, List.length_take, Array.length_toList]; omega
  have hr1s : r1.size = cap * 2 := by rw [hr1]; simp [hcl1]; omega
  obtain ⟨r2, hr2⟩ : ∃ r2 : Array Value, r2 = (r1.toList.take (i * 2) ++ cs2 ++ r1.toList.drop (i * 2 + cs2.length)).toArray := ⟨_, rfl⟩
  have hcp2 : ∀ (W : World), W.heap = (w.drew.setRow g r1).heap → ∀ ty dc, (Builtin.copy_ #[28, 28] ty #[.slice (some ⟨g, i * 2, none⟩) (n + 1 - i) dc, .slice (some ⟨g2, 0, none⟩) 1 c2]).run Try.prog W = .ok (goInt 1) (W.setRow g r2) := fun W hW ty dc => by
    rw [hr2]
    exact run_copy_rowk 2 W 28 28 ty 32 g (i * 2) (n + 1 - i) dc ⟨g2, 0, none⟩ 1 c2 r1 32 cs2 1 Try.underlying28 hsz1 (by rw [hW]; exact setRow_at hg) (by simp only [Nat.min_def]; split <;> omega) (by omega)
      (fun j v hj => by
        rw [hcs2, List.getElem?_take] at hj
        split at hj
        · rw [Addr.add_lit, Nat.zero_add]
          exact cell_of_row (by rw [hW, setRow_ne hne]; exact hg2) hj
        · cases hj) (by rw [hcl2, hr1s]; omega) (fun v hv => hone2 v (by rw [hcs2] at hv; exact hv))
  refine Calls.mono (R := fun e w' => e = .returned (.slice (some ⟨g, 0, none⟩) (n + 1) cap) ∧ w' = (w.drew.setRow g r1).setRow g r2) ?_ (fun e w' hh => ⟨r1, r2, hh.1, hh.2, by rw [hr1, hcl1, hcs1], by rw [hr2, hcl2, hcs2]⟩)
  clear hr1 hr2 hcs1 hcs2 hone hone2
  go_enter Try.func91, Try.ntmps91
  go_wp2_with (simp only [hov])
  go_region_law_o (refine step_copy_runI rfl _ _ 28 28 rfl _ _ (by simp [Act.eval, Act.put]) (by simp [Act.eval, Act.put]) (hcp1 _ _ _) ?_)
  go_wp2_with (at_builtin; refine wpList_copy_runI _ rfl _ _ 28 28 rfl _ _ rfl rfl (hcp2 _ rfl _ _) ?_)
  go_ret
  exact ⟨rfl, rfl⟩
theorem below_setRow {B : Nat} {a w : World} (h : Below B a w) {g : Nat} (hg : B ≤ g) (cs : Array Value) : Below B a (w.setRow g cs) :=
  ⟨h.os, h.tape, h.output, by have := h.size; rw [show (w.setRow g cs).heap.size = w.heap.size by unfold World.setRow; exact Array.size_modify ..]; exact this, fun k hk => (setRow_ne (by omega)).trans (h.block k hk)⟩
theorem setRow_size (w : World) (g : Nat) (cs : Array Value) : (w.setRow g cs).heap.size = w.heap.size := by unfold World.setRow; exact Array.size_modify ..
theorem alloc_at (w : World) (o : Obj) : (w.alloc o).heap[w.heap.size]? = some o := Array.getElem?_push_size
set_option maxHeartbeats 8000000 in
set_option maxRecDepth 100000 in
theorem ins_grow (g cap i n g2 c2 : Nat) (cur cur2 : Array Value) (w : World) (hin : i < n) (hnc : n ≤ cap) (hroom : cap < n + 1) (hbig : (n + 1) * 16 ≤ 140737488355328) (hg : w.heap[g]? = some (.cells cur 32 (0, 0))) (hsz : cur.size = cap * 2) (hone : ∀ v ∈ cur.toList.take (n * 2), v.oneCell' = true)
    (hg2 : w.heap[g2]? = some (.cells cur2 32 (0, 0))) (hsz2 : 2 ≤ cur2.size) (hone2 : ∀ v ∈ cur2.toList.take 2, v.oneCell' = true) :
    Calls Try.prog 91 #[.slice (some ⟨g, 0, none⟩) n cap, .int .i64 i, .slice (some ⟨g2, 0, none⟩) 1 c2] w fun e w' =>
      ∃ (G : Nat) (r2 : Array Value), e = .returned (.slice (some ⟨w.heap.size, 0, none⟩) (n + 1) G) ∧ n + 1 ≤ G ∧ G ≤ maxLen ∧ Below w.heap.size w w' ∧ w'.heap[w.heap.size]? = some (.cells r2 32 (0, 0)) ∧ r2.size = G * 2 ∧
        r2.toList.take ((n + 1) * 2) = (cur.toList.take (n * 2)).take (i * 2) ++ cur2.toList.take 2 ++ (cur.toList.take (n * 2)).drop (i * 2) := by
  have mixed : Try.prog.follows Departure.mixedOrders = true := by kernel_rfl
  have u28 := run_underlying Try.underlying28
  have hlen : cur.toList.length = cap * 2 := by simpa using hsz
  have hlen2 : 2 ≤ cur2.toList.length := by simpa using hsz2
  have hgw : g < w.heap.size := by
    rcases Nat.lt_or_ge g w.heap.size with h | h
    · exact h
    · rw [Array.getElem?_eq_none h] at hg; cases hg
  have hgw2 : g2 < w.heap.size := by
    rcases Nat.lt_or_ge g2 w.heap.size with h | h
    · exact h
    · rw [Array.getElem?_eq_none h] at hg2; cases hg2
  have hz2 : ¬ ((i : Int) = (n : Int)) := by omega
  have hz3 : (cap : Int) < (n : Int) + 1 := by omega
  have hw1 : IntKind.i64.wrap ((i : Int) + 1) = (i : Int) + 1 := by rw [IntKind.wrap_i64]; omega
  have hb1 : (0 : Int) ≤ (i : Int) + 1 := by omega
  have hin' : i ≤ n := by omega
  have htn : ((i : Int) + 1).toNat = i + 1 := by omega
  have hb3 : (i : Int) ≤ (n : Int) := by omega
  have hci : ¬ (cap = i) := by omega
  obtain ⟨i0, hi0, hz0, hzs, hzb⟩ := info_parts info32
  have hsz1 : (Try.prog.info? 32).map (·.size) = some 2 := by rw [hi0]; simp [hzs]
  have hkk : (n : Int) + 1 - (i : Int) = ((n + 1 - i : Nat) : Int) := by omega
  have hik : i + (n + 1 - i) = n + 1 := by omega
  have hold : (Builtin.firstCells i0.size i (.slice (some ⟨g, 0, none⟩) i cap)).run Try.prog w.drew = .ok (cur.toList.take (i * 2)).toArray w.drew := by
    rw [hzs]
    exact run_firstCells_some w.drew 2 i ⟨g, 0, none⟩ i cap (cur.toList.take (i * 2)) (by rw [List.length_take]; omega) (fun j v hj => by
      rw [Addr.add_lit, Nat.zero_add]
      rw [List.getElem?_take] at hj
      split at hj
      · exact cell_of_row (w := w.drew) hg hj
      · cases hj)
  obtain ⟨G, hG⟩ : ∃ G, G = grownCap w (n + 1) cap 32 := ⟨_, rfl⟩
  obtain ⟨Z, hZ⟩ : ∃ Z : Array Value, Z = (Value.agg #[.int .i64 0, .int .i64 0]).cells := ⟨_, rfl⟩
  have hZs : Z.size = 2 := by rw [hZ]; rfl
  obtain ⟨ROW, hROW⟩ : ∃ ROW : Array Value, ROW = (cur.toList.take (i * 2)).toArray ++ Builtin.zeroCells Z (n + 1 - i) ++ Builtin.zeroCells Z (G - (n + 1)) := ⟨_, rfl⟩
  have hGn : n + 1 ≤ G := by rw [hG]; exact grownCap_ge w _ _ _
  have hGm : G ≤ maxLen := by rw [hG]; exact grownCap_le_maxLen w (n + 1) cap 32 (by unfold maxLen; omega)
  have hG63 : G ≤ 9223372036854775807 := by unfold maxLen at hGm; omega
  have hGi : ¬ (G = i) := by omega
  have hGim : ¬ (G = i + 1) := by omega
  have hzc : ∀ m, (Builtin.zeroCells Z m).size = m * 2 := fun m => by
    rw [← hZs]; exact size_zeroCells Z m
  have hRs : ROW.size = G * 2 := by
    rw [hROW]
    simp only [Array.size_append, hzc, List.size_toArray, List.length_take, hlen]
    omega
  have hRt : ROW.toList.take (i * 2) = cur.toList.take (i * 2) := by
    rw [hROW]
    simp only [Array.toList_append, List.append_assoc]
    rw [List.take_append_of_le_length (by simp; omega), List.take_take]
    congr 1; omega
  have hrz : ∀ ty, (Builtin.append_ #[28, 3] ty #[.slice (some ⟨g, 0, none⟩) i cap, .int .i64 ((n : Int) + 1 - (i : Int))]).run Try.prog w =
      .ok (.slice (some ⟨w.heap.size, 0, none⟩) (n + 1) G) (w.drew.alloc (.cells ROW 32)) := fun ty => by
    have h := Lib.run_append_grow_zeros w 28 3 ty 32 i0 _ .i64 .i64 Try.underlying28 Try.underlying3 hi0 hz0 (some ⟨g, 0, none⟩) i cap (cur.toList.take (i * 2)) hold (n + 1 - i) (by omega) (by omega) (by omega) (by omega) (by rw [hzb]; omega) (by rw [hzb, hik]; exact growslice_fits hroom hbig)
    rw [hik] at h
    rw [hkk, hG, hROW, hG, hZ]
    exact h
  obtain ⟨W1, hW1⟩ : ∃ W1, W1 = w.drew.alloc (.cells ROW 32) := ⟨_, rfl⟩
  rw [← hW1] at hrz
  have hN1 : W1.heap[w.heap.size]? = some (.cells ROW 32 (0, 0)) := by rw [hW1]; exact alloc_at w.drew _
  have hO1 : ∀ k, k < w.heap.size → W1.heap[k]? = w.heap[k]? := fun k hk => by rw [hW1]; exact Below.heap_alloc w.drew _ k hk
  obtain ⟨cs2, hcs2⟩ : ∃ cs2, cs2 = cur2.toList.take 2 := ⟨_, rfl⟩
  have hcl2 : cs2.length = 2 := by rw [hcs2, List.length_take]; omega
  obtain ⟨r1, hr1⟩ : ∃ r1 : Array Value, r1 = (ROW.toList.take (i * 2) ++ cs2 ++ ROW.toList.drop (i * 2 + cs2.length)).toArray := ⟨_, rfl⟩
  have hRl : ROW.toList.length = G * 2 := by simpa using hRs
  have hr1s : r1.size = G * 2 := by rw [hr1]; simp [hcl2, hRs]; omega
  have hcpA : ∀ (W : World), W.heap = W1.heap → ∀ ty dc, (Builtin.copy_ #[28, 28] ty #[.slice (some ⟨w.heap.size, i * 2, none⟩) (n + 1 - i) dc, .slice (some ⟨g2, 0, none⟩) 1 c2]).run Try.prog W = .ok (goInt 1) (W.setRow w.heap.size r1) := fun W hW ty dc => by
    rw [hr1]
    exact run_copy_rowk 2 W 28 28 ty 32 w.heap.size (i * 2) (n + 1 - i) dc ⟨g2, 0, none⟩ 1 c2 ROW 32 cs2 1 Try.underlying28 hsz1 (by rw [hW]; exact hN1) (by simp only [Nat.min_def]; split <;> omega) (by omega)
      (fun j v hj => by
        rw [hcs2, List.getElem?_take] at hj
        split at hj
        · rw [Addr.add_lit, Nat.zero_add]
          exact cell_of_row (by rw [hW, hO1 _ hgw2]; exact hg2) hj
        · cases hj) (by rw [hcl2, hRs]; omega) (fun v hv => hone2 v (by rw [hcs2] at hv; exact hv))
  obtain ⟨cs1, hcs1⟩ : ∃ cs1, cs1 = (cur.toList.drop (i * 2)).take ((n - i) * 2) := ⟨_, rfl⟩
  have hcl1 : cs1.length = (n - i) * 2 := by rw [hcs1, List.length_take, List.length_drop]; omega
  have hcd : cs1 = (cur.toList.take (n * 2)).drop (i * 2) := by
    rw [hcs1, List.drop_take]; congr 1; omega
  obtain ⟨r2, hr2⟩ : ∃ r2 : Array Value, r2 = (r1.toList.take ((i + 1) * 2) ++ cs1 ++ r1.toList.drop ((i + 1) * 2 + cs1.length)).toArray := ⟨_, rfl⟩
  have hr1l : r1.toList.length = G * 2 := by simpa using hr1s
  have hr2s : r2.size = G * 2 := by rw [hr2]; simp [hcl1, hr1s]; omega
  have hcpB : ∀ (W : World), W.heap = (W1.setRow w.heap.size r1).heap → ∀ ty dc sc, (Builtin.copy_ #[28, 28] ty #[.slice (some ⟨w.heap.size, (i + 1) * 2, none⟩) (n - i) dc, .slice (some ⟨g, i * 2, none⟩) (n - i) sc]).run Try.prog W = .ok (goInt ((n - i : Nat) : Int)) (W.setRow w.heap.size r2) := fun W hW ty dc sc => by
    rw [hr2]
    exact run_copy_rowk 2 W 28 28 ty 32 w.heap.size ((i + 1) * 2) (n - i) dc ⟨g, i * 2, none⟩ (n - i) sc r1 32 cs1 (n - i) Try.underlying28 hsz1 (by rw [hW]; exact setRow_at hN1) (by simp only [Nat.min_def]; split <;> omega) hcl1
      (fun j v hj => by
        rw [hcs1, List.getElem?_take] at hj
        split at hj
        · rw [List.getElem?_drop] at hj
          rw [Addr.add_lit]
          exact cell_of_row (by rw [hW, setRow_ne (by omega), hO1 _ hgw]; exact hg) hj
        · cases hj) (by rw [hcl1, hr1s]; omega) (fun v hv => hone v (by
        rw [hcd] at hv
        exact List.mem_of_mem_drop hv))
  have hfin : r2.toList.take ((n + 1) * 2) = (cur.toList.take (n * 2)).take (i * 2) ++ cur2.toList.take 2 ++ (cur.toList.take (n * 2)).drop (i * 2) := by
    rw [← hcd, ← hcs2, hr2, hr1]
    simp only [List.toList_toArray]
    have e1 : (ROW.toList.take (i * 2) ++ cs2 ++ ROW.toList.drop (i * 2 + cs2.length)).take ((i + 1) * 2) = ROW.toList.take (i * 2) ++ cs2 := by
      rw [List.take_append_of_le_length (by simp [hcl2, hRs]; omega), List.take_of_length_le (by simp [hcl2, hRs]; omega)]
    rw [e1, hRt, List.take_append_of_le_length (by simp [hcl2, hcl1, hsz]; omega), List.take_of_length_le (by simp [hcl2, hcl1, hsz]; omega), List.take_take]
    congr 3; omega
  refine Calls.mono (R := fun e w' => e = .returned (.slice (some ⟨w.heap.size, 0, none⟩) (n + 1) G) ∧ w' = ((W1.setRow w.heap.size r1).drew).setRow w.heap.size r2) ?_ (fun e w' hh => ⟨G, r2, hh.1, hGn, hGm, by
      rw [hh.2, hW1]
      exact below_setRow (Below.drew (below_setRow (below_alloc (Below.drew (Below.refl _ _)) _) (Nat.le_refl _) _)) (Nat.le_refl _) _, by
      rw [hh.2]; exact setRow_at (cur := r1) (setRow_at hN1), hr2s, hfin⟩)
  subst hW1
  have hE1 : ((w.alloc (.cells ROW 32)).drew).heap = (w.drew.alloc (.cells ROW 32)).heap := rfl
  have hF1 : (((w.alloc (.cells ROW 32)).drew.setRow w.heap.size r1).drew).heap = ((w.drew.alloc (.cells ROW 32)).setRow w.heap.size r1).heap := rfl
  clear hkk hik hold hROW hG hRl hr1 hr2 hcs1 hcs2 hone hone2 hfin hcd hRt hZ hZs hzc
  go_enter Try.func91, Try.ntmps91
  go_wp2_with (first
    | (at_builtin; refine Lib.wpList_append_run _ rfl _ _ _ _ rfl _ _ rfl rfl _ _ (hrz _) ?_)
    | (at_builtin; refine wpList_copy_runI _ rfl _ _ 28 28 rfl _ _ rfl rfl (hcpA _ hE1 _ _) ?_)
    | (at_builtin; refine wpList_copy_runI _ rfl _ _ 28 28 rfl _ _ rfl rfl (hcpB _ hF1 _ _ _) ?_))
  go_region_law_o (refine step_copy_runI rfl _ _ 28 28 rfl (.slice (some ⟨w.heap.size, (i + 1) * 2, none⟩) (n - i) (G - (i + 1))) (.slice (some ⟨g, i * 2, none⟩) (n - i) (cap - i)) (by simp [Act.eval, Act.put]) (by simp [Act.eval, Act.put]) (hcpB _ hF1 3 (G - (i + 1)) (cap - i)) ?_)
  go_wp2
  go_ret
  exact ⟨rfl, rfl⟩
theorem ins_take {cap i n : Nat} {C C2 : List Value} (hin : i < n) (hroom : n + 1 ≤ cap) (hsz : C.length = cap * 2) (hsz2 : 2 ≤ C2.length) (r1 : List Value) (h1 : r1 = C.take ((i + 1) * 2) ++ (C.drop (i * 2)).take ((n - i) * 2) ++ C.drop ((i + 1) * 2 + (n - i) * 2)) :
    (r1.take (i * 2) ++ C2.take 2 ++ r1.drop (i * 2 + 2)).take ((n + 1) * 2) = (C.take (n * 2)).take (i * 2) ++ C2.take 2 ++ (C.take (n * 2)).drop (i * 2) ∧ (r1.take (i * 2) ++ C2.take 2 ++ r1.drop (i * 2 + 2)).length = cap * 2 := by
  have e1 : r1.take (i * 2) = (C.take (n * 2)).take (i * 2) := by
    rw [h1, List.append_assoc, List.take_append_of_le_length (by simp; omega), List.take_take, List.take_take]
    congr 1; omega
  have e2 : r1.drop (i * 2 + 2) = (C.take (n * 2)).drop (i * 2) ++ C.drop ((n + 1) * 2) := by
    rw [h1, List.append_assoc, List.drop_append, List.drop_of_length_le (by simp; omega), List.nil_append, List.length_take, show i * 2 + 2 - min ((i + 1) * 2) C.length = 0 by omega, List.drop_zero, List.drop_take]
    congr 2
    · omega
    · omega
  rw [e1, e2]
  constructor
  · rw [← List.append_assoc, List.take_append_of_le_length (by simp; omega), List.take_of_length_le (by simp; omega)]
  · simp; omega
theorem reg_flat {w w1 : World} {b b1 : Nat} {ok ok1 : Nat → Prop} {x : S32} {cs : List Value} (h : (k32).M w b ok x cs) : (k32).M w1 b1 ok1 x cs := h
theorem reps_len {α : Type} {R : α → List Value → Prop} {s : Nat} {xs : List α} {cs : List Value} (h : Reps R s xs cs) : cs.length = xs.length * s := h.1
set_option maxHeartbeats 8000000 in
theorem api_Reg_91.calls (P0_ : Nat → Prop) (u9000_ : Value) (l0 : List S32) (a1 : Int) (P2_ : Nat → Prop) (u9001_ : Value) (l2 : List S32) (r : List S32) (w0 w : World) (hB : Below w0.heap.size w0 w) (ho0 : Kd.R k32 32 w w0.heap.size P0_ u9000_ l0) (hd0 : ∀ k_, P0_ k_ → ¬ P2_ k_) (ho2 : Kd.R k32 32 w w0.heap.size P2_ u9001_ l2) (hd2 : ∀ k_, P2_ k_ → ¬ P0_ k_) (h : api_Reg_91.f l0 a1 l2 = some r) :
    Calls Try.prog 91 #[u9000_, .int .i64 a1, u9001_] w fun e w' => ∃ v0_ : Value, e = .returned v0_ ∧ Kd.R k32 32 w' w0.heap.size (fun k_ => ((P0_ k_ ∨ P2_ k_) ∨ w.heap.size ≤ k_)) v0_ r ∧ Below w0.heap.size w0 w' ∧ Kept w w' (fun k_ => (P0_ k_ ∨ P2_ k_)) := by
  unfold api_Reg_91.f at h
  split at h
  case isFalse => cases h
  case isTrue hl =>
  obtain ⟨h0, h1, h2, h3⟩ := hl
  obtain rfl := Option.some.inj h
  clear h
  obtain ⟨i, rfl⟩ : ∃ i : Nat, a1 = i := ⟨a1.toNat, by omega⟩
  by_cases hi : i = l0.length
  · subst hi
    obtain ⟨A2, c2, rfl, hc2, hr2⟩ := Kd.R_reads ho2
    rw [h2] at hr2 ⊢
    refine Calls.mono (ins_end P0_ u9000_ l0 A2 c2 l2 w0 w hB ho0 hr2 (by omega) h3 h2) ?_
    rintro e w' ⟨v, he, hR, hb, hk⟩
    refine ⟨v, he, ?_, hb, Kept.mono hk (fun k hk => .inl hk)⟩
    have : l0.take (l0.length : Int).toNat ++ l2 ++ l0.drop (l0.length : Int).toNat = l0 ++ l2 := by simp
    rw [this]
    exact Kd.R_mono hR (fun k hk => hk.elim (fun h => .inl (.inl h)) .inr)
  · have hin : i < l0.length := by omega
    obtain ⟨hok0, inner0, ⟨hl0, hor0⟩, hreps0⟩ := ho0
    obtain ⟨hok2, inner2, ⟨hl2, hor2⟩, hreps2⟩ := ho2
    rcases hor0 with ⟨_, hz⟩ | ⟨g, cap, cur, rfl, hbg, hg, hnc, hcm, hsz, htk⟩
    · omega
    rcases hor2 with ⟨_, hz⟩ | ⟨g2, c2, cur2, rfl, hbg2, hg2, hnc2, hcm2, hsz2, htk2⟩
    · omega
    rw [h2] at htk2 hnc2 ⊢
    have hne : g2 ≠ g := fun he => hd0 g (hok0 g (by simp [Value.ownBlock])) (hok2 g (by simp [Value.ownBlock, he]))
    have hs2 : (k32).sz = 2 := rfl
    rw [hs2] at hsz hsz2 htk htk2
    have hone0 : ∀ v ∈ cur.toList.take (l0.length * 2), v.oneCell' = true := by
      rw [htk]; exact Kd.reps_one hreps0 (by rw [hs2]; omega) (fun p c hp => (k32).K_one ((k32).K_of_M hp))
    have hone2 : ∀ v ∈ cur2.toList.take 2, v.oneCell' = true := by
      have := Kd.reps_one hreps2 (by rw [hs2]; omega) (fun p c hp => (k32).K_one ((k32).K_of_M hp))
      rw [← htk2] at this
      simpa using this
    have htk2' : cur2.toList.take 2 = inner2 := by simpa using htk2
    have hit : ((i : Int)).toNat = i := by omega
    have hrepsR : ∀ (wx : World) (okx : Nat → Prop), Reps ((k32).M wx w0.heap.size okx) (k32).sz (l0.take i ++ l2 ++ l0.drop i) (inner0.take (i * 2) ++ inner2 ++ inner0.drop (i * 2)) := fun wx okx =>
      (Kd.reps_append (Kd.reps_append (Kd.reps_take hreps0 (by omega)) (hreps2.imp_ (fun _ _ hp => reg_flat hp))) (Kd.reps_drop hreps0)).imp_ (fun _ _ hp => reg_flat hp)
    have hlen : (l0.take i ++ l2 ++ l0.drop i).length = l0.length + 1 := by simp; omega
    have hlr := reps_len (hrepsR w (fun _ => True))
    rw [hlen] at hlr
    rw [hit]
    rcases Nat.lt_or_ge cap (l0.length + 1) with hroom | hroom
    · refine Calls.mono (ins_grow g cap i l0.length g2 c2 cur cur2 w hin hnc hroom (by omega) hg hsz hone0 hg2 (by omega) hone2) ?_
      rintro e w' ⟨G, r2, he, hG1, hG2, hb, hat, hr2s, hfin⟩
      refine ⟨_, he, ⟨fun k hk => ?_, _, ⟨?_, .inr ⟨w.heap.size, G, r2, ?_, hB.size, hat, ?_, hG2, hr2s, ?_⟩⟩, hrepsR _ _⟩, hB.trans (Below.mono hb hB.size), Kept.of_below hb _⟩
      · have : w.heap.size = k := by simpa [Value.ownBlock] using hk
        exact .inr (by omega)
      · rw [hlen]; exact hlr
      · rw [hlen]
      · rw [hlen]; exact hG1
      · rw [hlen, hs2, hfin, htk, htk2']
    · refine Calls.mono (ins_shift g cap i l0.length g2 c2 cur cur2 w hin hroom (by unfold maxLen at hcm; omega) hg hsz hone0 hg2 hne (by omega) hone2) ?_
      rintro e w' ⟨r1, r2, he, rfl, hr1, hr2⟩
      have hgw : g < w.heap.size := by
        rcases Nat.lt_or_ge g w.heap.size with h | h
        · exact h
        · rw [Array.getElem?_eq_none h] at hg; cases hg
      obtain ⟨q1, q2⟩ := ins_take (C := cur.toList) (C2 := cur2.toList) hin hroom (by simpa using hsz) (by simp; omega) r1.toList (by rw [hr1])
      have hr2l : r2.toList = r1.toList.take (i * 2) ++ cur2.toList.take 2 ++ r1.toList.drop (i * 2 + 2) := by rw [hr2]
      rw [← hr2l] at q1 q2
      refine ⟨_, he, ⟨fun k hk => ?_, _, ⟨?_, .inr ⟨g, cap, r2, ?_, hbg, ?_, ?_, hcm, ?_, ?_⟩⟩, hrepsR _ _⟩, ?_, ?_⟩
      · have : g = k := by simpa [Value.ownBlock] using hk
        subst this
        exact .inl (.inl (hok0 g (by simp [Value.ownBlock])))
      · rw [hlen]; exact hlr
      · rw [hlen]
      · exact setRow_at (cur := r1) (setRow_at (w := w.drew) hg)
      · rw [hlen]; exact hroom
      · rw [hs2]; simpa using q2
      · rw [hlen, hs2, q1, htk, htk2']
      · exact below_setRow (below_setRow (Below.drew hB) hbg _) hbg _
      · refine ⟨by rw [setRow_size, setRow_size]; exact Nat.le_refl _, fun k hk hn => ?_⟩
        have hkg : k ≠ g := fun he => hn (.inl (hok0 k (by simp [Value.ownBlock, he])))
        exact (setRow_ne hkg).trans ((setRow_ne hkg).trans rfl)

end Go.Proofs.Ytbclnjinpcfpjaa.H
