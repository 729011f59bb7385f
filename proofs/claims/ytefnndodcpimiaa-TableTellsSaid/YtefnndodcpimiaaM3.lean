/- Contracts of Go functions, walked by hand: each call comes to the Lean function beside it and leaves what was there before. -/
import Derived.Test.YtefnndodcpimiaaProg
import Derived.Below
import Derived.Deep.Draws
import Derived.Deep.AppendLies
import Derived.Maps.AppendAt
import Derived.OwnWalk
import Derived.Laws.BytesArg
import Derived.Laws.MakeOwn
import Derived.Laws.OwnMore
import Derived.Deep.OwnRows
import Derived.Tactics
import Derived.Lib.ConvBytes
import Derived.Laws.Slices
import Derived.WalkKit
import Derived.KernelRfl
import Derived.RowKit3
import Derived.Deep.LoopGhost
import Derived.Deep.QuietTactic
import Derived.BigQuiet
import Derived.WideLaws
import Derived.Deep.DeepCutAuto
import Derived.Deep.CutBlock
import Derived.Deep.RegionHeld3
import Derived.Laws.Rows
import Derived.Lib.AppendStr
import Derived.ArgAppend
import Derived.Laws.IdiomCopy
import Derived.OrdersHeld
import Derived.Laws.BitsLemmas
import Derived.RowKit
import Derived.WalkSpells
import Derived.WalkLawsBesides
import Derived.Laws.Bits64b
import Derived.Laws.BitsAllLaws
import Derived.Maps.OwnSet
import Derived.Test.YtefnndodcpimiaaVTT
import Derived.Test.YtefnndodcpimiaaM0
namespace Go.Proofs.Ytefnndodcpimiaa.H
open Go.RowKit Go.Proofs.YtefnndodcpimiaaW.PrintWords Go.Proofs.YtefnndodcpimiaaW.PrintLast Go.Proofs.YtefnndodcpimiaaW.PrintMore
attribute [local go_sem] max2_int min2_int max_two min_two max_three min_three max_four min_four
set_option linter.unusedVariables false
set_option linter.unusedSimpArgs false

/-! ### Reading numbers: what both readers come to -/
def isByte (x : Int) : Bool := decide (0 ≤ x) && decide (x ≤ 255)
def numR : List Int → Nat → Int → Int × Int × Nat
  | [], _, _ => (5, 0, 0)
  | c :: r, i, n => if (i = 9 ∧ 1 < c) ∨ (0 < i ∧ c = 0) then (4, 0, 0) else if c < 128 then (0, n + c % 128 * 2 ^ (7 * i), i + 1) else numR r (i + 1) (n + c % 128 * 2 ^ (7 * i))
def rdNum (rest : List Int) (err : Int) : Int × List Int × Int := if err = 0 then (if (numR rest 0 0).1 = 0 then ((numR rest 0 0).2.1, rest.drop (numR rest 0 0).2.2, 0) else (0, rest, (numR rest 0 0).1)) else (0, rest, err)
def rdUpto (most : Int) (rest : List Int) (err : Int) : Int × List Int × Int := if (rdNum rest err).2.2 = 0 ∧ most < (rdNum rest err).1 then (0, (rdNum rest err).2.1, 3) else rdNum rest err
def rdEnd (rest : List Int) (err : Int) : Int := if err = 0 ∧ ¬ rest = [] then 4 else err
def rdFixed (n : Int) (rest : List Int) (err : Int) : List Int × List Int × Int := if err = 0 then (if (rest.length : Int) < max 0 n then ([], rest, 5) else (rest.take n.toNat, rest.drop n.toNat, 0)) else ([], rest, err)

/-- What was there stays, but for block g. -/
structure OnlyAt (w w' : World) (g : Nat) : Prop where
  keep : KeepBut w w' g none
  os : w'.os = w.os
  tape : w'.tape = w.tape
  output : w'.output = w.output
theorem OnlyAt.refl (w : World) (g : Nat) : OnlyAt w w g := ⟨KeepBut.refl w g none, rfl, rfl, rfl⟩
theorem OnlyAt.trans {w w1 w2 : World} {g : Nat} (h : OnlyAt w w1 g) (k : OnlyAt w1 w2 g) : OnlyAt w w2 g := ⟨KeepBut.trans h.keep k.keep (.inl rfl), k.os.trans h.os, k.tape.trans h.tape, k.output.trans h.output⟩
theorem OnlyAt.of_below {w w1 : World} {g : Nat} (h : Below w.heap.size w w1) : OnlyAt w w1 g := ⟨KeepBut.of_below h g none, h.os, h.tape, h.output⟩
theorem OnlyAt.set {w w1 : World} {g : Nat} (h : OnlyAt w w1 g) (j : Nat) (u : Value) : OnlyAt w (w1.setCell ⟨g, j, none⟩ u) g := ⟨KeepBut.set_ h.keep _ _, h.os, h.tape, h.output⟩
theorem OnlyAt.alloc {w w1 : World} {g : Nat} (h : OnlyAt w w1 g) (o : Obj) : OnlyAt w (w1.alloc o) g := ⟨keep_alloc h.keep o, h.os, h.tape, h.output⟩
theorem OnlyAt.drewN {w w1 : World} {g : Nat} (h : OnlyAt w w1 g) (n : Nat) : OnlyAt w (w1.drewN n) g := ⟨keep_drewN h.keep n, h.os, h.tape, h.output⟩
theorem OnlyAt.drew {w w1 : World} {g : Nat} (h : OnlyAt w w1 g) : OnlyAt w w1.drew g := ⟨keep_drew h.keep, h.os, h.tape, h.output⟩
theorem OnlyAt.below {w0 w w' : World} {g : Nat} (h : OnlyAt w w' g) (hb : Below w0.heap.size w0 w) (hg : w0.heap.size ≤ g) : Below w0.heap.size w0 w' :=
  hb.trans ⟨h.os, h.tape, h.output, h.keep.1, fun k hk => h.keep.2 k (Nat.lt_of_lt_of_le hk hb.size) (by omega) (by simp)⟩
theorem OnlyAt.blk {w w' : World} {g b : Nat} {o : Obj} (h : OnlyAt w w' g) (hb : w.heap[b]? = some o) (hne : b ≠ g) : w'.heap[b]? = some o := (h.keep.2 b (blk_lt hb) hne (by simp)).trans hb
/-! ### octet.Reader -/
/-- A reader at block g: what is left to read, its error. -/
def ORd (base : Nat) (W : World) (g : Nat) (rest : List Int) (err : Int) : Prop :=
  ∃ (v : Value) (bs : List Int) (p : Nat), W.heap[g]? = some (.cells #[v, .int .i64 p, .int .i64 err, .bool true] 69 (0, 0)) ∧ base ≤ g ∧ p ≤ bs.length ∧ rest = bs.drop p ∧ bs.all isByte = true ∧ bs.length < 140737488355328 ∧ Kd.R (Kd.int .u8) 5 W base (fun _ => True) v bs
theorem ORd.below {base : Nat} {W W' : World} {g : Nat} {rest : List Int} {err : Int} (h : ORd base W g rest err) (hb : Below W.heap.size W W') : ORd base W' g rest err := by
  obtain ⟨v, bs, p, h1, h2, h3, h4, h5, h6, h7⟩ := h
  exact ⟨v, bs, p, blk_below h1 hb, h2, h3, h4, h5, h6, Kd.R_below h7 hb⟩
theorem ORd.drewN {base : Nat} {W : World} {g : Nat} {rest : List Int} {err : Int} (h : ORd base W g rest err) (n : Nat) : ORd base (W.drewN n) g rest err := h
theorem ORd.alloc {base : Nat} {W : World} {g : Nat} {rest : List Int} {err : Int} (h : ORd base W g rest err) (o : Obj) : ORd base (W.alloc o) g rest err := h.below (below_alloc (Below.refl _ _) o)
/-- Another struct's cell is written. -/
theorem ORd.set {base : Nat} {W : World} {g b t : Nat} {cs : Array Value} {rest : List Int} {err : Int} (h : ORd base W g rest err) (hb : W.heap[b]? = some (.cells cs t (0, 0))) (hne : g ≠ b) (ht : 5 ≠ t) (j : Nat) (u : Value) : ORd base (W.setCell ⟨b, j, none⟩ u) g rest err := by
  obtain ⟨v, bs, p, h1, h2, h3, h4, h5, h6, h7⟩ := h
  exact ⟨v, bs, p, blk_far h1 hne u, h2, h3, h4, h5, h6, Kd.R_set h7 hb (by intro q hq; simp [Kd.int, Kd.scalar] at hq; omega) j u⟩
/-- A row of another type is written. -/
theorem ORd.over {base : Nat} {W w1 : World} {g : Nat} {rest : List Int} {err : Int} {α : Type} {d' : Kd α} {e' b' : Nat} {ok' : Nat → Prop} {u : Value} {ys : List α} (h : ORd base W g rest err) (hv : d'.R e' W b' ok' u ys) (h1 : 5 ≠ e') (h2 : e' ≠ 69) (hg : W.grownBy w1 u.ownBlock) : ORd base w1 g rest err := by
  obtain ⟨v, bs, p, k1, k2, k3, k4, k5, k6, k7⟩ := h
  exact ⟨v, bs, p, blk_grown k1 hg (Kd.R_ne hv k1 h2), k2, k3, k4, k5, k6, Kd.R_over k7 hv (by intro q hq; simp [Kd.int, Kd.scalar] at hq; omega) hg⟩
theorem ORd.lt {base : Nat} {W : World} {g : Nat} {rest : List Int} {err : Int} (h : ORd base W g rest err) : g < W.heap.size := by
  obtain ⟨v, bs, p, h1, _⟩ := h
  exact blk_lt h1
theorem ORd.ge {base : Nat} {W : World} {g : Nat} {rest : List Int} {err : Int} (h : ORd base W g rest err) : base ≤ g := by
  obtain ⟨v, bs, p, _, h2, _⟩ := h
  exact h2
theorem ORd.ne {base : Nat} {W : World} {g b t : Nat} {cs : Array Value} {rest : List Int} {err : Int} (h : ORd base W g rest err) (hb : W.heap[b]? = some (.cells cs t (0, 0))) (ht : t ≠ 69) : g ≠ b := by
  obtain ⟨v, bs, p, h1, _⟩ := h
  exact blk_ne h1 hb (Ne.symm ht)
theorem ORd.bytes {base : Nat} {W : World} {g : Nat} {rest : List Int} {err : Int} (h : ORd base W g rest err) : rest.all isByte = true := by
  obtain ⟨v, bs, p, _, _, _, rfl, h5, _⟩ := h
  rw [List.all_eq_true] at h5 ⊢
  exact fun x hx => h5 x (List.mem_of_mem_drop hx)
theorem ORd.len {base : Nat} {W : World} {g : Nat} {rest : List Int} {err : Int} (h : ORd base W g rest err) : rest.length < 140737488355328 := by
  obtain ⟨v, bs, p, _, _, _, rfl, h5, h6, _⟩ := h
  rw [List.length_drop]
  omega

set_option maxRecDepth 100000 in
theorem octet_made_any (base g : Nat) (rest : List Int) (err : Int) (w : World) (h : ORd base w g rest err) :
    Calls Try.prog 50 #[.pointer (some ⟨g, 0, none⟩)] w fun e w' => e = .returned (.bool true) ∧ w = w' := by
  obtain ⟨v, bs, p, h1, _⟩ := h
  have hc : w.cell? ⟨g, 3, none⟩ = some (.bool true) := (blk_cell h1 3).trans rfl
  clear h1
  go_enter Try.func50, Try.ntmps50
  go_wp2
  repeat (go_quiet (fail); try go_wp2)
  go_ret
  exact ⟨rfl, rfl⟩
set_option maxRecDepth 100000 in
theorem octet_fail_any (base g : Nat) (rest : List Int) (err x : Int) (w : World) (h : ORd base w g rest err) :
    Calls Try.prog 49 #[.pointer (some ⟨g, 0, none⟩), .int .i64 x] w fun e w' => e = .returned (.tuple #[]) ∧ ORd base w' g rest x ∧ OnlyAt w w' g := by
  have HR := Aside0.mk h
  obtain ⟨v, bs, p, h1, h2, h3, h4, h5, h6, h7⟩ := h
  have hc : w.cell? ⟨g, 2, none⟩ = some (.int .i64 err) := (blk_cell h1 2).trans rfl
  have hf := blk_frozen h1 2
  have HK := Aside0.mk (And.intro h1 (And.intro h2 (And.intro h3 (And.intro h4 (And.intro h5 (And.intro h6 h7))))))
  clear h1 h2 h3 h4 h5 h6 h7
  go_enter Try.func49, Try.ntmps49
  go_wp2
  first | go_end0 | ((try simp only [Exit.inBlock, Exit.then]); refine bodyPost_ret (results_none rfl _ _ _) rfl ?_)
  obtain ⟨h1, h2, h3, h4, h5, h6, h7⟩ := HK.out
  exact ⟨rfl, ⟨v, bs, p, by simpa using blk_set h1 2 (.int .i64 x), h2, h3, h4, h5, h6, Kd.R_set h7 h1 (by intro q hq; simp [Kd.int, Kd.scalar] at hq; omega) 2 _⟩, (OnlyAt.refl w g).set 2 _⟩
set_option maxRecDepth 100000 in
theorem octet_ready_any (base g : Nat) (rest : List Int) (err : Int) (w : World) (h : ORd base w g rest err) :
    Calls Try.prog 48 #[.pointer (some ⟨g, 0, none⟩)] w fun e w' => e = .returned (.bool (err == 0)) ∧ Drawn0 w w' := by
  have HR := Aside0.mk h
  obtain ⟨v, bs, p, h1, _⟩ := h
  have hc : w.cell? ⟨g, 2, none⟩ = some (.int .i64 err) := (blk_cell h1 2).trans rfl
  clear h1
  go_enter Try.func48, Try.ntmps48
  go_wp2_with (go_at_call 50; refine (octet_made_any base g rest err _ HR.out).mono ?_; rintro e w' ⟨rfl, rfl⟩)
  repeat (go_quiet (fail); try go_wp2)
  go_ret
  exact ⟨rfl, by repeat (first | exact Drawn0.refl _ | apply Drawn0.step)⟩
theorem r_one {k1 k2 : IntKind} {a b c d : Int} {p q : Bool} (h1 : a = b) (h2 : c = d) (h3 : p = q) : Ending.returned (.tuple #[.int k1 a, .int k2 c, .bool p]) = .returned (.tuple #[.int k1 b, .int k2 d, .bool q]) := by rw [h1, h2, h3]
def numE (rest : List Int) (err : Int) : Int := if (numR rest 0 0).1 = 0 then err else (numR rest 0 0).1
def numOk (rest : List Int) : Bool := (numR rest 0 0).1 == 0
def numV (rest : List Int) : Int := (numR rest 0 0).2.1
def numZ (rest : List Int) : Int := (numR rest 0 0).2.2
/-- How far the number has been read. -/
structure NumAt (rest : List Int) (i : Nat) (n : Int) : Prop where
  le : i ≤ rest.length
  nine : i ≤ 9
  eq : numR rest 0 0 = numR (rest.drop i) i n
  lo : 0 ≤ n
  hi : n < 2 ^ (7 * i)
theorem NumAt.step {rest : List Int} {i : Nat} {n c : Int} (h : NumAt rest i n) (hi : i < rest.length) (hc : rd rest (i : Int) = c) : numR rest 0 0 = if (i = 9 ∧ 1 < c) ∨ (0 < i ∧ c = 0) then (4, 0, 0) else if c < 128 then (0, n + c % 128 * 2 ^ (7 * i), i + 1) else numR (rest.drop (i + 1)) (i + 1) (n + c % 128 * 2 ^ (7 * i)) := by
  rw [h.eq]
  have e : rest.drop i = c :: rest.drop (i + 1) := by
    rw [← hc]
    unfold rd
    rw [Int.toNat_natCast, List.getD_eq_getElem?_getD, List.getElem?_eq_getElem hi]
    exact List.drop_eq_getElem_cons hi
  rw [e]
  rfl
theorem NumAt.next {rest : List Int} {i : Nat} {n c : Int} (h : NumAt rest i n) (hi : i < rest.length) (hc : rd rest (i : Int) = c) (h0 : 0 ≤ c) (h1 : c ≤ 255) (ha : ¬ ((i = 9 ∧ 1 < c) ∨ (0 < i ∧ c = 0))) (hb : ¬ c < 128) : NumAt rest (i + 1) (n + c % 128 * 2 ^ (7 * i)) := by
  have h9 := h.nine
  refine ⟨by omega, ?_, ?_, ?_, ?_⟩
  · rcases Nat.lt_or_ge i 9 with h2 | h2
    · omega
    · exact absurd (.inl ⟨by omega, by omega⟩) ha
  · rw [h.step hi hc, if_neg ha, if_neg hb]
  · have := h.lo
    have h2 : (0 : Int) ≤ c % 128 * 2 ^ (7 * i) := Int.mul_nonneg (by omega) (Int.le_of_lt (Int.pow_pos (by omega)))
    omega
  · have h3 := h.hi
    have h2 : c % 128 * 2 ^ (7 * i) ≤ 127 * 2 ^ (7 * i) := Int.mul_le_mul_of_nonneg_right (by omega) (Int.le_of_lt (Int.pow_pos (by omega)))
    have h4 : (2 : Int) ^ (7 * (i + 1)) = 128 * 2 ^ (7 * i) := by rw [show 7 * (i + 1) = 7 * i + 7 by omega, Int.pow_add]; omega
    omega
/-- The bits of a further byte. -/
theorem or_shift (n c : Int) (i : Nat) (h0 : 0 ≤ n) (h1 : n < 2 ^ (7 * i)) (hc0 : 0 ≤ c) (hc : c < 128) (hi : i ≤ 9) (h9 : i = 9 → c ≤ 1) : Go.bits .or .u64 n (shl .u64 c (7 * (i : Int))) = n + c * 2 ^ (7 * i) ∧ shl .u64 c (7 * (i : Int)) = c * 2 ^ (7 * i) := by
  have hp : (0 : Int) < 2 ^ (7 * i) := Int.pow_pos (by omega)
  have hle : c * 2 ^ (7 * i) + 2 ^ (7 * i) ≤ 18446744073709551616 := by
    rcases Nat.lt_or_ge i 9 with h2 | h2
    · have h3 : (2 : Int) ^ (7 * i) ≤ 2 ^ 56 := by
        have : (2 : Nat) ^ (7 * i) ≤ 2 ^ 56 := Nat.pow_le_pow_right (by omega) (by omega)
        exact_mod_cast this
      have h4 : c * 2 ^ (7 * i) ≤ 127 * 2 ^ (7 * i) := Int.mul_le_mul_of_nonneg_right (by omega) (Int.le_of_lt hp)
      omega
    · have h3 : i = 9 := by omega
      subst h3
      have := h9 rfl
      have h4 : c * 2 ^ (7 * 9) ≤ 1 * 2 ^ (7 * 9) := Int.mul_le_mul_of_nonneg_right this (Int.le_of_lt hp)
      omega
  have hs : shl .u64 c (7 * (i : Int)) = c * 2 ^ (7 * i) := by
    unfold shl
    have h2 : min (7 * (i : Int)).toNat (IntKind.bits .u64) = 7 * i := by
      have : (7 * (i : Int)).toNat = 7 * i := by omega
      rw [this]
      show min (7 * i) 64 = 7 * i
      omega
    rw [h2]
    have h5 : (0 : Int) ≤ c * 2 ^ (7 * i) := Int.mul_nonneg hc0 (Int.le_of_lt hp)
    have h6 : c * 2 ^ (7 * i) < 18446744073709551616 := by omega
    simp only [IntKind.wrap, IntKind.bits, IntKind.signed]
    generalize c * 2 ^ (7 * i) = z at *
    simp
    omega
  refine ⟨?_, hs⟩
  rw [hs]
  obtain ⟨a, rfl⟩ := Int.eq_ofNat_of_zero_le h0
  obtain ⟨b, rfl⟩ := Int.eq_ofNat_of_zero_le hc0
  have e1 : ((b : Int) * 2 ^ (7 * i)) = ((b * 2 ^ (7 * i) : Nat) : Int) := by push_cast; rfl
  rw [e1]
  have h1' : a < 2 ^ (7 * i) := by exact_mod_cast h1
  have e2 : ((2 ^ (7 * i) : Nat) : Int) = 2 ^ (7 * i) := by push_cast; rfl
  have hle' : b * 2 ^ (7 * i) + 2 ^ (7 * i) ≤ 18446744073709551616 := by
    rw [e1, ← e2] at hle
    omega
  have hp' : 0 < 2 ^ (7 * i) := Nat.pow_pos (by omega)
  have hA : a < 18446744073709551616 := by omega
  have hB : b * 2 ^ (7 * i) < 18446744073709551616 := by omega
  rw [bits_or_u64_nat a (b * 2 ^ (7 * i)) hA hB]
  have := Nat.two_pow_add_eq_or_of_lt h1' b
  rw [Nat.or_comm, Nat.mul_comm b, ← this]
  push_cast
  omega
theorem or_wrap (n c : Int) (i : Nat) (h0 : 0 ≤ n) (h1 : n < 2 ^ (7 * i)) (hc0 : 0 ≤ c) (hc : c < 128) (hi : i ≤ 9) (h9 : i = 9 → c ≤ 1) : Go.bits .or .u64 n (IntKind.u64.wrap (c * 2 ^ (7 * i))) = n + c * 2 ^ (7 * i) := by
  obtain ⟨a, b⟩ := or_shift n c i h0 h1 hc0 hc hi h9
  rw [b] at a
  have e : IntKind.u64.wrap (c * 2 ^ (7 * i)) = c * 2 ^ (7 * i) := by
    have hp : (0 : Int) < 2 ^ (7 * i) := Int.pow_pos (by omega)
    have h3 : (2 : Int) ^ (7 * i) ≤ 2 ^ 63 := by
      have : (2 : Nat) ^ (7 * i) ≤ 2 ^ 63 := Nat.pow_le_pow_right (by omega) (by omega)
      exact_mod_cast this
    have h5 : (0 : Int) ≤ c * 2 ^ (7 * i) := Int.mul_nonneg hc0 (Int.le_of_lt hp)
    have h6 : c * 2 ^ (7 * i) < 18446744073709551616 := by
      rcases Nat.lt_or_ge i 9 with h2 | h2
      · have h3 : (2 : Int) ^ (7 * i) ≤ 2 ^ 56 := by
          have : (2 : Nat) ^ (7 * i) ≤ 2 ^ 56 := Nat.pow_le_pow_right (by omega) (by omega)
          exact_mod_cast this
        have h4 : c * 2 ^ (7 * i) ≤ 127 * 2 ^ (7 * i) := Int.mul_le_mul_of_nonneg_right (by omega) (Int.le_of_lt hp)
        omega
      · have h8 := h9 (by omega)
        have h4 : c * 2 ^ (7 * i) ≤ 1 * 2 ^ (7 * i) := Int.mul_le_mul_of_nonneg_right h8 (Int.le_of_lt hp)
        omega
    simp only [IntKind.wrap, IntKind.bits, IntKind.signed]
    generalize c * 2 ^ (7 * i) = z at *
    simp
    omega
  rw [e]
  exact a
theorem and127 (x : Int) (h0 : 0 ≤ x) (h1 : x < 128) : Go.bits .and .u8 x 127 = x := by
  have h := bits_mask .u8 8 (by decide) wraps_u8 7 (by decide) x h0 (by omega)
  have e : (2 ^ 7 - 1 : Int) = 127 := by decide
  rw [e] at h
  rw [h]
  show x % 128 = x
  omega
theorem and127' (x : Int) (h0 : 0 ≤ x) (h1 : x < 256) : Go.bits .and .u8 x 127 = x % 128 := by
  have h := bits_mask .u8 8 (by decide) wraps_u8 7 (by decide) x h0 (by omega)
  have e : (2 ^ 7 - 1 : Int) = 127 := by decide
  rw [e] at h
  exact h
set_option maxHeartbeats 1000000 in
set_option maxRecDepth 100000 in
theorem octet_number_any (base g : Nat) (rest : List Int) (err : Int) (w : World) (h : ORd base w g rest err) :
    Calls Try.prog 53 #[.pointer (some ⟨g, 0, none⟩)] w fun e w' => e = .returned (.tuple #[.int .u64 (numV rest), .int .i64 (numZ rest), .bool (numOk rest)]) ∧ ORd base w' g rest (numE rest err) ∧ OnlyAt w w' g := by
  have HR := Aside0.mk h
  have HBY := Aside0.mk h.bytes
  have HLN := Aside0.mk h.len
  obtain ⟨v, bs, p, h1, h2, h3, h4, h5, h6, h7⟩ := h
  obtain ⟨A, c, rfl⟩ := Kd.R_slice h7
  have hc0 : w.cell? ⟨g, 0, none⟩ = some (.slice A bs.length c) := (blk_cell h1 0).trans rfl
  have hc1 : w.cell? ⟨g, 1, none⟩ = some (.int .i64 p) := (blk_cell h1 1).trans rfl
  obtain ⟨i0, hi0, _, hsz, _⟩ := info_parts minfo_byte
  have hC := (Kd.R_reads' h7).2.2
  have hcap := (Kd.R_reads' h7).2.1
  have p0 : (0 : Int) ≤ (p : Int) := by omega
  have p1 : (p : Int) ≤ (bs.length : Int) := by omega
  have hcut := cut_from (P := Try.prog) 40 5 .i64 Try.underlying40 hi0 1 hsz A bs.length c (p : Int) p0 (by omega)
  rw [show ((p : Int)).toNat = p by omega] at hcut
  have hD := Kd.C_drop (m := p) hC h3 hcap
  obtain ⟨A', hA'⟩ : ∃ A', A' = (if c = p then A else A.map (·.add (p * 1))) := ⟨_, rfl⟩
  obtain ⟨c', hc'⟩ : ∃ c', c' = c - p := ⟨_, rfl⟩
  have hlen : rest.length = bs.length - p := by rw [h4, List.length_drop]
  rw [← hA', ← hc', ← hlen] at hcut
  have HD : Aside0 (Kd.C (Kd.int .u8) w A' rest.length rest) := ⟨by rw [hA', h4]; exact hD⟩
  have q2 : (0 : Int) ≤ (p : Int) := by omega
  clear h1 h2 h3 h4 h5 h6 h7 hi0 hsz hC hcap hD hA' hc' hlen
  go_enter Try.func53, Try.ntmps53
  go_wp2
  repeat (go_quiet (fail); try go_wp2)
  go_loopw [2, 19] (fun vn vi W => ∃ (i : Nat) (n : Int), vi = .int .i64 i ∧ vn = .int .u64 n ∧ Aside0 (NumAt rest i n) ∧ Drawn0 w W) (fun _ vi _ => rest.length - (intOf vi).toNat)
  case atStart => exact ⟨0, 0, rfl, rfl, ⟨⟨Nat.zero_le _, by omega, by rw [List.drop_zero], by omega, by simp⟩⟩, by repeat (first | exact Drawn0.refl _ | apply Drawn0.step)⟩
  case round =>
    obtain ⟨i, n, rfl, rfl, HN, ⟨m, rfl⟩⟩ := hrel
    by_cases hlt : i < rest.length
    · have d1 : decide (i < rest.length) = true := by simpa using hlt
      have d2 : decide ((i : Int) < (rest.length : Int)) = true := by simp; omega
      obtain ⟨ad, e, hcell⟩ := Kd.at_int HD.out (i : Int) (by omega) (by omega)
      cases e
      rw [show ((i : Int)).toNat = i by omega] at hcell
      have hby : isByte (rd rest i) = true := List.all_eq_true.mp HBY.out _ (by simp only [rd, Int.toNat_natCast, List.getD_eq_getElem?_getD, List.getElem?_eq_getElem hlt, Option.getD_some]; exact List.getElem_mem hlt)
      obtain ⟨x, hx⟩ : ∃ x, rd rest i = x := ⟨_, rfl⟩
      have HX := Aside0.mk hx
      rw [hx] at hcell hby
      clear hx
      have hb0 : 0 ≤ x := by unfold isByte at hby; simp at hby; omega
      have hb1 : x ≤ 255 := by unfold isByte at hby; simp at hby; omega
      clear hby
      have HS := Aside0.mk (HN.out.step hlt HX.out)
      have h9 := HN.out.nine
      by_cases hc128 : x < 128
      · have e5 : decide (x < 128) = true := by simpa using hc128
        by_cases hbad : (i = 9 ∧ 1 < x) ∨ (0 < i ∧ x = 0)
        · have hq : numR rest 0 0 = (4, 0, 0) := by rw [HS.out, if_pos hbad]
          have HQ := Aside0.mk hq
          clear hq
          have t3 : decide (0 < i) = true := by simp; omega
          have t5 : decide ((0 : Int) < (i : Int)) = true := by simp; omega
          by_cases hx0 : x = 0
          · have t4 : (x == 0) = true := by simp; omega
            have t2 : decide (1 < x) = false := by simp; omega
            have HX0 := Aside0.mk hx0
            clear hx0 hbad
            cases t1 : ((i : Int) == 9) with
            | true =>
              go_wp2_with (go_at_call 49; refine (octet_fail_any base g rest err _ _ (HR.out.drewN m)).mono ?_; rintro e w2 ⟨rfl, ho, hk⟩)
              go_ret3
              exact ⟨r_one (by unfold numV; rw [HQ.out]) (by unfold numZ; rw [HQ.out]; rfl) (by unfold numOk; rw [HQ.out]; rfl), by unfold numE; rw [HQ.out]; exact ho, ((OnlyAt.refl w g).drewN m).trans hk⟩
            | false =>
              go_wp2_with (go_at_call 49; refine (octet_fail_any base g rest err _ _ (HR.out.drewN m)).mono ?_; rintro e w2 ⟨rfl, ho, hk⟩)
              go_ret3
              exact ⟨r_one (by unfold numV; rw [HQ.out]) (by unfold numZ; rw [HQ.out]; rfl) (by unfold numOk; rw [HQ.out]; rfl), by unfold numE; rw [HQ.out]; exact ho, ((OnlyAt.refl w g).drewN m).trans hk⟩
          · have t4 : (x == 0) = false := by simp; omega
            have t1 : ((i : Int) == 9) = true := by simp; omega
            have t2 : decide (1 < x) = true := by simp; omega
            clear hx0 hbad
            go_wp2_with (go_at_call 49; refine (octet_fail_any base g rest err _ _ (HR.out.drewN m)).mono ?_; rintro e w2 ⟨rfl, ho, hk⟩)
            go_ret3
            exact ⟨r_one (by unfold numV; rw [HQ.out]) (by unfold numZ; rw [HQ.out]; rfl) (by unfold numOk; rw [HQ.out]; rfl), by unfold numE; rw [HQ.out]; exact ho, ((OnlyAt.refl w g).drewN m).trans hk⟩
        · have ho := or_wrap n x i HN.out.lo HN.out.hi hb0 hc128 h9 (fun e => by omega)
          have HO := Aside0.mk ho
          clear ho
          have hq : numR rest 0 0 = (0, n + x * 2 ^ (7 * i), i + 1) := by rw [HS.out, if_neg hbad, if_pos hc128, show x % 128 = x by omega]
          have HQ := Aside0.mk hq
          clear hq
          have hand : Go.bits .and .u8 x 127 = x := and127 x hb0 hc128
          by_cases hi9 : i = 9
          · have t1 : ((i : Int) == 9) = true := by simp; omega
            have t2 : decide (1 < x) = false := by simp; omega
            have t3 : decide (0 < i) = true := by simp; omega
            have t4 : (x == 0) = false := by simp; omega
            have t5 : decide ((0 : Int) < (i : Int)) = true := by simp; omega
            have HI9 := Aside0.mk hi9
            clear hi9
            go_wp2
            go_ret3
            exact ⟨r_one (by rw [HO.out]; unfold numV; rw [HQ.out]) (by unfold numZ; rw [HQ.out]; rfl) (by unfold numOk; rw [HQ.out]; rfl), by unfold numE; rw [HQ.out]; exact HR.out.drewN m, (OnlyAt.refl w g).drewN m⟩
          · have t1 : ((i : Int) == 9) = false := by simp; omega
            by_cases hi0 : 0 < i
            · have t3 : decide (0 < i) = true := by simp; omega
              have t4 : (x == 0) = false := by simp; omega
              have t5 : decide ((0 : Int) < (i : Int)) = true := by simp; omega
              have HI9 := Aside0.mk hi9
              clear hi9
              go_wp2
              go_ret3
              exact ⟨r_one (by rw [HO.out]; unfold numV; rw [HQ.out]) (by unfold numZ; rw [HQ.out]; rfl) (by unfold numOk; rw [HQ.out]; rfl), by unfold numE; rw [HQ.out]; exact HR.out.drewN m, (OnlyAt.refl w g).drewN m⟩
            · have t3 : decide (0 < i) = false := by simp; omega
              have t5 : decide ((0 : Int) < (i : Int)) = false := by simp; omega
              have HI9 := Aside0.mk hi9
              clear hi0
              clear hi9
              go_wp2
              go_ret3
              exact ⟨r_one (by rw [HO.out]; unfold numV; rw [HQ.out]) (by unfold numZ; rw [HQ.out]; rfl) (by unfold numOk; rw [HQ.out]; rfl), by unfold numE; rw [HQ.out]; exact HR.out.drewN m, (OnlyAt.refl w g).drewN m⟩
      · have e5 : decide (x < 128) = false := by simpa using hc128
        by_cases hi9 : i = 9
        · have hq : numR rest 0 0 = (4, 0, 0) := by rw [HS.out, if_pos (.inl ⟨hi9, by omega⟩)]
          have HQ := Aside0.mk hq
          clear hq
          have t1 : ((i : Int) == 9) = true := by simp; omega
          have t2 : decide (1 < x) = true := by simp; omega
          have HI9 := Aside0.mk hi9
          clear hi9
          go_wp2_with (go_at_call 49; refine (octet_fail_any base g rest err _ _ (HR.out.drewN m)).mono ?_; rintro e w2 ⟨rfl, ho, hk⟩)
          go_ret3
          exact ⟨r_one (by unfold numV; rw [HQ.out]) (by unfold numZ; rw [HQ.out]; rfl) (by unfold numOk; rw [HQ.out]; rfl), by unfold numE; rw [HQ.out]; exact ho, ((OnlyAt.refl w g).drewN m).trans hk⟩
        · have t1 : ((i : Int) == 9) = false := by simp; omega
          have t4 : (x == 0) = false := by simp; omega
          have hnx := HN.out.next hlt HX.out hb0 hb1 (fun h => by omega) hc128
          have HNX := Aside0.mk hnx
          have hand : Go.bits .and .u8 x 127 = x % 128 := and127' x hb0 (by omega)
          have hm0 : 0 ≤ x % 128 := by omega
          have hm1 : x % 128 < 128 := by omega
          have ho := or_wrap n (x % 128) i HN.out.lo HN.out.hi hm0 hm1 h9 (fun e => absurd e hi9)
          have HO := Aside0.mk ho
          obtain ⟨y, hy⟩ : ∃ y, x % 128 = y := ⟨_, rfl⟩
          rw [hy] at hand hm0 hm1
          have HY := Aside0.mk hy
          clear hy ho hnx hi9
          cases t3 : decide (0 < i) with
          | true =>
            have t5 : decide ((0 : Int) < (i : Int)) = true := by simp at t3 ⊢; omega
            go_wp2
            go_roundw
            case rel => exact ⟨i + 1, n + y * 2 ^ (7 * i), by go_num, by rw [← HY.out, HO.out], by rw [← HY.out]; exact HNX, by repeat (first | exact Drawn0.refl _ | apply Drawn0.step)⟩
            case measure => simp [intOf]; omega
          | false =>
            have t5 : decide ((0 : Int) < (i : Int)) = false := by simp at t3 ⊢; omega
            go_wp2
            go_roundw
            case rel => exact ⟨i + 1, n + y * 2 ^ (7 * i), by go_num, by rw [← HY.out, HO.out], by rw [← HY.out]; exact HNX, by repeat (first | exact Drawn0.refl _ | apply Drawn0.step)⟩
            case measure => simp [intOf]; omega
    · have d1 : decide (i < rest.length) = false := by simpa using hlt
      have d2 : decide ((i : Int) < (rest.length : Int)) = false := by simp; omega
      go_wp2_with (go_at_call 49; refine (octet_fail_any base g rest err _ _ (HR.out.drewN m)).mono ?_; rintro e w2 ⟨rfl, ho, hk⟩)
      go_ret3
      have hi : i = rest.length := by have := HN.out.le; omega
      have hn : numR rest 0 0 = (5, 0, 0) := by rw [HN.out.eq, List.drop_of_length_le (by omega)]; rfl
      exact ⟨r_one (by unfold numV; rw [hn]) (by unfold numZ; rw [hn]; rfl) (by unfold numOk; rw [hn]; rfl), by unfold numE; rw [hn]; exact ho, ((OnlyAt.refl w g).drewN m).trans hk⟩
theorem numR_le : ∀ (l : List Int) (i : Nat) (n : Int), (numR l i n).1 = 0 → (numR l i n).2.2 ≤ i + l.length
  | [], i, n, h => by simp [numR] at h
  | c :: r, i, n, h => by
    unfold numR at h ⊢
    split
    · rename_i h1
      rw [if_pos h1] at h
      simp at h
    · rename_i h1
      rw [if_neg h1] at h
      split
      · simp
      · rename_i h2
        rw [if_neg h2] at h
        have := numR_le r (i + 1) _ h
        simp
        omega
theorem numR_size (l : List Int) (h : (numR l 0 0).1 = 0) : (numR l 0 0).2.2 ≤ l.length := by
  have := numR_le l 0 0 h
  omega
theorem returned_int {k : IntKind} {a b : Int} (h : a = b) : Ending.returned (.int k a) = .returned (.int k b) := by rw [h]

set_option maxHeartbeats 1000000 in
set_option maxRecDepth 100000 in
theorem octet_Number_any (base g : Nat) (rest : List Int) (err : Int) (w : World) (h : ORd base w g rest err) :
    Calls Try.prog 47 #[.pointer (some ⟨g, 0, none⟩)] w fun e w' => e = .returned (.int .u64 (rdNum rest err).1) ∧ ORd base w' g (rdNum rest err).2.1 (rdNum rest err).2.2 ∧ OnlyAt w w' g := by
  have HR := Aside0.mk h
  clear h
  by_cases he : err = 0
  · have e1 : (err == 0) = true := by simpa using he
    have HE := Aside0.mk he
    clear he
    cases hok : numOk rest with
    | true =>
      go_enter Try.func47, Try.ntmps47
      go_wp2_with (first
        | (go_at_call 48; refine (octet_ready_any base g rest err _ HR.out).mono ?_; rintro e w1 ⟨rfl, ⟨m, rfl⟩⟩)
        | (go_at_call 53; refine (octet_number_any base g rest err _ (HR.out.drewN m)).mono ?_; rintro e w2 ⟨rfl, ho, hk⟩; have HO := Aside0.mk ho; have HK := Aside0.mk hk; obtain ⟨v, bs, p, b1, b2, b3, b4, b5, b6, b7⟩ := ho; have hc1 : w2.cell? ⟨g, 1, none⟩ = some (.int .i64 p) := (blk_cell b1 1).trans rfl; have hf1 := blk_frozen b1 1; have HP := Aside0.mk (And.intro b1 (And.intro b2 (And.intro b3 (And.intro b4 (And.intro b5 (And.intro b6 b7)))))); clear hk b1 b2 b3 b4 b5 b6 b7))
      repeat (go_quiet (fail); try go_wp2)
      go_ret
      have hok' : (numR rest 0 0).1 = 0 := by unfold numOk at hok; simpa using hok
      have hv : rdNum rest err = (numV rest, rest.drop (numR rest 0 0).2.2, 0) := by unfold rdNum; rw [if_pos HE.out, if_pos hok']; rfl
      have hs := numR_size rest hok'
      refine ⟨returned_int (by rw [hv]), ?_, ?_⟩
      · rw [hv]
        obtain ⟨b1, b2, b3, b4, b5, b6, b7⟩ := HP.out
        have hz : numZ rest = ((numR rest 0 0).2.2 : Int) := rfl
        have hr : rest.length = bs.length - p := by rw [b4, List.length_drop]
        have hw : wrap64 ((p : Int) + numZ rest) = ((p + (numR rest 0 0).2.2 : Nat) : Int) := by rw [hz]; unfold wrap64; omega
        have hne : numE rest err = 0 := by unfold numE; rw [if_pos hok']; exact HE.out
        rw [hw]
        refine ⟨v, bs, p + (numR rest 0 0).2.2, ?_, b2, by omega, by rw [b4, List.drop_drop], b5, b6, Kd.R_set b7 b1 (by intro q hq; simp [Kd.int, Kd.scalar] at hq; omega) 1 _⟩
        rw [hne] at b1
        exact blk_set b1 1 (.int .i64 ((p + (numR rest 0 0).2.2 : Nat) : Int))
      · exact (((OnlyAt.refl w g).drewN m).trans HK.out).set 1 _
    | false =>
      go_enter Try.func47, Try.ntmps47
      go_wp2_with (first
        | (go_at_call 48; refine (octet_ready_any base g rest err _ HR.out).mono ?_; rintro e w1 ⟨rfl, ⟨m, rfl⟩⟩)
        | (go_at_call 53; refine (octet_number_any base g rest err _ (HR.out.drewN m)).mono ?_; rintro e w2 ⟨rfl, ho, hk⟩; have HO := Aside0.mk ho; have HK := Aside0.mk hk; clear ho hk))
      repeat (go_quiet (fail); try go_wp2)
      go_ret
      have hok' : ¬ (numR rest 0 0).1 = 0 := by unfold numOk at hok; simpa using hok
      have hv : rdNum rest err = (0, rest, (numR rest 0 0).1) := by unfold rdNum; rw [if_pos HE.out, if_neg hok']
      have hne : numE rest err = (numR rest 0 0).1 := by unfold numE; rw [if_neg hok']
      refine ⟨returned_int (by rw [hv]), ?_, ((OnlyAt.refl w g).drewN m).trans HK.out⟩
      rw [hv, ← hne]
      exact HO.out
  · have e1 : (err == 0) = false := by simpa using he
    have HE := Aside0.mk he
    clear he
    go_enter Try.func47, Try.ntmps47
    go_wp2_with (go_at_call 48; refine (octet_ready_any base g rest err _ HR.out).mono ?_; rintro e w1 ⟨rfl, ⟨m, rfl⟩⟩)
    repeat (go_quiet (fail); try go_wp2)
    go_ret
    have hv : rdNum rest err = (0, rest, err) := by unfold rdNum; rw [if_neg HE.out]
    refine ⟨returned_int (by rw [hv]), ?_, (OnlyAt.refl w g).drewN m⟩
    rw [hv]
    exact HR.out.drewN m
set_option maxHeartbeats 1000000 in
set_option maxRecDepth 100000 in
theorem octet_Upto_any (base g : Nat) (rest : List Int) (err most : Int) (w : World) (h : ORd base w g rest err) :
    Calls Try.prog 35 #[.pointer (some ⟨g, 0, none⟩), .int .u64 most] w fun e w' => e = .returned (.int .u64 (rdUpto most rest err).1) ∧ ORd base w' g (rdUpto most rest err).2.1 (rdUpto most rest err).2.2 ∧ OnlyAt w w' g := by
  have HR := Aside0.mk h
  clear h
  obtain ⟨n, hn⟩ : ∃ n, (rdNum rest err).1 = n := ⟨_, rfl⟩
  obtain ⟨r2, hr2⟩ : ∃ r2, (rdNum rest err).2.1 = r2 := ⟨_, rfl⟩
  obtain ⟨e2, he2⟩ : ∃ e2, (rdNum rest err).2.2 = e2 := ⟨_, rfl⟩
  have HN : Aside0 (rdNum rest err = (n, r2, e2)) := ⟨by rw [← hn, ← hr2, ← he2]⟩
  have HC : Aside0 (∀ w, ORd base w g rest err → Calls Try.prog 47 #[.pointer (some ⟨g, 0, none⟩)] w fun e w' => e = .returned (.int .u64 n) ∧ ORd base w' g r2 e2 ∧ OnlyAt w w' g) := ⟨fun w h => by rw [← hn, ← hr2, ← he2]; exact octet_Number_any base g rest err w h⟩
  clear hn hr2 he2
  cases h1 : (e2 == 0) with
  | true =>
    cases h2 : decide (most < n) with
    | true =>
      have h3 : e2 = 0 := by simpa using h1
      have h4 : most < n := by simpa using h2
      have HV : Aside0 (rdUpto most rest err = (0, r2, 3)) := ⟨by unfold rdUpto; rw [HN.out]; exact if_pos ⟨h3, h4⟩⟩
      clear h3 h4
      go_enter Try.func35, Try.ntmps35
      go_wp2_with (first
        | (go_at_call 47; refine (HC.out _ HR.out).mono ?_; rintro e w1 ⟨rfl, ho, hk⟩; have HO := Aside0.mk ho; have HK := Aside0.mk hk; clear ho hk)
        | (go_at_call 48; refine (octet_ready_any base g r2 e2 _ HO.out).mono ?_; rintro e w2 ⟨rfl, ⟨m, rfl⟩⟩)
        | (go_at_call 49; refine (octet_fail_any base g r2 e2 _ _ ?hf).mono ?_; (case hf => first | exact HO.out | exact HO.out.drewN _); rintro e w3 ⟨rfl, ho, hk⟩; have HO2 := Aside0.mk ho; have HK2 := Aside0.mk hk; clear ho hk))
      repeat (go_quiet (fail); try go_wp2)
      go_ret
      rw [HV.out]
      first | exact ⟨rfl, HO2.out, (HK.out.drewN _).trans HK2.out⟩ | exact ⟨rfl, HO2.out, HK.out.trans HK2.out⟩
    | false =>
      have h4 : ¬ most < n := by simpa using h2
      have HV : Aside0 (rdUpto most rest err = (n, r2, e2)) := ⟨by unfold rdUpto; rw [HN.out]; exact if_neg (fun h => h4 h.2)⟩
      clear h4
      go_enter Try.func35, Try.ntmps35
      go_wp2_with (first
        | (go_at_call 47; refine (HC.out _ HR.out).mono ?_; rintro e w1 ⟨rfl, ho, hk⟩; have HO := Aside0.mk ho; have HK := Aside0.mk hk; clear ho hk)
        | (go_at_call 48; refine (octet_ready_any base g r2 e2 _ HO.out).mono ?_; rintro e w2 ⟨rfl, ⟨m, rfl⟩⟩))
      repeat (go_quiet (fail); try go_wp2)
      go_ret
      rw [HV.out]
      exact ⟨rfl, HO.out.drewN _, HK.out.drewN _⟩
  | false =>
    have h3 : ¬ e2 = 0 := by simpa using h1
    have HV : Aside0 (rdUpto most rest err = (n, r2, e2)) := ⟨by unfold rdUpto; rw [HN.out]; exact if_neg (fun h => h3 h.1)⟩
    clear h3
    go_enter Try.func35, Try.ntmps35
    go_wp2_with (first
      | (go_at_call 47; refine (HC.out _ HR.out).mono ?_; rintro e w1 ⟨rfl, ho, hk⟩; have HO := Aside0.mk ho; have HK := Aside0.mk hk; clear ho hk)
      | (go_at_call 48; refine (octet_ready_any base g r2 e2 _ HO.out).mono ?_; rintro e w2 ⟨rfl, ⟨m, rfl⟩⟩))
    repeat (go_quiet (fail); try go_wp2)
    go_ret
    rw [HV.out]
    exact ⟨rfl, HO.out.drewN _, HK.out.drewN _⟩
set_option maxHeartbeats 1000000 in
set_option maxRecDepth 100000 in
theorem octet_Left_any (base g : Nat) (rest : List Int) (err : Int) (w : World) (h : ORd base w g rest err) :
    Calls Try.prog 51 #[.pointer (some ⟨g, 0, none⟩)] w fun e w' => e = .returned (.int .i64 (rest.length : Int)) ∧ Drawn0 w w' := by
  have HR := Aside0.mk h
  obtain ⟨v, bs, p, h1, h2, h3, h4, h5, h6, h7⟩ := h
  obtain ⟨A, c, rfl⟩ := Kd.R_slice h7
  have hc0 : w.cell? ⟨g, 0, none⟩ = some (.slice A bs.length c) := (blk_cell h1 0).trans rfl
  have hc1 : w.cell? ⟨g, 1, none⟩ = some (.int .i64 p) := (blk_cell h1 1).trans rfl
  have hw : wrap64 ((bs.length : Int) - (p : Int)) = (rest.length : Int) := by rw [h4, List.length_drop]; unfold wrap64; omega
  have hw2 : IntKind.i64.wrap ((bs.length : Int) - (p : Int)) = (rest.length : Int) := (i64_w _).trans hw
  clear h1 h2 h3 h4 h5 h6 h7
  go_enter Try.func51, Try.ntmps51
  go_wp2_with (go_at_call 50; refine (octet_made_any base g rest err _ HR.out).mono ?_; rintro e w' ⟨rfl, rfl⟩)
  repeat (go_quiet (fail); try go_wp2)
  go_ret
  exact ⟨returned_int (by first | rfl | exact hw | exact hw2), by repeat (first | exact Drawn0.refl _ | apply Drawn0.step)⟩
set_option maxHeartbeats 1000000 in
set_option maxRecDepth 100000 in
theorem octet_Err_any (base g : Nat) (rest : List Int) (err : Int) (w : World) (h : ORd base w g rest err) :
    Calls Try.prog 36 #[.pointer (some ⟨g, 0, none⟩)] w fun e w' => e = .returned (.int .i64 err) ∧ Drawn0 w w' := by
  have HR := Aside0.mk h
  obtain ⟨v, bs, p, h1, h2, h3, h4, h5, h6, h7⟩ := h
  have hc2 : w.cell? ⟨g, 2, none⟩ = some (.int .i64 err) := (blk_cell h1 2).trans rfl
  clear h1 h2 h3 h4 h5 h6 h7
  go_enter Try.func36, Try.ntmps36
  go_wp2_with (go_at_call 50; refine (octet_made_any base g rest err _ HR.out).mono ?_; rintro e w' ⟨rfl, rfl⟩)
  repeat (go_quiet (fail); try go_wp2)
  go_ret
  exact ⟨rfl, by repeat (first | exact Drawn0.refl _ | apply Drawn0.step)⟩
set_option maxHeartbeats 1000000 in
set_option maxRecDepth 100000 in
theorem octet_End_any (base g : Nat) (rest : List Int) (err : Int) (w : World) (h : ORd base w g rest err) :
    Calls Try.prog 37 #[.pointer (some ⟨g, 0, none⟩)] w fun e w' => e = .returned (.int .i64 (rdEnd rest err)) ∧ ORd base w' g rest (rdEnd rest err) ∧ OnlyAt w w' g := by
  have HR := Aside0.mk h
  obtain ⟨v, bs, p, h1, h2, h3, h4, h5, h6, h7⟩ := h
  have hc2 : w.cell? ⟨g, 2, none⟩ = some (.int .i64 err) := (blk_cell h1 2).trans rfl
  clear h1 h2 h3 h4 h5 h6 h7
  cases t1 : (err == 0) with
  | true =>
    cases t2 : decide (0 < rest.length) with
    | true =>
      have t3 : decide ((0 : Int) < (rest.length : Int)) = true := by simp at t2 ⊢; first | exact t2 | omega
      have HV : Aside0 (rdEnd rest err = 4) := ⟨by unfold rdEnd; refine if_pos ⟨by simpa using t1, fun e => ?_⟩; rw [e] at t2; simp at t2⟩
      go_enter Try.func37, Try.ntmps37
      go_wp2_with (first
        | (go_at_call 50; refine (octet_made_any base g rest err _ HR.out).mono ?_; rintro e w' ⟨rfl, rfl⟩)
        | (go_at_call 51; refine (octet_Left_any base g rest err _ HR.out).mono ?_; rintro e w2 ⟨rfl, ⟨m, rfl⟩⟩)
        | (go_at_call 49; refine (octet_fail_any base g rest err _ _ (HR.out.drewN _)).mono ?_; rintro e w3 ⟨rfl, ho, hk⟩; have HO := Aside0.mk ho; have HK := Aside0.mk hk; obtain ⟨v, bs, p, b1, b2, b3, b4, b5, b6, b7⟩ := ho; have hd2 : w3.cell? ⟨g, 2, none⟩ = some (.int .i64 4) := (blk_cell b1 2).trans rfl; clear hk b1 b2 b3 b4 b5 b6 b7))
      repeat (go_quiet (fail); try go_wp2)
      go_ret
      rw [HV.out]
      exact ⟨rfl, HO.out, ((OnlyAt.refl w g).drewN _).trans HK.out⟩
    | false =>
      have t3 : decide ((0 : Int) < (rest.length : Int)) = false := by simp at t2 ⊢; first | exact t2 | omega
      have HV : Aside0 (rdEnd rest err = err) := ⟨by unfold rdEnd; refine if_neg (fun h => h.2 (List.eq_nil_of_length_eq_zero ?_)); simp at t2; first | (rw [t2]; rfl) | omega⟩
      go_enter Try.func37, Try.ntmps37
      go_wp2_with (first
        | (go_at_call 50; refine (octet_made_any base g rest err _ HR.out).mono ?_; rintro e w' ⟨rfl, rfl⟩)
        | (go_at_call 51; refine (octet_Left_any base g rest err _ HR.out).mono ?_; rintro e w2 ⟨rfl, ⟨m, rfl⟩⟩))
      repeat (go_quiet (fail); try go_wp2)
      go_ret
      rw [HV.out]
      exact ⟨rfl, HR.out.drewN _, (OnlyAt.refl w g).drewN _⟩
  | false =>
    have HV : Aside0 (rdEnd rest err = err) := ⟨by unfold rdEnd; refine if_neg (fun h => ?_); rw [h.1] at t1; simp at t1⟩
    go_enter Try.func37, Try.ntmps37
    go_wp2_with (first
      | (go_at_call 50; refine (octet_made_any base g rest err _ HR.out).mono ?_; rintro e w' ⟨rfl, rfl⟩))
    repeat (go_quiet (fail); try go_wp2)
    go_ret
    rw [HV.out]
    first | exact ⟨rfl, HR.out, OnlyAt.refl w g⟩ | exact ⟨rfl, HR.out.drewN _, (OnlyAt.refl w g).drewN _⟩
set_option maxHeartbeats 1000000 in
set_option maxRecDepth 100000 in
theorem octet_New_any (A : Option Addr) (c : Nat) (l : List Int) (w : World) (hr : Kd.C (Kd.int .u8) w A l.length l) (hc : l.length ≤ c) (hb : l.all isByte = true) (hl : l.length < 140737488355328) :
    Calls Try.prog 34 #[.slice A l.length c] w fun e w' => ∃ g : Nat, e = .returned (.pointer (some ⟨g, 0, none⟩)) ∧ ORd w.heap.size w' g l 0 ∧ Below w.heap.size w w' := by
  have HR := Aside0.mk hr
  have HC := Aside0.mk hc
  have HB := Aside0.mk hb
  have HL := Aside0.mk hl
  clear hr hc hb hl
  go_enter Try.func34, Try.ntmps34
  go_wp2_with (first
    | (go_at_call 46; (with_reducible refine (slices_Clone_byte_byte.calls _ _ l l _ ?s1 ?s2 ?s3).mono ?_); (case s1 => exact HR.out); (case s2 => exact HC.out); (case s3 => unfold slices_Clone_byte_byte.f; rw [if_pos HL.out]); rintro e w3 ⟨v, rfl, ho, hb⟩; have HO := Aside0.mk ho; have HB2 := Aside0.mk hb; obtain ⟨A2, c2, ev⟩ := Kd.R_slice ho; subst ev; clear ho hb))
  go_ret
  refine ⟨_, rfl, ⟨_, l, 0, by simpa using heap_alloc_new w3 _, HB2.out.size, Nat.zero_le _, rfl, HB.out, HL.out, Kd.R_alloc HO.out _⟩, below_alloc HB2.out _⟩

end Go.Proofs.Ytefnndodcpimiaa.H
