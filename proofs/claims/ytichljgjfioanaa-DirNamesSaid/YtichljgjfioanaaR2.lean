/- Contracts of Go functions, walked by hand: each call comes to the Lean function beside it and leaves what was there before. -/
import Derived.Test.YtichljgjfioanaaProg
import Derived.Below
import Derived.Deep.Draws
import Derived.Deep.AppendLies
import Derived.Maps.AppendAt
import Derived.OwnWalk
import Derived.Laws.BytesArg
import Derived.Laws.MakeOwn
import Derived.Laws.OwnMore
import Derived.Deep.OwnRows
import Derived.Tactics
import Derived.Lib.ConvBytes
import Derived.Laws.Slices
import Derived.WalkKit
import Derived.KernelRfl
import Derived.RowKit3
import Derived.Deep.LoopGhost
import Derived.Deep.QuietTactic
import Derived.BigQuiet
import Derived.WideLaws
import Derived.Deep.DeepCutAuto
import Derived.Deep.CutBlock
import Derived.Deep.RegionHeld3
import Derived.Laws.Rows
import Derived.Lib.AppendStr
import Derived.ArgAppend
import Derived.Laws.IdiomCopy
import Derived.OrdersHeld
import Derived.Laws.BitsLemmas
import Derived.RowKit
import Derived.WalkSpells
import Derived.WalkLawsBesides
import Derived.Laws.Bits64b
import Derived.Laws.BitsAllLaws
import Derived.Maps.OwnSet
import Derived.Test.YtichljgjfioanaaVDN
import Derived.Test.YtichljgjfioanaaH8
import Derived.Test.YtichljgjfioanaaR1
import Derived.Test.YtichljgjfioanaaM3
namespace Go.Proofs.Ytichljgjfioanaa.H
open Go.RowKit Go.Proofs.YtichljgjfioanaaW.PrintWords Go.Proofs.YtichljgjfioanaaW.PrintLast Go.Proofs.YtichljgjfioanaaW.PrintMore
attribute [local go_sem] max2_int min2_int max_two min_two max_three min_three max_four min_four
set_option linter.unusedVariables false
set_option linter.unusedSimpArgs false

/-! ### Fixed -/
def octet_Reader_Fixed.f (s0_0 : List Int) (s0_1 : Int) (s0_2 : Int) (s0_3 : Bool) (a1 : Int) : Option (List Int × Int × Int × Bool) :=
  if 0 ≤ s0_1 ∧ s0_1 ≤ s0_0.length ∧ s0_0.length < 140737488355328 ∧ s0_3 = true then (if s0_2 = 0 then (if mx 0 a1 > (s0_0.length : Int) - s0_1 then some ([], s0_1, 5, s0_3) else some ((s0_0.take (s0_1 + mx 0 a1).toNat).drop s0_1.toNat, s0_1 + mx 0 a1, s0_2, s0_3)) else some ([], s0_1, s0_2, s0_3)) else none
set_option maxHeartbeats 2000000 in
set_option maxRecDepth 100000 in
theorem octet_Fixed_off (g r0_ : Nat) (bs : List Int) (at_ err : Int) (n : Int) (w0 w : World) (hI : IsS118 w0 w g r0_ bs at_ err true) (hB : Below w0.heap.size w0 w) (he : (err == 0) = false) :
    Calls Try.prog 111 #[.pointer (some ⟨g, 0, none⟩), .int .i64 n] w fun e w' => ∃ v0_ : Value, e = .returned v0_ ∧ Kd.R (Kd.int .u8) 5 w' w.heap.size (fun _ => True) v0_ [] ∧ IsS118 w0 w' g r0_ bs at_ err true ∧ Below w0.heap.size w0 w' ∧ KeepBut w w' g none := by
  have HR := Aside0.mk hI
  have HB := Aside0.mk hB
  have HV : Aside0 (octet_Reader_ready.f bs at_ err true = some (false, at_, err, true)) := ⟨by
    unfold octet_Reader_ready.f octet_Reader_made.f
    have : ¬ err = 0 := by simpa using he
    simp [this]⟩
  clear hI hB he
  go_enter Try.func111, Try.ntmps111
  go_wp2_with (first
    | (go_at_call 109; (with_reducible refine (octet_Reader_ready.calls g r0_ bs at_ err true false at_ err true w0 _ HR.out HB.out HV.out).mono ?_); rintro e w1 ⟨rfl, hi, hb, hk⟩; have HI1 := Aside0.mk hi; have HB1 := Aside0.mk hb; have HK1 := Aside0.mk hk; clear hi hb hk))
  go_ret
  exact ⟨_, rfl, Kd.R_nil _ _ _ _ _, HI1.out, HB1.out, HK1.out⟩
set_option maxHeartbeats 2000000 in
set_option maxRecDepth 100000 in
theorem octet_Fixed_more (g r0_ : Nat) (bs : List Int) (p : Nat) (n m : Int) (w0 w : World) (hI : IsS118 w0 w g r0_ bs p 0 true) (hB : Below w0.heap.size w0 w) (h3 : p ≤ bs.length) (h6 : bs.length < 140737488355328) (hm : mx 0 n = m) (hc : m > (bs.length : Int) - (p : Int)) :
    Calls Try.prog 111 #[.pointer (some ⟨g, 0, none⟩), .int .i64 n] w fun e w' => ∃ v0_ : Value, e = .returned v0_ ∧ Kd.R (Kd.int .u8) 5 w' w.heap.size (fun _ => True) v0_ [] ∧ IsS118 w0 w' g r0_ bs p 5 true ∧ Below w0.heap.size w0 w' ∧ KeepBut w w' g none := by
  have HR := Aside0.mk hI
  have HB := Aside0.mk hB
  have HV : Aside0 (octet_Reader_ready.f bs p 0 true = some (true, (p : Int), 0, true)) := ⟨by unfold octet_Reader_ready.f octet_Reader_made.f; simp⟩
  have HF : Aside0 (octet_Reader_fail.f bs p 0 true 5 = some ((p : Int), 5, true)) := ⟨rfl⟩
  have hw : wrap64 ((bs.length : Int) - (p : Int)) = (bs.length : Int) - (p : Int) := by unfold wrap64; omega
  have hw2 : IntKind.i64.wrap ((bs.length : Int) - (p : Int)) = (bs.length : Int) - (p : Int) := (i64_w _).trans hw
  have hd : decide ((bs.length : Int) - (p : Int) < m) = true := decide_eq_true hc
  have hm_ : (if 0 < n then n else 0) = m := hm
  clear hI hB hc h3 h6
  go_enter Try.func111, Try.ntmps111
  go_wp2_with (first
    | (go_at_call 109; (with_reducible refine (octet_Reader_ready.calls g r0_ bs p 0 true true p 0 true w0 _ HR.out HB.out HV.out).mono ?_); rintro e w1 ⟨rfl, hi, hb, hk⟩; obtain ⟨A, c, h1, h2, h7, h8⟩ := id hi; have hc0 : w1.cell? ⟨g, 0, none⟩ = some (.slice A bs.length c) := cellS118_0 h1; have hc1 : w1.cell? ⟨g, 1, none⟩ = some (.int .i64 p) := cellS118_1 h1; have HI1 := Aside0.mk hi; have HB1 := Aside0.mk hb; have HK1 := Aside0.mk hk; clear h1 h2 h7 h8 hi hb hk))
  go_quiet (fail)
  go_wp2_with (first
    | (go_at_call 110; (with_reducible refine (octet_Reader_fail.calls g r0_ bs p 0 true 5 p 5 true w0 _ ?sA ?sB HF.out).mono ?_); (case sA => first | exact HI1.out | exact HI1.out.drew | exact HI1.out.drewN _); (case sB => first | exact HB1.out | exact below_drew1 HB1.out | exact pw_below_drewN HB1.out _); rintro e w2 ⟨rfl, hi, hb, hk⟩; have HI2 := Aside0.mk hi; have HB2 := Aside0.mk hb; have HK2 := Aside0.mk hk; clear hi hb hk))
  go_ret
  exact ⟨_, rfl, Kd.R_nil _ _ _ _ _, HI2.out, HB2.out, by first | exact KeepBut.trans HK1.out HK2.out (.inl rfl) | exact KeepBut.trans (keep_drew HK1.out) HK2.out (.inl rfl) | exact KeepBut.trans (keep_drewN HK1.out _) HK2.out (.inl rfl)⟩
def octet_Reader_Fixed.T7 : Bool × List (List Nat × List Nat) := (true, [([], []), ([], []), ([1], [1]), ([2], [2]), ([3], [3]), ([], []), ([5], [5]), ([6], [6]), ([7], [7]), ([], []), ([9], [9]), ([10], [10]), ([11], [11]), ([], []), ([12, 13], [12, 13]), ([4, 8, 14], [4, 8, 14]), ([0, 15], [0, 15]), ([16, 16, 0, 1, 2, 3, 4, 5, 6, 7, 8, 9, 10, 11, 12, 13, 14, 15, 16], [16])])
def octet_Reader_Fixed.B7 : List Nat := [0, 0, 2, 6, 14, 0, 32, 96, 224, 0, 512, 1536, 3584, 0, 15872, 32766, 65535, 131071]
theorem octet_Reader_Fixed.tab7 : rtab .any (opsOf Try.f111 7) = octet_Reader_Fixed.T7 := by kernel_rfl
theorem octet_Reader_Fixed.bits7 : waitsOk octet_Reader_Fixed.T7.2 octet_Reader_Fixed.B7 = true := by kernel_rfl
set_option maxHeartbeats 4000000 in
set_option maxRecDepth 100000 in
theorem octet_Fixed_row (g r0_ : Nat) (bs : List Int) (p k : Nat) (n : Int) (w0 w : World) (hI : IsS118 w0 w g r0_ bs p 0 true) (hB : Below w0.heap.size w0 w) (h6 : bs.length < 140737488355328) (hm : mx 0 n = (k : Int)) (q : Nat) (hq : p + k = q) (hc : q ≤ bs.length) (xs : List Int) (hxs : xs = (bs.take q).drop p) :
    Calls Try.prog 111 #[.pointer (some ⟨g, 0, none⟩), .int .i64 n] w fun e w' => ∃ v0_ : Value, e = .returned v0_ ∧ Kd.R (Kd.int .u8) 5 w' w.heap.size (fun _ => True) v0_ xs ∧ IsS118 w0 w' g r0_ bs (q : Int) 0 true ∧ Below w0.heap.size w0 w' ∧ KeepBut w w' g none := by
  have HR := Aside0.mk hI
  have HB := Aside0.mk hB
  have HV : Aside0 (octet_Reader_ready.f bs p 0 true = some (true, (p : Int), 0, true)) := ⟨by unfold octet_Reader_ready.f octet_Reader_made.f; simp⟩
  have hw : wrap64 ((bs.length : Int) - (p : Int)) = (bs.length : Int) - (p : Int) := by unfold wrap64; omega
  have hw2 : IntKind.i64.wrap ((bs.length : Int) - (p : Int)) = (bs.length : Int) - (p : Int) := (i64_w _).trans hw
  have hv : wrap64 ((p : Int) + (k : Int)) = (q : Int) := by unfold wrap64; omega
  have hv2 : IntKind.i64.wrap ((p : Int) + (k : Int)) = (q : Int) := (i64_w _).trans hv
  have hd : decide ((bs.length : Int) - (p : Int) < (k : Int)) = false := decide_eq_false (by omega)
  have hm_ : (if 0 < n then n else 0) = (k : Int) := hm
  have HC := Aside0.mk hc
  have HL6 := Aside0.mk h6
  have HQ := Aside0.mk hq
  have HXS := Aside0.mk hxs
  have HSZ : Aside0 (w0.heap.size ≤ w.heap.size) := ⟨hB.size⟩
  clear hI hB hc h6 hw hv hxs hq
  go_enter Try.func111, Try.ntmps111
  go_wp2_with (first
    | (go_at_call 109; (with_reducible refine (octet_Reader_ready.calls g r0_ bs p 0 true true p 0 true w0 _ HR.out HB.out HV.out).mono ?_); rintro e w1 ⟨rfl, hi, hb, hk⟩; obtain ⟨A, c, h1, h2, h7, h8⟩ := id hi; have hc0 : w1.cell? ⟨g, 0, none⟩ = some (.slice A bs.length c) := cellS118_0 h1; have hc1 : w1.cell? ⟨g, 1, none⟩ = some (.int .i64 p) := cellS118_1 h1; have HI1 := Aside0.mk hi; have HB1 := Aside0.mk hb; have HK1 := Aside0.mk hk; have HG1 := Aside0.mk h1; have HR1 := Aside0.mk h7; clear h1 h2 h7 h8 hi hb hk))
  go_quiet (fail)
  go_wp2
  obtain ⟨i0, hi0, _, hsz, _⟩ := info_parts minfo_byte
  have hcap := (Kd.R_reads' HR1.out).2.1
  have hC := (Kd.R_reads' HR1.out).2.2
  have hcut := cut_mid (P := Try.prog) 49 5 .i64 .i64 Try.underlying49 hi0 1 hsz A bs.length c (p : Int) (q : Int) (by omega) (by have := HQ.out; omega) (by have := HC.out; have := HQ.out; omega) hcap
  rw [show ((p : Int)).toNat = p by omega, show ((q : Int)).toNat - p = k by have := HQ.out; omega] at hcut
  have hT := Kd.C_take (m := q) hC HC.out
  have hD := Kd.C_drop (m := p) (c := c) hT (by rw [List.length_take]; have := HC.out; have := HQ.out; omega) (by rw [List.length_take]; have := HC.out; have := HQ.out; omega)
  obtain ⟨A', hA'⟩ : ∃ A', A' = (if c = p then A else A.map (·.add (p * 1))) := ⟨_, rfl⟩
  obtain ⟨c', hc'⟩ : ∃ c', c' = c - p := ⟨_, rfl⟩
  have hxs := HXS.out
  have hxl : xs.length = k := by rw [hxs, List.length_drop, List.length_take]; have := HC.out; have := HQ.out; omega
  rw [← hA', ← hc'] at hcut
  have HD : Aside0 (Kd.C (Kd.int .u8) w1 A' k xs) := ⟨by
    have h : Kd.C (Kd.int .u8) w1 A' xs.length xs := by rw [hA', hxs]; exact hD
    rwa [hxl] at h⟩
  have HXL := Aside0.mk hxl
  clear hcap hC hT hD hA' hc' hxs hxl hi0 hsz
  have s0 : (w1.drewN nq).cell? ⟨g, 0, none⟩ = some (.slice A bs.length c) := hc0
  have s1 : (w1.drewN nq).cell? ⟨g, 1, none⟩ = some (.int .i64 p) := hc1
  refine start_ (n := 18) (S := fun w' => w'.cell? ⟨g, 0, none⟩ = some (.slice A bs.length c) ∧ w'.cell? ⟨g, 1, none⟩ = some (.int .i64 p)) (ds := []) #[false, false, false, false, false, false, false, false, false, false, false, false, false, false, false, false, false, false] (by kernel_rfl) rfl rfl ⟨s0, s1⟩ (fun hHeld => ?_); refine with_tabW octet_Reader_Fixed.tab7 octet_Reader_Fixed.bits7 (fun HT_ HW_ => ?_)
  have HG2 : Aside0 (((w1.drewN nq).drew).heap[g]? = some (.cells #[.slice A bs.length c, .int .i64 p, .int .i64 0, .bool true] 118 (0, 0))) := ⟨HG1.out⟩
  have HD2 : Aside0 (Kd.C (Kd.int .u8) ((w1.drewN nq).drew) A' k xs) := ⟨Kd.C_drew (Kd.C_drewN HD.out nq)⟩
  have HI2 : Aside0 (IsS118 w0 ((w1.drewN nq).drew) g r0_ bs p 0 true) := ⟨(HI1.out.drewN nq).drew⟩
  have HB2 : Aside0 (Below w0.heap.size w0 ((w1.drewN nq).drew)) := ⟨below_drew1 (pw_below_drewN HB1.out nq)⟩
  have HK2 : Aside0 (KeepBut w ((w1.drewN nq).drew) g none) := ⟨keep_drew (keep_drewN HK1.out nq)⟩
  clear s0 s1 hc0 hc1 HG1 HD HI1 HB1 HK1 HR1 HR HB
  generalize (w1.drewN nq).drew = w2 at *
  refine pure_ (i := 1) (N := some 26) (v := ?_) (a' := ?_) #[false, true, false, false, false, false, false, false, false, false, false, false, false, false, false, false, false, false] rfl rfl (any_of HT_.out (by kernel_rfl)) (fun _ _ _ h => h) (Or.inl ⟨by rfl, ?_⟩) ?_ ?_
  rotate_left
  · intro w'
    go_simp
    with_reducible rfl
  rotate_left
  · simp only [Act.put, List.setIfInBounds_toArray, List.set_cons_zero, List.set_cons_succ, i64_w, i32_w]
    rfl
  refine pure_ (i := 2) (N := some 27) (v := ?_) (a' := ?_) #[false, true, true, false, false, false, false, false, false, false, false, false, false, false, false, false, false, false] rfl rfl (any_of HT_.out (by kernel_rfl)) (fun _ _ _ h => h) (Or.inl ⟨by rfl, ?_⟩) ?_ ?_
  rotate_left
  · intro w'
    go_simp
    with_reducible rfl
  rotate_left
  · simp only [Act.put, List.setIfInBounds_toArray, List.set_cons_zero, List.set_cons_succ, i64_w, i32_w]
    rfl
  refine pure_ (i := 3) (N := some 28) (v := ?_) (a' := ?_) #[false, true, true, true, false, false, false, false, false, false, false, false, false, false, false, false, false, false] rfl rfl (any_of HT_.out (by kernel_rfl)) (fun _ _ _ h => h) (Or.inl ⟨by rfl, ?_⟩) ?_ ?_
  rotate_left
  · intro w'
    go_simp
    with_reducible rfl
  rotate_left
  · simp only [Act.put, List.setIfInBounds_toArray, List.set_cons_zero, List.set_cons_succ, i64_w, i32_w]
    rfl
  refine take_ (i := 4) (N := some 29) (v := ?_) (a' := ?_) #[false, true, true, true, true, false, false, false, false, false, false, false, false, false, false, false, false, false] rfl rfl (take_ofW HT_.out HW_.out (by kernel_rfl)) (fun _ _ _ h => h) (Or.inl ⟨by rfl, ?_⟩) hHeld ?_ ?_
  rotate_left
  · rintro w' ⟨s0, s1⟩
    go_simp
    with_reducible rfl
  rotate_left
  · simp only [Act.put, List.setIfInBounds_toArray, List.set_cons_zero, List.set_cons_succ, i64_w, i32_w]
    rfl
  refine pure_ (i := 5) (N := some 30) (v := ?_) (a' := ?_) #[false, true, true, true, true, true, false, false, false, false, false, false, false, false, false, false, false, false] rfl rfl (any_of HT_.out (by kernel_rfl)) (fun _ _ _ h => h) (Or.inl ⟨by rfl, ?_⟩) ?_ ?_
  rotate_left
  · intro w'
    go_simp
    with_reducible rfl
  rotate_left
  · simp only [Act.put, List.setIfInBounds_toArray, List.set_cons_zero, List.set_cons_succ, i64_w, i32_w]
    rfl
  refine pure_ (i := 6) (N := some 31) (v := ?_) (a' := ?_) #[false, true, true, true, true, true, true, false, false, false, false, false, false, false, false, false, false, false] rfl rfl (any_of HT_.out (by kernel_rfl)) (fun _ _ _ h => h) (Or.inl ⟨by rfl, ?_⟩) ?_ ?_
  rotate_left
  · intro w'
    go_simp
    with_reducible rfl
  rotate_left
  · simp only [Act.put, List.setIfInBounds_toArray, List.set_cons_zero, List.set_cons_succ, i64_w, i32_w]
    rfl
  refine pure_ (i := 7) (N := some 32) (v := ?_) (a' := ?_) #[false, true, true, true, true, true, true, true, false, false, false, false, false, false, false, false, false, false] rfl rfl (any_of HT_.out (by kernel_rfl)) (fun _ _ _ h => h) (Or.inl ⟨by rfl, ?_⟩) ?_ ?_
  rotate_left
  · intro w'
    go_simp
    with_reducible rfl
  rotate_left
  · simp only [Act.put, List.setIfInBounds_toArray, List.set_cons_zero, List.set_cons_succ, i64_w, i32_w]
    rfl
  refine take_ (i := 8) (N := some 33) (v := ?_) (a' := ?_) #[false, true, true, true, true, true, true, true, true, false, false, false, false, false, false, false, false, false] rfl rfl (take_ofW HT_.out HW_.out (by kernel_rfl)) (fun _ _ _ h => h) (Or.inl ⟨by rfl, ?_⟩) hHeld ?_ ?_
  rotate_left
  · rintro w' ⟨s0, s1⟩
    go_simp
    with_reducible rfl
  rotate_left
  · simp only [Act.put, List.setIfInBounds_toArray, List.set_cons_zero, List.set_cons_succ, i64_w, i32_w]
    rfl
  refine pure_ (i := 9) (N := some 34) (v := ?_) (a' := ?_) #[false, true, true, true, true, true, true, true, true, true, false, false, false, false, false, false, false, false] rfl rfl (any_of HT_.out (by kernel_rfl)) (fun _ _ _ h => h) (Or.inl ⟨by rfl, ?_⟩) ?_ ?_
  rotate_left
  · intro w'
    go_simp
    with_reducible rfl
  rotate_left
  · simp only [Act.put, List.setIfInBounds_toArray, List.set_cons_zero, List.set_cons_succ, i64_w, i32_w]
    rfl
  refine pure_ (i := 10) (N := some 35) (v := ?_) (a' := ?_) #[false, true, true, true, true, true, true, true, true, true, true, false, false, false, false, false, false, false] rfl rfl (any_of HT_.out (by kernel_rfl)) (fun _ _ _ h => h) (Or.inl ⟨by rfl, ?_⟩) ?_ ?_
  rotate_left
  · intro w'
    go_simp
    with_reducible rfl
  rotate_left
  · simp only [Act.put, List.setIfInBounds_toArray, List.set_cons_zero, List.set_cons_succ, i64_w, i32_w]
    rfl
  refine pure_ (i := 11) (N := some 36) (v := ?_) (a' := ?_) #[false, true, true, true, true, true, true, true, true, true, true, true, false, false, false, false, false, false] rfl rfl (any_of HT_.out (by kernel_rfl)) (fun _ _ _ h => h) (Or.inl ⟨by rfl, ?_⟩) ?_ ?_
  rotate_left
  · intro w'
    go_simp
    with_reducible rfl
  rotate_left
  · simp only [Act.put, List.setIfInBounds_toArray, List.set_cons_zero, List.set_cons_succ, i64_w, i32_w]
    rfl
  refine take_ (i := 12) (N := some 37) (v := ?_) (a' := ?_) #[false, true, true, true, true, true, true, true, true, true, true, true, true, false, false, false, false, false] rfl rfl (take_ofW HT_.out HW_.out (by kernel_rfl)) (fun _ _ _ h => h) (Or.inl ⟨by rfl, ?_⟩) hHeld ?_ ?_
  rotate_left
  · rintro w' ⟨s0, s1⟩
    go_simp
    with_reducible rfl
  rotate_left
  · simp only [Act.put, List.setIfInBounds_toArray, List.set_cons_zero, List.set_cons_succ, i64_w, i32_w]
    rfl
  refine pure_ (i := 13) (N := some 38) (v := ?_) (a' := ?_) #[false, true, true, true, true, true, true, true, true, true, true, true, true, true, false, false, false, false] rfl rfl (any_of HT_.out (by kernel_rfl)) (fun _ _ _ h => h) (Or.inl ⟨by rfl, ?_⟩) ?_ ?_
  rotate_left
  · intro w'
    go_simp
    with_reducible rfl
  rotate_left
  · simp only [Act.put, List.setIfInBounds_toArray, List.set_cons_zero, List.set_cons_succ, i64_w, i32_w]
    rfl
  refine pure_ (i := 14) (N := some 39) (v := ?_) (a' := ?_) #[false, true, true, true, true, true, true, true, true, true, true, true, true, true, true, false, false, false] rfl rfl (any_of HT_.out (by kernel_rfl)) (fun _ _ _ h => h) (Or.inl ⟨by rfl, ?_⟩) ?_ ?_
  rotate_left
  · intro w'
    go_simp
    with_reducible rfl
  rotate_left
  · simp only [Act.put, List.setIfInBounds_toArray, List.set_cons_zero, List.set_cons_succ, i64_w, i32_w]
    rfl
  refine pure_ (i := 15) (N := some 40) (v := ?_) (a' := ?_) #[false, true, true, true, true, true, true, true, true, true, true, true, true, true, true, true, false, false] rfl rfl (any_of HT_.out (by kernel_rfl)) (fun _ _ _ h => h) (Or.inl ⟨by rfl, ?_⟩) ?_ ?_
  rotate_left
  · intro w'
    go_simp
    with_reducible rfl
  rotate_left
  · simp only [Act.put, List.setIfInBounds_toArray, List.set_cons_zero, List.set_cons_succ, i64_w, i32_w]
    rfl
  refine one_ (i := 0) (N := some 25) #[true, true, true, true, true, true, true, true, true, true, true, true, true, true, true, true, false, false] rfl rfl (one_of HT_.out (by kernel_rfl)) (by decide) (fun K hK => ?_)
  refine Kd.R_lit_step (Kd.int .u8) _ 5 ?hg (N := 25) ?hd (xs := ([] : List Int)) (inner := []) (ok := fun _ => True) (okp := fun _ => True) ?hr ?hp (fun _ hk => hk) trivial (Below.refl _ _) (Nat.le_refl _) (by simp) ?_; (case hd => rfl); (case hg => rfl); (case hr => first | (go_simp; done) | (go_simp; rfl)); (case hp => exact (Reps.none _ _))
  intro v3 w3 ho3 hb3 hg3 hnew3
  obtain ⟨b3, hb3e, hb3l⟩ := hnew3
  have NG3 : Aside0 (some g ≠ v3.ownBlock) := ⟨by rw [hb3e]; intro h; injection h with h; have := blk_lt HG2.out; omega⟩
  have NR3 : Aside0 (some r0_ ≠ v3.ownBlock) := ⟨by
    rw [hb3e]
    intro h
    injection h with h
    obtain ⟨_, _, _, _, _, hty⟩ := HI2.out
    rcases hty with hty | ⟨cs, hty⟩
    · have := blk_lt HG2.out; omega
    · have := blk_lt hty; omega⟩
  have HO3 := Aside0.mk (Kd.R_lower ho3 HK2.out.1)
  have HG3 := Aside0.mk (blk_below HG2.out hb3)
  have HD3 := Aside0.mk (Kd.C_below HD2.out hb3)
  have HI3 := Aside0.mk (HI2.out.below hb3)
  have HB3 := Aside0.mk (below_step HB2.out hb3)
  have HK3 := Aside0.mk (KeepBut.trans HK2.out (KeepBut.of_below hb3 g none) (.inl rfl))
  clear ho3 hb3 hg3 hb3e hb3l HG2 HD2 HI2 HB2 HK2
  refine hK.out _ _ ⟨cellS118_0 HG3.out, cellS118_1 HG3.out⟩ (fun hHeld => ?_)
  clear hK K
  refine norm_ (a' := ?_) ?_ ?_
  rotate_left
  · show Act.put _ (some 25) _ = _
    simp only [Act.put, List.setIfInBounds_toArray, List.set_cons_zero, List.set_cons_succ, i64_w, i32_w]
    rfl
  refine one_ (i := 16) (N := some 41) #[true, true, true, true, true, true, true, true, true, true, true, true, true, true, true, true, true, false] rfl rfl (one_of HT_.out (by kernel_rfl)) (by decide) (fun K hK => ?_)
  refine Kd.R_append_rows_step (Kd.int .u8) w.heap.size (by rfl) (.tmp 25) (.tmp 40) 49 5 (.int .u8 0) 1 rfl Try.underlying49 minfo_byte rfl (by decide) (by omega) v3 [] xs _ _ _ (fun _ => True) (fun _ => False) rfl rfl ?aO ?aR (fun _ _ h => h) (fun _ h => h.elim) ?aF (Below.refl _ _) ?aS ?aL ?_
  (case aR => exact HD3.out)
  (case aF => exact (fun _ _ => trivial))
  (case aO => exact HO3.out)
  (case aS => exact HK3.out.1)
  (case aL => have := HC.out; have := HQ.out; have := HL6.out; simp only [List.length_nil]; omega)
  intro v4 w4 ho hb hg hat
  rw [List.nil_append] at ho
  have HI4 := Aside0.mk (HI3.out.grown hg ⟨NG3.out, NR3.out⟩)
  have HG4 := Aside0.mk (blk_grown HG3.out hg NG3.out)
  have HB4 := Aside0.mk (below_weaken HB3.out (Nat.le_trans (Nat.le_of_eq rfl) (show w0.heap.size ≤ w.heap.size from HSZ.out)) hb)
  have HK4 := Aside0.mk (KeepBut.trans HK3.out (KeepBut.of_grown hg g) (Kd.R_base2 HO3.out))
  have HO4 := Aside0.mk ho
  clear ho hb hg hat HI3 HG3 HD3 HB3 HK3 HO3
  refine hK.out _ _ ⟨cellS118_0 HG4.out, cellS118_1 HG4.out⟩ (fun hHeld => ?_)
  clear hK K
  refine norm_ (a' := ?_) ?_ ?_
  rotate_left
  · show Act.put _ (some 41) _ = _
    simp only [Act.put, List.setIfInBounds_toArray, List.set_cons_zero, List.set_cons_succ, i64_w, i32_w]
    rfl
  refine pure_ (i := 17) (N := some 5) (v := ?_) (a' := ?_) #[true, true, true, true, true, true, true, true, true, true, true, true, true, true, true, true, true, true] rfl rfl (any_of HT_.out (by kernel_rfl)) (fun _ _ _ h => h) (Or.inl ⟨by rfl, ?_⟩) ?_ ?_
  rotate_left
  · intro w'
    go_simp
    with_reducible rfl
  rotate_left
  · simp only [Act.put, List.setIfInBounds_toArray, List.set_cons_zero, List.set_cons_succ, i64_w, i32_w]
    rfl
  refine done_ (done_of HT_.out (by kernel_rfl)) ?_
  have hc1 : w4.cell? ⟨g, 1, none⟩ = some (.int .i64 p) := cellS118_1 HG4.out
  have hf1 := blk_frozen HG4.out 1
  go_wp2
  go_ret
  exact ⟨_, rfl, Kd.R_mono (Kd.R_far (HI4.out.apart HO4.out (by decide)) (fun k hk => hk.2) _) (fun _ _ => trivial), HI4.out.set_1 _, below_set HB4.out HI4.out.ge, KeepBut.set_ HK4.out _ _⟩
theorem octet_Reader_Fixed.calls (g r0_ : Nat) (s0_0 : List Int) (s0_1 : Int) (s0_2 : Int) (s0_3 : Bool) (a1 : Int) (r1 : List Int) (r2 r3 : Int) (r4 : Bool) (w0 w : World) (hI : IsS118 w0 w g r0_ s0_0 s0_1 s0_2 s0_3) (hB : Below w0.heap.size w0 w) (h : octet_Reader_Fixed.f s0_0 s0_1 s0_2 s0_3 a1 = some (r1, r2, r3, r4)) :
    Calls Try.prog 111 #[.pointer (some ⟨g, 0, none⟩), .int .i64 a1] w fun e w' => ∃ v0_ : Value, e = .returned v0_ ∧ Kd.R (Kd.int .u8) 5 w' w.heap.size (fun _ => True) v0_ r1 ∧ IsS118 w0 w' g r0_ s0_0 r2 r3 r4 ∧ Below w0.heap.size w0 w' ∧ KeepBut w w' g none := by
  unfold octet_Reader_Fixed.f at h
  split at h
  case isFalse => cases h
  case isTrue hl =>
  obtain ⟨h1, h2, h3, rfl⟩ := hl
  obtain ⟨p, rfl⟩ : ∃ p : Nat, s0_1 = p := ⟨s0_1.toNat, by omega⟩
  split at h
  case isFalse he =>
    simp only [Option.some.injEq, Prod.mk.injEq] at h
    obtain ⟨rfl, rfl, rfl, rfl⟩ := h
    exact octet_Fixed_off g r0_ s0_0 p s0_2 a1 w0 w hI hB (by simpa using he)
  case isTrue he =>
    subst he
    have hm0 : 0 ≤ mx 0 a1 := by unfold mx; split <;> omega
    obtain ⟨k, hk⟩ : ∃ k : Nat, mx 0 a1 = k := ⟨(mx 0 a1).toNat, by omega⟩
    rw [hk] at h
    split at h
    case isTrue hc =>
      simp only [Option.some.injEq, Prod.mk.injEq] at h
      obtain ⟨rfl, rfl, rfl, rfl⟩ := h
      exact octet_Fixed_more g r0_ s0_0 p a1 (k : Int) w0 w hI hB (by omega) h3 hk (by omega)
    case isFalse hc =>
      simp only [Option.some.injEq, Prod.mk.injEq] at h
      obtain ⟨rfl, rfl, rfl, rfl⟩ := h
      have := octet_Fixed_row g r0_ s0_0 p k a1 w0 w hI hB h3 hk (p + k) rfl (by omega) _ rfl
      rw [show ((p : Int) + (k : Int)).toNat = p + k by omega, show ((p : Int)).toNat = p by omega, show (p : Int) + (k : Int) = ((p + k : Nat) : Int) by omega]
      exact this

end Go.Proofs.Ytichljgjfioanaa.H
