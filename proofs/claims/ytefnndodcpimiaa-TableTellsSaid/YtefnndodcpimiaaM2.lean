/- Contracts of Go functions, walked by hand: each call comes to the Lean function beside it and leaves what was there before. -/
import Derived.Test.YtefnndodcpimiaaProg
import Derived.Below
import Derived.Deep.Draws
import Derived.Deep.AppendLies
import Derived.Maps.AppendAt
import Derived.OwnWalk
import Derived.Laws.BytesArg
import Derived.Laws.MakeOwn
import Derived.Laws.OwnMore
import Derived.Deep.OwnRows
import Derived.Tactics
import Derived.Lib.ConvBytes
import Derived.Laws.Slices
import Derived.WalkKit
import Derived.KernelRfl
import Derived.RowKit3
import Derived.Deep.LoopGhost
import Derived.Deep.QuietTactic
import Derived.BigQuiet
import Derived.WideLaws
import Derived.Deep.DeepCutAuto
import Derived.Deep.CutBlock
import Derived.Deep.RegionHeld3
import Derived.Laws.Rows
import Derived.Lib.AppendStr
import Derived.ArgAppend
import Derived.Laws.IdiomCopy
import Derived.OrdersHeld
import Derived.Laws.BitsLemmas
import Derived.RowKit
import Derived.WalkSpells
import Derived.WalkLawsBesides
import Derived.Laws.Bits64b
import Derived.Laws.BitsAllLaws
import Derived.Maps.OwnSet
import Derived.Test.YtefnndodcpimiaaVTT
import Derived.Test.YtefnndodcpimiaaM0
namespace Go.Proofs.Ytefnndodcpimiaa.H
open Go.RowKit Go.Proofs.YtefnndodcpimiaaW.PrintWords Go.Proofs.YtefnndodcpimiaaW.PrintLast Go.Proofs.YtefnndodcpimiaaW.PrintMore
attribute [local go_sem] max2_int min2_int max_two min_two max_three min_three max_four min_four
set_option linter.unusedVariables false
set_option linter.unusedSimpArgs false


/-! ### table.put -/
def trimZ (l : List Int) : List Int := (l.reverse.dropWhile (· == 0)).reverse
def padTo (l : List Int) (m : Nat) : List Int := l ++ List.replicate (m - l.length) 0
def table_put.f (l0_0 : List Int) (a1 a2 : Int) : Option (List Int) := if l0_0.length < 8796093022208 ∧ 0 ≤ a1 ∧ a1 < 8796093022208 then some (trimZ ((padTo l0_0 (a1.toNat + 1)).set a1.toNat a2)) else none
theorem trimZ_snoc0 (l : List Int) : trimZ (l ++ [0]) = trimZ l := by simp [trimZ]
theorem trimZ_snoc (l : List Int) (x : Int) (h : ¬ x = 0) : trimZ (l ++ [x]) = l ++ [x] := by simp [trimZ, h]
theorem take_last (l : List Int) (m : Nat) (h : m < l.length) : l.take (m + 1) = l.take m ++ [rd l m] := by
  rw [List.take_add_one, List.getElem?_eq_getElem h]
  simp [rd, h]
theorem cut_hm {P : Program} (t e : TypeId) {i : TypeInfo} (ht : P.underlying t = some (.slice e)) (hi : P.info? e = some i) (A : Option Addr) (n c : Nat) (j : Int) (h0 : 0 ≤ j) (hm : j ≤ c) :
    ∀ W : World, (Instr.slice t (.slice A n c) none (some (.int .i64 j)) (some (.int .i64 j))).run P W = .ok (.slice A j.toNat j.toNat) W := by
  intro W
  have hel : P.elem t = e := by simp [Program.elem, ht]
  have hu : P.underlying t = some (.slice (P.elem t)) := by rw [hel]; exact ht
  have ha : (A.map fun x => x.add 0) = A := by cases A <;> simp [Addr.add]
  rw [run_slice_hm W t A n c hu .i64 .i64 j j h0 (Int.le_refl _) hm, hel]
  simp [sizeOf, typeInfo, hi, sliced, Result.andThen, ha]

theorem cut_V {k : IntKind} {e t gr g n c m cc base : Nat} {W : World} {cs : Array Value} {l : List Int} {B : Nat} (hR : Kd.R (Kd.int k) e W base (fun _ => True) (.slice (some ⟨g, 0, none⟩) n c) l) (hB : W.heap[gr]? = some (.cells cs t (0, 0))) (ht : e ≠ t) (hm : m ≤ n) (hc : m ≤ cc) (u : Value) :
    Kd.V (Kd.int k) e (W.setCell ⟨gr, 0, none⟩ u) B (fun k_ => base ≤ k_) (.slice (some ⟨g, 0, none⟩) m cc) (l.take m) := by
  have h1 := Kd.R_types hR hB (by intro q hq; simp [Kd.int, Kd.scalar] at hq; omega)
  have h2 := Kd.R_mono (Kd.R_bound h1) (ok' := fun k_ => base ≤ k_ ∧ k_ ≠ gr) (fun k_ hk => ⟨hk.2.1, hk.1.2⟩)
  have hn : n = l.length := (Kd.R_reads' hR).1
  subst hn
  have h3 := Kd.F_take (m := m) (Kd.R_F h2) hm
  have h4 : (l.take m).length = m := by rw [List.length_take]; omega
  have h5 := Kd.V_mk (base := B) (e := e) (c := cc) (by rw [h4]; exact hc) (Kd.F_mono (Kd.F_far (p := ⟨gr, 0, none⟩) h3 (fun k_ hk => hk.2) u) (fun k_ hk => hk.1))
  rw [h4] at h5
  exact h5

set_option maxHeartbeats 2000000 in
set_option maxRecDepth 100000 in
theorem table_put.calls (A0_0 : Option Addr) (c0_0 : Nat) (l0_0 : List Int) (a1 : Int) (a2 : Int) (r : List Int) (w : World) (hr0_0 : Kd.C (Kd.int .i64) w A0_0 l0_0.length l0_0) (hc0_0 : l0_0.length ≤ c0_0) (h : table_put.f l0_0 a1 a2 = some r) :
    Calls Try.prog 33 #[.agg #[.slice A0_0 l0_0.length c0_0], .int .i64 a1, .int .i64 a2] w fun e w' => ∃ v0_ : Value, e = .returned (.agg #[v0_]) ∧ Kd.V (Kd.int .i64) 3 w' w.heap.size (fun k_ => w.heap.size ≤ k_) v0_ r ∧ Below w.heap.size w w' := by
  unfold table_put.f at h
  split at h
  case isFalse => cases h
  case isTrue hb0 =>
  have H := Aside0.mk (Option.some.inj h)
  clear h
  obtain ⟨hl, hn0, hn1⟩ := hb0
  have HR := Aside0.mk hr0_0
  have HC := Aside0.mk hc0_0
  have HB := Aside0.mk (Below.refl w.heap.size w)
  clear hr0_0 hc0_0
  obtain ⟨n, rfl⟩ := Int.eq_ofNat_of_zero_le hn0
  have HBD := Aside0.mk (And.intro hl hn1)
  clear hl hn1
  have hu24 := Try.underlying24
  go_enter Try.func33, Try.ntmps33
  go_wp2_with (first
    | ((with_reducible refine gate_dst (N := 3) rfl ?_); refine box_event ?hg (N := 3) ?hd (cs := #[.slice A0_0 l0_0.length c0_0]) (t := 24) ?hr ?_; (case hd => rfl); (case hg => rfl); (case hr => first | (go_simp; done) | (go_simp; rfl)); intro gb hg w1 hbox hb; have BK := Aside0.mk hbox; have GE := Aside0.mk (by rw [hg]; exact Nat.le_refl _ : w.heap.size ≤ gb); have hB2 := below_step HB.out hb; clear HB; have HB := Aside0.mk hB2; clear hB2 hb hbox hg)
    | ((with_reducible refine gate_dst (N := 6) rfl ?_); refine box_event ?hg (N := 6) ?hd (cs := #[.slice none 0 0]) (t := 24) ?hr ?_; (case hd => rfl); (case hg => rfl); (case hr => first | (go_simp; done) | (go_simp; rfl)); intro gr hg w2 hbox hb; have BR := Aside0.mk hbox; have GR := Aside0.mk (by rw [hg]; exact HB.out.size : w.heap.size ≤ gr); have hB2 := below_step HB.out hb; have hK2 := blk_below BK.out hb; have hcz : w2.cell? ⟨gb, 0, none⟩ = some (.slice A0_0 l0_0.length c0_0) := (blk_cell hK2 0).trans rfl; clear HB; have HB := Aside0.mk hB2; clear hB2 hb hbox hg hK2)
    | (go_at_call 45; (with_reducible refine (slices_Clone_int_int.calls _ _ l0_0 l0_0 _ ?s1 ?s2 ?s3).mono ?_); (case s1 => exact Kd.C_below HR.out HB.out); (case s2 => exact HC.out); (case s3 => unfold slices_Clone_int_int.f; rw [if_pos (by have := HBD.out; omega)]); rintro e w3 ⟨v, rfl, ho, hb⟩; have HO := Aside0.mk (Kd.R_lower ho HB.out.size); have hB2 := below_step HB.out hb; have hR2 := blk_below BR.out hb; clear HB BR; have HB := Aside0.mk hB2; have BR := Aside0.mk hR2; clear hB2 hR2 ho hb))
  go_loopg [7] (n + 2) (fun kq v W => ∃ L : List Int, Aside0 (Kd.R (Kd.int .i64) 3 W w.heap.size (fun _ => True) v L) ∧ Aside0 ((∃ j : Nat, L = l0_0 ++ List.replicate j 0) ∧ (L.length ≤ l0_0.length ∨ L.length ≤ n + 1) ∧ n + 1 < L.length + kq) ∧ Aside0 (W.heap[gr]? = some (.cells #[.slice none 0 0] 24 (0, 0))) ∧ Aside0 (Below w.heap.size w W))
  case atStart => exact ⟨l0_0, HO, ⟨⟨0, by simp⟩, .inl (Nat.le_refl _), by omega⟩, BR, HB⟩
  case round =>
    obtain ⟨L, HOr, HJ, BRr, HBr⟩ := hrel
    obtain ⟨A, c, ev⟩ := Kd.R_slice HOr.out
    subst ev
    by_cases hlt : L.length ≤ n
    · have d1 : decide (L.length ≤ n) = true := by simpa using hlt
      have d2 : decide ((L.length : Int) ≤ (n : Int)) = true := by simp; omega
      go_wp2_with (first | (at_builtin; refine Kd.R_append (Kd.int .i64) (w0 := w) w.heap.size rfl (.tmp 15) (.tmp 16) 22 3 (.int .i64 0) 8 rfl Try.underlying22 minfo_int rfl (by decide) (by omega) _ L 0 [.int .i64 0] (fun _ => True) (fun _ => False) rfl rfl ?aP (fun _ hk => hk.elim) ?aF ?aO ?aB ?aS ?aL ?_; (case aP => exact rfl); (case aB => exact HBr.out); (case aF => exact (fun _ _ => trivial)); (case aO => exact HOr.out); (case aS => exact HBr.out.size); (case aL => have := HBD.out; omega); intro v2 w4 ho hb hg hat; have HO2 := Aside0.mk ho; have HB2 := Aside0.mk hb; have BR2 := Aside0.mk (blk_grown BRr.out hg (Kd.R_ne HOr.out BRr.out (by decide))); clear ho hb hg hat))
      cases gk with
      | zero => have := HJ.out.2.2; omega
      | succ k1 =>
        go_roundg k1
        case measure => omega
        case rel => exact ⟨L ++ [0], HO2, ⟨by obtain ⟨j, hj⟩ := HJ.out.1; exact ⟨j + 1, by rw [hj, List.replicate_succ', List.append_assoc]⟩, .inr (by simp; omega), by have := HJ.out.2.2; simp; omega⟩, BR2, HB2⟩
    · have d1 : decide (L.length ≤ n) = false := by simpa using hlt
      have d2 : decide ((L.length : Int) ≤ (n : Int)) = false := by simp; omega
      have hn2 : n < L.length := by omega
      have HL : Aside0 (padTo l0_0 (n + 1) = L) := ⟨by
        obtain ⟨⟨j, hj⟩, hle, _⟩ := HJ.out
        have e1 : L.length = l0_0.length + j := by rw [hj]; simp
        unfold padTo
        rw [hj]
        congr 2
        omega⟩
      obtain ⟨g, cap, eo, gb1, gl1, cl1, HG⟩ := Kd.R_form HOr.out (by omega)
      injection eo with ea_ en_ ec_
      subst ea_
      subst ec_
      clear en_
      have HGB := Aside0.mk gb1
      have HGG := Aside0.mk HG
      clear gb1 gl1 HG
      have p1 : (0 : Int) ≤ (n : Int) := by omega
      have q1 : (n : Int) < (L.length : Int) := by omega
      obtain ⟨hx0, hf0⟩ := Kd.R_celln 0 HOr.out (n : Int) p1 q1
      simp only [Int.toNat_natCast] at hx0 hf0
      have hP := Kd.R_putg HOr.out (n : Int) a2
      simp only [Int.toNat_natCast] at hP
      have HP := Aside0.mk hP
      clear hP
      go_wp2
      obtain ⟨L', hL'⟩ : ∃ L' : List Int, L' = L.set n a2 := ⟨_, rfl⟩
      have hlen : L'.length = L.length := by rw [hL']; simp
      have HX : Aside0 (Kd.R (Kd.int .i64) 3 (wr.setCell ⟨g, n, none⟩ (.int .i64 a2)) w.heap.size (fun _ => True) (.slice (some ⟨g, 0, none⟩) L.length c) L') := ⟨by rw [hL']; exact HP.out.1⟩
      have BX : Aside0 ((wr.setCell ⟨g, n, none⟩ (.int .i64 a2)).heap[gr]? = some (.cells #[.slice none 0 0] 24 (0, 0))) := ⟨blk_grown BRr.out HP.out.2 (Kd.R_ne HOr.out BRr.out (by decide))⟩
      have HBX : Aside0 (Below w.heap.size w (wr.setCell ⟨g, n, none⟩ (.int .i64 a2))) := ⟨below_set HBr.out HGB.out⟩
      have HLL := Aside0.mk hlen
      have HL2 := Aside0.mk hL'
      clear hlen hL'
      go_loopg [7] L.length (fun kq v W => ∃ m cc : Nat, v = .slice (some ⟨g, 0, none⟩) m cc ∧ Aside0 (m ≤ L.length ∧ m ≤ cc ∧ m ≤ kq ∧ trimZ (L'.take m) = trimZ L') ∧ Aside0 (Kd.R (Kd.int .i64) 3 W w.heap.size (fun _ => True) (.slice (some ⟨g, 0, none⟩) L.length c) L') ∧ Aside0 (W.heap[gr]? = some (.cells #[.slice none 0 0] 24 (0, 0))) ∧ Aside0 (Below w.heap.size w W))
      case atStart => exact ⟨L.length, c, rfl, ⟨Nat.le_refl _, (Kd.R_reads' HX.out).2.1, Nat.le_refl _, by rw [← HLL.out, List.take_length]⟩, HX, BX, HBX⟩
      case round =>
        clear HX BX HBX
        obtain ⟨m, cc, rfl, HM, HX, BX, HBX⟩ := hrel
        by_cases hm : 0 < m
        · have hm1 : m ≤ L.length := HM.out.1
          have hm2 : m ≤ cc := HM.out.2.1
          have d1 : decide (0 < m) = true := by simpa using hm
          have d2 : decide ((0 : Int) < (m : Int)) = true := by simp; omega
          have p2 : (0 : Int) ≤ (m : Int) - 1 := by omega
          have q2 : (m : Int) - 1 < (m : Int) := by omega
          have q3 : (m : Int) - 1 < (L.length : Int) := by omega
          have q4 : (m : Int) - 1 ≤ (cc : Int) := by omega
          have hw1 : wrap64 ((m : Int) - 1) = (m : Int) - 1 := by have := HBD.out; have := HJ.out.2.1; unfold wrap64; omega
          have hw2 : IntKind.i64.wrap ((m : Int) - 1) = (m : Int) - 1 := (i64_w _).trans hw1
          obtain ⟨hx1, hf1⟩ := Kd.R_celln 0 HX.out ((m : Int) - 1) p2 q3
          rw [show ((m : Int) - 1).toNat = m - 1 by omega] at hx1
          by_cases hz : rdOf 0 L' ((m : Int) - 1) = 0
          · rw [hz] at hx1
            obtain ⟨i0, hi0, _, _, _⟩ := info_parts minfo_int
            have hcut := cut_hm (P := Try.prog) 22 3 Try.underlying22 hi0 (some ⟨g, 0, none⟩) m cc ((m : Int) - 1) p2 q4
            rw [show ((m : Int) - 1).toNat = m - 1 by omega] at hcut
            have HZ := Aside0.mk hz
            clear hz hi0 hf1
            go_wp2
            repeat (go_quiet (fail); try go_wp2)
            cases gk with
            | zero => have := HM.out.2.2.1; omega
            | succ k1 =>
              go_roundg k1
              case measure => omega
              case rel => exact ⟨m - 1, m - 1, by rfl, ⟨by omega, Nat.le_refl _, by have := HM.out.2.2.1; omega, by
                obtain ⟨m', rfl⟩ : ∃ m', m = m' + 1 := ⟨m - 1, by omega⟩
                have h1 := HM.out.2.2.2
                rw [take_last L' m' (by rw [HLL.out]; omega)] at h1
                have h2 : rd L' (m' : Int) = 0 := by have := HZ.out; rw [show ((m' + 1 : Nat) : Int) - 1 = (m' : Int) by omega] at this; exact this
                rw [h2, trimZ_snoc0] at h1
                exact h1⟩, HX, BX, HBX⟩
          · have hz1 : (rdOf 0 L' ((m : Int) - 1) == 0) = false := by simpa using hz
            have HZ := Aside0.mk hz
            have hcr := (blk_cell BX.out 0)
            have hfr := blk_frozen BX.out 0
            clear hz hf1
            go_wp2
            repeat (go_quiet (fail); try go_wp2)
            refine bodyPost_ret (results_cell_row rfl _ _ gr 24 #[.slice (some ⟨g, 0, none⟩) m cc] (0, 0) _ rfl (by refine blk_put (cs := #[.slice none 0 0]) BX.out 0 _ rfl) Try.underlying24 rfl (by kernel_rfl)) rfl ?_
            refine ⟨_, rfl, ?_, below_set HBX.out GR.out⟩
            have e1 : r = L'.take m := by
              rw [← H.out, Int.toNat_natCast, HL.out, ← HL2.out, ← HM.out.2.2.2]
              obtain ⟨m', rfl⟩ : ∃ m', m = m' + 1 := ⟨m - 1, by omega⟩
              rw [take_last L' m' (by rw [HLL.out]; omega)]
              exact trimZ_snoc _ _ (by have := HZ.out; rw [show ((m' + 1 : Nat) : Int) - 1 = (m' : Int) by omega] at this; exact this)
            rw [e1]
            exact cut_V HX.out BX.out (by decide) hm1 hm2 _
        · have hm0 : m = 0 := by omega
          subst hm0
          have hcr := (blk_cell BX.out 0)
          have hfr := blk_frozen BX.out 0
          go_wp2
          repeat (go_quiet (fail); try go_wp2)
          refine bodyPost_ret (results_cell_row rfl _ _ gr 24 #[.slice (some ⟨g, 0, none⟩) 0 cc] (0, 0) _ rfl (by refine blk_put (cs := #[.slice none 0 0]) BX.out 0 _ rfl) Try.underlying24 rfl (by kernel_rfl)) rfl ?_
          refine ⟨_, rfl, ?_, below_set HBX.out GR.out⟩
          have e1 : r = L'.take 0 := by
            rw [← H.out, Int.toNat_natCast, HL.out, ← HL2.out, ← HM.out.2.2.2]
            rfl
          rw [e1]
          exact cut_V HX.out BX.out (by decide) (by omega) HM.out.2.1 _

end Go.Proofs.Ytefnndodcpimiaa.H
