-- Made by this session's own call of the printer (functions that are proved by hand are taken from a text beside it).
import Derived.Test.YtbclnjinpcfpjaaZ4
import Derived.Test.YtbclnjinpcfpjaaZ5
import Derived.Test.YtbclnjinpcfpjaaM4
import Derived.Test.YtbclnjinpcfpjaaH0
import Derived.Test.YtbclnjinpcfpjaaH5
namespace Go.Proofs.Ytbclnjinpcfpjaa.H
open Go.RowKit Go.Proofs.YtbclnjinpcfpjaaW.PrintWords Go.Proofs.YtbclnjinpcfpjaaW.PrintLast Go.Proofs.YtbclnjinpcfpjaaW.PrintMore
attribute [local go_sem] max2_int min2_int max_two min_two max_three min_three max_four min_four   -- for this text's walks alone
set_option linter.unusedVariables false
set_option linter.unusedSimpArgs false

/-! ### octet_Reader_Left: function 98 -/
def octet_Reader_Left.f (s0_0 : List Int) (s0_1 : Int) (s0_2 : Int) (s0_3 : Bool) : Option (Int × Int × Int × Bool) := (octet_Reader_made.f s0_0 s0_1 s0_2 s0_3).bind fun bt234 => (if bt234.1 = true then (some (wrap64 ((s0_0.length : Int) - bt234.2.1), bt234.2.1, bt234.2.2.1, bt234.2.2.2)) else (some (0, bt234.2.1, bt234.2.2.1, bt234.2.2.2)))
set_option maxHeartbeats 1000000 in
set_option maxRecDepth 100000 in
theorem octet_Reader_Left.calls (g r0_ : Nat) (s0_0 : List Int) (s0_1 : Int) (s0_2 : Int) (s0_3 : Bool) (r1 : Int) (r2 : Int) (r3 : Int) (r4 : Bool) (w0 w : World) (hI : IsS101 w0 w g r0_ s0_0 s0_1 s0_2 s0_3) (hB : Below w0.heap.size w0 w) (h : octet_Reader_Left.f s0_0 s0_1 s0_2 s0_3 = some (r1, r2, r3, r4)) :
  Calls Try.prog 98 #[.pointer (some ⟨g, 0, none⟩)] w fun e w' => e = .returned (.int .i64 r1) ∧ IsS101 w0 w' g r0_ s0_0 r2 r3 r4 ∧ Below w0.heap.size w0 w' ∧ KeepBut w w' g none := by
 have HS := Aside0.mk (And.intro hI hB)
 unfold octet_Reader_Left.f octet_Reader_made.f at h
 rw [Option.bind_some] at h
 clear hI hB
 cases s0_3 with
 | true =>
  rw [if_pos rfl] at h
  simp only [Option.some.injEq, Prod.mk.injEq] at h
  obtain ⟨rfl, rfl, rfl, rfl⟩ := h
  have hw : IntKind.i64.wrap ((s0_0.length : Int) - s0_1) = wrap64 ((s0_0.length : Int) - s0_1) := i64_w _
  go_enter Try.func98, Try.ntmps98
  go_wp2_with (go_at_call 97; refine (octet_Reader_made.calls g r0_ s0_0 s0_1 s0_2 true true s0_1 s0_2 true w0 _ HS.out.1 HS.out.2 rfl).mono ?_; rintro e w1 ⟨rfl, hi, hb, hk⟩; have HS1 := Aside0.mk (And.intro hi (And.intro hb hk)); obtain ⟨A, c, h1, h2, h7, h8⟩ := hi; have hc0 := cellS101_0 h1; have hc1 := cellS101_1 h1; have hc2 := cellS101_2 h1; clear h1 h2 h7 h8 hb hk)
  repeat (go_quiet (fail); try go_wp2)
  go_ret
  exact ⟨by first | rfl | (rw [← hw]; rfl), by first | exact HS1.out | exact ⟨HS1.out.1.drew, below_drew1 HS1.out.2.1, keep_drew HS1.out.2.2⟩ | exact ⟨HS1.out.1.drewN _, pw_below_drewN HS1.out.2.1 _, keep_drewN HS1.out.2.2 _⟩ | exact ⟨(HS1.out.1.drewN _).drew, below_drew1 (pw_below_drewN HS1.out.2.1 _), keep_drew (keep_drewN HS1.out.2.2 _)⟩⟩
 | false =>
  rw [if_neg Bool.false_ne_true] at h
  simp only [Option.some.injEq, Prod.mk.injEq] at h
  obtain ⟨rfl, rfl, rfl, rfl⟩ := h
  go_enter Try.func98, Try.ntmps98
  go_wp2_with (go_at_call 97; refine (octet_Reader_made.calls g r0_ s0_0 s0_1 s0_2 false false s0_1 s0_2 false w0 _ HS.out.1 HS.out.2 rfl).mono ?_; rintro e w1 ⟨rfl, hi, hb, hk⟩; have HS1 := Aside0.mk (And.intro hi (And.intro hb hk)); obtain ⟨A, c, h1, h2, h7, h8⟩ := hi; have hc0 := cellS101_0 h1; have hc1 := cellS101_1 h1; have hc2 := cellS101_2 h1; clear h1 h2 h7 h8 hb hk)
  repeat (go_quiet (fail); try go_wp2)
  go_ret
  exact ⟨rfl, by first | exact HS1.out | exact ⟨HS1.out.1.drew, below_drew1 HS1.out.2.1, keep_drew HS1.out.2.2⟩ | exact ⟨HS1.out.1.drewN _, pw_below_drewN HS1.out.2.1 _, keep_drewN HS1.out.2.2 _⟩ | exact ⟨(HS1.out.1.drewN _).drew, below_drew1 (pw_below_drewN HS1.out.2.1 _), keep_drew (keep_drewN HS1.out.2.2 _)⟩⟩

/-! ### octet_Reader_End: function 76 -/
def octet_Reader_End.f (s0_0 : List Int) (s0_1 : Int) (s0_2 : Int) (s0_3 : Bool) : Option (Int × Int × Int × Bool) := (octet_Reader_made.f s0_0 s0_1 s0_2 s0_3).bind fun bt238 => (if bt238.1 = true then (if bt238.2.2.1 = 0 then ((octet_Reader_Left.f s0_0 bt238.2.1 bt238.2.2.1 bt238.2.2.2).bind fun bt242 => (if bt242.1 > 0 then ((octet_Reader_fail.f s0_0 bt242.2.1 bt242.2.2.1 bt242.2.2.2 4).bind fun bt246 => (some (bt246.2.1, bt246.1, bt246.2.1, bt246.2.2))) else (some (bt242.2.2.1, bt242.2.1, bt242.2.2.1, bt242.2.2.2)))) else (some (bt238.2.2.1, bt238.2.1, bt238.2.2.1, bt238.2.2.2))) else (some (1, bt238.2.1, bt238.2.2.1, bt238.2.2.2)))
set_option maxHeartbeats 8000000 in
set_option maxRecDepth 100000 in
theorem octet_Reader_End.calls (g r0_ : Nat) (s0_0 : List Int) (s0_1 : Int) (s0_2 : Int) (s0_3 : Bool) (r1 : Int) (r2 : Int) (r3 : Int) (r4 : Bool) (w0 w : World) (hI : IsS101 w0 w g r0_ s0_0 s0_1 s0_2 s0_3) (hB : Below w0.heap.size w0 w) (h : octet_Reader_End.f s0_0 s0_1 s0_2 s0_3 = some (r1, r2, r3, r4)) :
  Calls Try.prog 76 #[.pointer (some ⟨g, 0, none⟩)] w fun e w' => e = .returned (.int .i64 r1) ∧ IsS101 w0 w' g r0_ s0_0 r2 r3 r4 ∧ Below w0.heap.size w0 w' ∧ KeepBut w w' g none := by
 have HI0 := Aside0.mk hI
 have HK := am (KeepBut.refl w g none)
 have HL := Aside0.mk hB.size
 clear hI
 have HW0 := Aside0.mk hB.size
 have HB := Aside0.mk hB
 clear hB
 have H : ((octet_Reader_made.f s0_0 s0_1 s0_2 s0_3).bind fun bt238 => (if bt238.1 = true then (if bt238.2.2.1 = 0 then ((octet_Reader_Left.f s0_0 bt238.2.1 bt238.2.2.1 bt238.2.2.2).bind fun bt242 => (if bt242.1 > 0 then ((octet_Reader_fail.f s0_0 bt242.2.1 bt242.2.2.1 bt242.2.2.2 4).bind fun bt246 => (some (bt246.2.1, bt246.1, bt246.2.1, bt246.2.2))) else (some (bt242.2.2.1, bt242.2.1, bt242.2.2.1, bt242.2.2.2)))) else (some (bt238.2.2.1, bt238.2.1, bt238.2.2.1, bt238.2.2.2))) else (some (1, bt238.2.1, bt238.2.2.1, bt238.2.2.2)))) = some (r1, r2, r3, r4) := h
 clear h
 replace H := Option.bind_eq_some_iff.mp H
 obtain ⟨⟨t238, t239, t240, t241⟩, A20, H⟩ := H
 try dsimp only at H
 have A2 := Aside0.mk A20
 clear A20
 by_cases c3 : t238 = true
 ·
  subst c3
  rw [if_pos rfl] at H
  by_cases c4 : t240 = 0
  ·
   rw [if_pos c4] at H
   have c4b0 : (t240 == 0) = true := beq_iff_eq.mpr c4
   have c4b1 : (t240 != 0) = false := bne_eq_false_iff_eq.mpr c4
   clear c4
   replace H := Option.bind_eq_some_iff.mp H
   obtain ⟨⟨t242, t243, t244, t245⟩, A50, H⟩ := H
   try dsimp only at H
   have A5 := Aside0.mk A50
   clear A50
   by_cases c6 : t242 > 0
   ·
    rw [if_pos c6] at H
    have c6b0 : decide (0 < t242) = true := decide_eq_true c6
    clear c6
    replace H := Option.bind_eq_some_iff.mp H
    obtain ⟨⟨t246, t247, t248⟩, A70, H⟩ := H
    try dsimp only at H
    have A7 := Aside0.mk A70
    clear A70
    simp only [Option.some.injEq, Prod.mk.injEq] at H
    obtain ⟨rfl, rfl, rfl, rfl⟩ := H
    go_enter Try.func76, Try.ntmps76
    go_wp2_with (first | ((with_reducible refine gate_callee (f := 97) rfl ?_); refine goesL_ (some 4) rfl rfl Try.func97 (by kernel_rfl) rfl #[.pointer (some ⟨g, 0, none⟩)] rfl (by (try simp only [List.map_toArray, List.map_cons, List.map_nil]); first | done | rfl) ?_; (with_reducible refine (octet_Reader_made.calls g r0_ s0_0 s0_1 s0_2 s0_3 true t239 t240 t241 w0 _ ?side1 ?side2 A2.out).mono ?_); (case side1 => repeat (with_reducible first | exact HI0.out | apply yA101 | apply yN101 | apply yD101 | apply IsS101.set_1 | apply IsS101.set_2 | apply IsS101.set_3)); (case side2 => repeat (with_reducible first | exact HB.out | apply bA | apply bN | apply bD | refine bS ?_ (IsS101.ge HI0.out))); rintro e w8 ⟨rfl, hi, hb, hk⟩; refine ⟨_, rfl, ?_⟩; replace HK := am (KeepBut.trans (by repeat (with_reducible first | exact HK.out | apply KeepBut.set_ | apply keep_drewN | apply keep_drew | apply keep_alloc)) hk (.inl rfl)); replace HB := am (hb); replace HI0 := am (hi); (try clear hb); obtain ⟨ASz9_0, cSz9_0, HGz9, hgz9, HSz9_0⟩ := HI0.out; have hcz9_0 := cellS101_0 HGz9; have hcz9_1 := cellS101_1 HGz9; have hcz9_2 := cellS101_2 HGz9; have hcz9_3 := cellS101_3 HGz9; have hfz9_1 := blk_frozen HGz9 1; have hfz9_2 := blk_frozen HGz9 2; have hfz9_3 := blk_frozen HGz9 3; clear HGz9 hgz9) | (go_at_call 98; (with_reducible refine (octet_Reader_Left.calls g r0_ s0_0 t239 t240 t241 t242 t243 t244 t245 w0 _ ?side1 ?side2 A5.out).mono ?_); (case side1 => repeat (with_reducible first | exact HI0.out | apply yA101 | apply yN101 | apply yD101 | apply IsS101.set_1 | apply IsS101.set_2 | apply IsS101.set_3)); (case side2 => repeat (with_reducible first | exact HB.out | apply bA | apply bN | apply bD | refine bS ?_ (IsS101.ge HI0.out))); rintro e w10 ⟨rfl, hi, hb, hk⟩; replace HK := am (KeepBut.trans (by repeat (with_reducible first | exact HK.out | apply KeepBut.set_ | apply keep_drewN | apply keep_drew | apply keep_alloc)) hk (.inl rfl)); replace HB := am (hb); replace HI0 := am (hi); (try clear hb)) | ((with_reducible refine gate_callee (f := 96) rfl ?_); refine goesL_ (some 17) rfl rfl Try.func96 (by kernel_rfl) rfl #[.pointer (some ⟨g, 0, none⟩), .int .i64 4] rfl (by (try simp only [List.map_toArray, List.map_cons, List.map_nil]); first | done | rfl) ?_; (with_reducible refine (octet_Reader_fail.calls g r0_ s0_0 t243 t244 t245 4 t246 t247 t248 w0 _ ?side1 ?side2 A7.out).mono ?_); (case side1 => repeat (with_reducible first | exact HI0.out | apply yA101 | apply yN101 | apply yD101 | apply IsS101.set_1 | apply IsS101.set_2 | apply IsS101.set_3)); (case side2 => repeat (with_reducible first | exact HB.out | apply bA | apply bN | apply bD | refine bS ?_ (IsS101.ge HI0.out))); rintro e w11 ⟨rfl, hi, hb, hk⟩; refine ⟨_, rfl, ?_⟩; replace HK := am (KeepBut.trans (by repeat (with_reducible first | exact HK.out | apply KeepBut.set_ | apply keep_drewN | apply keep_drew | apply keep_alloc)) hk (.inl rfl)); replace HB := am (hb); replace HI0 := am (hi); (try clear hb); obtain ⟨ASz12_0, cSz12_0, HGz12, hgz12, HSz12_0⟩ := HI0.out; have hcz12_0 := cellS101_0 HGz12; have hcz12_1 := cellS101_1 HGz12; have hcz12_2 := cellS101_2 HGz12; have hcz12_3 := cellS101_3 HGz12; have hfz12_1 := blk_frozen HGz12 1; have hfz12_2 := blk_frozen HGz12 2; have hfz12_3 := blk_frozen HGz12 3; clear HGz12 hgz12))
    go_ret
    exact ⟨by first | rfl | (simp [errW_none, errW_some] <;> rfl) | (simp [*, errW_none, errW_some] <;> rfl), by repeat (with_reducible first | exact HI0.out | apply yA101 | apply yN101 | apply yD101 | apply IsS101.set_1 | apply IsS101.set_2 | apply IsS101.set_3), by repeat (with_reducible first | exact HB.out | apply bA | apply bN | apply bD | refine bS ?_ (IsS101.ge HI0.out)), by repeat (with_reducible first | exact HK.out | apply KeepBut.set_ | apply keep_drewN | apply keep_drew | apply keep_alloc)⟩
   ·
    rw [if_neg c6] at H
    have c6b0 : decide (0 < t242) = false := decide_eq_false c6
    clear c6
    simp only [Option.some.injEq, Prod.mk.injEq] at H
    obtain ⟨rfl, rfl, rfl, rfl⟩ := H
    go_enter Try.func76, Try.ntmps76
    go_wp2_with (first | ((with_reducible refine gate_callee (f := 97) rfl ?_); refine goesL_ (some 4) rfl rfl Try.func97 (by kernel_rfl) rfl #[.pointer (some ⟨g, 0, none⟩)] rfl (by (try simp only [List.map_toArray, List.map_cons, List.map_nil]); first | done | rfl) ?_; (with_reducible refine (octet_Reader_made.calls g r0_ s0_0 s0_1 s0_2 s0_3 true t239 t240 t241 w0 _ ?side1 ?side2 A2.out).mono ?_); (case side1 => repeat (with_reducible first | exact HI0.out | apply yA101 | apply yN101 | apply yD101 | apply IsS101.set_1 | apply IsS101.set_2 | apply IsS101.set_3)); (case side2 => repeat (with_reducible first | exact HB.out | apply bA | apply bN | apply bD | refine bS ?_ (IsS101.ge HI0.out))); rintro e w13 ⟨rfl, hi, hb, hk⟩; refine ⟨_, rfl, ?_⟩; replace HK := am (KeepBut.trans (by repeat (with_reducible first | exact HK.out | apply KeepBut.set_ | apply keep_drewN | apply keep_drew | apply keep_alloc)) hk (.inl rfl)); replace HB := am (hb); replace HI0 := am (hi); (try clear hb); obtain ⟨ASz14_0, cSz14_0, HGz14, hgz14, HSz14_0⟩ := HI0.out; have hcz14_0 := cellS101_0 HGz14; have hcz14_1 := cellS101_1 HGz14; have hcz14_2 := cellS101_2 HGz14; have hcz14_3 := cellS101_3 HGz14; have hfz14_1 := blk_frozen HGz14 1; have hfz14_2 := blk_frozen HGz14 2; have hfz14_3 := blk_frozen HGz14 3; clear HGz14 hgz14) | (go_at_call 98; (with_reducible refine (octet_Reader_Left.calls g r0_ s0_0 t239 t240 t241 t242 t243 t244 t245 w0 _ ?side1 ?side2 A5.out).mono ?_); (case side1 => repeat (with_reducible first | exact HI0.out | apply yA101 | apply yN101 | apply yD101 | apply IsS101.set_1 | apply IsS101.set_2 | apply IsS101.set_3)); (case side2 => repeat (with_reducible first | exact HB.out | apply bA | apply bN | apply bD | refine bS ?_ (IsS101.ge HI0.out))); rintro e w15 ⟨rfl, hi, hb, hk⟩; replace HK := am (KeepBut.trans (by repeat (with_reducible first | exact HK.out | apply KeepBut.set_ | apply keep_drewN | apply keep_drew | apply keep_alloc)) hk (.inl rfl)); replace HB := am (hb); replace HI0 := am (hi); (try clear hb); obtain ⟨ASz16_0, cSz16_0, HGz16, hgz16, HSz16_0⟩ := HI0.out; have hcz16_0 := cellS101_0 HGz16; have hcz16_1 := cellS101_1 HGz16; have hcz16_2 := cellS101_2 HGz16; have hcz16_3 := cellS101_3 HGz16; have hfz16_1 := blk_frozen HGz16 1; have hfz16_2 := blk_frozen HGz16 2; have hfz16_3 := blk_frozen HGz16 3; clear HGz16 hgz16))
    go_ret
    exact ⟨by first | rfl | (simp [errW_none, errW_some] <;> rfl) | (simp [*, errW_none, errW_some] <;> rfl), by repeat (with_reducible first | exact HI0.out | apply yA101 | apply yN101 | apply yD101 | apply IsS101.set_1 | apply IsS101.set_2 | apply IsS101.set_3), by repeat (with_reducible first | exact HB.out | apply bA | apply bN | apply bD | refine bS ?_ (IsS101.ge HI0.out)), by repeat (with_reducible first | exact HK.out | apply KeepBut.set_ | apply keep_drewN | apply keep_drew | apply keep_alloc)⟩
  ·
   rw [if_neg c4] at H
   have c4b0 : (t240 == 0) = false := beq_eq_false_iff_ne.mpr c4
   have c4b1 : (t240 != 0) = true := bne_iff_ne.mpr c4
   simp only [Option.some.injEq, Prod.mk.injEq] at H
   obtain ⟨rfl, rfl, rfl, rfl⟩ := H
   go_enter Try.func76, Try.ntmps76
   go_wp2_with (first | ((with_reducible refine gate_callee (f := 97) rfl ?_); refine goesL_ (some 4) rfl rfl Try.func97 (by kernel_rfl) rfl #[.pointer (some ⟨g, 0, none⟩)] rfl (by (try simp only [List.map_toArray, List.map_cons, List.map_nil]); first | done | rfl) ?_; (with_reducible refine (octet_Reader_made.calls g r0_ s0_0 s0_1 s0_2 s0_3 true t239 t240 t241 w0 _ ?side1 ?side2 A2.out).mono ?_); (case side1 => repeat (with_reducible first | exact HI0.out | apply yA101 | apply yN101 | apply yD101 | apply IsS101.set_1 | apply IsS101.set_2 | apply IsS101.set_3)); (case side2 => repeat (with_reducible first | exact HB.out | apply bA | apply bN | apply bD | refine bS ?_ (IsS101.ge HI0.out))); rintro e w17 ⟨rfl, hi, hb, hk⟩; refine ⟨_, rfl, ?_⟩; replace HK := am (KeepBut.trans (by repeat (with_reducible first | exact HK.out | apply KeepBut.set_ | apply keep_drewN | apply keep_drew | apply keep_alloc)) hk (.inl rfl)); replace HB := am (hb); replace HI0 := am (hi); (try clear hb); obtain ⟨ASz18_0, cSz18_0, HGz18, hgz18, HSz18_0⟩ := HI0.out; have hcz18_0 := cellS101_0 HGz18; have hcz18_1 := cellS101_1 HGz18; have hcz18_2 := cellS101_2 HGz18; have hcz18_3 := cellS101_3 HGz18; have hfz18_1 := blk_frozen HGz18 1; have hfz18_2 := blk_frozen HGz18 2; have hfz18_3 := blk_frozen HGz18 3; clear HGz18 hgz18))
   go_ret
   exact ⟨by first | rfl | (simp [errW_none, errW_some] <;> rfl) | (simp [*, errW_none, errW_some] <;> rfl), by repeat (with_reducible first | exact HI0.out | apply yA101 | apply yN101 | apply yD101 | apply IsS101.set_1 | apply IsS101.set_2 | apply IsS101.set_3), by repeat (with_reducible first | exact HB.out | apply bA | apply bN | apply bD | refine bS ?_ (IsS101.ge HI0.out)), by repeat (with_reducible first | exact HK.out | apply KeepBut.set_ | apply keep_drewN | apply keep_drew | apply keep_alloc)⟩
 ·
  replace c3 := Bool.eq_false_iff.mpr c3
  subst c3
  rw [if_neg Bool.false_ne_true] at H
  simp only [Option.some.injEq, Prod.mk.injEq] at H
  obtain ⟨rfl, rfl, rfl, rfl⟩ := H
  go_enter Try.func76, Try.ntmps76
  go_wp2_with (first | ((with_reducible refine gate_callee (f := 97) rfl ?_); refine goesL_ (some 4) rfl rfl Try.func97 (by kernel_rfl) rfl #[.pointer (some ⟨g, 0, none⟩)] rfl (by (try simp only [List.map_toArray, List.map_cons, List.map_nil]); first | done | rfl) ?_; (with_reducible refine (octet_Reader_made.calls g r0_ s0_0 s0_1 s0_2 s0_3 false t239 t240 t241 w0 _ ?side1 ?side2 A2.out).mono ?_); (case side1 => repeat (with_reducible first | exact HI0.out | apply yA101 | apply yN101 | apply yD101 | apply IsS101.set_1 | apply IsS101.set_2 | apply IsS101.set_3)); (case side2 => repeat (with_reducible first | exact HB.out | apply bA | apply bN | apply bD | refine bS ?_ (IsS101.ge HI0.out))); rintro e w19 ⟨rfl, hi, hb, hk⟩; refine ⟨_, rfl, ?_⟩; replace HK := am (KeepBut.trans (by repeat (with_reducible first | exact HK.out | apply KeepBut.set_ | apply keep_drewN | apply keep_drew | apply keep_alloc)) hk (.inl rfl)); replace HB := am (hb); replace HI0 := am (hi); (try clear hb)))
  go_ret
  exact ⟨by first | rfl | (simp [errW_none, errW_some] <;> rfl) | (simp [*, errW_none, errW_some] <;> rfl), by repeat (with_reducible first | exact HI0.out | apply yA101 | apply yN101 | apply yD101 | apply IsS101.set_1 | apply IsS101.set_2 | apply IsS101.set_3), by repeat (with_reducible first | exact HB.out | apply bA | apply bN | apply bD | refine bS ?_ (IsS101.ge HI0.out)), by repeat (with_reducible first | exact HK.out | apply KeepBut.set_ | apply keep_drewN | apply keep_drew | apply keep_alloc)⟩

end Go.Proofs.Ytbclnjinpcfpjaa.H
