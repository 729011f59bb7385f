-- Made by this session's own call of the printer (functions that are proved by hand are taken from a text beside it).
import Derived.Test.YtefnndodcpimiaaH0
import Derived.Test.YtefnndodcpimiaaH1
import Derived.Test.YtefnndodcpimiaaH2
import Derived.Test.YtefnndodcpimiaaH3
import Derived.Test.YtefnndodcpimiaaH4
import Derived.Test.YtefnndodcpimiaaH5
import Derived.Test.YtefnndodcpimiaaH6
import Derived.Test.YtefnndodcpimiaaH7
namespace Go.Proofs.Ytefnndodcpimiaa.H
open Go.RowKit Go.Proofs.YtefnndodcpimiaaW.PrintWords Go.Proofs.YtefnndodcpimiaaW.PrintLast Go.Proofs.YtefnndodcpimiaaW.PrintMore
attribute [local go_sem] max2_int min2_int max_two min_two max_three min_three max_four min_four   -- for this text's walks alone
set_option linter.unusedVariables false
set_option linter.unusedSimpArgs false

/-! ### tallymanlaw10_TableCalls: function 6 -/
mutual
def tallymanlaw10_TableCalls.j0 : Nat → Int → Int → List Int → Bool → List Int → Option (Bool)
  | 0, _, _, _, _, _ => none
  | k + 1, x1, x2, x3, x35, x286000 => if x35 = true then (some true) else ((table_Get.f x286000 x1).bind fun bt287 => ((tallymanref10_Get.f x286000 x1).bind fun bt289 => ((table_Set.f k x286000 x1 x2).bind fun bt291 => ((tallymanref10_Set.f k x286000 x1 x2).bind fun bt296 => (if bt287.1 = bt289.1 then (if (bt287.2 != bt289.2) = true then (tallymanlaw10_TableCalls.j1 k x1 x2 x3 true x286000) else ((tallymankit_Ints.f k bt291.1 bt296.1).bind fun t301 => (if t301 = true then (tallymanlaw10_TableCalls.j1 k x1 x2 x3 (bt291.2 != bt296.2) x286000) else (tallymanlaw10_TableCalls.j1 k x1 x2 x3 true x286000)))) else (tallymanlaw10_TableCalls.j1 k x1 x2 x3 true x286000))))))
def tallymanlaw10_TableCalls.j1 : Nat → Int → Int → List Int → Bool → List Int → Option (Bool)
  | 0, _, _, _, _, _ => none
  | k + 1, x1, x2, x3, x82, x286000 => if x82 = true then (none) else ((table_Clear.f x286000 x1).bind fun bt302 => ((tallymanref10_Clear.f k x286000 x1).bind fun bt306 => ((table_Fresh.f k x286000).bind fun bt310 => ((tallymanref10_Fresh.f k x286000).bind fun bt312 => ((tallymankit_Ints.f k bt302.1 bt306.1).bind fun t314 => (if t314 = true then (if bt302.2 = bt306.2 then (if bt310.1 = bt312.1 then (tallymanlaw10_TableCalls.j2 k x2 x3 (bt310.2 != bt312.2) x286000) else (tallymanlaw10_TableCalls.j2 k x2 x3 true x286000)) else (tallymanlaw10_TableCalls.j2 k x2 x3 true x286000)) else (tallymanlaw10_TableCalls.j2 k x2 x3 true x286000)))))))
def tallymanlaw10_TableCalls.j2 : Nat → Int → List Int → Bool → List Int → Option (Bool)
  | 0, _, _, _, _ => none
  | k + 1, x2, x3, x125, x286000 => if x125 = true then (none) else ((table_Find.f k x286000 x2).bind fun bt315 => ((tallymanref10_Find.f k x286000 x2).bind fun bt317 => ((table_Bytes.f k x286000).bind fun bt319 => ((tallymanref10_Bytes.f k x286000).bind fun bt323 => ((tallymankit_Own.f x3).bind fun t327 => ((table_Read.f t327).bind fun bt330 => ((tallymanref10_Read.f x3).bind fun bt334 => (if bt315.1 = bt317.1 then (if (bt315.2 == bt317.2) = true then (if (strOfNums bt319.1).toList = (strOfNums bt323.1).toList then (if bt319.2 = bt323.2 then ((tallymankit_Ints.f k bt330.1 bt334.1).bind fun t338 => (if t338 = true then (if bt330.2 = bt334.2 then ((table_Check.f x286000).bind fun t339 => ((tallymanref10_Check.f x286000).bind fun t340 => (if t339 = t340 then ((table_Pages.f k x286000).bind fun t341 => ((tallymanref10_Pages.f k x286000).bind fun t344 => ((tallymankit_Ints.f k t341 t344).bind fun t347 => (if t347 = true then ((table_Count.f k x286000).bind fun t348 => ((tallymanref10_Pages.f k x286000).bind fun t349 => (some (t348 == (t349.length : Int))))) else (none))))) else (none)))) else (none)) else (none))) else (none)) else (none)) else (none)) else (none)))))))))
end
def tallymanlaw10_TableCalls.f (k : Nat) (l0_0 : List Int) (a1 : Int) (a2 : Int) (l3 : List Int) : Option (Bool) := (tallymanlaw10_lives.f k).bind fun t286 => (if t286 = true then (if (l0_0.length : Int) > 400 then (tallymanlaw10_TableCalls.j0 k a1 a2 l3 true l0_0) else (if (l3.length : Int) > 1000 then (tallymanlaw10_TableCalls.j0 k a1 a2 l3 true l0_0) else (tallymanlaw10_TableCalls.j0 k a1 a2 l3 (decide (a1 > 3000)) l0_0))) else (none))
theorem tallymanlaw10_TableCalls.mono_l : ∀ k, (∀ y0 y1 y2 y3 y4, LeO (tallymanlaw10_TableCalls.j0 k y0 y1 y2 y3 y4) (tallymanlaw10_TableCalls.j0 (k + 1) y0 y1 y2 y3 y4)) ∧ (∀ y0 y1 y2 y3 y4, LeO (tallymanlaw10_TableCalls.j1 k y0 y1 y2 y3 y4) (tallymanlaw10_TableCalls.j1 (k + 1) y0 y1 y2 y3 y4)) ∧ (∀ y0 y1 y2 y3, LeO (tallymanlaw10_TableCalls.j2 k y0 y1 y2 y3) (tallymanlaw10_TableCalls.j2 (k + 1) y0 y1 y2 y3))
  | 0 => ⟨fun _ _ _ _ _ r h => by simp [tallymanlaw10_TableCalls.j0] at h, fun _ _ _ _ _ r h => by simp [tallymanlaw10_TableCalls.j1] at h, fun _ _ _ _ r h => by simp [tallymanlaw10_TableCalls.j2] at h⟩
  | k + 1 => by
    obtain ⟨ih0, ih1, ih2⟩ := tallymanlaw10_TableCalls.mono_l k
    refine ⟨?_, ?_, ?_⟩
    · intro y0 y1 y2 y3 y4
      unfold tallymanlaw10_TableCalls.j0
      repeat' first
      | (with_reducible exact ih0 _ _ _ _ _)
      | (with_reducible exact ih1 _ _ _ _ _)
      | (with_reducible exact ih2 _ _ _ _)
      | (with_reducible exact table_Bytes.mono _ _)
      | (with_reducible exact table_Count.mono _ _)
      | (with_reducible exact table_Find.mono _ _ _)
      | (with_reducible exact table_Fresh.mono _ _)
      | (with_reducible exact table_Pages.mono _ _)
      | (with_reducible exact table_Set.mono _ _ _ _)
      | (with_reducible exact tallymankit_Ints.mono _ _ _)
      | (with_reducible exact tallymanlaw10_lives.mono _)
      | (with_reducible exact tallymanref10_Bytes.mono _ _)
      | (with_reducible exact tallymanref10_Clear.mono _ _ _)
      | (with_reducible exact tallymanref10_Find.mono _ _ _)
      | (with_reducible exact tallymanref10_Fresh.mono _ _)
      | (with_reducible exact tallymanref10_Pages.mono _ _)
      | (with_reducible exact tallymanref10_Set.mono _ _ _ _)
      | (with_reducible exact LeO.refl _)
      | (with_reducible exact LeO.none _)
      | (with_reducible refine LeO.ite ?_ ?_)
      | (with_reducible refine LeO.bind ?_ (fun _ => ?_))
      | exact ih0 _ _ _ _ _
      | exact ih1 _ _ _ _ _
      | exact ih2 _ _ _ _
      | exact table_Bytes.mono _ _
      | exact table_Count.mono _ _
      | exact table_Find.mono _ _ _
      | exact table_Fresh.mono _ _
      | exact table_Pages.mono _ _
      | exact table_Set.mono _ _ _ _
      | exact tallymankit_Ints.mono _ _ _
      | exact tallymanlaw10_lives.mono _
      | exact tallymanref10_Bytes.mono _ _
      | exact tallymanref10_Clear.mono _ _ _
      | exact tallymanref10_Find.mono _ _ _
      | exact tallymanref10_Fresh.mono _ _
      | exact tallymanref10_Pages.mono _ _
      | exact tallymanref10_Set.mono _ _ _ _
      | exact LeO.none _
      | refine LeO.ite ?_ ?_
      | refine LeO.bind ?_ (fun _ => ?_)
    · intro y0 y1 y2 y3 y4
      unfold tallymanlaw10_TableCalls.j1
      repeat' first
      | (with_reducible exact ih0 _ _ _ _ _)
      | (with_reducible exact ih1 _ _ _ _ _)
      | (with_reducible exact ih2 _ _ _ _)
      | (with_reducible exact table_Bytes.mono _ _)
      | (with_reducible exact table_Count.mono _ _)
      | (with_reducible exact table_Find.mono _ _ _)
      | (with_reducible exact table_Fresh.mono _ _)
      | (with_reducible exact table_Pages.mono _ _)
      | (with_reducible exact table_Set.mono _ _ _ _)
      | (with_reducible exact tallymankit_Ints.mono _ _ _)
      | (with_reducible exact tallymanlaw10_lives.mono _)
      | (with_reducible exact tallymanref10_Bytes.mono _ _)
      | (with_reducible exact tallymanref10_Clear.mono _ _ _)
      | (with_reducible exact tallymanref10_Find.mono _ _ _)
      | (with_reducible exact tallymanref10_Fresh.mono _ _)
      | (with_reducible exact tallymanref10_Pages.mono _ _)
      | (with_reducible exact tallymanref10_Set.mono _ _ _ _)
      | (with_reducible exact LeO.refl _)
      | (with_reducible exact LeO.none _)
      | (with_reducible refine LeO.ite ?_ ?_)
      | (with_reducible refine LeO.bind ?_ (fun _ => ?_))
      | exact ih0 _ _ _ _ _
      | exact ih1 _ _ _ _ _
      | exact ih2 _ _ _ _
      | exact table_Bytes.mono _ _
      | exact table_Count.mono _ _
      | exact table_Find.mono _ _ _
      | exact table_Fresh.mono _ _
      | exact table_Pages.mono _ _
      | exact table_Set.mono _ _ _ _
      | exact tallymankit_Ints.mono _ _ _
      | exact tallymanlaw10_lives.mono _
      | exact tallymanref10_Bytes.mono _ _
      | exact tallymanref10_Clear.mono _ _ _
      | exact tallymanref10_Find.mono _ _ _
      | exact tallymanref10_Fresh.mono _ _
      | exact tallymanref10_Pages.mono _ _
      | exact tallymanref10_Set.mono _ _ _ _
      | exact LeO.none _
      | refine LeO.ite ?_ ?_
      | refine LeO.bind ?_ (fun _ => ?_)
    · intro y0 y1 y2 y3
      unfold tallymanlaw10_TableCalls.j2
      repeat' first
      | (with_reducible exact ih0 _ _ _ _ _)
      | (with_reducible exact ih1 _ _ _ _ _)
      | (with_reducible exact ih2 _ _ _ _)
      | (with_reducible exact table_Bytes.mono _ _)
      | (with_reducible exact table_Count.mono _ _)
      | (with_reducible exact table_Find.mono _ _ _)
      | (with_reducible exact table_Fresh.mono _ _)
      | (with_reducible exact table_Pages.mono _ _)
      | (with_reducible exact table_Set.mono _ _ _ _)
      | (with_reducible exact tallymankit_Ints.mono _ _ _)
      | (with_reducible exact tallymanlaw10_lives.mono _)
      | (with_reducible exact tallymanref10_Bytes.mono _ _)
      | (with_reducible exact tallymanref10_Clear.mono _ _ _)
      | (with_reducible exact tallymanref10_Find.mono _ _ _)
      | (with_reducible exact tallymanref10_Fresh.mono _ _)
      | (with_reducible exact tallymanref10_Pages.mono _ _)
      | (with_reducible exact tallymanref10_Set.mono _ _ _ _)
      | (with_reducible exact LeO.refl _)
      | (with_reducible exact LeO.none _)
      | (with_reducible refine LeO.ite ?_ ?_)
      | (with_reducible refine LeO.bind ?_ (fun _ => ?_))
      | exact ih0 _ _ _ _ _
      | exact ih1 _ _ _ _ _
      | exact ih2 _ _ _ _
      | exact table_Bytes.mono _ _
      | exact table_Count.mono _ _
      | exact table_Find.mono _ _ _
      | exact table_Fresh.mono _ _
      | exact table_Pages.mono _ _
      | exact table_Set.mono _ _ _ _
      | exact tallymankit_Ints.mono _ _ _
      | exact tallymanlaw10_lives.mono _
      | exact tallymanref10_Bytes.mono _ _
      | exact tallymanref10_Clear.mono _ _ _
      | exact tallymanref10_Find.mono _ _ _
      | exact tallymanref10_Fresh.mono _ _
      | exact tallymanref10_Pages.mono _ _
      | exact tallymanref10_Set.mono _ _ _ _
      | exact LeO.none _
      | refine LeO.ite ?_ ?_
      | refine LeO.bind ?_ (fun _ => ?_)
theorem tallymanlaw10_TableCalls.mono : ∀ a0 a1 a2 a3 k, LeO (tallymanlaw10_TableCalls.f k a0 a1 a2 a3) (tallymanlaw10_TableCalls.f (k + 1) a0 a1 a2 a3) := by
  intro a0 a1 a2 a3 k
  obtain ⟨ih0, ih1, ih2⟩ := tallymanlaw10_TableCalls.mono_l k
  unfold tallymanlaw10_TableCalls.f
  repeat' first
      | (with_reducible exact ih0 _ _ _ _ _)
      | (with_reducible exact ih1 _ _ _ _ _)
      | (with_reducible exact ih2 _ _ _ _)
      | (with_reducible exact table_Bytes.mono _ _)
      | (with_reducible exact table_Count.mono _ _)
      | (with_reducible exact table_Find.mono _ _ _)
      | (with_reducible exact table_Fresh.mono _ _)
      | (with_reducible exact table_Pages.mono _ _)
      | (with_reducible exact table_Set.mono _ _ _ _)
      | (with_reducible exact tallymankit_Ints.mono _ _ _)
      | (with_reducible exact tallymanlaw10_lives.mono _)
      | (with_reducible exact tallymanref10_Bytes.mono _ _)
      | (with_reducible exact tallymanref10_Clear.mono _ _ _)
      | (with_reducible exact tallymanref10_Find.mono _ _ _)
      | (with_reducible exact tallymanref10_Fresh.mono _ _)
      | (with_reducible exact tallymanref10_Pages.mono _ _)
      | (with_reducible exact tallymanref10_Set.mono _ _ _ _)
      | (with_reducible exact LeO.refl _)
      | (with_reducible exact LeO.none _)
      | (with_reducible refine LeO.ite ?_ ?_)
      | (with_reducible refine LeO.bind ?_ (fun _ => ?_))
      | exact ih0 _ _ _ _ _
      | exact ih1 _ _ _ _ _
      | exact ih2 _ _ _ _
      | exact table_Bytes.mono _ _
      | exact table_Count.mono _ _
      | exact table_Find.mono _ _ _
      | exact table_Fresh.mono _ _
      | exact table_Pages.mono _ _
      | exact table_Set.mono _ _ _ _
      | exact tallymankit_Ints.mono _ _ _
      | exact tallymanlaw10_lives.mono _
      | exact tallymanref10_Bytes.mono _ _
      | exact tallymanref10_Clear.mono _ _ _
      | exact tallymanref10_Find.mono _ _ _
      | exact tallymanref10_Fresh.mono _ _
      | exact tallymanref10_Pages.mono _ _
      | exact tallymanref10_Set.mono _ _ _ _
      | exact LeO.none _
      | refine LeO.ite ?_ ?_
      | refine LeO.bind ?_ (fun _ => ?_)
def tallymanlaw10_TableCalls.T23 : Bool × List (List Nat × List Nat) := (true, [([], []), ([], []), ([0, 1], [0, 1]), ([2], [2]), ([3], [3]), ([3], [3]), ([4, 5, 3], [3, 4, 5]), ([3, 6], [3, 6]), ([7, 3], [7]), ([8], [8]), ([9, 8], [8, 9]), ([8], [8]), ([11, 8], [8, 11]), ([10, 12, 8], [8, 10, 12]), ([8, 13], [8, 13]), ([14, 8], [14]), ([15], [15]), ([15], [15]), ([16, 17, 15], [15, 16, 17]), ([15, 18], [15, 18]), ([19, 15], [19]), ([20], [20]), ([21, 20], [20, 21]), ([20], [20]), ([23, 20], [20, 23]), ([22, 24, 20, 20], [20, 22, 24]), ([20, 25], [20, 25]), ([26, 25], [26]), ([27], [27]), ([27], [27]), ([28, 29, 27], [27, 28, 29]), ([27, 30], [27, 30]), ([31, 27], [31]), ([32], [32]), ([33, 32, 32], [32, 33]), ([32], [32]), ([35, 34, 32], [32, 35]), ([34, 36, 32], [32, 34, 36]), ([32, 37], [32, 37]), ([38, 36], [38]), ([39], [39]), ([40, 39, 39], [39, 40]), ([39], [39]), ([42, 41, 39], [39, 42]), ([41, 43, 43, 39], [39, 41, 43]), ([39, 44], [39, 44]), ([45, 44], [45]), ([46], [46]), ([47, 46, 46], [46, 47]), ([46], [46]), ([49, 48, 46], [46, 49]), ([50, 46], [46, 50]), ([48, 51, 46], [46, 48, 51]), ([46, 52], [46, 52]), ([53, 50, 0, 1, 2, 3, 4, 5, 6, 7, 8, 9, 10, 11, 12, 13, 14, 15, 16, 17, 18, 19, 20, 21, 22, 23, 24, 25, 26, 27, 28, 29, 30, 31, 32, 33, 34, 35, 36, 37, 38, 39, 40, 41, 42, 43, 44, 45, 46, 47, 48, 49, 50, 51, 52, 53], [53])])
def tallymanlaw10_TableCalls.B23 : List Nat := [0, 0, 3, 7, 15, 15, 63, 127, 255, 511, 1023, 511, 2559, 8191, 16383, 32767, 65535, 65535, 262143, 524287, 1048575, 2097151, 4194303, 2097151, 10485759, 33554431, 67108863, 134217727, 268435455, 268435455, 1073741823, 2147483647, 4294967295, 8589934591, 17179869183, 8589934591, 68719476735, 137438953471, 274877906943, 549755813887, 1099511627775, 2199023255551, 1099511627775, 8796093022207, 17592186044415, 35184372088831, 70368744177663, 140737488355327, 281474976710655, 140737488355327, 1125899906842623, 2251799813685247, 4503599627370495, 9007199254740991, 18014398509481983]
theorem tallymanlaw10_TableCalls.tab23 : rtab .any (opsOf Try.f6 23) = tallymanlaw10_TableCalls.T23 := by kernel_rfl
theorem tallymanlaw10_TableCalls.bits23 : waitsOk tallymanlaw10_TableCalls.T23.2 tallymanlaw10_TableCalls.B23 = true := by kernel_rfl
set_option maxHeartbeats 8000000 in
set_option maxRecDepth 100000 in
theorem tallymanlaw10_TableCalls.calls (k : Nat) (A0_0 : Option Addr) (c0_0 : Nat) (l0_0 : List Int) (a1 : Int) (a2 : Int) (A3 : Option Addr) (c3 : Nat) (l3 : List Int) (r : Bool) (w : World) (hr0_0 : Kd.C (Kd.int .i64) w A0_0 l0_0.length l0_0) (hc0_0 : l0_0.length ≤ c0_0) (hr3 : Kd.C (Kd.int .u8) w A3 l3.length l3) (hc3 : l3.length ≤ c3) (h : tallymanlaw10_TableCalls.f k l0_0 a1 a2 l3 = some r) :
    Calls Try.prog 6 #[.agg #[.slice A0_0 l0_0.length c0_0], .int .i64 a1, .int .i64 a2, .slice A3 l3.length c3] w fun e w' => e = .returned (.bool r) ∧ Below w.heap.size w w' := by
  have hu24 := Try.underlying24
  have HR0_0 := Aside0.mk hr0_0
  have HC0_0 := Aside0.mk hc0_0
  clear hr0_0 hc0_0
  have HR3 := Aside0.mk hr3
  have HC3 := Aside0.mk hc3
  clear hr3 hc3
  have HB := Aside0.mk (Below.refl w.heap.size w)
  have H : ((tallymanlaw10_lives.f k).bind fun t286 => (if t286 = true then (if (l0_0.length : Int) > 400 then (tallymanlaw10_TableCalls.j0 k a1 a2 l3 true l0_0) else (if (l3.length : Int) > 1000 then (tallymanlaw10_TableCalls.j0 k a1 a2 l3 true l0_0) else (tallymanlaw10_TableCalls.j0 k a1 a2 l3 (decide (a1 > 3000)) l0_0))) else (none))) = some r := h
  clear h
  replace H := Option.bind_eq_some_iff.mp H
  obtain ⟨t286, A50, H⟩ := H
  replace H : (if t286 = true then (if (l0_0.length : Int) > 400 then (tallymanlaw10_TableCalls.j0 k a1 a2 l3 true l0_0) else (if (l3.length : Int) > 1000 then (tallymanlaw10_TableCalls.j0 k a1 a2 l3 true l0_0) else (tallymanlaw10_TableCalls.j0 k a1 a2 l3 (decide (a1 > 3000)) l0_0))) else (none)) = some r := H
  have A5 := Aside0.mk A50
  clear A50
  by_cases c6 : t286 = true
  · subst c6
    have H1 : (if (l0_0.length : Int) > 400 then (tallymanlaw10_TableCalls.j0 k a1 a2 l3 true l0_0) else (if (l3.length : Int) > 1000 then (tallymanlaw10_TableCalls.j0 k a1 a2 l3 true l0_0) else (tallymanlaw10_TableCalls.j0 k a1 a2 l3 (decide (a1 > 3000)) l0_0))) = some r := by rw [if_pos rfl] at H; exact H
    clear H
    have H := H1
    clear H1
    have HC7 := Aside0.mk H
    clear H
    go_enter Try.func6, Try.ntmps6
    go_upto_region 3 with (first | ((with_reducible refine gate_dst (N := 4) rfl ?_); (try (refine gate_guard (by rfl) ?_; dsimp only)); refine box_event ?hg (N := 4) ?hd (cs := #[.slice A0_0 l0_0.length c0_0]) (t := 24) ?hr ?_; (case hd => rfl); (case hg => rfl); (case hr => first | (go_simp; done) | (go_simp; rfl)); intro gb285 hg w8 hbox hb; have n0_ := Aside0.mk (below_step (by repeat (first | (with_reducible first | exact HB.out | apply below_alloc | apply pw_below_drewN | apply below_drew1) | exact HB.out)) hb); have n1_ := Aside0.mk (hbox); have n2_ := Aside0.mk ((by rw [hg]; exact (below_size (by repeat (first | (with_reducible first | exact HB.out | apply below_alloc | apply pw_below_drewN | apply below_drew1) | exact HB.out))) : w.heap.size ≤ gb285)); have n3_ := Aside0.mk ((by rw [hg]; exact (below_size (by repeat (first | (with_reducible first | exact HB.out | apply below_alloc | apply pw_below_drewN | apply below_drew1) | exact HB.out))) : w.heap.size ≤ gb285)); clear HB; have HB := n0_; have BK285 := n1_; have GW285 := n2_; have GE285 := n3_; clear n0_ n1_ n2_ n3_; clear hb hbox hg) | ((with_reducible refine gate_callee (f := 8) rfl ?_); refine goesL_ (some 21) rfl rfl Try.func8 (by kernel_rfl) rfl #[] rfl (by (try simp only [List.map_toArray, List.map_cons, List.map_nil]); first | done | rfl | (simp only [List.length_drop, List.length_take]; rfl)) ?_; (with_reducible refine (tallymanlaw10_lives.calls k  true _ A5.out).mono ?_); rintro e w9 ⟨rfl, hb⟩; refine ⟨_, rfl, ?_⟩; have n0_ := Aside0.mk (blk_below (g := gb285) (o := .cells #[.slice A0_0 l0_0.length c0_0] 24 (0, 0)) (by (with_reducible repeat (first | refine blk_drewN ?_ _ | refine blk_drew ?_ | refine blk_alloc ?_ _)); exact BK285.out) hb); have n1_ := Aside0.mk (below_step (by repeat (first | (with_reducible first | exact HB.out | apply below_alloc | apply pw_below_drewN | apply below_drew1 | refine below_set ?_ GE285.out) | exact HB.out)) hb); clear BK285; clear HB; have BK285 := n0_; have HB := n1_; clear n0_ n1_; (try clear hb); (try clear hb2); (try clear hk); (try clear hi)))
    (try simp only [Act.put, List.setIfInBounds_toArray, List.set_cons_zero, List.set_cons_succ])
    go_cut [35] (fun v35 wc => ∃ (kq : Nat) (x35_6 : Bool), v35 = .bool x35_6 ∧ Aside0 (tallymanlaw10_TableCalls.j0 kq a1 a2 l3 x35_6 l0_0 = some r) ∧ Aside0 (kq ≤ k) ∧ Aside0 (wc.heap[gb285]? = some (.cells #[(.slice A0_0 l0_0.length c0_0)] 24 (0, 0))) ∧ Aside0 (Below w.heap.size w wc))
    case first =>
      have H := HC7.out
      clear HC7
      by_cases c10 : (l0_0.length : Int) > 400
      · rw [if_pos c10] at H
        have c10b0 : decide (400 < (l0_0.length : Int)) = true := decide_eq_true c10
        have c10b1 : decide (400 < l0_0.length) = true := decide_eq_true (by omega)
        clear c10
        (first | rw [c10b0] | (simp only [i64_w, i32_w]; rw [c10b0]) | skip)
        have H' := Aside0.mk H
        clear H
        have hcz11_0 : w9.cell? ⟨gb285, 0, none⟩ = some (.slice A0_0 l0_0.length c0_0) := (blk_cell BK285.out 0).trans rfl
        have hfz11_0 := blk_frozen BK285.out 0
        go_wp2
        go_meet
        case rel => exact ⟨_, (true), (by first | rfl | (simp; done) | (simp [*]; done)), H', ⟨by first | omega | exact Nat.le_refl _⟩, ⟨by (with_reducible repeat (first | refine blk_drewN ?_ _ | refine blk_drew ?_ | refine blk_alloc ?_ _)); exact BK285.out⟩, ⟨by repeat (first | (with_reducible first | exact HB.out | apply below_alloc | apply pw_below_drewN | apply below_drew1 | refine below_set ?_ GE285.out) | exact HB.out)⟩⟩
      · rw [if_neg c10] at H
        have c10b0 : decide (400 < (l0_0.length : Int)) = false := decide_eq_false c10
        have c10b1 : decide (400 < l0_0.length) = false := decide_eq_false (by omega)
        clear c10
        (first | rw [c10b0] | (simp only [i64_w, i32_w]; rw [c10b0]) | skip)
        by_cases c12 : (l3.length : Int) > 1000
        · rw [if_pos c12] at H
          have c12b0 : decide (1000 < (l3.length : Int)) = true := decide_eq_true c12
          have c12b1 : decide (1000 < l3.length) = true := decide_eq_true (by omega)
          clear c12
          have H' := Aside0.mk H
          clear H
          have hcz13_0 : w9.cell? ⟨gb285, 0, none⟩ = some (.slice A0_0 l0_0.length c0_0) := (blk_cell BK285.out 0).trans rfl
          have hfz13_0 := blk_frozen BK285.out 0
          go_wp2
          go_meet
          case rel => exact ⟨_, (true), (by first | rfl | (simp; done) | (simp [*]; done)), H', ⟨by first | omega | exact Nat.le_refl _⟩, ⟨by (with_reducible repeat (first | refine blk_drewN ?_ _ | refine blk_drew ?_ | refine blk_alloc ?_ _)); exact BK285.out⟩, ⟨by repeat (first | (with_reducible first | exact HB.out | apply below_alloc | apply pw_below_drewN | apply below_drew1 | refine below_set ?_ GE285.out) | exact HB.out)⟩⟩
        · rw [if_neg c12] at H
          have c12b0 : decide (1000 < (l3.length : Int)) = false := decide_eq_false c12
          have c12b1 : decide (1000 < l3.length) = false := decide_eq_false (by omega)
          clear c12
          have H' := Aside0.mk H
          clear H
          have hcz14_0 : w9.cell? ⟨gb285, 0, none⟩ = some (.slice A0_0 l0_0.length c0_0) := (blk_cell BK285.out 0).trans rfl
          have hfz14_0 := blk_frozen BK285.out 0
          go_wp2
          go_meet
          case rel => exact ⟨_, (decide (a1 > 3000)), (by first | rfl | (simp; done) | (simp [*]; done)), H', ⟨by first | omega | exact Nat.le_refl _⟩, ⟨by (with_reducible repeat (first | refine blk_drewN ?_ _ | refine blk_drew ?_ | refine blk_alloc ?_ _)); exact BK285.out⟩, ⟨by repeat (first | (with_reducible first | exact HB.out | apply below_alloc | apply pw_below_drewN | apply below_drew1 | refine below_set ?_ GE285.out) | exact HB.out)⟩⟩
    case rest =>
      clear HC7
      try clear c1
      try clear p2
      try clear c3
      try clear c6
      try clear c8
      try clear c10
      try clear c10b0
      try clear c10b1
      try clear c12
      try clear c12b0
      try clear c12b1
      try clear hcz11_0
      try clear hcz13_0
      try clear hcz14_0
      try clear hfz11_0
      try clear hfz13_0
      try clear hfz14_0
      obtain ⟨kq, x35_6, rfl, HA, HJ6, BK285, HB⟩ := hcut
      cases kq with
      | zero => exact absurd HA.out (by simp [tallymanlaw10_TableCalls.j0])
      | succ kj6 =>
        have H := HA.out
        clear HA
        simp only [tallymanlaw10_TableCalls.j0] at H
        by_cases c15 : x35_6 = true
        · subst c15
          have H1 : (some true) = some r := by rw [if_pos rfl] at H; exact H
          clear H
          have H := H1
          clear H1
          obtain rfl := Option.some.inj H
          go_wp2
          go_ret
          exact ⟨by first | rfl | (simp [errW_none, errW_some] <;> rfl) | (simp [*, errW_none, errW_some] <;> rfl), by repeat (first | (with_reducible first | exact HB.out | apply below_alloc | apply pw_below_drewN | apply below_drew1 | refine below_set ?_ GE285.out) | exact HB.out)⟩
        · replace c15 := Bool.eq_false_iff.mpr c15
          subst c15
          have H1 : ((table_Get.f l0_0 a1).bind fun bt287 => ((tallymanref10_Get.f l0_0 a1).bind fun bt289 => ((table_Set.f kj6 l0_0 a1 a2).bind fun bt291 => ((tallymanref10_Set.f kj6 l0_0 a1 a2).bind fun bt296 => (if bt287.1 = bt289.1 then (if (bt287.2 != bt289.2) = true then (tallymanlaw10_TableCalls.j1 kj6 a1 a2 l3 true l0_0) else ((tallymankit_Ints.f kj6 bt291.1 bt296.1).bind fun t301 => (if t301 = true then (tallymanlaw10_TableCalls.j1 kj6 a1 a2 l3 (bt291.2 != bt296.2) l0_0) else (tallymanlaw10_TableCalls.j1 kj6 a1 a2 l3 true l0_0)))) else (tallymanlaw10_TableCalls.j1 kj6 a1 a2 l3 true l0_0)))))) = some r := by rw [if_neg (show ¬ (false = true) by decide)] at H; exact H
          clear H
          have H := H1
          clear H1
          replace H := Option.bind_eq_some_iff.mp H
          obtain ⟨⟨t287, t288⟩, A160, H⟩ := H
          replace H : ((tallymanref10_Get.f l0_0 a1).bind fun bt289 => ((table_Set.f kj6 l0_0 a1 a2).bind fun bt291 => ((tallymanref10_Set.f kj6 l0_0 a1 a2).bind fun bt296 => (if t287 = bt289.1 then (if (t288 != bt289.2) = true then (tallymanlaw10_TableCalls.j1 kj6 a1 a2 l3 true l0_0) else ((tallymankit_Ints.f kj6 bt291.1 bt296.1).bind fun t301 => (if t301 = true then (tallymanlaw10_TableCalls.j1 kj6 a1 a2 l3 (bt291.2 != bt296.2) l0_0) else (tallymanlaw10_TableCalls.j1 kj6 a1 a2 l3 true l0_0)))) else (tallymanlaw10_TableCalls.j1 kj6 a1 a2 l3 true l0_0))))) = some r := H
          have A16 := Aside0.mk A160
          clear A160
          replace H := Option.bind_eq_some_iff.mp H
          obtain ⟨⟨t289, t290⟩, A170, H⟩ := H
          replace H : ((table_Set.f kj6 l0_0 a1 a2).bind fun bt291 => ((tallymanref10_Set.f kj6 l0_0 a1 a2).bind fun bt296 => (if t287 = t289 then (if (t288 != t290) = true then (tallymanlaw10_TableCalls.j1 kj6 a1 a2 l3 true l0_0) else ((tallymankit_Ints.f kj6 bt291.1 bt296.1).bind fun t301 => (if t301 = true then (tallymanlaw10_TableCalls.j1 kj6 a1 a2 l3 (bt291.2 != bt296.2) l0_0) else (tallymanlaw10_TableCalls.j1 kj6 a1 a2 l3 true l0_0)))) else (tallymanlaw10_TableCalls.j1 kj6 a1 a2 l3 true l0_0)))) = some r := H
          have A17 := Aside0.mk A170
          clear A170
          replace H := Option.bind_eq_some_iff.mp H
          obtain ⟨⟨t291, t294⟩, A180, H⟩ := H
          replace H : ((tallymanref10_Set.f kj6 l0_0 a1 a2).bind fun bt296 => (if t287 = t289 then (if (t288 != t290) = true then (tallymanlaw10_TableCalls.j1 kj6 a1 a2 l3 true l0_0) else ((tallymankit_Ints.f kj6 t291 bt296.1).bind fun t301 => (if t301 = true then (tallymanlaw10_TableCalls.j1 kj6 a1 a2 l3 (t294 != bt296.2) l0_0) else (tallymanlaw10_TableCalls.j1 kj6 a1 a2 l3 true l0_0)))) else (tallymanlaw10_TableCalls.j1 kj6 a1 a2 l3 true l0_0))) = some r := H
          have A18 := Aside0.mk A180
          clear A180
          replace H := Option.bind_eq_some_iff.mp H
          obtain ⟨⟨t296, t299⟩, A190, H⟩ := H
          replace H : (if t287 = t289 then (if (t288 != t290) = true then (tallymanlaw10_TableCalls.j1 kj6 a1 a2 l3 true l0_0) else ((tallymankit_Ints.f kj6 t291 t296).bind fun t301 => (if t301 = true then (tallymanlaw10_TableCalls.j1 kj6 a1 a2 l3 (t294 != t299) l0_0) else (tallymanlaw10_TableCalls.j1 kj6 a1 a2 l3 true l0_0)))) else (tallymanlaw10_TableCalls.j1 kj6 a1 a2 l3 true l0_0)) = some r := H
          have A19 := Aside0.mk A190
          clear A190
          have HC20 := Aside0.mk H
          clear H
          have hcz21_0 : wc.cell? ⟨gb285, 0, none⟩ = some (.slice A0_0 l0_0.length c0_0) := (blk_cell BK285.out 0).trans rfl
          have hfz21_0 := blk_frozen BK285.out 0
          go_upto_region 9 with (first | ((with_reducible refine gate_callee (f := 11) rfl ?_); refine goesL_ (some 39) rfl rfl Try.func11 (by kernel_rfl) rfl #[.agg #[.slice A0_0 l0_0.length c0_0], .int .i64 a1] rfl (by (try simp only [List.map_toArray, List.map_cons, List.map_nil]); first | done | rfl | (simp only [List.length_drop, List.length_take]; rfl)) ?_; (with_reducible refine (table_Get.calls _ _ l0_0 a1 t287 t288 _ ?side1 ?side2 A16.out).mono ?_); (case side1 => repeat (first | exact (Kd.C_below HR0_0.out HB.out) | (with_reducible refine Kd.C_alloc ?_ _) | (with_reducible refine Kd.C_drewN ?_ _) | (with_reducible refine Kd.C_drew ?_))); (case side2 => exact HC0_0.out); rintro e w22 ⟨rfl, hb⟩; refine ⟨_, rfl, ?_⟩; have n0_ := Aside0.mk (blk_below (g := gb285) (o := .cells #[.slice A0_0 l0_0.length c0_0] 24 (0, 0)) (by (with_reducible repeat (first | refine blk_drewN ?_ _ | refine blk_drew ?_ | refine blk_alloc ?_ _)); exact BK285.out) hb); have n1_ := Aside0.mk (below_step (by repeat (first | (with_reducible first | exact HB.out | apply below_alloc | apply pw_below_drewN | apply below_drew1 | refine below_set ?_ GE285.out) | exact HB.out)) hb); clear BK285; clear HB; have BK285 := n0_; have HB := n1_; clear n0_ n1_; (try clear hb); (try clear hb2); (try clear hk); (try clear hi); have hcz23_0 : w22.cell? ⟨gb285, 0, none⟩ = some (.slice A0_0 l0_0.length c0_0) := (blk_cell BK285.out 0).trans rfl; have hfz23_0 := blk_frozen BK285.out 0) | ((with_reducible refine gate_callee (f := 22) rfl ?_); refine goesL_ (some 45) rfl rfl Try.func22 (by kernel_rfl) rfl #[.agg #[.slice A0_0 l0_0.length c0_0], .int .i64 a1] rfl (by (try simp only [List.map_toArray, List.map_cons, List.map_nil]); first | done | rfl | (simp only [List.length_drop, List.length_take]; rfl)) ?_; (with_reducible refine (tallymanref10_Get.calls _ _ l0_0 a1 t289 t290 _ ?side1 ?side2 A17.out).mono ?_); (case side1 => repeat (first | exact (Kd.C_below HR0_0.out HB.out) | (with_reducible refine Kd.C_alloc ?_ _) | (with_reducible refine Kd.C_drewN ?_ _) | (with_reducible refine Kd.C_drew ?_))); (case side2 => exact HC0_0.out); rintro e w24 ⟨rfl, hb⟩; refine ⟨_, rfl, ?_⟩; have n0_ := Aside0.mk (blk_below (g := gb285) (o := .cells #[.slice A0_0 l0_0.length c0_0] 24 (0, 0)) (by (with_reducible repeat (first | refine blk_drewN ?_ _ | refine blk_drew ?_ | refine blk_alloc ?_ _)); exact BK285.out) hb); have n1_ := Aside0.mk (below_step (by repeat (first | (with_reducible first | exact HB.out | apply below_alloc | apply pw_below_drewN | apply below_drew1 | refine below_set ?_ GE285.out) | exact HB.out)) hb); clear BK285; clear HB; have BK285 := n0_; have HB := n1_; clear n0_ n1_; (try clear hb); (try clear hb2); (try clear hk); (try clear hi); have hcz25_0 : w24.cell? ⟨gb285, 0, none⟩ = some (.slice A0_0 l0_0.length c0_0) := (blk_cell BK285.out 0).trans rfl; have hfz25_0 := blk_frozen BK285.out 0) | ((with_reducible refine gate_callee (f := 16) rfl ?_); refine goesL_ (some 52) rfl rfl Try.func16 (by kernel_rfl) rfl #[.agg #[.slice A0_0 l0_0.length c0_0], .int .i64 a1, .int .i64 a2] rfl (by (try simp only [List.map_toArray, List.map_cons, List.map_nil]); first | done | rfl | (simp only [List.length_drop, List.length_take]; rfl)) ?_; (with_reducible refine (table_Set.calls kj6 _ _ l0_0 a1 a2 t291 t294 _ ?side1 ?side2 A18.out).mono ?_); (case side1 => repeat (first | exact (Kd.C_below HR0_0.out HB.out) | (with_reducible refine Kd.C_alloc ?_ _) | (with_reducible refine Kd.C_drewN ?_ _) | (with_reducible refine Kd.C_drew ?_))); (case side2 => exact HC0_0.out); rintro e w26 ⟨v292, rfl, ho0, hb⟩; refine ⟨_, rfl, ?_⟩; have n0_ := Aside0.mk (Kd.V_lower (Kd.V_mono (ok' := fun k_ => k_ ≠ gb285) ho0 (fun k_ hk_ => (Kd.freshB (g := gb285) (o := .cells #[.slice A0_0 l0_0.length c0_0] 24 (0, 0)) (by (with_reducible repeat (first | refine blk_drewN ?_ _ | refine blk_drew ?_ | refine blk_alloc ?_ _)); exact BK285.out) k_ hk_))) (below_size (by repeat (first | (with_reducible first | exact HB.out | apply below_alloc | apply pw_below_drewN | apply below_drew1 | refine below_set ?_ GE285.out) | exact HB.out)))); have n1_ := Aside0.mk (blk_below (g := gb285) (o := .cells #[.slice A0_0 l0_0.length c0_0] 24 (0, 0)) (by (with_reducible repeat (first | refine blk_drewN ?_ _ | refine blk_drew ?_ | refine blk_alloc ?_ _)); exact BK285.out) hb); have n2_ := Aside0.mk (below_step (by repeat (first | (with_reducible first | exact HB.out | apply below_alloc | apply pw_below_drewN | apply below_drew1 | refine below_set ?_ GE285.out) | exact HB.out)) hb); clear BK285; clear HB; have HO293 := n0_; have BK285 := n1_; have HB := n2_; clear n0_ n1_ n2_; (try clear hb); (try clear hb2); (try clear hk); (try clear hi); (try clear ho0)) | ((with_reducible refine gate_dst (N := 13) rfl ?_); (try (refine gate_guard (by rfl) ?_; dsimp only)); refine box_event ?hg (N := 13) ?hd (cs := #[.slice none 0 0]) (t := 24) ?hr ?_; (case hd => rfl); (case hg => rfl); (case hr => first | (go_simp; done) | (go_simp; rfl)); intro gb295 hg w27 hbox hb; have n0_ := Aside0.mk (Kd.V_below (Kd.V_elderB (by (with_reducible repeat (first | apply Kd.V_alloc | apply Kd.V_drewN | apply Kd.V_drew)); exact HO293.out) gb295 (Nat.le_of_eq hg.symm)) hb); have n1_ := Aside0.mk (blk_below (g := gb285) (o := .cells #[.slice A0_0 l0_0.length c0_0] 24 (0, 0)) (by (with_reducible repeat (first | refine blk_drewN ?_ _ | refine blk_drew ?_ | refine blk_alloc ?_ _)); exact BK285.out) hb); have n2_ := Aside0.mk (below_step (by repeat (first | (with_reducible first | exact HB.out | apply below_alloc | apply pw_below_drewN | apply below_drew1 | refine below_set ?_ GE285.out) | exact HB.out)) hb); have n3_ := Aside0.mk (hbox); have n4_ := Aside0.mk ((by rw [hg]; exact (below_size (by repeat (first | (with_reducible first | exact HB.out | apply below_alloc | apply pw_below_drewN | apply below_drew1 | refine below_set ?_ GE285.out) | exact HB.out))) : w.heap.size ≤ gb295)); have n5_ := Aside0.mk ((by rw [hg]; exact (below_size (by repeat (first | (with_reducible first | exact HB.out | apply below_alloc | apply pw_below_drewN | apply below_drew1 | refine below_set ?_ GE285.out) | exact HB.out))) : w.heap.size ≤ gb295)); have n6_ := Aside0.mk ((by rw [hg]; exact Nat.ne_of_lt (blk_lt (g := gb285) (o := .cells #[.slice A0_0 l0_0.length c0_0] 24 (0, 0)) (by (with_reducible repeat (first | refine blk_drewN ?_ _ | refine blk_drew ?_ | refine blk_alloc ?_ _)); exact BK285.out)) : gb285 ≠ gb295)); have n7_ := Aside0.mk ((by rw [hg]; exact Nat.ne_of_gt (blk_lt (g := gb285) (o := .cells #[.slice A0_0 l0_0.length c0_0] 24 (0, 0)) (by (with_reducible repeat (first | refine blk_drewN ?_ _ | refine blk_drew ?_ | refine blk_alloc ?_ _)); exact BK285.out)) : gb295 ≠ gb285)); clear HO293; clear BK285; clear HB; have HO293 := n0_; have BK285 := n1_; have HB := n2_; have BK295 := n3_; have GW295 := n4_; have GE295 := n5_; have NB285_295 := n6_; have NB295_285 := n7_; clear n0_ n1_ n2_ n3_ n4_ n5_ n6_ n7_; clear hb hbox hg; obtain ⟨Ao28, co28, eo28⟩ := Kd.V_slice HO293.out; subst eo28; have hnb29 := NB295_285.out; have hnc29 := NB285_295.out; have hcz30_0 : w27.cell? ⟨gb295, 0, none⟩ = some (.slice none 0 0) := (blk_cell BK295.out 0).trans rfl; have hfz30_0 := blk_frozen BK295.out 0; have hcz31_0 : w27.cell? ⟨gb285, 0, none⟩ = some (.slice A0_0 l0_0.length c0_0) := (blk_cell BK285.out 0).trans rfl; have hfz31_0 := blk_frozen BK285.out 0) | ((with_reducible refine gate_callee (f := 23) rfl ?_); refine goesL_ (some 59) rfl rfl Try.func23 (by kernel_rfl) rfl #[.agg #[.slice A0_0 l0_0.length c0_0], .int .i64 a1, .int .i64 a2] rfl (by (try simp only [List.map_toArray, List.map_cons, List.map_nil]); first | done | rfl | (simp only [List.length_drop, List.length_take]; rfl)) ?_; (with_reducible refine (tallymanref10_Set.calls kj6 _ _ l0_0 a1 a2 t296 t299 _ ?side1 ?side2 A19.out).mono ?_); (case side1 => exact Kd.C_below HR0_0.out (by repeat (first | (with_reducible first | exact HB.out | apply below_alloc | apply pw_below_drewN | apply below_drew1 | refine below_set ?_ GE285.out | refine below_set ?_ GE295.out) | exact HB.out))); (case side2 => exact HC0_0.out); rintro e w32 ⟨v297, rfl, ho0, hb⟩; refine ⟨_, rfl, ?_⟩; have n0_ := Aside0.mk (Kd.V_below (by (with_reducible repeat (first | apply Kd.V_alloc | apply Kd.V_drewN | apply Kd.V_drew)); exact (Kd.V_mono (Kd.V_far (p := ⟨gb295, 0, none⟩) (Kd.V_mono HO293.out (fun k_ hk => (⟨hk, hk.2⟩ : _ ∧ k_ ≠ gb295))) (fun _ hk => hk.2) (.slice Ao28 t291.length co28)) (fun _ h_ => h_.1))) hb); have n1_ := Aside0.mk (Kd.V_lower (Kd.V_mono (ok' := fun k_ => k_ ≠ gb285 ∧ k_ ≠ gb295) ho0 (fun k_ hk_ => ⟨(Kd.freshB (g := gb285) (o := .cells #[.slice A0_0 l0_0.length c0_0] 24 (0, 0)) (by (with_reducible repeat (first | refine blk_drewN ?_ _ | refine blk_drew ?_ | refine blk_alloc ?_ _)); refine blk_far ?_ NB285_295.out _; (with_reducible repeat (first | refine blk_drewN ?_ _ | refine blk_drew ?_ | refine blk_alloc ?_ _)); exact BK285.out) k_ hk_), (Kd.freshB (g := gb295) (o := .cells #[.slice Ao28 t291.length co28] 24 (0, 0)) (by (with_reducible repeat (first | refine blk_drewN ?_ _ | refine blk_drew ?_ | refine blk_alloc ?_ _)); refine blk_put (cs := #[.slice none 0 0]) ?_ 0 _ rfl; (with_reducible repeat (first | refine blk_drewN ?_ _ | refine blk_drew ?_ | refine blk_alloc ?_ _)); exact BK295.out) k_ hk_)⟩)) (below_size (by repeat (first | (with_reducible first | exact HB.out | apply below_alloc | apply pw_below_drewN | apply below_drew1 | refine below_set ?_ GE285.out | refine below_set ?_ GE295.out) | exact HB.out)))); have n2_ := Aside0.mk (blk_below (g := gb285) (o := .cells #[.slice A0_0 l0_0.length c0_0] 24 (0, 0)) (by (with_reducible repeat (first | refine blk_drewN ?_ _ | refine blk_drew ?_ | refine blk_alloc ?_ _)); refine blk_far ?_ NB285_295.out _; (with_reducible repeat (first | refine blk_drewN ?_ _ | refine blk_drew ?_ | refine blk_alloc ?_ _)); exact BK285.out) hb); have n3_ := Aside0.mk (blk_below (g := gb295) (o := .cells #[.slice Ao28 t291.length co28] 24 (0, 0)) (by (with_reducible repeat (first | refine blk_drewN ?_ _ | refine blk_drew ?_ | refine blk_alloc ?_ _)); refine blk_put (cs := #[.slice none 0 0]) ?_ 0 _ rfl; (with_reducible repeat (first | refine blk_drewN ?_ _ | refine blk_drew ?_ | refine blk_alloc ?_ _)); exact BK295.out) hb); have n4_ := Aside0.mk (below_step (by repeat (first | (with_reducible first | exact HB.out | apply below_alloc | apply pw_below_drewN | apply below_drew1 | refine below_set ?_ GE285.out | refine below_set ?_ GE295.out) | exact HB.out)) hb); clear HO293; clear BK285; clear BK295; clear HB; have HO293 := n0_; have HO298 := n1_; have BK285 := n2_; have BK295 := n3_; have HB := n4_; clear n0_ n1_ n2_ n3_ n4_; (try clear hb); (try clear hb2); (try clear hk); (try clear hi); (try clear ho0)) | ((with_reducible refine gate_dst (N := 15) rfl ?_); (try (refine gate_guard (by rfl) ?_; dsimp only)); refine box_event ?hg (N := 15) ?hd (cs := #[.slice none 0 0]) (t := 24) ?hr ?_; (case hd => rfl); (case hg => rfl); (case hr => first | (go_simp; done) | (go_simp; rfl)); intro gb300 hg w33 hbox hb; have n0_ := Aside0.mk (Kd.V_below (Kd.V_elderB (by (with_reducible repeat (first | apply Kd.V_alloc | apply Kd.V_drewN | apply Kd.V_drew)); exact HO293.out) gb300 (Nat.le_of_eq hg.symm)) hb); have n1_ := Aside0.mk (Kd.V_below (Kd.V_elderB (by (with_reducible repeat (first | apply Kd.V_alloc | apply Kd.V_drewN | apply Kd.V_drew)); exact HO298.out) gb300 (Nat.le_of_eq hg.symm)) hb); have n2_ := Aside0.mk (blk_below (g := gb285) (o := .cells #[.slice A0_0 l0_0.length c0_0] 24 (0, 0)) (by (with_reducible repeat (first | refine blk_drewN ?_ _ | refine blk_drew ?_ | refine blk_alloc ?_ _)); exact BK285.out) hb); have n3_ := Aside0.mk (blk_below (g := gb295) (o := .cells #[.slice Ao28 t291.length co28] 24 (0, 0)) (by (with_reducible repeat (first | refine blk_drewN ?_ _ | refine blk_drew ?_ | refine blk_alloc ?_ _)); exact BK295.out) hb); have n4_ := Aside0.mk (below_step (by repeat (first | (with_reducible first | exact HB.out | apply below_alloc | apply pw_below_drewN | apply below_drew1 | refine below_set ?_ GE285.out | refine below_set ?_ GE295.out) | exact HB.out)) hb); have n5_ := Aside0.mk (hbox); have n6_ := Aside0.mk ((by rw [hg]; exact (below_size (by repeat (first | (with_reducible first | exact HB.out | apply below_alloc | apply pw_below_drewN | apply below_drew1 | refine below_set ?_ GE285.out | refine below_set ?_ GE295.out) | exact HB.out))) : w.heap.size ≤ gb300)); have n7_ := Aside0.mk ((by rw [hg]; exact (below_size (by repeat (first | (with_reducible first | exact HB.out | apply below_alloc | apply pw_below_drewN | apply below_drew1 | refine below_set ?_ GE285.out | refine below_set ?_ GE295.out) | exact HB.out))) : w.heap.size ≤ gb300)); have n8_ := Aside0.mk ((by rw [hg]; exact Nat.ne_of_lt (blk_lt (g := gb285) (o := .cells #[.slice A0_0 l0_0.length c0_0] 24 (0, 0)) (by (with_reducible repeat (first | refine blk_drewN ?_ _ | refine blk_drew ?_ | refine blk_alloc ?_ _)); exact BK285.out)) : gb285 ≠ gb300)); have n9_ := Aside0.mk ((by rw [hg]; exact Nat.ne_of_gt (blk_lt (g := gb285) (o := .cells #[.slice A0_0 l0_0.length c0_0] 24 (0, 0)) (by (with_reducible repeat (first | refine blk_drewN ?_ _ | refine blk_drew ?_ | refine blk_alloc ?_ _)); exact BK285.out)) : gb300 ≠ gb285)); have n10_ := Aside0.mk ((by rw [hg]; exact Nat.ne_of_lt (blk_lt (g := gb295) (o := .cells #[.slice Ao28 t291.length co28] 24 (0, 0)) (by (with_reducible repeat (first | refine blk_drewN ?_ _ | refine blk_drew ?_ | refine blk_alloc ?_ _)); exact BK295.out)) : gb295 ≠ gb300)); have n11_ := Aside0.mk ((by rw [hg]; exact Nat.ne_of_gt (blk_lt (g := gb295) (o := .cells #[.slice Ao28 t291.length co28] 24 (0, 0)) (by (with_reducible repeat (first | refine blk_drewN ?_ _ | refine blk_drew ?_ | refine blk_alloc ?_ _)); exact BK295.out)) : gb300 ≠ gb295)); clear HO293; clear HO298; clear BK285; clear BK295; clear HB; have HO293 := n0_; have HO298 := n1_; have BK285 := n2_; have BK295 := n3_; have HB := n4_; have BK300 := n5_; have GW300 := n6_; have GE300 := n7_; have NB285_300 := n8_; have NB300_285 := n9_; have NB295_300 := n10_; have NB300_295 := n11_; clear n0_ n1_ n2_ n3_ n4_ n5_ n6_ n7_ n8_ n9_ n10_ n11_; clear hb hbox hg; obtain ⟨Ao34, co34, eo34⟩ := Kd.V_slice HO298.out; subst eo34; have hnb35 := NB300_285.out; have hnc35 := NB285_300.out; have hnb36 := NB300_295.out; have hnc36 := NB295_300.out; have hcz37_0 : w33.cell? ⟨gb300, 0, none⟩ = some (.slice none 0 0) := (blk_cell BK300.out 0).trans rfl; have hfz37_0 := blk_frozen BK300.out 0))
          (try simp only [Act.put, List.setIfInBounds_toArray, List.set_cons_zero, List.set_cons_succ])
          go_cut [82] (fun v82 wc => ∃ (kq : Nat) (x82_19 : Bool), v82 = .bool x82_19 ∧ Aside0 (tallymanlaw10_TableCalls.j1 kq a1 a2 l3 x82_19 l0_0 = some r) ∧ Aside0 (kq ≤ kj6) ∧ Aside0 (Kd.V (Kd.int .i64) 3 wc w.heap.size (fun k_ => k_ ≠ gb285 ∧ k_ ≠ gb295 ∧ k_ ≠ gb300) (.slice Ao28 t291.length co28) t291) ∧ Aside0 (Kd.V (Kd.int .i64) 3 wc w.heap.size (fun k_ => k_ ≠ gb285 ∧ k_ ≠ gb295 ∧ k_ ≠ gb300) (.slice Ao34 t296.length co34) t296) ∧ Aside0 (wc.heap[gb285]? = some (.cells #[(.slice A0_0 l0_0.length c0_0)] 24 (0, 0))) ∧ Aside0 (wc.heap[gb295]? = some (.cells #[(.slice Ao28 t291.length co28)] 24 (0, 0))) ∧ Aside0 (wc.heap[gb300]? = some (.cells #[(.slice Ao34 t296.length co34)] 24 (0, 0))) ∧ Aside0 (Below w.heap.size w wc))
          case first =>
            have H := HC20.out
            clear HC20
            by_cases c38 : t287 = t289
            · rw [if_pos c38] at H
              have c38b0 : (t287 == t289) = true := beq_iff_eq.mpr c38
              have c38b1 : (t287 != t289) = false := bne_eq_false_iff_eq.mpr c38
              clear c38
              (first | rw [c38b0] | (simp only [i64_w, i32_w]; rw [c38b0]) | skip)
              by_cases c39 : (t288 != t290) = true
              · rw [if_pos c39] at H
                have c39b0 : (t288 != t290) = true := c39
                (try (have c39b1 : decide (t288 = t290) = false := by simpa using c39))
                (try (have c39b2 : (t288 == t290) = false := by simpa using c39))
                (try (have c39b3 : ¬ (t288 = t290) := by simpa using c39))
                clear c39
                have H' := Aside0.mk H
                clear H
                go_wp2
                go_meet
                case rel => exact ⟨_, (true), (by first | rfl | (simp; done) | (simp [*]; done)), H', ⟨by have := HJ6.out; first | omega | exact Nat.le_refl _⟩, ⟨by (with_reducible repeat (first | apply Kd.V_alloc | apply Kd.V_drewN | apply Kd.V_drew)); exact Kd.V_mono (Kd.V_far (p := ⟨gb300, 0, none⟩) (Kd.V_mono HO293.out (fun k_ hk => (⟨hk, hk.2⟩ : _ ∧ k_ ≠ gb300))) (fun _ hk => hk.2) (.slice Ao34 t296.length co34)) (fun _ hk => ⟨hk.1.1.1, ⟨hk.1.1.2, hk.1.2⟩⟩)⟩, ⟨by (with_reducible repeat (first | apply Kd.V_alloc | apply Kd.V_drewN | apply Kd.V_drew)); exact Kd.V_mono (Kd.V_far (p := ⟨gb300, 0, none⟩) (Kd.V_mono HO298.out (fun k_ hk => (⟨hk, hk.2⟩ : _ ∧ k_ ≠ gb300))) (fun _ hk => hk.2) (.slice Ao34 t296.length co34)) (fun _ hk => ⟨hk.1.1.1, ⟨hk.1.1.2, hk.1.2⟩⟩)⟩, ⟨by (with_reducible repeat (first | refine blk_drewN ?_ _ | refine blk_drew ?_ | refine blk_alloc ?_ _)); refine blk_far ?_ NB285_300.out _; (with_reducible repeat (first | refine blk_drewN ?_ _ | refine blk_drew ?_ | refine blk_alloc ?_ _)); exact BK285.out⟩, ⟨by (with_reducible repeat (first | refine blk_drewN ?_ _ | refine blk_drew ?_ | refine blk_alloc ?_ _)); refine blk_far ?_ NB295_300.out _; (with_reducible repeat (first | refine blk_drewN ?_ _ | refine blk_drew ?_ | refine blk_alloc ?_ _)); exact BK295.out⟩, ⟨by (with_reducible repeat (first | refine blk_drewN ?_ _ | refine blk_drew ?_ | refine blk_alloc ?_ _)); refine blk_put (cs := #[.slice none 0 0]) ?_ 0 _ rfl; (with_reducible repeat (first | refine blk_drewN ?_ _ | refine blk_drew ?_ | refine blk_alloc ?_ _)); exact BK300.out⟩, ⟨by repeat (first | (with_reducible first | exact HB.out | apply below_alloc | apply pw_below_drewN | apply below_drew1 | refine below_set ?_ GE285.out | refine below_set ?_ GE295.out | refine below_set ?_ GE300.out) | exact HB.out)⟩⟩
              · rw [if_neg c39] at H
                have c39b0 : (t288 != t290) = false := by simpa using c39
                (try (have c39b1 : decide (t288 = t290) = true := by simpa using c39))
                (try (have c39b2 : (t288 == t290) = true := by simpa using c39))
                clear c39
                replace H := Option.bind_eq_some_iff.mp H
                obtain ⟨t301, A400, H⟩ := H
                replace H : (if t301 = true then (tallymanlaw10_TableCalls.j1 kj6 a1 a2 l3 (t294 != t299) l0_0) else (tallymanlaw10_TableCalls.j1 kj6 a1 a2 l3 true l0_0)) = some r := H
                have A40 := Aside0.mk A400
                clear A400
                by_cases c41 : t301 = true
                · subst c41
                  have H1 : (tallymanlaw10_TableCalls.j1 kj6 a1 a2 l3 (t294 != t299) l0_0) = some r := by rw [if_pos rfl] at H; exact H
                  clear H
                  have H := H1
                  clear H1
                  have H' := Aside0.mk H
                  clear H
                  have hnb42 := NB295_285.out
                  have hnc42 := NB285_295.out
                  have hnb43 := NB295_300.out
                  have hnc43 := NB300_295.out
                  have hcz44_0 : w33.cell? ⟨gb295, 0, none⟩ = some (.slice Ao28 t291.length co28) := (blk_cell BK295.out 0).trans rfl
                  have hfz44_0 := blk_frozen BK295.out 0
                  have hnb45 := NB300_285.out
                  have hnc45 := NB285_300.out
                  have hcz46_0 : w33.cell? ⟨gb300, 0, none⟩ = some (.slice none 0 0) := (blk_cell BK300.out 0).trans rfl
                  have hfz46_0 := blk_frozen BK300.out 0
                  go_wp2_with (first | (go_at_call 18; (with_reducible refine (tallymankit_Ints.calls kj6 _ _ t291 _ _ t296 true _ ?side1 ?side2 ?side3 ?side4 A40.out).mono ?_); (case side1 => refine (Kd.V_reads' (e := 3) (base := w.heap.size) (ok := fun k_ => ((k_ ≠ gb285 ∧ k_ ≠ gb295) ∧ k_ ≠ gb300)) (n := t291.length) (c := co28) ?_).2.2; exact (by (with_reducible repeat (first | apply Kd.V_alloc | apply Kd.V_drewN | apply Kd.V_drew)); exact (Kd.V_mono (Kd.V_far (p := ⟨gb300, 0, none⟩) (Kd.V_mono HO293.out (fun k_ hk => (⟨hk, hk.2⟩ : _ ∧ k_ ≠ gb300))) (fun _ hk => hk.2) (.slice Ao34 t296.length co34)) (fun _ h_ => h_.1)))); (case side2 => exact (Kd.V_reads' HO293.out).2.1); (case side3 => refine (Kd.V_reads' (e := 3) (base := w.heap.size) (ok := fun k_ => ((k_ ≠ gb285 ∧ k_ ≠ gb295) ∧ k_ ≠ gb300)) (n := t296.length) (c := co34) ?_).2.2; exact (by (with_reducible repeat (first | apply Kd.V_alloc | apply Kd.V_drewN | apply Kd.V_drew)); exact (Kd.V_mono (Kd.V_far (p := ⟨gb300, 0, none⟩) (Kd.V_mono HO298.out (fun k_ hk => (⟨hk, hk.2⟩ : _ ∧ k_ ≠ gb300))) (fun _ hk => hk.2) (.slice Ao34 t296.length co34)) (fun _ h_ => h_.1)))); (case side4 => exact (Kd.V_reads' HO298.out).2.1); rintro e w' ⟨rfl, ⟨nd, rfl⟩⟩))
                  go_meet
                  case rel => exact ⟨_, ((t294 != t299)), (by first | rfl | (simp; done) | (simp [*]; done)), H', ⟨by have := HJ6.out; first | omega | exact Nat.le_refl _⟩, ⟨by (with_reducible repeat (first | apply Kd.V_alloc | apply Kd.V_drewN | apply Kd.V_drew)); exact Kd.V_mono (Kd.V_far (p := ⟨gb300, 0, none⟩) (Kd.V_mono HO293.out (fun k_ hk => (⟨hk, hk.2⟩ : _ ∧ k_ ≠ gb300))) (fun _ hk => hk.2) (.slice Ao34 t296.length co34)) (fun _ hk => ⟨hk.1.1.1, ⟨hk.1.1.2, hk.1.2⟩⟩)⟩, ⟨by (with_reducible repeat (first | apply Kd.V_alloc | apply Kd.V_drewN | apply Kd.V_drew)); exact Kd.V_mono (Kd.V_far (p := ⟨gb300, 0, none⟩) (Kd.V_mono HO298.out (fun k_ hk => (⟨hk, hk.2⟩ : _ ∧ k_ ≠ gb300))) (fun _ hk => hk.2) (.slice Ao34 t296.length co34)) (fun _ hk => ⟨hk.1.1.1, ⟨hk.1.1.2, hk.1.2⟩⟩)⟩, ⟨by (with_reducible repeat (first | refine blk_drewN ?_ _ | refine blk_drew ?_ | refine blk_alloc ?_ _)); refine blk_far ?_ NB285_300.out _; (with_reducible repeat (first | refine blk_drewN ?_ _ | refine blk_drew ?_ | refine blk_alloc ?_ _)); exact BK285.out⟩, ⟨by (with_reducible repeat (first | refine blk_drewN ?_ _ | refine blk_drew ?_ | refine blk_alloc ?_ _)); refine blk_far ?_ NB295_300.out _; (with_reducible repeat (first | refine blk_drewN ?_ _ | refine blk_drew ?_ | refine blk_alloc ?_ _)); exact BK295.out⟩, ⟨by (with_reducible repeat (first | refine blk_drewN ?_ _ | refine blk_drew ?_ | refine blk_alloc ?_ _)); refine blk_put (cs := #[.slice none 0 0]) ?_ 0 _ rfl; (with_reducible repeat (first | refine blk_drewN ?_ _ | refine blk_drew ?_ | refine blk_alloc ?_ _)); exact BK300.out⟩, ⟨by repeat (first | (with_reducible first | exact HB.out | apply below_alloc | apply pw_below_drewN | apply below_drew1 | refine below_set ?_ GE285.out | refine below_set ?_ GE295.out | refine below_set ?_ GE300.out) | exact HB.out)⟩⟩
                · replace c41 := Bool.eq_false_iff.mpr c41
                  subst c41
                  have H1 : (tallymanlaw10_TableCalls.j1 kj6 a1 a2 l3 true l0_0) = some r := by rw [if_neg (show ¬ (false = true) by decide)] at H; exact H
                  clear H
                  have H := H1
                  clear H1
                  have H' := Aside0.mk H
                  clear H
                  have hnb47 := NB295_285.out
                  have hnc47 := NB285_295.out
                  have hnb48 := NB295_300.out
                  have hnc48 := NB300_295.out
                  have hcz49_0 : w33.cell? ⟨gb295, 0, none⟩ = some (.slice Ao28 t291.length co28) := (blk_cell BK295.out 0).trans rfl
                  have hfz49_0 := blk_frozen BK295.out 0
                  have hnb50 := NB300_285.out
                  have hnc50 := NB285_300.out
                  have hcz51_0 : w33.cell? ⟨gb300, 0, none⟩ = some (.slice none 0 0) := (blk_cell BK300.out 0).trans rfl
                  have hfz51_0 := blk_frozen BK300.out 0
                  go_wp2_with (first | (go_at_call 18; (with_reducible refine (tallymankit_Ints.calls kj6 _ _ t291 _ _ t296 false _ ?side1 ?side2 ?side3 ?side4 A40.out).mono ?_); (case side1 => refine (Kd.V_reads' (e := 3) (base := w.heap.size) (ok := fun k_ => ((k_ ≠ gb285 ∧ k_ ≠ gb295) ∧ k_ ≠ gb300)) (n := t291.length) (c := co28) ?_).2.2; exact (by (with_reducible repeat (first | apply Kd.V_alloc | apply Kd.V_drewN | apply Kd.V_drew)); exact (Kd.V_mono (Kd.V_far (p := ⟨gb300, 0, none⟩) (Kd.V_mono HO293.out (fun k_ hk => (⟨hk, hk.2⟩ : _ ∧ k_ ≠ gb300))) (fun _ hk => hk.2) (.slice Ao34 t296.length co34)) (fun _ h_ => h_.1)))); (case side2 => exact (Kd.V_reads' HO293.out).2.1); (case side3 => refine (Kd.V_reads' (e := 3) (base := w.heap.size) (ok := fun k_ => ((k_ ≠ gb285 ∧ k_ ≠ gb295) ∧ k_ ≠ gb300)) (n := t296.length) (c := co34) ?_).2.2; exact (by (with_reducible repeat (first | apply Kd.V_alloc | apply Kd.V_drewN | apply Kd.V_drew)); exact (Kd.V_mono (Kd.V_far (p := ⟨gb300, 0, none⟩) (Kd.V_mono HO298.out (fun k_ hk => (⟨hk, hk.2⟩ : _ ∧ k_ ≠ gb300))) (fun _ hk => hk.2) (.slice Ao34 t296.length co34)) (fun _ h_ => h_.1)))); (case side4 => exact (Kd.V_reads' HO298.out).2.1); rintro e w' ⟨rfl, ⟨nd, rfl⟩⟩))
                  go_meet
                  case rel => exact ⟨_, (true), (by first | rfl | (simp; done) | (simp [*]; done)), H', ⟨by have := HJ6.out; first | omega | exact Nat.le_refl _⟩, ⟨by (with_reducible repeat (first | apply Kd.V_alloc | apply Kd.V_drewN | apply Kd.V_drew)); exact Kd.V_mono (Kd.V_far (p := ⟨gb300, 0, none⟩) (Kd.V_mono HO293.out (fun k_ hk => (⟨hk, hk.2⟩ : _ ∧ k_ ≠ gb300))) (fun _ hk => hk.2) (.slice Ao34 t296.length co34)) (fun _ hk => ⟨hk.1.1.1, ⟨hk.1.1.2, hk.1.2⟩⟩)⟩, ⟨by (with_reducible repeat (first | apply Kd.V_alloc | apply Kd.V_drewN | apply Kd.V_drew)); exact Kd.V_mono (Kd.V_far (p := ⟨gb300, 0, none⟩) (Kd.V_mono HO298.out (fun k_ hk => (⟨hk, hk.2⟩ : _ ∧ k_ ≠ gb300))) (fun _ hk => hk.2) (.slice Ao34 t296.length co34)) (fun _ hk => ⟨hk.1.1.1, ⟨hk.1.1.2, hk.1.2⟩⟩)⟩, ⟨by (with_reducible repeat (first | refine blk_drewN ?_ _ | refine blk_drew ?_ | refine blk_alloc ?_ _)); refine blk_far ?_ NB285_300.out _; (with_reducible repeat (first | refine blk_drewN ?_ _ | refine blk_drew ?_ | refine blk_alloc ?_ _)); exact BK285.out⟩, ⟨by (with_reducible repeat (first | refine blk_drewN ?_ _ | refine blk_drew ?_ | refine blk_alloc ?_ _)); refine blk_far ?_ NB295_300.out _; (with_reducible repeat (first | refine blk_drewN ?_ _ | refine blk_drew ?_ | refine blk_alloc ?_ _)); exact BK295.out⟩, ⟨by (with_reducible repeat (first | refine blk_drewN ?_ _ | refine blk_drew ?_ | refine blk_alloc ?_ _)); refine blk_put (cs := #[.slice none 0 0]) ?_ 0 _ rfl; (with_reducible repeat (first | refine blk_drewN ?_ _ | refine blk_drew ?_ | refine blk_alloc ?_ _)); exact BK300.out⟩, ⟨by repeat (first | (with_reducible first | exact HB.out | apply below_alloc | apply pw_below_drewN | apply below_drew1 | refine below_set ?_ GE285.out | refine below_set ?_ GE295.out | refine below_set ?_ GE300.out) | exact HB.out)⟩⟩
            · rw [if_neg c38] at H
              have c38b0 : (t287 == t289) = false := beq_eq_false_iff_ne.mpr c38
              have c38b1 : (t287 != t289) = true := bne_iff_ne.mpr c38
              (first | rw [c38b0] | (simp only [i64_w, i32_w]; rw [c38b0]) | skip)
              have H' := Aside0.mk H
              clear H
              go_wp2
              go_meet
              case rel => exact ⟨_, (true), (by first | rfl | (simp; done) | (simp [*]; done)), H', ⟨by have := HJ6.out; first | omega | exact Nat.le_refl _⟩, ⟨by (with_reducible repeat (first | apply Kd.V_alloc | apply Kd.V_drewN | apply Kd.V_drew)); exact Kd.V_mono (Kd.V_far (p := ⟨gb300, 0, none⟩) (Kd.V_mono HO293.out (fun k_ hk => (⟨hk, hk.2⟩ : _ ∧ k_ ≠ gb300))) (fun _ hk => hk.2) (.slice Ao34 t296.length co34)) (fun _ hk => ⟨hk.1.1.1, ⟨hk.1.1.2, hk.1.2⟩⟩)⟩, ⟨by (with_reducible repeat (first | apply Kd.V_alloc | apply Kd.V_drewN | apply Kd.V_drew)); exact Kd.V_mono (Kd.V_far (p := ⟨gb300, 0, none⟩) (Kd.V_mono HO298.out (fun k_ hk => (⟨hk, hk.2⟩ : _ ∧ k_ ≠ gb300))) (fun _ hk => hk.2) (.slice Ao34 t296.length co34)) (fun _ hk => ⟨hk.1.1.1, ⟨hk.1.1.2, hk.1.2⟩⟩)⟩, ⟨by (with_reducible repeat (first | refine blk_drewN ?_ _ | refine blk_drew ?_ | refine blk_alloc ?_ _)); refine blk_far ?_ NB285_300.out _; (with_reducible repeat (first | refine blk_drewN ?_ _ | refine blk_drew ?_ | refine blk_alloc ?_ _)); exact BK285.out⟩, ⟨by (with_reducible repeat (first | refine blk_drewN ?_ _ | refine blk_drew ?_ | refine blk_alloc ?_ _)); refine blk_far ?_ NB295_300.out _; (with_reducible repeat (first | refine blk_drewN ?_ _ | refine blk_drew ?_ | refine blk_alloc ?_ _)); exact BK295.out⟩, ⟨by (with_reducible repeat (first | refine blk_drewN ?_ _ | refine blk_drew ?_ | refine blk_alloc ?_ _)); refine blk_put (cs := #[.slice none 0 0]) ?_ 0 _ rfl; (with_reducible repeat (first | refine blk_drewN ?_ _ | refine blk_drew ?_ | refine blk_alloc ?_ _)); exact BK300.out⟩, ⟨by repeat (first | (with_reducible first | exact HB.out | apply below_alloc | apply pw_below_drewN | apply below_drew1 | refine below_set ?_ GE285.out | refine below_set ?_ GE295.out | refine below_set ?_ GE300.out) | exact HB.out)⟩⟩
          case rest =>
            clear HC20
            try clear c1
            try clear c2
            try clear p2
            try clear c3
            try clear c4
            try clear c5
            try clear c6
            try clear c8
            try clear c10
            try clear c10b0
            try clear c10b1
            try clear c11
            try clear c12
            try clear c12b0
            try clear c12b1
            try clear c15
            try clear c16
            try clear c22
            try clear c23
            try clear c29
            try clear c35
            try clear c36
            try clear c38
            try clear c38b0
            try clear c38b1
            try clear c39
            try clear c39b0
            try clear c39b1
            try clear c39b2
            try clear c41
            try clear c42
            try clear c43
            try clear c45
            try clear c47
            try clear c48
            try clear c50
            try clear hcz11_0
            try clear hcz13_0
            try clear hcz14_0
            try clear hcz21_0
            try clear hcz23_0
            try clear hcz25_0
            try clear hcz30_0
            try clear hcz31_0
            try clear hcz37_0
            try clear hcz44_0
            try clear hcz46_0
            try clear hcz49_0
            try clear hcz51_0
            try clear hfz11_0
            try clear hfz13_0
            try clear hfz14_0
            try clear hfz21_0
            try clear hfz23_0
            try clear hfz25_0
            try clear hfz30_0
            try clear hfz31_0
            try clear hfz37_0
            try clear hfz44_0
            try clear hfz46_0
            try clear hfz49_0
            try clear hfz51_0
            try clear p2
            obtain ⟨kq, x82_19, rfl, HA, HJ19, HO_296000, HO_301000, BK285, BK295, BK300, HB⟩ := hcut
            cases kq with
            | zero => exact absurd HA.out (by simp [tallymanlaw10_TableCalls.j1])
            | succ kj19 =>
              have H := HA.out
              clear HA
              simp only [tallymanlaw10_TableCalls.j1] at H
              by_cases c52 : x82_19 = true
              · subst c52
                have H1 : (none) = some r := by rw [if_pos rfl] at H; exact H
                clear H
                have H := H1
                clear H1
                exact absurd H (by simp)
              · replace c52 := Bool.eq_false_iff.mpr c52
                subst c52
                have H1 : ((table_Clear.f l0_0 a1).bind fun bt302 => ((tallymanref10_Clear.f kj19 l0_0 a1).bind fun bt306 => ((table_Fresh.f kj19 l0_0).bind fun bt310 => ((tallymanref10_Fresh.f kj19 l0_0).bind fun bt312 => ((tallymankit_Ints.f kj19 bt302.1 bt306.1).bind fun t314 => (if t314 = true then (if bt302.2 = bt306.2 then (if bt310.1 = bt312.1 then (tallymanlaw10_TableCalls.j2 kj19 a2 l3 (bt310.2 != bt312.2) l0_0) else (tallymanlaw10_TableCalls.j2 kj19 a2 l3 true l0_0)) else (tallymanlaw10_TableCalls.j2 kj19 a2 l3 true l0_0)) else (tallymanlaw10_TableCalls.j2 kj19 a2 l3 true l0_0))))))) = some r := by rw [if_neg (show ¬ (false = true) by decide)] at H; exact H
                clear H
                have H := H1
                clear H1
                replace H := Option.bind_eq_some_iff.mp H
                obtain ⟨⟨t302, t305⟩, A530, H⟩ := H
                replace H : ((tallymanref10_Clear.f kj19 l0_0 a1).bind fun bt306 => ((table_Fresh.f kj19 l0_0).bind fun bt310 => ((tallymanref10_Fresh.f kj19 l0_0).bind fun bt312 => ((tallymankit_Ints.f kj19 t302 bt306.1).bind fun t314 => (if t314 = true then (if t305 = bt306.2 then (if bt310.1 = bt312.1 then (tallymanlaw10_TableCalls.j2 kj19 a2 l3 (bt310.2 != bt312.2) l0_0) else (tallymanlaw10_TableCalls.j2 kj19 a2 l3 true l0_0)) else (tallymanlaw10_TableCalls.j2 kj19 a2 l3 true l0_0)) else (tallymanlaw10_TableCalls.j2 kj19 a2 l3 true l0_0)))))) = some r := H
                have A53 := Aside0.mk A530
                clear A530
                replace H := Option.bind_eq_some_iff.mp H
                obtain ⟨⟨t306, t309⟩, A540, H⟩ := H
                replace H : ((table_Fresh.f kj19 l0_0).bind fun bt310 => ((tallymanref10_Fresh.f kj19 l0_0).bind fun bt312 => ((tallymankit_Ints.f kj19 t302 t306).bind fun t314 => (if t314 = true then (if t305 = t309 then (if bt310.1 = bt312.1 then (tallymanlaw10_TableCalls.j2 kj19 a2 l3 (bt310.2 != bt312.2) l0_0) else (tallymanlaw10_TableCalls.j2 kj19 a2 l3 true l0_0)) else (tallymanlaw10_TableCalls.j2 kj19 a2 l3 true l0_0)) else (tallymanlaw10_TableCalls.j2 kj19 a2 l3 true l0_0))))) = some r := H
                have A54 := Aside0.mk A540
                clear A540
                replace H := Option.bind_eq_some_iff.mp H
                obtain ⟨⟨t310, t311⟩, A550, H⟩ := H
                replace H : ((tallymanref10_Fresh.f kj19 l0_0).bind fun bt312 => ((tallymankit_Ints.f kj19 t302 t306).bind fun t314 => (if t314 = true then (if t305 = t309 then (if t310 = bt312.1 then (tallymanlaw10_TableCalls.j2 kj19 a2 l3 (t311 != bt312.2) l0_0) else (tallymanlaw10_TableCalls.j2 kj19 a2 l3 true l0_0)) else (tallymanlaw10_TableCalls.j2 kj19 a2 l3 true l0_0)) else (tallymanlaw10_TableCalls.j2 kj19 a2 l3 true l0_0)))) = some r := H
                have A55 := Aside0.mk A550
                clear A550
                replace H := Option.bind_eq_some_iff.mp H
                obtain ⟨⟨t312, t313⟩, A560, H⟩ := H
                replace H : ((tallymankit_Ints.f kj19 t302 t306).bind fun t314 => (if t314 = true then (if t305 = t309 then (if t310 = t312 then (tallymanlaw10_TableCalls.j2 kj19 a2 l3 (t311 != t313) l0_0) else (tallymanlaw10_TableCalls.j2 kj19 a2 l3 true l0_0)) else (tallymanlaw10_TableCalls.j2 kj19 a2 l3 true l0_0)) else (tallymanlaw10_TableCalls.j2 kj19 a2 l3 true l0_0))) = some r := H
                have A56 := Aside0.mk A560
                clear A560
                have HC57 := Aside0.mk H
                clear H
                have hnb58 := NB285_295.out
                have hnc58 := NB295_285.out
                have hnb59 := NB285_300.out
                have hnc59 := NB300_285.out
                have hcz60_0 : wc.cell? ⟨gb285, 0, none⟩ = some (.slice A0_0 l0_0.length c0_0) := (blk_cell BK285.out 0).trans rfl
                have hfz60_0 := blk_frozen BK285.out 0
                go_upto_region 15 with (first | ((with_reducible refine gate_callee (f := 17) rfl ?_); refine goesL_ (some 86) rfl rfl Try.func17 (by kernel_rfl) rfl #[.agg #[.slice A0_0 l0_0.length c0_0], .int .i64 a1] rfl (by (try simp only [List.map_toArray, List.map_cons, List.map_nil]); first | done | rfl | (simp only [List.length_drop, List.length_take]; rfl)) ?_; (with_reducible refine (table_Clear.calls _ _ l0_0 a1 t302 t305 _ ?side1 ?side2 A53.out).mono ?_); (case side1 => repeat (first | exact (Kd.C_below HR0_0.out HB.out) | (with_reducible refine Kd.C_alloc ?_ _) | (with_reducible refine Kd.C_drewN ?_ _) | (with_reducible refine Kd.C_drew ?_))); (case side2 => exact HC0_0.out); rintro e w61 ⟨v303, rfl, ho0, hb⟩; refine ⟨_, rfl, ?_⟩; have n0_ := Aside0.mk (Kd.V_below (by (with_reducible repeat (first | apply Kd.V_alloc | apply Kd.V_drewN | apply Kd.V_drew)); exact HO_296000.out) hb); have n1_ := Aside0.mk (Kd.V_below (by (with_reducible repeat (first | apply Kd.V_alloc | apply Kd.V_drewN | apply Kd.V_drew)); exact HO_301000.out) hb); have n2_ := Aside0.mk (Kd.V_lower (Kd.V_mono (ok' := fun k_ => k_ ≠ gb285 ∧ k_ ≠ gb295 ∧ k_ ≠ gb300) ho0 (fun k_ hk_ => ⟨(Kd.freshB (g := gb285) (o := .cells #[.slice A0_0 l0_0.length c0_0] 24 (0, 0)) (by (with_reducible repeat (first | refine blk_drewN ?_ _ | refine blk_drew ?_ | refine blk_alloc ?_ _)); exact BK285.out) k_ hk_), (Kd.freshB (g := gb295) (o := .cells #[.slice Ao28 t291.length co28] 24 (0, 0)) (by (with_reducible repeat (first | refine blk_drewN ?_ _ | refine blk_drew ?_ | refine blk_alloc ?_ _)); exact BK295.out) k_ hk_), (Kd.freshB (g := gb300) (o := .cells #[.slice Ao34 t296.length co34] 24 (0, 0)) (by (with_reducible repeat (first | refine blk_drewN ?_ _ | refine blk_drew ?_ | refine blk_alloc ?_ _)); exact BK300.out) k_ hk_)⟩)) (below_size (by repeat (first | (with_reducible first | exact HB.out | apply below_alloc | apply pw_below_drewN | apply below_drew1 | refine below_set ?_ GE285.out | refine below_set ?_ GE295.out | refine below_set ?_ GE300.out) | exact HB.out)))); have n3_ := Aside0.mk (blk_below (g := gb285) (o := .cells #[.slice A0_0 l0_0.length c0_0] 24 (0, 0)) (by (with_reducible repeat (first | refine blk_drewN ?_ _ | refine blk_drew ?_ | refine blk_alloc ?_ _)); exact BK285.out) hb); have n4_ := Aside0.mk (blk_below (g := gb295) (o := .cells #[.slice Ao28 t291.length co28] 24 (0, 0)) (by (with_reducible repeat (first | refine blk_drewN ?_ _ | refine blk_drew ?_ | refine blk_alloc ?_ _)); exact BK295.out) hb); have n5_ := Aside0.mk (blk_below (g := gb300) (o := .cells #[.slice Ao34 t296.length co34] 24 (0, 0)) (by (with_reducible repeat (first | refine blk_drewN ?_ _ | refine blk_drew ?_ | refine blk_alloc ?_ _)); exact BK300.out) hb); have n6_ := Aside0.mk (below_step (by repeat (first | (with_reducible first | exact HB.out | apply below_alloc | apply pw_below_drewN | apply below_drew1 | refine below_set ?_ GE285.out | refine below_set ?_ GE295.out | refine below_set ?_ GE300.out) | exact HB.out)) hb); clear HO_296000; clear HO_301000; clear BK285; clear BK295; clear BK300; clear HB; have HO_296000 := n0_; have HO_301000 := n1_; have HO304 := n2_; have BK285 := n3_; have BK295 := n4_; have BK300 := n5_; have HB := n6_; clear n0_ n1_ n2_ n3_ n4_ n5_ n6_; (try clear hb); (try clear hb2); (try clear hk); (try clear hi); (try clear ho0); obtain ⟨Ao62, co62, eo62⟩ := Kd.V_slice HO304.out; subst eo62; have hnb63 := NB295_300.out; have hnc63 := NB300_295.out; have hcz64_0 : w61.cell? ⟨gb295, 0, none⟩ = some (.slice Ao28 t291.length co28) := (blk_cell BK295.out 0).trans rfl; have hfz64_0 := blk_frozen BK295.out 0; have hcz65_0 : w61.cell? ⟨gb285, 0, none⟩ = some (.slice A0_0 l0_0.length c0_0) := (blk_cell BK285.out 0).trans rfl; have hfz65_0 := blk_frozen BK285.out 0) | ((with_reducible refine gate_callee (f := 24) rfl ?_); refine goesL_ (some 92) rfl rfl Try.func24 (by kernel_rfl) rfl #[.agg #[.slice A0_0 l0_0.length c0_0], .int .i64 a1] rfl (by (try simp only [List.map_toArray, List.map_cons, List.map_nil]); first | done | rfl | (simp only [List.length_drop, List.length_take]; rfl)) ?_; (with_reducible refine (tallymanref10_Clear.calls kj19 _ _ l0_0 a1 t306 t309 _ ?side1 ?side2 A54.out).mono ?_); (case side1 => exact Kd.C_below HR0_0.out (by repeat (first | (with_reducible first | exact HB.out | apply below_alloc | apply pw_below_drewN | apply below_drew1 | refine below_set ?_ GE285.out | refine below_set ?_ GE295.out | refine below_set ?_ GE300.out) | exact HB.out))); (case side2 => exact HC0_0.out); rintro e w66 ⟨v307, rfl, ho0, hb⟩; refine ⟨_, rfl, ?_⟩; have n0_ := Aside0.mk (Kd.V_below (by (with_reducible repeat (first | apply Kd.V_alloc | apply Kd.V_drewN | apply Kd.V_drew)); exact (Kd.V_mono (Kd.V_far (p := ⟨gb295, 0, none⟩) (Kd.V_mono HO_296000.out (fun k_ hk => (⟨hk, hk.2.1⟩ : _ ∧ k_ ≠ gb295))) (fun _ hk => hk.2) (.slice Ao62 t302.length co62)) (fun _ h_ => h_.1))) hb); have n1_ := Aside0.mk (Kd.V_below (by (with_reducible repeat (first | apply Kd.V_alloc | apply Kd.V_drewN | apply Kd.V_drew)); exact (Kd.V_mono (Kd.V_far (p := ⟨gb295, 0, none⟩) (Kd.V_mono HO_301000.out (fun k_ hk => (⟨hk, hk.2.1⟩ : _ ∧ k_ ≠ gb295))) (fun _ hk => hk.2) (.slice Ao62 t302.length co62)) (fun _ h_ => h_.1))) hb); have n2_ := Aside0.mk (Kd.V_below (by (with_reducible repeat (first | apply Kd.V_alloc | apply Kd.V_drewN | apply Kd.V_drew)); exact (Kd.V_mono (Kd.V_far (p := ⟨gb295, 0, none⟩) (Kd.V_mono HO304.out (fun k_ hk => (⟨hk, hk.2.1⟩ : _ ∧ k_ ≠ gb295))) (fun _ hk => hk.2) (.slice Ao62 t302.length co62)) (fun _ h_ => h_.1))) hb); have n3_ := Aside0.mk (Kd.V_lower (Kd.V_mono (ok' := fun k_ => k_ ≠ gb285 ∧ k_ ≠ gb295 ∧ k_ ≠ gb300) ho0 (fun k_ hk_ => ⟨(Kd.freshB (g := gb285) (o := .cells #[.slice A0_0 l0_0.length c0_0] 24 (0, 0)) (by (with_reducible repeat (first | refine blk_drewN ?_ _ | refine blk_drew ?_ | refine blk_alloc ?_ _)); refine blk_far ?_ NB285_295.out _; (with_reducible repeat (first | refine blk_drewN ?_ _ | refine blk_drew ?_ | refine blk_alloc ?_ _)); exact BK285.out) k_ hk_), (Kd.freshB (g := gb295) (o := .cells #[.slice Ao62 t302.length co62] 24 (0, 0)) (by (with_reducible repeat (first | refine blk_drewN ?_ _ | refine blk_drew ?_ | refine blk_alloc ?_ _)); refine blk_put (cs := #[.slice Ao28 t291.length co28]) ?_ 0 _ rfl; (with_reducible repeat (first | refine blk_drewN ?_ _ | refine blk_drew ?_ | refine blk_alloc ?_ _)); exact BK295.out) k_ hk_), (Kd.freshB (g := gb300) (o := .cells #[.slice Ao34 t296.length co34] 24 (0, 0)) (by (with_reducible repeat (first | refine blk_drewN ?_ _ | refine blk_drew ?_ | refine blk_alloc ?_ _)); refine blk_far ?_ NB300_295.out _; (with_reducible repeat (first | refine blk_drewN ?_ _ | refine blk_drew ?_ | refine blk_alloc ?_ _)); exact BK300.out) k_ hk_)⟩)) (below_size (by repeat (first | (with_reducible first | exact HB.out | apply below_alloc | apply pw_below_drewN | apply below_drew1 | refine below_set ?_ GE285.out | refine below_set ?_ GE295.out | refine below_set ?_ GE300.out) | exact HB.out)))); have n4_ := Aside0.mk (blk_below (g := gb285) (o := .cells #[.slice A0_0 l0_0.length c0_0] 24 (0, 0)) (by (with_reducible repeat (first | refine blk_drewN ?_ _ | refine blk_drew ?_ | refine blk_alloc ?_ _)); refine blk_far ?_ NB285_295.out _; (with_reducible repeat (first | refine blk_drewN ?_ _ | refine blk_drew ?_ | refine blk_alloc ?_ _)); exact BK285.out) hb); have n5_ := Aside0.mk (blk_below (g := gb295) (o := .cells #[.slice Ao62 t302.length co62] 24 (0, 0)) (by (with_reducible repeat (first | refine blk_drewN ?_ _ | refine blk_drew ?_ | refine blk_alloc ?_ _)); refine blk_put (cs := #[.slice Ao28 t291.length co28]) ?_ 0 _ rfl; (with_reducible repeat (first | refine blk_drewN ?_ _ | refine blk_drew ?_ | refine blk_alloc ?_ _)); exact BK295.out) hb); have n6_ := Aside0.mk (blk_below (g := gb300) (o := .cells #[.slice Ao34 t296.length co34] 24 (0, 0)) (by (with_reducible repeat (first | refine blk_drewN ?_ _ | refine blk_drew ?_ | refine blk_alloc ?_ _)); refine blk_far ?_ NB300_295.out _; (with_reducible repeat (first | refine blk_drewN ?_ _ | refine blk_drew ?_ | refine blk_alloc ?_ _)); exact BK300.out) hb); have n7_ := Aside0.mk (below_step (by repeat (first | (with_reducible first | exact HB.out | apply below_alloc | apply pw_below_drewN | apply below_drew1 | refine below_set ?_ GE285.out | refine below_set ?_ GE295.out | refine below_set ?_ GE300.out) | exact HB.out)) hb); clear HO_296000; clear HO_301000; clear HO304; clear BK285; clear BK295; clear BK300; clear HB; have HO_296000 := n0_; have HO_301000 := n1_; have HO304 := n2_; have HO308 := n3_; have BK285 := n4_; have BK295 := n5_; have BK300 := n6_; have HB := n7_; clear n0_ n1_ n2_ n3_ n4_ n5_ n6_ n7_; (try clear hb); (try clear hb2); (try clear hk); (try clear hi); (try clear ho0); obtain ⟨Ao67, co67, eo67⟩ := Kd.V_slice HO308.out; subst eo67; have hcz68_0 : w66.cell? ⟨gb300, 0, none⟩ = some (.slice Ao34 t296.length co34) := (blk_cell BK300.out 0).trans rfl; have hfz68_0 := blk_frozen BK300.out 0; have hcz69_0 : w66.cell? ⟨gb285, 0, none⟩ = some (.slice A0_0 l0_0.length c0_0) := (blk_cell BK285.out 0).trans rfl; have hfz69_0 := blk_frozen BK285.out 0) | ((with_reducible refine gate_callee (f := 15) rfl ?_); refine goesL_ (some 97) rfl rfl Try.func15 (by kernel_rfl) rfl #[.agg #[.slice A0_0 l0_0.length c0_0]] rfl (by (try simp only [List.map_toArray, List.map_cons, List.map_nil]); first | done | rfl | (simp only [List.length_drop, List.length_take]; rfl)) ?_; (with_reducible refine (table_Fresh.calls kj19 _ _ l0_0 t310 t311 _ ?side1 ?side2 A55.out).mono ?_); (case side1 => exact Kd.C_below HR0_0.out (by repeat (first | (with_reducible first | exact HB.out | apply below_alloc | apply pw_below_drewN | apply below_drew1 | refine below_set ?_ GE285.out | refine below_set ?_ GE295.out | refine below_set ?_ GE300.out) | exact HB.out))); (case side2 => exact HC0_0.out); rintro e w70 ⟨rfl, hb⟩; refine ⟨_, rfl, ?_⟩; have n0_ := Aside0.mk (Kd.V_below (by (with_reducible repeat (first | apply Kd.V_alloc | apply Kd.V_drewN | apply Kd.V_drew)); exact (Kd.V_mono (Kd.V_far (p := ⟨gb300, 0, none⟩) (Kd.V_mono HO_296000.out (fun k_ hk => (⟨hk, hk.2.2⟩ : _ ∧ k_ ≠ gb300))) (fun _ hk => hk.2) (.slice Ao67 t306.length co67)) (fun _ h_ => h_.1))) hb); have n1_ := Aside0.mk (Kd.V_below (by (with_reducible repeat (first | apply Kd.V_alloc | apply Kd.V_drewN | apply Kd.V_drew)); exact (Kd.V_mono (Kd.V_far (p := ⟨gb300, 0, none⟩) (Kd.V_mono HO_301000.out (fun k_ hk => (⟨hk, hk.2.2⟩ : _ ∧ k_ ≠ gb300))) (fun _ hk => hk.2) (.slice Ao67 t306.length co67)) (fun _ h_ => h_.1))) hb); have n2_ := Aside0.mk (Kd.V_below (by (with_reducible repeat (first | apply Kd.V_alloc | apply Kd.V_drewN | apply Kd.V_drew)); exact (Kd.V_mono (Kd.V_far (p := ⟨gb300, 0, none⟩) (Kd.V_mono HO304.out (fun k_ hk => (⟨hk, hk.2.2⟩ : _ ∧ k_ ≠ gb300))) (fun _ hk => hk.2) (.slice Ao67 t306.length co67)) (fun _ h_ => h_.1))) hb); have n3_ := Aside0.mk (Kd.V_below (by (with_reducible repeat (first | apply Kd.V_alloc | apply Kd.V_drewN | apply Kd.V_drew)); exact (Kd.V_mono (Kd.V_far (p := ⟨gb300, 0, none⟩) (Kd.V_mono HO308.out (fun k_ hk => (⟨hk, hk.2.2⟩ : _ ∧ k_ ≠ gb300))) (fun _ hk => hk.2) (.slice Ao67 t306.length co67)) (fun _ h_ => h_.1))) hb); have n4_ := Aside0.mk (blk_below (g := gb285) (o := .cells #[.slice A0_0 l0_0.length c0_0] 24 (0, 0)) (by (with_reducible repeat (first | refine blk_drewN ?_ _ | refine blk_drew ?_ | refine blk_alloc ?_ _)); refine blk_far ?_ NB285_300.out _; (with_reducible repeat (first | refine blk_drewN ?_ _ | refine blk_drew ?_ | refine blk_alloc ?_ _)); exact BK285.out) hb); have n5_ := Aside0.mk (blk_below (g := gb295) (o := .cells #[.slice Ao62 t302.length co62] 24 (0, 0)) (by (with_reducible repeat (first | refine blk_drewN ?_ _ | refine blk_drew ?_ | refine blk_alloc ?_ _)); refine blk_far ?_ NB295_300.out _; (with_reducible repeat (first | refine blk_drewN ?_ _ | refine blk_drew ?_ | refine blk_alloc ?_ _)); exact BK295.out) hb); have n6_ := Aside0.mk (blk_below (g := gb300) (o := .cells #[.slice Ao67 t306.length co67] 24 (0, 0)) (by (with_reducible repeat (first | refine blk_drewN ?_ _ | refine blk_drew ?_ | refine blk_alloc ?_ _)); refine blk_put (cs := #[.slice Ao34 t296.length co34]) ?_ 0 _ rfl; (with_reducible repeat (first | refine blk_drewN ?_ _ | refine blk_drew ?_ | refine blk_alloc ?_ _)); exact BK300.out) hb); have n7_ := Aside0.mk (below_step (by repeat (first | (with_reducible first | exact HB.out | apply below_alloc | apply pw_below_drewN | apply below_drew1 | refine below_set ?_ GE285.out | refine below_set ?_ GE295.out | refine below_set ?_ GE300.out) | exact HB.out)) hb); clear HO_296000; clear HO_301000; clear HO304; clear HO308; clear BK285; clear BK295; clear BK300; clear HB; have HO_296000 := n0_; have HO_301000 := n1_; have HO304 := n2_; have HO308 := n3_; have BK285 := n4_; have BK295 := n5_; have BK300 := n6_; have HB := n7_; clear n0_ n1_ n2_ n3_ n4_ n5_ n6_ n7_; (try clear hb); (try clear hb2); (try clear hk); (try clear hi); have hcz71_0 : w70.cell? ⟨gb285, 0, none⟩ = some (.slice A0_0 l0_0.length c0_0) := (blk_cell BK285.out 0).trans rfl; have hfz71_0 := blk_frozen BK285.out 0) | ((with_reducible refine gate_callee (f := 25) rfl ?_); refine goesL_ (some 102) rfl rfl Try.func25 (by kernel_rfl) rfl #[.agg #[.slice A0_0 l0_0.length c0_0]] rfl (by (try simp only [List.map_toArray, List.map_cons, List.map_nil]); first | done | rfl | (simp only [List.length_drop, List.length_take]; rfl)) ?_; (with_reducible refine (tallymanref10_Fresh.calls kj19 _ _ l0_0 t312 t313 _ ?side1 ?side2 A56.out).mono ?_); (case side1 => repeat (first | exact (Kd.C_below HR0_0.out HB.out) | (with_reducible refine Kd.C_alloc ?_ _) | (with_reducible refine Kd.C_drewN ?_ _) | (with_reducible refine Kd.C_drew ?_))); (case side2 => exact HC0_0.out); rintro e w72 ⟨rfl, hb⟩; refine ⟨_, rfl, ?_⟩; have n0_ := Aside0.mk (Kd.V_below (by (with_reducible repeat (first | apply Kd.V_alloc | apply Kd.V_drewN | apply Kd.V_drew)); exact HO_296000.out) hb); have n1_ := Aside0.mk (Kd.V_below (by (with_reducible repeat (first | apply Kd.V_alloc | apply Kd.V_drewN | apply Kd.V_drew)); exact HO_301000.out) hb); have n2_ := Aside0.mk (Kd.V_below (by (with_reducible repeat (first | apply Kd.V_alloc | apply Kd.V_drewN | apply Kd.V_drew)); exact HO304.out) hb); have n3_ := Aside0.mk (Kd.V_below (by (with_reducible repeat (first | apply Kd.V_alloc | apply Kd.V_drewN | apply Kd.V_drew)); exact HO308.out) hb); have n4_ := Aside0.mk (blk_below (g := gb285) (o := .cells #[.slice A0_0 l0_0.length c0_0] 24 (0, 0)) (by (with_reducible repeat (first | refine blk_drewN ?_ _ | refine blk_drew ?_ | refine blk_alloc ?_ _)); exact BK285.out) hb); have n5_ := Aside0.mk (blk_below (g := gb295) (o := .cells #[.slice Ao62 t302.length co62] 24 (0, 0)) (by (with_reducible repeat (first | refine blk_drewN ?_ _ | refine blk_drew ?_ | refine blk_alloc ?_ _)); exact BK295.out) hb); have n6_ := Aside0.mk (blk_below (g := gb300) (o := .cells #[.slice Ao67 t306.length co67] 24 (0, 0)) (by (with_reducible repeat (first | refine blk_drewN ?_ _ | refine blk_drew ?_ | refine blk_alloc ?_ _)); exact BK300.out) hb); have n7_ := Aside0.mk (below_step (by repeat (first | (with_reducible first | exact HB.out | apply below_alloc | apply pw_below_drewN | apply below_drew1 | refine below_set ?_ GE285.out | refine below_set ?_ GE295.out | refine below_set ?_ GE300.out) | exact HB.out)) hb); clear HO_296000; clear HO_301000; clear HO304; clear HO308; clear BK285; clear BK295; clear BK300; clear HB; have HO_296000 := n0_; have HO_301000 := n1_; have HO304 := n2_; have HO308 := n3_; have BK285 := n4_; have BK295 := n5_; have BK300 := n6_; have HB := n7_; clear n0_ n1_ n2_ n3_ n4_ n5_ n6_ n7_; (try clear hb); (try clear hb2); (try clear hk); (try clear hi)))
                (try simp only [Act.put, List.setIfInBounds_toArray, List.set_cons_zero, List.set_cons_succ])
                go_cut [125] (fun v125 wc => ∃ (kq : Nat) (x125_56 : Bool), v125 = .bool x125_56 ∧ Aside0 (tallymanlaw10_TableCalls.j2 kq a2 l3 x125_56 l0_0 = some r) ∧ Aside0 (kq ≤ kj19) ∧ Aside0 (Kd.V (Kd.int .i64) 3 wc w.heap.size (fun k_ => k_ ≠ gb285 ∧ k_ ≠ gb295 ∧ k_ ≠ gb300) (.slice Ao62 t302.length co62) t302) ∧ Aside0 (Kd.V (Kd.int .i64) 3 wc w.heap.size (fun k_ => k_ ≠ gb285 ∧ k_ ≠ gb295 ∧ k_ ≠ gb300) (.slice Ao67 t306.length co67) t306) ∧ Aside0 (wc.heap[gb285]? = some (.cells #[(.slice A0_0 l0_0.length c0_0)] 24 (0, 0))) ∧ Aside0 (wc.heap[gb295]? = some (.cells #[(.slice Ao62 t302.length co62)] 24 (0, 0))) ∧ Aside0 (wc.heap[gb300]? = some (.cells #[(.slice Ao67 t306.length co67)] 24 (0, 0))) ∧ Aside0 (Below w.heap.size w wc))
                case first =>
                  have H := HC57.out
                  clear HC57
                  replace H := Option.bind_eq_some_iff.mp H
                  obtain ⟨t314, A730, H⟩ := H
                  replace H : (if t314 = true then (if t305 = t309 then (if t310 = t312 then (tallymanlaw10_TableCalls.j2 kj19 a2 l3 (t311 != t313) l0_0) else (tallymanlaw10_TableCalls.j2 kj19 a2 l3 true l0_0)) else (tallymanlaw10_TableCalls.j2 kj19 a2 l3 true l0_0)) else (tallymanlaw10_TableCalls.j2 kj19 a2 l3 true l0_0)) = some r := H
                  have A73 := Aside0.mk A730
                  clear A730
                  by_cases c74 : t314 = true
                  · subst c74
                    have H1 : (if t305 = t309 then (if t310 = t312 then (tallymanlaw10_TableCalls.j2 kj19 a2 l3 (t311 != t313) l0_0) else (tallymanlaw10_TableCalls.j2 kj19 a2 l3 true l0_0)) else (tallymanlaw10_TableCalls.j2 kj19 a2 l3 true l0_0)) = some r := by rw [if_pos rfl] at H; exact H
                    clear H
                    have H := H1
                    clear H1
                    by_cases c75 : t305 = t309
                    · as_aux_lemma =>
                        rw [if_pos c75] at H
                        have c75b0 : (t305 == t309) = true := beq_iff_eq.mpr c75
                        have c75b1 : (t305 != t309) = false := bne_eq_false_iff_eq.mpr c75
                        clear c75
                        (first | rw [c75b0] | (simp only [i64_w, i32_w]; rw [c75b0]) | skip)
                        by_cases c76 : t310 = t312
                        · rw [if_pos c76] at H
                          have c76b0 : (t310 == t312) = true := beq_iff_eq.mpr c76
                          have c76b1 : (t310 != t312) = false := bne_eq_false_iff_eq.mpr c76
                          clear c76
                          have H' := Aside0.mk H
                          clear H
                          have hnb77 := NB295_285.out
                          have hnc77 := NB285_295.out
                          have hnb78 := NB295_300.out
                          have hnc78 := NB300_295.out
                          have hcz79_0 : w72.cell? ⟨gb295, 0, none⟩ = some (.slice Ao62 t302.length co62) := (blk_cell BK295.out 0).trans rfl
                          have hfz79_0 := blk_frozen BK295.out 0
                          have hnb80 := NB300_285.out
                          have hnc80 := NB285_300.out
                          have hcz81_0 : w72.cell? ⟨gb300, 0, none⟩ = some (.slice Ao67 t306.length co67) := (blk_cell BK300.out 0).trans rfl
                          have hfz81_0 := blk_frozen BK300.out 0
                          go_wp2_with (first | ((with_reducible refine gate_callee (f := 18) rfl ?_); refine goesL_ (some 109) rfl rfl Try.func18 (by kernel_rfl) rfl #[.slice Ao62 t302.length co62, .slice Ao67 t306.length co67] rfl (by (try simp only [List.map_toArray, List.map_cons, List.map_nil]); first | done | rfl | (simp only [List.length_drop, List.length_take]; rfl)) ?_; (with_reducible refine (tallymankit_Ints.calls kj19 _ _ t302 _ _ t306 true _ ?side1 ?side2 ?side3 ?side4 A73.out).mono ?_); (case side1 => repeat (first | exact (Kd.V_reads' HO304.out).2.2 | (with_reducible refine Kd.C_alloc ?_ _) | (with_reducible refine Kd.C_drewN ?_ _) | (with_reducible refine Kd.C_drew ?_))); (case side2 => exact (Kd.V_reads' HO304.out).2.1); (case side3 => repeat (first | exact (Kd.V_reads' HO308.out).2.2 | (with_reducible refine Kd.C_alloc ?_ _) | (with_reducible refine Kd.C_drewN ?_ _) | (with_reducible refine Kd.C_drew ?_))); (case side4 => exact (Kd.V_reads' HO308.out).2.1); rintro e w' ⟨rfl, ⟨nd, rfl⟩⟩; refine ⟨_, rfl, ?_⟩))
                          go_meet
                          case rel => exact ⟨_, ((t311 != t313)), (by first | rfl | (simp; done) | (simp [*]; done)), H', ⟨by have := HJ6.out; have := HJ19.out; first | omega | exact Nat.le_refl _⟩, ⟨by (with_reducible repeat (first | apply Kd.V_alloc | apply Kd.V_drewN | apply Kd.V_drew)); exact HO304.out⟩, ⟨by (with_reducible repeat (first | apply Kd.V_alloc | apply Kd.V_drewN | apply Kd.V_drew)); exact HO308.out⟩, ⟨by (with_reducible repeat (first | refine blk_drewN ?_ _ | refine blk_drew ?_ | refine blk_alloc ?_ _)); exact BK285.out⟩, ⟨by (with_reducible repeat (first | refine blk_drewN ?_ _ | refine blk_drew ?_ | refine blk_alloc ?_ _)); exact BK295.out⟩, ⟨by (with_reducible repeat (first | refine blk_drewN ?_ _ | refine blk_drew ?_ | refine blk_alloc ?_ _)); exact BK300.out⟩, ⟨by repeat (first | (with_reducible first | exact HB.out | apply below_alloc | apply pw_below_drewN | apply below_drew1 | refine below_set ?_ GE285.out | refine below_set ?_ GE295.out | refine below_set ?_ GE300.out) | exact HB.out)⟩⟩
                        · rw [if_neg c76] at H
                          have c76b0 : (t310 == t312) = false := beq_eq_false_iff_ne.mpr c76
                          have c76b1 : (t310 != t312) = true := bne_iff_ne.mpr c76
                          have H' := Aside0.mk H
                          clear H
                          have hnb82 := NB295_285.out
                          have hnc82 := NB285_295.out
                          have hnb83 := NB295_300.out
                          have hnc83 := NB300_295.out
                          have hcz84_0 : w72.cell? ⟨gb295, 0, none⟩ = some (.slice Ao62 t302.length co62) := (blk_cell BK295.out 0).trans rfl
                          have hfz84_0 := blk_frozen BK295.out 0
                          have hnb85 := NB300_285.out
                          have hnc85 := NB285_300.out
                          have hcz86_0 : w72.cell? ⟨gb300, 0, none⟩ = some (.slice Ao67 t306.length co67) := (blk_cell BK300.out 0).trans rfl
                          have hfz86_0 := blk_frozen BK300.out 0
                          go_wp2_with (first | ((with_reducible refine gate_callee (f := 18) rfl ?_); refine goesL_ (some 109) rfl rfl Try.func18 (by kernel_rfl) rfl #[.slice Ao62 t302.length co62, .slice Ao67 t306.length co67] rfl (by (try simp only [List.map_toArray, List.map_cons, List.map_nil]); first | done | rfl | (simp only [List.length_drop, List.length_take]; rfl)) ?_; (with_reducible refine (tallymankit_Ints.calls kj19 _ _ t302 _ _ t306 true _ ?side1 ?side2 ?side3 ?side4 A73.out).mono ?_); (case side1 => repeat (first | exact (Kd.V_reads' HO304.out).2.2 | (with_reducible refine Kd.C_alloc ?_ _) | (with_reducible refine Kd.C_drewN ?_ _) | (with_reducible refine Kd.C_drew ?_))); (case side2 => exact (Kd.V_reads' HO304.out).2.1); (case side3 => repeat (first | exact (Kd.V_reads' HO308.out).2.2 | (with_reducible refine Kd.C_alloc ?_ _) | (with_reducible refine Kd.C_drewN ?_ _) | (with_reducible refine Kd.C_drew ?_))); (case side4 => exact (Kd.V_reads' HO308.out).2.1); rintro e w' ⟨rfl, ⟨nd, rfl⟩⟩; refine ⟨_, rfl, ?_⟩))
                          go_meet
                          case rel => exact ⟨_, (true), (by first | rfl | (simp; done) | (simp [*]; done)), H', ⟨by have := HJ6.out; have := HJ19.out; first | omega | exact Nat.le_refl _⟩, ⟨by (with_reducible repeat (first | apply Kd.V_alloc | apply Kd.V_drewN | apply Kd.V_drew)); exact HO304.out⟩, ⟨by (with_reducible repeat (first | apply Kd.V_alloc | apply Kd.V_drewN | apply Kd.V_drew)); exact HO308.out⟩, ⟨by (with_reducible repeat (first | refine blk_drewN ?_ _ | refine blk_drew ?_ | refine blk_alloc ?_ _)); exact BK285.out⟩, ⟨by (with_reducible repeat (first | refine blk_drewN ?_ _ | refine blk_drew ?_ | refine blk_alloc ?_ _)); exact BK295.out⟩, ⟨by (with_reducible repeat (first | refine blk_drewN ?_ _ | refine blk_drew ?_ | refine blk_alloc ?_ _)); exact BK300.out⟩, ⟨by repeat (first | (with_reducible first | exact HB.out | apply below_alloc | apply pw_below_drewN | apply below_drew1 | refine below_set ?_ GE285.out | refine below_set ?_ GE295.out | refine below_set ?_ GE300.out) | exact HB.out)⟩⟩
                    · rw [if_neg c75] at H
                      have c75b0 : (t305 == t309) = false := beq_eq_false_iff_ne.mpr c75
                      have c75b1 : (t305 != t309) = true := bne_iff_ne.mpr c75
                      (first | rw [c75b0] | (simp only [i64_w, i32_w]; rw [c75b0]) | skip)
                      have H' := Aside0.mk H
                      clear H
                      have hnb87 := NB295_285.out
                      have hnc87 := NB285_295.out
                      have hnb88 := NB295_300.out
                      have hnc88 := NB300_295.out
                      have hcz89_0 : w72.cell? ⟨gb295, 0, none⟩ = some (.slice Ao62 t302.length co62) := (blk_cell BK295.out 0).trans rfl
                      have hfz89_0 := blk_frozen BK295.out 0
                      have hnb90 := NB300_285.out
                      have hnc90 := NB285_300.out
                      have hcz91_0 : w72.cell? ⟨gb300, 0, none⟩ = some (.slice Ao67 t306.length co67) := (blk_cell BK300.out 0).trans rfl
                      have hfz91_0 := blk_frozen BK300.out 0
                      go_wp2_with (first | ((with_reducible refine gate_callee (f := 18) rfl ?_); refine goesL_ (some 109) rfl rfl Try.func18 (by kernel_rfl) rfl #[.slice Ao62 t302.length co62, .slice Ao67 t306.length co67] rfl (by (try simp only [List.map_toArray, List.map_cons, List.map_nil]); first | done | rfl | (simp only [List.length_drop, List.length_take]; rfl)) ?_; (with_reducible refine (tallymankit_Ints.calls kj19 _ _ t302 _ _ t306 true _ ?side1 ?side2 ?side3 ?side4 A73.out).mono ?_); (case side1 => repeat (first | exact (Kd.V_reads' HO304.out).2.2 | (with_reducible refine Kd.C_alloc ?_ _) | (with_reducible refine Kd.C_drewN ?_ _) | (with_reducible refine Kd.C_drew ?_))); (case side2 => exact (Kd.V_reads' HO304.out).2.1); (case side3 => repeat (first | exact (Kd.V_reads' HO308.out).2.2 | (with_reducible refine Kd.C_alloc ?_ _) | (with_reducible refine Kd.C_drewN ?_ _) | (with_reducible refine Kd.C_drew ?_))); (case side4 => exact (Kd.V_reads' HO308.out).2.1); rintro e w' ⟨rfl, ⟨nd, rfl⟩⟩; refine ⟨_, rfl, ?_⟩))
                      go_meet
                      case rel => exact ⟨_, (true), (by first | rfl | (simp; done) | (simp [*]; done)), H', ⟨by have := HJ6.out; have := HJ19.out; first | omega | exact Nat.le_refl _⟩, ⟨by (with_reducible repeat (first | apply Kd.V_alloc | apply Kd.V_drewN | apply Kd.V_drew)); exact HO304.out⟩, ⟨by (with_reducible repeat (first | apply Kd.V_alloc | apply Kd.V_drewN | apply Kd.V_drew)); exact HO308.out⟩, ⟨by (with_reducible repeat (first | refine blk_drewN ?_ _ | refine blk_drew ?_ | refine blk_alloc ?_ _)); exact BK285.out⟩, ⟨by (with_reducible repeat (first | refine blk_drewN ?_ _ | refine blk_drew ?_ | refine blk_alloc ?_ _)); exact BK295.out⟩, ⟨by (with_reducible repeat (first | refine blk_drewN ?_ _ | refine blk_drew ?_ | refine blk_alloc ?_ _)); exact BK300.out⟩, ⟨by repeat (first | (with_reducible first | exact HB.out | apply below_alloc | apply pw_below_drewN | apply below_drew1 | refine below_set ?_ GE285.out | refine below_set ?_ GE295.out | refine below_set ?_ GE300.out) | exact HB.out)⟩⟩
                  · replace c74 := Bool.eq_false_iff.mpr c74
                    subst c74
                    have H1 : (tallymanlaw10_TableCalls.j2 kj19 a2 l3 true l0_0) = some r := by rw [if_neg (show ¬ (false = true) by decide)] at H; exact H
                    clear H
                    have H := H1
                    clear H1
                    have H' := Aside0.mk H
                    clear H
                    have hnb92 := NB295_285.out
                    have hnc92 := NB285_295.out
                    have hnb93 := NB295_300.out
                    have hnc93 := NB300_295.out
                    have hcz94_0 : w72.cell? ⟨gb295, 0, none⟩ = some (.slice Ao62 t302.length co62) := (blk_cell BK295.out 0).trans rfl
                    have hfz94_0 := blk_frozen BK295.out 0
                    have hnb95 := NB300_285.out
                    have hnc95 := NB285_300.out
                    have hcz96_0 : w72.cell? ⟨gb300, 0, none⟩ = some (.slice Ao67 t306.length co67) := (blk_cell BK300.out 0).trans rfl
                    have hfz96_0 := blk_frozen BK300.out 0
                    go_wp2_with (first | ((with_reducible refine gate_callee (f := 18) rfl ?_); refine goesL_ (some 109) rfl rfl Try.func18 (by kernel_rfl) rfl #[.slice Ao62 t302.length co62, .slice Ao67 t306.length co67] rfl (by (try simp only [List.map_toArray, List.map_cons, List.map_nil]); first | done | rfl | (simp only [List.length_drop, List.length_take]; rfl)) ?_; (with_reducible refine (tallymankit_Ints.calls kj19 _ _ t302 _ _ t306 false _ ?side1 ?side2 ?side3 ?side4 A73.out).mono ?_); (case side1 => repeat (first | exact (Kd.V_reads' HO304.out).2.2 | (with_reducible refine Kd.C_alloc ?_ _) | (with_reducible refine Kd.C_drewN ?_ _) | (with_reducible refine Kd.C_drew ?_))); (case side2 => exact (Kd.V_reads' HO304.out).2.1); (case side3 => repeat (first | exact (Kd.V_reads' HO308.out).2.2 | (with_reducible refine Kd.C_alloc ?_ _) | (with_reducible refine Kd.C_drewN ?_ _) | (with_reducible refine Kd.C_drew ?_))); (case side4 => exact (Kd.V_reads' HO308.out).2.1); rintro e w' ⟨rfl, ⟨nd, rfl⟩⟩; refine ⟨_, rfl, ?_⟩))
                    go_meet
                    case rel => exact ⟨_, (true), (by first | rfl | (simp; done) | (simp [*]; done)), H', ⟨by have := HJ6.out; have := HJ19.out; first | omega | exact Nat.le_refl _⟩, ⟨by (with_reducible repeat (first | apply Kd.V_alloc | apply Kd.V_drewN | apply Kd.V_drew)); exact HO304.out⟩, ⟨by (with_reducible repeat (first | apply Kd.V_alloc | apply Kd.V_drewN | apply Kd.V_drew)); exact HO308.out⟩, ⟨by (with_reducible repeat (first | refine blk_drewN ?_ _ | refine blk_drew ?_ | refine blk_alloc ?_ _)); exact BK285.out⟩, ⟨by (with_reducible repeat (first | refine blk_drewN ?_ _ | refine blk_drew ?_ | refine blk_alloc ?_ _)); exact BK295.out⟩, ⟨by (with_reducible repeat (first | refine blk_drewN ?_ _ | refine blk_drew ?_ | refine blk_alloc ?_ _)); exact BK300.out⟩, ⟨by repeat (first | (with_reducible first | exact HB.out | apply below_alloc | apply pw_below_drewN | apply below_drew1 | refine below_set ?_ GE285.out | refine below_set ?_ GE295.out | refine below_set ?_ GE300.out) | exact HB.out)⟩⟩
                case rest =>
                  clear HC57
                  try clear c1
                  try clear c2
                  try clear p2
                  try clear c3
                  try clear c4
                  try clear c5
                  try clear c6
                  try clear c7
                  try clear c8
                  try clear c9
                  try clear c10
                  try clear c10b0
                  try clear c10b1
                  try clear c11
                  try clear c12
                  try clear c12b0
                  try clear c12b1
                  try clear c15
                  try clear c16
                  try clear c17
                  try clear c18
                  try clear c22
                  try clear c23
                  try clear c24
                  try clear c25
                  try clear c29
                  try clear c35
                  try clear c36
                  try clear c38
                  try clear c38b0
                  try clear c38b1
                  try clear c39
                  try clear c39b0
                  try clear c39b1
                  try clear c39b2
                  try clear c41
                  try clear c42
                  try clear c43
                  try clear c45
                  try clear c47
                  try clear c48
                  try clear c50
                  try clear c52
                  try clear c58
                  try clear c59
                  try clear c63
                  try clear c74
                  try clear c75
                  try clear c75b0
                  try clear c75b1
                  try clear c76
                  try clear c76b0
                  try clear c76b1
                  try clear c77
                  try clear c78
                  try clear c80
                  try clear c82
                  try clear c83
                  try clear c85
                  try clear c87
                  try clear c88
                  try clear c90
                  try clear c92
                  try clear c93
                  try clear c95
                  try clear hcz11_0
                  try clear hcz13_0
                  try clear hcz14_0
                  try clear hcz21_0
                  try clear hcz23_0
                  try clear hcz25_0
                  try clear hcz30_0
                  try clear hcz31_0
                  try clear hcz37_0
                  try clear hcz44_0
                  try clear hcz46_0
                  try clear hcz49_0
                  try clear hcz51_0
                  try clear hcz60_0
                  try clear hcz64_0
                  try clear hcz65_0
                  try clear hcz68_0
                  try clear hcz69_0
                  try clear hcz71_0
                  try clear hcz79_0
                  try clear hcz81_0
                  try clear hcz84_0
                  try clear hcz86_0
                  try clear hcz89_0
                  try clear hcz91_0
                  try clear hcz94_0
                  try clear hcz96_0
                  try clear hfz11_0
                  try clear hfz13_0
                  try clear hfz14_0
                  try clear hfz21_0
                  try clear hfz23_0
                  try clear hfz25_0
                  try clear hfz30_0
                  try clear hfz31_0
                  try clear hfz37_0
                  try clear hfz44_0
                  try clear hfz46_0
                  try clear hfz49_0
                  try clear hfz51_0
                  try clear hfz60_0
                  try clear hfz64_0
                  try clear hfz65_0
                  try clear hfz68_0
                  try clear hfz69_0
                  try clear hfz71_0
                  try clear hfz79_0
                  try clear hfz81_0
                  try clear hfz84_0
                  try clear hfz86_0
                  try clear hfz89_0
                  try clear hfz91_0
                  try clear hfz94_0
                  try clear hfz96_0
                  try clear p2
                  obtain ⟨kq, x125_56, rfl, HA, HJ56, HO_296000, HO_301000, BK285, BK295, BK300, HB⟩ := hcut
                  cases kq with
                  | zero => exact absurd HA.out (by simp [tallymanlaw10_TableCalls.j2])
                  | succ kj56 =>
                    have H := HA.out
                    clear HA
                    simp only [tallymanlaw10_TableCalls.j2] at H
                    by_cases c97 : x125_56 = true
                    · subst c97
                      have H1 : (none) = some r := by rw [if_pos rfl] at H; exact H
                      clear H
                      have H := H1
                      clear H1
                      exact absurd H (by simp)
                    · replace c97 := Bool.eq_false_iff.mpr c97
                      subst c97
                      have H1 : ((table_Find.f kj56 l0_0 a2).bind fun bt315 => ((tallymanref10_Find.f kj56 l0_0 a2).bind fun bt317 => ((table_Bytes.f kj56 l0_0).bind fun bt319 => ((tallymanref10_Bytes.f kj56 l0_0).bind fun bt323 => ((tallymankit_Own.f l3).bind fun t327 => ((table_Read.f t327).bind fun bt330 => ((tallymanref10_Read.f l3).bind fun bt334 => (if bt315.1 = bt317.1 then (if (bt315.2 == bt317.2) = true then (if (strOfNums bt319.1).toList = (strOfNums bt323.1).toList then (if bt319.2 = bt323.2 then ((tallymankit_Ints.f kj56 bt330.1 bt334.1).bind fun t338 => (if t338 = true then (if bt330.2 = bt334.2 then ((table_Check.f l0_0).bind fun t339 => ((tallymanref10_Check.f l0_0).bind fun t340 => (if t339 = t340 then ((table_Pages.f kj56 l0_0).bind fun t341 => ((tallymanref10_Pages.f kj56 l0_0).bind fun t344 => ((tallymankit_Ints.f kj56 t341 t344).bind fun t347 => (if t347 = true then ((table_Count.f kj56 l0_0).bind fun t348 => ((tallymanref10_Pages.f kj56 l0_0).bind fun t349 => (some (t348 == (t349.length : Int))))) else (none))))) else (none)))) else (none)) else (none))) else (none)) else (none)) else (none)) else (none))))))))) = some r := by rw [if_neg (show ¬ (false = true) by decide)] at H; exact H
                      clear H
                      have H := H1
                      clear H1
                      replace H := Option.bind_eq_some_iff.mp H
                      obtain ⟨⟨t315, t316⟩, A980, H⟩ := H
                      replace H : ((tallymanref10_Find.f kj56 l0_0 a2).bind fun bt317 => ((table_Bytes.f kj56 l0_0).bind fun bt319 => ((tallymanref10_Bytes.f kj56 l0_0).bind fun bt323 => ((tallymankit_Own.f l3).bind fun t327 => ((table_Read.f t327).bind fun bt330 => ((tallymanref10_Read.f l3).bind fun bt334 => (if t315 = bt317.1 then (if (t316 == bt317.2) = true then (if (strOfNums bt319.1).toList = (strOfNums bt323.1).toList then (if bt319.2 = bt323.2 then ((tallymankit_Ints.f kj56 bt330.1 bt334.1).bind fun t338 => (if t338 = true then (if bt330.2 = bt334.2 then ((table_Check.f l0_0).bind fun t339 => ((tallymanref10_Check.f l0_0).bind fun t340 => (if t339 = t340 then ((table_Pages.f kj56 l0_0).bind fun t341 => ((tallymanref10_Pages.f kj56 l0_0).bind fun t344 => ((tallymankit_Ints.f kj56 t341 t344).bind fun t347 => (if t347 = true then ((table_Count.f kj56 l0_0).bind fun t348 => ((tallymanref10_Pages.f kj56 l0_0).bind fun t349 => (some (t348 == (t349.length : Int))))) else (none))))) else (none)))) else (none)) else (none))) else (none)) else (none)) else (none)) else (none)))))))) = some r := H
                      have A98 := Aside0.mk A980
                      clear A980
                      replace H := Option.bind_eq_some_iff.mp H
                      obtain ⟨⟨t317, t318⟩, A990, H⟩ := H
                      replace H : ((table_Bytes.f kj56 l0_0).bind fun bt319 => ((tallymanref10_Bytes.f kj56 l0_0).bind fun bt323 => ((tallymankit_Own.f l3).bind fun t327 => ((table_Read.f t327).bind fun bt330 => ((tallymanref10_Read.f l3).bind fun bt334 => (if t315 = t317 then (if (t316 == t318) = true then (if (strOfNums bt319.1).toList = (strOfNums bt323.1).toList then (if bt319.2 = bt323.2 then ((tallymankit_Ints.f kj56 bt330.1 bt334.1).bind fun t338 => (if t338 = true then (if bt330.2 = bt334.2 then ((table_Check.f l0_0).bind fun t339 => ((tallymanref10_Check.f l0_0).bind fun t340 => (if t339 = t340 then ((table_Pages.f kj56 l0_0).bind fun t341 => ((tallymanref10_Pages.f kj56 l0_0).bind fun t344 => ((tallymankit_Ints.f kj56 t341 t344).bind fun t347 => (if t347 = true then ((table_Count.f kj56 l0_0).bind fun t348 => ((tallymanref10_Pages.f kj56 l0_0).bind fun t349 => (some (t348 == (t349.length : Int))))) else (none))))) else (none)))) else (none)) else (none))) else (none)) else (none)) else (none)) else (none))))))) = some r := H
                      have A99 := Aside0.mk A990
                      clear A990
                      replace H := Option.bind_eq_some_iff.mp H
                      obtain ⟨⟨t319, t322⟩, A1000, H⟩ := H
                      replace H : ((tallymanref10_Bytes.f kj56 l0_0).bind fun bt323 => ((tallymankit_Own.f l3).bind fun t327 => ((table_Read.f t327).bind fun bt330 => ((tallymanref10_Read.f l3).bind fun bt334 => (if t315 = t317 then (if (t316 == t318) = true then (if (strOfNums t319).toList = (strOfNums bt323.1).toList then (if t322 = bt323.2 then ((tallymankit_Ints.f kj56 bt330.1 bt334.1).bind fun t338 => (if t338 = true then (if bt330.2 = bt334.2 then ((table_Check.f l0_0).bind fun t339 => ((tallymanref10_Check.f l0_0).bind fun t340 => (if t339 = t340 then ((table_Pages.f kj56 l0_0).bind fun t341 => ((tallymanref10_Pages.f kj56 l0_0).bind fun t344 => ((tallymankit_Ints.f kj56 t341 t344).bind fun t347 => (if t347 = true then ((table_Count.f kj56 l0_0).bind fun t348 => ((tallymanref10_Pages.f kj56 l0_0).bind fun t349 => (some (t348 == (t349.length : Int))))) else (none))))) else (none)))) else (none)) else (none))) else (none)) else (none)) else (none)) else (none)))))) = some r := H
                      have A100 := Aside0.mk A1000
                      clear A1000
                      replace H := Option.bind_eq_some_iff.mp H
                      obtain ⟨⟨t323, t326⟩, A1010, H⟩ := H
                      replace H : ((tallymankit_Own.f l3).bind fun t327 => ((table_Read.f t327).bind fun bt330 => ((tallymanref10_Read.f l3).bind fun bt334 => (if t315 = t317 then (if (t316 == t318) = true then (if (strOfNums t319).toList = (strOfNums t323).toList then (if t322 = t326 then ((tallymankit_Ints.f kj56 bt330.1 bt334.1).bind fun t338 => (if t338 = true then (if bt330.2 = bt334.2 then ((table_Check.f l0_0).bind fun t339 => ((tallymanref10_Check.f l0_0).bind fun t340 => (if t339 = t340 then ((table_Pages.f kj56 l0_0).bind fun t341 => ((tallymanref10_Pages.f kj56 l0_0).bind fun t344 => ((tallymankit_Ints.f kj56 t341 t344).bind fun t347 => (if t347 = true then ((table_Count.f kj56 l0_0).bind fun t348 => ((tallymanref10_Pages.f kj56 l0_0).bind fun t349 => (some (t348 == (t349.length : Int))))) else (none))))) else (none)))) else (none)) else (none))) else (none)) else (none)) else (none)) else (none))))) = some r := H
                      have A101 := Aside0.mk A1010
                      clear A1010
                      replace H := Option.bind_eq_some_iff.mp H
                      obtain ⟨t327, A1020, H⟩ := H
                      replace H : ((table_Read.f t327).bind fun bt330 => ((tallymanref10_Read.f l3).bind fun bt334 => (if t315 = t317 then (if (t316 == t318) = true then (if (strOfNums t319).toList = (strOfNums t323).toList then (if t322 = t326 then ((tallymankit_Ints.f kj56 bt330.1 bt334.1).bind fun t338 => (if t338 = true then (if bt330.2 = bt334.2 then ((table_Check.f l0_0).bind fun t339 => ((tallymanref10_Check.f l0_0).bind fun t340 => (if t339 = t340 then ((table_Pages.f kj56 l0_0).bind fun t341 => ((tallymanref10_Pages.f kj56 l0_0).bind fun t344 => ((tallymankit_Ints.f kj56 t341 t344).bind fun t347 => (if t347 = true then ((table_Count.f kj56 l0_0).bind fun t348 => ((tallymanref10_Pages.f kj56 l0_0).bind fun t349 => (some (t348 == (t349.length : Int))))) else (none))))) else (none)))) else (none)) else (none))) else (none)) else (none)) else (none)) else (none)))) = some r := H
                      have A102 := Aside0.mk A1020
                      clear A1020
                      replace H := Option.bind_eq_some_iff.mp H
                      obtain ⟨⟨t330, t333⟩, A1030, H⟩ := H
                      replace H : ((tallymanref10_Read.f l3).bind fun bt334 => (if t315 = t317 then (if (t316 == t318) = true then (if (strOfNums t319).toList = (strOfNums t323).toList then (if t322 = t326 then ((tallymankit_Ints.f kj56 t330 bt334.1).bind fun t338 => (if t338 = true then (if t333 = bt334.2 then ((table_Check.f l0_0).bind fun t339 => ((tallymanref10_Check.f l0_0).bind fun t340 => (if t339 = t340 then ((table_Pages.f kj56 l0_0).bind fun t341 => ((tallymanref10_Pages.f kj56 l0_0).bind fun t344 => ((tallymankit_Ints.f kj56 t341 t344).bind fun t347 => (if t347 = true then ((table_Count.f kj56 l0_0).bind fun t348 => ((tallymanref10_Pages.f kj56 l0_0).bind fun t349 => (some (t348 == (t349.length : Int))))) else (none))))) else (none)))) else (none)) else (none))) else (none)) else (none)) else (none)) else (none))) = some r := H
                      have A103 := Aside0.mk A1030
                      clear A1030
                      replace H := Option.bind_eq_some_iff.mp H
                      obtain ⟨⟨t334, t337⟩, A1040, H⟩ := H
                      replace H : (if t315 = t317 then (if (t316 == t318) = true then (if (strOfNums t319).toList = (strOfNums t323).toList then (if t322 = t326 then ((tallymankit_Ints.f kj56 t330 t334).bind fun t338 => (if t338 = true then (if t333 = t337 then ((table_Check.f l0_0).bind fun t339 => ((tallymanref10_Check.f l0_0).bind fun t340 => (if t339 = t340 then ((table_Pages.f kj56 l0_0).bind fun t341 => ((tallymanref10_Pages.f kj56 l0_0).bind fun t344 => ((tallymankit_Ints.f kj56 t341 t344).bind fun t347 => (if t347 = true then ((table_Count.f kj56 l0_0).bind fun t348 => ((tallymanref10_Pages.f kj56 l0_0).bind fun t349 => (some (t348 == (t349.length : Int))))) else (none))))) else (none)))) else (none)) else (none))) else (none)) else (none)) else (none)) else (none)) = some r := H
                      have A104 := Aside0.mk A1040
                      clear A1040
                      by_cases c105 : t315 = t317
                      · as_aux_lemma =>
                          rw [if_pos c105] at H
                          have c105b0 : (t315 == t317) = true := beq_iff_eq.mpr c105
                          have c105b1 : (t315 != t317) = false := bne_eq_false_iff_eq.mpr c105
                          clear c105
                          by_cases c106 : (t316 == t318) = true
                          · rw [if_pos c106] at H
                            have c106b0 : (t316 == t318) = true := c106
                            (try (have c106b1 : decide (t316 = t318) = true := by simpa using c106))
                            (try (have c106b2 : (t316 == t318) = true := by simpa using c106))
                            clear c106
                            by_cases c107 : (strOfNums t319).toList = (strOfNums t323).toList
                            · rw [if_pos c107] at H
                              have c107b0 : ((strOfNums t319).toList == (strOfNums t323).toList) = true := beq_iff_eq.mpr c107
                              have c107b1 : ((strOfNums t319).toList != (strOfNums t323).toList) = false := bne_eq_false_iff_eq.mpr c107
                              clear c107
                              by_cases c108 : t322 = t326
                              · rw [if_pos c108] at H
                                have c108b0 : (t322 == t326) = true := beq_iff_eq.mpr c108
                                have c108b1 : (t322 != t326) = false := bne_eq_false_iff_eq.mpr c108
                                clear c108
                                replace H := Option.bind_eq_some_iff.mp H
                                obtain ⟨t338, A1090, H⟩ := H
                                replace H : (if t338 = true then (if t333 = t337 then ((table_Check.f l0_0).bind fun t339 => ((tallymanref10_Check.f l0_0).bind fun t340 => (if t339 = t340 then ((table_Pages.f kj56 l0_0).bind fun t341 => ((tallymanref10_Pages.f kj56 l0_0).bind fun t344 => ((tallymankit_Ints.f kj56 t341 t344).bind fun t347 => (if t347 = true then ((table_Count.f kj56 l0_0).bind fun t348 => ((tallymanref10_Pages.f kj56 l0_0).bind fun t349 => (some (t348 == (t349.length : Int))))) else (none))))) else (none)))) else (none)) else (none)) = some r := H
                                have A109 := Aside0.mk A1090
                                clear A1090
                                by_cases c110 : t338 = true
                                · subst c110
                                  have H1 : (if t333 = t337 then ((table_Check.f l0_0).bind fun t339 => ((tallymanref10_Check.f l0_0).bind fun t340 => (if t339 = t340 then ((table_Pages.f kj56 l0_0).bind fun t341 => ((tallymanref10_Pages.f kj56 l0_0).bind fun t344 => ((tallymankit_Ints.f kj56 t341 t344).bind fun t347 => (if t347 = true then ((table_Count.f kj56 l0_0).bind fun t348 => ((tallymanref10_Pages.f kj56 l0_0).bind fun t349 => (some (t348 == (t349.length : Int))))) else (none))))) else (none)))) else (none)) = some r := by rw [if_pos rfl] at H; exact H
                                  clear H
                                  have H := H1
                                  clear H1
                                  by_cases c111 : t333 = t337
                                  · rw [if_pos c111] at H
                                    have c111b0 : (t333 == t337) = true := beq_iff_eq.mpr c111
                                    have c111b1 : (t333 != t337) = false := bne_eq_false_iff_eq.mpr c111
                                    clear c111
                                    replace H := Option.bind_eq_some_iff.mp H
                                    obtain ⟨t339, A1120, H⟩ := H
                                    replace H : ((tallymanref10_Check.f l0_0).bind fun t340 => (if t339 = t340 then ((table_Pages.f kj56 l0_0).bind fun t341 => ((tallymanref10_Pages.f kj56 l0_0).bind fun t344 => ((tallymankit_Ints.f kj56 t341 t344).bind fun t347 => (if t347 = true then ((table_Count.f kj56 l0_0).bind fun t348 => ((tallymanref10_Pages.f kj56 l0_0).bind fun t349 => (some (t348 == (t349.length : Int))))) else (none))))) else (none))) = some r := H
                                    have A112 := Aside0.mk A1120
                                    clear A1120
                                    replace H := Option.bind_eq_some_iff.mp H
                                    obtain ⟨t340, A1130, H⟩ := H
                                    replace H : (if t339 = t340 then ((table_Pages.f kj56 l0_0).bind fun t341 => ((tallymanref10_Pages.f kj56 l0_0).bind fun t344 => ((tallymankit_Ints.f kj56 t341 t344).bind fun t347 => (if t347 = true then ((table_Count.f kj56 l0_0).bind fun t348 => ((tallymanref10_Pages.f kj56 l0_0).bind fun t349 => (some (t348 == (t349.length : Int))))) else (none))))) else (none)) = some r := H
                                    have A113 := Aside0.mk A1130
                                    clear A1130
                                    by_cases c114 : t339 = t340
                                    · as_aux_lemma =>
                                        rw [if_pos c114] at H
                                        have c114b0 : (t339 == t340) = true := beq_iff_eq.mpr c114
                                        have c114b1 : (t339 != t340) = false := bne_eq_false_iff_eq.mpr c114
                                        clear c114
                                        replace H := Option.bind_eq_some_iff.mp H
                                        obtain ⟨t341, A1150, H⟩ := H
                                        replace H : ((tallymanref10_Pages.f kj56 l0_0).bind fun t344 => ((tallymankit_Ints.f kj56 t341 t344).bind fun t347 => (if t347 = true then ((table_Count.f kj56 l0_0).bind fun t348 => ((tallymanref10_Pages.f kj56 l0_0).bind fun t349 => (some (t348 == (t349.length : Int))))) else (none)))) = some r := H
                                        have A115 := Aside0.mk A1150
                                        clear A1150
                                        replace H := Option.bind_eq_some_iff.mp H
                                        obtain ⟨t344, A1160, H⟩ := H
                                        replace H : ((tallymankit_Ints.f kj56 t341 t344).bind fun t347 => (if t347 = true then ((table_Count.f kj56 l0_0).bind fun t348 => ((tallymanref10_Pages.f kj56 l0_0).bind fun t349 => (some (t348 == (t349.length : Int))))) else (none))) = some r := H
                                        have A116 := Aside0.mk A1160
                                        clear A1160
                                        replace H := Option.bind_eq_some_iff.mp H
                                        obtain ⟨t347, A1170, H⟩ := H
                                        replace H : (if t347 = true then ((table_Count.f kj56 l0_0).bind fun t348 => ((tallymanref10_Pages.f kj56 l0_0).bind fun t349 => (some (t348 == (t349.length : Int))))) else (none)) = some r := H
                                        have A117 := Aside0.mk A1170
                                        clear A1170
                                        by_cases c118 : t347 = true
                                        · subst c118
                                          have H1 : ((table_Count.f kj56 l0_0).bind fun t348 => ((tallymanref10_Pages.f kj56 l0_0).bind fun t349 => (some (t348 == (t349.length : Int))))) = some r := by rw [if_pos rfl] at H; exact H
                                          clear H
                                          have H := H1
                                          clear H1
                                          replace H := Option.bind_eq_some_iff.mp H
                                          obtain ⟨t348, A1190, H⟩ := H
                                          replace H : ((tallymanref10_Pages.f kj56 l0_0).bind fun t349 => (some (t348 == (t349.length : Int)))) = some r := H
                                          have A119 := Aside0.mk A1190
                                          clear A1190
                                          replace H := Option.bind_eq_some_iff.mp H
                                          obtain ⟨t349, A1200, H⟩ := H
                                          replace H : (some (t348 == (t349.length : Int))) = some r := H
                                          have A120 := Aside0.mk A1200
                                          clear A1200
                                          obtain rfl := Option.some.inj H
                                          have hnb121 := NB285_295.out
                                          have hnc121 := NB295_285.out
                                          have hnb122 := NB285_300.out
                                          have hnc122 := NB300_285.out
                                          have hcz123_0 : wc.cell? ⟨gb285, 0, none⟩ = some (.slice A0_0 l0_0.length c0_0) := (blk_cell BK285.out 0).trans rfl
                                          have hfz123_0 := blk_frozen BK285.out 0
                                          try go_wp2_with (first | ((with_reducible refine gate_callee (f := 12) rfl ?_); refine goesL_ (some 129) rfl rfl Try.func12 (by kernel_rfl) rfl #[.agg #[.slice A0_0 l0_0.length c0_0], .int .i64 a2] rfl (by (try simp only [List.map_toArray, List.map_cons, List.map_nil]); first | done | rfl | (simp only [List.length_drop, List.length_take]; rfl)) ?_; (with_reducible refine (table_Find.calls kj56 _ _ l0_0 a2 t315 t316 _ ?side1 ?side2 A98.out).mono ?_); (case side1 => repeat (first | exact (Kd.C_below HR0_0.out HB.out) | (with_reducible refine Kd.C_alloc ?_ _) | (with_reducible refine Kd.C_drewN ?_ _) | (with_reducible refine Kd.C_drew ?_))); (case side2 => exact HC0_0.out); rintro e w124 ⟨rfl, hb⟩; refine ⟨_, rfl, ?_⟩; have n0_ := Aside0.mk (Kd.V_below (by (with_reducible repeat (first | apply Kd.V_alloc | apply Kd.V_drewN | apply Kd.V_drew)); exact HO_296000.out) hb); have n1_ := Aside0.mk (Kd.V_below (by (with_reducible repeat (first | apply Kd.V_alloc | apply Kd.V_drewN | apply Kd.V_drew)); exact HO_301000.out) hb); have n2_ := Aside0.mk (blk_below (g := gb285) (o := .cells #[.slice A0_0 l0_0.length c0_0] 24 (0, 0)) (by (with_reducible repeat (first | refine blk_drewN ?_ _ | refine blk_drew ?_ | refine blk_alloc ?_ _)); exact BK285.out) hb); have n3_ := Aside0.mk (blk_below (g := gb295) (o := .cells #[.slice Ao62 t302.length co62] 24 (0, 0)) (by (with_reducible repeat (first | refine blk_drewN ?_ _ | refine blk_drew ?_ | refine blk_alloc ?_ _)); exact BK295.out) hb); have n4_ := Aside0.mk (blk_below (g := gb300) (o := .cells #[.slice Ao67 t306.length co67] 24 (0, 0)) (by (with_reducible repeat (first | refine blk_drewN ?_ _ | refine blk_drew ?_ | refine blk_alloc ?_ _)); exact BK300.out) hb); have n5_ := Aside0.mk (below_step (by repeat (first | (with_reducible first | exact HB.out | apply below_alloc | apply pw_below_drewN | apply below_drew1 | refine below_set ?_ GE285.out | refine below_set ?_ GE295.out | refine below_set ?_ GE300.out) | exact HB.out)) hb); clear HO_296000; clear HO_301000; clear BK285; clear BK295; clear BK300; clear HB; have HO_296000 := n0_; have HO_301000 := n1_; have BK285 := n2_; have BK295 := n3_; have BK300 := n4_; have HB := n5_; clear n0_ n1_ n2_ n3_ n4_ n5_; (try clear hb); (try clear hb2); (try clear hk); (try clear hi); have hcz125_0 : w124.cell? ⟨gb285, 0, none⟩ = some (.slice A0_0 l0_0.length c0_0) := (blk_cell BK285.out 0).trans rfl; have hfz125_0 := blk_frozen BK285.out 0) | ((with_reducible refine gate_callee (f := 26) rfl ?_); refine goesL_ (some 135) rfl rfl Try.func26 (by kernel_rfl) rfl #[.agg #[.slice A0_0 l0_0.length c0_0], .int .i64 a2] rfl (by (try simp only [List.map_toArray, List.map_cons, List.map_nil]); first | done | rfl | (simp only [List.length_drop, List.length_take]; rfl)) ?_; (with_reducible refine (tallymanref10_Find.calls kj56 _ _ l0_0 a2 t317 t318 _ ?side1 ?side2 A99.out).mono ?_); (case side1 => repeat (first | exact (Kd.C_below HR0_0.out HB.out) | (with_reducible refine Kd.C_alloc ?_ _) | (with_reducible refine Kd.C_drewN ?_ _) | (with_reducible refine Kd.C_drew ?_))); (case side2 => exact HC0_0.out); rintro e w126 ⟨rfl, hb⟩; refine ⟨_, rfl, ?_⟩; have n0_ := Aside0.mk (Kd.V_below (by (with_reducible repeat (first | apply Kd.V_alloc | apply Kd.V_drewN | apply Kd.V_drew)); exact HO_296000.out) hb); have n1_ := Aside0.mk (Kd.V_below (by (with_reducible repeat (first | apply Kd.V_alloc | apply Kd.V_drewN | apply Kd.V_drew)); exact HO_301000.out) hb); have n2_ := Aside0.mk (blk_below (g := gb285) (o := .cells #[.slice A0_0 l0_0.length c0_0] 24 (0, 0)) (by (with_reducible repeat (first | refine blk_drewN ?_ _ | refine blk_drew ?_ | refine blk_alloc ?_ _)); exact BK285.out) hb); have n3_ := Aside0.mk (blk_below (g := gb295) (o := .cells #[.slice Ao62 t302.length co62] 24 (0, 0)) (by (with_reducible repeat (first | refine blk_drewN ?_ _ | refine blk_drew ?_ | refine blk_alloc ?_ _)); exact BK295.out) hb); have n4_ := Aside0.mk (blk_below (g := gb300) (o := .cells #[.slice Ao67 t306.length co67] 24 (0, 0)) (by (with_reducible repeat (first | refine blk_drewN ?_ _ | refine blk_drew ?_ | refine blk_alloc ?_ _)); exact BK300.out) hb); have n5_ := Aside0.mk (below_step (by repeat (first | (with_reducible first | exact HB.out | apply below_alloc | apply pw_below_drewN | apply below_drew1 | refine below_set ?_ GE285.out | refine below_set ?_ GE295.out | refine below_set ?_ GE300.out) | exact HB.out)) hb); clear HO_296000; clear HO_301000; clear BK285; clear BK295; clear BK300; clear HB; have HO_296000 := n0_; have HO_301000 := n1_; have BK285 := n2_; have BK295 := n3_; have BK300 := n4_; have HB := n5_; clear n0_ n1_ n2_ n3_ n4_ n5_; (try clear hb); (try clear hb2); (try clear hk); (try clear hi); have hcz127_0 : w126.cell? ⟨gb285, 0, none⟩ = some (.slice A0_0 l0_0.length c0_0) := (blk_cell BK285.out 0).trans rfl; have hfz127_0 := blk_frozen BK285.out 0) | ((with_reducible refine gate_callee (f := 21) rfl ?_); refine goesL_ (some 140) rfl rfl Try.func21 (by kernel_rfl) rfl #[.agg #[.slice A0_0 l0_0.length c0_0]] rfl (by (try simp only [List.map_toArray, List.map_cons, List.map_nil]); first | done | rfl | (simp only [List.length_drop, List.length_take]; rfl)) ?_; (with_reducible refine (table_Bytes.calls kj56 _ _ l0_0 t319 t322 _ ?side1 ?side2 A100.out).mono ?_); (case side1 => repeat (first | exact (Kd.C_below HR0_0.out HB.out) | (with_reducible refine Kd.C_alloc ?_ _) | (with_reducible refine Kd.C_drewN ?_ _) | (with_reducible refine Kd.C_drew ?_))); (case side2 => exact HC0_0.out); rintro e w128 ⟨v320, rfl, ho0, hb⟩; refine ⟨_, rfl, ?_⟩; have n0_ := Aside0.mk (Kd.V_elder' (by (with_reducible repeat (first | apply Kd.V_alloc | apply Kd.V_drewN | apply Kd.V_drew)); exact HO_296000.out) (Kd.R_base ho0) hb); have n1_ := Aside0.mk (Kd.V_elder' (by (with_reducible repeat (first | apply Kd.V_alloc | apply Kd.V_drewN | apply Kd.V_drew)); exact HO_301000.out) (Kd.R_base ho0) hb); have n2_ := Aside0.mk (Kd.R_lower ho0 (below_size (by repeat (first | (with_reducible first | exact HB.out | apply below_alloc | apply pw_below_drewN | apply below_drew1 | refine below_set ?_ GE285.out | refine below_set ?_ GE295.out | refine below_set ?_ GE300.out) | exact HB.out)))); have n3_ := Aside0.mk (blk_below (g := gb285) (o := .cells #[.slice A0_0 l0_0.length c0_0] 24 (0, 0)) (by (with_reducible repeat (first | refine blk_drewN ?_ _ | refine blk_drew ?_ | refine blk_alloc ?_ _)); exact BK285.out) hb); have n4_ := Aside0.mk (blk_below (g := gb295) (o := .cells #[.slice Ao62 t302.length co62] 24 (0, 0)) (by (with_reducible repeat (first | refine blk_drewN ?_ _ | refine blk_drew ?_ | refine blk_alloc ?_ _)); exact BK295.out) hb); have n5_ := Aside0.mk (blk_below (g := gb300) (o := .cells #[.slice Ao67 t306.length co67] 24 (0, 0)) (by (with_reducible repeat (first | refine blk_drewN ?_ _ | refine blk_drew ?_ | refine blk_alloc ?_ _)); exact BK300.out) hb); have n6_ := Aside0.mk (below_step (by repeat (first | (with_reducible first | exact HB.out | apply below_alloc | apply pw_below_drewN | apply below_drew1 | refine below_set ?_ GE285.out | refine below_set ?_ GE295.out | refine below_set ?_ GE300.out) | exact HB.out)) hb); clear HO_296000; clear HO_301000; clear BK285; clear BK295; clear BK300; clear HB; have HO_296000 := n0_; have HO_301000 := n1_; have HO321 := n2_; have BK285 := n3_; have BK295 := n4_; have BK300 := n5_; have HB := n6_; clear n0_ n1_ n2_ n3_ n4_ n5_ n6_; (try clear hb); (try clear hb2); (try clear hk); (try clear hi); (try clear ho0); have hcz129_0 : w128.cell? ⟨gb285, 0, none⟩ = some (.slice A0_0 l0_0.length c0_0) := (blk_cell BK285.out 0).trans rfl; have hfz129_0 := blk_frozen BK285.out 0) | ((with_reducible refine gate_callee (f := 27) rfl ?_); refine goesL_ (some 145) rfl rfl Try.func27 (by kernel_rfl) rfl #[.agg #[.slice A0_0 l0_0.length c0_0]] rfl (by (try simp only [List.map_toArray, List.map_cons, List.map_nil]); first | done | rfl | (simp only [List.length_drop, List.length_take]; rfl)) ?_; (with_reducible refine (tallymanref10_Bytes.calls kj56 _ _ l0_0 t323 t326 _ ?side1 ?side2 A101.out).mono ?_); (case side1 => repeat (first | exact (Kd.C_below HR0_0.out HB.out) | (with_reducible refine Kd.C_alloc ?_ _) | (with_reducible refine Kd.C_drewN ?_ _) | (with_reducible refine Kd.C_drew ?_))); (case side2 => exact HC0_0.out); rintro e w130 ⟨v324, rfl, ho0, hb⟩; refine ⟨_, rfl, ?_⟩; have n0_ := Aside0.mk (Kd.V_elder' (by (with_reducible repeat (first | apply Kd.V_alloc | apply Kd.V_drewN | apply Kd.V_drew)); exact HO_296000.out) (Kd.R_base ho0) hb); have n1_ := Aside0.mk (Kd.V_elder' (by (with_reducible repeat (first | apply Kd.V_alloc | apply Kd.V_drewN | apply Kd.V_drew)); exact HO_301000.out) (Kd.R_base ho0) hb); have n2_ := Aside0.mk (Kd.R_elder' (by (with_reducible repeat (first | apply Kd.R_alloc | apply Kd.R_drewN | apply Kd.R_drew)); exact HO321.out) (Kd.R_base ho0) hb); have n3_ := Aside0.mk (Kd.R_lower (Kd.R_new' ho0 (Kd.R_lt (by (with_reducible repeat (first | apply Kd.R_alloc | apply Kd.R_drewN | apply Kd.R_drew)); exact HO321.out))) (below_size (by repeat (first | (with_reducible first | exact HB.out | apply below_alloc | apply pw_below_drewN | apply below_drew1 | refine below_set ?_ GE285.out | refine below_set ?_ GE295.out | refine below_set ?_ GE300.out) | exact HB.out)))); have n4_ := Aside0.mk (blk_below (g := gb285) (o := .cells #[.slice A0_0 l0_0.length c0_0] 24 (0, 0)) (by (with_reducible repeat (first | refine blk_drewN ?_ _ | refine blk_drew ?_ | refine blk_alloc ?_ _)); exact BK285.out) hb); have n5_ := Aside0.mk (blk_below (g := gb295) (o := .cells #[.slice Ao62 t302.length co62] 24 (0, 0)) (by (with_reducible repeat (first | refine blk_drewN ?_ _ | refine blk_drew ?_ | refine blk_alloc ?_ _)); exact BK295.out) hb); have n6_ := Aside0.mk (blk_below (g := gb300) (o := .cells #[.slice Ao67 t306.length co67] 24 (0, 0)) (by (with_reducible repeat (first | refine blk_drewN ?_ _ | refine blk_drew ?_ | refine blk_alloc ?_ _)); exact BK300.out) hb); have n7_ := Aside0.mk (below_step (by repeat (first | (with_reducible first | exact HB.out | apply below_alloc | apply pw_below_drewN | apply below_drew1 | refine below_set ?_ GE285.out | refine below_set ?_ GE295.out | refine below_set ?_ GE300.out) | exact HB.out)) hb); clear HO_296000; clear HO_301000; clear HO321; clear BK285; clear BK295; clear BK300; clear HB; have HO_296000 := n0_; have HO_301000 := n1_; have HO321 := n2_; have HO325 := n3_; have BK285 := n4_; have BK295 := n5_; have BK300 := n6_; have HB := n7_; clear n0_ n1_ n2_ n3_ n4_ n5_ n6_ n7_; (try clear hb); (try clear hb2); (try clear hk); (try clear hi); (try clear ho0)) | ((with_reducible refine gate_callee (f := 20) rfl ?_); refine goesL_ (some 150) rfl rfl Try.func20 (by kernel_rfl) rfl #[.slice A3 l3.length c3] rfl (by (try simp only [List.map_toArray, List.map_cons, List.map_nil]); first | done | rfl | (simp only [List.length_drop, List.length_take]; rfl)) ?_; (with_reducible refine (tallymankit_Own.calls _ _ l3 t327 _ ?side1 ?side2 A102.out).mono ?_); (case side1 => repeat (first | exact (Kd.C_below HR3.out HB.out) | (with_reducible refine Kd.C_alloc ?_ _) | (with_reducible refine Kd.C_drewN ?_ _) | (with_reducible refine Kd.C_drew ?_))); (case side2 => exact HC3.out); rintro e w131 ⟨v328, rfl, ho0, hb⟩; refine ⟨_, rfl, ?_⟩; have n0_ := Aside0.mk (Kd.V_elder' (by (with_reducible repeat (first | apply Kd.V_alloc | apply Kd.V_drewN | apply Kd.V_drew)); exact HO_296000.out) (Kd.R_base ho0) hb); have n1_ := Aside0.mk (Kd.V_elder' (by (with_reducible repeat (first | apply Kd.V_alloc | apply Kd.V_drewN | apply Kd.V_drew)); exact HO_301000.out) (Kd.R_base ho0) hb); have n2_ := Aside0.mk (Kd.R_elder' (by (with_reducible repeat (first | apply Kd.R_alloc | apply Kd.R_drewN | apply Kd.R_drew)); exact HO321.out) (Kd.R_base ho0) hb); have n3_ := Aside0.mk (Kd.R_elder' (by (with_reducible repeat (first | apply Kd.R_alloc | apply Kd.R_drewN | apply Kd.R_drew)); exact HO325.out) (Kd.R_base ho0) hb); have n4_ := Aside0.mk (Kd.R_lower (Kd.R_new' (Kd.R_new' ho0 (Kd.R_lt (by (with_reducible repeat (first | apply Kd.R_alloc | apply Kd.R_drewN | apply Kd.R_drew)); exact HO321.out))) (Kd.R_lt (by (with_reducible repeat (first | apply Kd.R_alloc | apply Kd.R_drewN | apply Kd.R_drew)); exact HO325.out))) (below_size (by repeat (first | (with_reducible first | exact HB.out | apply below_alloc | apply pw_below_drewN | apply below_drew1 | refine below_set ?_ GE285.out | refine below_set ?_ GE295.out | refine below_set ?_ GE300.out) | exact HB.out)))); have n5_ := Aside0.mk (blk_below (g := gb285) (o := .cells #[.slice A0_0 l0_0.length c0_0] 24 (0, 0)) (by (with_reducible repeat (first | refine blk_drewN ?_ _ | refine blk_drew ?_ | refine blk_alloc ?_ _)); exact BK285.out) hb); have n6_ := Aside0.mk (blk_below (g := gb295) (o := .cells #[.slice Ao62 t302.length co62] 24 (0, 0)) (by (with_reducible repeat (first | refine blk_drewN ?_ _ | refine blk_drew ?_ | refine blk_alloc ?_ _)); exact BK295.out) hb); have n7_ := Aside0.mk (blk_below (g := gb300) (o := .cells #[.slice Ao67 t306.length co67] 24 (0, 0)) (by (with_reducible repeat (first | refine blk_drewN ?_ _ | refine blk_drew ?_ | refine blk_alloc ?_ _)); exact BK300.out) hb); have n8_ := Aside0.mk (below_step (by repeat (first | (with_reducible first | exact HB.out | apply below_alloc | apply pw_below_drewN | apply below_drew1 | refine below_set ?_ GE285.out | refine below_set ?_ GE295.out | refine below_set ?_ GE300.out) | exact HB.out)) hb); clear HO_296000; clear HO_301000; clear HO321; clear HO325; clear BK285; clear BK295; clear BK300; clear HB; have HO_296000 := n0_; have HO_301000 := n1_; have HO321 := n2_; have HO325 := n3_; have HO329 := n4_; have BK285 := n5_; have BK295 := n6_; have BK300 := n7_; have HB := n8_; clear n0_ n1_ n2_ n3_ n4_ n5_ n6_ n7_ n8_; (try clear hb); (try clear hb2); (try clear hk); (try clear hi); (try clear ho0); obtain ⟨Ao132, co132, eo132⟩ := Kd.R_slice HO329.out; subst eo132) | ((with_reducible refine gate_callee (f := 19) rfl ?_); refine goesL_ (some 151) rfl rfl Try.func19 (by kernel_rfl) rfl #[.slice Ao132 t327.length co132] rfl (by (try simp only [List.map_toArray, List.map_cons, List.map_nil]); first | done | rfl | (simp only [List.length_drop, List.length_take]; rfl)) ?_; (with_reducible refine (table_Read.calls _ _ t327 t330 t333 _ ?side1 ?side2 A103.out).mono ?_); (case side1 => repeat (first | exact (Kd.R_reads' HO329.out).2.2 | (with_reducible refine Kd.C_alloc ?_ _) | (with_reducible refine Kd.C_drewN ?_ _) | (with_reducible refine Kd.C_drew ?_))); (case side2 => exact (Kd.R_reads' HO329.out).2.1); rintro e w133 ⟨v331, rfl, ho0, hb⟩; refine ⟨_, rfl, ?_⟩; have n0_ := Aside0.mk (Kd.V_elder' (by (with_reducible repeat (first | apply Kd.V_alloc | apply Kd.V_drewN | apply Kd.V_drew)); exact HO_296000.out) (Kd.R_base ho0) hb); have n1_ := Aside0.mk (Kd.V_elder' (by (with_reducible repeat (first | apply Kd.V_alloc | apply Kd.V_drewN | apply Kd.V_drew)); exact HO_301000.out) (Kd.R_base ho0) hb); have n2_ := Aside0.mk (Kd.R_below (by (with_reducible repeat (first | apply Kd.R_alloc | apply Kd.R_drewN | apply Kd.R_drew)); exact HO321.out) hb); have n3_ := Aside0.mk (Kd.R_below (by (with_reducible repeat (first | apply Kd.R_alloc | apply Kd.R_drewN | apply Kd.R_drew)); exact HO325.out) hb); have n4_ := Aside0.mk (Kd.R_below (by (with_reducible repeat (first | apply Kd.R_alloc | apply Kd.R_drewN | apply Kd.R_drew)); exact HO329.out) hb); have n5_ := Aside0.mk (Kd.R_lower ho0 (below_size (by repeat (first | (with_reducible first | exact HB.out | apply below_alloc | apply pw_below_drewN | apply below_drew1 | refine below_set ?_ GE285.out | refine below_set ?_ GE295.out | refine below_set ?_ GE300.out) | exact HB.out)))); have n6_ := Aside0.mk (blk_below (g := gb285) (o := .cells #[.slice A0_0 l0_0.length c0_0] 24 (0, 0)) (by (with_reducible repeat (first | refine blk_drewN ?_ _ | refine blk_drew ?_ | refine blk_alloc ?_ _)); exact BK285.out) hb); have n7_ := Aside0.mk (blk_below (g := gb295) (o := .cells #[.slice Ao62 t302.length co62] 24 (0, 0)) (by (with_reducible repeat (first | refine blk_drewN ?_ _ | refine blk_drew ?_ | refine blk_alloc ?_ _)); exact BK295.out) hb); have n8_ := Aside0.mk (blk_below (g := gb300) (o := .cells #[.slice Ao67 t306.length co67] 24 (0, 0)) (by (with_reducible repeat (first | refine blk_drewN ?_ _ | refine blk_drew ?_ | refine blk_alloc ?_ _)); exact BK300.out) hb); have n9_ := Aside0.mk (below_step (by repeat (first | (with_reducible first | exact HB.out | apply below_alloc | apply pw_below_drewN | apply below_drew1 | refine below_set ?_ GE285.out | refine below_set ?_ GE295.out | refine below_set ?_ GE300.out) | exact HB.out)) hb); clear HO_296000; clear HO_301000; clear HO321; clear HO325; clear HO329; clear BK285; clear BK295; clear BK300; clear HB; have HO_296000 := n0_; have HO_301000 := n1_; have HO321 := n2_; have HO325 := n3_; have HO329 := n4_; have HO332 := n5_; have BK285 := n6_; have BK295 := n7_; have BK300 := n8_; have HB := n9_; clear n0_ n1_ n2_ n3_ n4_ n5_ n6_ n7_ n8_ n9_; (try clear hb); (try clear hb2); (try clear hk); (try clear hi); (try clear ho0); obtain ⟨Ao134, co134, eo134⟩ := Kd.R_slice HO332.out; subst eo134; have hnb135 := NB295_300.out; have hnc135 := NB300_295.out; have hcz136_0 : w133.cell? ⟨gb295, 0, none⟩ = some (.slice Ao62 t302.length co62) := (blk_cell BK295.out 0).trans rfl; have hfz136_0 := blk_frozen BK295.out 0) | ((with_reducible refine gate_callee (f := 28) rfl ?_); refine goesL_ (some 156) rfl rfl Try.func28 (by kernel_rfl) rfl #[.slice A3 l3.length c3] rfl (by (try simp only [List.map_toArray, List.map_cons, List.map_nil]); first | done | rfl | (simp only [List.length_drop, List.length_take]; rfl)) ?_; (with_reducible refine (tallymanref10_Read.calls _ _ l3 t334 t337 _ ?side1 ?side2 A104.out).mono ?_); (case side1 => exact Kd.C_below HR3.out (by repeat (first | (with_reducible first | exact HB.out | apply below_alloc | apply pw_below_drewN | apply below_drew1 | refine below_set ?_ GE285.out | refine below_set ?_ GE295.out | refine below_set ?_ GE300.out) | exact HB.out))); (case side2 => exact HC3.out); rintro e w137 ⟨v335, rfl, ho0, hb⟩; refine ⟨_, rfl, ?_⟩; have n0_ := Aside0.mk (Kd.V_elder' (by (with_reducible repeat (first | apply Kd.V_alloc | apply Kd.V_drewN | apply Kd.V_drew)); exact (Kd.V_mono (Kd.V_far (p := ⟨gb295, 0, none⟩) (Kd.V_mono HO_296000.out (fun k_ hk => (⟨hk, hk.1.1.1.1.2.1⟩ : _ ∧ k_ ≠ gb295))) (fun _ hk => hk.2) (.slice Ao134 t330.length co134)) (fun _ h_ => h_.1))) (Kd.R_base ho0) hb); have n1_ := Aside0.mk (Kd.V_elder' (by (with_reducible repeat (first | apply Kd.V_alloc | apply Kd.V_drewN | apply Kd.V_drew)); exact (Kd.V_mono (Kd.V_far (p := ⟨gb295, 0, none⟩) (Kd.V_mono HO_301000.out (fun k_ hk => (⟨hk, hk.1.1.1.1.2.1⟩ : _ ∧ k_ ≠ gb295))) (fun _ hk => hk.2) (.slice Ao134 t330.length co134)) (fun _ h_ => h_.1))) (Kd.R_base ho0) hb); have n2_ := Aside0.mk (Kd.R_below (by (with_reducible repeat (first | apply Kd.R_alloc | apply Kd.R_drewN | apply Kd.R_drew)); exact (Kd.R_mono (Kd.R_far (p := ⟨gb295, 0, none⟩) (Kd.R_types HO321.out BK295.out (by decide)) (fun _ hk => hk.2) (.slice Ao134 t330.length co134)) (fun _ h_ => h_.1))) hb); have n3_ := Aside0.mk (Kd.R_below (by (with_reducible repeat (first | apply Kd.R_alloc | apply Kd.R_drewN | apply Kd.R_drew)); exact (Kd.R_mono (Kd.R_far (p := ⟨gb295, 0, none⟩) (Kd.R_types HO325.out BK295.out (by decide)) (fun _ hk => hk.2) (.slice Ao134 t330.length co134)) (fun _ h_ => h_.1))) hb); have n4_ := Aside0.mk (Kd.R_below (by (with_reducible repeat (first | apply Kd.R_alloc | apply Kd.R_drewN | apply Kd.R_drew)); exact (Kd.R_mono (Kd.R_far (p := ⟨gb295, 0, none⟩) (Kd.R_types HO329.out BK295.out (by decide)) (fun _ hk => hk.2) (.slice Ao134 t330.length co134)) (fun _ h_ => h_.1))) hb); have n5_ := Aside0.mk (Kd.R_elder' (by (with_reducible repeat (first | apply Kd.R_alloc | apply Kd.R_drewN | apply Kd.R_drew)); exact (Kd.R_mono (Kd.R_far (p := ⟨gb295, 0, none⟩) (Kd.R_types HO332.out BK295.out (by decide)) (fun _ hk => hk.2) (.slice Ao134 t330.length co134)) (fun _ h_ => h_.1))) (Kd.R_base ho0) hb); have n6_ := Aside0.mk (Kd.R_lower (Kd.R_new' ho0 (Kd.R_lt (by (with_reducible repeat (first | apply Kd.R_alloc | apply Kd.R_drewN | apply Kd.R_drew)); exact (Kd.R_mono (Kd.R_far (p := ⟨gb295, 0, none⟩) (Kd.R_types HO332.out BK295.out (by decide)) (fun _ hk => hk.2) (.slice Ao134 t330.length co134)) (fun _ h_ => h_.1))))) (below_size (by repeat (first | (with_reducible first | exact HB.out | apply below_alloc | apply pw_below_drewN | apply below_drew1 | refine below_set ?_ GE285.out | refine below_set ?_ GE295.out | refine below_set ?_ GE300.out) | exact HB.out)))); have n7_ := Aside0.mk (blk_below (g := gb285) (o := .cells #[.slice A0_0 l0_0.length c0_0] 24 (0, 0)) (by (with_reducible repeat (first | refine blk_drewN ?_ _ | refine blk_drew ?_ | refine blk_alloc ?_ _)); refine blk_far ?_ NB285_295.out _; (with_reducible repeat (first | refine blk_drewN ?_ _ | refine blk_drew ?_ | refine blk_alloc ?_ _)); exact BK285.out) hb); have n8_ := Aside0.mk (blk_below (g := gb295) (o := .cells #[.slice Ao134 t330.length co134] 24 (0, 0)) (by (with_reducible repeat (first | refine blk_drewN ?_ _ | refine blk_drew ?_ | refine blk_alloc ?_ _)); refine blk_put (cs := #[.slice Ao62 t302.length co62]) ?_ 0 _ rfl; (with_reducible repeat (first | refine blk_drewN ?_ _ | refine blk_drew ?_ | refine blk_alloc ?_ _)); exact BK295.out) hb); have n9_ := Aside0.mk (blk_below (g := gb300) (o := .cells #[.slice Ao67 t306.length co67] 24 (0, 0)) (by (with_reducible repeat (first | refine blk_drewN ?_ _ | refine blk_drew ?_ | refine blk_alloc ?_ _)); refine blk_far ?_ NB300_295.out _; (with_reducible repeat (first | refine blk_drewN ?_ _ | refine blk_drew ?_ | refine blk_alloc ?_ _)); exact BK300.out) hb); have n10_ := Aside0.mk (below_step (by repeat (first | (with_reducible first | exact HB.out | apply below_alloc | apply pw_below_drewN | apply below_drew1 | refine below_set ?_ GE285.out | refine below_set ?_ GE295.out | refine below_set ?_ GE300.out) | exact HB.out)) hb); clear HO_296000; clear HO_301000; clear HO321; clear HO325; clear HO329; clear HO332; clear BK285; clear BK295; clear BK300; clear HB; have HO_296000 := n0_; have HO_301000 := n1_; have HO321 := n2_; have HO325 := n3_; have HO329 := n4_; have HO332 := n5_; have HO336 := n6_; have BK285 := n7_; have BK295 := n8_; have BK300 := n9_; have HB := n10_; clear n0_ n1_ n2_ n3_ n4_ n5_ n6_ n7_ n8_ n9_ n10_; (try clear hb); (try clear hb2); (try clear hk); (try clear hi); (try clear ho0); obtain ⟨Ao138, co138, eo138⟩ := Kd.R_slice HO336.out; subst eo138; have hcz139_0 : w137.cell? ⟨gb300, 0, none⟩ = some (.slice Ao67 t306.length co67) := (blk_cell BK300.out 0).trans rfl; have hfz139_0 := blk_frozen BK300.out 0))
                                          have n0_ : Aside0 (Kd.V (Kd.int .i64) 3 (w137.setCell ⟨gb300, 0, none⟩ (.slice Ao138 t334.length co138)) w.heap.size (fun k_ => some k_ ≠ (v320 : Value).ownBlock ∧ some k_ ≠ (v324 : Value).ownBlock ∧ some k_ ≠ (.slice Ao132 t327.length co132 : Value).ownBlock ∧ some k_ ≠ (.slice Ao134 t330.length co134 : Value).ownBlock ∧ some k_ ≠ (.slice Ao138 t334.length co138 : Value).ownBlock ∧ k_ ≠ gb285 ∧ k_ ≠ gb295 ∧ k_ ≠ gb300) (.slice Ao62 t302.length co62) t302) := ⟨by (with_reducible repeat (first | apply Kd.V_alloc | apply Kd.V_drewN | apply Kd.V_drew)); exact Kd.V_mono (Kd.V_far (p := ⟨gb300, 0, none⟩) (Kd.V_mono HO_296000.out (fun k_ hk => (⟨hk, hk.1.1.1.1.1.2.2⟩ : _ ∧ k_ ≠ gb300))) (fun _ hk => hk.2) (.slice Ao138 t334.length co138)) (fun _ hk => ⟨hk.1.1.1.1.1.2, ⟨hk.1.1.1.1.2, ⟨hk.1.1.1.2, ⟨hk.1.1.2, ⟨hk.1.2, ⟨hk.1.1.1.1.1.1.1, ⟨hk.1.1.1.1.1.1.2.1, hk.1.1.1.1.1.1.2.2⟩⟩⟩⟩⟩⟩⟩)⟩
                                          have n1_ : Aside0 (Kd.V (Kd.int .i64) 3 (w137.setCell ⟨gb300, 0, none⟩ (.slice Ao138 t334.length co138)) w.heap.size (fun k_ => some k_ ≠ (v320 : Value).ownBlock ∧ some k_ ≠ (v324 : Value).ownBlock ∧ some k_ ≠ (.slice Ao132 t327.length co132 : Value).ownBlock ∧ some k_ ≠ (.slice Ao134 t330.length co134 : Value).ownBlock ∧ some k_ ≠ (.slice Ao138 t334.length co138 : Value).ownBlock ∧ k_ ≠ gb285 ∧ k_ ≠ gb295 ∧ k_ ≠ gb300) (.slice Ao67 t306.length co67) t306) := ⟨by (with_reducible repeat (first | apply Kd.V_alloc | apply Kd.V_drewN | apply Kd.V_drew)); exact Kd.V_mono (Kd.V_far (p := ⟨gb300, 0, none⟩) (Kd.V_mono HO_301000.out (fun k_ hk => (⟨hk, hk.1.1.1.1.1.2.2⟩ : _ ∧ k_ ≠ gb300))) (fun _ hk => hk.2) (.slice Ao138 t334.length co138)) (fun _ hk => ⟨hk.1.1.1.1.1.2, ⟨hk.1.1.1.1.2, ⟨hk.1.1.1.2, ⟨hk.1.1.2, ⟨hk.1.2, ⟨hk.1.1.1.1.1.1.1, ⟨hk.1.1.1.1.1.1.2.1, hk.1.1.1.1.1.1.2.2⟩⟩⟩⟩⟩⟩⟩)⟩
                                          have n2_ : Aside0 (Kd.R (Kd.int .u8) 5 (w137.setCell ⟨gb300, 0, none⟩ (.slice Ao138 t334.length co138)) w.heap.size (fun k_ => some k_ ≠ (v324 : Value).ownBlock ∧ some k_ ≠ (.slice Ao132 t327.length co132 : Value).ownBlock) v320 t319) := ⟨by (with_reducible repeat (first | apply Kd.R_alloc | apply Kd.R_drewN | apply Kd.R_drew)); exact Kd.R_mono (Kd.R_far (p := ⟨gb300, 0, none⟩) (Kd.R_types HO321.out BK300.out (by decide)) (fun _ hk => hk.2) (.slice Ao138 t334.length co138)) (fun _ hk => ⟨hk.1.1.2, hk.1.2⟩)⟩
                                          have n3_ : Aside0 (Kd.R (Kd.int .u8) 5 (w137.setCell ⟨gb300, 0, none⟩ (.slice Ao138 t334.length co138)) w.heap.size (fun k_ => some k_ ≠ (v320 : Value).ownBlock ∧ some k_ ≠ (.slice Ao132 t327.length co132 : Value).ownBlock) v324 t323) := ⟨by (with_reducible repeat (first | apply Kd.R_alloc | apply Kd.R_drewN | apply Kd.R_drew)); exact Kd.R_mono (Kd.R_far (p := ⟨gb300, 0, none⟩) (Kd.R_types HO325.out BK300.out (by decide)) (fun _ hk => hk.2) (.slice Ao138 t334.length co138)) (fun _ hk => ⟨hk.1.1.2, hk.1.2⟩)⟩
                                          have n4_ : Aside0 (Kd.R (Kd.int .u8) 5 (w137.setCell ⟨gb300, 0, none⟩ (.slice Ao138 t334.length co138)) w.heap.size (fun k_ => some k_ ≠ (v320 : Value).ownBlock ∧ some k_ ≠ (v324 : Value).ownBlock) (.slice Ao132 t327.length co132) t327) := ⟨by (with_reducible repeat (first | apply Kd.R_alloc | apply Kd.R_drewN | apply Kd.R_drew)); exact Kd.R_mono (Kd.R_far (p := ⟨gb300, 0, none⟩) (Kd.R_types HO329.out BK300.out (by decide)) (fun _ hk => hk.2) (.slice Ao138 t334.length co138)) (fun _ hk => ⟨hk.1.1.2, hk.1.2⟩)⟩
                                          have n5_ : Aside0 (Kd.R (Kd.int .i64) 3 (w137.setCell ⟨gb300, 0, none⟩ (.slice Ao138 t334.length co138)) w.heap.size (fun k_ => some k_ ≠ (.slice Ao138 t334.length co138 : Value).ownBlock) (.slice Ao134 t330.length co134) t330) := ⟨by (with_reducible repeat (first | apply Kd.R_alloc | apply Kd.R_drewN | apply Kd.R_drew)); exact Kd.R_mono (Kd.R_far (p := ⟨gb300, 0, none⟩) (Kd.R_types HO332.out BK300.out (by decide)) (fun _ hk => hk.2) (.slice Ao138 t334.length co138)) (fun _ hk => hk.1.2)⟩
                                          have n6_ : Aside0 (Kd.R (Kd.int .i64) 3 (w137.setCell ⟨gb300, 0, none⟩ (.slice Ao138 t334.length co138)) w.heap.size (fun k_ => some k_ ≠ (.slice Ao134 t330.length co134 : Value).ownBlock) (.slice Ao138 t334.length co138) t334) := ⟨by (with_reducible repeat (first | apply Kd.R_alloc | apply Kd.R_drewN | apply Kd.R_drew)); exact Kd.R_mono (Kd.R_far (p := ⟨gb300, 0, none⟩) (Kd.R_types HO336.out BK300.out (by decide)) (fun _ hk => hk.2) (.slice Ao138 t334.length co138)) (fun _ hk => hk.1.2)⟩
                                          have n7_ : Aside0 ((w137.setCell ⟨gb300, 0, none⟩ (.slice Ao138 t334.length co138)).heap[gb285]? = some (.cells #[.slice A0_0 l0_0.length c0_0] 24 (0, 0))) := ⟨by (with_reducible repeat (first | refine blk_drewN ?_ _ | refine blk_drew ?_ | refine blk_alloc ?_ _)); refine blk_far ?_ NB285_300.out _; (with_reducible repeat (first | refine blk_drewN ?_ _ | refine blk_drew ?_ | refine blk_alloc ?_ _)); exact BK285.out⟩
                                          have n8_ : Aside0 ((w137.setCell ⟨gb300, 0, none⟩ (.slice Ao138 t334.length co138)).heap[gb295]? = some (.cells #[.slice Ao134 t330.length co134] 24 (0, 0))) := ⟨by (with_reducible repeat (first | refine blk_drewN ?_ _ | refine blk_drew ?_ | refine blk_alloc ?_ _)); refine blk_far ?_ NB295_300.out _; (with_reducible repeat (first | refine blk_drewN ?_ _ | refine blk_drew ?_ | refine blk_alloc ?_ _)); exact BK295.out⟩
                                          have n9_ : Aside0 ((w137.setCell ⟨gb300, 0, none⟩ (.slice Ao138 t334.length co138)).heap[gb300]? = some (.cells #[.slice Ao138 t334.length co138] 24 (0, 0))) := ⟨by (with_reducible repeat (first | refine blk_drewN ?_ _ | refine blk_drew ?_ | refine blk_alloc ?_ _)); refine blk_put (cs := #[.slice Ao67 t306.length co67]) ?_ 0 _ rfl; (with_reducible repeat (first | refine blk_drewN ?_ _ | refine blk_drew ?_ | refine blk_alloc ?_ _)); exact BK300.out⟩
                                          have n10_ : Aside0 (Below w.heap.size w (w137.setCell ⟨gb300, 0, none⟩ (.slice Ao138 t334.length co138))) := ⟨by repeat (first | (with_reducible first | exact HB.out | apply below_alloc | apply pw_below_drewN | apply below_drew1 | refine below_set ?_ GE285.out | refine below_set ?_ GE295.out | refine below_set ?_ GE300.out) | exact HB.out)⟩
                                          (try clear HO_296000)
                                          (try clear HO_301000)
                                          (try clear HO321)
                                          (try clear HO325)
                                          (try clear HO329)
                                          (try clear HO332)
                                          (try clear HO336)
                                          (try clear BK285)
                                          (try clear BK295)
                                          (try clear BK300)
                                          (try clear HB)
                                          generalize (w137.setCell ⟨gb300, 0, none⟩ (.slice Ao138 t334.length co138)) = w140 at n0_ n1_ n2_ n3_ n4_ n5_ n6_ n7_ n8_ n9_ n10_ ⊢
                                          have HO_296000 := n0_
                                          have HO_301000 := n1_
                                          have HO321 := n2_
                                          have HO325 := n3_
                                          have HO329 := n4_
                                          have HO332 := n5_
                                          have HO336 := n6_
                                          have BK285 := n7_
                                          have BK295 := n8_
                                          have BK300 := n9_
                                          have HB := n10_
                                          clear n0_ n1_ n2_ n3_ n4_ n5_ n6_ n7_ n8_ n9_ n10_
                                          have n0_ := Aside0.mk (Kd.V_drew HO_296000.out)
                                          have n1_ := Aside0.mk (Kd.V_drew HO_301000.out)
                                          have n2_ := Aside0.mk (Kd.R_drew HO321.out)
                                          have n3_ := Aside0.mk (Kd.R_drew HO325.out)
                                          have n4_ := Aside0.mk (Kd.R_drew HO329.out)
                                          have n5_ := Aside0.mk (Kd.R_drew HO332.out)
                                          have n6_ := Aside0.mk (Kd.R_drew HO336.out)
                                          have n7_ := Aside0.mk (blk_drew BK285.out)
                                          have n8_ := Aside0.mk (blk_drew BK295.out)
                                          have n9_ := Aside0.mk (blk_drew BK300.out)
                                          have n10_ := Aside0.mk (below_drew1 HB.out)
                                          clear HO_296000
                                          clear HO_301000
                                          clear HO321
                                          clear HO325
                                          clear HO329
                                          clear HO332
                                          clear HO336
                                          clear BK285
                                          clear BK295
                                          clear BK300
                                          clear HB
                                          have HO_296000 := n0_
                                          have HO_301000 := n1_
                                          have HO321 := n2_
                                          have HO325 := n3_
                                          have HO329 := n4_
                                          have HO332 := n5_
                                          have HO336 := n6_
                                          have BK285 := n7_
                                          have BK295 := n8_
                                          have BK300 := n9_
                                          have HB := n10_
                                          clear n0_ n1_ n2_ n3_ n4_ n5_ n6_ n7_ n8_ n9_ n10_
                                          refine start_ (n := 55) (S := fun w' => w'.cell? ⟨gb295, 0, none⟩ = some (.slice Ao134 t330.length co134) ∧ w'.cell? ⟨gb300, 0, none⟩ = some (.slice Ao138 t334.length co138) ∧ w'.cell? ⟨gb285, 0, none⟩ = some (.slice A0_0 l0_0.length c0_0)) (ds := []) #[false, false, false, false, false, false, false, false, false, false, false, false, false, false, false, false, false, false, false, false, false, false, false, false, false, false, false, false, false, false, false, false, false, false, false, false, false, false, false, false, false, false, false, false, false, false, false, false, false, false, false, false, false, false, false] (by kernel_rfl) rfl rfl ⟨(blk_cell BK295.out 0).trans rfl, (blk_cell BK300.out 0).trans rfl, (blk_cell BK285.out 0).trans rfl⟩ (fun hHeld => ?_); refine with_tabW tallymanlaw10_TableCalls.tab23 tallymanlaw10_TableCalls.bits23 (fun HT_ HW_ => ?_)
                                          generalize w140.drew = w141 at HO_296000 HO_301000 HO321 HO325 HO329 HO332 HO336 BK285 BK295 BK300 HB hHeld ⊢
                                          refine pure_ (i := 0) (N := some 159) (v := ?_) (a' := ?_) #[true, false, false, false, false, false, false, false, false, false, false, false, false, false, false, false, false, false, false, false, false, false, false, false, false, false, false, false, false, false, false, false, false, false, false, false, false, false, false, false, false, false, false, false, false, false, false, false, false, false, false, false, false, false, false] rfl rfl (any_of HT_.out (by kernel_rfl)) (fun _ _ _ h => h) (Or.inl ⟨by rfl, ?_⟩) ?_ ?_
                                          rotate_left
                                          · intro w'
                                            go_simp
                                            with_reducible rfl
                                          rotate_left
                                          · simp only [Act.put, List.setIfInBounds_toArray, List.set_cons_zero, List.set_cons_succ, i64_w, i32_w]
                                            rfl
                                          refine pure_ (i := 1) (N := some 160) (v := ?_) (a' := ?_) #[true, true, false, false, false, false, false, false, false, false, false, false, false, false, false, false, false, false, false, false, false, false, false, false, false, false, false, false, false, false, false, false, false, false, false, false, false, false, false, false, false, false, false, false, false, false, false, false, false, false, false, false, false, false, false] rfl rfl (any_of HT_.out (by kernel_rfl)) (fun _ _ _ h => h) (Or.inl ⟨by rfl, ?_⟩) ?_ ?_
                                          rotate_left
                                          · intro w'
                                            go_simp
                                            with_reducible rfl
                                          rotate_left
                                          · simp only [Act.put, List.setIfInBounds_toArray, List.set_cons_zero, List.set_cons_succ, i64_w, i32_w]
                                            rfl
                                          refine pure_ (i := 2) (N := some 161) (v := ?_) (a' := ?_) #[true, true, true, false, false, false, false, false, false, false, false, false, false, false, false, false, false, false, false, false, false, false, false, false, false, false, false, false, false, false, false, false, false, false, false, false, false, false, false, false, false, false, false, false, false, false, false, false, false, false, false, false, false, false, false] rfl rfl (any_of HT_.out (by kernel_rfl)) (fun _ _ _ h => h) (Or.inl ⟨by rfl, ?_⟩) ?_ ?_
                                          rotate_left
                                          · intro w'
                                            go_simp
                                            with_reducible rfl
                                          rotate_left
                                          · simp only [Act.put, List.setIfInBounds_toArray, List.set_cons_zero, List.set_cons_succ, i64_w, i32_w]
                                            rfl
                                          refine pure_ (i := 3) (N := some 162) (v := ?_) (a' := ?_) #[true, true, true, true, false, false, false, false, false, false, false, false, false, false, false, false, false, false, false, false, false, false, false, false, false, false, false, false, false, false, false, false, false, false, false, false, false, false, false, false, false, false, false, false, false, false, false, false, false, false, false, false, false, false, false] rfl rfl (any_of HT_.out (by kernel_rfl)) (fun _ _ _ h => h) (Or.inl ⟨by rfl, ?_⟩) ?_ ?_
                                          rotate_left
                                          · intro w'
                                            go_simp
                                            with_reducible rfl
                                          rotate_left
                                          · simp only [Act.put, List.setIfInBounds_toArray, List.set_cons_zero, List.set_cons_succ, i64_w, i32_w]
                                            rfl
                                          refine pure_ (i := 4) (N := some 163) (v := ?_) (a' := ?_) #[true, true, true, true, true, false, false, false, false, false, false, false, false, false, false, false, false, false, false, false, false, false, false, false, false, false, false, false, false, false, false, false, false, false, false, false, false, false, false, false, false, false, false, false, false, false, false, false, false, false, false, false, false, false, false] rfl rfl (any_of HT_.out (by kernel_rfl)) (fun _ _ _ h => h) (Or.inl ⟨by rfl, ?_⟩) ?_ ?_
                                          rotate_left
                                          · intro w'
                                            go_simp
                                            with_reducible rfl
                                          rotate_left
                                          · simp only [Act.put, List.setIfInBounds_toArray, List.set_cons_zero, List.set_cons_succ, i64_w, i32_w]
                                            rfl
                                          refine pure_ (i := 5) (N := some 164) (v := ?_) (a' := ?_) #[true, true, true, true, true, true, false, false, false, false, false, false, false, false, false, false, false, false, false, false, false, false, false, false, false, false, false, false, false, false, false, false, false, false, false, false, false, false, false, false, false, false, false, false, false, false, false, false, false, false, false, false, false, false, false] rfl rfl (any_of HT_.out (by kernel_rfl)) (fun _ _ _ h => h) (Or.inl ⟨by rfl, ?_⟩) ?_ ?_
                                          rotate_left
                                          · intro w'
                                            go_simp
                                            with_reducible rfl
                                          rotate_left
                                          · simp only [Act.put, List.setIfInBounds_toArray, List.set_cons_zero, List.set_cons_succ, i64_w, i32_w]
                                            rfl
                                          refine pure_ (i := 6) (N := some 165) (v := ?_) (a' := ?_) #[true, true, true, true, true, true, true, false, false, false, false, false, false, false, false, false, false, false, false, false, false, false, false, false, false, false, false, false, false, false, false, false, false, false, false, false, false, false, false, false, false, false, false, false, false, false, false, false, false, false, false, false, false, false, false] rfl rfl (any_of HT_.out (by kernel_rfl)) (fun _ _ _ h => h) (Or.inl ⟨by rfl, ?_⟩) ?_ ?_
                                          rotate_left
                                          · intro w'
                                            go_simp
                                            with_reducible rfl
                                          rotate_left
                                          · simp only [Act.put, List.setIfInBounds_toArray, List.set_cons_zero, List.set_cons_succ, i64_w, i32_w]
                                            rfl
                                          refine pure_ (i := 7) (N := some 166) (v := ?_) (a' := ?_) #[true, true, true, true, true, true, true, true, false, false, false, false, false, false, false, false, false, false, false, false, false, false, false, false, false, false, false, false, false, false, false, false, false, false, false, false, false, false, false, false, false, false, false, false, false, false, false, false, false, false, false, false, false, false, false] rfl rfl (any_of HT_.out (by kernel_rfl)) (fun _ _ _ h => h) (Or.inl ⟨by rfl, ?_⟩) ?_ ?_
                                          rotate_left
                                          · intro w'
                                            go_simp
                                            with_reducible rfl
                                          rotate_left
                                          · simp only [Act.put, List.setIfInBounds_toArray, List.set_cons_zero, List.set_cons_succ, i64_w, i32_w]
                                            rfl
                                          refine pure_ (i := 8) (N := some 167) (v := ?_) (a' := ?_) #[true, true, true, true, true, true, true, true, true, false, false, false, false, false, false, false, false, false, false, false, false, false, false, false, false, false, false, false, false, false, false, false, false, false, false, false, false, false, false, false, false, false, false, false, false, false, false, false, false, false, false, false, false, false, false] rfl rfl (any_of HT_.out (by kernel_rfl)) (fun _ _ _ h => h) (Or.inl ⟨by rfl, ?_⟩) ?_ ?_
                                          rotate_left
                                          · intro w'
                                            go_simp
                                            with_reducible rfl
                                          rotate_left
                                          · simp only [Act.put, List.setIfInBounds_toArray, List.set_cons_zero, List.set_cons_succ, i64_w, i32_w]
                                            rfl
                                          refine pure_ (i := 9) (N := some 168) (v := ?_) (a' := ?_) #[true, true, true, true, true, true, true, true, true, true, false, false, false, false, false, false, false, false, false, false, false, false, false, false, false, false, false, false, false, false, false, false, false, false, false, false, false, false, false, false, false, false, false, false, false, false, false, false, false, false, false, false, false, false, false] rfl rfl (any_of HT_.out (by kernel_rfl)) (fun _ _ _ h => h) (Or.inl ⟨by rfl, ?_⟩) ?_ ?_
                                          rotate_left
                                          · intro w'
                                            go_simp
                                            with_reducible rfl
                                          rotate_left
                                          · simp only [Act.put, List.setIfInBounds_toArray, List.set_cons_zero, List.set_cons_succ, i64_w, i32_w]
                                            rfl
                                          refine pure_ (i := 11) (N := some 170) (v := ?_) (a' := ?_) #[true, true, true, true, true, true, true, true, true, true, false, true, false, false, false, false, false, false, false, false, false, false, false, false, false, false, false, false, false, false, false, false, false, false, false, false, false, false, false, false, false, false, false, false, false, false, false, false, false, false, false, false, false, false, false] rfl rfl (any_of HT_.out (by kernel_rfl)) (fun _ _ _ h => h) (Or.inl ⟨by rfl, ?_⟩) ?_ ?_
                                          rotate_left
                                          · intro w'
                                            go_simp
                                            with_reducible rfl
                                          rotate_left
                                          · simp only [Act.put, List.setIfInBounds_toArray, List.set_cons_zero, List.set_cons_succ, i64_w, i32_w]
                                            rfl
                                          refine join_ (σ := Unit) 42 #[true, true, true, true, true, true, true, true, true, true, true, true, true, false, false, false, false, false, false, false, false, false, false, false, false, false, false, false, false, false, false, false, false, false, false, false, false, false, false, false, false, false, false, false, false, false, false, false, false, false, false, false, false, false, false] (fun s_ => [(169, .string (strOfNums t319)), (171, .string (strOfNums t323))]) (fun s_ w' => (w'.cell? ⟨gb295, 0, none⟩ = some (.slice Ao134 t330.length co134) ∧ w'.cell? ⟨gb300, 0, none⟩ = some (.slice Ao138 t334.length co138) ∧ w'.cell? ⟨gb285, 0, none⟩ = some (.slice A0_0 l0_0.length c0_0)) ∧ (Kd.R (Kd.int .u8) 5 w' w.heap.size (fun k_ => some k_ ≠ (v324 : Value).ownBlock ∧ some k_ ≠ (.slice Ao132 t327.length co132 : Value).ownBlock) v320 t319) ∧ (Kd.R (Kd.int .u8) 5 w' w.heap.size (fun k_ => some k_ ≠ (v320 : Value).ownBlock ∧ some k_ ≠ (.slice Ao132 t327.length co132 : Value).ownBlock) v324 t323) ∧ (Kd.R (Kd.int .u8) 5 w' w.heap.size (fun k_ => some k_ ≠ (v320 : Value).ownBlock ∧ some k_ ≠ (v324 : Value).ownBlock) (.slice Ao132 t327.length co132) t327) ∧ (Kd.R (Kd.int .i64) 3 w' w.heap.size (fun k_ => some k_ ≠ (.slice Ao138 t334.length co138 : Value).ownBlock) (.slice Ao134 t330.length co134) t330) ∧ (Kd.R (Kd.int .i64) 3 w' w.heap.size (fun k_ => some k_ ≠ (.slice Ao134 t330.length co134 : Value).ownBlock) (.slice Ao138 t334.length co138) t334) ∧ (Kd.V (Kd.int .i64) 3 w' w.heap.size (fun k_ => some k_ ≠ (v320 : Value).ownBlock ∧ some k_ ≠ (v324 : Value).ownBlock ∧ some k_ ≠ (.slice Ao132 t327.length co132 : Value).ownBlock ∧ some k_ ≠ (.slice Ao134 t330.length co134 : Value).ownBlock ∧ some k_ ≠ (.slice Ao138 t334.length co138 : Value).ownBlock ∧ k_ ≠ gb285 ∧ k_ ≠ gb295 ∧ k_ ≠ gb300) (.slice Ao62 t302.length co62) t302) ∧ (Kd.V (Kd.int .i64) 3 w' w.heap.size (fun k_ => some k_ ≠ (v320 : Value).ownBlock ∧ some k_ ≠ (v324 : Value).ownBlock ∧ some k_ ≠ (.slice Ao132 t327.length co132 : Value).ownBlock ∧ some k_ ≠ (.slice Ao134 t330.length co134 : Value).ownBlock ∧ some k_ ≠ (.slice Ao138 t334.length co138 : Value).ownBlock ∧ k_ ≠ gb285 ∧ k_ ≠ gb295 ∧ k_ ≠ gb300) (.slice Ao67 t306.length co67) t306) ∧ (w'.heap[gb285]? = some (.cells #[.slice A0_0 l0_0.length c0_0] 24 (0, 0))) ∧ (w'.heap[gb295]? = some (.cells #[.slice Ao134 t330.length co134] 24 (0, 0))) ∧ (w'.heap[gb300]? = some (.cells #[.slice Ao138 t334.length co138] 24 (0, 0))) ∧ (Below w.heap.size w w')) ?_ ?_
                                          rotate_left
                                          · intro hCont
                                            refine two_ (i := 10) (j := 12) (Ni := some 169) (Nj := some 171) #[true, true, true, true, true, true, true, true, true, true, true, true, false, false, false, false, false, false, false, false, false, false, false, false, false, false, false, false, false, false, false, false, false, false, false, false, false, false, false, false, false, false, false, false, false, false, false, false, false, false, false, false, false, false, false] #[true, true, true, true, true, true, true, true, true, true, false, true, true, false, false, false, false, false, false, false, false, false, false, false, false, false, false, false, false, false, false, false, false, false, false, false, false, false, false, false, false, false, false, false, false, false, false, false, false, false, false, false, false, false, false] rfl rfl rfl rfl (two_of HT_.out (by kernel_rfl)) (by decide) (by decide) (fun K hK => ?_) (fun K hK => ?_)
                                            · skip
                                              have hcv142 := own_string (P := Try.prog) Try.underlying40 Try.underlying5 Try.underlying9 (Kd.own_of_R HO321.out)
                                              refine value_ (w1 := ?_) (v := ?_) (by rfl) rfl ?_ ?_
                                              rotate_left 2
                                              · go_simp
                                                constructor
                                                · rfl
                                                · rfl
                                              clear hcv142
                                              refine hK.out _ _ ⟨(blk_cell BK295.out 0).trans rfl, (blk_cell BK300.out 0).trans rfl, (blk_cell BK285.out 0).trans rfl⟩ (fun hHeld => ?_)
                                              clear hK K
                                              refine norm_ (a' := ?_) ?_ ?_
                                              rotate_left
                                              · show Act.put _ (some 169) _ = _
                                                simp only [Act.put, List.setIfInBounds_toArray, List.set_cons_zero, List.set_cons_succ, i64_w, i32_w]
                                                rfl
                                              refine one_ (i := 12) (N := some 171) #[true, true, true, true, true, true, true, true, true, true, true, true, true, false, false, false, false, false, false, false, false, false, false, false, false, false, false, false, false, false, false, false, false, false, false, false, false, false, false, false, false, false, false, false, false, false, false, false, false, false, false, false, false, false, false] rfl rfl (one_of HT_.out (by kernel_rfl)) (by decide) (fun K hK => ?_)
                                              have hcv143 := own_string (P := Try.prog) Try.underlying40 Try.underlying5 Try.underlying9 (Kd.own_of_R HO325.out)
                                              refine value_ (w1 := ?_) (v := ?_) (by rfl) rfl ?_ ?_
                                              rotate_left 2
                                              · go_simp
                                                constructor
                                                · rfl
                                                · rfl
                                              clear hcv143
                                              refine hK.out _ _ ⟨(blk_cell BK295.out 0).trans rfl, (blk_cell BK300.out 0).trans rfl, (blk_cell BK285.out 0).trans rfl⟩ (fun hHeld => ?_)
                                              clear hK K
                                              refine norm_ (a' := ?_) ?_ ?_
                                              rotate_left
                                              · show Act.put _ (some 171) _ = _
                                                simp only [Act.put, List.setIfInBounds_toArray, List.set_cons_zero, List.set_cons_succ, i64_w, i32_w]
                                                rfl
                                              exact norm_ (by simp only [putAll, Act.put, List.setIfInBounds_toArray, List.set_cons_zero, List.set_cons_succ]) (hCont () _ ⟨hHeld, (by (with_reducible repeat (first | apply Kd.R_alloc | apply Kd.R_drewN | apply Kd.R_drew)); exact HO321.out), (by (with_reducible repeat (first | apply Kd.R_alloc | apply Kd.R_drewN | apply Kd.R_drew)); exact HO325.out), (by (with_reducible repeat (first | apply Kd.R_alloc | apply Kd.R_drewN | apply Kd.R_drew)); exact HO329.out), (by (with_reducible repeat (first | apply Kd.R_alloc | apply Kd.R_drewN | apply Kd.R_drew)); exact HO332.out), (by (with_reducible repeat (first | apply Kd.R_alloc | apply Kd.R_drewN | apply Kd.R_drew)); exact HO336.out), (by (with_reducible repeat (first | apply Kd.V_alloc | apply Kd.V_drewN | apply Kd.V_drew)); exact HO_296000.out), (by (with_reducible repeat (first | apply Kd.V_alloc | apply Kd.V_drewN | apply Kd.V_drew)); exact HO_301000.out), (by (with_reducible repeat (first | refine blk_drewN ?_ _ | refine blk_drew ?_ | refine blk_alloc ?_ _)); exact BK285.out), (by (with_reducible repeat (first | refine blk_drewN ?_ _ | refine blk_drew ?_ | refine blk_alloc ?_ _)); exact BK295.out), (by (with_reducible repeat (first | refine blk_drewN ?_ _ | refine blk_drew ?_ | refine blk_alloc ?_ _)); exact BK300.out), (by repeat (first | (with_reducible first | exact HB.out | apply below_alloc | apply pw_below_drewN | apply below_drew1 | refine below_set ?_ GE285.out | refine below_set ?_ GE295.out | refine below_set ?_ GE300.out) | exact HB.out))⟩)
                                            · skip
                                              have hcv142 := own_string (P := Try.prog) Try.underlying40 Try.underlying5 Try.underlying9 (Kd.own_of_R HO325.out)
                                              refine value_ (w1 := ?_) (v := ?_) (by rfl) rfl ?_ ?_
                                              rotate_left 2
                                              · go_simp
                                                constructor
                                                · rfl
                                                · rfl
                                              clear hcv142
                                              refine hK.out _ _ ⟨(blk_cell BK295.out 0).trans rfl, (blk_cell BK300.out 0).trans rfl, (blk_cell BK285.out 0).trans rfl⟩ (fun hHeld => ?_)
                                              clear hK K
                                              refine norm_ (a' := ?_) ?_ ?_
                                              rotate_left
                                              · show Act.put _ (some 171) _ = _
                                                simp only [Act.put, List.setIfInBounds_toArray, List.set_cons_zero, List.set_cons_succ, i64_w, i32_w]
                                                rfl
                                              refine one_ (i := 10) (N := some 169) #[true, true, true, true, true, true, true, true, true, true, true, true, true, false, false, false, false, false, false, false, false, false, false, false, false, false, false, false, false, false, false, false, false, false, false, false, false, false, false, false, false, false, false, false, false, false, false, false, false, false, false, false, false, false, false] rfl rfl (one_of HT_.out (by kernel_rfl)) (by decide) (fun K hK => ?_)
                                              have hcv143 := own_string (P := Try.prog) Try.underlying40 Try.underlying5 Try.underlying9 (Kd.own_of_R HO321.out)
                                              refine value_ (w1 := ?_) (v := ?_) (by rfl) rfl ?_ ?_
                                              rotate_left 2
                                              · go_simp
                                                constructor
                                                · rfl
                                                · rfl
                                              clear hcv143
                                              refine hK.out _ _ ⟨(blk_cell BK295.out 0).trans rfl, (blk_cell BK300.out 0).trans rfl, (blk_cell BK285.out 0).trans rfl⟩ (fun hHeld => ?_)
                                              clear hK K
                                              refine norm_ (a' := ?_) ?_ ?_
                                              rotate_left
                                              · show Act.put _ (some 169) _ = _
                                                simp only [Act.put, List.setIfInBounds_toArray, List.set_cons_zero, List.set_cons_succ, i64_w, i32_w]
                                                rfl
                                              exact norm_ (by simp only [putAll, Act.put, List.setIfInBounds_toArray, List.set_cons_zero, List.set_cons_succ]) (hCont () _ ⟨hHeld, (by (with_reducible repeat (first | apply Kd.R_alloc | apply Kd.R_drewN | apply Kd.R_drew)); exact HO321.out), (by (with_reducible repeat (first | apply Kd.R_alloc | apply Kd.R_drewN | apply Kd.R_drew)); exact HO325.out), (by (with_reducible repeat (first | apply Kd.R_alloc | apply Kd.R_drewN | apply Kd.R_drew)); exact HO329.out), (by (with_reducible repeat (first | apply Kd.R_alloc | apply Kd.R_drewN | apply Kd.R_drew)); exact HO332.out), (by (with_reducible repeat (first | apply Kd.R_alloc | apply Kd.R_drewN | apply Kd.R_drew)); exact HO336.out), (by (with_reducible repeat (first | apply Kd.V_alloc | apply Kd.V_drewN | apply Kd.V_drew)); exact HO_296000.out), (by (with_reducible repeat (first | apply Kd.V_alloc | apply Kd.V_drewN | apply Kd.V_drew)); exact HO_301000.out), (by (with_reducible repeat (first | refine blk_drewN ?_ _ | refine blk_drew ?_ | refine blk_alloc ?_ _)); exact BK285.out), (by (with_reducible repeat (first | refine blk_drewN ?_ _ | refine blk_drew ?_ | refine blk_alloc ?_ _)); exact BK295.out), (by (with_reducible repeat (first | refine blk_drewN ?_ _ | refine blk_drew ?_ | refine blk_alloc ?_ _)); exact BK300.out), (by repeat (first | (with_reducible first | exact HB.out | apply below_alloc | apply pw_below_drewN | apply below_drew1 | refine below_set ?_ GE285.out | refine below_set ?_ GE295.out | refine below_set ?_ GE300.out) | exact HB.out))⟩)
                                          rintro _ w144 ⟨hS_, h0_, h1_, h2_, h3_, h4_, h5_, h6_, h7_, h8_, h9_, h10_⟩
                                          have n0_ : Aside0 (Kd.R (Kd.int .u8) 5 w144 w.heap.size (fun k_ => some k_ ≠ (v324 : Value).ownBlock ∧ some k_ ≠ (.slice Ao132 t327.length co132 : Value).ownBlock) v320 t319) := ⟨h0_⟩
                                          have n1_ : Aside0 (Kd.R (Kd.int .u8) 5 w144 w.heap.size (fun k_ => some k_ ≠ (v320 : Value).ownBlock ∧ some k_ ≠ (.slice Ao132 t327.length co132 : Value).ownBlock) v324 t323) := ⟨h1_⟩
                                          have n2_ : Aside0 (Kd.R (Kd.int .u8) 5 w144 w.heap.size (fun k_ => some k_ ≠ (v320 : Value).ownBlock ∧ some k_ ≠ (v324 : Value).ownBlock) (.slice Ao132 t327.length co132) t327) := ⟨h2_⟩
                                          have n3_ : Aside0 (Kd.R (Kd.int .i64) 3 w144 w.heap.size (fun k_ => some k_ ≠ (.slice Ao138 t334.length co138 : Value).ownBlock) (.slice Ao134 t330.length co134) t330) := ⟨h3_⟩
                                          have n4_ : Aside0 (Kd.R (Kd.int .i64) 3 w144 w.heap.size (fun k_ => some k_ ≠ (.slice Ao134 t330.length co134 : Value).ownBlock) (.slice Ao138 t334.length co138) t334) := ⟨h4_⟩
                                          have n5_ : Aside0 (Kd.V (Kd.int .i64) 3 w144 w.heap.size (fun k_ => some k_ ≠ (v320 : Value).ownBlock ∧ some k_ ≠ (v324 : Value).ownBlock ∧ some k_ ≠ (.slice Ao132 t327.length co132 : Value).ownBlock ∧ some k_ ≠ (.slice Ao134 t330.length co134 : Value).ownBlock ∧ some k_ ≠ (.slice Ao138 t334.length co138 : Value).ownBlock ∧ k_ ≠ gb285 ∧ k_ ≠ gb295 ∧ k_ ≠ gb300) (.slice Ao62 t302.length co62) t302) := ⟨h5_⟩
                                          have n6_ : Aside0 (Kd.V (Kd.int .i64) 3 w144 w.heap.size (fun k_ => some k_ ≠ (v320 : Value).ownBlock ∧ some k_ ≠ (v324 : Value).ownBlock ∧ some k_ ≠ (.slice Ao132 t327.length co132 : Value).ownBlock ∧ some k_ ≠ (.slice Ao134 t330.length co134 : Value).ownBlock ∧ some k_ ≠ (.slice Ao138 t334.length co138 : Value).ownBlock ∧ k_ ≠ gb285 ∧ k_ ≠ gb295 ∧ k_ ≠ gb300) (.slice Ao67 t306.length co67) t306) := ⟨h6_⟩
                                          have n7_ : Aside0 (w144.heap[gb285]? = some (.cells #[.slice A0_0 l0_0.length c0_0] 24 (0, 0))) := ⟨h7_⟩
                                          have n8_ : Aside0 (w144.heap[gb295]? = some (.cells #[.slice Ao134 t330.length co134] 24 (0, 0))) := ⟨h8_⟩
                                          have n9_ : Aside0 (w144.heap[gb300]? = some (.cells #[.slice Ao138 t334.length co138] 24 (0, 0))) := ⟨h9_⟩
                                          have n10_ : Aside0 (Below w.heap.size w w144) := ⟨h10_⟩
                                          clear HO_296000
                                          clear HO_301000
                                          clear HO321
                                          clear HO325
                                          clear HO329
                                          clear HO332
                                          clear HO336
                                          clear BK285
                                          clear BK295
                                          clear BK300
                                          clear HB
                                          clear h0_ h1_ h2_ h3_ h4_ h5_ h6_ h7_ h8_ h9_ h10_
                                          have HO321 := n0_
                                          have HO325 := n1_
                                          have HO329 := n2_
                                          have HO332 := n3_
                                          have HO336 := n4_
                                          have HO_296000 := n5_
                                          have HO_301000 := n6_
                                          have BK285 := n7_
                                          have BK295 := n8_
                                          have BK300 := n9_
                                          have HB := n10_
                                          clear n0_ n1_ n2_ n3_ n4_ n5_ n6_ n7_ n8_ n9_ n10_
                                          have hHeld : w144.cell? ⟨gb295, 0, none⟩ = some (.slice Ao134 t330.length co134) ∧ w144.cell? ⟨gb300, 0, none⟩ = some (.slice Ao138 t334.length co138) ∧ w144.cell? ⟨gb285, 0, none⟩ = some (.slice A0_0 l0_0.length c0_0) := hS_
                                          refine norm_ (a' := ?_) ?_ ?_
                                          rotate_left
                                          · simp only [putAll, Act.put, List.setIfInBounds_toArray, List.set_cons_zero, List.set_cons_succ]
                                            rfl
                                          refine pure_ (i := 13) (N := some 172) (v := ?_) (a' := ?_) #[true, true, true, true, true, true, true, true, true, true, true, true, true, true, false, false, false, false, false, false, false, false, false, false, false, false, false, false, false, false, false, false, false, false, false, false, false, false, false, false, false, false, false, false, false, false, false, false, false, false, false, false, false, false, false] rfl rfl (any_of HT_.out (by kernel_rfl)) (fun _ _ _ h => h) (Or.inl ⟨by rfl, ?_⟩) ?_ ?_
                                          rotate_left
                                          · intro w'
                                            go_simp
                                            with_reducible rfl
                                          rotate_left
                                          · simp only [Act.put, List.setIfInBounds_toArray, List.set_cons_zero, List.set_cons_succ, i64_w, i32_w]
                                            rfl
                                          refine pure_ (i := 14) (N := some 173) (v := ?_) (a' := ?_) #[true, true, true, true, true, true, true, true, true, true, true, true, true, true, true, false, false, false, false, false, false, false, false, false, false, false, false, false, false, false, false, false, false, false, false, false, false, false, false, false, false, false, false, false, false, false, false, false, false, false, false, false, false, false, false] rfl rfl (any_of HT_.out (by kernel_rfl)) (fun _ _ _ h => h) (Or.inl ⟨by rfl, ?_⟩) ?_ ?_
                                          rotate_left
                                          · intro w'
                                            go_simp
                                            with_reducible rfl
                                          rotate_left
                                          · simp only [Act.put, List.setIfInBounds_toArray, List.set_cons_zero, List.set_cons_succ, i64_w, i32_w]
                                            rfl
                                          refine pure_ (i := 15) (N := some 174) (v := ?_) (a' := ?_) #[true, true, true, true, true, true, true, true, true, true, true, true, true, true, true, true, false, false, false, false, false, false, false, false, false, false, false, false, false, false, false, false, false, false, false, false, false, false, false, false, false, false, false, false, false, false, false, false, false, false, false, false, false, false, false] rfl rfl (any_of HT_.out (by kernel_rfl)) (fun _ _ _ h => h) (Or.inl ⟨by rfl, ?_⟩) ?_ ?_
                                          rotate_left
                                          · intro w'
                                            go_simp
                                            with_reducible rfl
                                          rotate_left
                                          · simp only [Act.put, List.setIfInBounds_toArray, List.set_cons_zero, List.set_cons_succ, i64_w, i32_w]
                                            rfl
                                          refine pure_ (i := 16) (N := some 175) (v := ?_) (a' := ?_) #[true, true, true, true, true, true, true, true, true, true, true, true, true, true, true, true, true, false, false, false, false, false, false, false, false, false, false, false, false, false, false, false, false, false, false, false, false, false, false, false, false, false, false, false, false, false, false, false, false, false, false, false, false, false, false] rfl rfl (any_of HT_.out (by kernel_rfl)) (fun _ _ _ h => h) (Or.inl ⟨by rfl, ?_⟩) ?_ ?_
                                          rotate_left
                                          · intro w'
                                            go_simp
                                            with_reducible rfl
                                          rotate_left
                                          · simp only [Act.put, List.setIfInBounds_toArray, List.set_cons_zero, List.set_cons_succ, i64_w, i32_w]
                                            rfl
                                          refine pure_ (i := 17) (N := some 176) (v := ?_) (a' := ?_) #[true, true, true, true, true, true, true, true, true, true, true, true, true, true, true, true, true, true, false, false, false, false, false, false, false, false, false, false, false, false, false, false, false, false, false, false, false, false, false, false, false, false, false, false, false, false, false, false, false, false, false, false, false, false, false] rfl rfl (any_of HT_.out (by kernel_rfl)) (fun _ _ _ h => h) (Or.inl ⟨by rfl, ?_⟩) ?_ ?_
                                          rotate_left
                                          · intro w'
                                            go_simp
                                            with_reducible rfl
                                          rotate_left
                                          · simp only [Act.put, List.setIfInBounds_toArray, List.set_cons_zero, List.set_cons_succ, i64_w, i32_w]
                                            rfl
                                          refine pure_ (i := 18) (N := some 177) (v := ?_) (a' := ?_) #[true, true, true, true, true, true, true, true, true, true, true, true, true, true, true, true, true, true, true, false, false, false, false, false, false, false, false, false, false, false, false, false, false, false, false, false, false, false, false, false, false, false, false, false, false, false, false, false, false, false, false, false, false, false, false] rfl rfl (any_of HT_.out (by kernel_rfl)) (fun _ _ _ h => h) (Or.inl ⟨by rfl, ?_⟩) ?_ ?_
                                          rotate_left
                                          · intro w'
                                            go_simp
                                            with_reducible rfl
                                          rotate_left
                                          · simp only [Act.put, List.setIfInBounds_toArray, List.set_cons_zero, List.set_cons_succ, i64_w, i32_w]
                                            rfl
                                          refine pure_ (i := 19) (N := some 178) (v := ?_) (a' := ?_) #[true, true, true, true, true, true, true, true, true, true, true, true, true, true, true, true, true, true, true, true, false, false, false, false, false, false, false, false, false, false, false, false, false, false, false, false, false, false, false, false, false, false, false, false, false, false, false, false, false, false, false, false, false, false, false] rfl rfl (any_of HT_.out (by kernel_rfl)) (fun _ _ _ h => h) (Or.inl ⟨by rfl, ?_⟩) ?_ ?_
                                          rotate_left
                                          · intro w'
                                            go_simp
                                            with_reducible rfl
                                          rotate_left
                                          · simp only [Act.put, List.setIfInBounds_toArray, List.set_cons_zero, List.set_cons_succ, i64_w, i32_w]
                                            rfl
                                          refine pure_ (i := 20) (N := some 179) (v := ?_) (a' := ?_) #[true, true, true, true, true, true, true, true, true, true, true, true, true, true, true, true, true, true, true, true, true, false, false, false, false, false, false, false, false, false, false, false, false, false, false, false, false, false, false, false, false, false, false, false, false, false, false, false, false, false, false, false, false, false, false] rfl rfl (any_of HT_.out (by kernel_rfl)) (fun _ _ _ h => h) (Or.inl ⟨by rfl, ?_⟩) ?_ ?_
                                          rotate_left
                                          · intro w'
                                            go_simp
                                            with_reducible rfl
                                          rotate_left
                                          · simp only [Act.put, List.setIfInBounds_toArray, List.set_cons_zero, List.set_cons_succ, i64_w, i32_w]
                                            rfl
                                          refine pure_ (i := 21) (N := some 180) (v := ?_) (a' := ?_) #[true, true, true, true, true, true, true, true, true, true, true, true, true, true, true, true, true, true, true, true, true, true, false, false, false, false, false, false, false, false, false, false, false, false, false, false, false, false, false, false, false, false, false, false, false, false, false, false, false, false, false, false, false, false, false] rfl rfl (any_of HT_.out (by kernel_rfl)) (fun _ _ _ h => h) (Or.inl ⟨by rfl, ?_⟩) ?_ ?_
                                          rotate_left
                                          · intro w'
                                            go_simp
                                            with_reducible rfl
                                          rotate_left
                                          · simp only [Act.put, List.setIfInBounds_toArray, List.set_cons_zero, List.set_cons_succ, i64_w, i32_w]
                                            rfl
                                          refine pure_ (i := 23) (N := some 182) (v := ?_) (a' := ?_) #[true, true, true, true, true, true, true, true, true, true, true, true, true, true, true, true, true, true, true, true, true, true, false, true, false, false, false, false, false, false, false, false, false, false, false, false, false, false, false, false, false, false, false, false, false, false, false, false, false, false, false, false, false, false, false] rfl rfl (any_of HT_.out (by kernel_rfl)) (fun _ _ _ h => h) (Or.inl ⟨by rfl, ?_⟩) ?_ ?_
                                          rotate_left
                                          · intro w'
                                            go_simp
                                            with_reducible rfl
                                          rotate_left
                                          · simp only [Act.put, List.setIfInBounds_toArray, List.set_cons_zero, List.set_cons_succ, i64_w, i32_w]
                                            rfl
                                          refine take_ (i := 22) (N := some 181) (v := ?_) (a' := ?_) #[true, true, true, true, true, true, true, true, true, true, true, true, true, true, true, true, true, true, true, true, true, true, true, true, false, false, false, false, false, false, false, false, false, false, false, false, false, false, false, false, false, false, false, false, false, false, false, false, false, false, false, false, false, false, false] rfl rfl (take_ofW HT_.out HW_.out (by kernel_rfl)) (fun _ _ _ h => h) (Or.inl ⟨by rfl, ?_⟩) hHeld ?_ ?_
                                          rotate_left
                                          · rintro w' ⟨s0, s1, s2⟩
                                            go_simp
                                            with_reducible rfl
                                          rotate_left
                                          · simp only [Act.put, List.setIfInBounds_toArray, List.set_cons_zero, List.set_cons_succ, i64_w, i32_w]
                                            rfl
                                          refine take_ (i := 24) (N := some 183) (v := ?_) (a' := ?_) #[true, true, true, true, true, true, true, true, true, true, true, true, true, true, true, true, true, true, true, true, true, true, true, true, true, false, false, false, false, false, false, false, false, false, false, false, false, false, false, false, false, false, false, false, false, false, false, false, false, false, false, false, false, false, false] rfl rfl (take_ofW HT_.out HW_.out (by kernel_rfl)) (fun _ _ _ h => h) (Or.inl ⟨by rfl, ?_⟩) hHeld ?_ ?_
                                          rotate_left
                                          · rintro w' ⟨s0, s1, s2⟩
                                            go_simp
                                            with_reducible rfl
                                          rotate_left
                                          · simp only [Act.put, List.setIfInBounds_toArray, List.set_cons_zero, List.set_cons_succ, i64_w, i32_w]
                                            rfl
                                          refine one_ (i := 25) (N := some 184) #[true, true, true, true, true, true, true, true, true, true, true, true, true, true, true, true, true, true, true, true, true, true, true, true, true, true, false, false, false, false, false, false, false, false, false, false, false, false, false, false, false, false, false, false, false, false, false, false, false, false, false, false, false, false, false] rfl rfl (one_of HT_.out (by kernel_rfl)) (by decide) (fun K hK => ?_)
                                          refine goes_ Try.func18 (by kernel_rfl) rfl #[.slice Ao134 t330.length co134, .slice Ao138 t334.length co138] (by rfl) rfl rfl (by (try simp only [List.map_toArray, List.map_cons, List.map_nil]); first | done | rfl | (simp only [List.length_drop, List.length_take]; rfl)) ?_
                                          with_reducible refine (tallymankit_Ints.calls kj56 _ _ t330 _ _ t334 true _ ?side1 ?side2 ?side3 ?side4 A109.out).mono ?_
                                          (case side1 => repeat (first | exact (Kd.R_reads' HO332.out).2.2 | (with_reducible refine Kd.C_alloc ?_ _) | (with_reducible refine Kd.C_drewN ?_ _) | (with_reducible refine Kd.C_drew ?_)))
                                          (case side2 => exact (Kd.R_reads' HO332.out).2.1)
                                          (case side3 => repeat (first | exact (Kd.R_reads' HO336.out).2.2 | (with_reducible refine Kd.C_alloc ?_ _) | (with_reducible refine Kd.C_drewN ?_ _) | (with_reducible refine Kd.C_drew ?_)))
                                          (case side4 => exact (Kd.R_reads' HO336.out).2.1)
                                          rintro e w' ⟨rfl, ⟨nd, rfl⟩⟩
                                          refine ⟨_, rfl, ?_⟩
                                          refine hK.out _ _ ⟨(blk_cell BK295.out 0).trans rfl, (blk_cell BK300.out 0).trans rfl, (blk_cell BK285.out 0).trans rfl⟩ (fun hHeld => ?_)
                                          clear hK K
                                          refine norm_ (a' := ?_) ?_ ?_
                                          rotate_left
                                          · show Act.put _ (some 184) _ = _
                                            simp only [Act.put, List.setIfInBounds_toArray, List.set_cons_zero, List.set_cons_succ, i64_w, i32_w]
                                            rfl
                                          refine pure_ (i := 26) (N := some 185) (v := ?_) (a' := ?_) #[true, true, true, true, true, true, true, true, true, true, true, true, true, true, true, true, true, true, true, true, true, true, true, true, true, true, true, false, false, false, false, false, false, false, false, false, false, false, false, false, false, false, false, false, false, false, false, false, false, false, false, false, false, false, false] rfl rfl (any_of HT_.out (by kernel_rfl)) (fun _ _ _ h => h) (Or.inl ⟨by rfl, ?_⟩) ?_ ?_
                                          rotate_left
                                          · intro w'
                                            go_simp
                                            with_reducible rfl
                                          rotate_left
                                          · simp only [Act.put, List.setIfInBounds_toArray, List.set_cons_zero, List.set_cons_succ, i64_w, i32_w]
                                            rfl
                                          refine pure_ (i := 27) (N := some 186) (v := ?_) (a' := ?_) #[true, true, true, true, true, true, true, true, true, true, true, true, true, true, true, true, true, true, true, true, true, true, true, true, true, true, true, true, false, false, false, false, false, false, false, false, false, false, false, false, false, false, false, false, false, false, false, false, false, false, false, false, false, false, false] rfl rfl (any_of HT_.out (by kernel_rfl)) (fun _ _ _ h => h) (Or.inl ⟨by rfl, ?_⟩) ?_ ?_
                                          rotate_left
                                          · intro w'
                                            go_simp
                                            with_reducible rfl
                                          rotate_left
                                          · simp only [Act.put, List.setIfInBounds_toArray, List.set_cons_zero, List.set_cons_succ, i64_w, i32_w]
                                            rfl
                                          refine pure_ (i := 28) (N := some 187) (v := ?_) (a' := ?_) #[true, true, true, true, true, true, true, true, true, true, true, true, true, true, true, true, true, true, true, true, true, true, true, true, true, true, true, true, true, false, false, false, false, false, false, false, false, false, false, false, false, false, false, false, false, false, false, false, false, false, false, false, false, false, false] rfl rfl (any_of HT_.out (by kernel_rfl)) (fun _ _ _ h => h) (Or.inl ⟨by rfl, ?_⟩) ?_ ?_
                                          rotate_left
                                          · intro w'
                                            go_simp
                                            with_reducible rfl
                                          rotate_left
                                          · simp only [Act.put, List.setIfInBounds_toArray, List.set_cons_zero, List.set_cons_succ, i64_w, i32_w]
                                            rfl
                                          refine pure_ (i := 29) (N := some 188) (v := ?_) (a' := ?_) #[true, true, true, true, true, true, true, true, true, true, true, true, true, true, true, true, true, true, true, true, true, true, true, true, true, true, true, true, true, true, false, false, false, false, false, false, false, false, false, false, false, false, false, false, false, false, false, false, false, false, false, false, false, false, false] rfl rfl (any_of HT_.out (by kernel_rfl)) (fun _ _ _ h => h) (Or.inl ⟨by rfl, ?_⟩) ?_ ?_
                                          rotate_left
                                          · intro w'
                                            go_simp
                                            with_reducible rfl
                                          rotate_left
                                          · simp only [Act.put, List.setIfInBounds_toArray, List.set_cons_zero, List.set_cons_succ, i64_w, i32_w]
                                            rfl
                                          refine pure_ (i := 30) (N := some 189) (v := ?_) (a' := ?_) #[true, true, true, true, true, true, true, true, true, true, true, true, true, true, true, true, true, true, true, true, true, true, true, true, true, true, true, true, true, true, true, false, false, false, false, false, false, false, false, false, false, false, false, false, false, false, false, false, false, false, false, false, false, false, false] rfl rfl (any_of HT_.out (by kernel_rfl)) (fun _ _ _ h => h) (Or.inl ⟨by rfl, ?_⟩) ?_ ?_
                                          rotate_left
                                          · intro w'
                                            go_simp
                                            with_reducible rfl
                                          rotate_left
                                          · simp only [Act.put, List.setIfInBounds_toArray, List.set_cons_zero, List.set_cons_succ, i64_w, i32_w]
                                            rfl
                                          refine pure_ (i := 31) (N := some 190) (v := ?_) (a' := ?_) #[true, true, true, true, true, true, true, true, true, true, true, true, true, true, true, true, true, true, true, true, true, true, true, true, true, true, true, true, true, true, true, true, false, false, false, false, false, false, false, false, false, false, false, false, false, false, false, false, false, false, false, false, false, false, false] rfl rfl (any_of HT_.out (by kernel_rfl)) (fun _ _ _ h => h) (Or.inl ⟨by rfl, ?_⟩) ?_ ?_
                                          rotate_left
                                          · intro w'
                                            go_simp
                                            with_reducible rfl
                                          rotate_left
                                          · simp only [Act.put, List.setIfInBounds_toArray, List.set_cons_zero, List.set_cons_succ, i64_w, i32_w]
                                            rfl
                                          refine pure_ (i := 32) (N := some 191) (v := ?_) (a' := ?_) #[true, true, true, true, true, true, true, true, true, true, true, true, true, true, true, true, true, true, true, true, true, true, true, true, true, true, true, true, true, true, true, true, true, false, false, false, false, false, false, false, false, false, false, false, false, false, false, false, false, false, false, false, false, false, false] rfl rfl (any_of HT_.out (by kernel_rfl)) (fun _ _ _ h => h) (Or.inl ⟨by rfl, ?_⟩) ?_ ?_
                                          rotate_left
                                          · intro w'
                                            go_simp
                                            with_reducible rfl
                                          rotate_left
                                          · simp only [Act.put, List.setIfInBounds_toArray, List.set_cons_zero, List.set_cons_succ, i64_w, i32_w]
                                            rfl
                                          refine take_ (i := 33) (N := some 192) (v := ?_) (a' := ?_) #[true, true, true, true, true, true, true, true, true, true, true, true, true, true, true, true, true, true, true, true, true, true, true, true, true, true, true, true, true, true, true, true, true, true, false, false, false, false, false, false, false, false, false, false, false, false, false, false, false, false, false, false, false, false, false] rfl rfl (take_ofW HT_.out HW_.out (by kernel_rfl)) (fun _ _ _ h => h) (Or.inl ⟨by rfl, ?_⟩) hHeld ?_ ?_
                                          rotate_left
                                          · rintro w' ⟨s0, s1, s2⟩
                                            go_simp
                                            with_reducible rfl
                                          rotate_left
                                          · simp only [Act.put, List.setIfInBounds_toArray, List.set_cons_zero, List.set_cons_succ, i64_w, i32_w]
                                            rfl
                                          refine take_ (i := 35) (N := some 194) (v := ?_) (a' := ?_) #[true, true, true, true, true, true, true, true, true, true, true, true, true, true, true, true, true, true, true, true, true, true, true, true, true, true, true, true, true, true, true, true, true, true, false, true, false, false, false, false, false, false, false, false, false, false, false, false, false, false, false, false, false, false, false] rfl rfl (take_ofW HT_.out HW_.out (by kernel_rfl)) (fun _ _ _ h => h) (Or.inl ⟨by rfl, ?_⟩) hHeld ?_ ?_
                                          rotate_left
                                          · rintro w' ⟨s0, s1, s2⟩
                                            go_simp
                                            with_reducible rfl
                                          rotate_left
                                          · simp only [Act.put, List.setIfInBounds_toArray, List.set_cons_zero, List.set_cons_succ, i64_w, i32_w]
                                            rfl
                                          refine one_ (i := 34) (N := some 193) #[true, true, true, true, true, true, true, true, true, true, true, true, true, true, true, true, true, true, true, true, true, true, true, true, true, true, true, true, true, true, true, true, true, true, true, true, false, false, false, false, false, false, false, false, false, false, false, false, false, false, false, false, false, false, false] rfl rfl (one_of HT_.out (by kernel_rfl)) (by decide) (fun K hK => ?_)
                                          refine goes_ Try.func9 (by kernel_rfl) rfl #[.agg #[.slice A0_0 l0_0.length c0_0]] (by rfl) rfl rfl (by (try simp only [List.map_toArray, List.map_cons, List.map_nil]); first | done | rfl | (simp only [List.length_drop, List.length_take]; rfl)) ?_
                                          with_reducible refine (table_Check.calls _ _ l0_0 t339 _ ?side1 ?side2 A112.out).mono ?_
                                          (case side1 => repeat (first | exact (Kd.C_below HR0_0.out (by repeat (first | (with_reducible first | exact HB.out | apply below_alloc | apply pw_below_drewN | apply below_drew1 | refine below_set ?_ GE285.out | refine below_set ?_ GE295.out | refine below_set ?_ GE300.out) | exact HB.out))) | (with_reducible refine Kd.C_alloc ?_ _) | (with_reducible refine Kd.C_drewN ?_ _) | (with_reducible refine Kd.C_drew ?_)))
                                          (case side2 => exact HC0_0.out)
                                          rintro e w145 ⟨rfl, hb⟩
                                          refine ⟨_, rfl, ?_⟩
                                          have n0_ := Aside0.mk (Kd.V_below (by (with_reducible repeat (first | apply Kd.V_alloc | apply Kd.V_drewN | apply Kd.V_drew)); exact HO_296000.out) hb)
                                          have n1_ := Aside0.mk (Kd.V_below (by (with_reducible repeat (first | apply Kd.V_alloc | apply Kd.V_drewN | apply Kd.V_drew)); exact HO_301000.out) hb)
                                          have n2_ := Aside0.mk (Kd.R_below (by (with_reducible repeat (first | apply Kd.R_alloc | apply Kd.R_drewN | apply Kd.R_drew)); exact HO321.out) hb)
                                          have n3_ := Aside0.mk (Kd.R_below (by (with_reducible repeat (first | apply Kd.R_alloc | apply Kd.R_drewN | apply Kd.R_drew)); exact HO325.out) hb)
                                          have n4_ := Aside0.mk (Kd.R_below (by (with_reducible repeat (first | apply Kd.R_alloc | apply Kd.R_drewN | apply Kd.R_drew)); exact HO329.out) hb)
                                          have n5_ := Aside0.mk (Kd.R_below (by (with_reducible repeat (first | apply Kd.R_alloc | apply Kd.R_drewN | apply Kd.R_drew)); exact HO332.out) hb)
                                          have n6_ := Aside0.mk (Kd.R_below (by (with_reducible repeat (first | apply Kd.R_alloc | apply Kd.R_drewN | apply Kd.R_drew)); exact HO336.out) hb)
                                          have n7_ := Aside0.mk (blk_below (g := gb285) (o := .cells #[.slice A0_0 l0_0.length c0_0] 24 (0, 0)) (by (with_reducible repeat (first | refine blk_drewN ?_ _ | refine blk_drew ?_ | refine blk_alloc ?_ _)); exact BK285.out) hb)
                                          have n8_ := Aside0.mk (blk_below (g := gb295) (o := .cells #[.slice Ao134 t330.length co134] 24 (0, 0)) (by (with_reducible repeat (first | refine blk_drewN ?_ _ | refine blk_drew ?_ | refine blk_alloc ?_ _)); exact BK295.out) hb)
                                          have n9_ := Aside0.mk (blk_below (g := gb300) (o := .cells #[.slice Ao138 t334.length co138] 24 (0, 0)) (by (with_reducible repeat (first | refine blk_drewN ?_ _ | refine blk_drew ?_ | refine blk_alloc ?_ _)); exact BK300.out) hb)
                                          have n10_ := Aside0.mk (below_step (by repeat (first | (with_reducible first | exact HB.out | apply below_alloc | apply pw_below_drewN | apply below_drew1 | refine below_set ?_ GE285.out | refine below_set ?_ GE295.out | refine below_set ?_ GE300.out) | exact HB.out)) hb)
                                          clear HO_296000
                                          clear HO_301000
                                          clear HO321
                                          clear HO325
                                          clear HO329
                                          clear HO332
                                          clear HO336
                                          clear BK285
                                          clear BK295
                                          clear BK300
                                          clear HB
                                          have HO_296000 := n0_
                                          have HO_301000 := n1_
                                          have HO321 := n2_
                                          have HO325 := n3_
                                          have HO329 := n4_
                                          have HO332 := n5_
                                          have HO336 := n6_
                                          have BK285 := n7_
                                          have BK295 := n8_
                                          have BK300 := n9_
                                          have HB := n10_
                                          clear n0_ n1_ n2_ n3_ n4_ n5_ n6_ n7_ n8_ n9_ n10_
                                          (try clear hb)
                                          (try clear hb2)
                                          (try clear hk)
                                          (try clear hi)
                                          refine hK.out _ _ ⟨(blk_cell BK295.out 0).trans rfl, (blk_cell BK300.out 0).trans rfl, (blk_cell BK285.out 0).trans rfl⟩ (fun hHeld => ?_)
                                          clear hK K
                                          refine norm_ (a' := ?_) ?_ ?_
                                          rotate_left
                                          · show Act.put _ (some 193) _ = _
                                            simp only [Act.put, List.setIfInBounds_toArray, List.set_cons_zero, List.set_cons_succ, i64_w, i32_w]
                                            rfl
                                          refine one_ (i := 36) (N := some 195) #[true, true, true, true, true, true, true, true, true, true, true, true, true, true, true, true, true, true, true, true, true, true, true, true, true, true, true, true, true, true, true, true, true, true, true, true, true, false, false, false, false, false, false, false, false, false, false, false, false, false, false, false, false, false, false] rfl rfl (one_of HT_.out (by kernel_rfl)) (by decide) (fun K hK => ?_)
                                          refine goes_ Try.func29 (by kernel_rfl) rfl #[.agg #[.slice A0_0 l0_0.length c0_0]] (by rfl) rfl rfl (by (try simp only [List.map_toArray, List.map_cons, List.map_nil]); first | done | rfl | (simp only [List.length_drop, List.length_take]; rfl)) ?_
                                          with_reducible refine (tallymanref10_Check.calls _ _ l0_0 t340 _ ?side1 ?side2 A113.out).mono ?_
                                          (case side1 => repeat (first | exact (Kd.C_below HR0_0.out HB.out) | (with_reducible refine Kd.C_alloc ?_ _) | (with_reducible refine Kd.C_drewN ?_ _) | (with_reducible refine Kd.C_drew ?_)))
                                          (case side2 => exact HC0_0.out)
                                          rintro e w146 ⟨rfl, hb⟩
                                          refine ⟨_, rfl, ?_⟩
                                          have n0_ := Aside0.mk (Kd.V_below (by (with_reducible repeat (first | apply Kd.V_alloc | apply Kd.V_drewN | apply Kd.V_drew)); exact HO_296000.out) hb)
                                          have n1_ := Aside0.mk (Kd.V_below (by (with_reducible repeat (first | apply Kd.V_alloc | apply Kd.V_drewN | apply Kd.V_drew)); exact HO_301000.out) hb)
                                          have n2_ := Aside0.mk (Kd.R_below (by (with_reducible repeat (first | apply Kd.R_alloc | apply Kd.R_drewN | apply Kd.R_drew)); exact HO321.out) hb)
                                          have n3_ := Aside0.mk (Kd.R_below (by (with_reducible repeat (first | apply Kd.R_alloc | apply Kd.R_drewN | apply Kd.R_drew)); exact HO325.out) hb)
                                          have n4_ := Aside0.mk (Kd.R_below (by (with_reducible repeat (first | apply Kd.R_alloc | apply Kd.R_drewN | apply Kd.R_drew)); exact HO329.out) hb)
                                          have n5_ := Aside0.mk (Kd.R_below (by (with_reducible repeat (first | apply Kd.R_alloc | apply Kd.R_drewN | apply Kd.R_drew)); exact HO332.out) hb)
                                          have n6_ := Aside0.mk (Kd.R_below (by (with_reducible repeat (first | apply Kd.R_alloc | apply Kd.R_drewN | apply Kd.R_drew)); exact HO336.out) hb)
                                          have n7_ := Aside0.mk (blk_below (g := gb285) (o := .cells #[.slice A0_0 l0_0.length c0_0] 24 (0, 0)) (by (with_reducible repeat (first | refine blk_drewN ?_ _ | refine blk_drew ?_ | refine blk_alloc ?_ _)); exact BK285.out) hb)
                                          have n8_ := Aside0.mk (blk_below (g := gb295) (o := .cells #[.slice Ao134 t330.length co134] 24 (0, 0)) (by (with_reducible repeat (first | refine blk_drewN ?_ _ | refine blk_drew ?_ | refine blk_alloc ?_ _)); exact BK295.out) hb)
                                          have n9_ := Aside0.mk (blk_below (g := gb300) (o := .cells #[.slice Ao138 t334.length co138] 24 (0, 0)) (by (with_reducible repeat (first | refine blk_drewN ?_ _ | refine blk_drew ?_ | refine blk_alloc ?_ _)); exact BK300.out) hb)
                                          have n10_ := Aside0.mk (below_step (by repeat (first | (with_reducible first | exact HB.out | apply below_alloc | apply pw_below_drewN | apply below_drew1 | refine below_set ?_ GE285.out | refine below_set ?_ GE295.out | refine below_set ?_ GE300.out) | exact HB.out)) hb)
                                          clear HO_296000
                                          clear HO_301000
                                          clear HO321
                                          clear HO325
                                          clear HO329
                                          clear HO332
                                          clear HO336
                                          clear BK285
                                          clear BK295
                                          clear BK300
                                          clear HB
                                          have HO_296000 := n0_
                                          have HO_301000 := n1_
                                          have HO321 := n2_
                                          have HO325 := n3_
                                          have HO329 := n4_
                                          have HO332 := n5_
                                          have HO336 := n6_
                                          have BK285 := n7_
                                          have BK295 := n8_
                                          have BK300 := n9_
                                          have HB := n10_
                                          clear n0_ n1_ n2_ n3_ n4_ n5_ n6_ n7_ n8_ n9_ n10_
                                          (try clear hb)
                                          (try clear hb2)
                                          (try clear hk)
                                          (try clear hi)
                                          refine hK.out _ _ ⟨(blk_cell BK295.out 0).trans rfl, (blk_cell BK300.out 0).trans rfl, (blk_cell BK285.out 0).trans rfl⟩ (fun hHeld => ?_)
                                          clear hK K
                                          refine norm_ (a' := ?_) ?_ ?_
                                          rotate_left
                                          · show Act.put _ (some 195) _ = _
                                            simp only [Act.put, List.setIfInBounds_toArray, List.set_cons_zero, List.set_cons_succ, i64_w, i32_w]
                                            rfl
                                          refine pure_ (i := 37) (N := some 196) (v := ?_) (a' := ?_) #[true, true, true, true, true, true, true, true, true, true, true, true, true, true, true, true, true, true, true, true, true, true, true, true, true, true, true, true, true, true, true, true, true, true, true, true, true, true, false, false, false, false, false, false, false, false, false, false, false, false, false, false, false, false, false] rfl rfl (any_of HT_.out (by kernel_rfl)) (fun _ _ _ h => h) (Or.inl ⟨by rfl, ?_⟩) ?_ ?_
                                          rotate_left
                                          · intro w'
                                            go_simp
                                            with_reducible rfl
                                          rotate_left
                                          · simp only [Act.put, List.setIfInBounds_toArray, List.set_cons_zero, List.set_cons_succ, i64_w, i32_w]
                                            rfl
                                          refine pure_ (i := 38) (N := some 197) (v := ?_) (a' := ?_) #[true, true, true, true, true, true, true, true, true, true, true, true, true, true, true, true, true, true, true, true, true, true, true, true, true, true, true, true, true, true, true, true, true, true, true, true, true, true, true, false, false, false, false, false, false, false, false, false, false, false, false, false, false, false, false] rfl rfl (any_of HT_.out (by kernel_rfl)) (fun _ _ _ h => h) (Or.inl ⟨by rfl, ?_⟩) ?_ ?_
                                          rotate_left
                                          · intro w'
                                            go_simp
                                            with_reducible rfl
                                          rotate_left
                                          · simp only [Act.put, List.setIfInBounds_toArray, List.set_cons_zero, List.set_cons_succ, i64_w, i32_w]
                                            rfl
                                          refine pure_ (i := 39) (N := some 198) (v := ?_) (a' := ?_) #[true, true, true, true, true, true, true, true, true, true, true, true, true, true, true, true, true, true, true, true, true, true, true, true, true, true, true, true, true, true, true, true, true, true, true, true, true, true, true, true, false, false, false, false, false, false, false, false, false, false, false, false, false, false, false] rfl rfl (any_of HT_.out (by kernel_rfl)) (fun _ _ _ h => h) (Or.inl ⟨by rfl, ?_⟩) ?_ ?_
                                          rotate_left
                                          · intro w'
                                            go_simp
                                            with_reducible rfl
                                          rotate_left
                                          · simp only [Act.put, List.setIfInBounds_toArray, List.set_cons_zero, List.set_cons_succ, i64_w, i32_w]
                                            rfl
                                          refine take_ (i := 40) (N := some 199) (v := ?_) (a' := ?_) #[true, true, true, true, true, true, true, true, true, true, true, true, true, true, true, true, true, true, true, true, true, true, true, true, true, true, true, true, true, true, true, true, true, true, true, true, true, true, true, true, true, false, false, false, false, false, false, false, false, false, false, false, false, false, false] rfl rfl (take_ofW HT_.out HW_.out (by kernel_rfl)) (fun _ _ _ h => h) (Or.inl ⟨by rfl, ?_⟩) hHeld ?_ ?_
                                          rotate_left
                                          · rintro w' ⟨s0, s1, s2⟩
                                            go_simp
                                            with_reducible rfl
                                          rotate_left
                                          · simp only [Act.put, List.setIfInBounds_toArray, List.set_cons_zero, List.set_cons_succ, i64_w, i32_w]
                                            rfl
                                          refine take_ (i := 42) (N := some 201) (v := ?_) (a' := ?_) #[true, true, true, true, true, true, true, true, true, true, true, true, true, true, true, true, true, true, true, true, true, true, true, true, true, true, true, true, true, true, true, true, true, true, true, true, true, true, true, true, true, false, true, false, false, false, false, false, false, false, false, false, false, false, false] rfl rfl (take_ofW HT_.out HW_.out (by kernel_rfl)) (fun _ _ _ h => h) (Or.inl ⟨by rfl, ?_⟩) hHeld ?_ ?_
                                          rotate_left
                                          · rintro w' ⟨s0, s1, s2⟩
                                            go_simp
                                            with_reducible rfl
                                          rotate_left
                                          · simp only [Act.put, List.setIfInBounds_toArray, List.set_cons_zero, List.set_cons_succ, i64_w, i32_w]
                                            rfl
                                          refine one_ (i := 41) (N := some 200) #[true, true, true, true, true, true, true, true, true, true, true, true, true, true, true, true, true, true, true, true, true, true, true, true, true, true, true, true, true, true, true, true, true, true, true, true, true, true, true, true, true, true, true, false, false, false, false, false, false, false, false, false, false, false, false] rfl rfl (one_of HT_.out (by kernel_rfl)) (by decide) (fun K hK => ?_)
                                          refine goes_ Try.func10 (by kernel_rfl) rfl #[.agg #[.slice A0_0 l0_0.length c0_0]] (by rfl) rfl rfl (by (try simp only [List.map_toArray, List.map_cons, List.map_nil]); first | done | rfl | (simp only [List.length_drop, List.length_take]; rfl)) ?_
                                          with_reducible refine (table_Pages.calls kj56 _ _ l0_0 t341 _ ?side1 ?side2 A115.out).mono ?_
                                          (case side1 => repeat (first | exact (Kd.C_below HR0_0.out HB.out) | (with_reducible refine Kd.C_alloc ?_ _) | (with_reducible refine Kd.C_drewN ?_ _) | (with_reducible refine Kd.C_drew ?_)))
                                          (case side2 => exact HC0_0.out)
                                          rintro e w147 ⟨v342, rfl, ho0, hb⟩
                                          refine ⟨_, rfl, ?_⟩
                                          have n0_ := Aside0.mk (Kd.V_elder' (by (with_reducible repeat (first | apply Kd.V_alloc | apply Kd.V_drewN | apply Kd.V_drew)); exact HO_296000.out) (Kd.R_base ho0) hb)
                                          have n1_ := Aside0.mk (Kd.V_elder' (by (with_reducible repeat (first | apply Kd.V_alloc | apply Kd.V_drewN | apply Kd.V_drew)); exact HO_301000.out) (Kd.R_base ho0) hb)
                                          have n2_ := Aside0.mk (Kd.R_below (by (with_reducible repeat (first | apply Kd.R_alloc | apply Kd.R_drewN | apply Kd.R_drew)); exact HO321.out) hb)
                                          have n3_ := Aside0.mk (Kd.R_below (by (with_reducible repeat (first | apply Kd.R_alloc | apply Kd.R_drewN | apply Kd.R_drew)); exact HO325.out) hb)
                                          have n4_ := Aside0.mk (Kd.R_below (by (with_reducible repeat (first | apply Kd.R_alloc | apply Kd.R_drewN | apply Kd.R_drew)); exact HO329.out) hb)
                                          have n5_ := Aside0.mk (Kd.R_elder' (by (with_reducible repeat (first | apply Kd.R_alloc | apply Kd.R_drewN | apply Kd.R_drew)); exact HO332.out) (Kd.R_base ho0) hb)
                                          have n6_ := Aside0.mk (Kd.R_elder' (by (with_reducible repeat (first | apply Kd.R_alloc | apply Kd.R_drewN | apply Kd.R_drew)); exact HO336.out) (Kd.R_base ho0) hb)
                                          have n7_ := Aside0.mk (Kd.R_lower (Kd.R_new' (Kd.R_new' ho0 (Kd.R_lt (by (with_reducible repeat (first | apply Kd.R_alloc | apply Kd.R_drewN | apply Kd.R_drew)); exact HO332.out))) (Kd.R_lt (by (with_reducible repeat (first | apply Kd.R_alloc | apply Kd.R_drewN | apply Kd.R_drew)); exact HO336.out))) (below_size (by repeat (first | (with_reducible first | exact HB.out | apply below_alloc | apply pw_below_drewN | apply below_drew1 | refine below_set ?_ GE285.out | refine below_set ?_ GE295.out | refine below_set ?_ GE300.out) | exact HB.out))))
                                          have n8_ := Aside0.mk (blk_below (g := gb285) (o := .cells #[.slice A0_0 l0_0.length c0_0] 24 (0, 0)) (by (with_reducible repeat (first | refine blk_drewN ?_ _ | refine blk_drew ?_ | refine blk_alloc ?_ _)); exact BK285.out) hb)
                                          have n9_ := Aside0.mk (blk_below (g := gb295) (o := .cells #[.slice Ao134 t330.length co134] 24 (0, 0)) (by (with_reducible repeat (first | refine blk_drewN ?_ _ | refine blk_drew ?_ | refine blk_alloc ?_ _)); exact BK295.out) hb)
                                          have n10_ := Aside0.mk (blk_below (g := gb300) (o := .cells #[.slice Ao138 t334.length co138] 24 (0, 0)) (by (with_reducible repeat (first | refine blk_drewN ?_ _ | refine blk_drew ?_ | refine blk_alloc ?_ _)); exact BK300.out) hb)
                                          have n11_ := Aside0.mk (below_step (by repeat (first | (with_reducible first | exact HB.out | apply below_alloc | apply pw_below_drewN | apply below_drew1 | refine below_set ?_ GE285.out | refine below_set ?_ GE295.out | refine below_set ?_ GE300.out) | exact HB.out)) hb)
                                          clear HO_296000
                                          clear HO_301000
                                          clear HO321
                                          clear HO325
                                          clear HO329
                                          clear HO332
                                          clear HO336
                                          clear BK285
                                          clear BK295
                                          clear BK300
                                          clear HB
                                          have HO_296000 := n0_
                                          have HO_301000 := n1_
                                          have HO321 := n2_
                                          have HO325 := n3_
                                          have HO329 := n4_
                                          have HO332 := n5_
                                          have HO336 := n6_
                                          have HO343 := n7_
                                          have BK285 := n8_
                                          have BK295 := n9_
                                          have BK300 := n10_
                                          have HB := n11_
                                          clear n0_ n1_ n2_ n3_ n4_ n5_ n6_ n7_ n8_ n9_ n10_ n11_
                                          (try clear hb)
                                          (try clear hb2)
                                          (try clear hk)
                                          (try clear hi)
                                          (try clear ho0)
                                          refine hK.out _ _ ⟨(blk_cell BK295.out 0).trans rfl, (blk_cell BK300.out 0).trans rfl, (blk_cell BK285.out 0).trans rfl⟩ (fun hHeld => ?_)
                                          clear hK K
                                          refine norm_ (a' := ?_) ?_ ?_
                                          rotate_left
                                          · show Act.put _ (some 200) _ = _
                                            simp only [Act.put, List.setIfInBounds_toArray, List.set_cons_zero, List.set_cons_succ, i64_w, i32_w]
                                            rfl
                                          refine one_ (i := 43) (N := some 202) #[true, true, true, true, true, true, true, true, true, true, true, true, true, true, true, true, true, true, true, true, true, true, true, true, true, true, true, true, true, true, true, true, true, true, true, true, true, true, true, true, true, true, true, true, false, false, false, false, false, false, false, false, false, false, false] rfl rfl (one_of HT_.out (by kernel_rfl)) (by decide) (fun K hK => ?_)
                                          refine goes_ Try.func30 (by kernel_rfl) rfl #[.agg #[.slice A0_0 l0_0.length c0_0]] (by rfl) rfl rfl (by (try simp only [List.map_toArray, List.map_cons, List.map_nil]); first | done | rfl | (simp only [List.length_drop, List.length_take]; rfl)) ?_
                                          with_reducible refine (tallymanref10_Pages.calls kj56 _ _ l0_0 t344 _ ?side1 ?side2 A116.out).mono ?_
                                          (case side1 => repeat (first | exact (Kd.C_below HR0_0.out HB.out) | (with_reducible refine Kd.C_alloc ?_ _) | (with_reducible refine Kd.C_drewN ?_ _) | (with_reducible refine Kd.C_drew ?_)))
                                          (case side2 => exact HC0_0.out)
                                          rintro e w148 ⟨v345, rfl, ho0, hb⟩
                                          refine ⟨_, rfl, ?_⟩
                                          have n0_ := Aside0.mk (Kd.V_elder' (by (with_reducible repeat (first | apply Kd.V_alloc | apply Kd.V_drewN | apply Kd.V_drew)); exact HO_296000.out) (Kd.R_base ho0) hb)
                                          have n1_ := Aside0.mk (Kd.V_elder' (by (with_reducible repeat (first | apply Kd.V_alloc | apply Kd.V_drewN | apply Kd.V_drew)); exact HO_301000.out) (Kd.R_base ho0) hb)
                                          have n2_ := Aside0.mk (Kd.R_below (by (with_reducible repeat (first | apply Kd.R_alloc | apply Kd.R_drewN | apply Kd.R_drew)); exact HO321.out) hb)
                                          have n3_ := Aside0.mk (Kd.R_below (by (with_reducible repeat (first | apply Kd.R_alloc | apply Kd.R_drewN | apply Kd.R_drew)); exact HO325.out) hb)
                                          have n4_ := Aside0.mk (Kd.R_below (by (with_reducible repeat (first | apply Kd.R_alloc | apply Kd.R_drewN | apply Kd.R_drew)); exact HO329.out) hb)
                                          have n5_ := Aside0.mk (Kd.R_elder' (by (with_reducible repeat (first | apply Kd.R_alloc | apply Kd.R_drewN | apply Kd.R_drew)); exact HO332.out) (Kd.R_base ho0) hb)
                                          have n6_ := Aside0.mk (Kd.R_elder' (by (with_reducible repeat (first | apply Kd.R_alloc | apply Kd.R_drewN | apply Kd.R_drew)); exact HO336.out) (Kd.R_base ho0) hb)
                                          have n7_ := Aside0.mk (Kd.R_elder' (by (with_reducible repeat (first | apply Kd.R_alloc | apply Kd.R_drewN | apply Kd.R_drew)); exact HO343.out) (Kd.R_base ho0) hb)
                                          have n8_ := Aside0.mk (Kd.R_lower (Kd.R_new' (Kd.R_new' (Kd.R_new' ho0 (Kd.R_lt (by (with_reducible repeat (first | apply Kd.R_alloc | apply Kd.R_drewN | apply Kd.R_drew)); exact HO332.out))) (Kd.R_lt (by (with_reducible repeat (first | apply Kd.R_alloc | apply Kd.R_drewN | apply Kd.R_drew)); exact HO336.out))) (Kd.R_lt (by (with_reducible repeat (first | apply Kd.R_alloc | apply Kd.R_drewN | apply Kd.R_drew)); exact HO343.out))) (below_size (by repeat (first | (with_reducible first | exact HB.out | apply below_alloc | apply pw_below_drewN | apply below_drew1 | refine below_set ?_ GE285.out | refine below_set ?_ GE295.out | refine below_set ?_ GE300.out) | exact HB.out))))
                                          have n9_ := Aside0.mk (blk_below (g := gb285) (o := .cells #[.slice A0_0 l0_0.length c0_0] 24 (0, 0)) (by (with_reducible repeat (first | refine blk_drewN ?_ _ | refine blk_drew ?_ | refine blk_alloc ?_ _)); exact BK285.out) hb)
                                          have n10_ := Aside0.mk (blk_below (g := gb295) (o := .cells #[.slice Ao134 t330.length co134] 24 (0, 0)) (by (with_reducible repeat (first | refine blk_drewN ?_ _ | refine blk_drew ?_ | refine blk_alloc ?_ _)); exact BK295.out) hb)
                                          have n11_ := Aside0.mk (blk_below (g := gb300) (o := .cells #[.slice Ao138 t334.length co138] 24 (0, 0)) (by (with_reducible repeat (first | refine blk_drewN ?_ _ | refine blk_drew ?_ | refine blk_alloc ?_ _)); exact BK300.out) hb)
                                          have n12_ := Aside0.mk (below_step (by repeat (first | (with_reducible first | exact HB.out | apply below_alloc | apply pw_below_drewN | apply below_drew1 | refine below_set ?_ GE285.out | refine below_set ?_ GE295.out | refine below_set ?_ GE300.out) | exact HB.out)) hb)
                                          clear HO_296000
                                          clear HO_301000
                                          clear HO321
                                          clear HO325
                                          clear HO329
                                          clear HO332
                                          clear HO336
                                          clear HO343
                                          clear BK285
                                          clear BK295
                                          clear BK300
                                          clear HB
                                          have HO_296000 := n0_
                                          have HO_301000 := n1_
                                          have HO321 := n2_
                                          have HO325 := n3_
                                          have HO329 := n4_
                                          have HO332 := n5_
                                          have HO336 := n6_
                                          have HO343 := n7_
                                          have HO346 := n8_
                                          have BK285 := n9_
                                          have BK295 := n10_
                                          have BK300 := n11_
                                          have HB := n12_
                                          clear n0_ n1_ n2_ n3_ n4_ n5_ n6_ n7_ n8_ n9_ n10_ n11_ n12_
                                          (try clear hb)
                                          (try clear hb2)
                                          (try clear hk)
                                          (try clear hi)
                                          (try clear ho0)
                                          obtain ⟨Ao149, co149, eo149⟩ := Kd.R_slice HO343.out
                                          (first | subst eo149 | (injection eo149 with f1_ f2_ f3_; have f4_ := f1_.symm; have f5_ := f3_.symm; clear f1_ f2_ f3_; subst f4_; subst f5_))
                                          obtain ⟨Ao150, co150, eo150⟩ := Kd.R_slice HO346.out
                                          (first | subst eo150 | (injection eo150 with f1_ f2_ f3_; have f4_ := f1_.symm; have f5_ := f3_.symm; clear f1_ f2_ f3_; subst f4_; subst f5_))
                                          refine hK.out _ _ ⟨(blk_cell BK295.out 0).trans rfl, (blk_cell BK300.out 0).trans rfl, (blk_cell BK285.out 0).trans rfl⟩ (fun hHeld => ?_)
                                          clear hK K
                                          refine norm_ (a' := ?_) ?_ ?_
                                          rotate_left
                                          · show Act.put _ (some 202) _ = _
                                            simp only [Act.put, List.setIfInBounds_toArray, List.set_cons_zero, List.set_cons_succ, i64_w, i32_w]
                                            rfl
                                          refine one_ (i := 44) (N := some 203) #[true, true, true, true, true, true, true, true, true, true, true, true, true, true, true, true, true, true, true, true, true, true, true, true, true, true, true, true, true, true, true, true, true, true, true, true, true, true, true, true, true, true, true, true, true, false, false, false, false, false, false, false, false, false, false] rfl rfl (one_of HT_.out (by kernel_rfl)) (by decide) (fun K hK => ?_)
                                          refine goes_ Try.func18 (by kernel_rfl) rfl #[.slice Ao149 t341.length co149, .slice Ao150 t344.length co150] (by rfl) rfl rfl (by (try simp only [List.map_toArray, List.map_cons, List.map_nil]); first | done | rfl | (simp only [List.length_drop, List.length_take]; rfl)) ?_
                                          with_reducible refine (tallymankit_Ints.calls kj56 _ _ t341 _ _ t344 true _ ?side1 ?side2 ?side3 ?side4 A117.out).mono ?_
                                          (case side1 => repeat (first | exact (Kd.R_reads' HO343.out).2.2 | (with_reducible refine Kd.C_alloc ?_ _) | (with_reducible refine Kd.C_drewN ?_ _) | (with_reducible refine Kd.C_drew ?_)))
                                          (case side2 => exact (Kd.R_reads' HO343.out).2.1)
                                          (case side3 => repeat (first | exact (Kd.R_reads' HO346.out).2.2 | (with_reducible refine Kd.C_alloc ?_ _) | (with_reducible refine Kd.C_drewN ?_ _) | (with_reducible refine Kd.C_drew ?_)))
                                          (case side4 => exact (Kd.R_reads' HO346.out).2.1)
                                          rintro e w' ⟨rfl, ⟨nd, rfl⟩⟩
                                          refine ⟨_, rfl, ?_⟩
                                          refine hK.out _ _ ⟨(blk_cell BK295.out 0).trans rfl, (blk_cell BK300.out 0).trans rfl, (blk_cell BK285.out 0).trans rfl⟩ (fun hHeld => ?_)
                                          clear hK K
                                          refine norm_ (a' := ?_) ?_ ?_
                                          rotate_left
                                          · show Act.put _ (some 203) _ = _
                                            simp only [Act.put, List.setIfInBounds_toArray, List.set_cons_zero, List.set_cons_succ, i64_w, i32_w]
                                            rfl
                                          refine pure_ (i := 45) (N := some 204) (v := ?_) (a' := ?_) #[true, true, true, true, true, true, true, true, true, true, true, true, true, true, true, true, true, true, true, true, true, true, true, true, true, true, true, true, true, true, true, true, true, true, true, true, true, true, true, true, true, true, true, true, true, true, false, false, false, false, false, false, false, false, false] rfl rfl (any_of HT_.out (by kernel_rfl)) (fun _ _ _ h => h) (Or.inl ⟨by rfl, ?_⟩) ?_ ?_
                                          rotate_left
                                          · intro w'
                                            go_simp
                                            with_reducible rfl
                                          rotate_left
                                          · simp only [Act.put, List.setIfInBounds_toArray, List.set_cons_zero, List.set_cons_succ, i64_w, i32_w]
                                            rfl
                                          refine pure_ (i := 46) (N := some 205) (v := ?_) (a' := ?_) #[true, true, true, true, true, true, true, true, true, true, true, true, true, true, true, true, true, true, true, true, true, true, true, true, true, true, true, true, true, true, true, true, true, true, true, true, true, true, true, true, true, true, true, true, true, true, true, false, false, false, false, false, false, false, false] rfl rfl (any_of HT_.out (by kernel_rfl)) (fun _ _ _ h => h) (Or.inl ⟨by rfl, ?_⟩) ?_ ?_
                                          rotate_left
                                          · intro w'
                                            go_simp
                                            with_reducible rfl
                                          rotate_left
                                          · simp only [Act.put, List.setIfInBounds_toArray, List.set_cons_zero, List.set_cons_succ, i64_w, i32_w]
                                            rfl
                                          refine take_ (i := 47) (N := some 206) (v := ?_) (a' := ?_) #[true, true, true, true, true, true, true, true, true, true, true, true, true, true, true, true, true, true, true, true, true, true, true, true, true, true, true, true, true, true, true, true, true, true, true, true, true, true, true, true, true, true, true, true, true, true, true, true, false, false, false, false, false, false, false] rfl rfl (take_ofW HT_.out HW_.out (by kernel_rfl)) (fun _ _ _ h => h) (Or.inl ⟨by rfl, ?_⟩) hHeld ?_ ?_
                                          rotate_left
                                          · rintro w' ⟨s0, s1, s2⟩
                                            go_simp
                                            with_reducible rfl
                                          rotate_left
                                          · simp only [Act.put, List.setIfInBounds_toArray, List.set_cons_zero, List.set_cons_succ, i64_w, i32_w]
                                            rfl
                                          refine take_ (i := 49) (N := some 208) (v := ?_) (a' := ?_) #[true, true, true, true, true, true, true, true, true, true, true, true, true, true, true, true, true, true, true, true, true, true, true, true, true, true, true, true, true, true, true, true, true, true, true, true, true, true, true, true, true, true, true, true, true, true, true, true, false, true, false, false, false, false, false] rfl rfl (take_ofW HT_.out HW_.out (by kernel_rfl)) (fun _ _ _ h => h) (Or.inl ⟨by rfl, ?_⟩) hHeld ?_ ?_
                                          rotate_left
                                          · rintro w' ⟨s0, s1, s2⟩
                                            go_simp
                                            with_reducible rfl
                                          rotate_left
                                          · simp only [Act.put, List.setIfInBounds_toArray, List.set_cons_zero, List.set_cons_succ, i64_w, i32_w]
                                            rfl
                                          refine one_ (i := 48) (N := some 207) #[true, true, true, true, true, true, true, true, true, true, true, true, true, true, true, true, true, true, true, true, true, true, true, true, true, true, true, true, true, true, true, true, true, true, true, true, true, true, true, true, true, true, true, true, true, true, true, true, true, true, false, false, false, false, false] rfl rfl (one_of HT_.out (by kernel_rfl)) (by decide) (fun K hK => ?_)
                                          refine goes_ Try.func14 (by kernel_rfl) rfl #[.agg #[.slice A0_0 l0_0.length c0_0]] (by rfl) rfl rfl (by (try simp only [List.map_toArray, List.map_cons, List.map_nil]); first | done | rfl | (simp only [List.length_drop, List.length_take]; rfl)) ?_
                                          with_reducible refine (table_Count.calls kj56 _ _ l0_0 t348 _ ?side1 ?side2 A119.out).mono ?_
                                          (case side1 => repeat (first | exact (Kd.C_below HR0_0.out (by repeat (first | (with_reducible first | exact HB.out | apply below_alloc | apply pw_below_drewN | apply below_drew1 | refine below_set ?_ GE285.out | refine below_set ?_ GE295.out | refine below_set ?_ GE300.out) | exact HB.out))) | (with_reducible refine Kd.C_alloc ?_ _) | (with_reducible refine Kd.C_drewN ?_ _) | (with_reducible refine Kd.C_drew ?_)))
                                          (case side2 => exact HC0_0.out)
                                          rintro e w151 ⟨rfl, hb⟩
                                          refine ⟨_, rfl, ?_⟩
                                          have n0_ := Aside0.mk (Kd.V_below (by (with_reducible repeat (first | apply Kd.V_alloc | apply Kd.V_drewN | apply Kd.V_drew)); exact HO_296000.out) hb)
                                          have n1_ := Aside0.mk (Kd.V_below (by (with_reducible repeat (first | apply Kd.V_alloc | apply Kd.V_drewN | apply Kd.V_drew)); exact HO_301000.out) hb)
                                          have n2_ := Aside0.mk (Kd.R_below (by (with_reducible repeat (first | apply Kd.R_alloc | apply Kd.R_drewN | apply Kd.R_drew)); exact HO321.out) hb)
                                          have n3_ := Aside0.mk (Kd.R_below (by (with_reducible repeat (first | apply Kd.R_alloc | apply Kd.R_drewN | apply Kd.R_drew)); exact HO325.out) hb)
                                          have n4_ := Aside0.mk (Kd.R_below (by (with_reducible repeat (first | apply Kd.R_alloc | apply Kd.R_drewN | apply Kd.R_drew)); exact HO329.out) hb)
                                          have n5_ := Aside0.mk (Kd.R_below (by (with_reducible repeat (first | apply Kd.R_alloc | apply Kd.R_drewN | apply Kd.R_drew)); exact HO332.out) hb)
                                          have n6_ := Aside0.mk (Kd.R_below (by (with_reducible repeat (first | apply Kd.R_alloc | apply Kd.R_drewN | apply Kd.R_drew)); exact HO336.out) hb)
                                          have n7_ := Aside0.mk (Kd.R_below (by (with_reducible repeat (first | apply Kd.R_alloc | apply Kd.R_drewN | apply Kd.R_drew)); exact HO343.out) hb)
                                          have n8_ := Aside0.mk (Kd.R_below (by (with_reducible repeat (first | apply Kd.R_alloc | apply Kd.R_drewN | apply Kd.R_drew)); exact HO346.out) hb)
                                          have n9_ := Aside0.mk (blk_below (g := gb285) (o := .cells #[.slice A0_0 l0_0.length c0_0] 24 (0, 0)) (by (with_reducible repeat (first | refine blk_drewN ?_ _ | refine blk_drew ?_ | refine blk_alloc ?_ _)); exact BK285.out) hb)
                                          have n10_ := Aside0.mk (blk_below (g := gb295) (o := .cells #[.slice Ao134 t330.length co134] 24 (0, 0)) (by (with_reducible repeat (first | refine blk_drewN ?_ _ | refine blk_drew ?_ | refine blk_alloc ?_ _)); exact BK295.out) hb)
                                          have n11_ := Aside0.mk (blk_below (g := gb300) (o := .cells #[.slice Ao138 t334.length co138] 24 (0, 0)) (by (with_reducible repeat (first | refine blk_drewN ?_ _ | refine blk_drew ?_ | refine blk_alloc ?_ _)); exact BK300.out) hb)
                                          have n12_ := Aside0.mk (below_step (by repeat (first | (with_reducible first | exact HB.out | apply below_alloc | apply pw_below_drewN | apply below_drew1 | refine below_set ?_ GE285.out | refine below_set ?_ GE295.out | refine below_set ?_ GE300.out) | exact HB.out)) hb)
                                          clear HO_296000
                                          clear HO_301000
                                          clear HO321
                                          clear HO325
                                          clear HO329
                                          clear HO332
                                          clear HO336
                                          clear HO343
                                          clear HO346
                                          clear BK285
                                          clear BK295
                                          clear BK300
                                          clear HB
                                          have HO_296000 := n0_
                                          have HO_301000 := n1_
                                          have HO321 := n2_
                                          have HO325 := n3_
                                          have HO329 := n4_
                                          have HO332 := n5_
                                          have HO336 := n6_
                                          have HO343 := n7_
                                          have HO346 := n8_
                                          have BK285 := n9_
                                          have BK295 := n10_
                                          have BK300 := n11_
                                          have HB := n12_
                                          clear n0_ n1_ n2_ n3_ n4_ n5_ n6_ n7_ n8_ n9_ n10_ n11_ n12_
                                          (try clear hb)
                                          (try clear hb2)
                                          (try clear hk)
                                          (try clear hi)
                                          refine hK.out _ _ ⟨(blk_cell BK295.out 0).trans rfl, (blk_cell BK300.out 0).trans rfl, (blk_cell BK285.out 0).trans rfl⟩ (fun hHeld => ?_)
                                          clear hK K
                                          refine norm_ (a' := ?_) ?_ ?_
                                          rotate_left
                                          · show Act.put _ (some 207) _ = _
                                            simp only [Act.put, List.setIfInBounds_toArray, List.set_cons_zero, List.set_cons_succ, i64_w, i32_w]
                                            rfl
                                          refine one_ (i := 50) (N := some 209) #[true, true, true, true, true, true, true, true, true, true, true, true, true, true, true, true, true, true, true, true, true, true, true, true, true, true, true, true, true, true, true, true, true, true, true, true, true, true, true, true, true, true, true, true, true, true, true, true, true, true, true, false, false, false, false] rfl rfl (one_of HT_.out (by kernel_rfl)) (by decide) (fun K hK => ?_)
                                          refine goes_ Try.func30 (by kernel_rfl) rfl #[.agg #[.slice A0_0 l0_0.length c0_0]] (by rfl) rfl rfl (by (try simp only [List.map_toArray, List.map_cons, List.map_nil]); first | done | rfl | (simp only [List.length_drop, List.length_take]; rfl)) ?_
                                          with_reducible refine (tallymanref10_Pages.calls kj56 _ _ l0_0 t349 _ ?side1 ?side2 A120.out).mono ?_
                                          (case side1 => repeat (first | exact (Kd.C_below HR0_0.out HB.out) | (with_reducible refine Kd.C_alloc ?_ _) | (with_reducible refine Kd.C_drewN ?_ _) | (with_reducible refine Kd.C_drew ?_)))
                                          (case side2 => exact HC0_0.out)
                                          rintro e w152 ⟨v350, rfl, ho0, hb⟩
                                          refine ⟨_, rfl, ?_⟩
                                          have n0_ := Aside0.mk (Kd.V_elder' (by (with_reducible repeat (first | apply Kd.V_alloc | apply Kd.V_drewN | apply Kd.V_drew)); exact HO_296000.out) (Kd.R_base ho0) hb)
                                          have n1_ := Aside0.mk (Kd.V_elder' (by (with_reducible repeat (first | apply Kd.V_alloc | apply Kd.V_drewN | apply Kd.V_drew)); exact HO_301000.out) (Kd.R_base ho0) hb)
                                          have n2_ := Aside0.mk (Kd.R_below (by (with_reducible repeat (first | apply Kd.R_alloc | apply Kd.R_drewN | apply Kd.R_drew)); exact HO321.out) hb)
                                          have n3_ := Aside0.mk (Kd.R_below (by (with_reducible repeat (first | apply Kd.R_alloc | apply Kd.R_drewN | apply Kd.R_drew)); exact HO325.out) hb)
                                          have n4_ := Aside0.mk (Kd.R_below (by (with_reducible repeat (first | apply Kd.R_alloc | apply Kd.R_drewN | apply Kd.R_drew)); exact HO329.out) hb)
                                          have n5_ := Aside0.mk (Kd.R_elder' (by (with_reducible repeat (first | apply Kd.R_alloc | apply Kd.R_drewN | apply Kd.R_drew)); exact HO332.out) (Kd.R_base ho0) hb)
                                          have n6_ := Aside0.mk (Kd.R_elder' (by (with_reducible repeat (first | apply Kd.R_alloc | apply Kd.R_drewN | apply Kd.R_drew)); exact HO336.out) (Kd.R_base ho0) hb)
                                          have n7_ := Aside0.mk (Kd.R_elder' (by (with_reducible repeat (first | apply Kd.R_alloc | apply Kd.R_drewN | apply Kd.R_drew)); exact HO343.out) (Kd.R_base ho0) hb)
                                          have n8_ := Aside0.mk (Kd.R_elder' (by (with_reducible repeat (first | apply Kd.R_alloc | apply Kd.R_drewN | apply Kd.R_drew)); exact HO346.out) (Kd.R_base ho0) hb)
                                          have n9_ := Aside0.mk (Kd.R_lower (Kd.R_new' (Kd.R_new' (Kd.R_new' (Kd.R_new' ho0 (Kd.R_lt (by (with_reducible repeat (first | apply Kd.R_alloc | apply Kd.R_drewN | apply Kd.R_drew)); exact HO332.out))) (Kd.R_lt (by (with_reducible repeat (first | apply Kd.R_alloc | apply Kd.R_drewN | apply Kd.R_drew)); exact HO336.out))) (Kd.R_lt (by (with_reducible repeat (first | apply Kd.R_alloc | apply Kd.R_drewN | apply Kd.R_drew)); exact HO343.out))) (Kd.R_lt (by (with_reducible repeat (first | apply Kd.R_alloc | apply Kd.R_drewN | apply Kd.R_drew)); exact HO346.out))) (below_size (by repeat (first | (with_reducible first | exact HB.out | apply below_alloc | apply pw_below_drewN | apply below_drew1 | refine below_set ?_ GE285.out | refine below_set ?_ GE295.out | refine below_set ?_ GE300.out) | exact HB.out))))
                                          have n10_ := Aside0.mk (blk_below (g := gb285) (o := .cells #[.slice A0_0 l0_0.length c0_0] 24 (0, 0)) (by (with_reducible repeat (first | refine blk_drewN ?_ _ | refine blk_drew ?_ | refine blk_alloc ?_ _)); exact BK285.out) hb)
                                          have n11_ := Aside0.mk (blk_below (g := gb295) (o := .cells #[.slice Ao134 t330.length co134] 24 (0, 0)) (by (with_reducible repeat (first | refine blk_drewN ?_ _ | refine blk_drew ?_ | refine blk_alloc ?_ _)); exact BK295.out) hb)
                                          have n12_ := Aside0.mk (blk_below (g := gb300) (o := .cells #[.slice Ao138 t334.length co138] 24 (0, 0)) (by (with_reducible repeat (first | refine blk_drewN ?_ _ | refine blk_drew ?_ | refine blk_alloc ?_ _)); exact BK300.out) hb)
                                          have n13_ := Aside0.mk (below_step (by repeat (first | (with_reducible first | exact HB.out | apply below_alloc | apply pw_below_drewN | apply below_drew1 | refine below_set ?_ GE285.out | refine below_set ?_ GE295.out | refine below_set ?_ GE300.out) | exact HB.out)) hb)
                                          clear HO_296000
                                          clear HO_301000
                                          clear HO321
                                          clear HO325
                                          clear HO329
                                          clear HO332
                                          clear HO336
                                          clear HO343
                                          clear HO346
                                          clear BK285
                                          clear BK295
                                          clear BK300
                                          clear HB
                                          have HO_296000 := n0_
                                          have HO_301000 := n1_
                                          have HO321 := n2_
                                          have HO325 := n3_
                                          have HO329 := n4_
                                          have HO332 := n5_
                                          have HO336 := n6_
                                          have HO343 := n7_
                                          have HO346 := n8_
                                          have HO351 := n9_
                                          have BK285 := n10_
                                          have BK295 := n11_
                                          have BK300 := n12_
                                          have HB := n13_
                                          clear n0_ n1_ n2_ n3_ n4_ n5_ n6_ n7_ n8_ n9_ n10_ n11_ n12_ n13_
                                          (try clear hb)
                                          (try clear hb2)
                                          (try clear hk)
                                          (try clear hi)
                                          (try clear ho0)
                                          obtain ⟨Ao153, co153, eo153⟩ := Kd.R_slice HO351.out
                                          (first | subst eo153 | (injection eo153 with f1_ f2_ f3_; have f4_ := f1_.symm; have f5_ := f3_.symm; clear f1_ f2_ f3_; subst f4_; subst f5_))
                                          refine hK.out _ _ ⟨(blk_cell BK295.out 0).trans rfl, (blk_cell BK300.out 0).trans rfl, (blk_cell BK285.out 0).trans rfl⟩ (fun hHeld => ?_)
                                          clear hK K
                                          refine norm_ (a' := ?_) ?_ ?_
                                          rotate_left
                                          · show Act.put _ (some 209) _ = _
                                            simp only [Act.put, List.setIfInBounds_toArray, List.set_cons_zero, List.set_cons_succ, i64_w, i32_w]
                                            rfl
                                          refine pure_ (i := 51) (N := some 210) (v := ?_) (a' := ?_) #[true, true, true, true, true, true, true, true, true, true, true, true, true, true, true, true, true, true, true, true, true, true, true, true, true, true, true, true, true, true, true, true, true, true, true, true, true, true, true, true, true, true, true, true, true, true, true, true, true, true, true, true, false, false, false] rfl rfl (any_of HT_.out (by kernel_rfl)) (fun _ _ _ h => h) (Or.inl ⟨by rfl, ?_⟩) ?_ ?_
                                          rotate_left
                                          · intro w'
                                            go_simp
                                            with_reducible rfl
                                          rotate_left
                                          · simp only [Act.put, List.setIfInBounds_toArray, List.set_cons_zero, List.set_cons_succ, i64_w, i32_w]
                                            rfl
                                          refine pure_ (i := 52) (N := some 211) (v := ?_) (a' := ?_) #[true, true, true, true, true, true, true, true, true, true, true, true, true, true, true, true, true, true, true, true, true, true, true, true, true, true, true, true, true, true, true, true, true, true, true, true, true, true, true, true, true, true, true, true, true, true, true, true, true, true, true, true, true, false, false] rfl rfl (any_of HT_.out (by kernel_rfl)) (fun _ _ _ h => h) (Or.inl ⟨by rfl, ?_⟩) ?_ ?_
                                          rotate_left
                                          · intro w'
                                            go_simp
                                            with_reducible rfl
                                          rotate_left
                                          · simp only [Act.put, List.setIfInBounds_toArray, List.set_cons_zero, List.set_cons_succ, i64_w, i32_w]
                                            rfl
                                          refine pure_ (i := 53) (N := some 212) (v := ?_) (a' := ?_) #[true, true, true, true, true, true, true, true, true, true, true, true, true, true, true, true, true, true, true, true, true, true, true, true, true, true, true, true, true, true, true, true, true, true, true, true, true, true, true, true, true, true, true, true, true, true, true, true, true, true, true, true, true, true, false] rfl rfl (any_of HT_.out (by kernel_rfl)) (fun _ _ _ h => h) (Or.inl ⟨by rfl, ?_⟩) ?_ ?_
                                          rotate_left
                                          · intro w'
                                            go_simp
                                            with_reducible rfl
                                          rotate_left
                                          · simp only [Act.put, List.setIfInBounds_toArray, List.set_cons_zero, List.set_cons_succ, i64_w, i32_w]
                                            rfl
                                          refine pure_ (i := 54) (N := some 8) (v := ?_) (a' := ?_) #[true, true, true, true, true, true, true, true, true, true, true, true, true, true, true, true, true, true, true, true, true, true, true, true, true, true, true, true, true, true, true, true, true, true, true, true, true, true, true, true, true, true, true, true, true, true, true, true, true, true, true, true, true, true, true] rfl rfl (any_of HT_.out (by kernel_rfl)) (fun _ _ _ h => h) (Or.inl ⟨by rfl, ?_⟩) ?_ ?_
                                          rotate_left
                                          · intro w'
                                            go_simp
                                            with_reducible rfl
                                          rotate_left
                                          · simp only [Act.put, List.setIfInBounds_toArray, List.set_cons_zero, List.set_cons_succ, i64_w, i32_w]
                                            rfl
                                          refine done_ (done_of HT_.out (by kernel_rfl)) ?_
                                          try go_wp2
                                          go_ret
                                          exact ⟨by first | rfl | (simp [errW_none, errW_some] <;> rfl) | (simp [*, errW_none, errW_some] <;> rfl), by repeat (first | (with_reducible first | exact HB.out | apply below_alloc | apply pw_below_drewN | apply below_drew1 | refine below_set ?_ GE285.out | refine below_set ?_ GE295.out | refine below_set ?_ GE300.out) | exact HB.out)⟩
                                        · replace c118 := Bool.eq_false_iff.mpr c118
                                          subst c118
                                          have H1 : (none) = some r := by rw [if_neg (show ¬ (false = true) by decide)] at H; exact H
                                          clear H
                                          have H := H1
                                          clear H1
                                          exact absurd H (by simp)
                                    · rw [if_neg c114] at H
                                      have c114b0 : (t339 == t340) = false := beq_eq_false_iff_ne.mpr c114
                                      have c114b1 : (t339 != t340) = true := bne_iff_ne.mpr c114
                                      exact absurd H (by simp)
                                  · rw [if_neg c111] at H
                                    have c111b0 : (t333 == t337) = false := beq_eq_false_iff_ne.mpr c111
                                    have c111b1 : (t333 != t337) = true := bne_iff_ne.mpr c111
                                    exact absurd H (by simp)
                                · replace c110 := Bool.eq_false_iff.mpr c110
                                  subst c110
                                  have H1 : (none) = some r := by rw [if_neg (show ¬ (false = true) by decide)] at H; exact H
                                  clear H
                                  have H := H1
                                  clear H1
                                  exact absurd H (by simp)
                              · rw [if_neg c108] at H
                                have c108b0 : (t322 == t326) = false := beq_eq_false_iff_ne.mpr c108
                                have c108b1 : (t322 != t326) = true := bne_iff_ne.mpr c108
                                exact absurd H (by simp)
                            · rw [if_neg c107] at H
                              have c107b0 : ((strOfNums t319).toList == (strOfNums t323).toList) = false := beq_eq_false_iff_ne.mpr c107
                              have c107b1 : ((strOfNums t319).toList != (strOfNums t323).toList) = true := bne_iff_ne.mpr c107
                              exact absurd H (by simp)
                          · rw [if_neg c106] at H
                            have c106b0 : (t316 == t318) = false := by simpa using c106
                            (try (have c106b1 : decide (t316 = t318) = false := by simpa using c106))
                            (try (have c106b2 : (t316 == t318) = false := by simpa using c106))
                            (try (have c106b3 : ¬ (t316 = t318) := by simpa using c106))
                            clear c106
                            exact absurd H (by simp)
                      · rw [if_neg c105] at H
                        have c105b0 : (t315 == t317) = false := beq_eq_false_iff_ne.mpr c105
                        have c105b1 : (t315 != t317) = true := bne_iff_ne.mpr c105
                        exact absurd H (by simp)
  · replace c6 := Bool.eq_false_iff.mpr c6
    subst c6
    have H1 : (none) = some r := by rw [if_neg (show ¬ (false = true) by decide)] at H; exact H
    clear H
    have H := H1
    clear H1
    exact absurd H (by simp)

end Go.Proofs.Ytefnndodcpimiaa.H
