-- Made by this session's own call of the printer (functions that are proved by hand are taken from a text beside it).
import Derived.Test.YtefnndodcpimiaaH0
import Derived.Test.YtefnndodcpimiaaMM
import Derived.Test.YtefnndodcpimiaaH1
import Derived.Test.YtefnndodcpimiaaH2
import Derived.Test.YtefnndodcpimiaaH3
import Derived.Test.YtefnndodcpimiaaH9
namespace Go.Proofs.Ytefnndodcpimiaa.H
open Go.RowKit Go.Proofs.YtefnndodcpimiaaW.PrintWords Go.Proofs.YtefnndodcpimiaaW.PrintLast Go.Proofs.YtefnndodcpimiaaW.PrintMore
attribute [local go_sem] max2_int min2_int max_two min_two max_three min_three max_four min_four   -- for this text's walks alone
set_option linter.unusedVariables false
set_option linter.unusedSimpArgs false
/-! ### tallymanlaw10_TableTells: function 7 -/
mutual
def tallymanlaw10_TableTells.l0 : Nat → List (S50) → Int → List Int → LogM → LogM → Option (Bool)
  | 0, _, _, _, _, _ => none
  | k + 1, x0, x6, x354000, x355000, x356000 => if x6 < (x0.length : Int) then (if 0 ≤ x6 ∧ x355000.length + x356000.length < 1000 then ((tallymankit_Pick.f ((rd_T50 x0 x6).f1) 60).bind fun t357 => ((tallymankit_Pick.f ((rd_T50 x0 x6).f2) 58).bind fun t359 => ((tallymankit_Pick.f ((rd_T50 x0 x6).f0) 3).bind fun t361 => (if t361 = 2 then ((table_Clear.f x354000 t357).bind fun bt362 => (if ((bt362.2 == 0) != (mhas x355000 t357)) = true then (none) else (if bt362.2 = 0 then (tallymanlaw10_TableTells.j2 k x0 x6 bt362.1 (mdel x355000 t357) (mdel x356000 (mget x355000 t357))) else (tallymanlaw10_TableTells.j2 k x0 x6 x354000 x355000 x356000)))) else ((table_Set.f k x354000 t357 (wrap64 (2 + t359))).bind fun bt367 => (if (mhas x356000 (wrap64 (2 + t359))) = true then (tallymanlaw10_TableTells.j1 k x0 x6 t357 (wrap64 (2 + t359)) (mget x355000 t357) (mhas x355000 t357) bt367.2 ((bt367.2 == 0) == ((mget x356000 (wrap64 (2 + t359))) != t357)) x354000 x355000 x356000 bt367.1) else (tallymanlaw10_TableTells.j1 k x0 x6 t357 (wrap64 (2 + t359)) (mget x355000 t357) (mhas x355000 t357) bt367.2 ((bt367.2 == 0) == false) x354000 x355000 x356000 bt367.1))))))) else (none)) else (tallymanlaw10_TableTells.l1 k 0 0 x354000 x355000)
def tallymanlaw10_TableTells.j2 : Nat → List (S50) → Int → List Int → LogM → LogM → Option (Bool)
  | 0, _, _, _, _, _ => none
  | k + 1, x0, x6, x354000, x355000, x356000 => (table_Check.f x354000).bind fun t372 => (if t372 = 0 then ((table_Count.f k x354000).bind fun t373 => (if t373 = (mlen x355000) then (tallymanlaw10_TableTells.l0 k x0 (wrap64 (x6 + 1)) x354000 x355000 x356000) else (none))) else (none))
def tallymanlaw10_TableTells.j1 : Nat → List (S50) → Int → Int → Int → Int → Bool → Int → Bool → List Int → LogM → LogM → List Int → Option (Bool)
  | 0, _, _, _, _, _, _, _, _, _, _, _, _ => none
  | k + 1, x0, x6, x7, x8, x9, x10, x16, x108, x354000, x355000, x356000, x372000 => if x108 = true then (none) else (if x16 = 0 then (if x10 = true then (tallymanlaw10_TableTells.j2 k x0 x6 x372000 (mput x355000 x7 x8) (mput (mdel x356000 x9) x8 x7)) else (tallymanlaw10_TableTells.j2 k x0 x6 x372000 (mput x355000 x7 x8) (mput x356000 x8 x7))) else (tallymanlaw10_TableTells.j2 k x0 x6 x354000 x355000 x356000))
def tallymanlaw10_TableTells.l1 : Nat → Int → Int → List Int → LogM → Option (Bool)
  | 0, _, _, _, _ => none
  | k + 1, x17, x18, x354000, x355000 => if x18 < 62 then (if 0 ≤ x18 then ((table_Get.f x354000 x18).bind fun bt374 => (if (bt374.2 != (mhas x355000 x18)) = true then (tallymanlaw10_TableTells.j4 k x17 x18 bt374.1 bt374.2 true x354000 x355000) else (tallymanlaw10_TableTells.j4 k x17 x18 bt374.1 bt374.2 (bt374.1 != (mget x355000 x18)) x354000 x355000))) else (none)) else ((table_Fresh.f k x354000).bind fun bt378 => ((table_Bytes.f k x354000).bind fun bt380 => ((table_Read.f bt380.1).bind fun bt384 => (if bt378.2 = 0 then (if bt378.1 = x17 then (if bt380.2 = 0 then (if bt384.2 = 0 then ((tallymankit_Ints.f k bt384.1 x354000).bind fun t389 => (some t389)) else (none)) else (none)) else (none)) else (none)))))
def tallymanlaw10_TableTells.j4 : Nat → Int → Int → Int → Bool → Bool → List Int → LogM → Option (Bool)
  | 0, _, _, _, _, _, _, _ => none
  | k + 1, x17, x18, x19, x20, x154, x354000, x355000 => if x154 = true then (none) else (if x20 = true then ((table_Find.f k x354000 x19).bind fun bt376 => (if bt376.2 = true then (tallymanlaw10_TableTells.j5 k x17 x18 x20 (bt376.1 != x18) x354000 x355000) else (tallymanlaw10_TableTells.j5 k x17 x18 x20 true x354000 x355000))) else (tallymanlaw10_TableTells.l1 k x17 (wrap64 (x18 + 1)) x354000 x355000))
def tallymanlaw10_TableTells.j5 : Nat → Int → Int → Bool → Bool → List Int → LogM → Option (Bool)
  | 0, _, _, _, _, _, _ => none
  | k + 1, x17, x18, x20, x168, x354000, x355000 => if x168 = true then (none) else (if x20 = true then (if x17 = x18 then (tallymanlaw10_TableTells.l1 k (wrap64 (x17 + 1)) (wrap64 (x18 + 1)) x354000 x355000) else (tallymanlaw10_TableTells.l1 k x17 (wrap64 (x18 + 1)) x354000 x355000)) else (tallymanlaw10_TableTells.l1 k x17 (wrap64 (x18 + 1)) x354000 x355000))
end
def tallymanlaw10_TableTells.f (k : Nat) (l0 : List (S50)) : Option (Bool) := (tallymanlaw10_lives.f k).bind fun t352 => (if t352 = true then (if (l0.length : Int) > 100 then (some true) else (tallymanlaw10_TableTells.l0 k l0 0 ([] : List Int) [] [])) else (none))
theorem tallymanlaw10_TableTells.mono_l : ∀ k, (∀ y0 y1 y2 y3 y4, LeO (tallymanlaw10_TableTells.l0 k y0 y1 y2 y3 y4) (tallymanlaw10_TableTells.l0 (k + 1) y0 y1 y2 y3 y4)) ∧ (∀ y0 y1 y2 y3 y4, LeO (tallymanlaw10_TableTells.j2 k y0 y1 y2 y3 y4) (tallymanlaw10_TableTells.j2 (k + 1) y0 y1 y2 y3 y4)) ∧ (∀ y0 y1 y2 y3 y4 y5 y6 y7 y8 y9 y10 y11, LeO (tallymanlaw10_TableTells.j1 k y0 y1 y2 y3 y4 y5 y6 y7 y8 y9 y10 y11) (tallymanlaw10_TableTells.j1 (k + 1) y0 y1 y2 y3 y4 y5 y6 y7 y8 y9 y10 y11)) ∧ (∀ y0 y1 y2 y3, LeO (tallymanlaw10_TableTells.l1 k y0 y1 y2 y3) (tallymanlaw10_TableTells.l1 (k + 1) y0 y1 y2 y3)) ∧ (∀ y0 y1 y2 y3 y4 y5 y6, LeO (tallymanlaw10_TableTells.j4 k y0 y1 y2 y3 y4 y5 y6) (tallymanlaw10_TableTells.j4 (k + 1) y0 y1 y2 y3 y4 y5 y6)) ∧ (∀ y0 y1 y2 y3 y4 y5, LeO (tallymanlaw10_TableTells.j5 k y0 y1 y2 y3 y4 y5) (tallymanlaw10_TableTells.j5 (k + 1) y0 y1 y2 y3 y4 y5))
  | 0 => ⟨fun _ _ _ _ _ r h => by simp [tallymanlaw10_TableTells.l0] at h, fun _ _ _ _ _ r h => by simp [tallymanlaw10_TableTells.j2] at h, fun _ _ _ _ _ _ _ _ _ _ _ _ r h => by simp [tallymanlaw10_TableTells.j1] at h, fun _ _ _ _ r h => by simp [tallymanlaw10_TableTells.l1] at h, fun _ _ _ _ _ _ _ r h => by simp [tallymanlaw10_TableTells.j4] at h, fun _ _ _ _ _ _ r h => by simp [tallymanlaw10_TableTells.j5] at h⟩
  | k + 1 => by
    obtain ⟨ih0, ih1, ih2, ih3, ih4, ih5⟩ := tallymanlaw10_TableTells.mono_l k
    refine ⟨?_, ?_, ?_, ?_, ?_, ?_⟩
    · intro y0 y1 y2 y3 y4
      unfold tallymanlaw10_TableTells.l0
      repeat' first
      | (with_reducible exact ih0 _ _ _ _ _)
      | (with_reducible exact ih1 _ _ _ _ _)
      | (with_reducible exact ih2 _ _ _ _ _ _ _ _ _ _ _ _)
      | (with_reducible exact ih3 _ _ _ _)
      | (with_reducible exact ih4 _ _ _ _ _ _ _)
      | (with_reducible exact ih5 _ _ _ _ _ _)
      | (with_reducible exact table_Bytes.mono _ _)
      | (with_reducible exact table_Count.mono _ _)
      | (with_reducible exact table_Find.mono _ _ _)
      | (with_reducible exact table_Fresh.mono _ _)
      | (with_reducible exact table_Set.mono _ _ _ _)
      | (with_reducible exact tallymankit_Ints.mono _ _ _)
      | (with_reducible exact tallymanlaw10_lives.mono _)
      | (with_reducible exact LeO.refl _)
      | (with_reducible exact LeO.none _)
      | (with_reducible refine LeO.ite ?_ ?_)
      | (with_reducible refine LeO.bind ?_ (fun _ => ?_))
      | exact ih0 _ _ _ _ _
      | exact ih1 _ _ _ _ _
      | exact ih2 _ _ _ _ _ _ _ _ _ _ _ _
      | exact ih3 _ _ _ _
      | exact ih4 _ _ _ _ _ _ _
      | exact ih5 _ _ _ _ _ _
      | exact table_Bytes.mono _ _
      | exact table_Count.mono _ _
      | exact table_Find.mono _ _ _
      | exact table_Fresh.mono _ _
      | exact table_Set.mono _ _ _ _
      | exact tallymankit_Ints.mono _ _ _
      | exact tallymanlaw10_lives.mono _
      | exact LeO.none _
      | refine LeO.ite ?_ ?_
      | refine LeO.bind ?_ (fun _ => ?_)
    · intro y0 y1 y2 y3 y4
      unfold tallymanlaw10_TableTells.j2
      repeat' first
      | (with_reducible exact ih0 _ _ _ _ _)
      | (with_reducible exact ih1 _ _ _ _ _)
      | (with_reducible exact ih2 _ _ _ _ _ _ _ _ _ _ _ _)
      | (with_reducible exact ih3 _ _ _ _)
      | (with_reducible exact ih4 _ _ _ _ _ _ _)
      | (with_reducible exact ih5 _ _ _ _ _ _)
      | (with_reducible exact table_Bytes.mono _ _)
      | (with_reducible exact table_Count.mono _ _)
      | (with_reducible exact table_Find.mono _ _ _)
      | (with_reducible exact table_Fresh.mono _ _)
      | (with_reducible exact table_Set.mono _ _ _ _)
      | (with_reducible exact tallymankit_Ints.mono _ _ _)
      | (with_reducible exact tallymanlaw10_lives.mono _)
      | (with_reducible exact LeO.refl _)
      | (with_reducible exact LeO.none _)
      | (with_reducible refine LeO.ite ?_ ?_)
      | (with_reducible refine LeO.bind ?_ (fun _ => ?_))
      | exact ih0 _ _ _ _ _
      | exact ih1 _ _ _ _ _
      | exact ih2 _ _ _ _ _ _ _ _ _ _ _ _
      | exact ih3 _ _ _ _
      | exact ih4 _ _ _ _ _ _ _
      | exact ih5 _ _ _ _ _ _
      | exact table_Bytes.mono _ _
      | exact table_Count.mono _ _
      | exact table_Find.mono _ _ _
      | exact table_Fresh.mono _ _
      | exact table_Set.mono _ _ _ _
      | exact tallymankit_Ints.mono _ _ _
      | exact tallymanlaw10_lives.mono _
      | exact LeO.none _
      | refine LeO.ite ?_ ?_
      | refine LeO.bind ?_ (fun _ => ?_)
    · intro y0 y1 y2 y3 y4 y5 y6 y7 y8 y9 y10 y11
      unfold tallymanlaw10_TableTells.j1
      repeat' first
      | (with_reducible exact ih0 _ _ _ _ _)
      | (with_reducible exact ih1 _ _ _ _ _)
      | (with_reducible exact ih2 _ _ _ _ _ _ _ _ _ _ _ _)
      | (with_reducible exact ih3 _ _ _ _)
      | (with_reducible exact ih4 _ _ _ _ _ _ _)
      | (with_reducible exact ih5 _ _ _ _ _ _)
      | (with_reducible exact table_Bytes.mono _ _)
      | (with_reducible exact table_Count.mono _ _)
      | (with_reducible exact table_Find.mono _ _ _)
      | (with_reducible exact table_Fresh.mono _ _)
      | (with_reducible exact table_Set.mono _ _ _ _)
      | (with_reducible exact tallymankit_Ints.mono _ _ _)
      | (with_reducible exact tallymanlaw10_lives.mono _)
      | (with_reducible exact LeO.refl _)
      | (with_reducible exact LeO.none _)
      | (with_reducible refine LeO.ite ?_ ?_)
      | (with_reducible refine LeO.bind ?_ (fun _ => ?_))
      | exact ih0 _ _ _ _ _
      | exact ih1 _ _ _ _ _
      | exact ih2 _ _ _ _ _ _ _ _ _ _ _ _
      | exact ih3 _ _ _ _
      | exact ih4 _ _ _ _ _ _ _
      | exact ih5 _ _ _ _ _ _
      | exact table_Bytes.mono _ _
      | exact table_Count.mono _ _
      | exact table_Find.mono _ _ _
      | exact table_Fresh.mono _ _
      | exact table_Set.mono _ _ _ _
      | exact tallymankit_Ints.mono _ _ _
      | exact tallymanlaw10_lives.mono _
      | exact LeO.none _
      | refine LeO.ite ?_ ?_
      | refine LeO.bind ?_ (fun _ => ?_)
    · intro y0 y1 y2 y3
      unfold tallymanlaw10_TableTells.l1
      repeat' first
      | (with_reducible exact ih0 _ _ _ _ _)
      | (with_reducible exact ih1 _ _ _ _ _)
      | (with_reducible exact ih2 _ _ _ _ _ _ _ _ _ _ _ _)
      | (with_reducible exact ih3 _ _ _ _)
      | (with_reducible exact ih4 _ _ _ _ _ _ _)
      | (with_reducible exact ih5 _ _ _ _ _ _)
      | (with_reducible exact table_Bytes.mono _ _)
      | (with_reducible exact table_Count.mono _ _)
      | (with_reducible exact table_Find.mono _ _ _)
      | (with_reducible exact table_Fresh.mono _ _)
      | (with_reducible exact table_Set.mono _ _ _ _)
      | (with_reducible exact tallymankit_Ints.mono _ _ _)
      | (with_reducible exact tallymanlaw10_lives.mono _)
      | (with_reducible exact LeO.refl _)
      | (with_reducible exact LeO.none _)
      | (with_reducible refine LeO.ite ?_ ?_)
      | (with_reducible refine LeO.bind ?_ (fun _ => ?_))
      | exact ih0 _ _ _ _ _
      | exact ih1 _ _ _ _ _
      | exact ih2 _ _ _ _ _ _ _ _ _ _ _ _
      | exact ih3 _ _ _ _
      | exact ih4 _ _ _ _ _ _ _
      | exact ih5 _ _ _ _ _ _
      | exact table_Bytes.mono _ _
      | exact table_Count.mono _ _
      | exact table_Find.mono _ _ _
      | exact table_Fresh.mono _ _
      | exact table_Set.mono _ _ _ _
      | exact tallymankit_Ints.mono _ _ _
      | exact tallymanlaw10_lives.mono _
      | exact LeO.none _
      | refine LeO.ite ?_ ?_
      | refine LeO.bind ?_ (fun _ => ?_)
    · intro y0 y1 y2 y3 y4 y5 y6
      unfold tallymanlaw10_TableTells.j4
      repeat' first
      | (with_reducible exact ih0 _ _ _ _ _)
      | (with_reducible exact ih1 _ _ _ _ _)
      | (with_reducible exact ih2 _ _ _ _ _ _ _ _ _ _ _ _)
      | (with_reducible exact ih3 _ _ _ _)
      | (with_reducible exact ih4 _ _ _ _ _ _ _)
      | (with_reducible exact ih5 _ _ _ _ _ _)
      | (with_reducible exact table_Bytes.mono _ _)
      | (with_reducible exact table_Count.mono _ _)
      | (with_reducible exact table_Find.mono _ _ _)
      | (with_reducible exact table_Fresh.mono _ _)
      | (with_reducible exact table_Set.mono _ _ _ _)
      | (with_reducible exact tallymankit_Ints.mono _ _ _)
      | (with_reducible exact tallymanlaw10_lives.mono _)
      | (with_reducible exact LeO.refl _)
      | (with_reducible exact LeO.none _)
      | (with_reducible refine LeO.ite ?_ ?_)
      | (with_reducible refine LeO.bind ?_ (fun _ => ?_))
      | exact ih0 _ _ _ _ _
      | exact ih1 _ _ _ _ _
      | exact ih2 _ _ _ _ _ _ _ _ _ _ _ _
      | exact ih3 _ _ _ _
      | exact ih4 _ _ _ _ _ _ _
      | exact ih5 _ _ _ _ _ _
      | exact table_Bytes.mono _ _
      | exact table_Count.mono _ _
      | exact table_Find.mono _ _ _
      | exact table_Fresh.mono _ _
      | exact table_Set.mono _ _ _ _
      | exact tallymankit_Ints.mono _ _ _
      | exact tallymanlaw10_lives.mono _
      | exact LeO.none _
      | refine LeO.ite ?_ ?_
      | refine LeO.bind ?_ (fun _ => ?_)
    · intro y0 y1 y2 y3 y4 y5
      unfold tallymanlaw10_TableTells.j5
      repeat' first
      | (with_reducible exact ih0 _ _ _ _ _)
      | (with_reducible exact ih1 _ _ _ _ _)
      | (with_reducible exact ih2 _ _ _ _ _ _ _ _ _ _ _ _)
      | (with_reducible exact ih3 _ _ _ _)
      | (with_reducible exact ih4 _ _ _ _ _ _ _)
      | (with_reducible exact ih5 _ _ _ _ _ _)
      | (with_reducible exact table_Bytes.mono _ _)
      | (with_reducible exact table_Count.mono _ _)
      | (with_reducible exact table_Find.mono _ _ _)
      | (with_reducible exact table_Fresh.mono _ _)
      | (with_reducible exact table_Set.mono _ _ _ _)
      | (with_reducible exact tallymankit_Ints.mono _ _ _)
      | (with_reducible exact tallymanlaw10_lives.mono _)
      | (with_reducible exact LeO.refl _)
      | (with_reducible exact LeO.none _)
      | (with_reducible refine LeO.ite ?_ ?_)
      | (with_reducible refine LeO.bind ?_ (fun _ => ?_))
      | exact ih0 _ _ _ _ _
      | exact ih1 _ _ _ _ _
      | exact ih2 _ _ _ _ _ _ _ _ _ _ _ _
      | exact ih3 _ _ _ _
      | exact ih4 _ _ _ _ _ _ _
      | exact ih5 _ _ _ _ _ _
      | exact table_Bytes.mono _ _
      | exact table_Count.mono _ _
      | exact table_Find.mono _ _ _
      | exact table_Fresh.mono _ _
      | exact table_Set.mono _ _ _ _
      | exact tallymankit_Ints.mono _ _ _
      | exact tallymanlaw10_lives.mono _
      | exact LeO.none _
      | refine LeO.ite ?_ ?_
      | refine LeO.bind ?_ (fun _ => ?_)
theorem tallymanlaw10_TableTells.mono : ∀ a0 k, LeO (tallymanlaw10_TableTells.f k a0) (tallymanlaw10_TableTells.f (k + 1) a0) := by
  intro a0 k
  obtain ⟨ih0, ih1, ih2, ih3, ih4, ih5⟩ := tallymanlaw10_TableTells.mono_l k
  unfold tallymanlaw10_TableTells.f
  repeat' first
      | (with_reducible exact ih0 _ _ _ _ _)
      | (with_reducible exact ih1 _ _ _ _ _)
      | (with_reducible exact ih2 _ _ _ _ _ _ _ _ _ _ _ _)
      | (with_reducible exact ih3 _ _ _ _)
      | (with_reducible exact ih4 _ _ _ _ _ _ _)
      | (with_reducible exact ih5 _ _ _ _ _ _)
      | (with_reducible exact table_Bytes.mono _ _)
      | (with_reducible exact table_Count.mono _ _)
      | (with_reducible exact table_Find.mono _ _ _)
      | (with_reducible exact table_Fresh.mono _ _)
      | (with_reducible exact table_Set.mono _ _ _ _)
      | (with_reducible exact tallymankit_Ints.mono _ _ _)
      | (with_reducible exact tallymanlaw10_lives.mono _)
      | (with_reducible exact LeO.refl _)
      | (with_reducible exact LeO.none _)
      | (with_reducible refine LeO.ite ?_ ?_)
      | (with_reducible refine LeO.bind ?_ (fun _ => ?_))
      | exact ih0 _ _ _ _ _
      | exact ih1 _ _ _ _ _
      | exact ih2 _ _ _ _ _ _ _ _ _ _ _ _
      | exact ih3 _ _ _ _
      | exact ih4 _ _ _ _ _ _ _
      | exact ih5 _ _ _ _ _ _
      | exact table_Bytes.mono _ _
      | exact table_Count.mono _ _
      | exact table_Find.mono _ _ _
      | exact table_Fresh.mono _ _
      | exact table_Set.mono _ _ _ _
      | exact tallymankit_Ints.mono _ _ _
      | exact tallymanlaw10_lives.mono _
      | exact LeO.none _
      | refine LeO.ite ?_ ?_
      | refine LeO.bind ?_ (fun _ => ?_)
set_option maxHeartbeats 8000000 in
set_option maxRecDepth 100000 in
theorem tallymanlaw10_TableTells.calls (k : Nat) (A0 : Option Addr) (c0 : Nat) (l0 : List (S50)) (r : Bool) (w : World) (hr0 : Kd.C k50 w A0 l0.length l0) (hc0 : l0.length ≤ c0) (h : tallymanlaw10_TableTells.f k l0 = some r) :
    Calls Try.prog 7 #[.slice A0 l0.length c0] w fun e w' => e = .returned (.bool r) ∧ Below w.heap.size w w' := by
  have hu24 := Try.underlying24
  have hu48 := Try.underlying48
  have HR0 := Aside0.mk hr0
  have HC0 := Aside0.mk hc0
  clear hr0 hc0
  have HB := Aside0.mk (Below.refl w.heap.size w)
  have H : ((tallymanlaw10_lives.f k).bind fun t352 => (if t352 = true then (if (l0.length : Int) > 100 then (some true) else (tallymanlaw10_TableTells.l0 k l0 0 ([] : List Int) [] [])) else (none))) = some r := h
  clear h
  replace H := Option.bind_eq_some_iff.mp H
  obtain ⟨t352, A20, H⟩ := H
  replace H : (if t352 = true then (if (l0.length : Int) > 100 then (some true) else (tallymanlaw10_TableTells.l0 k l0 0 ([] : List Int) [] [])) else (none)) = some r := H
  have A2 := Aside0.mk A20
  clear A20
  by_cases c3 : t352 = true
  · subst c3
    have H1 : (if (l0.length : Int) > 100 then (some true) else (tallymanlaw10_TableTells.l0 k l0 0 ([] : List Int) [] [])) = some r := by rw [if_pos rfl] at H; exact H
    clear H
    have H := H1
    clear H1
    by_cases c4 : (l0.length : Int) > 100
    · rw [if_pos c4] at H
      have c4b0 : decide (100 < (l0.length : Int)) = true := decide_eq_true c4
      have c4b1 : decide (100 < l0.length) = true := decide_eq_true (by omega)
      clear c4
      obtain rfl := Option.some.inj H
      go_enter Try.func7, Try.ntmps7
      go_wp2_with (first | (go_at_call 8; (with_reducible refine (tallymanlaw10_lives.calls k  true _ A2.out).mono ?_); rintro e w5 ⟨rfl, hb⟩; have n0_ := Aside0.mk (below_step (by repeat (first | (with_reducible first | exact HB.out | apply below_alloc | apply pw_below_drewN | apply below_drew1) | exact HB.out)) hb); clear HB; have HB := n0_; clear n0_; (try clear hb); (try clear hb2); (try clear hk); (try clear hi)))
      repeat (go_quiet (first | (go_at_call 8; (with_reducible refine (tallymanlaw10_lives.calls k  true _ A2.out).mono ?_); rintro e w5 ⟨rfl, hb⟩; have n0_ := Aside0.mk (below_step (by repeat (first | (with_reducible first | exact HB.out | apply below_alloc | apply pw_below_drewN | apply below_drew1) | exact HB.out)) hb); clear HB; have HB := n0_; clear n0_; (try clear hb); (try clear hb2); (try clear hk); (try clear hi))); try go_wp2_with (first | (go_at_call 8; (with_reducible refine (tallymanlaw10_lives.calls k  true _ A2.out).mono ?_); rintro e w5 ⟨rfl, hb⟩; have n0_ := Aside0.mk (below_step (by repeat (first | (with_reducible first | exact HB.out | apply below_alloc | apply pw_below_drewN | apply below_drew1) | exact HB.out)) hb); clear HB; have HB := n0_; clear n0_; (try clear hb); (try clear hb2); (try clear hk); (try clear hi))))
      go_ret
      exact ⟨by first | rfl | (simp [errW_none, errW_some] <;> rfl) | (simp [*, errW_none, errW_some] <;> rfl), by repeat (first | (with_reducible first | exact HB.out | apply below_alloc | apply pw_below_drewN | apply below_drew1) | exact HB.out)⟩
    · rw [if_neg c4] at H
      have c4b0 : decide (100 < (l0.length : Int)) = false := decide_eq_false c4
      have c4b1 : decide (100 < l0.length) = false := decide_eq_false (by omega)
      clear c4
      have H' := Aside0.mk H
      clear H
      go_enter Try.func7, Try.ntmps7
      go_wp2_with (first | (go_at_call 8; (with_reducible refine (tallymanlaw10_lives.calls k  true _ A2.out).mono ?_); rintro e w6 ⟨rfl, hb⟩; have n0_ := Aside0.mk (below_step (by repeat (first | (with_reducible first | exact HB.out | apply below_alloc | apply pw_below_drewN | apply below_drew1) | exact HB.out)) hb); clear HB; have HB := n0_; clear n0_; (try clear hb); (try clear hb2); (try clear hk); (try clear hi)) | ((with_reducible refine gate_dst (N := 3) rfl ?_); refine box_event ?hg (N := 3) ?hd (cs := #[.slice none 0 0]) (t := 24) ?hr ?_; (case hd => rfl); (case hg => rfl); (case hr => first | (go_simp; done) | (go_simp; rfl)); intro gb353 hg w7 hbox hb; have n0_ := Aside0.mk (below_step (by repeat (first | (with_reducible first | exact HB.out | apply below_alloc | apply pw_below_drewN | apply below_drew1) | exact HB.out)) hb); have n1_ := Aside0.mk (hbox); have n2_ := Aside0.mk ((by rw [hg]; exact (below_size (by repeat (first | (with_reducible first | exact HB.out | apply below_alloc | apply pw_below_drewN | apply below_drew1) | exact HB.out))) : w.heap.size ≤ gb353)); have n3_ := Aside0.mk ((by rw [hg]; exact (below_size (by repeat (first | (with_reducible first | exact HB.out | apply below_alloc | apply pw_below_drewN | apply below_drew1) | exact HB.out))) : w.heap.size ≤ gb353)); clear HB; have HB := n0_; have BK353 := n1_; have GW353 := n2_; have GE353 := n3_; clear n0_ n1_ n2_ n3_; clear hb hbox hg) | ((with_reducible refine gate_dst (N := 36) rfl ?_); refine makeM_event (N := 36) rfl rfl rfl ?_; intro gb354 hg w8 hbox hb; have n0_ := Aside0.mk (blk_below (g := gb353) (o := .cells #[.slice none 0 0] 24 (0, 0)) (by (with_reducible repeat (first | refine blk_drewN ?_ _ | refine blk_drew ?_ | refine blk_alloc ?_ _)); exact BK353.out) hb); have n1_ := Aside0.mk (below_step (by repeat (first | (with_reducible first | exact HB.out | apply below_alloc | apply pw_below_drewN | apply below_drew1 | refine below_set ?_ GE353.out) | exact HB.out)) hb); have n2_ := Aside0.mk (hbox); have n3_ := Aside0.mk ((by rw [hg]; exact (below_size (by repeat (first | (with_reducible first | exact HB.out | apply below_alloc | apply pw_below_drewN | apply below_drew1 | refine below_set ?_ GE353.out) | exact HB.out))) : w.heap.size ≤ gb354)); have n4_ := Aside0.mk ((by rw [hg]; exact (below_size (by repeat (first | (with_reducible first | exact HB.out | apply below_alloc | apply pw_below_drewN | apply below_drew1 | refine below_set ?_ GE353.out) | exact HB.out))) : w.heap.size ≤ gb354)); have n5_ := Aside0.mk ((by rw [hg]; exact Nat.ne_of_lt (blk_lt (g := gb353) (o := .cells #[.slice none 0 0] 24 (0, 0)) (by (with_reducible repeat (first | refine blk_drewN ?_ _ | refine blk_drew ?_ | refine blk_alloc ?_ _)); exact BK353.out)) : gb353 ≠ gb354)); have n6_ := Aside0.mk ((by rw [hg]; exact Nat.ne_of_gt (blk_lt (g := gb353) (o := .cells #[.slice none 0 0] 24 (0, 0)) (by (with_reducible repeat (first | refine blk_drewN ?_ _ | refine blk_drew ?_ | refine blk_alloc ?_ _)); exact BK353.out)) : gb354 ≠ gb353)); clear BK353; clear HB; have BK353 := n0_; have HB := n1_; have BK354 := n2_; have GW354 := n3_; have GE354 := n4_; have NB353_354 := n5_; have NB354_353 := n6_; clear n0_ n1_ n2_ n3_ n4_ n5_ n6_; clear hb hbox hg) | ((with_reducible refine gate_dst (N := 37) rfl ?_); refine makeM_event (N := 37) rfl rfl rfl ?_; intro gb355 hg w9 hbox hb; have n0_ := Aside0.mk (blk_below (g := gb353) (o := .cells #[.slice none 0 0] 24 (0, 0)) (by (with_reducible repeat (first | refine blk_drewN ?_ _ | refine blk_drew ?_ | refine blk_alloc ?_ _)); exact BK353.out) hb); have n1_ := Aside0.mk (own_below (mb := gb354) (M := []) (by (with_reducible repeat (first | refine own_drewN ?_ _ | refine own_drew ?_ | refine own_alloc ?_ _)); exact BK354.out) hb); have n2_ := Aside0.mk (below_step (by repeat (first | (with_reducible first | exact HB.out | apply below_alloc | apply pw_below_drewN | apply below_drew1 | refine below_set ?_ GE353.out | refine below_set ?_ GE354.out) | exact HB.out)) hb); have n3_ := Aside0.mk (hbox); have n4_ := Aside0.mk ((by rw [hg]; exact (below_size (by repeat (first | (with_reducible first | exact HB.out | apply below_alloc | apply pw_below_drewN | apply below_drew1 | refine below_set ?_ GE353.out | refine below_set ?_ GE354.out) | exact HB.out))) : w.heap.size ≤ gb355)); have n5_ := Aside0.mk ((by rw [hg]; exact (below_size (by repeat (first | (with_reducible first | exact HB.out | apply below_alloc | apply pw_below_drewN | apply below_drew1 | refine below_set ?_ GE353.out | refine below_set ?_ GE354.out) | exact HB.out))) : w.heap.size ≤ gb355)); have n6_ := Aside0.mk ((by rw [hg]; exact Nat.ne_of_lt (blk_lt (g := gb353) (o := .cells #[.slice none 0 0] 24 (0, 0)) (by (with_reducible repeat (first | refine blk_drewN ?_ _ | refine blk_drew ?_ | refine blk_alloc ?_ _)); exact BK353.out)) : gb353 ≠ gb355)); have n7_ := Aside0.mk ((by rw [hg]; exact Nat.ne_of_gt (blk_lt (g := gb353) (o := .cells #[.slice none 0 0] 24 (0, 0)) (by (with_reducible repeat (first | refine blk_drewN ?_ _ | refine blk_drew ?_ | refine blk_alloc ?_ _)); exact BK353.out)) : gb355 ≠ gb353)); have n8_ := Aside0.mk ((by rw [hg]; exact Nat.ne_of_lt (own_lt (mb := gb354) (M := []) (by (with_reducible repeat (first | refine own_drewN ?_ _ | refine own_drew ?_ | refine own_alloc ?_ _)); exact BK354.out)) : gb354 ≠ gb355)); have n9_ := Aside0.mk ((by rw [hg]; exact Nat.ne_of_gt (own_lt (mb := gb354) (M := []) (by (with_reducible repeat (first | refine own_drewN ?_ _ | refine own_drew ?_ | refine own_alloc ?_ _)); exact BK354.out)) : gb355 ≠ gb354)); clear BK353; clear BK354; clear HB; have BK353 := n0_; have BK354 := n1_; have HB := n2_; have BK355 := n3_; have GW355 := n4_; have GE355 := n5_; have NB353_355 := n6_; have NB355_353 := n7_; have NB354_355 := n8_; have NB355_354 := n9_; clear n0_ n1_ n2_ n3_ n4_ n5_ n6_ n7_ n8_ n9_; clear hb hbox hg))
      repeat (go_quiet (first | (go_at_call 8; (with_reducible refine (tallymanlaw10_lives.calls k  true _ A2.out).mono ?_); rintro e w6 ⟨rfl, hb⟩; have n0_ := Aside0.mk (below_step (by repeat (first | (with_reducible first | exact HB.out | apply below_alloc | apply pw_below_drewN | apply below_drew1) | exact HB.out)) hb); clear HB; have HB := n0_; clear n0_; (try clear hb); (try clear hb2); (try clear hk); (try clear hi)) | ((with_reducible refine gate_dst (N := 3) rfl ?_); refine box_event ?hg (N := 3) ?hd (cs := #[.slice none 0 0]) (t := 24) ?hr ?_; (case hd => rfl); (case hg => rfl); (case hr => first | (go_simp; done) | (go_simp; rfl)); intro gb353 hg w7 hbox hb; have n0_ := Aside0.mk (below_step (by repeat (first | (with_reducible first | exact HB.out | apply below_alloc | apply pw_below_drewN | apply below_drew1) | exact HB.out)) hb); have n1_ := Aside0.mk (hbox); have n2_ := Aside0.mk ((by rw [hg]; exact (below_size (by repeat (first | (with_reducible first | exact HB.out | apply below_alloc | apply pw_below_drewN | apply below_drew1) | exact HB.out))) : w.heap.size ≤ gb353)); have n3_ := Aside0.mk ((by rw [hg]; exact (below_size (by repeat (first | (with_reducible first | exact HB.out | apply below_alloc | apply pw_below_drewN | apply below_drew1) | exact HB.out))) : w.heap.size ≤ gb353)); clear HB; have HB := n0_; have BK353 := n1_; have GW353 := n2_; have GE353 := n3_; clear n0_ n1_ n2_ n3_; clear hb hbox hg) | ((with_reducible refine gate_dst (N := 36) rfl ?_); refine makeM_event (N := 36) rfl rfl rfl ?_; intro gb354 hg w8 hbox hb; have n0_ := Aside0.mk (blk_below (g := gb353) (o := .cells #[.slice none 0 0] 24 (0, 0)) (by (with_reducible repeat (first | refine blk_drewN ?_ _ | refine blk_drew ?_ | refine blk_alloc ?_ _)); exact BK353.out) hb); have n1_ := Aside0.mk (below_step (by repeat (first | (with_reducible first | exact HB.out | apply below_alloc | apply pw_below_drewN | apply below_drew1 | refine below_set ?_ GE353.out) | exact HB.out)) hb); have n2_ := Aside0.mk (hbox); have n3_ := Aside0.mk ((by rw [hg]; exact (below_size (by repeat (first | (with_reducible first | exact HB.out | apply below_alloc | apply pw_below_drewN | apply below_drew1 | refine below_set ?_ GE353.out) | exact HB.out))) : w.heap.size ≤ gb354)); have n4_ := Aside0.mk ((by rw [hg]; exact (below_size (by repeat (first | (with_reducible first | exact HB.out | apply below_alloc | apply pw_below_drewN | apply below_drew1 | refine below_set ?_ GE353.out) | exact HB.out))) : w.heap.size ≤ gb354)); have n5_ := Aside0.mk ((by rw [hg]; exact Nat.ne_of_lt (blk_lt (g := gb353) (o := .cells #[.slice none 0 0] 24 (0, 0)) (by (with_reducible repeat (first | refine blk_drewN ?_ _ | refine blk_drew ?_ | refine blk_alloc ?_ _)); exact BK353.out)) : gb353 ≠ gb354)); have n6_ := Aside0.mk ((by rw [hg]; exact Nat.ne_of_gt (blk_lt (g := gb353) (o := .cells #[.slice none 0 0] 24 (0, 0)) (by (with_reducible repeat (first | refine blk_drewN ?_ _ | refine blk_drew ?_ | refine blk_alloc ?_ _)); exact BK353.out)) : gb354 ≠ gb353)); clear BK353; clear HB; have BK353 := n0_; have HB := n1_; have BK354 := n2_; have GW354 := n3_; have GE354 := n4_; have NB353_354 := n5_; have NB354_353 := n6_; clear n0_ n1_ n2_ n3_ n4_ n5_ n6_; clear hb hbox hg) | ((with_reducible refine gate_dst (N := 37) rfl ?_); refine makeM_event (N := 37) rfl rfl rfl ?_; intro gb355 hg w9 hbox hb; have n0_ := Aside0.mk (blk_below (g := gb353) (o := .cells #[.slice none 0 0] 24 (0, 0)) (by (with_reducible repeat (first | refine blk_drewN ?_ _ | refine blk_drew ?_ | refine blk_alloc ?_ _)); exact BK353.out) hb); have n1_ := Aside0.mk (own_below (mb := gb354) (M := []) (by (with_reducible repeat (first | refine own_drewN ?_ _ | refine own_drew ?_ | refine own_alloc ?_ _)); exact BK354.out) hb); have n2_ := Aside0.mk (below_step (by repeat (first | (with_reducible first | exact HB.out | apply below_alloc | apply pw_below_drewN | apply below_drew1 | refine below_set ?_ GE353.out | refine below_set ?_ GE354.out) | exact HB.out)) hb); have n3_ := Aside0.mk (hbox); have n4_ := Aside0.mk ((by rw [hg]; exact (below_size (by repeat (first | (with_reducible first | exact HB.out | apply below_alloc | apply pw_below_drewN | apply below_drew1 | refine below_set ?_ GE353.out | refine below_set ?_ GE354.out) | exact HB.out))) : w.heap.size ≤ gb355)); have n5_ := Aside0.mk ((by rw [hg]; exact (below_size (by repeat (first | (with_reducible first | exact HB.out | apply below_alloc | apply pw_below_drewN | apply below_drew1 | refine below_set ?_ GE353.out | refine below_set ?_ GE354.out) | exact HB.out))) : w.heap.size ≤ gb355)); have n6_ := Aside0.mk ((by rw [hg]; exact Nat.ne_of_lt (blk_lt (g := gb353) (o := .cells #[.slice none 0 0] 24 (0, 0)) (by (with_reducible repeat (first | refine blk_drewN ?_ _ | refine blk_drew ?_ | refine blk_alloc ?_ _)); exact BK353.out)) : gb353 ≠ gb355)); have n7_ := Aside0.mk ((by rw [hg]; exact Nat.ne_of_gt (blk_lt (g := gb353) (o := .cells #[.slice none 0 0] 24 (0, 0)) (by (with_reducible repeat (first | refine blk_drewN ?_ _ | refine blk_drew ?_ | refine blk_alloc ?_ _)); exact BK353.out)) : gb355 ≠ gb353)); have n8_ := Aside0.mk ((by rw [hg]; exact Nat.ne_of_lt (own_lt (mb := gb354) (M := []) (by (with_reducible repeat (first | refine own_drewN ?_ _ | refine own_drew ?_ | refine own_alloc ?_ _)); exact BK354.out)) : gb354 ≠ gb355)); have n9_ := Aside0.mk ((by rw [hg]; exact Nat.ne_of_gt (own_lt (mb := gb354) (M := []) (by (with_reducible repeat (first | refine own_drewN ?_ _ | refine own_drew ?_ | refine own_alloc ?_ _)); exact BK354.out)) : gb355 ≠ gb354)); clear BK353; clear BK354; clear HB; have BK353 := n0_; have BK354 := n1_; have HB := n2_; have BK355 := n3_; have GW355 := n4_; have GE355 := n5_; have NB353_355 := n6_; have NB355_353 := n7_; have NB354_355 := n8_; have NB355_354 := n9_; clear n0_ n1_ n2_ n3_ n4_ n5_ n6_ n7_ n8_ n9_; clear hb hbox hg)); try go_wp2_with (first | (go_at_call 8; (with_reducible refine (tallymanlaw10_lives.calls k  true _ A2.out).mono ?_); rintro e w6 ⟨rfl, hb⟩; have n0_ := Aside0.mk (below_step (by repeat (first | (with_reducible first | exact HB.out | apply below_alloc | apply pw_below_drewN | apply below_drew1) | exact HB.out)) hb); clear HB; have HB := n0_; clear n0_; (try clear hb); (try clear hb2); (try clear hk); (try clear hi)) | ((with_reducible refine gate_dst (N := 3) rfl ?_); refine box_event ?hg (N := 3) ?hd (cs := #[.slice none 0 0]) (t := 24) ?hr ?_; (case hd => rfl); (case hg => rfl); (case hr => first | (go_simp; done) | (go_simp; rfl)); intro gb353 hg w7 hbox hb; have n0_ := Aside0.mk (below_step (by repeat (first | (with_reducible first | exact HB.out | apply below_alloc | apply pw_below_drewN | apply below_drew1) | exact HB.out)) hb); have n1_ := Aside0.mk (hbox); have n2_ := Aside0.mk ((by rw [hg]; exact (below_size (by repeat (first | (with_reducible first | exact HB.out | apply below_alloc | apply pw_below_drewN | apply below_drew1) | exact HB.out))) : w.heap.size ≤ gb353)); have n3_ := Aside0.mk ((by rw [hg]; exact (below_size (by repeat (first | (with_reducible first | exact HB.out | apply below_alloc | apply pw_below_drewN | apply below_drew1) | exact HB.out))) : w.heap.size ≤ gb353)); clear HB; have HB := n0_; have BK353 := n1_; have GW353 := n2_; have GE353 := n3_; clear n0_ n1_ n2_ n3_; clear hb hbox hg) | ((with_reducible refine gate_dst (N := 36) rfl ?_); refine makeM_event (N := 36) rfl rfl rfl ?_; intro gb354 hg w8 hbox hb; have n0_ := Aside0.mk (blk_below (g := gb353) (o := .cells #[.slice none 0 0] 24 (0, 0)) (by (with_reducible repeat (first | refine blk_drewN ?_ _ | refine blk_drew ?_ | refine blk_alloc ?_ _)); exact BK353.out) hb); have n1_ := Aside0.mk (below_step (by repeat (first | (with_reducible first | exact HB.out | apply below_alloc | apply pw_below_drewN | apply below_drew1 | refine below_set ?_ GE353.out) | exact HB.out)) hb); have n2_ := Aside0.mk (hbox); have n3_ := Aside0.mk ((by rw [hg]; exact (below_size (by repeat (first | (with_reducible first | exact HB.out | apply below_alloc | apply pw_below_drewN | apply below_drew1 | refine below_set ?_ GE353.out) | exact HB.out))) : w.heap.size ≤ gb354)); have n4_ := Aside0.mk ((by rw [hg]; exact (below_size (by repeat (first | (with_reducible first | exact HB.out | apply below_alloc | apply pw_below_drewN | apply below_drew1 | refine below_set ?_ GE353.out) | exact HB.out))) : w.heap.size ≤ gb354)); have n5_ := Aside0.mk ((by rw [hg]; exact Nat.ne_of_lt (blk_lt (g := gb353) (o := .cells #[.slice none 0 0] 24 (0, 0)) (by (with_reducible repeat (first | refine blk_drewN ?_ _ | refine blk_drew ?_ | refine blk_alloc ?_ _)); exact BK353.out)) : gb353 ≠ gb354)); have n6_ := Aside0.mk ((by rw [hg]; exact Nat.ne_of_gt (blk_lt (g := gb353) (o := .cells #[.slice none 0 0] 24 (0, 0)) (by (with_reducible repeat (first | refine blk_drewN ?_ _ | refine blk_drew ?_ | refine blk_alloc ?_ _)); exact BK353.out)) : gb354 ≠ gb353)); clear BK353; clear HB; have BK353 := n0_; have HB := n1_; have BK354 := n2_; have GW354 := n3_; have GE354 := n4_; have NB353_354 := n5_; have NB354_353 := n6_; clear n0_ n1_ n2_ n3_ n4_ n5_ n6_; clear hb hbox hg) | ((with_reducible refine gate_dst (N := 37) rfl ?_); refine makeM_event (N := 37) rfl rfl rfl ?_; intro gb355 hg w9 hbox hb; have n0_ := Aside0.mk (blk_below (g := gb353) (o := .cells #[.slice none 0 0] 24 (0, 0)) (by (with_reducible repeat (first | refine blk_drewN ?_ _ | refine blk_drew ?_ | refine blk_alloc ?_ _)); exact BK353.out) hb); have n1_ := Aside0.mk (own_below (mb := gb354) (M := []) (by (with_reducible repeat (first | refine own_drewN ?_ _ | refine own_drew ?_ | refine own_alloc ?_ _)); exact BK354.out) hb); have n2_ := Aside0.mk (below_step (by repeat (first | (with_reducible first | exact HB.out | apply below_alloc | apply pw_below_drewN | apply below_drew1 | refine below_set ?_ GE353.out | refine below_set ?_ GE354.out) | exact HB.out)) hb); have n3_ := Aside0.mk (hbox); have n4_ := Aside0.mk ((by rw [hg]; exact (below_size (by repeat (first | (with_reducible first | exact HB.out | apply below_alloc | apply pw_below_drewN | apply below_drew1 | refine below_set ?_ GE353.out | refine below_set ?_ GE354.out) | exact HB.out))) : w.heap.size ≤ gb355)); have n5_ := Aside0.mk ((by rw [hg]; exact (below_size (by repeat (first | (with_reducible first | exact HB.out | apply below_alloc | apply pw_below_drewN | apply below_drew1 | refine below_set ?_ GE353.out | refine below_set ?_ GE354.out) | exact HB.out))) : w.heap.size ≤ gb355)); have n6_ := Aside0.mk ((by rw [hg]; exact Nat.ne_of_lt (blk_lt (g := gb353) (o := .cells #[.slice none 0 0] 24 (0, 0)) (by (with_reducible repeat (first | refine blk_drewN ?_ _ | refine blk_drew ?_ | refine blk_alloc ?_ _)); exact BK353.out)) : gb353 ≠ gb355)); have n7_ := Aside0.mk ((by rw [hg]; exact Nat.ne_of_gt (blk_lt (g := gb353) (o := .cells #[.slice none 0 0] 24 (0, 0)) (by (with_reducible repeat (first | refine blk_drewN ?_ _ | refine blk_drew ?_ | refine blk_alloc ?_ _)); exact BK353.out)) : gb355 ≠ gb353)); have n8_ := Aside0.mk ((by rw [hg]; exact Nat.ne_of_lt (own_lt (mb := gb354) (M := []) (by (with_reducible repeat (first | refine own_drewN ?_ _ | refine own_drew ?_ | refine own_alloc ?_ _)); exact BK354.out)) : gb354 ≠ gb355)); have n9_ := Aside0.mk ((by rw [hg]; exact Nat.ne_of_gt (own_lt (mb := gb354) (M := []) (by (with_reducible repeat (first | refine own_drewN ?_ _ | refine own_drew ?_ | refine own_alloc ?_ _)); exact BK354.out)) : gb355 ≠ gb354)); clear BK353; clear BK354; clear HB; have BK353 := n0_; have BK354 := n1_; have HB := n2_; have BK355 := n3_; have GW355 := n4_; have GE355 := n5_; have NB353_355 := n6_; have NB355_353 := n7_; have NB354_355 := n8_; have NB355_354 := n9_; clear n0_ n1_ n2_ n3_ n4_ n5_ n6_ n7_ n8_ n9_; clear hb hbox hg)))
      go_loopg [6] k (fun kq v6 w' => ∃ (x6_1 : Int) (x354000_1 : List Int) (x355000_1 : LogM) (x356000_1 : LogM) (u354000 : Value), v6 = .int .i64 x6_1 ∧ Aside0 (tallymanlaw10_TableTells.l0 kq l0 x6_1 x354000_1 x355000_1 x356000_1 = some r) ∧ Aside0 (kq ≤ k) ∧ Aside0 (Kd.V (Kd.int .i64) 3 w' w.heap.size (fun k_ => k_ ≠ gb353 ∧ k_ ≠ gb354 ∧ k_ ≠ gb355) u354000 x354000_1) ∧ Aside0 (w'.heap[gb353]? = some (.cells #[u354000] 24 (0, 0))) ∧ Aside0 (OwnsM w' gb354 x355000_1) ∧ Aside0 (OwnsM w' gb355 x356000_1) ∧ Aside0 (Below w.heap.size w w'))
      case atStart => exact ⟨(0), (([] : List Int)), [], [], (.slice none 0 0), (by first | rfl | (simp; done) | (simp [*]; done)), H', ⟨Nat.le_refl _⟩, ⟨Kd.V_nil _ _ _ _ _⟩, ⟨by (with_reducible repeat (first | refine blk_drewN ?_ _ | refine blk_drew ?_ | refine blk_alloc ?_ _)); exact BK353.out⟩, ⟨by (with_reducible repeat (first | refine own_drewN ?_ _ | refine own_drew ?_ | refine own_alloc ?_ _)); exact BK354.out⟩, ⟨by (with_reducible repeat (first | refine own_drewN ?_ _ | refine own_drew ?_ | refine own_alloc ?_ _)); exact BK355.out⟩, ⟨by repeat (first | (with_reducible first | exact HB.out | apply below_alloc | apply pw_below_drewN | apply below_drew1 | refine below_set ?_ GE353.out | refine below_set ?_ GE354.out | refine below_set ?_ GE355.out) | exact HB.out)⟩⟩
      case round =>
        clear H'
        try clear p2
        try clear c3
        try clear c4
        try clear c4b0
        try clear c4b1
        try clear c7
        obtain ⟨x6_1, x354000_1, x355000_1, x356000_1, u354000, rfl, HA, HK1, HO_354000, BK353, BK354, BK355, HB⟩ := hrel
        cases gk with
        | zero => exact absurd HA.out (by simp [tallymanlaw10_TableTells.l0])
        | succ k1 =>
          have H := HA.out
          clear HA
          simp only [tallymanlaw10_TableTells.l0] at H
          by_cases c10 : x6_1 < (l0.length : Int)
          · rw [if_pos c10] at H
            have c10b0 : decide (x6_1 < (l0.length : Int)) = true := decide_eq_true c10
            clear c10
            by_cases c11 : 0 ≤ x6_1 ∧ x355000_1.length + x356000_1.length < 1000
            · rw [if_pos c11] at H
              have GRM := Aside0.mk c11.2
              replace c11 := c11.1
              have c11b0 : decide (0 ≤ x6_1) = true := decide_eq_true c11
              clear c11
              replace H := Option.bind_eq_some_iff.mp H
              obtain ⟨t357, A120, H⟩ := H
              replace H : ((tallymankit_Pick.f ((rd_T50 l0 x6_1).f2) 58).bind fun t359 => ((tallymankit_Pick.f ((rd_T50 l0 x6_1).f0) 3).bind fun t361 => (if t361 = 2 then ((table_Clear.f x354000_1 t357).bind fun bt362 => (if ((bt362.2 == 0) != (mhas x355000_1 t357)) = true then (none) else (if bt362.2 = 0 then (tallymanlaw10_TableTells.j2 k1 l0 x6_1 bt362.1 (mdel x355000_1 t357) (mdel x356000_1 (mget x355000_1 t357))) else (tallymanlaw10_TableTells.j2 k1 l0 x6_1 x354000_1 x355000_1 x356000_1)))) else ((table_Set.f k1 x354000_1 t357 (wrap64 (2 + t359))).bind fun bt367 => (if (mhas x356000_1 (wrap64 (2 + t359))) = true then (tallymanlaw10_TableTells.j1 k1 l0 x6_1 t357 (wrap64 (2 + t359)) (mget x355000_1 t357) (mhas x355000_1 t357) bt367.2 ((bt367.2 == 0) == ((mget x356000_1 (wrap64 (2 + t359))) != t357)) x354000_1 x355000_1 x356000_1 bt367.1) else (tallymanlaw10_TableTells.j1 k1 l0 x6_1 t357 (wrap64 (2 + t359)) (mget x355000_1 t357) (mhas x355000_1 t357) bt367.2 ((bt367.2 == 0) == false) x354000_1 x355000_1 x356000_1 bt367.1)))))) = some r := H
              have A12 := Aside0.mk A120
              have WK := Aside0.mk (pick_wf A120 (by decide) (by decide))
              obtain ⟨b10, hb10⟩ : ∃ b_ : Bool, mhas x355000_1 t357 = b_ := ⟨_, rfl⟩
              rw [hb10] at H
              clear A120
              replace H := Option.bind_eq_some_iff.mp H
              obtain ⟨t359, A130, H⟩ := H
              replace H : ((tallymankit_Pick.f ((rd_T50 l0 x6_1).f0) 3).bind fun t361 => (if t361 = 2 then ((table_Clear.f x354000_1 t357).bind fun bt362 => (if ((bt362.2 == 0) != b10) = true then (none) else (if bt362.2 = 0 then (tallymanlaw10_TableTells.j2 k1 l0 x6_1 bt362.1 (mdel x355000_1 t357) (mdel x356000_1 (mget x355000_1 t357))) else (tallymanlaw10_TableTells.j2 k1 l0 x6_1 x354000_1 x355000_1 x356000_1)))) else ((table_Set.f k1 x354000_1 t357 (wrap64 (2 + t359))).bind fun bt367 => (if (mhas x356000_1 (wrap64 (2 + t359))) = true then (tallymanlaw10_TableTells.j1 k1 l0 x6_1 t357 (wrap64 (2 + t359)) (mget x355000_1 t357) b10 bt367.2 ((bt367.2 == 0) == ((mget x356000_1 (wrap64 (2 + t359))) != t357)) x354000_1 x355000_1 x356000_1 bt367.1) else (tallymanlaw10_TableTells.j1 k1 l0 x6_1 t357 (wrap64 (2 + t359)) (mget x355000_1 t357) b10 bt367.2 ((bt367.2 == 0) == false) x354000_1 x355000_1 x356000_1 bt367.1))))) = some r := H
              have A13 := Aside0.mk A130
              obtain ⟨b14, hb14⟩ : ∃ b_ : Bool, mhas x356000_1 (wrap64 (2 + t359)) = b_ := ⟨_, rfl⟩
              rw [hb14] at H
              clear A130
              replace H := Option.bind_eq_some_iff.mp H
              obtain ⟨t361, A140, H⟩ := H
              replace H : (if t361 = 2 then ((table_Clear.f x354000_1 t357).bind fun bt362 => (if ((bt362.2 == 0) != b10) = true then (none) else (if bt362.2 = 0 then (tallymanlaw10_TableTells.j2 k1 l0 x6_1 bt362.1 (mdel x355000_1 t357) (mdel x356000_1 (mget x355000_1 t357))) else (tallymanlaw10_TableTells.j2 k1 l0 x6_1 x354000_1 x355000_1 x356000_1)))) else ((table_Set.f k1 x354000_1 t357 (wrap64 (2 + t359))).bind fun bt367 => (if b14 = true then (tallymanlaw10_TableTells.j1 k1 l0 x6_1 t357 (wrap64 (2 + t359)) (mget x355000_1 t357) b10 bt367.2 ((bt367.2 == 0) == ((mget x356000_1 (wrap64 (2 + t359))) != t357)) x354000_1 x355000_1 x356000_1 bt367.1) else (tallymanlaw10_TableTells.j1 k1 l0 x6_1 t357 (wrap64 (2 + t359)) (mget x355000_1 t357) b10 bt367.2 ((bt367.2 == 0) == false) x354000_1 x355000_1 x356000_1 bt367.1)))) = some r := H
              have A14 := Aside0.mk A140
              clear A140
              have HC15 := Aside0.mk H
              clear H
              have p356 : 0 ≤ (x6_1 : Int) := of_decide_eq_true (by first | (with_reducible assumption) | assumption)
              have q356 : x6_1 < (l0.length : Int) := of_decide_eq_true (by first | (with_reducible assumption) | assumption)
              obtain ⟨ad356, e356, hx356_0, hx356_1, hx356_2⟩ := at_T50 HR0.out x6_1 p356 q356
              cases e356
              replace hx356_0 := (HB.out.cell (World.block_lt_of_cell? w _ hx356_0)).trans hx356_0
              replace hx356_1 := (HB.out.cell (World.block_lt_of_cell? w _ hx356_1)).trans hx356_1
              replace hx356_2 := (HB.out.cell (World.block_lt_of_cell? w _ hx356_2)).trans hx356_2
              replace p356 := eq_true p356
              replace q356 := eq_true q356
              go_upto_if 69 with (first | (at_lookup; refine lookM_event (mb := gb354) (M := x355000_1) (kx := t357) rfl rfl rfl (by (with_reducible repeat (first | refine own_drewN ?_ _ | refine own_drew ?_ | refine own_alloc ?_ _)); exact BK354.out) rfl ?wk ?_; (case wk => with_reducible first | exact WK.out | exact WK18.out | exact wf_wrap64 _ | exact own_wf BK354.out WK.out); (try rw [hb10])) | (go_at_call 13; (with_reducible refine (tallymankit_Pick.calls ((rd_T50 l0 x6_1).f1) 60 t357 _ A12.out).mono ?_); rintro e w' ⟨rfl, ⟨nd, rfl⟩⟩; (try first | exact ⟨rfl, _, World.drewN_drewN _ _ _⟩ | exact ⟨rfl, _, Eq.trans (World.drewN_drewN _ _ _) (congrArg (World.drewN _) (Nat.add_assoc _ _ _))⟩); have p358 : 0 ≤ (x6_1 : Int) := of_decide_eq_true (by first | (with_reducible assumption) | assumption); have q358 : x6_1 < (l0.length : Int) := of_decide_eq_true (by first | (with_reducible assumption) | assumption); obtain ⟨ad358, e358, hx358_0, hx358_1, hx358_2⟩ := at_T50 HR0.out x6_1 p358 q358; obtain rfl : ad356 = ad358 := (by injection e358); replace hx358_0 := (HB.out.cell (World.block_lt_of_cell? w _ hx358_0)).trans hx358_0; replace hx358_1 := (HB.out.cell (World.block_lt_of_cell? w _ hx358_1)).trans hx358_1; replace hx358_2 := (HB.out.cell (World.block_lt_of_cell? w _ hx358_2)).trans hx358_2; replace p358 := eq_true p358; replace q358 := eq_true q358) | (go_at_call 13; (with_reducible refine (tallymankit_Pick.calls ((rd_T50 l0 x6_1).f2) 58 t359 _ A13.out).mono ?_); rintro e w' ⟨rfl, ⟨nd, rfl⟩⟩; (try first | exact ⟨rfl, _, World.drewN_drewN _ _ _⟩ | exact ⟨rfl, _, Eq.trans (World.drewN_drewN _ _ _) (congrArg (World.drewN _) (Nat.add_assoc _ _ _))⟩); have hnb16 := NB354_353.out; have hnc16 := NB353_354.out; have hnb17 := NB354_355.out; have hnc17 := NB355_354.out; have p360 : 0 ≤ (x6_1 : Int) := of_decide_eq_true (by first | (with_reducible assumption) | assumption); have q360 : x6_1 < (l0.length : Int) := of_decide_eq_true (by first | (with_reducible assumption) | assumption); obtain ⟨ad360, e360, hx360_0, hx360_1, hx360_2⟩ := at_T50 HR0.out x6_1 p360 q360; obtain rfl : ad356 = ad360 := (by injection e360); replace hx360_0 := (HB.out.cell (World.block_lt_of_cell? w _ hx360_0)).trans hx360_0; replace hx360_1 := (HB.out.cell (World.block_lt_of_cell? w _ hx360_1)).trans hx360_1; replace hx360_2 := (HB.out.cell (World.block_lt_of_cell? w _ hx360_2)).trans hx360_2; replace p360 := eq_true p360; replace q360 := eq_true q360) | (go_at_call 13; (with_reducible refine (tallymankit_Pick.calls ((rd_T50 l0 x6_1).f0) 3 t361 _ A14.out).mono ?_); rintro e w' ⟨rfl, ⟨nd, rfl⟩⟩; (try first | exact ⟨rfl, _, World.drewN_drewN _ _ _⟩ | exact ⟨rfl, _, Eq.trans (World.drewN_drewN _ _ _) (congrArg (World.drewN _) (Nat.add_assoc _ _ _))⟩)))
              repeat (go_quiet (first | (at_lookup; refine lookM_event (mb := gb354) (M := x355000_1) (kx := t357) rfl rfl rfl (by (with_reducible repeat (first | refine own_drewN ?_ _ | refine own_drew ?_ | refine own_alloc ?_ _)); exact BK354.out) rfl ?wk ?_; (case wk => with_reducible first | exact WK.out | exact WK18.out | exact wf_wrap64 _ | exact own_wf BK354.out WK.out); (try rw [hb10])) | (go_at_call 13; (with_reducible refine (tallymankit_Pick.calls ((rd_T50 l0 x6_1).f1) 60 t357 _ A12.out).mono ?_); rintro e w' ⟨rfl, ⟨nd, rfl⟩⟩; (try first | exact ⟨rfl, _, World.drewN_drewN _ _ _⟩ | exact ⟨rfl, _, Eq.trans (World.drewN_drewN _ _ _) (congrArg (World.drewN _) (Nat.add_assoc _ _ _))⟩); have p358 : 0 ≤ (x6_1 : Int) := of_decide_eq_true (by first | (with_reducible assumption) | assumption); have q358 : x6_1 < (l0.length : Int) := of_decide_eq_true (by first | (with_reducible assumption) | assumption); obtain ⟨ad358, e358, hx358_0, hx358_1, hx358_2⟩ := at_T50 HR0.out x6_1 p358 q358; obtain rfl : ad356 = ad358 := (by injection e358); replace hx358_0 := (HB.out.cell (World.block_lt_of_cell? w _ hx358_0)).trans hx358_0; replace hx358_1 := (HB.out.cell (World.block_lt_of_cell? w _ hx358_1)).trans hx358_1; replace hx358_2 := (HB.out.cell (World.block_lt_of_cell? w _ hx358_2)).trans hx358_2; replace p358 := eq_true p358; replace q358 := eq_true q358) | (go_at_call 13; (with_reducible refine (tallymankit_Pick.calls ((rd_T50 l0 x6_1).f2) 58 t359 _ A13.out).mono ?_); rintro e w' ⟨rfl, ⟨nd, rfl⟩⟩; (try first | exact ⟨rfl, _, World.drewN_drewN _ _ _⟩ | exact ⟨rfl, _, Eq.trans (World.drewN_drewN _ _ _) (congrArg (World.drewN _) (Nat.add_assoc _ _ _))⟩); have hnb16 := NB354_353.out; have hnc16 := NB353_354.out; have hnb17 := NB354_355.out; have hnc17 := NB355_354.out; have p360 : 0 ≤ (x6_1 : Int) := of_decide_eq_true (by first | (with_reducible assumption) | assumption); have q360 : x6_1 < (l0.length : Int) := of_decide_eq_true (by first | (with_reducible assumption) | assumption); obtain ⟨ad360, e360, hx360_0, hx360_1, hx360_2⟩ := at_T50 HR0.out x6_1 p360 q360; obtain rfl : ad356 = ad360 := (by injection e360); replace hx360_0 := (HB.out.cell (World.block_lt_of_cell? w _ hx360_0)).trans hx360_0; replace hx360_1 := (HB.out.cell (World.block_lt_of_cell? w _ hx360_1)).trans hx360_1; replace hx360_2 := (HB.out.cell (World.block_lt_of_cell? w _ hx360_2)).trans hx360_2; replace p360 := eq_true p360; replace q360 := eq_true q360) | (go_at_call 13; (with_reducible refine (tallymankit_Pick.calls ((rd_T50 l0 x6_1).f0) 3 t361 _ A14.out).mono ?_); rintro e w' ⟨rfl, ⟨nd, rfl⟩⟩; (try first | exact ⟨rfl, _, World.drewN_drewN _ _ _⟩ | exact ⟨rfl, _, Eq.trans (World.drewN_drewN _ _ _) (congrArg (World.drewN _) (Nat.add_assoc _ _ _))⟩))); go_upto_if 69 with (first | (at_lookup; refine lookM_event (mb := gb354) (M := x355000_1) (kx := t357) rfl rfl rfl (by (with_reducible repeat (first | refine own_drewN ?_ _ | refine own_drew ?_ | refine own_alloc ?_ _)); exact BK354.out) rfl ?wk ?_; (case wk => with_reducible first | exact WK.out | exact WK18.out | exact wf_wrap64 _ | exact own_wf BK354.out WK.out); (try rw [hb10])) | (go_at_call 13; (with_reducible refine (tallymankit_Pick.calls ((rd_T50 l0 x6_1).f1) 60 t357 _ A12.out).mono ?_); rintro e w' ⟨rfl, ⟨nd, rfl⟩⟩; (try first | exact ⟨rfl, _, World.drewN_drewN _ _ _⟩ | exact ⟨rfl, _, Eq.trans (World.drewN_drewN _ _ _) (congrArg (World.drewN _) (Nat.add_assoc _ _ _))⟩); have p358 : 0 ≤ (x6_1 : Int) := of_decide_eq_true (by first | (with_reducible assumption) | assumption); have q358 : x6_1 < (l0.length : Int) := of_decide_eq_true (by first | (with_reducible assumption) | assumption); obtain ⟨ad358, e358, hx358_0, hx358_1, hx358_2⟩ := at_T50 HR0.out x6_1 p358 q358; obtain rfl : ad356 = ad358 := (by injection e358); replace hx358_0 := (HB.out.cell (World.block_lt_of_cell? w _ hx358_0)).trans hx358_0; replace hx358_1 := (HB.out.cell (World.block_lt_of_cell? w _ hx358_1)).trans hx358_1; replace hx358_2 := (HB.out.cell (World.block_lt_of_cell? w _ hx358_2)).trans hx358_2; replace p358 := eq_true p358; replace q358 := eq_true q358) | (go_at_call 13; (with_reducible refine (tallymankit_Pick.calls ((rd_T50 l0 x6_1).f2) 58 t359 _ A13.out).mono ?_); rintro e w' ⟨rfl, ⟨nd, rfl⟩⟩; (try first | exact ⟨rfl, _, World.drewN_drewN _ _ _⟩ | exact ⟨rfl, _, Eq.trans (World.drewN_drewN _ _ _) (congrArg (World.drewN _) (Nat.add_assoc _ _ _))⟩); have hnb16 := NB354_353.out; have hnc16 := NB353_354.out; have hnb17 := NB354_355.out; have hnc17 := NB355_354.out; have p360 : 0 ≤ (x6_1 : Int) := of_decide_eq_true (by first | (with_reducible assumption) | assumption); have q360 : x6_1 < (l0.length : Int) := of_decide_eq_true (by first | (with_reducible assumption) | assumption); obtain ⟨ad360, e360, hx360_0, hx360_1, hx360_2⟩ := at_T50 HR0.out x6_1 p360 q360; obtain rfl : ad356 = ad360 := (by injection e360); replace hx360_0 := (HB.out.cell (World.block_lt_of_cell? w _ hx360_0)).trans hx360_0; replace hx360_1 := (HB.out.cell (World.block_lt_of_cell? w _ hx360_1)).trans hx360_1; replace hx360_2 := (HB.out.cell (World.block_lt_of_cell? w _ hx360_2)).trans hx360_2; replace p360 := eq_true p360; replace q360 := eq_true q360) | (go_at_call 13; (with_reducible refine (tallymankit_Pick.calls ((rd_T50 l0 x6_1).f0) 3 t361 _ A14.out).mono ?_); rintro e w' ⟨rfl, ⟨nd, rfl⟩⟩; (try first | exact ⟨rfl, _, World.drewN_drewN _ _ _⟩ | exact ⟨rfl, _, Eq.trans (World.drewN_drewN _ _ _) (congrArg (World.drewN _) (Nat.add_assoc _ _ _))⟩))))
              (try simp only [Act.put, List.setIfInBounds_toArray, List.set_cons_zero, List.set_cons_succ])
              go_cut [] (fun wc => ∃ (kq : Nat) (x354000_14 : List Int) (x355000_14 : LogM) (x356000_14 : LogM) (u354000 : Value), Aside0 (tallymanlaw10_TableTells.j2 kq l0 x6_1 x354000_14 x355000_14 x356000_14 = some r) ∧ Aside0 (kq ≤ k1) ∧ Aside0 (Kd.V (Kd.int .i64) 3 wc w.heap.size (fun k_ => k_ ≠ gb353 ∧ k_ ≠ gb354 ∧ k_ ≠ gb355) u354000 x354000_14) ∧ Aside0 (wc.heap[gb353]? = some (.cells #[u354000] 24 (0, 0))) ∧ Aside0 (OwnsM wc gb354 x355000_14) ∧ Aside0 (OwnsM wc gb355 x356000_14) ∧ Aside0 (Below w.heap.size w wc))
              case first =>
                have H := HC15.out
                clear HC15
                by_cases c19 : t361 = 2
                · rw [if_pos c19] at H
                  have c19b0 : (t361 == 2) = true := beq_iff_eq.mpr c19
                  have c19b1 : (t361 != 2) = false := bne_eq_false_iff_eq.mpr c19
                  clear c19
                  (first | rw [c19b0] | (simp only [i64_w, i32_w]; rw [c19b0]) | skip)
                  replace H := Option.bind_eq_some_iff.mp H
                  obtain ⟨⟨t362, t365⟩, A200, H⟩ := H
                  replace H : (if ((t365 == 0) != b10) = true then (none) else (if t365 = 0 then (tallymanlaw10_TableTells.j2 k1 l0 x6_1 t362 (mdel x355000_1 t357) (mdel x356000_1 (mget x355000_1 t357))) else (tallymanlaw10_TableTells.j2 k1 l0 x6_1 x354000_1 x355000_1 x356000_1))) = some r := H
                  have A20 := Aside0.mk A200
                  clear A200
                  by_cases c21 : ((t365 == 0) != b10) = true
                  · rw [if_pos c21] at H
                    exact absurd H (by simp)
                  · rw [if_neg c21] at H
                    have c21b0 : ((t365 == 0) != b10) = false := by simpa using c21
                    (try (have c21b1 : decide ((t365 == 0) = b10) = true := by simpa using c21))
                    (try (have c21b2 : ((t365 == 0) == b10) = true := by simpa using c21))
                    clear c21
                    by_cases c22 : t365 = 0
                    · rw [if_pos c22] at H
                      have c22b0 : (t365 == 0) = true := beq_iff_eq.mpr c22
                      obtain rfl : b10 = true := by have h_ := c21b2; rw [c22b0] at h_; simpa using h_
                      have c22b1 : (t365 != 0) = false := bne_eq_false_iff_eq.mpr c22
                      clear c22
                      have H' := Aside0.mk H
                      clear H
                      have hnb23 := NB353_354.out
                      have hnc23 := NB354_353.out
                      have hnb24 := NB353_355.out
                      have hnc24 := NB355_353.out
                      have hcz25_0 : wr.cell? ⟨gb353, 0, none⟩ = some (u354000) := (blk_cell BK353.out 0).trans rfl
                      have hfz25_0 := blk_frozen BK353.out 0
                      obtain ⟨Ao26, co26, eo26⟩ := Kd.V_slice HO_354000.out
                      subst eo26
                      go_wp2_with (first | (at_delete; refine delM_event (mb := gb354) (M := x355000_1) (kx := t357) rfl rfl rfl (by (with_reducible repeat (first | refine own_drewN ?_ _ | refine own_drew ?_ | refine own_alloc ?_ _)); refine own_far ?_ NB354_353.out _; (with_reducible repeat (first | refine own_drewN ?_ _ | refine own_drew ?_ | refine own_alloc ?_ _)); refine own_far ?_ NB354_366.out _; (with_reducible repeat (first | refine own_drewN ?_ _ | refine own_drew ?_ | refine own_alloc ?_ _)); exact BK354.out) rfl ?wk ?_; (case wk => with_reducible first | exact WK.out | exact WK18.out | exact wf_wrap64 _ | exact own_wf BK354.out WK.out); intro w_431_2 hom_ hgr_; have HM431_2 := Aside0.mk hom_; have HG431_2 := Aside0.mk hgr_; clear hom_ hgr_) | (at_delete; refine delM_event (mb := gb355) (M := x356000_1) (kx := (mget x355000_1 t357)) rfl rfl rfl (by (with_reducible repeat (first | refine own_drewN ?_ _ | refine own_drew ?_ | refine own_alloc ?_ _)); refine own_grown ?_ HG431_2.out (grown_ne NB355_354.out); (with_reducible repeat (first | refine own_drewN ?_ _ | refine own_drew ?_ | refine own_alloc ?_ _)); refine own_far ?_ NB355_353.out _; (with_reducible repeat (first | refine own_drewN ?_ _ | refine own_drew ?_ | refine own_alloc ?_ _)); refine own_far ?_ NB355_366.out _; (with_reducible repeat (first | refine own_drewN ?_ _ | refine own_drew ?_ | refine own_alloc ?_ _)); exact BK355.out) rfl ?wk ?_; (case wk => with_reducible first | exact WK.out | exact WK18.out | exact wf_wrap64 _ | exact own_wf BK354.out WK.out); intro w_431_3 hom_ hgr_; have HM431_3 := Aside0.mk hom_; have HG431_3 := Aside0.mk hgr_; clear hom_ hgr_) | (go_at_call 17; (with_reducible refine (table_Clear.calls _ _ x354000_1 t357 t362 t365 _ ?side1 ?side2 A20.out).mono ?_); (case side1 => repeat (first | exact (Kd.V_reads' HO_354000.out).2.2 | (with_reducible refine Kd.C_alloc ?_ _) | (with_reducible refine Kd.C_drewN ?_ _) | (with_reducible refine Kd.C_drew ?_))); (case side2 => exact (Kd.V_reads' HO_354000.out).2.1); rintro e w27 ⟨v363, rfl, ho0, hb⟩; have n0_ := Aside0.mk (Kd.V_below (by (with_reducible repeat (first | apply Kd.V_alloc | apply Kd.V_drewN | apply Kd.V_drew)); exact HO_354000.out) hb); have n1_ := Aside0.mk (Kd.V_lower (Kd.V_mono (ok' := fun k_ => k_ ≠ gb353 ∧ k_ ≠ gb354 ∧ k_ ≠ gb355) ho0 (fun k_ hk_ => ⟨(Kd.freshB (g := gb353) (o := .cells #[.slice Ao26 x354000_1.length co26] 24 (0, 0)) (by (with_reducible repeat (first | refine blk_drewN ?_ _ | refine blk_drew ?_ | refine blk_alloc ?_ _)); exact BK353.out) k_ hk_), (own_fresh (mb := gb354) (M := x355000_1) (by (with_reducible repeat (first | refine own_drewN ?_ _ | refine own_drew ?_ | refine own_alloc ?_ _)); exact BK354.out) k_ hk_), (own_fresh (mb := gb355) (M := x356000_1) (by (with_reducible repeat (first | refine own_drewN ?_ _ | refine own_drew ?_ | refine own_alloc ?_ _)); exact BK355.out) k_ hk_)⟩)) (below_size (by repeat (first | (with_reducible first | exact HB.out | apply below_alloc | apply pw_below_drewN | apply below_drew1 | refine below_set ?_ GE353.out | refine below_set ?_ GE354.out | refine below_set ?_ GE355.out) | exact HB.out)))); have n2_ := Aside0.mk (blk_below (g := gb353) (o := .cells #[.slice Ao26 x354000_1.length co26] 24 (0, 0)) (by (with_reducible repeat (first | refine blk_drewN ?_ _ | refine blk_drew ?_ | refine blk_alloc ?_ _)); exact BK353.out) hb); have n3_ := Aside0.mk (own_below (mb := gb354) (M := x355000_1) (by (with_reducible repeat (first | refine own_drewN ?_ _ | refine own_drew ?_ | refine own_alloc ?_ _)); exact BK354.out) hb); have n4_ := Aside0.mk (own_below (mb := gb355) (M := x356000_1) (by (with_reducible repeat (first | refine own_drewN ?_ _ | refine own_drew ?_ | refine own_alloc ?_ _)); exact BK355.out) hb); have n5_ := Aside0.mk (below_step (by repeat (first | (with_reducible first | exact HB.out | apply below_alloc | apply pw_below_drewN | apply below_drew1 | refine below_set ?_ GE353.out | refine below_set ?_ GE354.out | refine below_set ?_ GE355.out) | exact HB.out)) hb); clear HO_354000; clear BK353; clear BK354; clear BK355; clear HB; have HO_354000 := n0_; have HO364 := n1_; have BK353 := n2_; have BK354 := n3_; have BK355 := n4_; have HB := n5_; clear n0_ n1_ n2_ n3_ n4_ n5_; (try clear hb); (try clear hb2); (try clear hk); (try clear hi); (try clear ho0)) | ((with_reducible refine gate_dst (N := 11) rfl ?_); refine box_event ?hg (N := 11) ?hd (cs := #[.slice none 0 0]) (t := 24) ?hr ?_; (case hd => rfl); (case hg => rfl); (case hr => first | (go_simp; done) | (go_simp; rfl)); intro gb366 hg w28 hbox hb; have n0_ := Aside0.mk (Kd.V_below (Kd.V_elderB (by (with_reducible repeat (first | apply Kd.V_alloc | apply Kd.V_drewN | apply Kd.V_drew)); exact HO_354000.out) gb366 (Nat.le_of_eq hg.symm)) hb); have n1_ := Aside0.mk (Kd.V_below (Kd.V_elderB (by (with_reducible repeat (first | apply Kd.V_alloc | apply Kd.V_drewN | apply Kd.V_drew)); exact HO364.out) gb366 (Nat.le_of_eq hg.symm)) hb); have n2_ := Aside0.mk (blk_below (g := gb353) (o := .cells #[.slice Ao26 x354000_1.length co26] 24 (0, 0)) (by (with_reducible repeat (first | refine blk_drewN ?_ _ | refine blk_drew ?_ | refine blk_alloc ?_ _)); exact BK353.out) hb); have n3_ := Aside0.mk (own_below (mb := gb354) (M := x355000_1) (by (with_reducible repeat (first | refine own_drewN ?_ _ | refine own_drew ?_ | refine own_alloc ?_ _)); exact BK354.out) hb); have n4_ := Aside0.mk (own_below (mb := gb355) (M := x356000_1) (by (with_reducible repeat (first | refine own_drewN ?_ _ | refine own_drew ?_ | refine own_alloc ?_ _)); exact BK355.out) hb); have n5_ := Aside0.mk (below_step (by repeat (first | (with_reducible first | exact HB.out | apply below_alloc | apply pw_below_drewN | apply below_drew1 | refine below_set ?_ GE353.out | refine below_set ?_ GE354.out | refine below_set ?_ GE355.out) | exact HB.out)) hb); have n6_ := Aside0.mk (hbox); have n7_ := Aside0.mk ((by rw [hg]; exact (below_size (by repeat (first | (with_reducible first | exact HB.out | apply below_alloc | apply pw_below_drewN | apply below_drew1 | refine below_set ?_ GE353.out | refine below_set ?_ GE354.out | refine below_set ?_ GE355.out) | exact HB.out))) : w.heap.size ≤ gb366)); have n8_ := Aside0.mk ((by rw [hg]; exact (below_size (by repeat (first | (with_reducible first | exact HB.out | apply below_alloc | apply pw_below_drewN | apply below_drew1 | refine below_set ?_ GE353.out | refine below_set ?_ GE354.out | refine below_set ?_ GE355.out) | exact HB.out))) : w.heap.size ≤ gb366)); have n9_ := Aside0.mk ((by rw [hg]; exact Nat.ne_of_lt (blk_lt (g := gb353) (o := .cells #[.slice Ao26 x354000_1.length co26] 24 (0, 0)) (by (with_reducible repeat (first | refine blk_drewN ?_ _ | refine blk_drew ?_ | refine blk_alloc ?_ _)); exact BK353.out)) : gb353 ≠ gb366)); have n10_ := Aside0.mk ((by rw [hg]; exact Nat.ne_of_gt (blk_lt (g := gb353) (o := .cells #[.slice Ao26 x354000_1.length co26] 24 (0, 0)) (by (with_reducible repeat (first | refine blk_drewN ?_ _ | refine blk_drew ?_ | refine blk_alloc ?_ _)); exact BK353.out)) : gb366 ≠ gb353)); have n11_ := Aside0.mk ((by rw [hg]; exact Nat.ne_of_lt (own_lt (mb := gb354) (M := x355000_1) (by (with_reducible repeat (first | refine own_drewN ?_ _ | refine own_drew ?_ | refine own_alloc ?_ _)); exact BK354.out)) : gb354 ≠ gb366)); have n12_ := Aside0.mk ((by rw [hg]; exact Nat.ne_of_gt (own_lt (mb := gb354) (M := x355000_1) (by (with_reducible repeat (first | refine own_drewN ?_ _ | refine own_drew ?_ | refine own_alloc ?_ _)); exact BK354.out)) : gb366 ≠ gb354)); have n13_ := Aside0.mk ((by rw [hg]; exact Nat.ne_of_lt (own_lt (mb := gb355) (M := x356000_1) (by (with_reducible repeat (first | refine own_drewN ?_ _ | refine own_drew ?_ | refine own_alloc ?_ _)); exact BK355.out)) : gb355 ≠ gb366)); have n14_ := Aside0.mk ((by rw [hg]; exact Nat.ne_of_gt (own_lt (mb := gb355) (M := x356000_1) (by (with_reducible repeat (first | refine own_drewN ?_ _ | refine own_drew ?_ | refine own_alloc ?_ _)); exact BK355.out)) : gb366 ≠ gb355)); clear HO_354000; clear HO364; clear BK353; clear BK354; clear BK355; clear HB; have HO_354000 := n0_; have HO364 := n1_; have BK353 := n2_; have BK354 := n3_; have BK355 := n4_; have HB := n5_; have BK366 := n6_; have GW366 := n7_; have GE366 := n8_; have NB353_366 := n9_; have NB366_353 := n10_; have NB354_366 := n11_; have NB366_354 := n12_; have NB355_366 := n13_; have NB366_355 := n14_; clear n0_ n1_ n2_ n3_ n4_ n5_ n6_ n7_ n8_ n9_ n10_ n11_ n12_ n13_ n14_; clear hb hbox hg; obtain ⟨Ao29, co29, eo29⟩ := Kd.V_slice HO364.out; subst eo29; have hnb30 := NB366_353.out; have hnc30 := NB353_366.out; have hnb31 := NB366_354.out; have hnc31 := NB354_366.out; have hnb32 := NB366_355.out; have hnc32 := NB355_366.out; have hcz33_0 : w28.cell? ⟨gb366, 0, none⟩ = some (.slice none 0 0) := (blk_cell BK366.out 0).trans rfl; have hfz33_0 := blk_frozen BK366.out 0; have hcz34_0 : w28.cell? ⟨gb353, 0, none⟩ = some (.slice Ao26 x354000_1.length co26) := (blk_cell BK353.out 0).trans rfl; have hfz34_0 := blk_frozen BK353.out 0; have hnb35 := NB354_355.out; have hnc35 := NB355_354.out))
                      repeat (go_quiet (first | (at_delete; refine delM_event (mb := gb354) (M := x355000_1) (kx := t357) rfl rfl rfl (by (with_reducible repeat (first | refine own_drewN ?_ _ | refine own_drew ?_ | refine own_alloc ?_ _)); refine own_far ?_ NB354_353.out _; (with_reducible repeat (first | refine own_drewN ?_ _ | refine own_drew ?_ | refine own_alloc ?_ _)); refine own_far ?_ NB354_366.out _; (with_reducible repeat (first | refine own_drewN ?_ _ | refine own_drew ?_ | refine own_alloc ?_ _)); exact BK354.out) rfl ?wk ?_; (case wk => with_reducible first | exact WK.out | exact WK18.out | exact wf_wrap64 _ | exact own_wf BK354.out WK.out); intro w_431_2 hom_ hgr_; have HM431_2 := Aside0.mk hom_; have HG431_2 := Aside0.mk hgr_; clear hom_ hgr_) | (at_delete; refine delM_event (mb := gb355) (M := x356000_1) (kx := (mget x355000_1 t357)) rfl rfl rfl (by (with_reducible repeat (first | refine own_drewN ?_ _ | refine own_drew ?_ | refine own_alloc ?_ _)); refine own_grown ?_ HG431_2.out (grown_ne NB355_354.out); (with_reducible repeat (first | refine own_drewN ?_ _ | refine own_drew ?_ | refine own_alloc ?_ _)); refine own_far ?_ NB355_353.out _; (with_reducible repeat (first | refine own_drewN ?_ _ | refine own_drew ?_ | refine own_alloc ?_ _)); refine own_far ?_ NB355_366.out _; (with_reducible repeat (first | refine own_drewN ?_ _ | refine own_drew ?_ | refine own_alloc ?_ _)); exact BK355.out) rfl ?wk ?_; (case wk => with_reducible first | exact WK.out | exact WK18.out | exact wf_wrap64 _ | exact own_wf BK354.out WK.out); intro w_431_3 hom_ hgr_; have HM431_3 := Aside0.mk hom_; have HG431_3 := Aside0.mk hgr_; clear hom_ hgr_) | (go_at_call 17; (with_reducible refine (table_Clear.calls _ _ x354000_1 t357 t362 t365 _ ?side1 ?side2 A20.out).mono ?_); (case side1 => repeat (first | exact (Kd.V_reads' HO_354000.out).2.2 | (with_reducible refine Kd.C_alloc ?_ _) | (with_reducible refine Kd.C_drewN ?_ _) | (with_reducible refine Kd.C_drew ?_))); (case side2 => exact (Kd.V_reads' HO_354000.out).2.1); rintro e w27 ⟨v363, rfl, ho0, hb⟩; have n0_ := Aside0.mk (Kd.V_below (by (with_reducible repeat (first | apply Kd.V_alloc | apply Kd.V_drewN | apply Kd.V_drew)); exact HO_354000.out) hb); have n1_ := Aside0.mk (Kd.V_lower (Kd.V_mono (ok' := fun k_ => k_ ≠ gb353 ∧ k_ ≠ gb354 ∧ k_ ≠ gb355) ho0 (fun k_ hk_ => ⟨(Kd.freshB (g := gb353) (o := .cells #[.slice Ao26 x354000_1.length co26] 24 (0, 0)) (by (with_reducible repeat (first | refine blk_drewN ?_ _ | refine blk_drew ?_ | refine blk_alloc ?_ _)); exact BK353.out) k_ hk_), (own_fresh (mb := gb354) (M := x355000_1) (by (with_reducible repeat (first | refine own_drewN ?_ _ | refine own_drew ?_ | refine own_alloc ?_ _)); exact BK354.out) k_ hk_), (own_fresh (mb := gb355) (M := x356000_1) (by (with_reducible repeat (first | refine own_drewN ?_ _ | refine own_drew ?_ | refine own_alloc ?_ _)); exact BK355.out) k_ hk_)⟩)) (below_size (by repeat (first | (with_reducible first | exact HB.out | apply below_alloc | apply pw_below_drewN | apply below_drew1 | refine below_set ?_ GE353.out | refine below_set ?_ GE354.out | refine below_set ?_ GE355.out) | exact HB.out)))); have n2_ := Aside0.mk (blk_below (g := gb353) (o := .cells #[.slice Ao26 x354000_1.length co26] 24 (0, 0)) (by (with_reducible repeat (first | refine blk_drewN ?_ _ | refine blk_drew ?_ | refine blk_alloc ?_ _)); exact BK353.out) hb); have n3_ := Aside0.mk (own_below (mb := gb354) (M := x355000_1) (by (with_reducible repeat (first | refine own_drewN ?_ _ | refine own_drew ?_ | refine own_alloc ?_ _)); exact BK354.out) hb); have n4_ := Aside0.mk (own_below (mb := gb355) (M := x356000_1) (by (with_reducible repeat (first | refine own_drewN ?_ _ | refine own_drew ?_ | refine own_alloc ?_ _)); exact BK355.out) hb); have n5_ := Aside0.mk (below_step (by repeat (first | (with_reducible first | exact HB.out | apply below_alloc | apply pw_below_drewN | apply below_drew1 | refine below_set ?_ GE353.out | refine below_set ?_ GE354.out | refine below_set ?_ GE355.out) | exact HB.out)) hb); clear HO_354000; clear BK353; clear BK354; clear BK355; clear HB; have HO_354000 := n0_; have HO364 := n1_; have BK353 := n2_; have BK354 := n3_; have BK355 := n4_; have HB := n5_; clear n0_ n1_ n2_ n3_ n4_ n5_; (try clear hb); (try clear hb2); (try clear hk); (try clear hi); (try clear ho0)) | ((with_reducible refine gate_dst (N := 11) rfl ?_); refine box_event ?hg (N := 11) ?hd (cs := #[.slice none 0 0]) (t := 24) ?hr ?_; (case hd => rfl); (case hg => rfl); (case hr => first | (go_simp; done) | (go_simp; rfl)); intro gb366 hg w28 hbox hb; have n0_ := Aside0.mk (Kd.V_below (Kd.V_elderB (by (with_reducible repeat (first | apply Kd.V_alloc | apply Kd.V_drewN | apply Kd.V_drew)); exact HO_354000.out) gb366 (Nat.le_of_eq hg.symm)) hb); have n1_ := Aside0.mk (Kd.V_below (Kd.V_elderB (by (with_reducible repeat (first | apply Kd.V_alloc | apply Kd.V_drewN | apply Kd.V_drew)); exact HO364.out) gb366 (Nat.le_of_eq hg.symm)) hb); have n2_ := Aside0.mk (blk_below (g := gb353) (o := .cells #[.slice Ao26 x354000_1.length co26] 24 (0, 0)) (by (with_reducible repeat (first | refine blk_drewN ?_ _ | refine blk_drew ?_ | refine blk_alloc ?_ _)); exact BK353.out) hb); have n3_ := Aside0.mk (own_below (mb := gb354) (M := x355000_1) (by (with_reducible repeat (first | refine own_drewN ?_ _ | refine own_drew ?_ | refine own_alloc ?_ _)); exact BK354.out) hb); have n4_ := Aside0.mk (own_below (mb := gb355) (M := x356000_1) (by (with_reducible repeat (first | refine own_drewN ?_ _ | refine own_drew ?_ | refine own_alloc ?_ _)); exact BK355.out) hb); have n5_ := Aside0.mk (below_step (by repeat (first | (with_reducible first | exact HB.out | apply below_alloc | apply pw_below_drewN | apply below_drew1 | refine below_set ?_ GE353.out | refine below_set ?_ GE354.out | refine below_set ?_ GE355.out) | exact HB.out)) hb); have n6_ := Aside0.mk (hbox); have n7_ := Aside0.mk ((by rw [hg]; exact (below_size (by repeat (first | (with_reducible first | exact HB.out | apply below_alloc | apply pw_below_drewN | apply below_drew1 | refine below_set ?_ GE353.out | refine below_set ?_ GE354.out | refine below_set ?_ GE355.out) | exact HB.out))) : w.heap.size ≤ gb366)); have n8_ := Aside0.mk ((by rw [hg]; exact (below_size (by repeat (first | (with_reducible first | exact HB.out | apply below_alloc | apply pw_below_drewN | apply below_drew1 | refine below_set ?_ GE353.out | refine below_set ?_ GE354.out | refine below_set ?_ GE355.out) | exact HB.out))) : w.heap.size ≤ gb366)); have n9_ := Aside0.mk ((by rw [hg]; exact Nat.ne_of_lt (blk_lt (g := gb353) (o := .cells #[.slice Ao26 x354000_1.length co26] 24 (0, 0)) (by (with_reducible repeat (first | refine blk_drewN ?_ _ | refine blk_drew ?_ | refine blk_alloc ?_ _)); exact BK353.out)) : gb353 ≠ gb366)); have n10_ := Aside0.mk ((by rw [hg]; exact Nat.ne_of_gt (blk_lt (g := gb353) (o := .cells #[.slice Ao26 x354000_1.length co26] 24 (0, 0)) (by (with_reducible repeat (first | refine blk_drewN ?_ _ | refine blk_drew ?_ | refine blk_alloc ?_ _)); exact BK353.out)) : gb366 ≠ gb353)); have n11_ := Aside0.mk ((by rw [hg]; exact Nat.ne_of_lt (own_lt (mb := gb354) (M := x355000_1) (by (with_reducible repeat (first | refine own_drewN ?_ _ | refine own_drew ?_ | refine own_alloc ?_ _)); exact BK354.out)) : gb354 ≠ gb366)); have n12_ := Aside0.mk ((by rw [hg]; exact Nat.ne_of_gt (own_lt (mb := gb354) (M := x355000_1) (by (with_reducible repeat (first | refine own_drewN ?_ _ | refine own_drew ?_ | refine own_alloc ?_ _)); exact BK354.out)) : gb366 ≠ gb354)); have n13_ := Aside0.mk ((by rw [hg]; exact Nat.ne_of_lt (own_lt (mb := gb355) (M := x356000_1) (by (with_reducible repeat (first | refine own_drewN ?_ _ | refine own_drew ?_ | refine own_alloc ?_ _)); exact BK355.out)) : gb355 ≠ gb366)); have n14_ := Aside0.mk ((by rw [hg]; exact Nat.ne_of_gt (own_lt (mb := gb355) (M := x356000_1) (by (with_reducible repeat (first | refine own_drewN ?_ _ | refine own_drew ?_ | refine own_alloc ?_ _)); exact BK355.out)) : gb366 ≠ gb355)); clear HO_354000; clear HO364; clear BK353; clear BK354; clear BK355; clear HB; have HO_354000 := n0_; have HO364 := n1_; have BK353 := n2_; have BK354 := n3_; have BK355 := n4_; have HB := n5_; have BK366 := n6_; have GW366 := n7_; have GE366 := n8_; have NB353_366 := n9_; have NB366_353 := n10_; have NB354_366 := n11_; have NB366_354 := n12_; have NB355_366 := n13_; have NB366_355 := n14_; clear n0_ n1_ n2_ n3_ n4_ n5_ n6_ n7_ n8_ n9_ n10_ n11_ n12_ n13_ n14_; clear hb hbox hg; obtain ⟨Ao29, co29, eo29⟩ := Kd.V_slice HO364.out; subst eo29; have hnb30 := NB366_353.out; have hnc30 := NB353_366.out; have hnb31 := NB366_354.out; have hnc31 := NB354_366.out; have hnb32 := NB366_355.out; have hnc32 := NB355_366.out; have hcz33_0 : w28.cell? ⟨gb366, 0, none⟩ = some (.slice none 0 0) := (blk_cell BK366.out 0).trans rfl; have hfz33_0 := blk_frozen BK366.out 0; have hcz34_0 : w28.cell? ⟨gb353, 0, none⟩ = some (.slice Ao26 x354000_1.length co26) := (blk_cell BK353.out 0).trans rfl; have hfz34_0 := blk_frozen BK353.out 0; have hnb35 := NB354_355.out; have hnc35 := NB355_354.out)); try go_wp2_with (first | (at_delete; refine delM_event (mb := gb354) (M := x355000_1) (kx := t357) rfl rfl rfl (by (with_reducible repeat (first | refine own_drewN ?_ _ | refine own_drew ?_ | refine own_alloc ?_ _)); refine own_far ?_ NB354_353.out _; (with_reducible repeat (first | refine own_drewN ?_ _ | refine own_drew ?_ | refine own_alloc ?_ _)); refine own_far ?_ NB354_366.out _; (with_reducible repeat (first | refine own_drewN ?_ _ | refine own_drew ?_ | refine own_alloc ?_ _)); exact BK354.out) rfl ?wk ?_; (case wk => with_reducible first | exact WK.out | exact WK18.out | exact wf_wrap64 _ | exact own_wf BK354.out WK.out); intro w_431_2 hom_ hgr_; have HM431_2 := Aside0.mk hom_; have HG431_2 := Aside0.mk hgr_; clear hom_ hgr_) | (at_delete; refine delM_event (mb := gb355) (M := x356000_1) (kx := (mget x355000_1 t357)) rfl rfl rfl (by (with_reducible repeat (first | refine own_drewN ?_ _ | refine own_drew ?_ | refine own_alloc ?_ _)); refine own_grown ?_ HG431_2.out (grown_ne NB355_354.out); (with_reducible repeat (first | refine own_drewN ?_ _ | refine own_drew ?_ | refine own_alloc ?_ _)); refine own_far ?_ NB355_353.out _; (with_reducible repeat (first | refine own_drewN ?_ _ | refine own_drew ?_ | refine own_alloc ?_ _)); refine own_far ?_ NB355_366.out _; (with_reducible repeat (first | refine own_drewN ?_ _ | refine own_drew ?_ | refine own_alloc ?_ _)); exact BK355.out) rfl ?wk ?_; (case wk => with_reducible first | exact WK.out | exact WK18.out | exact wf_wrap64 _ | exact own_wf BK354.out WK.out); intro w_431_3 hom_ hgr_; have HM431_3 := Aside0.mk hom_; have HG431_3 := Aside0.mk hgr_; clear hom_ hgr_) | (go_at_call 17; (with_reducible refine (table_Clear.calls _ _ x354000_1 t357 t362 t365 _ ?side1 ?side2 A20.out).mono ?_); (case side1 => repeat (first | exact (Kd.V_reads' HO_354000.out).2.2 | (with_reducible refine Kd.C_alloc ?_ _) | (with_reducible refine Kd.C_drewN ?_ _) | (with_reducible refine Kd.C_drew ?_))); (case side2 => exact (Kd.V_reads' HO_354000.out).2.1); rintro e w27 ⟨v363, rfl, ho0, hb⟩; have n0_ := Aside0.mk (Kd.V_below (by (with_reducible repeat (first | apply Kd.V_alloc | apply Kd.V_drewN | apply Kd.V_drew)); exact HO_354000.out) hb); have n1_ := Aside0.mk (Kd.V_lower (Kd.V_mono (ok' := fun k_ => k_ ≠ gb353 ∧ k_ ≠ gb354 ∧ k_ ≠ gb355) ho0 (fun k_ hk_ => ⟨(Kd.freshB (g := gb353) (o := .cells #[.slice Ao26 x354000_1.length co26] 24 (0, 0)) (by (with_reducible repeat (first | refine blk_drewN ?_ _ | refine blk_drew ?_ | refine blk_alloc ?_ _)); exact BK353.out) k_ hk_), (own_fresh (mb := gb354) (M := x355000_1) (by (with_reducible repeat (first | refine own_drewN ?_ _ | refine own_drew ?_ | refine own_alloc ?_ _)); exact BK354.out) k_ hk_), (own_fresh (mb := gb355) (M := x356000_1) (by (with_reducible repeat (first | refine own_drewN ?_ _ | refine own_drew ?_ | refine own_alloc ?_ _)); exact BK355.out) k_ hk_)⟩)) (below_size (by repeat (first | (with_reducible first | exact HB.out | apply below_alloc | apply pw_below_drewN | apply below_drew1 | refine below_set ?_ GE353.out | refine below_set ?_ GE354.out | refine below_set ?_ GE355.out) | exact HB.out)))); have n2_ := Aside0.mk (blk_below (g := gb353) (o := .cells #[.slice Ao26 x354000_1.length co26] 24 (0, 0)) (by (with_reducible repeat (first | refine blk_drewN ?_ _ | refine blk_drew ?_ | refine blk_alloc ?_ _)); exact BK353.out) hb); have n3_ := Aside0.mk (own_below (mb := gb354) (M := x355000_1) (by (with_reducible repeat (first | refine own_drewN ?_ _ | refine own_drew ?_ | refine own_alloc ?_ _)); exact BK354.out) hb); have n4_ := Aside0.mk (own_below (mb := gb355) (M := x356000_1) (by (with_reducible repeat (first | refine own_drewN ?_ _ | refine own_drew ?_ | refine own_alloc ?_ _)); exact BK355.out) hb); have n5_ := Aside0.mk (below_step (by repeat (first | (with_reducible first | exact HB.out | apply below_alloc | apply pw_below_drewN | apply below_drew1 | refine below_set ?_ GE353.out | refine below_set ?_ GE354.out | refine below_set ?_ GE355.out) | exact HB.out)) hb); clear HO_354000; clear BK353; clear BK354; clear BK355; clear HB; have HO_354000 := n0_; have HO364 := n1_; have BK353 := n2_; have BK354 := n3_; have BK355 := n4_; have HB := n5_; clear n0_ n1_ n2_ n3_ n4_ n5_; (try clear hb); (try clear hb2); (try clear hk); (try clear hi); (try clear ho0)) | ((with_reducible refine gate_dst (N := 11) rfl ?_); refine box_event ?hg (N := 11) ?hd (cs := #[.slice none 0 0]) (t := 24) ?hr ?_; (case hd => rfl); (case hg => rfl); (case hr => first | (go_simp; done) | (go_simp; rfl)); intro gb366 hg w28 hbox hb; have n0_ := Aside0.mk (Kd.V_below (Kd.V_elderB (by (with_reducible repeat (first | apply Kd.V_alloc | apply Kd.V_drewN | apply Kd.V_drew)); exact HO_354000.out) gb366 (Nat.le_of_eq hg.symm)) hb); have n1_ := Aside0.mk (Kd.V_below (Kd.V_elderB (by (with_reducible repeat (first | apply Kd.V_alloc | apply Kd.V_drewN | apply Kd.V_drew)); exact HO364.out) gb366 (Nat.le_of_eq hg.symm)) hb); have n2_ := Aside0.mk (blk_below (g := gb353) (o := .cells #[.slice Ao26 x354000_1.length co26] 24 (0, 0)) (by (with_reducible repeat (first | refine blk_drewN ?_ _ | refine blk_drew ?_ | refine blk_alloc ?_ _)); exact BK353.out) hb); have n3_ := Aside0.mk (own_below (mb := gb354) (M := x355000_1) (by (with_reducible repeat (first | refine own_drewN ?_ _ | refine own_drew ?_ | refine own_alloc ?_ _)); exact BK354.out) hb); have n4_ := Aside0.mk (own_below (mb := gb355) (M := x356000_1) (by (with_reducible repeat (first | refine own_drewN ?_ _ | refine own_drew ?_ | refine own_alloc ?_ _)); exact BK355.out) hb); have n5_ := Aside0.mk (below_step (by repeat (first | (with_reducible first | exact HB.out | apply below_alloc | apply pw_below_drewN | apply below_drew1 | refine below_set ?_ GE353.out | refine below_set ?_ GE354.out | refine below_set ?_ GE355.out) | exact HB.out)) hb); have n6_ := Aside0.mk (hbox); have n7_ := Aside0.mk ((by rw [hg]; exact (below_size (by repeat (first | (with_reducible first | exact HB.out | apply below_alloc | apply pw_below_drewN | apply below_drew1 | refine below_set ?_ GE353.out | refine below_set ?_ GE354.out | refine below_set ?_ GE355.out) | exact HB.out))) : w.heap.size ≤ gb366)); have n8_ := Aside0.mk ((by rw [hg]; exact (below_size (by repeat (first | (with_reducible first | exact HB.out | apply below_alloc | apply pw_below_drewN | apply below_drew1 | refine below_set ?_ GE353.out | refine below_set ?_ GE354.out | refine below_set ?_ GE355.out) | exact HB.out))) : w.heap.size ≤ gb366)); have n9_ := Aside0.mk ((by rw [hg]; exact Nat.ne_of_lt (blk_lt (g := gb353) (o := .cells #[.slice Ao26 x354000_1.length co26] 24 (0, 0)) (by (with_reducible repeat (first | refine blk_drewN ?_ _ | refine blk_drew ?_ | refine blk_alloc ?_ _)); exact BK353.out)) : gb353 ≠ gb366)); have n10_ := Aside0.mk ((by rw [hg]; exact Nat.ne_of_gt (blk_lt (g := gb353) (o := .cells #[.slice Ao26 x354000_1.length co26] 24 (0, 0)) (by (with_reducible repeat (first | refine blk_drewN ?_ _ | refine blk_drew ?_ | refine blk_alloc ?_ _)); exact BK353.out)) : gb366 ≠ gb353)); have n11_ := Aside0.mk ((by rw [hg]; exact Nat.ne_of_lt (own_lt (mb := gb354) (M := x355000_1) (by (with_reducible repeat (first | refine own_drewN ?_ _ | refine own_drew ?_ | refine own_alloc ?_ _)); exact BK354.out)) : gb354 ≠ gb366)); have n12_ := Aside0.mk ((by rw [hg]; exact Nat.ne_of_gt (own_lt (mb := gb354) (M := x355000_1) (by (with_reducible repeat (first | refine own_drewN ?_ _ | refine own_drew ?_ | refine own_alloc ?_ _)); exact BK354.out)) : gb366 ≠ gb354)); have n13_ := Aside0.mk ((by rw [hg]; exact Nat.ne_of_lt (own_lt (mb := gb355) (M := x356000_1) (by (with_reducible repeat (first | refine own_drewN ?_ _ | refine own_drew ?_ | refine own_alloc ?_ _)); exact BK355.out)) : gb355 ≠ gb366)); have n14_ := Aside0.mk ((by rw [hg]; exact Nat.ne_of_gt (own_lt (mb := gb355) (M := x356000_1) (by (with_reducible repeat (first | refine own_drewN ?_ _ | refine own_drew ?_ | refine own_alloc ?_ _)); exact BK355.out)) : gb366 ≠ gb355)); clear HO_354000; clear HO364; clear BK353; clear BK354; clear BK355; clear HB; have HO_354000 := n0_; have HO364 := n1_; have BK353 := n2_; have BK354 := n3_; have BK355 := n4_; have HB := n5_; have BK366 := n6_; have GW366 := n7_; have GE366 := n8_; have NB353_366 := n9_; have NB366_353 := n10_; have NB354_366 := n11_; have NB366_354 := n12_; have NB355_366 := n13_; have NB366_355 := n14_; clear n0_ n1_ n2_ n3_ n4_ n5_ n6_ n7_ n8_ n9_ n10_ n11_ n12_ n13_ n14_; clear hb hbox hg; obtain ⟨Ao29, co29, eo29⟩ := Kd.V_slice HO364.out; subst eo29; have hnb30 := NB366_353.out; have hnc30 := NB353_366.out; have hnb31 := NB366_354.out; have hnc31 := NB354_366.out; have hnb32 := NB366_355.out; have hnc32 := NB355_366.out; have hcz33_0 : w28.cell? ⟨gb366, 0, none⟩ = some (.slice none 0 0) := (blk_cell BK366.out 0).trans rfl; have hfz33_0 := blk_frozen BK366.out 0; have hcz34_0 : w28.cell? ⟨gb353, 0, none⟩ = some (.slice Ao26 x354000_1.length co26) := (blk_cell BK353.out 0).trans rfl; have hfz34_0 := blk_frozen BK353.out 0; have hnb35 := NB354_355.out; have hnc35 := NB355_354.out)))
                      go_meet
                      case rel => exact ⟨_, (t362), (mdel x355000_1 t357), (mdel x356000_1 (mget x355000_1 t357)), (.slice Ao29 t362.length co29), H', ⟨by have := HK1.out; first | omega | exact Nat.le_refl _⟩, ⟨by (with_reducible repeat (first | apply Kd.V_alloc | apply Kd.V_drewN | apply Kd.V_drew)); exact Kd.V_mono (Kd.V_grown (Kd.V_grown (Kd.V_far (p := ⟨gb353, 0, none⟩) (Kd.V_far (p := ⟨gb366, 0, none⟩) (Kd.V_mono (Kd.V_mono (Kd.V_mono (Kd.V_mono HO364.out (fun k_ hk => (⟨hk, hk.2⟩ : _ ∧ k_ ≠ gb366))) (fun k_ hk => (⟨hk, hk.1.1.1⟩ : _ ∧ k_ ≠ gb353))) (fun k_ hk => (⟨hk, hk.1.1.1.2.1⟩ : _ ∧ k_ ≠ gb354))) (fun k_ hk => (⟨hk, hk.1.1.1.1.2.2⟩ : _ ∧ k_ ≠ gb355))) (fun _ hk => hk.1.1.1.2) (.slice Ao29 t362.length co29)) (fun _ hk => hk.1.1.2) (.slice Ao29 t362.length co29)) HG431_2.out (fun k_ hk_ => grown_ne ((fun _ hk => hk.1.2) k_ hk_))) HG431_3.out (fun k_ hk_ => grown_ne ((fun _ hk => hk.2) k_ hk_))) (fun _ hk => ⟨hk.1.1.1.1.1.1, ⟨hk.1.1.1.1.1.2.1, hk.1.1.1.1.1.2.2⟩⟩)⟩, ⟨by (with_reducible repeat (first | refine blk_drewN ?_ _ | refine blk_drew ?_ | refine blk_alloc ?_ _)); refine blk_grown ?_ HG431_3.out (grown_ne NB353_355.out); (with_reducible repeat (first | refine blk_drewN ?_ _ | refine blk_drew ?_ | refine blk_alloc ?_ _)); refine blk_grown ?_ HG431_2.out (grown_ne NB353_354.out); (with_reducible repeat (first | refine blk_drewN ?_ _ | refine blk_drew ?_ | refine blk_alloc ?_ _)); refine blk_put (cs := #[.slice Ao26 x354000_1.length co26]) ?_ 0 _ rfl; (with_reducible repeat (first | refine blk_drewN ?_ _ | refine blk_drew ?_ | refine blk_alloc ?_ _)); refine blk_far ?_ NB353_366.out _; (with_reducible repeat (first | refine blk_drewN ?_ _ | refine blk_drew ?_ | refine blk_alloc ?_ _)); exact BK353.out⟩, ⟨by (with_reducible repeat (first | refine own_drewN ?_ _ | refine own_drew ?_ | refine own_alloc ?_ _)); refine own_grown ?_ HG431_3.out (grown_ne NB354_355.out); (with_reducible repeat (first | refine own_drewN ?_ _ | refine own_drew ?_ | refine own_alloc ?_ _)); exact HM431_2.out⟩, ⟨by (with_reducible repeat (first | refine own_drewN ?_ _ | refine own_drew ?_ | refine own_alloc ?_ _)); exact HM431_3.out⟩, ⟨by repeat (first | (with_reducible first | exact HB.out | apply below_alloc | apply pw_below_drewN | apply below_drew1 | refine below_set ?_ GE353.out | refine below_set ?_ GE366.out | refine below_grown ?_ HG431_2.out GE354.out | refine below_grown ?_ HG431_3.out GE355.out) | exact HB.out)⟩⟩
                    · rw [if_neg c22] at H
                      have c22b0 : (t365 == 0) = false := beq_eq_false_iff_ne.mpr c22
                      obtain rfl : b10 = false := by have h_ := c21b2; rw [c22b0] at h_; simpa using h_
                      have c22b1 : (t365 != 0) = true := bne_iff_ne.mpr c22
                      have H' := Aside0.mk H
                      clear H
                      have hnb38 := NB353_354.out
                      have hnc38 := NB354_353.out
                      have hnb39 := NB353_355.out
                      have hnc39 := NB355_353.out
                      have hcz40_0 : wr.cell? ⟨gb353, 0, none⟩ = some (u354000) := (blk_cell BK353.out 0).trans rfl
                      have hfz40_0 := blk_frozen BK353.out 0
                      obtain ⟨Ao41, co41, eo41⟩ := Kd.V_slice HO_354000.out
                      subst eo41
                      go_wp2_with (first | (go_at_call 17; (with_reducible refine (table_Clear.calls _ _ x354000_1 t357 t362 t365 _ ?side1 ?side2 A20.out).mono ?_); (case side1 => repeat (first | exact (Kd.V_reads' HO_354000.out).2.2 | (with_reducible refine Kd.C_alloc ?_ _) | (with_reducible refine Kd.C_drewN ?_ _) | (with_reducible refine Kd.C_drew ?_))); (case side2 => exact (Kd.V_reads' HO_354000.out).2.1); rintro e w42 ⟨v363, rfl, ho0, hb⟩; have n0_ := Aside0.mk (Kd.V_below (by (with_reducible repeat (first | apply Kd.V_alloc | apply Kd.V_drewN | apply Kd.V_drew)); exact HO_354000.out) hb); have n1_ := Aside0.mk (Kd.V_lower (Kd.V_mono (ok' := fun k_ => k_ ≠ gb353 ∧ k_ ≠ gb354 ∧ k_ ≠ gb355) ho0 (fun k_ hk_ => ⟨(Kd.freshB (g := gb353) (o := .cells #[.slice Ao41 x354000_1.length co41] 24 (0, 0)) (by (with_reducible repeat (first | refine blk_drewN ?_ _ | refine blk_drew ?_ | refine blk_alloc ?_ _)); exact BK353.out) k_ hk_), (own_fresh (mb := gb354) (M := x355000_1) (by (with_reducible repeat (first | refine own_drewN ?_ _ | refine own_drew ?_ | refine own_alloc ?_ _)); exact BK354.out) k_ hk_), (own_fresh (mb := gb355) (M := x356000_1) (by (with_reducible repeat (first | refine own_drewN ?_ _ | refine own_drew ?_ | refine own_alloc ?_ _)); exact BK355.out) k_ hk_)⟩)) (below_size (by repeat (first | (with_reducible first | exact HB.out | apply below_alloc | apply pw_below_drewN | apply below_drew1 | refine below_set ?_ GE353.out | refine below_set ?_ GE354.out | refine below_set ?_ GE355.out) | exact HB.out)))); have n2_ := Aside0.mk (blk_below (g := gb353) (o := .cells #[.slice Ao41 x354000_1.length co41] 24 (0, 0)) (by (with_reducible repeat (first | refine blk_drewN ?_ _ | refine blk_drew ?_ | refine blk_alloc ?_ _)); exact BK353.out) hb); have n3_ := Aside0.mk (own_below (mb := gb354) (M := x355000_1) (by (with_reducible repeat (first | refine own_drewN ?_ _ | refine own_drew ?_ | refine own_alloc ?_ _)); exact BK354.out) hb); have n4_ := Aside0.mk (own_below (mb := gb355) (M := x356000_1) (by (with_reducible repeat (first | refine own_drewN ?_ _ | refine own_drew ?_ | refine own_alloc ?_ _)); exact BK355.out) hb); have n5_ := Aside0.mk (below_step (by repeat (first | (with_reducible first | exact HB.out | apply below_alloc | apply pw_below_drewN | apply below_drew1 | refine below_set ?_ GE353.out | refine below_set ?_ GE354.out | refine below_set ?_ GE355.out) | exact HB.out)) hb); clear HO_354000; clear BK353; clear BK354; clear BK355; clear HB; have HO_354000 := n0_; have HO364 := n1_; have BK353 := n2_; have BK354 := n3_; have BK355 := n4_; have HB := n5_; clear n0_ n1_ n2_ n3_ n4_ n5_; (try clear hb); (try clear hb2); (try clear hk); (try clear hi); (try clear ho0)) | ((with_reducible refine gate_dst (N := 11) rfl ?_); refine box_event ?hg (N := 11) ?hd (cs := #[.slice none 0 0]) (t := 24) ?hr ?_; (case hd => rfl); (case hg => rfl); (case hr => first | (go_simp; done) | (go_simp; rfl)); intro gb366 hg w43 hbox hb; have n0_ := Aside0.mk (Kd.V_below (Kd.V_elderB (by (with_reducible repeat (first | apply Kd.V_alloc | apply Kd.V_drewN | apply Kd.V_drew)); exact HO_354000.out) gb366 (Nat.le_of_eq hg.symm)) hb); have n1_ := Aside0.mk (Kd.V_below (Kd.V_elderB (by (with_reducible repeat (first | apply Kd.V_alloc | apply Kd.V_drewN | apply Kd.V_drew)); exact HO364.out) gb366 (Nat.le_of_eq hg.symm)) hb); have n2_ := Aside0.mk (blk_below (g := gb353) (o := .cells #[.slice Ao41 x354000_1.length co41] 24 (0, 0)) (by (with_reducible repeat (first | refine blk_drewN ?_ _ | refine blk_drew ?_ | refine blk_alloc ?_ _)); exact BK353.out) hb); have n3_ := Aside0.mk (own_below (mb := gb354) (M := x355000_1) (by (with_reducible repeat (first | refine own_drewN ?_ _ | refine own_drew ?_ | refine own_alloc ?_ _)); exact BK354.out) hb); have n4_ := Aside0.mk (own_below (mb := gb355) (M := x356000_1) (by (with_reducible repeat (first | refine own_drewN ?_ _ | refine own_drew ?_ | refine own_alloc ?_ _)); exact BK355.out) hb); have n5_ := Aside0.mk (below_step (by repeat (first | (with_reducible first | exact HB.out | apply below_alloc | apply pw_below_drewN | apply below_drew1 | refine below_set ?_ GE353.out | refine below_set ?_ GE354.out | refine below_set ?_ GE355.out) | exact HB.out)) hb); have n6_ := Aside0.mk (hbox); have n7_ := Aside0.mk ((by rw [hg]; exact (below_size (by repeat (first | (with_reducible first | exact HB.out | apply below_alloc | apply pw_below_drewN | apply below_drew1 | refine below_set ?_ GE353.out | refine below_set ?_ GE354.out | refine below_set ?_ GE355.out) | exact HB.out))) : w.heap.size ≤ gb366)); have n8_ := Aside0.mk ((by rw [hg]; exact (below_size (by repeat (first | (with_reducible first | exact HB.out | apply below_alloc | apply pw_below_drewN | apply below_drew1 | refine below_set ?_ GE353.out | refine below_set ?_ GE354.out | refine below_set ?_ GE355.out) | exact HB.out))) : w.heap.size ≤ gb366)); have n9_ := Aside0.mk ((by rw [hg]; exact Nat.ne_of_lt (blk_lt (g := gb353) (o := .cells #[.slice Ao41 x354000_1.length co41] 24 (0, 0)) (by (with_reducible repeat (first | refine blk_drewN ?_ _ | refine blk_drew ?_ | refine blk_alloc ?_ _)); exact BK353.out)) : gb353 ≠ gb366)); have n10_ := Aside0.mk ((by rw [hg]; exact Nat.ne_of_gt (blk_lt (g := gb353) (o := .cells #[.slice Ao41 x354000_1.length co41] 24 (0, 0)) (by (with_reducible repeat (first | refine blk_drewN ?_ _ | refine blk_drew ?_ | refine blk_alloc ?_ _)); exact BK353.out)) : gb366 ≠ gb353)); have n11_ := Aside0.mk ((by rw [hg]; exact Nat.ne_of_lt (own_lt (mb := gb354) (M := x355000_1) (by (with_reducible repeat (first | refine own_drewN ?_ _ | refine own_drew ?_ | refine own_alloc ?_ _)); exact BK354.out)) : gb354 ≠ gb366)); have n12_ := Aside0.mk ((by rw [hg]; exact Nat.ne_of_gt (own_lt (mb := gb354) (M := x355000_1) (by (with_reducible repeat (first | refine own_drewN ?_ _ | refine own_drew ?_ | refine own_alloc ?_ _)); exact BK354.out)) : gb366 ≠ gb354)); have n13_ := Aside0.mk ((by rw [hg]; exact Nat.ne_of_lt (own_lt (mb := gb355) (M := x356000_1) (by (with_reducible repeat (first | refine own_drewN ?_ _ | refine own_drew ?_ | refine own_alloc ?_ _)); exact BK355.out)) : gb355 ≠ gb366)); have n14_ := Aside0.mk ((by rw [hg]; exact Nat.ne_of_gt (own_lt (mb := gb355) (M := x356000_1) (by (with_reducible repeat (first | refine own_drewN ?_ _ | refine own_drew ?_ | refine own_alloc ?_ _)); exact BK355.out)) : gb366 ≠ gb355)); clear HO_354000; clear HO364; clear BK353; clear BK354; clear BK355; clear HB; have HO_354000 := n0_; have HO364 := n1_; have BK353 := n2_; have BK354 := n3_; have BK355 := n4_; have HB := n5_; have BK366 := n6_; have GW366 := n7_; have GE366 := n8_; have NB353_366 := n9_; have NB366_353 := n10_; have NB354_366 := n11_; have NB366_354 := n12_; have NB355_366 := n13_; have NB366_355 := n14_; clear n0_ n1_ n2_ n3_ n4_ n5_ n6_ n7_ n8_ n9_ n10_ n11_ n12_ n13_ n14_; clear hb hbox hg; obtain ⟨Ao44, co44, eo44⟩ := Kd.V_slice HO364.out; subst eo44; have hnb45 := NB366_353.out; have hnc45 := NB353_366.out; have hnb46 := NB366_354.out; have hnc46 := NB354_366.out; have hnb47 := NB366_355.out; have hnc47 := NB355_366.out; have hcz48_0 : w43.cell? ⟨gb366, 0, none⟩ = some (.slice none 0 0) := (blk_cell BK366.out 0).trans rfl; have hfz48_0 := blk_frozen BK366.out 0))
                      repeat (go_quiet (first | (go_at_call 17; (with_reducible refine (table_Clear.calls _ _ x354000_1 t357 t362 t365 _ ?side1 ?side2 A20.out).mono ?_); (case side1 => repeat (first | exact (Kd.V_reads' HO_354000.out).2.2 | (with_reducible refine Kd.C_alloc ?_ _) | (with_reducible refine Kd.C_drewN ?_ _) | (with_reducible refine Kd.C_drew ?_))); (case side2 => exact (Kd.V_reads' HO_354000.out).2.1); rintro e w42 ⟨v363, rfl, ho0, hb⟩; have n0_ := Aside0.mk (Kd.V_below (by (with_reducible repeat (first | apply Kd.V_alloc | apply Kd.V_drewN | apply Kd.V_drew)); exact HO_354000.out) hb); have n1_ := Aside0.mk (Kd.V_lower (Kd.V_mono (ok' := fun k_ => k_ ≠ gb353 ∧ k_ ≠ gb354 ∧ k_ ≠ gb355) ho0 (fun k_ hk_ => ⟨(Kd.freshB (g := gb353) (o := .cells #[.slice Ao41 x354000_1.length co41] 24 (0, 0)) (by (with_reducible repeat (first | refine blk_drewN ?_ _ | refine blk_drew ?_ | refine blk_alloc ?_ _)); exact BK353.out) k_ hk_), (own_fresh (mb := gb354) (M := x355000_1) (by (with_reducible repeat (first | refine own_drewN ?_ _ | refine own_drew ?_ | refine own_alloc ?_ _)); exact BK354.out) k_ hk_), (own_fresh (mb := gb355) (M := x356000_1) (by (with_reducible repeat (first | refine own_drewN ?_ _ | refine own_drew ?_ | refine own_alloc ?_ _)); exact BK355.out) k_ hk_)⟩)) (below_size (by repeat (first | (with_reducible first | exact HB.out | apply below_alloc | apply pw_below_drewN | apply below_drew1 | refine below_set ?_ GE353.out | refine below_set ?_ GE354.out | refine below_set ?_ GE355.out) | exact HB.out)))); have n2_ := Aside0.mk (blk_below (g := gb353) (o := .cells #[.slice Ao41 x354000_1.length co41] 24 (0, 0)) (by (with_reducible repeat (first | refine blk_drewN ?_ _ | refine blk_drew ?_ | refine blk_alloc ?_ _)); exact BK353.out) hb); have n3_ := Aside0.mk (own_below (mb := gb354) (M := x355000_1) (by (with_reducible repeat (first | refine own_drewN ?_ _ | refine own_drew ?_ | refine own_alloc ?_ _)); exact BK354.out) hb); have n4_ := Aside0.mk (own_below (mb := gb355) (M := x356000_1) (by (with_reducible repeat (first | refine own_drewN ?_ _ | refine own_drew ?_ | refine own_alloc ?_ _)); exact BK355.out) hb); have n5_ := Aside0.mk (below_step (by repeat (first | (with_reducible first | exact HB.out | apply below_alloc | apply pw_below_drewN | apply below_drew1 | refine below_set ?_ GE353.out | refine below_set ?_ GE354.out | refine below_set ?_ GE355.out) | exact HB.out)) hb); clear HO_354000; clear BK353; clear BK354; clear BK355; clear HB; have HO_354000 := n0_; have HO364 := n1_; have BK353 := n2_; have BK354 := n3_; have BK355 := n4_; have HB := n5_; clear n0_ n1_ n2_ n3_ n4_ n5_; (try clear hb); (try clear hb2); (try clear hk); (try clear hi); (try clear ho0)) | ((with_reducible refine gate_dst (N := 11) rfl ?_); refine box_event ?hg (N := 11) ?hd (cs := #[.slice none 0 0]) (t := 24) ?hr ?_; (case hd => rfl); (case hg => rfl); (case hr => first | (go_simp; done) | (go_simp; rfl)); intro gb366 hg w43 hbox hb; have n0_ := Aside0.mk (Kd.V_below (Kd.V_elderB (by (with_reducible repeat (first | apply Kd.V_alloc | apply Kd.V_drewN | apply Kd.V_drew)); exact HO_354000.out) gb366 (Nat.le_of_eq hg.symm)) hb); have n1_ := Aside0.mk (Kd.V_below (Kd.V_elderB (by (with_reducible repeat (first | apply Kd.V_alloc | apply Kd.V_drewN | apply Kd.V_drew)); exact HO364.out) gb366 (Nat.le_of_eq hg.symm)) hb); have n2_ := Aside0.mk (blk_below (g := gb353) (o := .cells #[.slice Ao41 x354000_1.length co41] 24 (0, 0)) (by (with_reducible repeat (first | refine blk_drewN ?_ _ | refine blk_drew ?_ | refine blk_alloc ?_ _)); exact BK353.out) hb); have n3_ := Aside0.mk (own_below (mb := gb354) (M := x355000_1) (by (with_reducible repeat (first | refine own_drewN ?_ _ | refine own_drew ?_ | refine own_alloc ?_ _)); exact BK354.out) hb); have n4_ := Aside0.mk (own_below (mb := gb355) (M := x356000_1) (by (with_reducible repeat (first | refine own_drewN ?_ _ | refine own_drew ?_ | refine own_alloc ?_ _)); exact BK355.out) hb); have n5_ := Aside0.mk (below_step (by repeat (first | (with_reducible first | exact HB.out | apply below_alloc | apply pw_below_drewN | apply below_drew1 | refine below_set ?_ GE353.out | refine below_set ?_ GE354.out | refine below_set ?_ GE355.out) | exact HB.out)) hb); have n6_ := Aside0.mk (hbox); have n7_ := Aside0.mk ((by rw [hg]; exact (below_size (by repeat (first | (with_reducible first | exact HB.out | apply below_alloc | apply pw_below_drewN | apply below_drew1 | refine below_set ?_ GE353.out | refine below_set ?_ GE354.out | refine below_set ?_ GE355.out) | exact HB.out))) : w.heap.size ≤ gb366)); have n8_ := Aside0.mk ((by rw [hg]; exact (below_size (by repeat (first | (with_reducible first | exact HB.out | apply below_alloc | apply pw_below_drewN | apply below_drew1 | refine below_set ?_ GE353.out | refine below_set ?_ GE354.out | refine below_set ?_ GE355.out) | exact HB.out))) : w.heap.size ≤ gb366)); have n9_ := Aside0.mk ((by rw [hg]; exact Nat.ne_of_lt (blk_lt (g := gb353) (o := .cells #[.slice Ao41 x354000_1.length co41] 24 (0, 0)) (by (with_reducible repeat (first | refine blk_drewN ?_ _ | refine blk_drew ?_ | refine blk_alloc ?_ _)); exact BK353.out)) : gb353 ≠ gb366)); have n10_ := Aside0.mk ((by rw [hg]; exact Nat.ne_of_gt (blk_lt (g := gb353) (o := .cells #[.slice Ao41 x354000_1.length co41] 24 (0, 0)) (by (with_reducible repeat (first | refine blk_drewN ?_ _ | refine blk_drew ?_ | refine blk_alloc ?_ _)); exact BK353.out)) : gb366 ≠ gb353)); have n11_ := Aside0.mk ((by rw [hg]; exact Nat.ne_of_lt (own_lt (mb := gb354) (M := x355000_1) (by (with_reducible repeat (first | refine own_drewN ?_ _ | refine own_drew ?_ | refine own_alloc ?_ _)); exact BK354.out)) : gb354 ≠ gb366)); have n12_ := Aside0.mk ((by rw [hg]; exact Nat.ne_of_gt (own_lt (mb := gb354) (M := x355000_1) (by (with_reducible repeat (first | refine own_drewN ?_ _ | refine own_drew ?_ | refine own_alloc ?_ _)); exact BK354.out)) : gb366 ≠ gb354)); have n13_ := Aside0.mk ((by rw [hg]; exact Nat.ne_of_lt (own_lt (mb := gb355) (M := x356000_1) (by (with_reducible repeat (first | refine own_drewN ?_ _ | refine own_drew ?_ | refine own_alloc ?_ _)); exact BK355.out)) : gb355 ≠ gb366)); have n14_ := Aside0.mk ((by rw [hg]; exact Nat.ne_of_gt (own_lt (mb := gb355) (M := x356000_1) (by (with_reducible repeat (first | refine own_drewN ?_ _ | refine own_drew ?_ | refine own_alloc ?_ _)); exact BK355.out)) : gb366 ≠ gb355)); clear HO_354000; clear HO364; clear BK353; clear BK354; clear BK355; clear HB; have HO_354000 := n0_; have HO364 := n1_; have BK353 := n2_; have BK354 := n3_; have BK355 := n4_; have HB := n5_; have BK366 := n6_; have GW366 := n7_; have GE366 := n8_; have NB353_366 := n9_; have NB366_353 := n10_; have NB354_366 := n11_; have NB366_354 := n12_; have NB355_366 := n13_; have NB366_355 := n14_; clear n0_ n1_ n2_ n3_ n4_ n5_ n6_ n7_ n8_ n9_ n10_ n11_ n12_ n13_ n14_; clear hb hbox hg; obtain ⟨Ao44, co44, eo44⟩ := Kd.V_slice HO364.out; subst eo44; have hnb45 := NB366_353.out; have hnc45 := NB353_366.out; have hnb46 := NB366_354.out; have hnc46 := NB354_366.out; have hnb47 := NB366_355.out; have hnc47 := NB355_366.out; have hcz48_0 : w43.cell? ⟨gb366, 0, none⟩ = some (.slice none 0 0) := (blk_cell BK366.out 0).trans rfl; have hfz48_0 := blk_frozen BK366.out 0)); try go_wp2_with (first | (go_at_call 17; (with_reducible refine (table_Clear.calls _ _ x354000_1 t357 t362 t365 _ ?side1 ?side2 A20.out).mono ?_); (case side1 => repeat (first | exact (Kd.V_reads' HO_354000.out).2.2 | (with_reducible refine Kd.C_alloc ?_ _) | (with_reducible refine Kd.C_drewN ?_ _) | (with_reducible refine Kd.C_drew ?_))); (case side2 => exact (Kd.V_reads' HO_354000.out).2.1); rintro e w42 ⟨v363, rfl, ho0, hb⟩; have n0_ := Aside0.mk (Kd.V_below (by (with_reducible repeat (first | apply Kd.V_alloc | apply Kd.V_drewN | apply Kd.V_drew)); exact HO_354000.out) hb); have n1_ := Aside0.mk (Kd.V_lower (Kd.V_mono (ok' := fun k_ => k_ ≠ gb353 ∧ k_ ≠ gb354 ∧ k_ ≠ gb355) ho0 (fun k_ hk_ => ⟨(Kd.freshB (g := gb353) (o := .cells #[.slice Ao41 x354000_1.length co41] 24 (0, 0)) (by (with_reducible repeat (first | refine blk_drewN ?_ _ | refine blk_drew ?_ | refine blk_alloc ?_ _)); exact BK353.out) k_ hk_), (own_fresh (mb := gb354) (M := x355000_1) (by (with_reducible repeat (first | refine own_drewN ?_ _ | refine own_drew ?_ | refine own_alloc ?_ _)); exact BK354.out) k_ hk_), (own_fresh (mb := gb355) (M := x356000_1) (by (with_reducible repeat (first | refine own_drewN ?_ _ | refine own_drew ?_ | refine own_alloc ?_ _)); exact BK355.out) k_ hk_)⟩)) (below_size (by repeat (first | (with_reducible first | exact HB.out | apply below_alloc | apply pw_below_drewN | apply below_drew1 | refine below_set ?_ GE353.out | refine below_set ?_ GE354.out | refine below_set ?_ GE355.out) | exact HB.out)))); have n2_ := Aside0.mk (blk_below (g := gb353) (o := .cells #[.slice Ao41 x354000_1.length co41] 24 (0, 0)) (by (with_reducible repeat (first | refine blk_drewN ?_ _ | refine blk_drew ?_ | refine blk_alloc ?_ _)); exact BK353.out) hb); have n3_ := Aside0.mk (own_below (mb := gb354) (M := x355000_1) (by (with_reducible repeat (first | refine own_drewN ?_ _ | refine own_drew ?_ | refine own_alloc ?_ _)); exact BK354.out) hb); have n4_ := Aside0.mk (own_below (mb := gb355) (M := x356000_1) (by (with_reducible repeat (first | refine own_drewN ?_ _ | refine own_drew ?_ | refine own_alloc ?_ _)); exact BK355.out) hb); have n5_ := Aside0.mk (below_step (by repeat (first | (with_reducible first | exact HB.out | apply below_alloc | apply pw_below_drewN | apply below_drew1 | refine below_set ?_ GE353.out | refine below_set ?_ GE354.out | refine below_set ?_ GE355.out) | exact HB.out)) hb); clear HO_354000; clear BK353; clear BK354; clear BK355; clear HB; have HO_354000 := n0_; have HO364 := n1_; have BK353 := n2_; have BK354 := n3_; have BK355 := n4_; have HB := n5_; clear n0_ n1_ n2_ n3_ n4_ n5_; (try clear hb); (try clear hb2); (try clear hk); (try clear hi); (try clear ho0)) | ((with_reducible refine gate_dst (N := 11) rfl ?_); refine box_event ?hg (N := 11) ?hd (cs := #[.slice none 0 0]) (t := 24) ?hr ?_; (case hd => rfl); (case hg => rfl); (case hr => first | (go_simp; done) | (go_simp; rfl)); intro gb366 hg w43 hbox hb; have n0_ := Aside0.mk (Kd.V_below (Kd.V_elderB (by (with_reducible repeat (first | apply Kd.V_alloc | apply Kd.V_drewN | apply Kd.V_drew)); exact HO_354000.out) gb366 (Nat.le_of_eq hg.symm)) hb); have n1_ := Aside0.mk (Kd.V_below (Kd.V_elderB (by (with_reducible repeat (first | apply Kd.V_alloc | apply Kd.V_drewN | apply Kd.V_drew)); exact HO364.out) gb366 (Nat.le_of_eq hg.symm)) hb); have n2_ := Aside0.mk (blk_below (g := gb353) (o := .cells #[.slice Ao41 x354000_1.length co41] 24 (0, 0)) (by (with_reducible repeat (first | refine blk_drewN ?_ _ | refine blk_drew ?_ | refine blk_alloc ?_ _)); exact BK353.out) hb); have n3_ := Aside0.mk (own_below (mb := gb354) (M := x355000_1) (by (with_reducible repeat (first | refine own_drewN ?_ _ | refine own_drew ?_ | refine own_alloc ?_ _)); exact BK354.out) hb); have n4_ := Aside0.mk (own_below (mb := gb355) (M := x356000_1) (by (with_reducible repeat (first | refine own_drewN ?_ _ | refine own_drew ?_ | refine own_alloc ?_ _)); exact BK355.out) hb); have n5_ := Aside0.mk (below_step (by repeat (first | (with_reducible first | exact HB.out | apply below_alloc | apply pw_below_drewN | apply below_drew1 | refine below_set ?_ GE353.out | refine below_set ?_ GE354.out | refine below_set ?_ GE355.out) | exact HB.out)) hb); have n6_ := Aside0.mk (hbox); have n7_ := Aside0.mk ((by rw [hg]; exact (below_size (by repeat (first | (with_reducible first | exact HB.out | apply below_alloc | apply pw_below_drewN | apply below_drew1 | refine below_set ?_ GE353.out | refine below_set ?_ GE354.out | refine below_set ?_ GE355.out) | exact HB.out))) : w.heap.size ≤ gb366)); have n8_ := Aside0.mk ((by rw [hg]; exact (below_size (by repeat (first | (with_reducible first | exact HB.out | apply below_alloc | apply pw_below_drewN | apply below_drew1 | refine below_set ?_ GE353.out | refine below_set ?_ GE354.out | refine below_set ?_ GE355.out) | exact HB.out))) : w.heap.size ≤ gb366)); have n9_ := Aside0.mk ((by rw [hg]; exact Nat.ne_of_lt (blk_lt (g := gb353) (o := .cells #[.slice Ao41 x354000_1.length co41] 24 (0, 0)) (by (with_reducible repeat (first | refine blk_drewN ?_ _ | refine blk_drew ?_ | refine blk_alloc ?_ _)); exact BK353.out)) : gb353 ≠ gb366)); have n10_ := Aside0.mk ((by rw [hg]; exact Nat.ne_of_gt (blk_lt (g := gb353) (o := .cells #[.slice Ao41 x354000_1.length co41] 24 (0, 0)) (by (with_reducible repeat (first | refine blk_drewN ?_ _ | refine blk_drew ?_ | refine blk_alloc ?_ _)); exact BK353.out)) : gb366 ≠ gb353)); have n11_ := Aside0.mk ((by rw [hg]; exact Nat.ne_of_lt (own_lt (mb := gb354) (M := x355000_1) (by (with_reducible repeat (first | refine own_drewN ?_ _ | refine own_drew ?_ | refine own_alloc ?_ _)); exact BK354.out)) : gb354 ≠ gb366)); have n12_ := Aside0.mk ((by rw [hg]; exact Nat.ne_of_gt (own_lt (mb := gb354) (M := x355000_1) (by (with_reducible repeat (first | refine own_drewN ?_ _ | refine own_drew ?_ | refine own_alloc ?_ _)); exact BK354.out)) : gb366 ≠ gb354)); have n13_ := Aside0.mk ((by rw [hg]; exact Nat.ne_of_lt (own_lt (mb := gb355) (M := x356000_1) (by (with_reducible repeat (first | refine own_drewN ?_ _ | refine own_drew ?_ | refine own_alloc ?_ _)); exact BK355.out)) : gb355 ≠ gb366)); have n14_ := Aside0.mk ((by rw [hg]; exact Nat.ne_of_gt (own_lt (mb := gb355) (M := x356000_1) (by (with_reducible repeat (first | refine own_drewN ?_ _ | refine own_drew ?_ | refine own_alloc ?_ _)); exact BK355.out)) : gb366 ≠ gb355)); clear HO_354000; clear HO364; clear BK353; clear BK354; clear BK355; clear HB; have HO_354000 := n0_; have HO364 := n1_; have BK353 := n2_; have BK354 := n3_; have BK355 := n4_; have HB := n5_; have BK366 := n6_; have GW366 := n7_; have GE366 := n8_; have NB353_366 := n9_; have NB366_353 := n10_; have NB354_366 := n11_; have NB366_354 := n12_; have NB355_366 := n13_; have NB366_355 := n14_; clear n0_ n1_ n2_ n3_ n4_ n5_ n6_ n7_ n8_ n9_ n10_ n11_ n12_ n13_ n14_; clear hb hbox hg; obtain ⟨Ao44, co44, eo44⟩ := Kd.V_slice HO364.out; subst eo44; have hnb45 := NB366_353.out; have hnc45 := NB353_366.out; have hnb46 := NB366_354.out; have hnc46 := NB354_366.out; have hnb47 := NB366_355.out; have hnc47 := NB355_366.out; have hcz48_0 : w43.cell? ⟨gb366, 0, none⟩ = some (.slice none 0 0) := (blk_cell BK366.out 0).trans rfl; have hfz48_0 := blk_frozen BK366.out 0)))
                      go_meet
                      case rel => exact ⟨_, (x354000_1), (x355000_1), (x356000_1), (.slice Ao41 x354000_1.length co41), H', ⟨by have := HK1.out; first | omega | exact Nat.le_refl _⟩, ⟨by (with_reducible repeat (first | apply Kd.V_alloc | apply Kd.V_drewN | apply Kd.V_drew)); exact Kd.V_mono (Kd.V_far (p := ⟨gb366, 0, none⟩) (Kd.V_mono HO_354000.out (fun k_ hk => (⟨hk, hk.2⟩ : _ ∧ k_ ≠ gb366))) (fun _ hk => hk.2) (.slice Ao44 t362.length co44)) (fun _ hk => ⟨hk.1.1.1, ⟨hk.1.1.2.1, hk.1.1.2.2⟩⟩)⟩, ⟨by (with_reducible repeat (first | refine blk_drewN ?_ _ | refine blk_drew ?_ | refine blk_alloc ?_ _)); refine blk_far ?_ NB353_366.out _; (with_reducible repeat (first | refine blk_drewN ?_ _ | refine blk_drew ?_ | refine blk_alloc ?_ _)); exact BK353.out⟩, ⟨by (with_reducible repeat (first | refine own_drewN ?_ _ | refine own_drew ?_ | refine own_alloc ?_ _)); refine own_far ?_ NB354_366.out _; (with_reducible repeat (first | refine own_drewN ?_ _ | refine own_drew ?_ | refine own_alloc ?_ _)); exact BK354.out⟩, ⟨by (with_reducible repeat (first | refine own_drewN ?_ _ | refine own_drew ?_ | refine own_alloc ?_ _)); refine own_far ?_ NB355_366.out _; (with_reducible repeat (first | refine own_drewN ?_ _ | refine own_drew ?_ | refine own_alloc ?_ _)); exact BK355.out⟩, ⟨by repeat (first | (with_reducible first | exact HB.out | apply below_alloc | apply pw_below_drewN | apply below_drew1 | refine below_set ?_ GE353.out | refine below_set ?_ GE366.out) | exact HB.out)⟩⟩
                · rw [if_neg c19] at H
                  have c19b0 : (t361 == 2) = false := beq_eq_false_iff_ne.mpr c19
                  have c19b1 : (t361 != 2) = true := bne_iff_ne.mpr c19
                  (first | rw [c19b0] | (simp only [i64_w, i32_w]; rw [c19b0]) | skip)
                  replace H := Option.bind_eq_some_iff.mp H
                  obtain ⟨⟨t367, t370⟩, A490, H⟩ := H
                  replace H : (if b14 = true then (tallymanlaw10_TableTells.j1 k1 l0 x6_1 t357 (wrap64 (2 + t359)) (mget x355000_1 t357) b10 t370 ((t370 == 0) == ((mget x356000_1 (wrap64 (2 + t359))) != t357)) x354000_1 x355000_1 x356000_1 t367) else (tallymanlaw10_TableTells.j1 k1 l0 x6_1 t357 (wrap64 (2 + t359)) (mget x355000_1 t357) b10 t370 ((t370 == 0) == false) x354000_1 x355000_1 x356000_1 t367)) = some r := H
                  have A49 := Aside0.mk A490
                  clear A490
                  have HC50 := Aside0.mk H
                  clear H
                  have hnb51 := NB355_353.out
                  have hnc51 := NB353_355.out
                  have hnb52 := NB355_354.out
                  have hnc52 := NB354_355.out
                  have hnb54 := NB353_354.out
                  have hnc54 := NB354_353.out
                  have hcz55_0 : wr.cell? ⟨gb353, 0, none⟩ = some (u354000) := (blk_cell BK353.out 0).trans rfl
                  have hfz55_0 := blk_frozen BK353.out 0
                  obtain ⟨Ao56, co56, eo56⟩ := Kd.V_slice HO_354000.out
                  subst eo56
                  go_upto_region 22 with (first | (at_lookup; refine lookM_event (mb := gb355) (M := x356000_1) (kx := (wrap64 (2 + t359))) rfl rfl rfl (by (with_reducible repeat (first | refine own_drewN ?_ _ | refine own_drew ?_ | refine own_alloc ?_ _)); exact BK355.out) rfl ?wk ?_; (case wk => with_reducible first | exact WK.out | exact WK18.out | exact wf_wrap64 _ | exact own_wf BK354.out WK.out); (try rw [hb14])) | (go_at_call 16; (with_reducible refine (table_Set.calls k1 _ _ x354000_1 t357 (wrap64 (2 + t359)) t367 t370 _ ?side1 ?side2 A49.out).mono ?_); (case side1 => repeat (first | exact (Kd.V_reads' HO_354000.out).2.2 | (with_reducible refine Kd.C_alloc ?_ _) | (with_reducible refine Kd.C_drewN ?_ _) | (with_reducible refine Kd.C_drew ?_))); (case side2 => exact (Kd.V_reads' HO_354000.out).2.1); rintro e w57 ⟨v368, rfl, ho0, hb⟩; have n0_ := Aside0.mk (Kd.V_below (by (with_reducible repeat (first | apply Kd.V_alloc | apply Kd.V_drewN | apply Kd.V_drew)); exact HO_354000.out) hb); have n1_ := Aside0.mk (Kd.V_lower (Kd.V_mono (ok' := fun k_ => k_ ≠ gb353 ∧ k_ ≠ gb354 ∧ k_ ≠ gb355) ho0 (fun k_ hk_ => ⟨(Kd.freshB (g := gb353) (o := .cells #[.slice Ao56 x354000_1.length co56] 24 (0, 0)) (by (with_reducible repeat (first | refine blk_drewN ?_ _ | refine blk_drew ?_ | refine blk_alloc ?_ _)); exact BK353.out) k_ hk_), (own_fresh (mb := gb354) (M := x355000_1) (by (with_reducible repeat (first | refine own_drewN ?_ _ | refine own_drew ?_ | refine own_alloc ?_ _)); exact BK354.out) k_ hk_), (own_fresh (mb := gb355) (M := x356000_1) (by (with_reducible repeat (first | refine own_drewN ?_ _ | refine own_drew ?_ | refine own_alloc ?_ _)); exact BK355.out) k_ hk_)⟩)) (below_size (by repeat (first | (with_reducible first | exact HB.out | apply below_alloc | apply pw_below_drewN | apply below_drew1 | refine below_set ?_ GE353.out | refine below_set ?_ GE354.out | refine below_set ?_ GE355.out) | exact HB.out)))); have n2_ := Aside0.mk (blk_below (g := gb353) (o := .cells #[.slice Ao56 x354000_1.length co56] 24 (0, 0)) (by (with_reducible repeat (first | refine blk_drewN ?_ _ | refine blk_drew ?_ | refine blk_alloc ?_ _)); exact BK353.out) hb); have n3_ := Aside0.mk (own_below (mb := gb354) (M := x355000_1) (by (with_reducible repeat (first | refine own_drewN ?_ _ | refine own_drew ?_ | refine own_alloc ?_ _)); exact BK354.out) hb); have n4_ := Aside0.mk (own_below (mb := gb355) (M := x356000_1) (by (with_reducible repeat (first | refine own_drewN ?_ _ | refine own_drew ?_ | refine own_alloc ?_ _)); exact BK355.out) hb); have n5_ := Aside0.mk (below_step (by repeat (first | (with_reducible first | exact HB.out | apply below_alloc | apply pw_below_drewN | apply below_drew1 | refine below_set ?_ GE353.out | refine below_set ?_ GE354.out | refine below_set ?_ GE355.out) | exact HB.out)) hb); clear HO_354000; clear BK353; clear BK354; clear BK355; clear HB; have HO_354000 := n0_; have HO369 := n1_; have BK353 := n2_; have BK354 := n3_; have BK355 := n4_; have HB := n5_; clear n0_ n1_ n2_ n3_ n4_ n5_; (try clear hb); (try clear hb2); (try clear hk); (try clear hi); (try clear ho0)) | ((with_reducible refine gate_dst (N := 15) rfl ?_); refine box_event ?hg (N := 15) ?hd (cs := #[.slice none 0 0]) (t := 24) ?hr ?_; (case hd => rfl); (case hg => rfl); (case hr => first | (go_simp; done) | (go_simp; rfl)); intro gb371 hg w58 hbox hb; have n0_ := Aside0.mk (Kd.V_below (Kd.V_elderB (by (with_reducible repeat (first | apply Kd.V_alloc | apply Kd.V_drewN | apply Kd.V_drew)); exact HO_354000.out) gb371 (Nat.le_of_eq hg.symm)) hb); have n1_ := Aside0.mk (Kd.V_below (Kd.V_elderB (by (with_reducible repeat (first | apply Kd.V_alloc | apply Kd.V_drewN | apply Kd.V_drew)); exact HO369.out) gb371 (Nat.le_of_eq hg.symm)) hb); have n2_ := Aside0.mk (blk_below (g := gb353) (o := .cells #[.slice Ao56 x354000_1.length co56] 24 (0, 0)) (by (with_reducible repeat (first | refine blk_drewN ?_ _ | refine blk_drew ?_ | refine blk_alloc ?_ _)); exact BK353.out) hb); have n3_ := Aside0.mk (own_below (mb := gb354) (M := x355000_1) (by (with_reducible repeat (first | refine own_drewN ?_ _ | refine own_drew ?_ | refine own_alloc ?_ _)); exact BK354.out) hb); have n4_ := Aside0.mk (own_below (mb := gb355) (M := x356000_1) (by (with_reducible repeat (first | refine own_drewN ?_ _ | refine own_drew ?_ | refine own_alloc ?_ _)); exact BK355.out) hb); have n5_ := Aside0.mk (below_step (by repeat (first | (with_reducible first | exact HB.out | apply below_alloc | apply pw_below_drewN | apply below_drew1 | refine below_set ?_ GE353.out | refine below_set ?_ GE354.out | refine below_set ?_ GE355.out) | exact HB.out)) hb); have n6_ := Aside0.mk (hbox); have n7_ := Aside0.mk ((by rw [hg]; exact (below_size (by repeat (first | (with_reducible first | exact HB.out | apply below_alloc | apply pw_below_drewN | apply below_drew1 | refine below_set ?_ GE353.out | refine below_set ?_ GE354.out | refine below_set ?_ GE355.out) | exact HB.out))) : w.heap.size ≤ gb371)); have n8_ := Aside0.mk ((by rw [hg]; exact (below_size (by repeat (first | (with_reducible first | exact HB.out | apply below_alloc | apply pw_below_drewN | apply below_drew1 | refine below_set ?_ GE353.out | refine below_set ?_ GE354.out | refine below_set ?_ GE355.out) | exact HB.out))) : w.heap.size ≤ gb371)); have n9_ := Aside0.mk ((by rw [hg]; exact Nat.ne_of_lt (blk_lt (g := gb353) (o := .cells #[.slice Ao56 x354000_1.length co56] 24 (0, 0)) (by (with_reducible repeat (first | refine blk_drewN ?_ _ | refine blk_drew ?_ | refine blk_alloc ?_ _)); exact BK353.out)) : gb353 ≠ gb371)); have n10_ := Aside0.mk ((by rw [hg]; exact Nat.ne_of_gt (blk_lt (g := gb353) (o := .cells #[.slice Ao56 x354000_1.length co56] 24 (0, 0)) (by (with_reducible repeat (first | refine blk_drewN ?_ _ | refine blk_drew ?_ | refine blk_alloc ?_ _)); exact BK353.out)) : gb371 ≠ gb353)); have n11_ := Aside0.mk ((by rw [hg]; exact Nat.ne_of_lt (own_lt (mb := gb354) (M := x355000_1) (by (with_reducible repeat (first | refine own_drewN ?_ _ | refine own_drew ?_ | refine own_alloc ?_ _)); exact BK354.out)) : gb354 ≠ gb371)); have n12_ := Aside0.mk ((by rw [hg]; exact Nat.ne_of_gt (own_lt (mb := gb354) (M := x355000_1) (by (with_reducible repeat (first | refine own_drewN ?_ _ | refine own_drew ?_ | refine own_alloc ?_ _)); exact BK354.out)) : gb371 ≠ gb354)); have n13_ := Aside0.mk ((by rw [hg]; exact Nat.ne_of_lt (own_lt (mb := gb355) (M := x356000_1) (by (with_reducible repeat (first | refine own_drewN ?_ _ | refine own_drew ?_ | refine own_alloc ?_ _)); exact BK355.out)) : gb355 ≠ gb371)); have n14_ := Aside0.mk ((by rw [hg]; exact Nat.ne_of_gt (own_lt (mb := gb355) (M := x356000_1) (by (with_reducible repeat (first | refine own_drewN ?_ _ | refine own_drew ?_ | refine own_alloc ?_ _)); exact BK355.out)) : gb371 ≠ gb355)); clear HO_354000; clear HO369; clear BK353; clear BK354; clear BK355; clear HB; have HO_354000 := n0_; have HO369 := n1_; have BK353 := n2_; have BK354 := n3_; have BK355 := n4_; have HB := n5_; have BK371 := n6_; have GW371 := n7_; have GE371 := n8_; have NB353_371 := n9_; have NB371_353 := n10_; have NB354_371 := n11_; have NB371_354 := n12_; have NB355_371 := n13_; have NB371_355 := n14_; clear n0_ n1_ n2_ n3_ n4_ n5_ n6_ n7_ n8_ n9_ n10_ n11_ n12_ n13_ n14_; clear hb hbox hg; obtain ⟨Ao59, co59, eo59⟩ := Kd.V_slice HO369.out; subst eo59; have hnb60 := NB371_353.out; have hnc60 := NB353_371.out; have hnb61 := NB371_354.out; have hnc61 := NB354_371.out; have hnb62 := NB371_355.out; have hnc62 := NB355_371.out; have hcz63_0 : w58.cell? ⟨gb371, 0, none⟩ = some (.slice none 0 0) := (blk_cell BK371.out 0).trans rfl; have hfz63_0 := blk_frozen BK371.out 0))
                  repeat (go_quiet (first | (at_lookup; refine lookM_event (mb := gb355) (M := x356000_1) (kx := (wrap64 (2 + t359))) rfl rfl rfl (by (with_reducible repeat (first | refine own_drewN ?_ _ | refine own_drew ?_ | refine own_alloc ?_ _)); exact BK355.out) rfl ?wk ?_; (case wk => with_reducible first | exact WK.out | exact WK18.out | exact wf_wrap64 _ | exact own_wf BK354.out WK.out); (try rw [hb14])) | (go_at_call 16; (with_reducible refine (table_Set.calls k1 _ _ x354000_1 t357 (wrap64 (2 + t359)) t367 t370 _ ?side1 ?side2 A49.out).mono ?_); (case side1 => repeat (first | exact (Kd.V_reads' HO_354000.out).2.2 | (with_reducible refine Kd.C_alloc ?_ _) | (with_reducible refine Kd.C_drewN ?_ _) | (with_reducible refine Kd.C_drew ?_))); (case side2 => exact (Kd.V_reads' HO_354000.out).2.1); rintro e w57 ⟨v368, rfl, ho0, hb⟩; have n0_ := Aside0.mk (Kd.V_below (by (with_reducible repeat (first | apply Kd.V_alloc | apply Kd.V_drewN | apply Kd.V_drew)); exact HO_354000.out) hb); have n1_ := Aside0.mk (Kd.V_lower (Kd.V_mono (ok' := fun k_ => k_ ≠ gb353 ∧ k_ ≠ gb354 ∧ k_ ≠ gb355) ho0 (fun k_ hk_ => ⟨(Kd.freshB (g := gb353) (o := .cells #[.slice Ao56 x354000_1.length co56] 24 (0, 0)) (by (with_reducible repeat (first | refine blk_drewN ?_ _ | refine blk_drew ?_ | refine blk_alloc ?_ _)); exact BK353.out) k_ hk_), (own_fresh (mb := gb354) (M := x355000_1) (by (with_reducible repeat (first | refine own_drewN ?_ _ | refine own_drew ?_ | refine own_alloc ?_ _)); exact BK354.out) k_ hk_), (own_fresh (mb := gb355) (M := x356000_1) (by (with_reducible repeat (first | refine own_drewN ?_ _ | refine own_drew ?_ | refine own_alloc ?_ _)); exact BK355.out) k_ hk_)⟩)) (below_size (by repeat (first | (with_reducible first | exact HB.out | apply below_alloc | apply pw_below_drewN | apply below_drew1 | refine below_set ?_ GE353.out | refine below_set ?_ GE354.out | refine below_set ?_ GE355.out) | exact HB.out)))); have n2_ := Aside0.mk (blk_below (g := gb353) (o := .cells #[.slice Ao56 x354000_1.length co56] 24 (0, 0)) (by (with_reducible repeat (first | refine blk_drewN ?_ _ | refine blk_drew ?_ | refine blk_alloc ?_ _)); exact BK353.out) hb); have n3_ := Aside0.mk (own_below (mb := gb354) (M := x355000_1) (by (with_reducible repeat (first | refine own_drewN ?_ _ | refine own_drew ?_ | refine own_alloc ?_ _)); exact BK354.out) hb); have n4_ := Aside0.mk (own_below (mb := gb355) (M := x356000_1) (by (with_reducible repeat (first | refine own_drewN ?_ _ | refine own_drew ?_ | refine own_alloc ?_ _)); exact BK355.out) hb); have n5_ := Aside0.mk (below_step (by repeat (first | (with_reducible first | exact HB.out | apply below_alloc | apply pw_below_drewN | apply below_drew1 | refine below_set ?_ GE353.out | refine below_set ?_ GE354.out | refine below_set ?_ GE355.out) | exact HB.out)) hb); clear HO_354000; clear BK353; clear BK354; clear BK355; clear HB; have HO_354000 := n0_; have HO369 := n1_; have BK353 := n2_; have BK354 := n3_; have BK355 := n4_; have HB := n5_; clear n0_ n1_ n2_ n3_ n4_ n5_; (try clear hb); (try clear hb2); (try clear hk); (try clear hi); (try clear ho0)) | ((with_reducible refine gate_dst (N := 15) rfl ?_); refine box_event ?hg (N := 15) ?hd (cs := #[.slice none 0 0]) (t := 24) ?hr ?_; (case hd => rfl); (case hg => rfl); (case hr => first | (go_simp; done) | (go_simp; rfl)); intro gb371 hg w58 hbox hb; have n0_ := Aside0.mk (Kd.V_below (Kd.V_elderB (by (with_reducible repeat (first | apply Kd.V_alloc | apply Kd.V_drewN | apply Kd.V_drew)); exact HO_354000.out) gb371 (Nat.le_of_eq hg.symm)) hb); have n1_ := Aside0.mk (Kd.V_below (Kd.V_elderB (by (with_reducible repeat (first | apply Kd.V_alloc | apply Kd.V_drewN | apply Kd.V_drew)); exact HO369.out) gb371 (Nat.le_of_eq hg.symm)) hb); have n2_ := Aside0.mk (blk_below (g := gb353) (o := .cells #[.slice Ao56 x354000_1.length co56] 24 (0, 0)) (by (with_reducible repeat (first | refine blk_drewN ?_ _ | refine blk_drew ?_ | refine blk_alloc ?_ _)); exact BK353.out) hb); have n3_ := Aside0.mk (own_below (mb := gb354) (M := x355000_1) (by (with_reducible repeat (first | refine own_drewN ?_ _ | refine own_drew ?_ | refine own_alloc ?_ _)); exact BK354.out) hb); have n4_ := Aside0.mk (own_below (mb := gb355) (M := x356000_1) (by (with_reducible repeat (first | refine own_drewN ?_ _ | refine own_drew ?_ | refine own_alloc ?_ _)); exact BK355.out) hb); have n5_ := Aside0.mk (below_step (by repeat (first | (with_reducible first | exact HB.out | apply below_alloc | apply pw_below_drewN | apply below_drew1 | refine below_set ?_ GE353.out | refine below_set ?_ GE354.out | refine below_set ?_ GE355.out) | exact HB.out)) hb); have n6_ := Aside0.mk (hbox); have n7_ := Aside0.mk ((by rw [hg]; exact (below_size (by repeat (first | (with_reducible first | exact HB.out | apply below_alloc | apply pw_below_drewN | apply below_drew1 | refine below_set ?_ GE353.out | refine below_set ?_ GE354.out | refine below_set ?_ GE355.out) | exact HB.out))) : w.heap.size ≤ gb371)); have n8_ := Aside0.mk ((by rw [hg]; exact (below_size (by repeat (first | (with_reducible first | exact HB.out | apply below_alloc | apply pw_below_drewN | apply below_drew1 | refine below_set ?_ GE353.out | refine below_set ?_ GE354.out | refine below_set ?_ GE355.out) | exact HB.out))) : w.heap.size ≤ gb371)); have n9_ := Aside0.mk ((by rw [hg]; exact Nat.ne_of_lt (blk_lt (g := gb353) (o := .cells #[.slice Ao56 x354000_1.length co56] 24 (0, 0)) (by (with_reducible repeat (first | refine blk_drewN ?_ _ | refine blk_drew ?_ | refine blk_alloc ?_ _)); exact BK353.out)) : gb353 ≠ gb371)); have n10_ := Aside0.mk ((by rw [hg]; exact Nat.ne_of_gt (blk_lt (g := gb353) (o := .cells #[.slice Ao56 x354000_1.length co56] 24 (0, 0)) (by (with_reducible repeat (first | refine blk_drewN ?_ _ | refine blk_drew ?_ | refine blk_alloc ?_ _)); exact BK353.out)) : gb371 ≠ gb353)); have n11_ := Aside0.mk ((by rw [hg]; exact Nat.ne_of_lt (own_lt (mb := gb354) (M := x355000_1) (by (with_reducible repeat (first | refine own_drewN ?_ _ | refine own_drew ?_ | refine own_alloc ?_ _)); exact BK354.out)) : gb354 ≠ gb371)); have n12_ := Aside0.mk ((by rw [hg]; exact Nat.ne_of_gt (own_lt (mb := gb354) (M := x355000_1) (by (with_reducible repeat (first | refine own_drewN ?_ _ | refine own_drew ?_ | refine own_alloc ?_ _)); exact BK354.out)) : gb371 ≠ gb354)); have n13_ := Aside0.mk ((by rw [hg]; exact Nat.ne_of_lt (own_lt (mb := gb355) (M := x356000_1) (by (with_reducible repeat (first | refine own_drewN ?_ _ | refine own_drew ?_ | refine own_alloc ?_ _)); exact BK355.out)) : gb355 ≠ gb371)); have n14_ := Aside0.mk ((by rw [hg]; exact Nat.ne_of_gt (own_lt (mb := gb355) (M := x356000_1) (by (with_reducible repeat (first | refine own_drewN ?_ _ | refine own_drew ?_ | refine own_alloc ?_ _)); exact BK355.out)) : gb371 ≠ gb355)); clear HO_354000; clear HO369; clear BK353; clear BK354; clear BK355; clear HB; have HO_354000 := n0_; have HO369 := n1_; have BK353 := n2_; have BK354 := n3_; have BK355 := n4_; have HB := n5_; have BK371 := n6_; have GW371 := n7_; have GE371 := n8_; have NB353_371 := n9_; have NB371_353 := n10_; have NB354_371 := n11_; have NB371_354 := n12_; have NB355_371 := n13_; have NB371_355 := n14_; clear n0_ n1_ n2_ n3_ n4_ n5_ n6_ n7_ n8_ n9_ n10_ n11_ n12_ n13_ n14_; clear hb hbox hg; obtain ⟨Ao59, co59, eo59⟩ := Kd.V_slice HO369.out; subst eo59; have hnb60 := NB371_353.out; have hnc60 := NB353_371.out; have hnb61 := NB371_354.out; have hnc61 := NB354_371.out; have hnb62 := NB371_355.out; have hnc62 := NB355_371.out; have hcz63_0 : w58.cell? ⟨gb371, 0, none⟩ = some (.slice none 0 0) := (blk_cell BK371.out 0).trans rfl; have hfz63_0 := blk_frozen BK371.out 0)); go_upto_region 22 with (first | (at_lookup; refine lookM_event (mb := gb355) (M := x356000_1) (kx := (wrap64 (2 + t359))) rfl rfl rfl (by (with_reducible repeat (first | refine own_drewN ?_ _ | refine own_drew ?_ | refine own_alloc ?_ _)); exact BK355.out) rfl ?wk ?_; (case wk => with_reducible first | exact WK.out | exact WK18.out | exact wf_wrap64 _ | exact own_wf BK354.out WK.out); (try rw [hb14])) | (go_at_call 16; (with_reducible refine (table_Set.calls k1 _ _ x354000_1 t357 (wrap64 (2 + t359)) t367 t370 _ ?side1 ?side2 A49.out).mono ?_); (case side1 => repeat (first | exact (Kd.V_reads' HO_354000.out).2.2 | (with_reducible refine Kd.C_alloc ?_ _) | (with_reducible refine Kd.C_drewN ?_ _) | (with_reducible refine Kd.C_drew ?_))); (case side2 => exact (Kd.V_reads' HO_354000.out).2.1); rintro e w57 ⟨v368, rfl, ho0, hb⟩; have n0_ := Aside0.mk (Kd.V_below (by (with_reducible repeat (first | apply Kd.V_alloc | apply Kd.V_drewN | apply Kd.V_drew)); exact HO_354000.out) hb); have n1_ := Aside0.mk (Kd.V_lower (Kd.V_mono (ok' := fun k_ => k_ ≠ gb353 ∧ k_ ≠ gb354 ∧ k_ ≠ gb355) ho0 (fun k_ hk_ => ⟨(Kd.freshB (g := gb353) (o := .cells #[.slice Ao56 x354000_1.length co56] 24 (0, 0)) (by (with_reducible repeat (first | refine blk_drewN ?_ _ | refine blk_drew ?_ | refine blk_alloc ?_ _)); exact BK353.out) k_ hk_), (own_fresh (mb := gb354) (M := x355000_1) (by (with_reducible repeat (first | refine own_drewN ?_ _ | refine own_drew ?_ | refine own_alloc ?_ _)); exact BK354.out) k_ hk_), (own_fresh (mb := gb355) (M := x356000_1) (by (with_reducible repeat (first | refine own_drewN ?_ _ | refine own_drew ?_ | refine own_alloc ?_ _)); exact BK355.out) k_ hk_)⟩)) (below_size (by repeat (first | (with_reducible first | exact HB.out | apply below_alloc | apply pw_below_drewN | apply below_drew1 | refine below_set ?_ GE353.out | refine below_set ?_ GE354.out | refine below_set ?_ GE355.out) | exact HB.out)))); have n2_ := Aside0.mk (blk_below (g := gb353) (o := .cells #[.slice Ao56 x354000_1.length co56] 24 (0, 0)) (by (with_reducible repeat (first | refine blk_drewN ?_ _ | refine blk_drew ?_ | refine blk_alloc ?_ _)); exact BK353.out) hb); have n3_ := Aside0.mk (own_below (mb := gb354) (M := x355000_1) (by (with_reducible repeat (first | refine own_drewN ?_ _ | refine own_drew ?_ | refine own_alloc ?_ _)); exact BK354.out) hb); have n4_ := Aside0.mk (own_below (mb := gb355) (M := x356000_1) (by (with_reducible repeat (first | refine own_drewN ?_ _ | refine own_drew ?_ | refine own_alloc ?_ _)); exact BK355.out) hb); have n5_ := Aside0.mk (below_step (by repeat (first | (with_reducible first | exact HB.out | apply below_alloc | apply pw_below_drewN | apply below_drew1 | refine below_set ?_ GE353.out | refine below_set ?_ GE354.out | refine below_set ?_ GE355.out) | exact HB.out)) hb); clear HO_354000; clear BK353; clear BK354; clear BK355; clear HB; have HO_354000 := n0_; have HO369 := n1_; have BK353 := n2_; have BK354 := n3_; have BK355 := n4_; have HB := n5_; clear n0_ n1_ n2_ n3_ n4_ n5_; (try clear hb); (try clear hb2); (try clear hk); (try clear hi); (try clear ho0)) | ((with_reducible refine gate_dst (N := 15) rfl ?_); refine box_event ?hg (N := 15) ?hd (cs := #[.slice none 0 0]) (t := 24) ?hr ?_; (case hd => rfl); (case hg => rfl); (case hr => first | (go_simp; done) | (go_simp; rfl)); intro gb371 hg w58 hbox hb; have n0_ := Aside0.mk (Kd.V_below (Kd.V_elderB (by (with_reducible repeat (first | apply Kd.V_alloc | apply Kd.V_drewN | apply Kd.V_drew)); exact HO_354000.out) gb371 (Nat.le_of_eq hg.symm)) hb); have n1_ := Aside0.mk (Kd.V_below (Kd.V_elderB (by (with_reducible repeat (first | apply Kd.V_alloc | apply Kd.V_drewN | apply Kd.V_drew)); exact HO369.out) gb371 (Nat.le_of_eq hg.symm)) hb); have n2_ := Aside0.mk (blk_below (g := gb353) (o := .cells #[.slice Ao56 x354000_1.length co56] 24 (0, 0)) (by (with_reducible repeat (first | refine blk_drewN ?_ _ | refine blk_drew ?_ | refine blk_alloc ?_ _)); exact BK353.out) hb); have n3_ := Aside0.mk (own_below (mb := gb354) (M := x355000_1) (by (with_reducible repeat (first | refine own_drewN ?_ _ | refine own_drew ?_ | refine own_alloc ?_ _)); exact BK354.out) hb); have n4_ := Aside0.mk (own_below (mb := gb355) (M := x356000_1) (by (with_reducible repeat (first | refine own_drewN ?_ _ | refine own_drew ?_ | refine own_alloc ?_ _)); exact BK355.out) hb); have n5_ := Aside0.mk (below_step (by repeat (first | (with_reducible first | exact HB.out | apply below_alloc | apply pw_below_drewN | apply below_drew1 | refine below_set ?_ GE353.out | refine below_set ?_ GE354.out | refine below_set ?_ GE355.out) | exact HB.out)) hb); have n6_ := Aside0.mk (hbox); have n7_ := Aside0.mk ((by rw [hg]; exact (below_size (by repeat (first | (with_reducible first | exact HB.out | apply below_alloc | apply pw_below_drewN | apply below_drew1 | refine below_set ?_ GE353.out | refine below_set ?_ GE354.out | refine below_set ?_ GE355.out) | exact HB.out))) : w.heap.size ≤ gb371)); have n8_ := Aside0.mk ((by rw [hg]; exact (below_size (by repeat (first | (with_reducible first | exact HB.out | apply below_alloc | apply pw_below_drewN | apply below_drew1 | refine below_set ?_ GE353.out | refine below_set ?_ GE354.out | refine below_set ?_ GE355.out) | exact HB.out))) : w.heap.size ≤ gb371)); have n9_ := Aside0.mk ((by rw [hg]; exact Nat.ne_of_lt (blk_lt (g := gb353) (o := .cells #[.slice Ao56 x354000_1.length co56] 24 (0, 0)) (by (with_reducible repeat (first | refine blk_drewN ?_ _ | refine blk_drew ?_ | refine blk_alloc ?_ _)); exact BK353.out)) : gb353 ≠ gb371)); have n10_ := Aside0.mk ((by rw [hg]; exact Nat.ne_of_gt (blk_lt (g := gb353) (o := .cells #[.slice Ao56 x354000_1.length co56] 24 (0, 0)) (by (with_reducible repeat (first | refine blk_drewN ?_ _ | refine blk_drew ?_ | refine blk_alloc ?_ _)); exact BK353.out)) : gb371 ≠ gb353)); have n11_ := Aside0.mk ((by rw [hg]; exact Nat.ne_of_lt (own_lt (mb := gb354) (M := x355000_1) (by (with_reducible repeat (first | refine own_drewN ?_ _ | refine own_drew ?_ | refine own_alloc ?_ _)); exact BK354.out)) : gb354 ≠ gb371)); have n12_ := Aside0.mk ((by rw [hg]; exact Nat.ne_of_gt (own_lt (mb := gb354) (M := x355000_1) (by (with_reducible repeat (first | refine own_drewN ?_ _ | refine own_drew ?_ | refine own_alloc ?_ _)); exact BK354.out)) : gb371 ≠ gb354)); have n13_ := Aside0.mk ((by rw [hg]; exact Nat.ne_of_lt (own_lt (mb := gb355) (M := x356000_1) (by (with_reducible repeat (first | refine own_drewN ?_ _ | refine own_drew ?_ | refine own_alloc ?_ _)); exact BK355.out)) : gb355 ≠ gb371)); have n14_ := Aside0.mk ((by rw [hg]; exact Nat.ne_of_gt (own_lt (mb := gb355) (M := x356000_1) (by (with_reducible repeat (first | refine own_drewN ?_ _ | refine own_drew ?_ | refine own_alloc ?_ _)); exact BK355.out)) : gb371 ≠ gb355)); clear HO_354000; clear HO369; clear BK353; clear BK354; clear BK355; clear HB; have HO_354000 := n0_; have HO369 := n1_; have BK353 := n2_; have BK354 := n3_; have BK355 := n4_; have HB := n5_; have BK371 := n6_; have GW371 := n7_; have GE371 := n8_; have NB353_371 := n9_; have NB371_353 := n10_; have NB354_371 := n11_; have NB371_354 := n12_; have NB355_371 := n13_; have NB371_355 := n14_; clear n0_ n1_ n2_ n3_ n4_ n5_ n6_ n7_ n8_ n9_ n10_ n11_ n12_ n13_ n14_; clear hb hbox hg; obtain ⟨Ao59, co59, eo59⟩ := Kd.V_slice HO369.out; subst eo59; have hnb60 := NB371_353.out; have hnc60 := NB353_371.out; have hnb61 := NB371_354.out; have hnc61 := NB354_371.out; have hnb62 := NB371_355.out; have hnc62 := NB355_371.out; have hcz63_0 : w58.cell? ⟨gb371, 0, none⟩ = some (.slice none 0 0) := (blk_cell BK371.out 0).trans rfl; have hfz63_0 := blk_frozen BK371.out 0)))
                  (try simp only [Act.put, List.setIfInBounds_toArray, List.set_cons_zero, List.set_cons_succ])
                  go_cut [108] (fun v108 wc => ∃ (kq : Nat) (x108_49 : Bool), v108 = .bool x108_49 ∧ Aside0 (tallymanlaw10_TableTells.j1 kq l0 x6_1 t357 (wrap64 (2 + t359)) (mget x355000_1 t357) b10 t370 x108_49 x354000_1 x355000_1 x356000_1 t367 = some r) ∧ Aside0 (kq ≤ k1) ∧ Aside0 (Kd.V (Kd.int .i64) 3 wc w.heap.size (fun k_ => k_ ≠ gb353 ∧ k_ ≠ gb354 ∧ k_ ≠ gb355 ∧ k_ ≠ gb371) (.slice Ao56 x354000_1.length co56) x354000_1) ∧ Aside0 (Kd.V (Kd.int .i64) 3 wc w.heap.size (fun k_ => k_ ≠ gb353 ∧ k_ ≠ gb354 ∧ k_ ≠ gb355 ∧ k_ ≠ gb371) (.slice Ao59 t367.length co59) t367) ∧ Aside0 (wc.heap[gb353]? = some (.cells #[(.slice Ao56 x354000_1.length co56)] 24 (0, 0))) ∧ Aside0 (OwnsM wc gb354 x355000_1) ∧ Aside0 (OwnsM wc gb355 x356000_1) ∧ Aside0 (wc.heap[gb371]? = some (.cells #[(.slice Ao59 t367.length co59)] 24 (0, 0))) ∧ Aside0 (Below w.heap.size w wc))
                  case first =>
                    have H := HC50.out
                    clear HC50
                    by_cases c64 : b14 = true
                    · rw [if_pos c64] at H
                      subst c64
                      (first | rw [c64b0] | (simp only [i64_w, i32_w]; rw [c64b0]) | skip)
                      have H' := Aside0.mk H
                      clear H
                      go_wp2
                      repeat (go_quiet (fail); try go_wp2)
                      go_meet
                      case rel => exact ⟨_, (((t370 == 0) == ((mget x356000_1 (wrap64 (2 + t359))) != t357))), (by first | rfl | (simp; done) | (simp [*]; done)), H', ⟨by have := HK1.out; first | omega | exact Nat.le_refl _⟩, ⟨by (with_reducible repeat (first | apply Kd.V_alloc | apply Kd.V_drewN | apply Kd.V_drew)); exact Kd.V_mono (Kd.V_far (p := ⟨gb371, 0, none⟩) (Kd.V_mono HO_354000.out (fun k_ hk => (⟨hk, hk.2⟩ : _ ∧ k_ ≠ gb371))) (fun _ hk => hk.2) (.slice Ao59 t367.length co59)) (fun _ hk => ⟨hk.1.1.1, ⟨hk.1.1.2.1, ⟨hk.1.1.2.2, hk.1.2⟩⟩⟩)⟩, ⟨by (with_reducible repeat (first | apply Kd.V_alloc | apply Kd.V_drewN | apply Kd.V_drew)); exact Kd.V_mono (Kd.V_far (p := ⟨gb371, 0, none⟩) (Kd.V_mono HO369.out (fun k_ hk => (⟨hk, hk.2⟩ : _ ∧ k_ ≠ gb371))) (fun _ hk => hk.2) (.slice Ao59 t367.length co59)) (fun _ hk => ⟨hk.1.1.1, ⟨hk.1.1.2.1, ⟨hk.1.1.2.2, hk.1.2⟩⟩⟩)⟩, ⟨by (with_reducible repeat (first | refine blk_drewN ?_ _ | refine blk_drew ?_ | refine blk_alloc ?_ _)); refine blk_far ?_ NB353_371.out _; (with_reducible repeat (first | refine blk_drewN ?_ _ | refine blk_drew ?_ | refine blk_alloc ?_ _)); exact BK353.out⟩, ⟨by (with_reducible repeat (first | refine own_drewN ?_ _ | refine own_drew ?_ | refine own_alloc ?_ _)); refine own_far ?_ NB354_371.out _; (with_reducible repeat (first | refine own_drewN ?_ _ | refine own_drew ?_ | refine own_alloc ?_ _)); exact BK354.out⟩, ⟨by (with_reducible repeat (first | refine own_drewN ?_ _ | refine own_drew ?_ | refine own_alloc ?_ _)); refine own_far ?_ NB355_371.out _; (with_reducible repeat (first | refine own_drewN ?_ _ | refine own_drew ?_ | refine own_alloc ?_ _)); exact BK355.out⟩, ⟨by (with_reducible repeat (first | refine blk_drewN ?_ _ | refine blk_drew ?_ | refine blk_alloc ?_ _)); refine blk_put (cs := #[.slice none 0 0]) ?_ 0 _ rfl; (with_reducible repeat (first | refine blk_drewN ?_ _ | refine blk_drew ?_ | refine blk_alloc ?_ _)); exact BK371.out⟩, ⟨by repeat (first | (with_reducible first | exact HB.out | apply below_alloc | apply pw_below_drewN | apply below_drew1 | refine below_set ?_ GE353.out | refine below_set ?_ GE371.out) | exact HB.out)⟩⟩
                    · rw [if_neg c64] at H
                      obtain rfl := Bool.eq_false_iff.mpr c64
                      (first | rw [c64b0] | (simp only [i64_w, i32_w]; rw [c64b0]) | skip)
                      have H' := Aside0.mk H
                      clear H
                      go_wp2
                      repeat (go_quiet (fail); try go_wp2)
                      go_meet
                      case rel => exact ⟨_, (((t370 == 0) == false)), (by first | rfl | (simp; done) | (simp [*]; done)), H', ⟨by have := HK1.out; first | omega | exact Nat.le_refl _⟩, ⟨by (with_reducible repeat (first | apply Kd.V_alloc | apply Kd.V_drewN | apply Kd.V_drew)); exact Kd.V_mono (Kd.V_far (p := ⟨gb371, 0, none⟩) (Kd.V_mono HO_354000.out (fun k_ hk => (⟨hk, hk.2⟩ : _ ∧ k_ ≠ gb371))) (fun _ hk => hk.2) (.slice Ao59 t367.length co59)) (fun _ hk => ⟨hk.1.1.1, ⟨hk.1.1.2.1, ⟨hk.1.1.2.2, hk.1.2⟩⟩⟩)⟩, ⟨by (with_reducible repeat (first | apply Kd.V_alloc | apply Kd.V_drewN | apply Kd.V_drew)); exact Kd.V_mono (Kd.V_far (p := ⟨gb371, 0, none⟩) (Kd.V_mono HO369.out (fun k_ hk => (⟨hk, hk.2⟩ : _ ∧ k_ ≠ gb371))) (fun _ hk => hk.2) (.slice Ao59 t367.length co59)) (fun _ hk => ⟨hk.1.1.1, ⟨hk.1.1.2.1, ⟨hk.1.1.2.2, hk.1.2⟩⟩⟩)⟩, ⟨by (with_reducible repeat (first | refine blk_drewN ?_ _ | refine blk_drew ?_ | refine blk_alloc ?_ _)); refine blk_far ?_ NB353_371.out _; (with_reducible repeat (first | refine blk_drewN ?_ _ | refine blk_drew ?_ | refine blk_alloc ?_ _)); exact BK353.out⟩, ⟨by (with_reducible repeat (first | refine own_drewN ?_ _ | refine own_drew ?_ | refine own_alloc ?_ _)); refine own_far ?_ NB354_371.out _; (with_reducible repeat (first | refine own_drewN ?_ _ | refine own_drew ?_ | refine own_alloc ?_ _)); exact BK354.out⟩, ⟨by (with_reducible repeat (first | refine own_drewN ?_ _ | refine own_drew ?_ | refine own_alloc ?_ _)); refine own_far ?_ NB355_371.out _; (with_reducible repeat (first | refine own_drewN ?_ _ | refine own_drew ?_ | refine own_alloc ?_ _)); exact BK355.out⟩, ⟨by (with_reducible repeat (first | refine blk_drewN ?_ _ | refine blk_drew ?_ | refine blk_alloc ?_ _)); refine blk_put (cs := #[.slice none 0 0]) ?_ 0 _ rfl; (with_reducible repeat (first | refine blk_drewN ?_ _ | refine blk_drew ?_ | refine blk_alloc ?_ _)); exact BK371.out⟩, ⟨by repeat (first | (with_reducible first | exact HB.out | apply below_alloc | apply pw_below_drewN | apply below_drew1 | refine below_set ?_ GE353.out | refine below_set ?_ GE371.out) | exact HB.out)⟩⟩
                  case rest =>
                    clear HC50
                    try clear c1
                    try clear c2
                    try clear p2
                    try clear c3
                    try clear p3
                    try clear q3
                    try clear hx3
                    try clear c4
                    try clear c4b0
                    try clear c4b1
                    try clear c5
                    try clear c6
                    try clear p6
                    try clear c7
                    try clear c10
                    try clear c10b0
                    try clear c11
                    try clear c11b0
                    try clear c16
                    try clear c17
                    try clear c19
                    try clear c19b0
                    try clear c19b1
                    try clear c21
                    try clear c21b0
                    try clear c21b1
                    try clear c21b2
                    try clear c22
                    try clear c22b0
                    try clear c22b1
                    try clear c23
                    try clear c24
                    try clear c30
                    try clear c31
                    try clear c32
                    try clear c35
                    try clear p35
                    try clear q35
                    try clear hx35
                    try clear p36
                    try clear q36
                    try clear hx36
                    try clear c38
                    try clear c39
                    try clear c45
                    try clear c46
                    try clear c47
                    try clear c51
                    try clear c52
                    try clear c54
                    try clear c60
                    try clear c61
                    try clear c62
                    try clear c64
                    try clear c64b0
                    try clear p64
                    try clear hcz18_0
                    try clear hcz25_0
                    try clear hcz33_0
                    try clear hcz34_0
                    try clear hcz36_0
                    try clear hcz37_0
                    try clear hcz40_0
                    try clear hcz48_0
                    try clear hcz53_0
                    try clear hcz55_0
                    try clear hcz63_0
                    try clear hfz18_0
                    try clear hfz25_0
                    try clear hfz33_0
                    try clear hfz34_0
                    try clear hfz36_0
                    try clear hfz37_0
                    try clear hfz40_0
                    try clear hfz48_0
                    try clear hfz53_0
                    try clear hfz55_0
                    try clear hfz63_0
                    try clear hx356_0
                    try clear hx356_1
                    try clear hx356_2
                    try clear hx358_0
                    try clear hx358_1
                    try clear hx358_2
                    try clear hx360_0
                    try clear hx360_1
                    try clear hx360_2
                    try clear p2
                    try clear p356
                    try clear p358
                    try clear p360
                    try clear q356
                    try clear q358
                    try clear q360
                    obtain ⟨kq, x108_49, rfl, HA, HJ49, HO_354000, HO_372000, BK353, BK354, BK355, BK371, HB⟩ := hcut
                    cases kq with
                    | zero => exact absurd HA.out (by simp [tallymanlaw10_TableTells.j1])
                    | succ kj49 =>
                      have H := HA.out
                      clear HA
                      simp only [tallymanlaw10_TableTells.j1] at H
                      by_cases c65 : x108_49 = true
                      · subst c65
                        have H1 : (none) = some r := by rw [if_pos rfl] at H; exact H
                        clear H
                        have H := H1
                        clear H1
                        exact absurd H (by simp)
                      · replace c65 := Bool.eq_false_iff.mpr c65
                        subst c65
                        have H1 : (if t370 = 0 then (if b10 = true then (tallymanlaw10_TableTells.j2 kj49 l0 x6_1 t367 (mput x355000_1 t357 (wrap64 (2 + t359))) (mput (mdel x356000_1 (mget x355000_1 t357)) (wrap64 (2 + t359)) t357)) else (tallymanlaw10_TableTells.j2 kj49 l0 x6_1 t367 (mput x355000_1 t357 (wrap64 (2 + t359))) (mput x356000_1 (wrap64 (2 + t359)) t357))) else (tallymanlaw10_TableTells.j2 kj49 l0 x6_1 x354000_1 x355000_1 x356000_1)) = some r := by rw [if_neg (show ¬ (false = true) by decide)] at H; exact H
                        clear H
                        have H := H1
                        clear H1
                        by_cases c66 : t370 = 0
                        · rw [if_pos c66] at H
                          have c66b0 : (t370 == 0) = true := beq_iff_eq.mpr c66
                          have c66b1 : (t370 != 0) = false := bne_eq_false_iff_eq.mpr c66
                          clear c66
                          by_cases c67 : b10 = true
                          · rw [if_pos c67] at H
                            subst c67
                            have H' := Aside0.mk H
                            clear H
                            have hnb68 := NB371_353.out
                            have hnc68 := NB353_371.out
                            have hnb69 := NB371_354.out
                            have hnc69 := NB354_371.out
                            have hnb70 := NB371_355.out
                            have hnc70 := NB355_371.out
                            have hcz71_0 : wc.cell? ⟨gb371, 0, none⟩ = some (.slice Ao59 t367.length co59) := (blk_cell BK371.out 0).trans rfl
                            have hfz71_0 := blk_frozen BK371.out 0
                            have hnb72 := NB353_354.out
                            have hnc72 := NB354_353.out
                            have hnb73 := NB353_355.out
                            have hnc73 := NB355_353.out
                            have hcz74_0 : wc.cell? ⟨gb353, 0, none⟩ = some (.slice Ao56 x354000_1.length co56) := (blk_cell BK353.out 0).trans rfl
                            have hfz74_0 := blk_frozen BK353.out 0
                            have hnb75 := NB355_354.out
                            have hnc75 := NB354_355.out
                            go_wp2_with (first | (at_delete; refine delM_event (mb := gb355) (M := x356000_1) (kx := (mget x355000_1 t357)) rfl rfl rfl (by (with_reducible repeat (first | refine own_drewN ?_ _ | refine own_drew ?_ | refine own_alloc ?_ _)); refine own_far ?_ NB355_353.out _; (with_reducible repeat (first | refine own_drewN ?_ _ | refine own_drew ?_ | refine own_alloc ?_ _)); exact BK355.out) rfl ?wk ?_; (case wk => with_reducible first | exact WK.out | exact WK18.out | exact wf_wrap64 _ | exact own_wf BK354.out WK.out); intro w_644_1 hom_ hgr_; have HM644_1 := Aside0.mk hom_; have HG644_1 := Aside0.mk hgr_; clear hom_ hgr_) | (at_mapUpdate; refine putM_event (mb := gb354) (M := x355000_1) (kx := t357) (kv := (wrap64 (2 + t359))) rfl rfl rfl (by (with_reducible repeat (first | refine own_drewN ?_ _ | refine own_drew ?_ | refine own_alloc ?_ _)); refine own_grown ?_ HG644_1.out (grown_ne NB354_355.out); (with_reducible repeat (first | refine own_drewN ?_ _ | refine own_drew ?_ | refine own_alloc ?_ _)); refine own_far ?_ NB354_353.out _; (with_reducible repeat (first | refine own_drewN ?_ _ | refine own_drew ?_ | refine own_alloc ?_ _)); exact BK354.out) rfl rfl ?rm ?wk ?wv ?_; (case rm => exact (by have := GRM.out; unfold maxLen; (try simp only [mput, mdel, List.length_append, List.length_singleton]); omega)); (case wk => with_reducible first | exact WK.out | exact WK18.out | exact wf_wrap64 _ | exact own_wf BK354.out WK.out); (case wv => with_reducible first | exact WK.out | exact WK18.out | exact wf_wrap64 _ | exact own_wf BK354.out WK.out); intro w_644_2 hom_ hgr_; have HM644_2 := Aside0.mk hom_; have HG644_2 := Aside0.mk hgr_; clear hom_ hgr_) | (at_mapUpdate; refine putM_event (mb := gb355) (M := (mdel x356000_1 (mget x355000_1 t357))) (kx := (wrap64 (2 + t359))) (kv := t357) rfl rfl rfl (by (with_reducible repeat (first | refine own_drewN ?_ _ | refine own_drew ?_ | refine own_alloc ?_ _)); refine own_grown ?_ HG644_2.out (grown_ne NB355_354.out); (with_reducible repeat (first | refine own_drewN ?_ _ | refine own_drew ?_ | refine own_alloc ?_ _)); exact HM644_1.out) rfl rfl ?rm ?wk ?wv ?_; (case rm => exact (by have := GRM.out; unfold maxLen; (try simp only [mput, mdel, List.length_append, List.length_singleton]); omega)); (case wk => with_reducible first | exact WK.out | exact WK18.out | exact wf_wrap64 _ | exact own_wf BK354.out WK.out); (case wv => with_reducible first | exact WK.out | exact WK18.out | exact wf_wrap64 _ | exact own_wf BK354.out WK.out); intro w_644_3 hom_ hgr_; have HM644_3 := Aside0.mk hom_; have HG644_3 := Aside0.mk hgr_; clear hom_ hgr_))
                            repeat (go_quiet (first | (at_delete; refine delM_event (mb := gb355) (M := x356000_1) (kx := (mget x355000_1 t357)) rfl rfl rfl (by (with_reducible repeat (first | refine own_drewN ?_ _ | refine own_drew ?_ | refine own_alloc ?_ _)); refine own_far ?_ NB355_353.out _; (with_reducible repeat (first | refine own_drewN ?_ _ | refine own_drew ?_ | refine own_alloc ?_ _)); exact BK355.out) rfl ?wk ?_; (case wk => with_reducible first | exact WK.out | exact WK18.out | exact wf_wrap64 _ | exact own_wf BK354.out WK.out); intro w_644_1 hom_ hgr_; have HM644_1 := Aside0.mk hom_; have HG644_1 := Aside0.mk hgr_; clear hom_ hgr_) | (at_mapUpdate; refine putM_event (mb := gb354) (M := x355000_1) (kx := t357) (kv := (wrap64 (2 + t359))) rfl rfl rfl (by (with_reducible repeat (first | refine own_drewN ?_ _ | refine own_drew ?_ | refine own_alloc ?_ _)); refine own_grown ?_ HG644_1.out (grown_ne NB354_355.out); (with_reducible repeat (first | refine own_drewN ?_ _ | refine own_drew ?_ | refine own_alloc ?_ _)); refine own_far ?_ NB354_353.out _; (with_reducible repeat (first | refine own_drewN ?_ _ | refine own_drew ?_ | refine own_alloc ?_ _)); exact BK354.out) rfl rfl ?rm ?wk ?wv ?_; (case rm => exact (by have := GRM.out; unfold maxLen; (try simp only [mput, mdel, List.length_append, List.length_singleton]); omega)); (case wk => with_reducible first | exact WK.out | exact WK18.out | exact wf_wrap64 _ | exact own_wf BK354.out WK.out); (case wv => with_reducible first | exact WK.out | exact WK18.out | exact wf_wrap64 _ | exact own_wf BK354.out WK.out); intro w_644_2 hom_ hgr_; have HM644_2 := Aside0.mk hom_; have HG644_2 := Aside0.mk hgr_; clear hom_ hgr_) | (at_mapUpdate; refine putM_event (mb := gb355) (M := (mdel x356000_1 (mget x355000_1 t357))) (kx := (wrap64 (2 + t359))) (kv := t357) rfl rfl rfl (by (with_reducible repeat (first | refine own_drewN ?_ _ | refine own_drew ?_ | refine own_alloc ?_ _)); refine own_grown ?_ HG644_2.out (grown_ne NB355_354.out); (with_reducible repeat (first | refine own_drewN ?_ _ | refine own_drew ?_ | refine own_alloc ?_ _)); exact HM644_1.out) rfl rfl ?rm ?wk ?wv ?_; (case rm => exact (by have := GRM.out; unfold maxLen; (try simp only [mput, mdel, List.length_append, List.length_singleton]); omega)); (case wk => with_reducible first | exact WK.out | exact WK18.out | exact wf_wrap64 _ | exact own_wf BK354.out WK.out); (case wv => with_reducible first | exact WK.out | exact WK18.out | exact wf_wrap64 _ | exact own_wf BK354.out WK.out); intro w_644_3 hom_ hgr_; have HM644_3 := Aside0.mk hom_; have HG644_3 := Aside0.mk hgr_; clear hom_ hgr_)); try go_wp2_with (first | (at_delete; refine delM_event (mb := gb355) (M := x356000_1) (kx := (mget x355000_1 t357)) rfl rfl rfl (by (with_reducible repeat (first | refine own_drewN ?_ _ | refine own_drew ?_ | refine own_alloc ?_ _)); refine own_far ?_ NB355_353.out _; (with_reducible repeat (first | refine own_drewN ?_ _ | refine own_drew ?_ | refine own_alloc ?_ _)); exact BK355.out) rfl ?wk ?_; (case wk => with_reducible first | exact WK.out | exact WK18.out | exact wf_wrap64 _ | exact own_wf BK354.out WK.out); intro w_644_1 hom_ hgr_; have HM644_1 := Aside0.mk hom_; have HG644_1 := Aside0.mk hgr_; clear hom_ hgr_) | (at_mapUpdate; refine putM_event (mb := gb354) (M := x355000_1) (kx := t357) (kv := (wrap64 (2 + t359))) rfl rfl rfl (by (with_reducible repeat (first | refine own_drewN ?_ _ | refine own_drew ?_ | refine own_alloc ?_ _)); refine own_grown ?_ HG644_1.out (grown_ne NB354_355.out); (with_reducible repeat (first | refine own_drewN ?_ _ | refine own_drew ?_ | refine own_alloc ?_ _)); refine own_far ?_ NB354_353.out _; (with_reducible repeat (first | refine own_drewN ?_ _ | refine own_drew ?_ | refine own_alloc ?_ _)); exact BK354.out) rfl rfl ?rm ?wk ?wv ?_; (case rm => exact (by have := GRM.out; unfold maxLen; (try simp only [mput, mdel, List.length_append, List.length_singleton]); omega)); (case wk => with_reducible first | exact WK.out | exact WK18.out | exact wf_wrap64 _ | exact own_wf BK354.out WK.out); (case wv => with_reducible first | exact WK.out | exact WK18.out | exact wf_wrap64 _ | exact own_wf BK354.out WK.out); intro w_644_2 hom_ hgr_; have HM644_2 := Aside0.mk hom_; have HG644_2 := Aside0.mk hgr_; clear hom_ hgr_) | (at_mapUpdate; refine putM_event (mb := gb355) (M := (mdel x356000_1 (mget x355000_1 t357))) (kx := (wrap64 (2 + t359))) (kv := t357) rfl rfl rfl (by (with_reducible repeat (first | refine own_drewN ?_ _ | refine own_drew ?_ | refine own_alloc ?_ _)); refine own_grown ?_ HG644_2.out (grown_ne NB355_354.out); (with_reducible repeat (first | refine own_drewN ?_ _ | refine own_drew ?_ | refine own_alloc ?_ _)); exact HM644_1.out) rfl rfl ?rm ?wk ?wv ?_; (case rm => exact (by have := GRM.out; unfold maxLen; (try simp only [mput, mdel, List.length_append, List.length_singleton]); omega)); (case wk => with_reducible first | exact WK.out | exact WK18.out | exact wf_wrap64 _ | exact own_wf BK354.out WK.out); (case wv => with_reducible first | exact WK.out | exact WK18.out | exact wf_wrap64 _ | exact own_wf BK354.out WK.out); intro w_644_3 hom_ hgr_; have HM644_3 := Aside0.mk hom_; have HG644_3 := Aside0.mk hgr_; clear hom_ hgr_)))
                            go_meet
                            case rel => exact ⟨_, (t367), (mput x355000_1 t357 (wrap64 (2 + t359))), (mput (mdel x356000_1 (mget x355000_1 t357)) (wrap64 (2 + t359)) t357), (.slice Ao59 t367.length co59), H', ⟨by have := HK1.out; have := HJ49.out; first | omega | exact Nat.le_refl _⟩, ⟨by (with_reducible repeat (first | apply Kd.V_alloc | apply Kd.V_drewN | apply Kd.V_drew)); exact Kd.V_mono (Kd.V_grown (Kd.V_grown (Kd.V_grown (Kd.V_far (p := ⟨gb353, 0, none⟩) (Kd.V_mono (Kd.V_mono (Kd.V_mono HO_372000.out (fun k_ hk => (⟨hk, hk.1⟩ : _ ∧ k_ ≠ gb353))) (fun k_ hk => (⟨hk, hk.1.2.2.1⟩ : _ ∧ k_ ≠ gb355))) (fun k_ hk => (⟨hk, hk.1.1.2.1⟩ : _ ∧ k_ ≠ gb354))) (fun _ hk => hk.1.1.2) (.slice Ao59 t367.length co59)) HG644_1.out (fun k_ hk_ => grown_ne ((fun _ hk => hk.1.2) k_ hk_))) HG644_2.out (fun k_ hk_ => grown_ne ((fun _ hk => hk.2) k_ hk_))) HG644_3.out (fun k_ hk_ => grown_ne ((fun _ hk => hk.1.2) k_ hk_))) (fun _ hk => ⟨hk.1.1.1.1, ⟨hk.1.1.1.2.1, hk.1.1.1.2.2.1⟩⟩)⟩, ⟨by (with_reducible repeat (first | refine blk_drewN ?_ _ | refine blk_drew ?_ | refine blk_alloc ?_ _)); refine blk_grown ?_ HG644_3.out (grown_ne NB353_355.out); (with_reducible repeat (first | refine blk_drewN ?_ _ | refine blk_drew ?_ | refine blk_alloc ?_ _)); refine blk_grown ?_ HG644_2.out (grown_ne NB353_354.out); (with_reducible repeat (first | refine blk_drewN ?_ _ | refine blk_drew ?_ | refine blk_alloc ?_ _)); refine blk_grown ?_ HG644_1.out (grown_ne NB353_355.out); (with_reducible repeat (first | refine blk_drewN ?_ _ | refine blk_drew ?_ | refine blk_alloc ?_ _)); refine blk_put (cs := #[.slice Ao56 x354000_1.length co56]) ?_ 0 _ rfl; (with_reducible repeat (first | refine blk_drewN ?_ _ | refine blk_drew ?_ | refine blk_alloc ?_ _)); exact BK353.out⟩, ⟨by (with_reducible repeat (first | refine own_drewN ?_ _ | refine own_drew ?_ | refine own_alloc ?_ _)); refine own_grown ?_ HG644_3.out (grown_ne NB354_355.out); (with_reducible repeat (first | refine own_drewN ?_ _ | refine own_drew ?_ | refine own_alloc ?_ _)); exact HM644_2.out⟩, ⟨by (with_reducible repeat (first | refine own_drewN ?_ _ | refine own_drew ?_ | refine own_alloc ?_ _)); exact HM644_3.out⟩, ⟨by repeat (first | (with_reducible first | exact HB.out | apply below_alloc | apply pw_below_drewN | apply below_drew1 | refine below_set ?_ GE353.out | refine below_set ?_ GE371.out | refine below_grown ?_ HG644_1.out GE355.out | refine below_grown ?_ HG644_2.out GE354.out | refine below_grown ?_ HG644_3.out GE355.out) | exact HB.out)⟩⟩
                          · rw [if_neg c67] at H
                            obtain rfl := Bool.eq_false_iff.mpr c67
                            have H' := Aside0.mk H
                            clear H
                            have hnb78 := NB371_353.out
                            have hnc78 := NB353_371.out
                            have hnb79 := NB371_354.out
                            have hnc79 := NB354_371.out
                            have hnb80 := NB371_355.out
                            have hnc80 := NB355_371.out
                            have hcz81_0 : wc.cell? ⟨gb371, 0, none⟩ = some (.slice Ao59 t367.length co59) := (blk_cell BK371.out 0).trans rfl
                            have hfz81_0 := blk_frozen BK371.out 0
                            have hnb82 := NB353_354.out
                            have hnc82 := NB354_353.out
                            have hnb83 := NB353_355.out
                            have hnc83 := NB355_353.out
                            have hcz84_0 : wc.cell? ⟨gb353, 0, none⟩ = some (.slice Ao56 x354000_1.length co56) := (blk_cell BK353.out 0).trans rfl
                            have hfz84_0 := blk_frozen BK353.out 0
                            have hnb85 := NB354_355.out
                            have hnc85 := NB355_354.out
                            go_wp2_with (first | (at_mapUpdate; refine putM_event (mb := gb354) (M := x355000_1) (kx := t357) (kv := (wrap64 (2 + t359))) rfl rfl rfl (by (with_reducible repeat (first | refine own_drewN ?_ _ | refine own_drew ?_ | refine own_alloc ?_ _)); refine own_far ?_ NB354_353.out _; (with_reducible repeat (first | refine own_drewN ?_ _ | refine own_drew ?_ | refine own_alloc ?_ _)); exact BK354.out) rfl rfl ?rm ?wk ?wv ?_; (case rm => exact (by have := GRM.out; unfold maxLen; (try simp only [mput, mdel, List.length_append, List.length_singleton]); omega)); (case wk => with_reducible first | exact WK.out | exact WK18.out | exact wf_wrap64 _ | exact own_wf BK354.out WK.out); (case wv => with_reducible first | exact WK.out | exact WK18.out | exact wf_wrap64 _ | exact own_wf BK354.out WK.out); intro w_669_1 hom_ hgr_; have HM669_1 := Aside0.mk hom_; have HG669_1 := Aside0.mk hgr_; clear hom_ hgr_) | (at_mapUpdate; refine putM_event (mb := gb355) (M := x356000_1) (kx := (wrap64 (2 + t359))) (kv := t357) rfl rfl rfl (by (with_reducible repeat (first | refine own_drewN ?_ _ | refine own_drew ?_ | refine own_alloc ?_ _)); refine own_grown ?_ HG669_1.out (grown_ne NB355_354.out); (with_reducible repeat (first | refine own_drewN ?_ _ | refine own_drew ?_ | refine own_alloc ?_ _)); refine own_far ?_ NB355_353.out _; (with_reducible repeat (first | refine own_drewN ?_ _ | refine own_drew ?_ | refine own_alloc ?_ _)); exact BK355.out) rfl rfl ?rm ?wk ?wv ?_; (case rm => exact (by have := GRM.out; unfold maxLen; (try simp only [mput, mdel, List.length_append, List.length_singleton]); omega)); (case wk => with_reducible first | exact WK.out | exact WK18.out | exact wf_wrap64 _ | exact own_wf BK354.out WK.out); (case wv => with_reducible first | exact WK.out | exact WK18.out | exact wf_wrap64 _ | exact own_wf BK354.out WK.out); intro w_669_2 hom_ hgr_; have HM669_2 := Aside0.mk hom_; have HG669_2 := Aside0.mk hgr_; clear hom_ hgr_))
                            repeat (go_quiet (first | (at_mapUpdate; refine putM_event (mb := gb354) (M := x355000_1) (kx := t357) (kv := (wrap64 (2 + t359))) rfl rfl rfl (by (with_reducible repeat (first | refine own_drewN ?_ _ | refine own_drew ?_ | refine own_alloc ?_ _)); refine own_far ?_ NB354_353.out _; (with_reducible repeat (first | refine own_drewN ?_ _ | refine own_drew ?_ | refine own_alloc ?_ _)); exact BK354.out) rfl rfl ?rm ?wk ?wv ?_; (case rm => exact (by have := GRM.out; unfold maxLen; (try simp only [mput, mdel, List.length_append, List.length_singleton]); omega)); (case wk => with_reducible first | exact WK.out | exact WK18.out | exact wf_wrap64 _ | exact own_wf BK354.out WK.out); (case wv => with_reducible first | exact WK.out | exact WK18.out | exact wf_wrap64 _ | exact own_wf BK354.out WK.out); intro w_669_1 hom_ hgr_; have HM669_1 := Aside0.mk hom_; have HG669_1 := Aside0.mk hgr_; clear hom_ hgr_) | (at_mapUpdate; refine putM_event (mb := gb355) (M := x356000_1) (kx := (wrap64 (2 + t359))) (kv := t357) rfl rfl rfl (by (with_reducible repeat (first | refine own_drewN ?_ _ | refine own_drew ?_ | refine own_alloc ?_ _)); refine own_grown ?_ HG669_1.out (grown_ne NB355_354.out); (with_reducible repeat (first | refine own_drewN ?_ _ | refine own_drew ?_ | refine own_alloc ?_ _)); refine own_far ?_ NB355_353.out _; (with_reducible repeat (first | refine own_drewN ?_ _ | refine own_drew ?_ | refine own_alloc ?_ _)); exact BK355.out) rfl rfl ?rm ?wk ?wv ?_; (case rm => exact (by have := GRM.out; unfold maxLen; (try simp only [mput, mdel, List.length_append, List.length_singleton]); omega)); (case wk => with_reducible first | exact WK.out | exact WK18.out | exact wf_wrap64 _ | exact own_wf BK354.out WK.out); (case wv => with_reducible first | exact WK.out | exact WK18.out | exact wf_wrap64 _ | exact own_wf BK354.out WK.out); intro w_669_2 hom_ hgr_; have HM669_2 := Aside0.mk hom_; have HG669_2 := Aside0.mk hgr_; clear hom_ hgr_)); try go_wp2_with (first | (at_mapUpdate; refine putM_event (mb := gb354) (M := x355000_1) (kx := t357) (kv := (wrap64 (2 + t359))) rfl rfl rfl (by (with_reducible repeat (first | refine own_drewN ?_ _ | refine own_drew ?_ | refine own_alloc ?_ _)); refine own_far ?_ NB354_353.out _; (with_reducible repeat (first | refine own_drewN ?_ _ | refine own_drew ?_ | refine own_alloc ?_ _)); exact BK354.out) rfl rfl ?rm ?wk ?wv ?_; (case rm => exact (by have := GRM.out; unfold maxLen; (try simp only [mput, mdel, List.length_append, List.length_singleton]); omega)); (case wk => with_reducible first | exact WK.out | exact WK18.out | exact wf_wrap64 _ | exact own_wf BK354.out WK.out); (case wv => with_reducible first | exact WK.out | exact WK18.out | exact wf_wrap64 _ | exact own_wf BK354.out WK.out); intro w_669_1 hom_ hgr_; have HM669_1 := Aside0.mk hom_; have HG669_1 := Aside0.mk hgr_; clear hom_ hgr_) | (at_mapUpdate; refine putM_event (mb := gb355) (M := x356000_1) (kx := (wrap64 (2 + t359))) (kv := t357) rfl rfl rfl (by (with_reducible repeat (first | refine own_drewN ?_ _ | refine own_drew ?_ | refine own_alloc ?_ _)); refine own_grown ?_ HG669_1.out (grown_ne NB355_354.out); (with_reducible repeat (first | refine own_drewN ?_ _ | refine own_drew ?_ | refine own_alloc ?_ _)); refine own_far ?_ NB355_353.out _; (with_reducible repeat (first | refine own_drewN ?_ _ | refine own_drew ?_ | refine own_alloc ?_ _)); exact BK355.out) rfl rfl ?rm ?wk ?wv ?_; (case rm => exact (by have := GRM.out; unfold maxLen; (try simp only [mput, mdel, List.length_append, List.length_singleton]); omega)); (case wk => with_reducible first | exact WK.out | exact WK18.out | exact wf_wrap64 _ | exact own_wf BK354.out WK.out); (case wv => with_reducible first | exact WK.out | exact WK18.out | exact wf_wrap64 _ | exact own_wf BK354.out WK.out); intro w_669_2 hom_ hgr_; have HM669_2 := Aside0.mk hom_; have HG669_2 := Aside0.mk hgr_; clear hom_ hgr_)))
                            go_meet
                            case rel => exact ⟨_, (t367), (mput x355000_1 t357 (wrap64 (2 + t359))), (mput x356000_1 (wrap64 (2 + t359)) t357), (.slice Ao59 t367.length co59), H', ⟨by have := HK1.out; have := HJ49.out; first | omega | exact Nat.le_refl _⟩, ⟨by (with_reducible repeat (first | apply Kd.V_alloc | apply Kd.V_drewN | apply Kd.V_drew)); exact Kd.V_mono (Kd.V_grown (Kd.V_grown (Kd.V_far (p := ⟨gb353, 0, none⟩) (Kd.V_mono (Kd.V_mono (Kd.V_mono HO_372000.out (fun k_ hk => (⟨hk, hk.1⟩ : _ ∧ k_ ≠ gb353))) (fun k_ hk => (⟨hk, hk.1.2.1⟩ : _ ∧ k_ ≠ gb354))) (fun k_ hk => (⟨hk, hk.1.1.2.2.1⟩ : _ ∧ k_ ≠ gb355))) (fun _ hk => hk.1.1.2) (.slice Ao59 t367.length co59)) HG669_1.out (fun k_ hk_ => grown_ne ((fun _ hk => hk.1.2) k_ hk_))) HG669_2.out (fun k_ hk_ => grown_ne ((fun _ hk => hk.2) k_ hk_))) (fun _ hk => ⟨hk.1.1.1.1, ⟨hk.1.1.1.2.1, hk.1.1.1.2.2.1⟩⟩)⟩, ⟨by (with_reducible repeat (first | refine blk_drewN ?_ _ | refine blk_drew ?_ | refine blk_alloc ?_ _)); refine blk_grown ?_ HG669_2.out (grown_ne NB353_355.out); (with_reducible repeat (first | refine blk_drewN ?_ _ | refine blk_drew ?_ | refine blk_alloc ?_ _)); refine blk_grown ?_ HG669_1.out (grown_ne NB353_354.out); (with_reducible repeat (first | refine blk_drewN ?_ _ | refine blk_drew ?_ | refine blk_alloc ?_ _)); refine blk_put (cs := #[.slice Ao56 x354000_1.length co56]) ?_ 0 _ rfl; (with_reducible repeat (first | refine blk_drewN ?_ _ | refine blk_drew ?_ | refine blk_alloc ?_ _)); exact BK353.out⟩, ⟨by (with_reducible repeat (first | refine own_drewN ?_ _ | refine own_drew ?_ | refine own_alloc ?_ _)); refine own_grown ?_ HG669_2.out (grown_ne NB354_355.out); (with_reducible repeat (first | refine own_drewN ?_ _ | refine own_drew ?_ | refine own_alloc ?_ _)); exact HM669_1.out⟩, ⟨by (with_reducible repeat (first | refine own_drewN ?_ _ | refine own_drew ?_ | refine own_alloc ?_ _)); exact HM669_2.out⟩, ⟨by repeat (first | (with_reducible first | exact HB.out | apply below_alloc | apply pw_below_drewN | apply below_drew1 | refine below_set ?_ GE353.out | refine below_set ?_ GE371.out | refine below_grown ?_ HG669_1.out GE354.out | refine below_grown ?_ HG669_2.out GE355.out) | exact HB.out)⟩⟩
                        · rw [if_neg c66] at H
                          have c66b0 : (t370 == 0) = false := beq_eq_false_iff_ne.mpr c66
                          have c66b1 : (t370 != 0) = true := bne_iff_ne.mpr c66
                          have H' := Aside0.mk H
                          clear H
                          go_wp2
                          repeat (go_quiet (fail); try go_wp2)
                          go_meet
                          case rel => exact ⟨_, (x354000_1), (x355000_1), (x356000_1), (.slice Ao56 x354000_1.length co56), H', ⟨by have := HK1.out; have := HJ49.out; first | omega | exact Nat.le_refl _⟩, ⟨by (with_reducible repeat (first | apply Kd.V_alloc | apply Kd.V_drewN | apply Kd.V_drew)); exact Kd.V_mono HO_354000.out (fun _ hk => ⟨hk.1, ⟨hk.2.1, hk.2.2.1⟩⟩)⟩, ⟨by (with_reducible repeat (first | refine blk_drewN ?_ _ | refine blk_drew ?_ | refine blk_alloc ?_ _)); exact BK353.out⟩, ⟨by (with_reducible repeat (first | refine own_drewN ?_ _ | refine own_drew ?_ | refine own_alloc ?_ _)); exact BK354.out⟩, ⟨by (with_reducible repeat (first | refine own_drewN ?_ _ | refine own_drew ?_ | refine own_alloc ?_ _)); exact BK355.out⟩, ⟨by repeat (first | (with_reducible first | exact HB.out | apply below_alloc | apply pw_below_drewN | apply below_drew1 | refine below_set ?_ GE353.out | refine below_set ?_ GE354.out | refine below_set ?_ GE355.out | refine below_set ?_ GE371.out) | exact HB.out)⟩⟩
              case rest =>
                clear HC15
                try clear c1
                try clear c2
                try clear p2
                try clear c3
                try clear p3
                try clear q3
                try clear hx3
                try clear c4
                try clear c4b0
                try clear c4b1
                try clear c5
                try clear c6
                try clear p6
                try clear c7
                try clear c8
                try clear c10
                try clear c10b0
                try clear c11
                try clear c11b0
                try clear c16
                try clear c17
                try clear c19
                try clear c19b0
                try clear c19b1
                try clear c21
                try clear c21b0
                try clear c21b1
                try clear c21b2
                try clear c22
                try clear c22b0
                try clear c22b1
                try clear c23
                try clear c24
                try clear c30
                try clear c31
                try clear c32
                try clear c35
                try clear p35
                try clear q35
                try clear hx35
                try clear p36
                try clear q36
                try clear hx36
                try clear c38
                try clear c39
                try clear c45
                try clear c46
                try clear c47
                try clear c51
                try clear c52
                try clear c54
                try clear c60
                try clear c61
                try clear c62
                try clear c64
                try clear c64b0
                try clear p64
                try clear c65
                try clear c66
                try clear c66b0
                try clear c66b1
                try clear c67
                try clear c67b0
                try clear c68
                try clear c69
                try clear c70
                try clear c72
                try clear c73
                try clear c75
                try clear c78
                try clear c79
                try clear c80
                try clear c82
                try clear c83
                try clear c85
                try clear hcz18_0
                try clear hcz25_0
                try clear hcz33_0
                try clear hcz34_0
                try clear hcz36_0
                try clear hcz37_0
                try clear hcz40_0
                try clear hcz48_0
                try clear hcz53_0
                try clear hcz55_0
                try clear hcz63_0
                try clear hcz71_0
                try clear hcz74_0
                try clear hcz76_0
                try clear hcz77_0
                try clear hcz81_0
                try clear hcz84_0
                try clear hcz86_0
                try clear hcz87_0
                try clear hfz18_0
                try clear hfz25_0
                try clear hfz33_0
                try clear hfz34_0
                try clear hfz36_0
                try clear hfz37_0
                try clear hfz40_0
                try clear hfz48_0
                try clear hfz53_0
                try clear hfz55_0
                try clear hfz63_0
                try clear hfz71_0
                try clear hfz74_0
                try clear hfz76_0
                try clear hfz77_0
                try clear hfz81_0
                try clear hfz84_0
                try clear hfz86_0
                try clear hfz87_0
                try clear hx356_0
                try clear hx356_1
                try clear hx356_2
                try clear hx358_0
                try clear hx358_1
                try clear hx358_2
                try clear hx360_0
                try clear hx360_1
                try clear hx360_2
                try clear p2
                try clear p3
                try clear p35
                try clear p356
                try clear p358
                try clear p36
                try clear p360
                try clear p6
                try clear p64
                try clear q3
                try clear q35
                try clear q356
                try clear q358
                try clear q36
                try clear q360
                obtain ⟨kq, x354000_14, x355000_14, x356000_14, u354000, HA, HJ14, HO_354000, BK353, BK354, BK355, HB⟩ := hcut
                cases kq with
                | zero => exact absurd HA.out (by simp [tallymanlaw10_TableTells.j2])
                | succ kj14 =>
                  have H := HA.out
                  clear HA
                  simp only [tallymanlaw10_TableTells.j2] at H
                  replace H := Option.bind_eq_some_iff.mp H
                  obtain ⟨t372, A880, H⟩ := H
                  replace H : (if t372 = 0 then ((table_Count.f kj14 x354000_14).bind fun t373 => (if t373 = (mlen x355000_14) then (tallymanlaw10_TableTells.l0 kj14 l0 (wrap64 (x6_1 + 1)) x354000_14 x355000_14 x356000_14) else (none))) else (none)) = some r := H
                  have A88 := Aside0.mk A880
                  clear A880
                  by_cases c89 : t372 = 0
                  · rw [if_pos c89] at H
                    have c89b0 : (t372 == 0) = true := beq_iff_eq.mpr c89
                    have c89b1 : (t372 != 0) = false := bne_eq_false_iff_eq.mpr c89
                    clear c89
                    replace H := Option.bind_eq_some_iff.mp H
                    obtain ⟨t373, A900, H⟩ := H
                    replace H : (if t373 = (mlen x355000_14) then (tallymanlaw10_TableTells.l0 kj14 l0 (wrap64 (x6_1 + 1)) x354000_14 x355000_14 x356000_14) else (none)) = some r := H
                    have A90 := Aside0.mk A900
                    clear A900
                    by_cases c91 : t373 = (mlen x355000_14)
                    · rw [if_pos c91] at H
                      have c91b0 : (t373 == (mlen x355000_14)) = true := beq_iff_eq.mpr c91
                      have c91b1 : (t373 != (mlen x355000_14)) = false := bne_eq_false_iff_eq.mpr c91
                      clear c91
                      have H' := Aside0.mk H
                      clear H
                      have hnb92 := NB353_354.out
                      have hnc92 := NB354_353.out
                      have hnb93 := NB353_355.out
                      have hnc93 := NB355_353.out
                      have hcz94_0 : wc.cell? ⟨gb353, 0, none⟩ = some (u354000) := (blk_cell BK353.out 0).trans rfl
                      have hfz94_0 := blk_frozen BK353.out 0
                      obtain ⟨Ao95, co95, eo95⟩ := Kd.V_slice HO_354000.out
                      subst eo95
                      go_wp2_with (first | (at_len; first | refine lenM_event (mb := gb354) (M := x355000_14) rfl rfl rfl (by (with_reducible repeat (first | refine own_drewN ?_ _ | refine own_drew ?_ | refine own_alloc ?_ _)); exact BK354.out) ?_ | (refine gate_guard rfl ?_; refine lenM_event (mb := gb354) (M := x355000_14) rfl rfl rfl (by (with_reducible repeat (first | refine own_drewN ?_ _ | refine own_drew ?_ | refine own_alloc ?_ _)); exact BK354.out) ?_)) | (go_at_call 9; (with_reducible refine (table_Check.calls _ _ x354000_14 t372 _ ?side1 ?side2 A88.out).mono ?_); (case side1 => repeat (first | exact (Kd.V_reads' HO_354000.out).2.2 | (with_reducible refine Kd.C_alloc ?_ _) | (with_reducible refine Kd.C_drewN ?_ _) | (with_reducible refine Kd.C_drew ?_))); (case side2 => exact (Kd.V_reads' HO_354000.out).2.1); rintro e w96 ⟨rfl, hb⟩; have n0_ := Aside0.mk (Kd.V_below (by (with_reducible repeat (first | apply Kd.V_alloc | apply Kd.V_drewN | apply Kd.V_drew)); exact HO_354000.out) hb); have n1_ := Aside0.mk (blk_below (g := gb353) (o := .cells #[.slice Ao95 x354000_14.length co95] 24 (0, 0)) (by (with_reducible repeat (first | refine blk_drewN ?_ _ | refine blk_drew ?_ | refine blk_alloc ?_ _)); exact BK353.out) hb); have n2_ := Aside0.mk (own_below (mb := gb354) (M := x355000_14) (by (with_reducible repeat (first | refine own_drewN ?_ _ | refine own_drew ?_ | refine own_alloc ?_ _)); exact BK354.out) hb); have n3_ := Aside0.mk (own_below (mb := gb355) (M := x356000_14) (by (with_reducible repeat (first | refine own_drewN ?_ _ | refine own_drew ?_ | refine own_alloc ?_ _)); exact BK355.out) hb); have n4_ := Aside0.mk (below_step (by repeat (first | (with_reducible first | exact HB.out | apply below_alloc | apply pw_below_drewN | apply below_drew1 | refine below_set ?_ GE353.out | refine below_set ?_ GE354.out | refine below_set ?_ GE355.out) | exact HB.out)) hb); clear HO_354000; clear BK353; clear BK354; clear BK355; clear HB; have HO_354000 := n0_; have BK353 := n1_; have BK354 := n2_; have BK355 := n3_; have HB := n4_; clear n0_ n1_ n2_ n3_ n4_; (try clear hb); (try clear hb2); (try clear hk); (try clear hi); have hcz97_0 : w96.cell? ⟨gb353, 0, none⟩ = some (.slice Ao95 x354000_14.length co95) := (blk_cell BK353.out 0).trans rfl; have hfz97_0 := blk_frozen BK353.out 0) | (go_at_call 14; (with_reducible refine (table_Count.calls kj14 _ _ x354000_14 t373 _ ?side1 ?side2 A90.out).mono ?_); (case side1 => repeat (first | exact (Kd.V_reads' HO_354000.out).2.2 | (with_reducible refine Kd.C_alloc ?_ _) | (with_reducible refine Kd.C_drewN ?_ _) | (with_reducible refine Kd.C_drew ?_))); (case side2 => exact (Kd.V_reads' HO_354000.out).2.1); rintro e w98 ⟨rfl, hb⟩; have n0_ := Aside0.mk (Kd.V_below (by (with_reducible repeat (first | apply Kd.V_alloc | apply Kd.V_drewN | apply Kd.V_drew)); exact HO_354000.out) hb); have n1_ := Aside0.mk (blk_below (g := gb353) (o := .cells #[.slice Ao95 x354000_14.length co95] 24 (0, 0)) (by (with_reducible repeat (first | refine blk_drewN ?_ _ | refine blk_drew ?_ | refine blk_alloc ?_ _)); exact BK353.out) hb); have n2_ := Aside0.mk (own_below (mb := gb354) (M := x355000_14) (by (with_reducible repeat (first | refine own_drewN ?_ _ | refine own_drew ?_ | refine own_alloc ?_ _)); exact BK354.out) hb); have n3_ := Aside0.mk (own_below (mb := gb355) (M := x356000_14) (by (with_reducible repeat (first | refine own_drewN ?_ _ | refine own_drew ?_ | refine own_alloc ?_ _)); exact BK355.out) hb); have n4_ := Aside0.mk (below_step (by repeat (first | (with_reducible first | exact HB.out | apply below_alloc | apply pw_below_drewN | apply below_drew1 | refine below_set ?_ GE353.out | refine below_set ?_ GE354.out | refine below_set ?_ GE355.out) | exact HB.out)) hb); clear HO_354000; clear BK353; clear BK354; clear BK355; clear HB; have HO_354000 := n0_; have BK353 := n1_; have BK354 := n2_; have BK355 := n3_; have HB := n4_; clear n0_ n1_ n2_ n3_ n4_; (try clear hb); (try clear hb2); (try clear hk); (try clear hi); have hnb99 := NB354_355.out; have hnc99 := NB355_354.out))
                      repeat (go_quiet (first | (at_len; first | refine lenM_event (mb := gb354) (M := x355000_14) rfl rfl rfl (by (with_reducible repeat (first | refine own_drewN ?_ _ | refine own_drew ?_ | refine own_alloc ?_ _)); exact BK354.out) ?_ | (refine gate_guard rfl ?_; refine lenM_event (mb := gb354) (M := x355000_14) rfl rfl rfl (by (with_reducible repeat (first | refine own_drewN ?_ _ | refine own_drew ?_ | refine own_alloc ?_ _)); exact BK354.out) ?_)) | (go_at_call 9; (with_reducible refine (table_Check.calls _ _ x354000_14 t372 _ ?side1 ?side2 A88.out).mono ?_); (case side1 => repeat (first | exact (Kd.V_reads' HO_354000.out).2.2 | (with_reducible refine Kd.C_alloc ?_ _) | (with_reducible refine Kd.C_drewN ?_ _) | (with_reducible refine Kd.C_drew ?_))); (case side2 => exact (Kd.V_reads' HO_354000.out).2.1); rintro e w96 ⟨rfl, hb⟩; have n0_ := Aside0.mk (Kd.V_below (by (with_reducible repeat (first | apply Kd.V_alloc | apply Kd.V_drewN | apply Kd.V_drew)); exact HO_354000.out) hb); have n1_ := Aside0.mk (blk_below (g := gb353) (o := .cells #[.slice Ao95 x354000_14.length co95] 24 (0, 0)) (by (with_reducible repeat (first | refine blk_drewN ?_ _ | refine blk_drew ?_ | refine blk_alloc ?_ _)); exact BK353.out) hb); have n2_ := Aside0.mk (own_below (mb := gb354) (M := x355000_14) (by (with_reducible repeat (first | refine own_drewN ?_ _ | refine own_drew ?_ | refine own_alloc ?_ _)); exact BK354.out) hb); have n3_ := Aside0.mk (own_below (mb := gb355) (M := x356000_14) (by (with_reducible repeat (first | refine own_drewN ?_ _ | refine own_drew ?_ | refine own_alloc ?_ _)); exact BK355.out) hb); have n4_ := Aside0.mk (below_step (by repeat (first | (with_reducible first | exact HB.out | apply below_alloc | apply pw_below_drewN | apply below_drew1 | refine below_set ?_ GE353.out | refine below_set ?_ GE354.out | refine below_set ?_ GE355.out) | exact HB.out)) hb); clear HO_354000; clear BK353; clear BK354; clear BK355; clear HB; have HO_354000 := n0_; have BK353 := n1_; have BK354 := n2_; have BK355 := n3_; have HB := n4_; clear n0_ n1_ n2_ n3_ n4_; (try clear hb); (try clear hb2); (try clear hk); (try clear hi); have hcz97_0 : w96.cell? ⟨gb353, 0, none⟩ = some (.slice Ao95 x354000_14.length co95) := (blk_cell BK353.out 0).trans rfl; have hfz97_0 := blk_frozen BK353.out 0) | (go_at_call 14; (with_reducible refine (table_Count.calls kj14 _ _ x354000_14 t373 _ ?side1 ?side2 A90.out).mono ?_); (case side1 => repeat (first | exact (Kd.V_reads' HO_354000.out).2.2 | (with_reducible refine Kd.C_alloc ?_ _) | (with_reducible refine Kd.C_drewN ?_ _) | (with_reducible refine Kd.C_drew ?_))); (case side2 => exact (Kd.V_reads' HO_354000.out).2.1); rintro e w98 ⟨rfl, hb⟩; have n0_ := Aside0.mk (Kd.V_below (by (with_reducible repeat (first | apply Kd.V_alloc | apply Kd.V_drewN | apply Kd.V_drew)); exact HO_354000.out) hb); have n1_ := Aside0.mk (blk_below (g := gb353) (o := .cells #[.slice Ao95 x354000_14.length co95] 24 (0, 0)) (by (with_reducible repeat (first | refine blk_drewN ?_ _ | refine blk_drew ?_ | refine blk_alloc ?_ _)); exact BK353.out) hb); have n2_ := Aside0.mk (own_below (mb := gb354) (M := x355000_14) (by (with_reducible repeat (first | refine own_drewN ?_ _ | refine own_drew ?_ | refine own_alloc ?_ _)); exact BK354.out) hb); have n3_ := Aside0.mk (own_below (mb := gb355) (M := x356000_14) (by (with_reducible repeat (first | refine own_drewN ?_ _ | refine own_drew ?_ | refine own_alloc ?_ _)); exact BK355.out) hb); have n4_ := Aside0.mk (below_step (by repeat (first | (with_reducible first | exact HB.out | apply below_alloc | apply pw_below_drewN | apply below_drew1 | refine below_set ?_ GE353.out | refine below_set ?_ GE354.out | refine below_set ?_ GE355.out) | exact HB.out)) hb); clear HO_354000; clear BK353; clear BK354; clear BK355; clear HB; have HO_354000 := n0_; have BK353 := n1_; have BK354 := n2_; have BK355 := n3_; have HB := n4_; clear n0_ n1_ n2_ n3_ n4_; (try clear hb); (try clear hb2); (try clear hk); (try clear hi); have hnb99 := NB354_355.out; have hnc99 := NB355_354.out)); try go_wp2_with (first | (at_len; first | refine lenM_event (mb := gb354) (M := x355000_14) rfl rfl rfl (by (with_reducible repeat (first | refine own_drewN ?_ _ | refine own_drew ?_ | refine own_alloc ?_ _)); exact BK354.out) ?_ | (refine gate_guard rfl ?_; refine lenM_event (mb := gb354) (M := x355000_14) rfl rfl rfl (by (with_reducible repeat (first | refine own_drewN ?_ _ | refine own_drew ?_ | refine own_alloc ?_ _)); exact BK354.out) ?_)) | (go_at_call 9; (with_reducible refine (table_Check.calls _ _ x354000_14 t372 _ ?side1 ?side2 A88.out).mono ?_); (case side1 => repeat (first | exact (Kd.V_reads' HO_354000.out).2.2 | (with_reducible refine Kd.C_alloc ?_ _) | (with_reducible refine Kd.C_drewN ?_ _) | (with_reducible refine Kd.C_drew ?_))); (case side2 => exact (Kd.V_reads' HO_354000.out).2.1); rintro e w96 ⟨rfl, hb⟩; have n0_ := Aside0.mk (Kd.V_below (by (with_reducible repeat (first | apply Kd.V_alloc | apply Kd.V_drewN | apply Kd.V_drew)); exact HO_354000.out) hb); have n1_ := Aside0.mk (blk_below (g := gb353) (o := .cells #[.slice Ao95 x354000_14.length co95] 24 (0, 0)) (by (with_reducible repeat (first | refine blk_drewN ?_ _ | refine blk_drew ?_ | refine blk_alloc ?_ _)); exact BK353.out) hb); have n2_ := Aside0.mk (own_below (mb := gb354) (M := x355000_14) (by (with_reducible repeat (first | refine own_drewN ?_ _ | refine own_drew ?_ | refine own_alloc ?_ _)); exact BK354.out) hb); have n3_ := Aside0.mk (own_below (mb := gb355) (M := x356000_14) (by (with_reducible repeat (first | refine own_drewN ?_ _ | refine own_drew ?_ | refine own_alloc ?_ _)); exact BK355.out) hb); have n4_ := Aside0.mk (below_step (by repeat (first | (with_reducible first | exact HB.out | apply below_alloc | apply pw_below_drewN | apply below_drew1 | refine below_set ?_ GE353.out | refine below_set ?_ GE354.out | refine below_set ?_ GE355.out) | exact HB.out)) hb); clear HO_354000; clear BK353; clear BK354; clear BK355; clear HB; have HO_354000 := n0_; have BK353 := n1_; have BK354 := n2_; have BK355 := n3_; have HB := n4_; clear n0_ n1_ n2_ n3_ n4_; (try clear hb); (try clear hb2); (try clear hk); (try clear hi); have hcz97_0 : w96.cell? ⟨gb353, 0, none⟩ = some (.slice Ao95 x354000_14.length co95) := (blk_cell BK353.out 0).trans rfl; have hfz97_0 := blk_frozen BK353.out 0) | (go_at_call 14; (with_reducible refine (table_Count.calls kj14 _ _ x354000_14 t373 _ ?side1 ?side2 A90.out).mono ?_); (case side1 => repeat (first | exact (Kd.V_reads' HO_354000.out).2.2 | (with_reducible refine Kd.C_alloc ?_ _) | (with_reducible refine Kd.C_drewN ?_ _) | (with_reducible refine Kd.C_drew ?_))); (case side2 => exact (Kd.V_reads' HO_354000.out).2.1); rintro e w98 ⟨rfl, hb⟩; have n0_ := Aside0.mk (Kd.V_below (by (with_reducible repeat (first | apply Kd.V_alloc | apply Kd.V_drewN | apply Kd.V_drew)); exact HO_354000.out) hb); have n1_ := Aside0.mk (blk_below (g := gb353) (o := .cells #[.slice Ao95 x354000_14.length co95] 24 (0, 0)) (by (with_reducible repeat (first | refine blk_drewN ?_ _ | refine blk_drew ?_ | refine blk_alloc ?_ _)); exact BK353.out) hb); have n2_ := Aside0.mk (own_below (mb := gb354) (M := x355000_14) (by (with_reducible repeat (first | refine own_drewN ?_ _ | refine own_drew ?_ | refine own_alloc ?_ _)); exact BK354.out) hb); have n3_ := Aside0.mk (own_below (mb := gb355) (M := x356000_14) (by (with_reducible repeat (first | refine own_drewN ?_ _ | refine own_drew ?_ | refine own_alloc ?_ _)); exact BK355.out) hb); have n4_ := Aside0.mk (below_step (by repeat (first | (with_reducible first | exact HB.out | apply below_alloc | apply pw_below_drewN | apply below_drew1 | refine below_set ?_ GE353.out | refine below_set ?_ GE354.out | refine below_set ?_ GE355.out) | exact HB.out)) hb); clear HO_354000; clear BK353; clear BK354; clear BK355; clear HB; have HO_354000 := n0_; have BK353 := n1_; have BK354 := n2_; have BK355 := n3_; have HB := n4_; clear n0_ n1_ n2_ n3_ n4_; (try clear hb); (try clear hb2); (try clear hk); (try clear hi); have hnb99 := NB354_355.out; have hnc99 := NB355_354.out)))
                      go_roundg kj14
                      case measure => have := HK1.out; have := HJ14.out; omega
                      case rel => exact ⟨(wrap64 (x6_1 + 1)), (x354000_14), (x355000_14), (x356000_14), (.slice Ao95 x354000_14.length co95), (by first | rfl | (simp; done) | (simp [*]; done)), H', ⟨by have := HK1.out; have := HJ14.out; omega⟩, ⟨by (with_reducible repeat (first | apply Kd.V_alloc | apply Kd.V_drewN | apply Kd.V_drew)); exact HO_354000.out⟩, ⟨by (with_reducible repeat (first | refine blk_drewN ?_ _ | refine blk_drew ?_ | refine blk_alloc ?_ _)); exact BK353.out⟩, ⟨by (with_reducible repeat (first | refine own_drewN ?_ _ | refine own_drew ?_ | refine own_alloc ?_ _)); exact BK354.out⟩, ⟨by (with_reducible repeat (first | refine own_drewN ?_ _ | refine own_drew ?_ | refine own_alloc ?_ _)); exact BK355.out⟩, ⟨by repeat (first | (with_reducible first | exact HB.out | apply below_alloc | apply pw_below_drewN | apply below_drew1 | refine below_set ?_ GE353.out | refine below_set ?_ GE354.out | refine below_set ?_ GE355.out) | exact HB.out)⟩⟩
                    · rw [if_neg c91] at H
                      exact absurd H (by simp)
                  · rw [if_neg c89] at H
                    have c89b0 : (t372 == 0) = false := beq_eq_false_iff_ne.mpr c89
                    have c89b1 : (t372 != 0) = true := bne_iff_ne.mpr c89
                    exact absurd H (by simp)
            · rw [if_neg c11] at H
              exact absurd H (by simp)
          · rw [if_neg c10] at H
            have c10b0 : decide (x6_1 < (l0.length : Int)) = false := decide_eq_false c10
            clear c10
            have H' := Aside0.mk H
            clear H
            go_wp2
            repeat (go_quiet (fail); try go_wp2)
            go_loopg [17, 18] k1 (fun kq v17 v18 w' => ∃ (x17_2 : Int) (x18_2 : Int), v17 = .int .i64 x17_2 ∧ v18 = .int .i64 x18_2 ∧ Aside0 (tallymanlaw10_TableTells.l1 kq x17_2 x18_2 x354000_1 x355000_1 = some r) ∧ Aside0 (kq ≤ k1) ∧ Aside0 (Kd.V (Kd.int .i64) 3 w' w.heap.size (fun k_ => k_ ≠ gb353 ∧ k_ ≠ gb354 ∧ k_ ≠ gb355) u354000 x354000_1) ∧ Aside0 (w'.heap[gb353]? = some (.cells #[u354000] 24 (0, 0))) ∧ Aside0 (OwnsM w' gb354 x355000_1) ∧ Aside0 (OwnsM w' gb355 x356000_1) ∧ Aside0 (Below w.heap.size w w'))
            case atStart => exact ⟨(0), (0), (by first | rfl | (simp; done) | (simp [*]; done)), (by first | rfl | (simp; done) | (simp [*]; done)), H', ⟨Nat.le_refl _⟩, ⟨by (with_reducible repeat (first | apply Kd.V_alloc | apply Kd.V_drewN | apply Kd.V_drew)); exact HO_354000.out⟩, ⟨by (with_reducible repeat (first | refine blk_drewN ?_ _ | refine blk_drew ?_ | refine blk_alloc ?_ _)); exact BK353.out⟩, ⟨by (with_reducible repeat (first | refine own_drewN ?_ _ | refine own_drew ?_ | refine own_alloc ?_ _)); exact BK354.out⟩, ⟨by (with_reducible repeat (first | refine own_drewN ?_ _ | refine own_drew ?_ | refine own_alloc ?_ _)); exact BK355.out⟩, ⟨by repeat (first | (with_reducible first | exact HB.out | apply below_alloc | apply pw_below_drewN | apply below_drew1 | refine below_set ?_ GE353.out | refine below_set ?_ GE354.out | refine below_set ?_ GE355.out) | exact HB.out)⟩⟩
            case round =>
              clear H'
              try clear c1
              try clear c2
              try clear p2
              try clear c3
              try clear p3
              try clear q3
              try clear hx3
              try clear c4
              try clear c4b0
              try clear c4b1
              try clear c5
              try clear c6
              try clear p6
              try clear c7
              try clear c8
              try clear c9
              try clear c10
              try clear c10b0
              try clear c11
              try clear c11b0
              try clear c16
              try clear c17
              try clear c19
              try clear c19b0
              try clear c19b1
              try clear c21
              try clear c21b0
              try clear c21b1
              try clear c21b2
              try clear c22
              try clear c22b0
              try clear c22b1
              try clear c23
              try clear c24
              try clear c30
              try clear c31
              try clear c32
              try clear c35
              try clear p35
              try clear q35
              try clear hx35
              try clear p36
              try clear q36
              try clear hx36
              try clear c38
              try clear c39
              try clear c45
              try clear c46
              try clear c47
              try clear c51
              try clear c52
              try clear c54
              try clear c60
              try clear c61
              try clear c62
              try clear c64
              try clear c64b0
              try clear p64
              try clear c65
              try clear c66
              try clear c66b0
              try clear c66b1
              try clear c67
              try clear c67b0
              try clear c68
              try clear c69
              try clear c70
              try clear c72
              try clear c73
              try clear c75
              try clear c78
              try clear c79
              try clear c80
              try clear c82
              try clear c83
              try clear c85
              try clear c89
              try clear c89b0
              try clear c89b1
              try clear c91
              try clear c91b0
              try clear c91b1
              try clear c92
              try clear c93
              try clear c99
              try clear hcz100_0
              try clear hcz18_0
              try clear hcz25_0
              try clear hcz33_0
              try clear hcz34_0
              try clear hcz36_0
              try clear hcz37_0
              try clear hcz40_0
              try clear hcz48_0
              try clear hcz53_0
              try clear hcz55_0
              try clear hcz63_0
              try clear hcz71_0
              try clear hcz74_0
              try clear hcz76_0
              try clear hcz77_0
              try clear hcz81_0
              try clear hcz84_0
              try clear hcz86_0
              try clear hcz87_0
              try clear hcz94_0
              try clear hcz97_0
              try clear hfz100_0
              try clear hfz18_0
              try clear hfz25_0
              try clear hfz33_0
              try clear hfz34_0
              try clear hfz36_0
              try clear hfz37_0
              try clear hfz40_0
              try clear hfz48_0
              try clear hfz53_0
              try clear hfz55_0
              try clear hfz63_0
              try clear hfz71_0
              try clear hfz74_0
              try clear hfz76_0
              try clear hfz77_0
              try clear hfz81_0
              try clear hfz84_0
              try clear hfz86_0
              try clear hfz87_0
              try clear hfz94_0
              try clear hfz97_0
              try clear hx356_0
              try clear hx356_1
              try clear hx356_2
              try clear hx358_0
              try clear hx358_1
              try clear hx358_2
              try clear hx360_0
              try clear hx360_1
              try clear hx360_2
              try clear p2
              try clear p3
              try clear p35
              try clear p356
              try clear p358
              try clear p36
              try clear p360
              try clear p6
              try clear p64
              try clear q3
              try clear q35
              try clear q356
              try clear q358
              try clear q36
              try clear q360
              obtain ⟨x17_2, x18_2, rfl, rfl, HA, HK2, HO_354000, BK353, BK354, BK355, HB⟩ := hrel
              cases gk with
              | zero => exact absurd HA.out (by simp [tallymanlaw10_TableTells.l1])
              | succ k2 =>
                have H := HA.out
                clear HA
                simp only [tallymanlaw10_TableTells.l1] at H
                by_cases c101 : x18_2 < 62
                · rw [if_pos c101] at H
                  have c101b0 : decide (x18_2 < 62) = true := decide_eq_true c101
                  clear c101
                  have c101g : 0 ≤ x18_2 := by
                    refine Decidable.byContradiction fun hn => ?_
                    rw [if_neg hn] at H
                    exact absurd H (by simp)
                  rw [if_pos c101g] at H
                  have WK18 := Aside0.mk (wf64 (x := x18_2) (by omega) (by have := of_decide_eq_true c101b0; omega))
                  clear c101g
                  replace H := Option.bind_eq_some_iff.mp H
                  obtain ⟨⟨t374, t375⟩, A1020, H⟩ := H
                  replace H : (if (t375 != (mhas x355000_1 x18_2)) = true then (tallymanlaw10_TableTells.j4 k2 x17_2 x18_2 t374 t375 true x354000_1 x355000_1) else (tallymanlaw10_TableTells.j4 k2 x17_2 x18_2 t374 t375 (t374 != (mget x355000_1 x18_2)) x354000_1 x355000_1)) = some r := H
                  have A102 := Aside0.mk A1020
                  clear A1020
                  have HC103 := Aside0.mk H
                  clear H
                  have hnb104 := NB353_354.out
                  have hnc104 := NB354_353.out
                  have hnb105 := NB353_355.out
                  have hnc105 := NB355_353.out
                  have hcz106_0 : wr.cell? ⟨gb353, 0, none⟩ = some (u354000) := (blk_cell BK353.out 0).trans rfl
                  have hfz106_0 := blk_frozen BK353.out 0
                  obtain ⟨Ao107, co107, eo107⟩ := Kd.V_slice HO_354000.out
                  subst eo107
                  go_upto_region 37 with (first | (at_lookup; refine lookM_event (mb := gb354) (M := x355000_1) (kx := x18_2) rfl rfl rfl (by (with_reducible repeat (first | refine own_drewN ?_ _ | refine own_drew ?_ | refine own_alloc ?_ _)); exact BK354.out) rfl ?wk ?_; (case wk => with_reducible first | exact WK.out | exact WK18.out | exact wf_wrap64 _ | exact own_wf BK354.out WK.out); (try rw [hb10])) | (go_at_call 11; (with_reducible refine (table_Get.calls _ _ x354000_1 x18_2 t374 t375 _ ?side1 ?side2 A102.out).mono ?_); (case side1 => repeat (first | exact (Kd.V_reads' HO_354000.out).2.2 | (with_reducible refine Kd.C_alloc ?_ _) | (with_reducible refine Kd.C_drewN ?_ _) | (with_reducible refine Kd.C_drew ?_))); (case side2 => exact (Kd.V_reads' HO_354000.out).2.1); rintro e w108 ⟨rfl, hb⟩; have n0_ := Aside0.mk (Kd.V_below (by (with_reducible repeat (first | apply Kd.V_alloc | apply Kd.V_drewN | apply Kd.V_drew)); exact HO_354000.out) hb); have n1_ := Aside0.mk (blk_below (g := gb353) (o := .cells #[.slice Ao107 x354000_1.length co107] 24 (0, 0)) (by (with_reducible repeat (first | refine blk_drewN ?_ _ | refine blk_drew ?_ | refine blk_alloc ?_ _)); exact BK353.out) hb); have n2_ := Aside0.mk (own_below (mb := gb354) (M := x355000_1) (by (with_reducible repeat (first | refine own_drewN ?_ _ | refine own_drew ?_ | refine own_alloc ?_ _)); exact BK354.out) hb); have n3_ := Aside0.mk (own_below (mb := gb355) (M := x356000_1) (by (with_reducible repeat (first | refine own_drewN ?_ _ | refine own_drew ?_ | refine own_alloc ?_ _)); exact BK355.out) hb); have n4_ := Aside0.mk (below_step (by repeat (first | (with_reducible first | exact HB.out | apply below_alloc | apply pw_below_drewN | apply below_drew1 | refine below_set ?_ GE353.out | refine below_set ?_ GE354.out | refine below_set ?_ GE355.out) | exact HB.out)) hb); clear HO_354000; clear BK353; clear BK354; clear BK355; clear HB; have HO_354000 := n0_; have BK353 := n1_; have BK354 := n2_; have BK355 := n3_; have HB := n4_; clear n0_ n1_ n2_ n3_ n4_; (try clear hb); (try clear hb2); (try clear hk); (try clear hi); have hnb109 := NB354_355.out; have hnc109 := NB355_354.out))
                  repeat (go_quiet (first | (at_lookup; refine lookM_event (mb := gb354) (M := x355000_1) (kx := x18_2) rfl rfl rfl (by (with_reducible repeat (first | refine own_drewN ?_ _ | refine own_drew ?_ | refine own_alloc ?_ _)); exact BK354.out) rfl ?wk ?_; (case wk => with_reducible first | exact WK.out | exact WK18.out | exact wf_wrap64 _ | exact own_wf BK354.out WK.out); (try rw [hb10])) | (go_at_call 11; (with_reducible refine (table_Get.calls _ _ x354000_1 x18_2 t374 t375 _ ?side1 ?side2 A102.out).mono ?_); (case side1 => repeat (first | exact (Kd.V_reads' HO_354000.out).2.2 | (with_reducible refine Kd.C_alloc ?_ _) | (with_reducible refine Kd.C_drewN ?_ _) | (with_reducible refine Kd.C_drew ?_))); (case side2 => exact (Kd.V_reads' HO_354000.out).2.1); rintro e w108 ⟨rfl, hb⟩; have n0_ := Aside0.mk (Kd.V_below (by (with_reducible repeat (first | apply Kd.V_alloc | apply Kd.V_drewN | apply Kd.V_drew)); exact HO_354000.out) hb); have n1_ := Aside0.mk (blk_below (g := gb353) (o := .cells #[.slice Ao107 x354000_1.length co107] 24 (0, 0)) (by (with_reducible repeat (first | refine blk_drewN ?_ _ | refine blk_drew ?_ | refine blk_alloc ?_ _)); exact BK353.out) hb); have n2_ := Aside0.mk (own_below (mb := gb354) (M := x355000_1) (by (with_reducible repeat (first | refine own_drewN ?_ _ | refine own_drew ?_ | refine own_alloc ?_ _)); exact BK354.out) hb); have n3_ := Aside0.mk (own_below (mb := gb355) (M := x356000_1) (by (with_reducible repeat (first | refine own_drewN ?_ _ | refine own_drew ?_ | refine own_alloc ?_ _)); exact BK355.out) hb); have n4_ := Aside0.mk (below_step (by repeat (first | (with_reducible first | exact HB.out | apply below_alloc | apply pw_below_drewN | apply below_drew1 | refine below_set ?_ GE353.out | refine below_set ?_ GE354.out | refine below_set ?_ GE355.out) | exact HB.out)) hb); clear HO_354000; clear BK353; clear BK354; clear BK355; clear HB; have HO_354000 := n0_; have BK353 := n1_; have BK354 := n2_; have BK355 := n3_; have HB := n4_; clear n0_ n1_ n2_ n3_ n4_; (try clear hb); (try clear hb2); (try clear hk); (try clear hi); have hnb109 := NB354_355.out; have hnc109 := NB355_354.out)); go_upto_region 37 with (first | (at_lookup; refine lookM_event (mb := gb354) (M := x355000_1) (kx := x18_2) rfl rfl rfl (by (with_reducible repeat (first | refine own_drewN ?_ _ | refine own_drew ?_ | refine own_alloc ?_ _)); exact BK354.out) rfl ?wk ?_; (case wk => with_reducible first | exact WK.out | exact WK18.out | exact wf_wrap64 _ | exact own_wf BK354.out WK.out); (try rw [hb10])) | (go_at_call 11; (with_reducible refine (table_Get.calls _ _ x354000_1 x18_2 t374 t375 _ ?side1 ?side2 A102.out).mono ?_); (case side1 => repeat (first | exact (Kd.V_reads' HO_354000.out).2.2 | (with_reducible refine Kd.C_alloc ?_ _) | (with_reducible refine Kd.C_drewN ?_ _) | (with_reducible refine Kd.C_drew ?_))); (case side2 => exact (Kd.V_reads' HO_354000.out).2.1); rintro e w108 ⟨rfl, hb⟩; have n0_ := Aside0.mk (Kd.V_below (by (with_reducible repeat (first | apply Kd.V_alloc | apply Kd.V_drewN | apply Kd.V_drew)); exact HO_354000.out) hb); have n1_ := Aside0.mk (blk_below (g := gb353) (o := .cells #[.slice Ao107 x354000_1.length co107] 24 (0, 0)) (by (with_reducible repeat (first | refine blk_drewN ?_ _ | refine blk_drew ?_ | refine blk_alloc ?_ _)); exact BK353.out) hb); have n2_ := Aside0.mk (own_below (mb := gb354) (M := x355000_1) (by (with_reducible repeat (first | refine own_drewN ?_ _ | refine own_drew ?_ | refine own_alloc ?_ _)); exact BK354.out) hb); have n3_ := Aside0.mk (own_below (mb := gb355) (M := x356000_1) (by (with_reducible repeat (first | refine own_drewN ?_ _ | refine own_drew ?_ | refine own_alloc ?_ _)); exact BK355.out) hb); have n4_ := Aside0.mk (below_step (by repeat (first | (with_reducible first | exact HB.out | apply below_alloc | apply pw_below_drewN | apply below_drew1 | refine below_set ?_ GE353.out | refine below_set ?_ GE354.out | refine below_set ?_ GE355.out) | exact HB.out)) hb); clear HO_354000; clear BK353; clear BK354; clear BK355; clear HB; have HO_354000 := n0_; have BK353 := n1_; have BK354 := n2_; have BK355 := n3_; have HB := n4_; clear n0_ n1_ n2_ n3_ n4_; (try clear hb); (try clear hb2); (try clear hk); (try clear hi); have hnb109 := NB354_355.out; have hnc109 := NB355_354.out)))
                  (try simp only [Act.put, List.setIfInBounds_toArray, List.set_cons_zero, List.set_cons_succ])
                  go_cut [154] (fun v154 wc => ∃ (kq : Nat) (x154_102 : Bool), v154 = .bool x154_102 ∧ Aside0 (tallymanlaw10_TableTells.j4 kq x17_2 x18_2 t374 t375 x154_102 x354000_1 x355000_1 = some r) ∧ Aside0 (kq ≤ k2) ∧ Aside0 (Kd.V (Kd.int .i64) 3 wc w.heap.size (fun k_ => k_ ≠ gb353 ∧ k_ ≠ gb354 ∧ k_ ≠ gb355) (.slice Ao107 x354000_1.length co107) x354000_1) ∧ Aside0 (wc.heap[gb353]? = some (.cells #[(.slice Ao107 x354000_1.length co107)] 24 (0, 0))) ∧ Aside0 (OwnsM wc gb354 x355000_1) ∧ Aside0 (OwnsM wc gb355 x356000_1) ∧ Aside0 (Below w.heap.size w wc))
                  case first =>
                    have H := HC103.out
                    clear HC103
                    by_cases c111 : (t375 != (mhas x355000_1 x18_2)) = true
                    · rw [if_pos c111] at H
                      have c111b0 : (t375 != (mhas x355000_1 x18_2)) = true := c111
                      (try (have c111b1 : decide (t375 = (mhas x355000_1 x18_2)) = false := by simpa using c111))
                      (try (have c111b2 : (t375 == (mhas x355000_1 x18_2)) = false := by simpa using c111))
                      (try (have c111b3 : ¬ (t375 = (mhas x355000_1 x18_2)) := by simpa using c111))
                      clear c111
                      (first | rw [c111b0] | (simp only [i64_w, i32_w]; rw [c111b0]) | skip)
                      have H' := Aside0.mk H
                      clear H
                      go_wp2
                      repeat (go_quiet (fail); try go_wp2)
                      go_meet
                      case rel => exact ⟨_, (true), (by first | rfl | (simp; done) | (simp [*]; done)), H', ⟨by have := HK1.out; have := HK2.out; first | omega | exact Nat.le_refl _⟩, ⟨by (with_reducible repeat (first | apply Kd.V_alloc | apply Kd.V_drewN | apply Kd.V_drew)); exact HO_354000.out⟩, ⟨by (with_reducible repeat (first | refine blk_drewN ?_ _ | refine blk_drew ?_ | refine blk_alloc ?_ _)); exact BK353.out⟩, ⟨by (with_reducible repeat (first | refine own_drewN ?_ _ | refine own_drew ?_ | refine own_alloc ?_ _)); exact BK354.out⟩, ⟨by (with_reducible repeat (first | refine own_drewN ?_ _ | refine own_drew ?_ | refine own_alloc ?_ _)); exact BK355.out⟩, ⟨by repeat (first | (with_reducible first | exact HB.out | apply below_alloc | apply pw_below_drewN | apply below_drew1 | refine below_set ?_ GE353.out | refine below_set ?_ GE354.out | refine below_set ?_ GE355.out) | exact HB.out)⟩⟩
                    · rw [if_neg c111] at H
                      have c111b0 : (t375 != (mhas x355000_1 x18_2)) = false := by simpa using c111
                      (try (have c111b1 : decide (t375 = (mhas x355000_1 x18_2)) = true := by simpa using c111))
                      (try (have c111b2 : (t375 == (mhas x355000_1 x18_2)) = true := by simpa using c111))
                      clear c111
                      (first | rw [c111b0] | (simp only [i64_w, i32_w]; rw [c111b0]) | skip)
                      have H' := Aside0.mk H
                      clear H
                      go_wp2
                      repeat (go_quiet (fail); try go_wp2)
                      go_meet
                      case rel => exact ⟨_, ((t374 != (mget x355000_1 x18_2))), (by first | rfl | (simp; done) | (simp [*]; done)), H', ⟨by have := HK1.out; have := HK2.out; first | omega | exact Nat.le_refl _⟩, ⟨by (with_reducible repeat (first | apply Kd.V_alloc | apply Kd.V_drewN | apply Kd.V_drew)); exact HO_354000.out⟩, ⟨by (with_reducible repeat (first | refine blk_drewN ?_ _ | refine blk_drew ?_ | refine blk_alloc ?_ _)); exact BK353.out⟩, ⟨by (with_reducible repeat (first | refine own_drewN ?_ _ | refine own_drew ?_ | refine own_alloc ?_ _)); exact BK354.out⟩, ⟨by (with_reducible repeat (first | refine own_drewN ?_ _ | refine own_drew ?_ | refine own_alloc ?_ _)); exact BK355.out⟩, ⟨by repeat (first | (with_reducible first | exact HB.out | apply below_alloc | apply pw_below_drewN | apply below_drew1 | refine below_set ?_ GE353.out | refine below_set ?_ GE354.out | refine below_set ?_ GE355.out) | exact HB.out)⟩⟩
                  case rest =>
                    clear HC103
                    try clear c1
                    try clear c2
                    try clear p2
                    try clear c3
                    try clear p3
                    try clear q3
                    try clear hx3
                    try clear c4
                    try clear c4b0
                    try clear c4b1
                    try clear c5
                    try clear c6
                    try clear p6
                    try clear c7
                    try clear c8
                    try clear c9
                    try clear c10
                    try clear c10b0
                    try clear c11
                    try clear c11b0
                    try clear c16
                    try clear c17
                    try clear c19
                    try clear c19b0
                    try clear c19b1
                    try clear c21
                    try clear c21b0
                    try clear c21b1
                    try clear c21b2
                    try clear c22
                    try clear c22b0
                    try clear c22b1
                    try clear c23
                    try clear c24
                    try clear c30
                    try clear c31
                    try clear c32
                    try clear c35
                    try clear p35
                    try clear q35
                    try clear hx35
                    try clear p36
                    try clear q36
                    try clear hx36
                    try clear c38
                    try clear c39
                    try clear c45
                    try clear c46
                    try clear c47
                    try clear c51
                    try clear c52
                    try clear c54
                    try clear c60
                    try clear c61
                    try clear c62
                    try clear c64
                    try clear c64b0
                    try clear p64
                    try clear c65
                    try clear c66
                    try clear c66b0
                    try clear c66b1
                    try clear c67
                    try clear c67b0
                    try clear c68
                    try clear c69
                    try clear c70
                    try clear c72
                    try clear c73
                    try clear c75
                    try clear c78
                    try clear c79
                    try clear c80
                    try clear c82
                    try clear c83
                    try clear c85
                    try clear c89
                    try clear c89b0
                    try clear c89b1
                    try clear c91
                    try clear c91b0
                    try clear c91b1
                    try clear c92
                    try clear c93
                    try clear c99
                    try clear c101
                    try clear c101b0
                    try clear c104
                    try clear c105
                    try clear c109
                    try clear c111
                    try clear c111b0
                    try clear c111b1
                    try clear c111b2
                    try clear hcz100_0
                    try clear hcz106_0
                    try clear hcz110_0
                    try clear hcz18_0
                    try clear hcz25_0
                    try clear hcz33_0
                    try clear hcz34_0
                    try clear hcz36_0
                    try clear hcz37_0
                    try clear hcz40_0
                    try clear hcz48_0
                    try clear hcz53_0
                    try clear hcz55_0
                    try clear hcz63_0
                    try clear hcz71_0
                    try clear hcz74_0
                    try clear hcz76_0
                    try clear hcz77_0
                    try clear hcz81_0
                    try clear hcz84_0
                    try clear hcz86_0
                    try clear hcz87_0
                    try clear hcz94_0
                    try clear hcz97_0
                    try clear hfz100_0
                    try clear hfz106_0
                    try clear hfz110_0
                    try clear hfz18_0
                    try clear hfz25_0
                    try clear hfz33_0
                    try clear hfz34_0
                    try clear hfz36_0
                    try clear hfz37_0
                    try clear hfz40_0
                    try clear hfz48_0
                    try clear hfz53_0
                    try clear hfz55_0
                    try clear hfz63_0
                    try clear hfz71_0
                    try clear hfz74_0
                    try clear hfz76_0
                    try clear hfz77_0
                    try clear hfz81_0
                    try clear hfz84_0
                    try clear hfz86_0
                    try clear hfz87_0
                    try clear hfz94_0
                    try clear hfz97_0
                    try clear hx356_0
                    try clear hx356_1
                    try clear hx356_2
                    try clear hx358_0
                    try clear hx358_1
                    try clear hx358_2
                    try clear hx360_0
                    try clear hx360_1
                    try clear hx360_2
                    try clear p2
                    try clear p3
                    try clear p35
                    try clear p356
                    try clear p358
                    try clear p36
                    try clear p360
                    try clear p6
                    try clear p64
                    try clear q3
                    try clear q35
                    try clear q356
                    try clear q358
                    try clear q36
                    try clear q360
                    obtain ⟨kq, x154_102, rfl, HA, HJ102, HO_354000, BK353, BK354, BK355, HB⟩ := hcut
                    cases kq with
                    | zero => exact absurd HA.out (by simp [tallymanlaw10_TableTells.j4])
                    | succ kj102 =>
                      have H := HA.out
                      clear HA
                      simp only [tallymanlaw10_TableTells.j4] at H
                      by_cases c112 : x154_102 = true
                      · subst c112
                        have H1 : (none) = some r := by rw [if_pos rfl] at H; exact H
                        clear H
                        have H := H1
                        clear H1
                        exact absurd H (by simp)
                      · replace c112 := Bool.eq_false_iff.mpr c112
                        subst c112
                        have H1 : (if t375 = true then ((table_Find.f kj102 x354000_1 t374).bind fun bt376 => (if bt376.2 = true then (tallymanlaw10_TableTells.j5 kj102 x17_2 x18_2 t375 (bt376.1 != x18_2) x354000_1 x355000_1) else (tallymanlaw10_TableTells.j5 kj102 x17_2 x18_2 t375 true x354000_1 x355000_1))) else (tallymanlaw10_TableTells.l1 kj102 x17_2 (wrap64 (x18_2 + 1)) x354000_1 x355000_1)) = some r := by rw [if_neg (show ¬ (false = true) by decide)] at H; exact H
                        clear H
                        have H := H1
                        clear H1
                        by_cases c113 : t375 = true
                        · subst c113
                          have H1 : ((table_Find.f kj102 x354000_1 t374).bind fun bt376 => (if bt376.2 = true then (tallymanlaw10_TableTells.j5 kj102 x17_2 x18_2 true (bt376.1 != x18_2) x354000_1 x355000_1) else (tallymanlaw10_TableTells.j5 kj102 x17_2 x18_2 true true x354000_1 x355000_1))) = some r := by rw [if_pos rfl] at H; exact H
                          clear H
                          have H := H1
                          clear H1
                          replace H := Option.bind_eq_some_iff.mp H
                          obtain ⟨⟨t376, t377⟩, A1140, H⟩ := H
                          replace H : (if t377 = true then (tallymanlaw10_TableTells.j5 kj102 x17_2 x18_2 true (t376 != x18_2) x354000_1 x355000_1) else (tallymanlaw10_TableTells.j5 kj102 x17_2 x18_2 true true x354000_1 x355000_1)) = some r := H
                          have A114 := Aside0.mk A1140
                          clear A1140
                          have HC115 := Aside0.mk H
                          clear H
                          have hnb116 := NB353_354.out
                          have hnc116 := NB354_353.out
                          have hnb117 := NB353_355.out
                          have hnc117 := NB355_353.out
                          have hcz118_0 : wc.cell? ⟨gb353, 0, none⟩ = some (.slice Ao107 x354000_1.length co107) := (blk_cell BK353.out 0).trans rfl
                          have hfz118_0 := blk_frozen BK353.out 0
                          go_upto_region 41 with (first | (go_at_call 12; (with_reducible refine (table_Find.calls kj102 _ _ x354000_1 t374 t376 t377 _ ?side1 ?side2 A114.out).mono ?_); (case side1 => repeat (first | exact (Kd.V_reads' HO_354000.out).2.2 | (with_reducible refine Kd.C_alloc ?_ _) | (with_reducible refine Kd.C_drewN ?_ _) | (with_reducible refine Kd.C_drew ?_))); (case side2 => exact (Kd.V_reads' HO_354000.out).2.1); rintro e w119 ⟨rfl, hb⟩; have n0_ := Aside0.mk (Kd.V_below (by (with_reducible repeat (first | apply Kd.V_alloc | apply Kd.V_drewN | apply Kd.V_drew)); exact HO_354000.out) hb); have n1_ := Aside0.mk (blk_below (g := gb353) (o := .cells #[.slice Ao107 x354000_1.length co107] 24 (0, 0)) (by (with_reducible repeat (first | refine blk_drewN ?_ _ | refine blk_drew ?_ | refine blk_alloc ?_ _)); exact BK353.out) hb); have n2_ := Aside0.mk (own_below (mb := gb354) (M := x355000_1) (by (with_reducible repeat (first | refine own_drewN ?_ _ | refine own_drew ?_ | refine own_alloc ?_ _)); exact BK354.out) hb); have n3_ := Aside0.mk (own_below (mb := gb355) (M := x356000_1) (by (with_reducible repeat (first | refine own_drewN ?_ _ | refine own_drew ?_ | refine own_alloc ?_ _)); exact BK355.out) hb); have n4_ := Aside0.mk (below_step (by repeat (first | (with_reducible first | exact HB.out | apply below_alloc | apply pw_below_drewN | apply below_drew1 | refine below_set ?_ GE353.out | refine below_set ?_ GE354.out | refine below_set ?_ GE355.out) | exact HB.out)) hb); clear HO_354000; clear BK353; clear BK354; clear BK355; clear HB; have HO_354000 := n0_; have BK353 := n1_; have BK354 := n2_; have BK355 := n3_; have HB := n4_; clear n0_ n1_ n2_ n3_ n4_; (try clear hb); (try clear hb2); (try clear hk); (try clear hi)))
                          repeat (go_quiet (first | (go_at_call 12; (with_reducible refine (table_Find.calls kj102 _ _ x354000_1 t374 t376 t377 _ ?side1 ?side2 A114.out).mono ?_); (case side1 => repeat (first | exact (Kd.V_reads' HO_354000.out).2.2 | (with_reducible refine Kd.C_alloc ?_ _) | (with_reducible refine Kd.C_drewN ?_ _) | (with_reducible refine Kd.C_drew ?_))); (case side2 => exact (Kd.V_reads' HO_354000.out).2.1); rintro e w119 ⟨rfl, hb⟩; have n0_ := Aside0.mk (Kd.V_below (by (with_reducible repeat (first | apply Kd.V_alloc | apply Kd.V_drewN | apply Kd.V_drew)); exact HO_354000.out) hb); have n1_ := Aside0.mk (blk_below (g := gb353) (o := .cells #[.slice Ao107 x354000_1.length co107] 24 (0, 0)) (by (with_reducible repeat (first | refine blk_drewN ?_ _ | refine blk_drew ?_ | refine blk_alloc ?_ _)); exact BK353.out) hb); have n2_ := Aside0.mk (own_below (mb := gb354) (M := x355000_1) (by (with_reducible repeat (first | refine own_drewN ?_ _ | refine own_drew ?_ | refine own_alloc ?_ _)); exact BK354.out) hb); have n3_ := Aside0.mk (own_below (mb := gb355) (M := x356000_1) (by (with_reducible repeat (first | refine own_drewN ?_ _ | refine own_drew ?_ | refine own_alloc ?_ _)); exact BK355.out) hb); have n4_ := Aside0.mk (below_step (by repeat (first | (with_reducible first | exact HB.out | apply below_alloc | apply pw_below_drewN | apply below_drew1 | refine below_set ?_ GE353.out | refine below_set ?_ GE354.out | refine below_set ?_ GE355.out) | exact HB.out)) hb); clear HO_354000; clear BK353; clear BK354; clear BK355; clear HB; have HO_354000 := n0_; have BK353 := n1_; have BK354 := n2_; have BK355 := n3_; have HB := n4_; clear n0_ n1_ n2_ n3_ n4_; (try clear hb); (try clear hb2); (try clear hk); (try clear hi))); go_upto_region 41 with (first | (go_at_call 12; (with_reducible refine (table_Find.calls kj102 _ _ x354000_1 t374 t376 t377 _ ?side1 ?side2 A114.out).mono ?_); (case side1 => repeat (first | exact (Kd.V_reads' HO_354000.out).2.2 | (with_reducible refine Kd.C_alloc ?_ _) | (with_reducible refine Kd.C_drewN ?_ _) | (with_reducible refine Kd.C_drew ?_))); (case side2 => exact (Kd.V_reads' HO_354000.out).2.1); rintro e w119 ⟨rfl, hb⟩; have n0_ := Aside0.mk (Kd.V_below (by (with_reducible repeat (first | apply Kd.V_alloc | apply Kd.V_drewN | apply Kd.V_drew)); exact HO_354000.out) hb); have n1_ := Aside0.mk (blk_below (g := gb353) (o := .cells #[.slice Ao107 x354000_1.length co107] 24 (0, 0)) (by (with_reducible repeat (first | refine blk_drewN ?_ _ | refine blk_drew ?_ | refine blk_alloc ?_ _)); exact BK353.out) hb); have n2_ := Aside0.mk (own_below (mb := gb354) (M := x355000_1) (by (with_reducible repeat (first | refine own_drewN ?_ _ | refine own_drew ?_ | refine own_alloc ?_ _)); exact BK354.out) hb); have n3_ := Aside0.mk (own_below (mb := gb355) (M := x356000_1) (by (with_reducible repeat (first | refine own_drewN ?_ _ | refine own_drew ?_ | refine own_alloc ?_ _)); exact BK355.out) hb); have n4_ := Aside0.mk (below_step (by repeat (first | (with_reducible first | exact HB.out | apply below_alloc | apply pw_below_drewN | apply below_drew1 | refine below_set ?_ GE353.out | refine below_set ?_ GE354.out | refine below_set ?_ GE355.out) | exact HB.out)) hb); clear HO_354000; clear BK353; clear BK354; clear BK355; clear HB; have HO_354000 := n0_; have BK353 := n1_; have BK354 := n2_; have BK355 := n3_; have HB := n4_; clear n0_ n1_ n2_ n3_ n4_; (try clear hb); (try clear hb2); (try clear hk); (try clear hi))))
                          (try simp only [Act.put, List.setIfInBounds_toArray, List.set_cons_zero, List.set_cons_succ])
                          go_cut [168] (fun v168 wc => ∃ (kq : Nat) (x168_114 : Bool), v168 = .bool x168_114 ∧ Aside0 (tallymanlaw10_TableTells.j5 kq x17_2 x18_2 true x168_114 x354000_1 x355000_1 = some r) ∧ Aside0 (kq ≤ kj102) ∧ Aside0 (Kd.V (Kd.int .i64) 3 wc w.heap.size (fun k_ => k_ ≠ gb353 ∧ k_ ≠ gb354 ∧ k_ ≠ gb355) (.slice Ao107 x354000_1.length co107) x354000_1) ∧ Aside0 (wc.heap[gb353]? = some (.cells #[(.slice Ao107 x354000_1.length co107)] 24 (0, 0))) ∧ Aside0 (OwnsM wc gb354 x355000_1) ∧ Aside0 (OwnsM wc gb355 x356000_1) ∧ Aside0 (Below w.heap.size w wc))
                          case first =>
                            have H := HC115.out
                            clear HC115
                            by_cases c120 : t377 = true
                            · subst c120
                              have H1 : (tallymanlaw10_TableTells.j5 kj102 x17_2 x18_2 true (t376 != x18_2) x354000_1 x355000_1) = some r := by rw [if_pos rfl] at H; exact H
                              clear H
                              have H := H1
                              clear H1
                              have H' := Aside0.mk H
                              clear H
                              go_wp2
                              repeat (go_quiet (fail); try go_wp2)
                              go_meet
                              case rel => exact ⟨_, ((t376 != x18_2)), (by first | rfl | (simp; done) | (simp [*]; done)), H', ⟨by have := HK1.out; have := HK2.out; have := HJ102.out; first | omega | exact Nat.le_refl _⟩, ⟨by (with_reducible repeat (first | apply Kd.V_alloc | apply Kd.V_drewN | apply Kd.V_drew)); exact HO_354000.out⟩, ⟨by (with_reducible repeat (first | refine blk_drewN ?_ _ | refine blk_drew ?_ | refine blk_alloc ?_ _)); exact BK353.out⟩, ⟨by (with_reducible repeat (first | refine own_drewN ?_ _ | refine own_drew ?_ | refine own_alloc ?_ _)); exact BK354.out⟩, ⟨by (with_reducible repeat (first | refine own_drewN ?_ _ | refine own_drew ?_ | refine own_alloc ?_ _)); exact BK355.out⟩, ⟨by repeat (first | (with_reducible first | exact HB.out | apply below_alloc | apply pw_below_drewN | apply below_drew1 | refine below_set ?_ GE353.out | refine below_set ?_ GE354.out | refine below_set ?_ GE355.out) | exact HB.out)⟩⟩
                            · replace c120 := Bool.eq_false_iff.mpr c120
                              subst c120
                              have H1 : (tallymanlaw10_TableTells.j5 kj102 x17_2 x18_2 true true x354000_1 x355000_1) = some r := by rw [if_neg (show ¬ (false = true) by decide)] at H; exact H
                              clear H
                              have H := H1
                              clear H1
                              have H' := Aside0.mk H
                              clear H
                              go_wp2
                              repeat (go_quiet (fail); try go_wp2)
                              go_meet
                              case rel => exact ⟨_, (true), (by first | rfl | (simp; done) | (simp [*]; done)), H', ⟨by have := HK1.out; have := HK2.out; have := HJ102.out; first | omega | exact Nat.le_refl _⟩, ⟨by (with_reducible repeat (first | apply Kd.V_alloc | apply Kd.V_drewN | apply Kd.V_drew)); exact HO_354000.out⟩, ⟨by (with_reducible repeat (first | refine blk_drewN ?_ _ | refine blk_drew ?_ | refine blk_alloc ?_ _)); exact BK353.out⟩, ⟨by (with_reducible repeat (first | refine own_drewN ?_ _ | refine own_drew ?_ | refine own_alloc ?_ _)); exact BK354.out⟩, ⟨by (with_reducible repeat (first | refine own_drewN ?_ _ | refine own_drew ?_ | refine own_alloc ?_ _)); exact BK355.out⟩, ⟨by repeat (first | (with_reducible first | exact HB.out | apply below_alloc | apply pw_below_drewN | apply below_drew1 | refine below_set ?_ GE353.out | refine below_set ?_ GE354.out | refine below_set ?_ GE355.out) | exact HB.out)⟩⟩
                          case rest =>
                            clear HC115
                            try clear c1
                            try clear c2
                            try clear p2
                            try clear c3
                            try clear p3
                            try clear q3
                            try clear hx3
                            try clear c4
                            try clear c4b0
                            try clear c4b1
                            try clear c5
                            try clear c6
                            try clear p6
                            try clear c7
                            try clear c8
                            try clear c9
                            try clear c10
                            try clear c10b0
                            try clear c11
                            try clear c11b0
                            try clear c12
                            try clear c16
                            try clear c17
                            try clear c19
                            try clear c19b0
                            try clear c19b1
                            try clear c21
                            try clear c21b0
                            try clear c21b1
                            try clear c21b2
                            try clear c22
                            try clear c22b0
                            try clear c22b1
                            try clear c23
                            try clear c24
                            try clear c30
                            try clear c31
                            try clear c32
                            try clear c35
                            try clear p35
                            try clear q35
                            try clear hx35
                            try clear p36
                            try clear q36
                            try clear hx36
                            try clear c38
                            try clear c39
                            try clear c45
                            try clear c46
                            try clear c47
                            try clear c51
                            try clear c52
                            try clear c54
                            try clear c60
                            try clear c61
                            try clear c62
                            try clear c64
                            try clear c64b0
                            try clear p64
                            try clear c65
                            try clear c66
                            try clear c66b0
                            try clear c66b1
                            try clear c67
                            try clear c67b0
                            try clear c68
                            try clear c69
                            try clear c70
                            try clear c72
                            try clear c73
                            try clear c75
                            try clear c78
                            try clear c79
                            try clear c80
                            try clear c82
                            try clear c83
                            try clear c85
                            try clear c89
                            try clear c89b0
                            try clear c89b1
                            try clear c91
                            try clear c91b0
                            try clear c91b1
                            try clear c92
                            try clear c93
                            try clear c99
                            try clear c101
                            try clear c101b0
                            try clear c104
                            try clear c105
                            try clear c109
                            try clear c111
                            try clear c111b0
                            try clear c111b1
                            try clear c111b2
                            try clear c112
                            try clear c113
                            try clear c116
                            try clear c117
                            try clear c120
                            try clear hcz100_0
                            try clear hcz106_0
                            try clear hcz110_0
                            try clear hcz118_0
                            try clear hcz18_0
                            try clear hcz25_0
                            try clear hcz33_0
                            try clear hcz34_0
                            try clear hcz36_0
                            try clear hcz37_0
                            try clear hcz40_0
                            try clear hcz48_0
                            try clear hcz53_0
                            try clear hcz55_0
                            try clear hcz63_0
                            try clear hcz71_0
                            try clear hcz74_0
                            try clear hcz76_0
                            try clear hcz77_0
                            try clear hcz81_0
                            try clear hcz84_0
                            try clear hcz86_0
                            try clear hcz87_0
                            try clear hcz94_0
                            try clear hcz97_0
                            try clear hfz100_0
                            try clear hfz106_0
                            try clear hfz110_0
                            try clear hfz118_0
                            try clear hfz18_0
                            try clear hfz25_0
                            try clear hfz33_0
                            try clear hfz34_0
                            try clear hfz36_0
                            try clear hfz37_0
                            try clear hfz40_0
                            try clear hfz48_0
                            try clear hfz53_0
                            try clear hfz55_0
                            try clear hfz63_0
                            try clear hfz71_0
                            try clear hfz74_0
                            try clear hfz76_0
                            try clear hfz77_0
                            try clear hfz81_0
                            try clear hfz84_0
                            try clear hfz86_0
                            try clear hfz87_0
                            try clear hfz94_0
                            try clear hfz97_0
                            try clear hx356_0
                            try clear hx356_1
                            try clear hx356_2
                            try clear hx358_0
                            try clear hx358_1
                            try clear hx358_2
                            try clear hx360_0
                            try clear hx360_1
                            try clear hx360_2
                            try clear p2
                            try clear p3
                            try clear p35
                            try clear p356
                            try clear p358
                            try clear p36
                            try clear p360
                            try clear p6
                            try clear p64
                            try clear q3
                            try clear q35
                            try clear q356
                            try clear q358
                            try clear q36
                            try clear q360
                            obtain ⟨kq, x168_114, rfl, HA, HJ114, HO_354000, BK353, BK354, BK355, HB⟩ := hcut
                            cases kq with
                            | zero => exact absurd HA.out (by simp [tallymanlaw10_TableTells.j5])
                            | succ kj114 =>
                              have H := HA.out
                              clear HA
                              simp only [tallymanlaw10_TableTells.j5] at H
                              by_cases c121 : x168_114 = true
                              · subst c121
                                have H1 : (none) = some r := by rw [if_pos rfl] at H; exact H
                                clear H
                                have H := H1
                                clear H1
                                exact absurd H (by simp)
                              · replace c121 := Bool.eq_false_iff.mpr c121
                                subst c121
                                have H1 : (if true = true then (if x17_2 = x18_2 then (tallymanlaw10_TableTells.l1 kj114 (wrap64 (x17_2 + 1)) (wrap64 (x18_2 + 1)) x354000_1 x355000_1) else (tallymanlaw10_TableTells.l1 kj114 x17_2 (wrap64 (x18_2 + 1)) x354000_1 x355000_1)) else (tallymanlaw10_TableTells.l1 kj114 x17_2 (wrap64 (x18_2 + 1)) x354000_1 x355000_1)) = some r := by rw [if_neg (show ¬ (false = true) by decide)] at H; exact H
                                clear H
                                have H := H1
                                clear H1
                                by_cases c122 : true = true
                                · clear c122
                                  have H1 : (if x17_2 = x18_2 then (tallymanlaw10_TableTells.l1 kj114 (wrap64 (x17_2 + 1)) (wrap64 (x18_2 + 1)) x354000_1 x355000_1) else (tallymanlaw10_TableTells.l1 kj114 x17_2 (wrap64 (x18_2 + 1)) x354000_1 x355000_1)) = some r := by rw [if_pos rfl] at H; exact H
                                  clear H
                                  have H := H1
                                  clear H1
                                  by_cases c123 : x17_2 = x18_2
                                  · rw [if_pos c123] at H
                                    have c123b0 : (x17_2 == x18_2) = true := beq_iff_eq.mpr c123
                                    have c123b1 : (x17_2 != x18_2) = false := bne_eq_false_iff_eq.mpr c123
                                    clear c123
                                    have H' := Aside0.mk H
                                    clear H
                                    go_wp2
                                    repeat (go_quiet (fail); try go_wp2)
                                    go_roundg kj114
                                    case measure => have := HK1.out; have := HK2.out; have := HJ102.out; have := HJ114.out; omega
                                    case rel => exact ⟨(wrap64 (x17_2 + 1)), (wrap64 (x18_2 + 1)), (by first | rfl | (simp; done) | (simp [*]; done)), (by first | rfl | (simp; done) | (simp [*]; done)), H', ⟨by have := HK1.out; have := HK2.out; have := HJ102.out; have := HJ114.out; omega⟩, ⟨by (with_reducible repeat (first | apply Kd.V_alloc | apply Kd.V_drewN | apply Kd.V_drew)); exact HO_354000.out⟩, ⟨by (with_reducible repeat (first | refine blk_drewN ?_ _ | refine blk_drew ?_ | refine blk_alloc ?_ _)); exact BK353.out⟩, ⟨by (with_reducible repeat (first | refine own_drewN ?_ _ | refine own_drew ?_ | refine own_alloc ?_ _)); exact BK354.out⟩, ⟨by (with_reducible repeat (first | refine own_drewN ?_ _ | refine own_drew ?_ | refine own_alloc ?_ _)); exact BK355.out⟩, ⟨by repeat (first | (with_reducible first | exact HB.out | apply below_alloc | apply pw_below_drewN | apply below_drew1 | refine below_set ?_ GE353.out | refine below_set ?_ GE354.out | refine below_set ?_ GE355.out) | exact HB.out)⟩⟩
                                  · rw [if_neg c123] at H
                                    have c123b0 : (x17_2 == x18_2) = false := beq_eq_false_iff_ne.mpr c123
                                    have c123b1 : (x17_2 != x18_2) = true := bne_iff_ne.mpr c123
                                    have H' := Aside0.mk H
                                    clear H
                                    go_wp2
                                    repeat (go_quiet (fail); try go_wp2)
                                    go_roundg kj114
                                    case measure => have := HK1.out; have := HK2.out; have := HJ102.out; have := HJ114.out; omega
                                    case rel => exact ⟨(x17_2), (wrap64 (x18_2 + 1)), (by first | rfl | (simp; done) | (simp [*]; done)), (by first | rfl | (simp; done) | (simp [*]; done)), H', ⟨by have := HK1.out; have := HK2.out; have := HJ102.out; have := HJ114.out; omega⟩, ⟨by (with_reducible repeat (first | apply Kd.V_alloc | apply Kd.V_drewN | apply Kd.V_drew)); exact HO_354000.out⟩, ⟨by (with_reducible repeat (first | refine blk_drewN ?_ _ | refine blk_drew ?_ | refine blk_alloc ?_ _)); exact BK353.out⟩, ⟨by (with_reducible repeat (first | refine own_drewN ?_ _ | refine own_drew ?_ | refine own_alloc ?_ _)); exact BK354.out⟩, ⟨by (with_reducible repeat (first | refine own_drewN ?_ _ | refine own_drew ?_ | refine own_alloc ?_ _)); exact BK355.out⟩, ⟨by repeat (first | (with_reducible first | exact HB.out | apply below_alloc | apply pw_below_drewN | apply below_drew1 | refine below_set ?_ GE353.out | refine below_set ?_ GE354.out | refine below_set ?_ GE355.out) | exact HB.out)⟩⟩
                                · exact absurd rfl c122
                        · replace c113 := Bool.eq_false_iff.mpr c113
                          subst c113
                          have H1 : (tallymanlaw10_TableTells.l1 kj102 x17_2 (wrap64 (x18_2 + 1)) x354000_1 x355000_1) = some r := by rw [if_neg (show ¬ (false = true) by decide)] at H; exact H
                          clear H
                          have H := H1
                          clear H1
                          have H' := Aside0.mk H
                          clear H
                          go_wp2
                          repeat (go_quiet (fail); try go_wp2)
                          go_roundg kj102
                          case measure => have := HK1.out; have := HK2.out; have := HJ102.out; omega
                          case rel => exact ⟨(x17_2), (wrap64 (x18_2 + 1)), (by first | rfl | (simp; done) | (simp [*]; done)), (by first | rfl | (simp; done) | (simp [*]; done)), H', ⟨by have := HK1.out; have := HK2.out; have := HJ102.out; omega⟩, ⟨by (with_reducible repeat (first | apply Kd.V_alloc | apply Kd.V_drewN | apply Kd.V_drew)); exact HO_354000.out⟩, ⟨by (with_reducible repeat (first | refine blk_drewN ?_ _ | refine blk_drew ?_ | refine blk_alloc ?_ _)); exact BK353.out⟩, ⟨by (with_reducible repeat (first | refine own_drewN ?_ _ | refine own_drew ?_ | refine own_alloc ?_ _)); exact BK354.out⟩, ⟨by (with_reducible repeat (first | refine own_drewN ?_ _ | refine own_drew ?_ | refine own_alloc ?_ _)); exact BK355.out⟩, ⟨by repeat (first | (with_reducible first | exact HB.out | apply below_alloc | apply pw_below_drewN | apply below_drew1 | refine below_set ?_ GE353.out | refine below_set ?_ GE354.out | refine below_set ?_ GE355.out) | exact HB.out)⟩⟩
                · rw [if_neg c101] at H
                  have c101b0 : decide (x18_2 < 62) = false := decide_eq_false c101
                  clear c101
                  replace H := Option.bind_eq_some_iff.mp H
                  obtain ⟨⟨t378, t379⟩, A1240, H⟩ := H
                  replace H : ((table_Bytes.f k2 x354000_1).bind fun bt380 => ((table_Read.f bt380.1).bind fun bt384 => (if t379 = 0 then (if t378 = x17_2 then (if bt380.2 = 0 then (if bt384.2 = 0 then ((tallymankit_Ints.f k2 bt384.1 x354000_1).bind fun t389 => (some t389)) else (none)) else (none)) else (none)) else (none)))) = some r := H
                  have A124 := Aside0.mk A1240
                  clear A1240
                  replace H := Option.bind_eq_some_iff.mp H
                  obtain ⟨⟨t380, t383⟩, A1250, H⟩ := H
                  replace H : ((table_Read.f t380).bind fun bt384 => (if t379 = 0 then (if t378 = x17_2 then (if t383 = 0 then (if bt384.2 = 0 then ((tallymankit_Ints.f k2 bt384.1 x354000_1).bind fun t389 => (some t389)) else (none)) else (none)) else (none)) else (none))) = some r := H
                  have A125 := Aside0.mk A1250
                  clear A1250
                  replace H := Option.bind_eq_some_iff.mp H
                  obtain ⟨⟨t384, t387⟩, A1260, H⟩ := H
                  replace H : (if t379 = 0 then (if t378 = x17_2 then (if t383 = 0 then (if t387 = 0 then ((tallymankit_Ints.f k2 t384 x354000_1).bind fun t389 => (some t389)) else (none)) else (none)) else (none)) else (none)) = some r := H
                  have A126 := Aside0.mk A1260
                  clear A1260
                  by_cases c127 : t379 = 0
                  · rw [if_pos c127] at H
                    have c127b0 : (t379 == 0) = true := beq_iff_eq.mpr c127
                    have c127b1 : (t379 != 0) = false := bne_eq_false_iff_eq.mpr c127
                    clear c127
                    by_cases c128 : t378 = x17_2
                    · rw [if_pos c128] at H
                      have c128b0 : (t378 == x17_2) = true := beq_iff_eq.mpr c128
                      have c128b1 : (t378 != x17_2) = false := bne_eq_false_iff_eq.mpr c128
                      clear c128
                      by_cases c129 : t383 = 0
                      · rw [if_pos c129] at H
                        have c129b0 : (t383 == 0) = true := beq_iff_eq.mpr c129
                        have c129b1 : (t383 != 0) = false := bne_eq_false_iff_eq.mpr c129
                        clear c129
                        by_cases c130 : t387 = 0
                        · rw [if_pos c130] at H
                          have c130b0 : (t387 == 0) = true := beq_iff_eq.mpr c130
                          have c130b1 : (t387 != 0) = false := bne_eq_false_iff_eq.mpr c130
                          clear c130
                          replace H := Option.bind_eq_some_iff.mp H
                          obtain ⟨t389, A1310, H⟩ := H
                          replace H : (some t389) = some r := H
                          have A131 := Aside0.mk A1310
                          clear A1310
                          obtain rfl := Option.some.inj H
                          have hnb132 := NB353_354.out
                          have hnc132 := NB354_353.out
                          have hnb133 := NB353_355.out
                          have hnc133 := NB355_353.out
                          have hcz134_0 : wr.cell? ⟨gb353, 0, none⟩ = some (u354000) := (blk_cell BK353.out 0).trans rfl
                          have hfz134_0 := blk_frozen BK353.out 0
                          obtain ⟨Ao135, co135, eo135⟩ := Kd.V_slice HO_354000.out
                          subst eo135
                          go_wp2_with (first | (go_at_call 15; (with_reducible refine (table_Fresh.calls k2 _ _ x354000_1 t378 t379 _ ?side1 ?side2 A124.out).mono ?_); (case side1 => repeat (first | exact (Kd.V_reads' HO_354000.out).2.2 | (with_reducible refine Kd.C_alloc ?_ _) | (with_reducible refine Kd.C_drewN ?_ _) | (with_reducible refine Kd.C_drew ?_))); (case side2 => exact (Kd.V_reads' HO_354000.out).2.1); rintro e w136 ⟨rfl, hb⟩; have n0_ := Aside0.mk (Kd.V_below (by (with_reducible repeat (first | apply Kd.V_alloc | apply Kd.V_drewN | apply Kd.V_drew)); exact HO_354000.out) hb); have n1_ := Aside0.mk (blk_below (g := gb353) (o := .cells #[.slice Ao135 x354000_1.length co135] 24 (0, 0)) (by (with_reducible repeat (first | refine blk_drewN ?_ _ | refine blk_drew ?_ | refine blk_alloc ?_ _)); exact BK353.out) hb); have n2_ := Aside0.mk (own_below (mb := gb354) (M := x355000_1) (by (with_reducible repeat (first | refine own_drewN ?_ _ | refine own_drew ?_ | refine own_alloc ?_ _)); exact BK354.out) hb); have n3_ := Aside0.mk (own_below (mb := gb355) (M := x356000_1) (by (with_reducible repeat (first | refine own_drewN ?_ _ | refine own_drew ?_ | refine own_alloc ?_ _)); exact BK355.out) hb); have n4_ := Aside0.mk (below_step (by repeat (first | (with_reducible first | exact HB.out | apply below_alloc | apply pw_below_drewN | apply below_drew1 | refine below_set ?_ GE353.out | refine below_set ?_ GE354.out | refine below_set ?_ GE355.out) | exact HB.out)) hb); clear HO_354000; clear BK353; clear BK354; clear BK355; clear HB; have HO_354000 := n0_; have BK353 := n1_; have BK354 := n2_; have BK355 := n3_; have HB := n4_; clear n0_ n1_ n2_ n3_ n4_; (try clear hb); (try clear hb2); (try clear hk); (try clear hi); have hcz137_0 : w136.cell? ⟨gb353, 0, none⟩ = some (.slice Ao135 x354000_1.length co135) := (blk_cell BK353.out 0).trans rfl; have hfz137_0 := blk_frozen BK353.out 0) | (go_at_call 21; (with_reducible refine (table_Bytes.calls k2 _ _ x354000_1 t380 t383 _ ?side1 ?side2 A125.out).mono ?_); (case side1 => repeat (first | exact (Kd.V_reads' HO_354000.out).2.2 | (with_reducible refine Kd.C_alloc ?_ _) | (with_reducible refine Kd.C_drewN ?_ _) | (with_reducible refine Kd.C_drew ?_))); (case side2 => exact (Kd.V_reads' HO_354000.out).2.1); rintro e w138 ⟨v381, rfl, ho0, hb⟩; have n0_ := Aside0.mk (Kd.V_elder' (by (with_reducible repeat (first | apply Kd.V_alloc | apply Kd.V_drewN | apply Kd.V_drew)); exact HO_354000.out) (Kd.R_base ho0) hb); have n1_ := Aside0.mk (Kd.R_lower ho0 (below_size (by repeat (first | (with_reducible first | exact HB.out | apply below_alloc | apply pw_below_drewN | apply below_drew1 | refine below_set ?_ GE353.out | refine below_set ?_ GE354.out | refine below_set ?_ GE355.out) | exact HB.out)))); have n2_ := Aside0.mk (blk_below (g := gb353) (o := .cells #[.slice Ao135 x354000_1.length co135] 24 (0, 0)) (by (with_reducible repeat (first | refine blk_drewN ?_ _ | refine blk_drew ?_ | refine blk_alloc ?_ _)); exact BK353.out) hb); have n3_ := Aside0.mk (own_below (mb := gb354) (M := x355000_1) (by (with_reducible repeat (first | refine own_drewN ?_ _ | refine own_drew ?_ | refine own_alloc ?_ _)); exact BK354.out) hb); have n4_ := Aside0.mk (own_below (mb := gb355) (M := x356000_1) (by (with_reducible repeat (first | refine own_drewN ?_ _ | refine own_drew ?_ | refine own_alloc ?_ _)); exact BK355.out) hb); have n5_ := Aside0.mk (below_step (by repeat (first | (with_reducible first | exact HB.out | apply below_alloc | apply pw_below_drewN | apply below_drew1 | refine below_set ?_ GE353.out | refine below_set ?_ GE354.out | refine below_set ?_ GE355.out) | exact HB.out)) hb); clear HO_354000; clear BK353; clear BK354; clear BK355; clear HB; have HO_354000 := n0_; have HO382 := n1_; have BK353 := n2_; have BK354 := n3_; have BK355 := n4_; have HB := n5_; clear n0_ n1_ n2_ n3_ n4_ n5_; (try clear hb); (try clear hb2); (try clear hk); (try clear hi); (try clear ho0); obtain ⟨Ao139, co139, eo139⟩ := Kd.R_slice HO382.out; subst eo139) | (go_at_call 19; (with_reducible refine (table_Read.calls _ _ t380 t384 t387 _ ?side1 ?side2 A126.out).mono ?_); (case side1 => repeat (first | exact (Kd.R_reads' HO382.out).2.2 | (with_reducible refine Kd.C_alloc ?_ _) | (with_reducible refine Kd.C_drewN ?_ _) | (with_reducible refine Kd.C_drew ?_))); (case side2 => exact (Kd.R_reads' HO382.out).2.1); rintro e w140 ⟨v385, rfl, ho0, hb⟩; have n0_ := Aside0.mk (Kd.V_elder' (by (with_reducible repeat (first | apply Kd.V_alloc | apply Kd.V_drewN | apply Kd.V_drew)); exact HO_354000.out) (Kd.R_base ho0) hb); have n1_ := Aside0.mk (Kd.R_below (by (with_reducible repeat (first | apply Kd.R_alloc | apply Kd.R_drewN | apply Kd.R_drew)); exact HO382.out) hb); have n2_ := Aside0.mk (Kd.R_lower ho0 (below_size (by repeat (first | (with_reducible first | exact HB.out | apply below_alloc | apply pw_below_drewN | apply below_drew1 | refine below_set ?_ GE353.out | refine below_set ?_ GE354.out | refine below_set ?_ GE355.out) | exact HB.out)))); have n3_ := Aside0.mk (blk_below (g := gb353) (o := .cells #[.slice Ao135 x354000_1.length co135] 24 (0, 0)) (by (with_reducible repeat (first | refine blk_drewN ?_ _ | refine blk_drew ?_ | refine blk_alloc ?_ _)); exact BK353.out) hb); have n4_ := Aside0.mk (own_below (mb := gb354) (M := x355000_1) (by (with_reducible repeat (first | refine own_drewN ?_ _ | refine own_drew ?_ | refine own_alloc ?_ _)); exact BK354.out) hb); have n5_ := Aside0.mk (own_below (mb := gb355) (M := x356000_1) (by (with_reducible repeat (first | refine own_drewN ?_ _ | refine own_drew ?_ | refine own_alloc ?_ _)); exact BK355.out) hb); have n6_ := Aside0.mk (below_step (by repeat (first | (with_reducible first | exact HB.out | apply below_alloc | apply pw_below_drewN | apply below_drew1 | refine below_set ?_ GE353.out | refine below_set ?_ GE354.out | refine below_set ?_ GE355.out) | exact HB.out)) hb); clear HO_354000; clear HO382; clear BK353; clear BK354; clear BK355; clear HB; have HO_354000 := n0_; have HO382 := n1_; have HO386 := n2_; have BK353 := n3_; have BK354 := n4_; have BK355 := n5_; have HB := n6_; clear n0_ n1_ n2_ n3_ n4_ n5_ n6_; (try clear hb); (try clear hb2); (try clear hk); (try clear hi); (try clear ho0)) | ((with_reducible refine gate_dst (N := 29) rfl ?_); refine box_event ?hg (N := 29) ?hd (cs := #[.slice none 0 0]) (t := 24) ?hr ?_; (case hd => rfl); (case hg => rfl); (case hr => first | (go_simp; done) | (go_simp; rfl)); intro gb388 hg w141 hbox hb; have n0_ := Aside0.mk (Kd.V_below (Kd.V_elderB (by (with_reducible repeat (first | apply Kd.V_alloc | apply Kd.V_drewN | apply Kd.V_drew)); exact HO_354000.out) gb388 (Nat.le_of_eq hg.symm)) hb); have n1_ := Aside0.mk (Kd.R_below (by (with_reducible repeat (first | apply Kd.R_alloc | apply Kd.R_drewN | apply Kd.R_drew)); exact HO382.out) hb); have n2_ := Aside0.mk (Kd.R_below (by (with_reducible repeat (first | apply Kd.R_alloc | apply Kd.R_drewN | apply Kd.R_drew)); exact HO386.out) hb); have n3_ := Aside0.mk (blk_below (g := gb353) (o := .cells #[.slice Ao135 x354000_1.length co135] 24 (0, 0)) (by (with_reducible repeat (first | refine blk_drewN ?_ _ | refine blk_drew ?_ | refine blk_alloc ?_ _)); exact BK353.out) hb); have n4_ := Aside0.mk (own_below (mb := gb354) (M := x355000_1) (by (with_reducible repeat (first | refine own_drewN ?_ _ | refine own_drew ?_ | refine own_alloc ?_ _)); exact BK354.out) hb); have n5_ := Aside0.mk (own_below (mb := gb355) (M := x356000_1) (by (with_reducible repeat (first | refine own_drewN ?_ _ | refine own_drew ?_ | refine own_alloc ?_ _)); exact BK355.out) hb); have n6_ := Aside0.mk (below_step (by repeat (first | (with_reducible first | exact HB.out | apply below_alloc | apply pw_below_drewN | apply below_drew1 | refine below_set ?_ GE353.out | refine below_set ?_ GE354.out | refine below_set ?_ GE355.out) | exact HB.out)) hb); have n7_ := Aside0.mk (hbox); have n8_ := Aside0.mk ((by rw [hg]; exact (below_size (by repeat (first | (with_reducible first | exact HB.out | apply below_alloc | apply pw_below_drewN | apply below_drew1 | refine below_set ?_ GE353.out | refine below_set ?_ GE354.out | refine below_set ?_ GE355.out) | exact HB.out))) : w.heap.size ≤ gb388)); have n9_ := Aside0.mk ((by rw [hg]; exact (below_size (by repeat (first | (with_reducible first | exact HB.out | apply below_alloc | apply pw_below_drewN | apply below_drew1 | refine below_set ?_ GE353.out | refine below_set ?_ GE354.out | refine below_set ?_ GE355.out) | exact HB.out))) : w.heap.size ≤ gb388)); have n10_ := Aside0.mk ((by rw [hg]; exact Nat.ne_of_lt (blk_lt (g := gb353) (o := .cells #[.slice Ao135 x354000_1.length co135] 24 (0, 0)) (by (with_reducible repeat (first | refine blk_drewN ?_ _ | refine blk_drew ?_ | refine blk_alloc ?_ _)); exact BK353.out)) : gb353 ≠ gb388)); have n11_ := Aside0.mk ((by rw [hg]; exact Nat.ne_of_gt (blk_lt (g := gb353) (o := .cells #[.slice Ao135 x354000_1.length co135] 24 (0, 0)) (by (with_reducible repeat (first | refine blk_drewN ?_ _ | refine blk_drew ?_ | refine blk_alloc ?_ _)); exact BK353.out)) : gb388 ≠ gb353)); have n12_ := Aside0.mk ((by rw [hg]; exact Nat.ne_of_lt (own_lt (mb := gb354) (M := x355000_1) (by (with_reducible repeat (first | refine own_drewN ?_ _ | refine own_drew ?_ | refine own_alloc ?_ _)); exact BK354.out)) : gb354 ≠ gb388)); have n13_ := Aside0.mk ((by rw [hg]; exact Nat.ne_of_gt (own_lt (mb := gb354) (M := x355000_1) (by (with_reducible repeat (first | refine own_drewN ?_ _ | refine own_drew ?_ | refine own_alloc ?_ _)); exact BK354.out)) : gb388 ≠ gb354)); have n14_ := Aside0.mk ((by rw [hg]; exact Nat.ne_of_lt (own_lt (mb := gb355) (M := x356000_1) (by (with_reducible repeat (first | refine own_drewN ?_ _ | refine own_drew ?_ | refine own_alloc ?_ _)); exact BK355.out)) : gb355 ≠ gb388)); have n15_ := Aside0.mk ((by rw [hg]; exact Nat.ne_of_gt (own_lt (mb := gb355) (M := x356000_1) (by (with_reducible repeat (first | refine own_drewN ?_ _ | refine own_drew ?_ | refine own_alloc ?_ _)); exact BK355.out)) : gb388 ≠ gb355)); clear HO_354000; clear HO382; clear HO386; clear BK353; clear BK354; clear BK355; clear HB; have HO_354000 := n0_; have HO382 := n1_; have HO386 := n2_; have BK353 := n3_; have BK354 := n4_; have BK355 := n5_; have HB := n6_; have BK388 := n7_; have GW388 := n8_; have GE388 := n9_; have NB353_388 := n10_; have NB388_353 := n11_; have NB354_388 := n12_; have NB388_354 := n13_; have NB355_388 := n14_; have NB388_355 := n15_; clear n0_ n1_ n2_ n3_ n4_ n5_ n6_ n7_ n8_ n9_ n10_ n11_ n12_ n13_ n14_ n15_; clear hb hbox hg; obtain ⟨Ao142, co142, eo142⟩ := Kd.R_slice HO386.out; subst eo142; have hnb143 := NB388_353.out; have hnc143 := NB353_388.out; have hnb144 := NB388_354.out; have hnc144 := NB354_388.out; have hnb145 := NB388_355.out; have hnc145 := NB355_388.out; have hcz146_0 : w141.cell? ⟨gb388, 0, none⟩ = some (.slice none 0 0) := (blk_cell BK388.out 0).trans rfl; have hfz146_0 := blk_frozen BK388.out 0; have hcz147_0 : w141.cell? ⟨gb353, 0, none⟩ = some (.slice Ao135 x354000_1.length co135) := (blk_cell BK353.out 0).trans rfl; have hfz147_0 := blk_frozen BK353.out 0) | (go_at_call 18; (with_reducible refine (tallymankit_Ints.calls k2 _ _ t384 _ _ x354000_1 t389 _ ?side1 ?side2 ?side3 ?side4 A131.out).mono ?_); (case side1 => refine (Kd.R_reads' (e := 3) (base := w.heap.size) (ok := fun k_ => True) (n := t384.length) (c := co142) ?_).2.2; exact (by (with_reducible repeat (first | apply Kd.R_alloc | apply Kd.R_drewN | apply Kd.R_drew)); exact (Kd.R_mono (Kd.R_far (p := ⟨gb388, 0, none⟩) (Kd.R_types HO386.out BK388.out (by decide)) (fun _ hk => hk.2) (.slice Ao142 t384.length co142)) (fun _ h_ => h_.1)))); (case side2 => exact (Kd.R_reads' HO386.out).2.1); (case side3 => refine (Kd.V_reads' (e := 3) (base := w.heap.size) (ok := fun k_ => ((((k_ ≠ gb353 ∧ (k_ ≠ gb354 ∧ k_ ≠ gb355)) ∧ some k_ ≠ (.slice Ao139 t380.length co139 : Value).ownBlock) ∧ some k_ ≠ (.slice Ao142 t384.length co142 : Value).ownBlock) ∧ k_ ≠ gb388)) (n := x354000_1.length) (c := co135) ?_).2.2; exact (by (with_reducible repeat (first | apply Kd.V_alloc | apply Kd.V_drewN | apply Kd.V_drew)); exact (Kd.V_mono (Kd.V_far (p := ⟨gb388, 0, none⟩) (Kd.V_mono HO_354000.out (fun k_ hk => (⟨hk, hk.2⟩ : _ ∧ k_ ≠ gb388))) (fun _ hk => hk.2) (.slice Ao142 t384.length co142)) (fun _ h_ => h_.1)))); (case side4 => exact (Kd.V_reads' HO_354000.out).2.1); rintro e w' ⟨rfl, ⟨nd, rfl⟩⟩; (try first | exact ⟨rfl, _, World.drewN_drewN _ _ _⟩ | exact ⟨rfl, _, Eq.trans (World.drewN_drewN _ _ _) (congrArg (World.drewN _) (Nat.add_assoc _ _ _))⟩)))
                          repeat (go_quiet (first | (go_at_call 15; (with_reducible refine (table_Fresh.calls k2 _ _ x354000_1 t378 t379 _ ?side1 ?side2 A124.out).mono ?_); (case side1 => repeat (first | exact (Kd.V_reads' HO_354000.out).2.2 | (with_reducible refine Kd.C_alloc ?_ _) | (with_reducible refine Kd.C_drewN ?_ _) | (with_reducible refine Kd.C_drew ?_))); (case side2 => exact (Kd.V_reads' HO_354000.out).2.1); rintro e w136 ⟨rfl, hb⟩; have n0_ := Aside0.mk (Kd.V_below (by (with_reducible repeat (first | apply Kd.V_alloc | apply Kd.V_drewN | apply Kd.V_drew)); exact HO_354000.out) hb); have n1_ := Aside0.mk (blk_below (g := gb353) (o := .cells #[.slice Ao135 x354000_1.length co135] 24 (0, 0)) (by (with_reducible repeat (first | refine blk_drewN ?_ _ | refine blk_drew ?_ | refine blk_alloc ?_ _)); exact BK353.out) hb); have n2_ := Aside0.mk (own_below (mb := gb354) (M := x355000_1) (by (with_reducible repeat (first | refine own_drewN ?_ _ | refine own_drew ?_ | refine own_alloc ?_ _)); exact BK354.out) hb); have n3_ := Aside0.mk (own_below (mb := gb355) (M := x356000_1) (by (with_reducible repeat (first | refine own_drewN ?_ _ | refine own_drew ?_ | refine own_alloc ?_ _)); exact BK355.out) hb); have n4_ := Aside0.mk (below_step (by repeat (first | (with_reducible first | exact HB.out | apply below_alloc | apply pw_below_drewN | apply below_drew1 | refine below_set ?_ GE353.out | refine below_set ?_ GE354.out | refine below_set ?_ GE355.out) | exact HB.out)) hb); clear HO_354000; clear BK353; clear BK354; clear BK355; clear HB; have HO_354000 := n0_; have BK353 := n1_; have BK354 := n2_; have BK355 := n3_; have HB := n4_; clear n0_ n1_ n2_ n3_ n4_; (try clear hb); (try clear hb2); (try clear hk); (try clear hi); have hcz137_0 : w136.cell? ⟨gb353, 0, none⟩ = some (.slice Ao135 x354000_1.length co135) := (blk_cell BK353.out 0).trans rfl; have hfz137_0 := blk_frozen BK353.out 0) | (go_at_call 21; (with_reducible refine (table_Bytes.calls k2 _ _ x354000_1 t380 t383 _ ?side1 ?side2 A125.out).mono ?_); (case side1 => repeat (first | exact (Kd.V_reads' HO_354000.out).2.2 | (with_reducible refine Kd.C_alloc ?_ _) | (with_reducible refine Kd.C_drewN ?_ _) | (with_reducible refine Kd.C_drew ?_))); (case side2 => exact (Kd.V_reads' HO_354000.out).2.1); rintro e w138 ⟨v381, rfl, ho0, hb⟩; have n0_ := Aside0.mk (Kd.V_elder' (by (with_reducible repeat (first | apply Kd.V_alloc | apply Kd.V_drewN | apply Kd.V_drew)); exact HO_354000.out) (Kd.R_base ho0) hb); have n1_ := Aside0.mk (Kd.R_lower ho0 (below_size (by repeat (first | (with_reducible first | exact HB.out | apply below_alloc | apply pw_below_drewN | apply below_drew1 | refine below_set ?_ GE353.out | refine below_set ?_ GE354.out | refine below_set ?_ GE355.out) | exact HB.out)))); have n2_ := Aside0.mk (blk_below (g := gb353) (o := .cells #[.slice Ao135 x354000_1.length co135] 24 (0, 0)) (by (with_reducible repeat (first | refine blk_drewN ?_ _ | refine blk_drew ?_ | refine blk_alloc ?_ _)); exact BK353.out) hb); have n3_ := Aside0.mk (own_below (mb := gb354) (M := x355000_1) (by (with_reducible repeat (first | refine own_drewN ?_ _ | refine own_drew ?_ | refine own_alloc ?_ _)); exact BK354.out) hb); have n4_ := Aside0.mk (own_below (mb := gb355) (M := x356000_1) (by (with_reducible repeat (first | refine own_drewN ?_ _ | refine own_drew ?_ | refine own_alloc ?_ _)); exact BK355.out) hb); have n5_ := Aside0.mk (below_step (by repeat (first | (with_reducible first | exact HB.out | apply below_alloc | apply pw_below_drewN | apply below_drew1 | refine below_set ?_ GE353.out | refine below_set ?_ GE354.out | refine below_set ?_ GE355.out) | exact HB.out)) hb); clear HO_354000; clear BK353; clear BK354; clear BK355; clear HB; have HO_354000 := n0_; have HO382 := n1_; have BK353 := n2_; have BK354 := n3_; have BK355 := n4_; have HB := n5_; clear n0_ n1_ n2_ n3_ n4_ n5_; (try clear hb); (try clear hb2); (try clear hk); (try clear hi); (try clear ho0); obtain ⟨Ao139, co139, eo139⟩ := Kd.R_slice HO382.out; subst eo139) | (go_at_call 19; (with_reducible refine (table_Read.calls _ _ t380 t384 t387 _ ?side1 ?side2 A126.out).mono ?_); (case side1 => repeat (first | exact (Kd.R_reads' HO382.out).2.2 | (with_reducible refine Kd.C_alloc ?_ _) | (with_reducible refine Kd.C_drewN ?_ _) | (with_reducible refine Kd.C_drew ?_))); (case side2 => exact (Kd.R_reads' HO382.out).2.1); rintro e w140 ⟨v385, rfl, ho0, hb⟩; have n0_ := Aside0.mk (Kd.V_elder' (by (with_reducible repeat (first | apply Kd.V_alloc | apply Kd.V_drewN | apply Kd.V_drew)); exact HO_354000.out) (Kd.R_base ho0) hb); have n1_ := Aside0.mk (Kd.R_below (by (with_reducible repeat (first | apply Kd.R_alloc | apply Kd.R_drewN | apply Kd.R_drew)); exact HO382.out) hb); have n2_ := Aside0.mk (Kd.R_lower ho0 (below_size (by repeat (first | (with_reducible first | exact HB.out | apply below_alloc | apply pw_below_drewN | apply below_drew1 | refine below_set ?_ GE353.out | refine below_set ?_ GE354.out | refine below_set ?_ GE355.out) | exact HB.out)))); have n3_ := Aside0.mk (blk_below (g := gb353) (o := .cells #[.slice Ao135 x354000_1.length co135] 24 (0, 0)) (by (with_reducible repeat (first | refine blk_drewN ?_ _ | refine blk_drew ?_ | refine blk_alloc ?_ _)); exact BK353.out) hb); have n4_ := Aside0.mk (own_below (mb := gb354) (M := x355000_1) (by (with_reducible repeat (first | refine own_drewN ?_ _ | refine own_drew ?_ | refine own_alloc ?_ _)); exact BK354.out) hb); have n5_ := Aside0.mk (own_below (mb := gb355) (M := x356000_1) (by (with_reducible repeat (first | refine own_drewN ?_ _ | refine own_drew ?_ | refine own_alloc ?_ _)); exact BK355.out) hb); have n6_ := Aside0.mk (below_step (by repeat (first | (with_reducible first | exact HB.out | apply below_alloc | apply pw_below_drewN | apply below_drew1 | refine below_set ?_ GE353.out | refine below_set ?_ GE354.out | refine below_set ?_ GE355.out) | exact HB.out)) hb); clear HO_354000; clear HO382; clear BK353; clear BK354; clear BK355; clear HB; have HO_354000 := n0_; have HO382 := n1_; have HO386 := n2_; have BK353 := n3_; have BK354 := n4_; have BK355 := n5_; have HB := n6_; clear n0_ n1_ n2_ n3_ n4_ n5_ n6_; (try clear hb); (try clear hb2); (try clear hk); (try clear hi); (try clear ho0)) | ((with_reducible refine gate_dst (N := 29) rfl ?_); refine box_event ?hg (N := 29) ?hd (cs := #[.slice none 0 0]) (t := 24) ?hr ?_; (case hd => rfl); (case hg => rfl); (case hr => first | (go_simp; done) | (go_simp; rfl)); intro gb388 hg w141 hbox hb; have n0_ := Aside0.mk (Kd.V_below (Kd.V_elderB (by (with_reducible repeat (first | apply Kd.V_alloc | apply Kd.V_drewN | apply Kd.V_drew)); exact HO_354000.out) gb388 (Nat.le_of_eq hg.symm)) hb); have n1_ := Aside0.mk (Kd.R_below (by (with_reducible repeat (first | apply Kd.R_alloc | apply Kd.R_drewN | apply Kd.R_drew)); exact HO382.out) hb); have n2_ := Aside0.mk (Kd.R_below (by (with_reducible repeat (first | apply Kd.R_alloc | apply Kd.R_drewN | apply Kd.R_drew)); exact HO386.out) hb); have n3_ := Aside0.mk (blk_below (g := gb353) (o := .cells #[.slice Ao135 x354000_1.length co135] 24 (0, 0)) (by (with_reducible repeat (first | refine blk_drewN ?_ _ | refine blk_drew ?_ | refine blk_alloc ?_ _)); exact BK353.out) hb); have n4_ := Aside0.mk (own_below (mb := gb354) (M := x355000_1) (by (with_reducible repeat (first | refine own_drewN ?_ _ | refine own_drew ?_ | refine own_alloc ?_ _)); exact BK354.out) hb); have n5_ := Aside0.mk (own_below (mb := gb355) (M := x356000_1) (by (with_reducible repeat (first | refine own_drewN ?_ _ | refine own_drew ?_ | refine own_alloc ?_ _)); exact BK355.out) hb); have n6_ := Aside0.mk (below_step (by repeat (first | (with_reducible first | exact HB.out | apply below_alloc | apply pw_below_drewN | apply below_drew1 | refine below_set ?_ GE353.out | refine below_set ?_ GE354.out | refine below_set ?_ GE355.out) | exact HB.out)) hb); have n7_ := Aside0.mk (hbox); have n8_ := Aside0.mk ((by rw [hg]; exact (below_size (by repeat (first | (with_reducible first | exact HB.out | apply below_alloc | apply pw_below_drewN | apply below_drew1 | refine below_set ?_ GE353.out | refine below_set ?_ GE354.out | refine below_set ?_ GE355.out) | exact HB.out))) : w.heap.size ≤ gb388)); have n9_ := Aside0.mk ((by rw [hg]; exact (below_size (by repeat (first | (with_reducible first | exact HB.out | apply below_alloc | apply pw_below_drewN | apply below_drew1 | refine below_set ?_ GE353.out | refine below_set ?_ GE354.out | refine below_set ?_ GE355.out) | exact HB.out))) : w.heap.size ≤ gb388)); have n10_ := Aside0.mk ((by rw [hg]; exact Nat.ne_of_lt (blk_lt (g := gb353) (o := .cells #[.slice Ao135 x354000_1.length co135] 24 (0, 0)) (by (with_reducible repeat (first | refine blk_drewN ?_ _ | refine blk_drew ?_ | refine blk_alloc ?_ _)); exact BK353.out)) : gb353 ≠ gb388)); have n11_ := Aside0.mk ((by rw [hg]; exact Nat.ne_of_gt (blk_lt (g := gb353) (o := .cells #[.slice Ao135 x354000_1.length co135] 24 (0, 0)) (by (with_reducible repeat (first | refine blk_drewN ?_ _ | refine blk_drew ?_ | refine blk_alloc ?_ _)); exact BK353.out)) : gb388 ≠ gb353)); have n12_ := Aside0.mk ((by rw [hg]; exact Nat.ne_of_lt (own_lt (mb := gb354) (M := x355000_1) (by (with_reducible repeat (first | refine own_drewN ?_ _ | refine own_drew ?_ | refine own_alloc ?_ _)); exact BK354.out)) : gb354 ≠ gb388)); have n13_ := Aside0.mk ((by rw [hg]; exact Nat.ne_of_gt (own_lt (mb := gb354) (M := x355000_1) (by (with_reducible repeat (first | refine own_drewN ?_ _ | refine own_drew ?_ | refine own_alloc ?_ _)); exact BK354.out)) : gb388 ≠ gb354)); have n14_ := Aside0.mk ((by rw [hg]; exact Nat.ne_of_lt (own_lt (mb := gb355) (M := x356000_1) (by (with_reducible repeat (first | refine own_drewN ?_ _ | refine own_drew ?_ | refine own_alloc ?_ _)); exact BK355.out)) : gb355 ≠ gb388)); have n15_ := Aside0.mk ((by rw [hg]; exact Nat.ne_of_gt (own_lt (mb := gb355) (M := x356000_1) (by (with_reducible repeat (first | refine own_drewN ?_ _ | refine own_drew ?_ | refine own_alloc ?_ _)); exact BK355.out)) : gb388 ≠ gb355)); clear HO_354000; clear HO382; clear HO386; clear BK353; clear BK354; clear BK355; clear HB; have HO_354000 := n0_; have HO382 := n1_; have HO386 := n2_; have BK353 := n3_; have BK354 := n4_; have BK355 := n5_; have HB := n6_; have BK388 := n7_; have GW388 := n8_; have GE388 := n9_; have NB353_388 := n10_; have NB388_353 := n11_; have NB354_388 := n12_; have NB388_354 := n13_; have NB355_388 := n14_; have NB388_355 := n15_; clear n0_ n1_ n2_ n3_ n4_ n5_ n6_ n7_ n8_ n9_ n10_ n11_ n12_ n13_ n14_ n15_; clear hb hbox hg; obtain ⟨Ao142, co142, eo142⟩ := Kd.R_slice HO386.out; subst eo142; have hnb143 := NB388_353.out; have hnc143 := NB353_388.out; have hnb144 := NB388_354.out; have hnc144 := NB354_388.out; have hnb145 := NB388_355.out; have hnc145 := NB355_388.out; have hcz146_0 : w141.cell? ⟨gb388, 0, none⟩ = some (.slice none 0 0) := (blk_cell BK388.out 0).trans rfl; have hfz146_0 := blk_frozen BK388.out 0; have hcz147_0 : w141.cell? ⟨gb353, 0, none⟩ = some (.slice Ao135 x354000_1.length co135) := (blk_cell BK353.out 0).trans rfl; have hfz147_0 := blk_frozen BK353.out 0) | (go_at_call 18; (with_reducible refine (tallymankit_Ints.calls k2 _ _ t384 _ _ x354000_1 t389 _ ?side1 ?side2 ?side3 ?side4 A131.out).mono ?_); (case side1 => refine (Kd.R_reads' (e := 3) (base := w.heap.size) (ok := fun k_ => True) (n := t384.length) (c := co142) ?_).2.2; exact (by (with_reducible repeat (first | apply Kd.R_alloc | apply Kd.R_drewN | apply Kd.R_drew)); exact (Kd.R_mono (Kd.R_far (p := ⟨gb388, 0, none⟩) (Kd.R_types HO386.out BK388.out (by decide)) (fun _ hk => hk.2) (.slice Ao142 t384.length co142)) (fun _ h_ => h_.1)))); (case side2 => exact (Kd.R_reads' HO386.out).2.1); (case side3 => refine (Kd.V_reads' (e := 3) (base := w.heap.size) (ok := fun k_ => ((((k_ ≠ gb353 ∧ (k_ ≠ gb354 ∧ k_ ≠ gb355)) ∧ some k_ ≠ (.slice Ao139 t380.length co139 : Value).ownBlock) ∧ some k_ ≠ (.slice Ao142 t384.length co142 : Value).ownBlock) ∧ k_ ≠ gb388)) (n := x354000_1.length) (c := co135) ?_).2.2; exact (by (with_reducible repeat (first | apply Kd.V_alloc | apply Kd.V_drewN | apply Kd.V_drew)); exact (Kd.V_mono (Kd.V_far (p := ⟨gb388, 0, none⟩) (Kd.V_mono HO_354000.out (fun k_ hk => (⟨hk, hk.2⟩ : _ ∧ k_ ≠ gb388))) (fun _ hk => hk.2) (.slice Ao142 t384.length co142)) (fun _ h_ => h_.1)))); (case side4 => exact (Kd.V_reads' HO_354000.out).2.1); rintro e w' ⟨rfl, ⟨nd, rfl⟩⟩; (try first | exact ⟨rfl, _, World.drewN_drewN _ _ _⟩ | exact ⟨rfl, _, Eq.trans (World.drewN_drewN _ _ _) (congrArg (World.drewN _) (Nat.add_assoc _ _ _))⟩))); try go_wp2_with (first | (go_at_call 15; (with_reducible refine (table_Fresh.calls k2 _ _ x354000_1 t378 t379 _ ?side1 ?side2 A124.out).mono ?_); (case side1 => repeat (first | exact (Kd.V_reads' HO_354000.out).2.2 | (with_reducible refine Kd.C_alloc ?_ _) | (with_reducible refine Kd.C_drewN ?_ _) | (with_reducible refine Kd.C_drew ?_))); (case side2 => exact (Kd.V_reads' HO_354000.out).2.1); rintro e w136 ⟨rfl, hb⟩; have n0_ := Aside0.mk (Kd.V_below (by (with_reducible repeat (first | apply Kd.V_alloc | apply Kd.V_drewN | apply Kd.V_drew)); exact HO_354000.out) hb); have n1_ := Aside0.mk (blk_below (g := gb353) (o := .cells #[.slice Ao135 x354000_1.length co135] 24 (0, 0)) (by (with_reducible repeat (first | refine blk_drewN ?_ _ | refine blk_drew ?_ | refine blk_alloc ?_ _)); exact BK353.out) hb); have n2_ := Aside0.mk (own_below (mb := gb354) (M := x355000_1) (by (with_reducible repeat (first | refine own_drewN ?_ _ | refine own_drew ?_ | refine own_alloc ?_ _)); exact BK354.out) hb); have n3_ := Aside0.mk (own_below (mb := gb355) (M := x356000_1) (by (with_reducible repeat (first | refine own_drewN ?_ _ | refine own_drew ?_ | refine own_alloc ?_ _)); exact BK355.out) hb); have n4_ := Aside0.mk (below_step (by repeat (first | (with_reducible first | exact HB.out | apply below_alloc | apply pw_below_drewN | apply below_drew1 | refine below_set ?_ GE353.out | refine below_set ?_ GE354.out | refine below_set ?_ GE355.out) | exact HB.out)) hb); clear HO_354000; clear BK353; clear BK354; clear BK355; clear HB; have HO_354000 := n0_; have BK353 := n1_; have BK354 := n2_; have BK355 := n3_; have HB := n4_; clear n0_ n1_ n2_ n3_ n4_; (try clear hb); (try clear hb2); (try clear hk); (try clear hi); have hcz137_0 : w136.cell? ⟨gb353, 0, none⟩ = some (.slice Ao135 x354000_1.length co135) := (blk_cell BK353.out 0).trans rfl; have hfz137_0 := blk_frozen BK353.out 0) | (go_at_call 21; (with_reducible refine (table_Bytes.calls k2 _ _ x354000_1 t380 t383 _ ?side1 ?side2 A125.out).mono ?_); (case side1 => repeat (first | exact (Kd.V_reads' HO_354000.out).2.2 | (with_reducible refine Kd.C_alloc ?_ _) | (with_reducible refine Kd.C_drewN ?_ _) | (with_reducible refine Kd.C_drew ?_))); (case side2 => exact (Kd.V_reads' HO_354000.out).2.1); rintro e w138 ⟨v381, rfl, ho0, hb⟩; have n0_ := Aside0.mk (Kd.V_elder' (by (with_reducible repeat (first | apply Kd.V_alloc | apply Kd.V_drewN | apply Kd.V_drew)); exact HO_354000.out) (Kd.R_base ho0) hb); have n1_ := Aside0.mk (Kd.R_lower ho0 (below_size (by repeat (first | (with_reducible first | exact HB.out | apply below_alloc | apply pw_below_drewN | apply below_drew1 | refine below_set ?_ GE353.out | refine below_set ?_ GE354.out | refine below_set ?_ GE355.out) | exact HB.out)))); have n2_ := Aside0.mk (blk_below (g := gb353) (o := .cells #[.slice Ao135 x354000_1.length co135] 24 (0, 0)) (by (with_reducible repeat (first | refine blk_drewN ?_ _ | refine blk_drew ?_ | refine blk_alloc ?_ _)); exact BK353.out) hb); have n3_ := Aside0.mk (own_below (mb := gb354) (M := x355000_1) (by (with_reducible repeat (first | refine own_drewN ?_ _ | refine own_drew ?_ | refine own_alloc ?_ _)); exact BK354.out) hb); have n4_ := Aside0.mk (own_below (mb := gb355) (M := x356000_1) (by (with_reducible repeat (first | refine own_drewN ?_ _ | refine own_drew ?_ | refine own_alloc ?_ _)); exact BK355.out) hb); have n5_ := Aside0.mk (below_step (by repeat (first | (with_reducible first | exact HB.out | apply below_alloc | apply pw_below_drewN | apply below_drew1 | refine below_set ?_ GE353.out | refine below_set ?_ GE354.out | refine below_set ?_ GE355.out) | exact HB.out)) hb); clear HO_354000; clear BK353; clear BK354; clear BK355; clear HB; have HO_354000 := n0_; have HO382 := n1_; have BK353 := n2_; have BK354 := n3_; have BK355 := n4_; have HB := n5_; clear n0_ n1_ n2_ n3_ n4_ n5_; (try clear hb); (try clear hb2); (try clear hk); (try clear hi); (try clear ho0); obtain ⟨Ao139, co139, eo139⟩ := Kd.R_slice HO382.out; subst eo139) | (go_at_call 19; (with_reducible refine (table_Read.calls _ _ t380 t384 t387 _ ?side1 ?side2 A126.out).mono ?_); (case side1 => repeat (first | exact (Kd.R_reads' HO382.out).2.2 | (with_reducible refine Kd.C_alloc ?_ _) | (with_reducible refine Kd.C_drewN ?_ _) | (with_reducible refine Kd.C_drew ?_))); (case side2 => exact (Kd.R_reads' HO382.out).2.1); rintro e w140 ⟨v385, rfl, ho0, hb⟩; have n0_ := Aside0.mk (Kd.V_elder' (by (with_reducible repeat (first | apply Kd.V_alloc | apply Kd.V_drewN | apply Kd.V_drew)); exact HO_354000.out) (Kd.R_base ho0) hb); have n1_ := Aside0.mk (Kd.R_below (by (with_reducible repeat (first | apply Kd.R_alloc | apply Kd.R_drewN | apply Kd.R_drew)); exact HO382.out) hb); have n2_ := Aside0.mk (Kd.R_lower ho0 (below_size (by repeat (first | (with_reducible first | exact HB.out | apply below_alloc | apply pw_below_drewN | apply below_drew1 | refine below_set ?_ GE353.out | refine below_set ?_ GE354.out | refine below_set ?_ GE355.out) | exact HB.out)))); have n3_ := Aside0.mk (blk_below (g := gb353) (o := .cells #[.slice Ao135 x354000_1.length co135] 24 (0, 0)) (by (with_reducible repeat (first | refine blk_drewN ?_ _ | refine blk_drew ?_ | refine blk_alloc ?_ _)); exact BK353.out) hb); have n4_ := Aside0.mk (own_below (mb := gb354) (M := x355000_1) (by (with_reducible repeat (first | refine own_drewN ?_ _ | refine own_drew ?_ | refine own_alloc ?_ _)); exact BK354.out) hb); have n5_ := Aside0.mk (own_below (mb := gb355) (M := x356000_1) (by (with_reducible repeat (first | refine own_drewN ?_ _ | refine own_drew ?_ | refine own_alloc ?_ _)); exact BK355.out) hb); have n6_ := Aside0.mk (below_step (by repeat (first | (with_reducible first | exact HB.out | apply below_alloc | apply pw_below_drewN | apply below_drew1 | refine below_set ?_ GE353.out | refine below_set ?_ GE354.out | refine below_set ?_ GE355.out) | exact HB.out)) hb); clear HO_354000; clear HO382; clear BK353; clear BK354; clear BK355; clear HB; have HO_354000 := n0_; have HO382 := n1_; have HO386 := n2_; have BK353 := n3_; have BK354 := n4_; have BK355 := n5_; have HB := n6_; clear n0_ n1_ n2_ n3_ n4_ n5_ n6_; (try clear hb); (try clear hb2); (try clear hk); (try clear hi); (try clear ho0)) | ((with_reducible refine gate_dst (N := 29) rfl ?_); refine box_event ?hg (N := 29) ?hd (cs := #[.slice none 0 0]) (t := 24) ?hr ?_; (case hd => rfl); (case hg => rfl); (case hr => first | (go_simp; done) | (go_simp; rfl)); intro gb388 hg w141 hbox hb; have n0_ := Aside0.mk (Kd.V_below (Kd.V_elderB (by (with_reducible repeat (first | apply Kd.V_alloc | apply Kd.V_drewN | apply Kd.V_drew)); exact HO_354000.out) gb388 (Nat.le_of_eq hg.symm)) hb); have n1_ := Aside0.mk (Kd.R_below (by (with_reducible repeat (first | apply Kd.R_alloc | apply Kd.R_drewN | apply Kd.R_drew)); exact HO382.out) hb); have n2_ := Aside0.mk (Kd.R_below (by (with_reducible repeat (first | apply Kd.R_alloc | apply Kd.R_drewN | apply Kd.R_drew)); exact HO386.out) hb); have n3_ := Aside0.mk (blk_below (g := gb353) (o := .cells #[.slice Ao135 x354000_1.length co135] 24 (0, 0)) (by (with_reducible repeat (first | refine blk_drewN ?_ _ | refine blk_drew ?_ | refine blk_alloc ?_ _)); exact BK353.out) hb); have n4_ := Aside0.mk (own_below (mb := gb354) (M := x355000_1) (by (with_reducible repeat (first | refine own_drewN ?_ _ | refine own_drew ?_ | refine own_alloc ?_ _)); exact BK354.out) hb); have n5_ := Aside0.mk (own_below (mb := gb355) (M := x356000_1) (by (with_reducible repeat (first | refine own_drewN ?_ _ | refine own_drew ?_ | refine own_alloc ?_ _)); exact BK355.out) hb); have n6_ := Aside0.mk (below_step (by repeat (first | (with_reducible first | exact HB.out | apply below_alloc | apply pw_below_drewN | apply below_drew1 | refine below_set ?_ GE353.out | refine below_set ?_ GE354.out | refine below_set ?_ GE355.out) | exact HB.out)) hb); have n7_ := Aside0.mk (hbox); have n8_ := Aside0.mk ((by rw [hg]; exact (below_size (by repeat (first | (with_reducible first | exact HB.out | apply below_alloc | apply pw_below_drewN | apply below_drew1 | refine below_set ?_ GE353.out | refine below_set ?_ GE354.out | refine below_set ?_ GE355.out) | exact HB.out))) : w.heap.size ≤ gb388)); have n9_ := Aside0.mk ((by rw [hg]; exact (below_size (by repeat (first | (with_reducible first | exact HB.out | apply below_alloc | apply pw_below_drewN | apply below_drew1 | refine below_set ?_ GE353.out | refine below_set ?_ GE354.out | refine below_set ?_ GE355.out) | exact HB.out))) : w.heap.size ≤ gb388)); have n10_ := Aside0.mk ((by rw [hg]; exact Nat.ne_of_lt (blk_lt (g := gb353) (o := .cells #[.slice Ao135 x354000_1.length co135] 24 (0, 0)) (by (with_reducible repeat (first | refine blk_drewN ?_ _ | refine blk_drew ?_ | refine blk_alloc ?_ _)); exact BK353.out)) : gb353 ≠ gb388)); have n11_ := Aside0.mk ((by rw [hg]; exact Nat.ne_of_gt (blk_lt (g := gb353) (o := .cells #[.slice Ao135 x354000_1.length co135] 24 (0, 0)) (by (with_reducible repeat (first | refine blk_drewN ?_ _ | refine blk_drew ?_ | refine blk_alloc ?_ _)); exact BK353.out)) : gb388 ≠ gb353)); have n12_ := Aside0.mk ((by rw [hg]; exact Nat.ne_of_lt (own_lt (mb := gb354) (M := x355000_1) (by (with_reducible repeat (first | refine own_drewN ?_ _ | refine own_drew ?_ | refine own_alloc ?_ _)); exact BK354.out)) : gb354 ≠ gb388)); have n13_ := Aside0.mk ((by rw [hg]; exact Nat.ne_of_gt (own_lt (mb := gb354) (M := x355000_1) (by (with_reducible repeat (first | refine own_drewN ?_ _ | refine own_drew ?_ | refine own_alloc ?_ _)); exact BK354.out)) : gb388 ≠ gb354)); have n14_ := Aside0.mk ((by rw [hg]; exact Nat.ne_of_lt (own_lt (mb := gb355) (M := x356000_1) (by (with_reducible repeat (first | refine own_drewN ?_ _ | refine own_drew ?_ | refine own_alloc ?_ _)); exact BK355.out)) : gb355 ≠ gb388)); have n15_ := Aside0.mk ((by rw [hg]; exact Nat.ne_of_gt (own_lt (mb := gb355) (M := x356000_1) (by (with_reducible repeat (first | refine own_drewN ?_ _ | refine own_drew ?_ | refine own_alloc ?_ _)); exact BK355.out)) : gb388 ≠ gb355)); clear HO_354000; clear HO382; clear HO386; clear BK353; clear BK354; clear BK355; clear HB; have HO_354000 := n0_; have HO382 := n1_; have HO386 := n2_; have BK353 := n3_; have BK354 := n4_; have BK355 := n5_; have HB := n6_; have BK388 := n7_; have GW388 := n8_; have GE388 := n9_; have NB353_388 := n10_; have NB388_353 := n11_; have NB354_388 := n12_; have NB388_354 := n13_; have NB355_388 := n14_; have NB388_355 := n15_; clear n0_ n1_ n2_ n3_ n4_ n5_ n6_ n7_ n8_ n9_ n10_ n11_ n12_ n13_ n14_ n15_; clear hb hbox hg; obtain ⟨Ao142, co142, eo142⟩ := Kd.R_slice HO386.out; subst eo142; have hnb143 := NB388_353.out; have hnc143 := NB353_388.out; have hnb144 := NB388_354.out; have hnc144 := NB354_388.out; have hnb145 := NB388_355.out; have hnc145 := NB355_388.out; have hcz146_0 : w141.cell? ⟨gb388, 0, none⟩ = some (.slice none 0 0) := (blk_cell BK388.out 0).trans rfl; have hfz146_0 := blk_frozen BK388.out 0; have hcz147_0 : w141.cell? ⟨gb353, 0, none⟩ = some (.slice Ao135 x354000_1.length co135) := (blk_cell BK353.out 0).trans rfl; have hfz147_0 := blk_frozen BK353.out 0) | (go_at_call 18; (with_reducible refine (tallymankit_Ints.calls k2 _ _ t384 _ _ x354000_1 t389 _ ?side1 ?side2 ?side3 ?side4 A131.out).mono ?_); (case side1 => refine (Kd.R_reads' (e := 3) (base := w.heap.size) (ok := fun k_ => True) (n := t384.length) (c := co142) ?_).2.2; exact (by (with_reducible repeat (first | apply Kd.R_alloc | apply Kd.R_drewN | apply Kd.R_drew)); exact (Kd.R_mono (Kd.R_far (p := ⟨gb388, 0, none⟩) (Kd.R_types HO386.out BK388.out (by decide)) (fun _ hk => hk.2) (.slice Ao142 t384.length co142)) (fun _ h_ => h_.1)))); (case side2 => exact (Kd.R_reads' HO386.out).2.1); (case side3 => refine (Kd.V_reads' (e := 3) (base := w.heap.size) (ok := fun k_ => ((((k_ ≠ gb353 ∧ (k_ ≠ gb354 ∧ k_ ≠ gb355)) ∧ some k_ ≠ (.slice Ao139 t380.length co139 : Value).ownBlock) ∧ some k_ ≠ (.slice Ao142 t384.length co142 : Value).ownBlock) ∧ k_ ≠ gb388)) (n := x354000_1.length) (c := co135) ?_).2.2; exact (by (with_reducible repeat (first | apply Kd.V_alloc | apply Kd.V_drewN | apply Kd.V_drew)); exact (Kd.V_mono (Kd.V_far (p := ⟨gb388, 0, none⟩) (Kd.V_mono HO_354000.out (fun k_ hk => (⟨hk, hk.2⟩ : _ ∧ k_ ≠ gb388))) (fun _ hk => hk.2) (.slice Ao142 t384.length co142)) (fun _ h_ => h_.1)))); (case side4 => exact (Kd.V_reads' HO_354000.out).2.1); rintro e w' ⟨rfl, ⟨nd, rfl⟩⟩; (try first | exact ⟨rfl, _, World.drewN_drewN _ _ _⟩ | exact ⟨rfl, _, Eq.trans (World.drewN_drewN _ _ _) (congrArg (World.drewN _) (Nat.add_assoc _ _ _))⟩))))
                          go_ret
                          exact ⟨by first | rfl | (simp [errW_none, errW_some] <;> rfl) | (simp [*, errW_none, errW_some] <;> rfl), by repeat (first | (with_reducible first | exact HB.out | apply below_alloc | apply pw_below_drewN | apply below_drew1 | refine below_set ?_ GE353.out | refine below_set ?_ GE354.out | refine below_set ?_ GE355.out | refine below_set ?_ GE388.out) | exact HB.out)⟩
                        · rw [if_neg c130] at H
                          exact absurd H (by simp)
                      · rw [if_neg c129] at H
                        exact absurd H (by simp)
                    · rw [if_neg c128] at H
                      exact absurd H (by simp)
                  · rw [if_neg c127] at H
                    exact absurd H (by simp)
  · replace c3 := Bool.eq_false_iff.mpr c3
    subst c3
    have H1 : (none) = some r := by rw [if_neg (show ¬ (false = true) by decide)] at H; exact H
    clear H
    have H := H1
    clear H1
    exact absurd H (by simp)
end Go.Proofs.Ytefnndodcpimiaa.H