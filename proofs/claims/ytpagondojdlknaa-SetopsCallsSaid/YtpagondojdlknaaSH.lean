/- Plain facts about the printed functions: what each of them answers. -/
import Derived.Test.YtpagondojdlknaaSG
import Derived.Test.YtpagondojdlknaaH9
import Derived.Test.YtpagondojdlknaaH16
import Derived.Test.YtpagondojdlknaaS8
namespace Go.Proofs.Ytpagondojdlknaa.H
open Go.RowKit Go.Proofs.YtpagondojdlknaaW.PrintWords Go.Proofs.YtpagondojdlknaaW.PrintLast Go.Proofs.YtpagondojdlknaaW.PrintMore
set_option linter.unusedVariables false
set_option linter.unusedSimpArgs false
def estS (L n : Nat) : Nat := if L = 0 then n else if L ≤ n then 9223372036854775807 else min (n * 18446744073709551616 / L) 9223372036854775807
theorem estS_mono (L : Nat) {m n : Nat} (h : m ≤ n) : estS L m ≤ estS L n := by
  unfold estS
  by_cases h0 : L = 0
  · rw [if_pos h0, if_pos h0]; exact h
  · rw [if_neg h0, if_neg h0]
    by_cases h1 : L ≤ n
    · rw [if_pos h1]
      split
      · exact Nat.le_refl _
      · exact Nat.min_le_right _ _
    · rw [if_neg h1, if_neg (by omega)]
      have h2 := Nat.div_le_div_right (c := L) (Nat.mul_le_mul_right 18446744073709551616 h)
      omega
theorem est_ev (L : Nat) (l : List Int) (hL : L < 18446744073709551616) (h : vchk (L : Int) l = 0) : Ev (fun k => setops_Estimate.f k (L : Int) l) (estS L l.length : Int) := by
  have hn := (vchk_inc h).2
  have hc := hcheck (L : Int) l
  rw [h] at hc
  have hw : IntKind.u64.wrap (l.length : Int) = (l.length : Int) := wu64' (by omega) (by omega)
  unfold setops_Estimate.f estS
  by_cases h0 : L = 0
  · refine Ev.bind hc (Ev.congr (f := fun _ => some (l.length : Int)) (fun k => ?_) (by rw [if_pos h0]; exact Ev.now _))
    rw [if_pos rfl, if_pos (by omega), hw]
  · rw [if_neg h0]
    by_cases h1 : L ≤ l.length
    · refine Ev.bind hc (Ev.congr (f := fun _ => some 9223372036854775807) (fun k => ?_) (by rw [if_pos h1]; exact Ev.now _))
      rw [if_pos rfl, if_neg (by omega), hw, if_pos (by omega)]
    · obtain ⟨r, hd⟩ := div64_ev l.length L (by omega) hL
      rw [if_neg h1]
      refine Ev.bind hc (Ev.congr (f := fun k => (bits_Div64.f k (l.length : Int) 0 (L : Int)).bind fun bt122 => (some (mn bt122.1 9223372036854775807))) (fun k => ?_) (Ev.bind hd (Ev.congr (f := fun _ => some ((min (l.length * 18446744073709551616 / L) 9223372036854775807 : Nat) : Int)) (fun k => ?_) (Ev.now _))))
      · rw [if_pos rfl, if_neg (by omega), hw, if_neg (by omega)]
      · generalize l.length * 18446744073709551616 / L = Q
        unfold mn
        dsimp only
        congr 1
        by_cases hq : (9223372036854775807 : Int) < (Q : Int)
        · rw [if_pos hq]; omega
        · rw [if_neg hq]; omega
/-! ### Like -/
theorem pairs_count : ∀ (x y : List Int), (pairsS x y).length + ((pairsS x y).filter pBoth).length = x.length + y.length
  | [], [] => by rw [pairsS]; rfl
  | a :: x, [] => by
    have := pairs_count x []
    rw [pairsS, List.filter_cons_of_neg (by simp [pBoth])]
    simp only [List.length_cons, List.length_nil] at this ⊢
    omega
  | [], b :: y => by
    have := pairs_count [] y
    rw [pairsS, List.filter_cons_of_neg (by simp [pBoth])]
    simp only [List.length_cons, List.length_nil] at this ⊢
    omega
  | a :: x, b :: y => by
    rw [pairsS]
    split
    · have := pairs_count x (b :: y)
      rw [List.filter_cons_of_neg (by simp [pBoth])]
      simp only [List.length_cons] at this ⊢
      omega
    · split
      · have := pairs_count (a :: x) y
        rw [List.filter_cons_of_neg (by simp [pBoth])]
        simp only [List.length_cons] at this ⊢
        omega
      · have := pairs_count x y
        rw [List.filter_cons_of_pos (by simp [pBoth])]
        simp only [List.length_cons] at this ⊢
        omega
termination_by x y => x.length + y.length
theorem pairs_countR : ∀ (x y : List Int), ((pairsS x y).filter fun z => z.2.2).length = y.length
  | [], [] => by rw [pairsS]; rfl
  | a :: x, [] => by
    have := pairs_countR x []
    rw [pairsS, List.filter_cons_of_neg (by simp)]
    exact this
  | [], b :: y => by
    have := pairs_countR [] y
    rw [pairsS, List.filter_cons_of_pos (by simp), List.length_cons, this]
    rfl
  | a :: x, b :: y => by
    rw [pairsS]
    split
    · have := pairs_countR x (b :: y)
      rw [List.filter_cons_of_neg (by simp)]
      exact this
    · split
      · have := pairs_countR (a :: x) y
        rw [List.filter_cons_of_pos (by simp), List.length_cons, this]
        rfl
      · have := pairs_countR x y
        rw [List.filter_cons_of_pos (by simp), List.length_cons, this]
        rfl
termination_by x y => x.length + y.length
theorem both_count {x y : List Int} (hx : x.Pairwise (· < ·)) (hy : y.Pairwise (· < ·)) : ((pairsS x y).filter pBoth).length = (x.filter fun h => decide (h ∈ y)).length := by
  have e : selS pBoth x y = x.filter fun h => decide (h ∈ y) := by
    refine inc_ext (sel_inc _ hx hy) (hx.filter _) (fun h => ?_)
    rw [sel_mem _ hx hy, List.mem_filter]
    by_cases h1 : h ∈ x <;> by_cases h2 : h ∈ y <;> simp [h1, h2, pBoth]
  rw [← e]
  unfold selS
  rw [List.length_map]
theorem rin (L x : Int) (l : List Int) (hl : l.length ≤ 1000000) : Ev (fun k => tallymanref17_in.f k L l x) (decide (x ∈ l)) := by
  have H : ∀ (d i : Nat), i + d = l.length → Ev (fun k => tallymanref17_in.l0 k x (i : Int) L l) (decide (x ∈ l.drop i)) := by
    intro d
    induction d with
    | zero =>
      intro i h
      rw [List.drop_of_length_le (by omega)]
      refine Ev.step (f := fun _ => some (decide (x ∈ ([] : List Int)))) (fun k => ?_) (Ev.now _)
      simp only [tallymanref17_in.l0]
      rw [if_neg (by omega)]
      rfl
    | succ d ih =>
      intro i h
      have hi : i < l.length := by omega
      rw [List.drop_eq_getElem_cons hi]
      by_cases hc : l[i] = x
      · refine Ev.step (f := fun _ => some (decide (x ∈ l[i] :: l.drop (i + 1)))) (fun k => ?_) (Ev.now _)
        simp only [tallymanref17_in.l0]
        rw [if_pos (by omega), if_pos (by omega), rd_nat' l i hi, if_pos hc, decide_eq_true (show x ∈ l[i] :: l.drop (i + 1) by rw [hc]; exact List.mem_cons_self ..)]
      · have e : decide (x ∈ l[i] :: l.drop (i + 1)) = decide (x ∈ l.drop (i + 1)) := by
          have : ¬ x = l[i] := fun h => hc h.symm
          exact decide_eq_decide.2 ⟨fun h => (List.mem_cons.1 h).resolve_left this, List.mem_cons_of_mem _⟩
        rw [e]
        refine Ev.step (f := fun k => tallymanref17_in.l0 k x ((i + 1 : Nat) : Int) L l) (fun k => ?_) (ih (i + 1) (by omega))
        simp only [tallymanref17_in.l0]
        rw [if_pos (by omega), if_pos (by omega), rd_nat' l i hi, if_neg hc, cz1 i (by omega)]
  exact H l.length 0 (by omega)
def likeE (n all : Nat) : Int × Int := if all = 0 then (65536, 0) else (65536 * (n : Int) / (all : Int), 0)
theorem rlike_loop (L M : Int) {x y : List Int} (hx : x.length ≤ 8192) (hy : y.length ≤ 8192) : ∀ (d i n : Nat), i + d = x.length → n ≤ i → n + ((x.drop i).filter fun h => decide (h ∈ y)).length ≤ y.length →
    Ev (fun k => tallymanref17_Like.l0 k (n : Int) (i : Int) L x M y) (likeE (n + ((x.drop i).filter fun h => decide (h ∈ y)).length) (x.length + y.length - (n + ((x.drop i).filter fun h => decide (h ∈ y)).length))) := by
  intro d
  induction d with
  | zero =>
    intro i n h hn hm
    rw [List.drop_of_length_le (by omega)] at hm ⊢
    simp only [List.filter_nil, List.length_nil, Nat.add_zero] at hm ⊢
    refine Ev.step (f := fun _ => some (likeE n (x.length + y.length - n))) (fun k => ?_) (Ev.now _)
    simp only [tallymanref17_Like.l0]
    have e1 : wrap64 ((wrap64 ((x.length : Int) + (y.length : Int))) - (n : Int)) = ((x.length + y.length - n : Nat) : Int) := by
      rw [cz64 ((x.length : Int) + (y.length : Int)) (by omega) (by omega), cz64 _ (by omega) (by omega)]
      omega
    have e2 : wrap64 (65536 * (n : Int)) = 65536 * (n : Int) := cz64 _ (by omega) (by omega)
    rw [if_neg (by omega), e1, e2]
    unfold likeE
    by_cases h0 : x.length + y.length - n = 0
    · rw [if_pos (by omega), if_pos h0]
    · rw [if_neg (by omega), if_neg h0]
      have e3 : Int.tdiv (65536 * (n : Int)) ((x.length + y.length - n : Nat) : Int) = 65536 * (n : Int) / ((x.length + y.length - n : Nat) : Int) := Int.tdiv_eq_ediv_of_nonneg (by omega)
      have b1 : 0 ≤ 65536 * (n : Int) / ((x.length + y.length - n : Nat) : Int) := Int.ediv_nonneg (by omega) (by omega)
      have b2 : 65536 * (n : Int) / ((x.length + y.length - n : Nat) : Int) ≤ 65536 * (n : Int) := Int.ediv_le_self _ (by omega)
      rw [e3, cz64 _ (by omega) (by omega)]
  | succ d ih =>
    intro i n h hn hm
    have hi : i < x.length := by omega
    rw [List.drop_eq_getElem_cons hi] at hm ⊢
    have hin := rin M x[i] y (by omega)
    by_cases c : x[i] ∈ y
    · rw [List.filter_cons_of_pos (by simpa using c), List.length_cons] at hm ⊢
      have := ih (i + 1) (n + 1) (by omega) (by omega) (by omega)
      rw [show n + (((x.drop (i + 1)).filter fun h => decide (h ∈ y)).length + 1) = n + 1 + ((x.drop (i + 1)).filter fun h => decide (h ∈ y)).length by omega]
      rw [decide_eq_true c] at hin
      refine Ev.step (f := fun k => (tallymanref17_in.f k M y x[i]).bind fun t485 => (if t485 = true then (tallymanref17_Like.l0 k ((n + 1 : Nat) : Int) ((i + 1 : Nat) : Int) L x M y) else (tallymanref17_Like.l0 k (n : Int) ((i + 1 : Nat) : Int) L x M y))) (fun k => ?_) (Ev.bind hin (Ev.congr (fun k => if_pos rfl) this))
      simp only [tallymanref17_Like.l0]
      rw [if_pos (by omega), if_pos (by omega), rd_nat' x i hi, cz1 i (by omega), cz1 n (by omega)]
    · rw [List.filter_cons_of_neg (by simpa using c)] at hm ⊢
      have := ih (i + 1) n (by omega) (by omega) hm
      rw [decide_eq_false c] at hin
      refine Ev.step (f := fun k => (tallymanref17_in.f k M y x[i]).bind fun t485 => (if t485 = true then (tallymanref17_Like.l0 k ((n + 1 : Nat) : Int) ((i + 1 : Nat) : Int) L x M y) else (tallymanref17_Like.l0 k (n : Int) ((i + 1 : Nat) : Int) L x M y))) (fun k => ?_) (Ev.bind hin (Ev.congr (fun k => if_neg (by decide)) this))
      simp only [tallymanref17_Like.l0]
      rw [if_pos (by omega), if_pos (by omega), rd_nat' x i hi, cz1 i (by omega), cz1 n (by omega)]
theorem like_val (la lb : Int) (a b : List Int) : likeS la a lb b = if vchk la a = 0 then (if vchk lb b = 0 then likeE ((pairsS (belowS a (limS la lb)) (belowS b (limS la lb))).filter pBoth).length (pairsS (belowS a (limS la lb)) (belowS b (limS la lb))).length else (0, vchk lb b)) else (0, vchk la a) := by
  by_cases c : vchk la a = 0
  · by_cases c2 : vchk lb b = 0
    · have hm : (madeS (fun _ => false) la a lb b).2 = 0 := by
        have e : ((pairsS (belowS a (limS la lb)) (belowS b (limS la lb))).filter fun _ => false) = [] := List.filter_eq_nil_iff.2 (by intro t _; exact Bool.false_ne_true)
        unfold madeS
        rw [if_pos c, if_pos c2, e, if_neg (by simp)]
      have hp : madeP la a lb b = pairsS (belowS a (limS la lb)) (belowS b (limS la lb)) := by
        unfold madeP
        rw [if_pos ⟨c, c2⟩]
      unfold likeS likeE
      rw [if_pos hm, hp, if_pos c, if_pos c2]
    · have hm : (madeS (fun _ => false) la a lb b).2 = vchk lb b := by
        unfold madeS
        rw [if_pos c, if_neg c2]
      unfold likeS
      rw [if_neg (by rw [hm]; exact c2), hm, if_pos c, if_neg c2]
  · have hm : (madeS (fun _ => false) la a lb b).2 = vchk la a := by
      unfold madeS
      rw [if_neg c]
    unfold likeS
    rw [if_neg (by rw [hm]; exact c), hm, if_neg c]
theorem rlike (la lb : Int) (a b : List Int) : Ev (fun k => tallymanref17_Like.f k la a lb b) (likeS la a lb b) := by
  rw [like_val]
  unfold tallymanref17_Like.f
  have jn : ∀ e : Int, ¬ e = 0 → Ev (fun k => tallymanref17_Like.j0 k e la a lb b) (0, e) := fun e he => by
    refine Ev.step (f := fun _ => some (0, e)) (fun k => ?_) (Ev.now _)
    simp only [tallymanref17_Like.j0]
    rw [if_neg he]
  by_cases c : vchk la a = 0
  · have hc := rchk la a
    rw [c] at hc
    refine Ev.bind hc (Ev.congr (f := fun k => (tallymanref17_Check.f k lb b).bind fun t472 => (tallymanref17_Like.j0 k t472 la a lb b)) (fun k => by rw [if_pos rfl]) ?_)
    rw [if_pos c]
    by_cases c2 : vchk lb b = 0
    · have hc2 := rchk lb b
      rw [c2] at hc2
      refine Ev.bind hc2 ?_
      rw [if_pos c2]
      have o1 := vchk_ok.1 c
      have o2 := vchk_ok.1 c2
      have n1 := o1.len
      have n2 := o2.len
      have b1 := rbelow la (limS la lb) o1.inc (by omega)
      have b2 := rbelow lb (limS la lb) o2.inc (by omega)
      have e1 := below_len a (limS la lb)
      have e2 := below_len b (limS la lb)
      have i1 := below_inc o1.inc (limS la lb)
      have i2 := below_inc o2.inc (limS la lb)
      have pc := pairs_count (belowS a (limS la lb)) (belowS b (limS la lb))
      have bc := both_count i1 i2
      have bl : ((pairsS (belowS a (limS la lb)) (belowS b (limS la lb))).filter pBoth).length ≤ (pairsS (belowS a (limS la lb)) (belowS b (limS la lb))).length := List.length_filter_le _ _
      have al : ((belowS a (limS la lb)).filter fun h => decide (h ∈ belowS b (limS la lb))).length ≤ (belowS a (limS la lb)).length := List.length_filter_le _ _
      have sl := sel_len pBoth (fun z => z.2.2) (belowS a (limS la lb)) (belowS b (limS la lb)) (fun t h => by unfold pBoth at h; revert h; cases t.2.1 <;> cases t.2.2 <;> decide)
      have hby : ((belowS a (limS la lb)).filter fun h => decide (h ∈ belowS b (limS la lb))).length ≤ (belowS b (limS la lb)).length := by
        unfold selS at sl
        rw [List.length_map, List.length_map] at sl
        rw [← bc]
        exact Nat.le_trans sl (Nat.le_of_eq (pairs_countR (belowS a (limS la lb)) (belowS b (limS la lb))))
      have hl := rlike_loop (limS la lb) (limS la lb) (x := belowS a (limS la lb)) (y := belowS b (limS la lb)) (by omega) (by omega) (belowS a (limS la lb)).length 0 0 (by omega) (by omega) (by rw [List.drop_zero]; omega)
      rw [List.drop_zero, Nat.zero_add, ← bc] at hl
      rw [show (belowS a (limS la lb)).length + (belowS b (limS la lb)).length - ((pairsS (belowS a (limS la lb)) (belowS b (limS la lb))).filter pBoth).length = (pairsS (belowS a (limS la lb)) (belowS b (limS la lb))).length by omega] at hl
      refine Ev.step (f := fun k => ((tallymanref17_below.f k la a (limS la lb)).bind fun bt474 => ((tallymanref17_below.f k lb b (limS la lb)).bind fun bt478 => (tallymanref17_Like.l0 k 0 0 bt474.1 bt474.2 bt478.1 bt478.2)))) (fun k => ?_) (Ev.bind b1 (Ev.bind b2 hl))
      simp only [tallymanref17_Like.j0]
      rw [if_pos trivial, rleast, Option.bind_some]
    · rw [if_neg c2]
      exact Ev.bind (rchk lb b) (jn _ c2)
  · rw [if_neg c]
    exact Ev.bind (rchk la a) (Ev.congr (fun k => by rw [if_neg c]) (jn _ c))
/-! ### Same, View, Estimate -/
theorem eqlist_step {x y : List Int} {i : Nat} (h : i < x.length) (h2 : i < y.length) : (x.drop i = y.drop i) ↔ x[i] = y[i] ∧ x.drop (i + 1) = y.drop (i + 1) := by
  rw [List.drop_eq_getElem_cons h, List.drop_eq_getElem_cons h2, List.cons.injEq]
theorem equal_ev (x y : List Int) (hx : x.length ≤ 1000000) : Ev (fun k => slices_Equal_uint64_uint64.f k x y) (decide (x = y)) := by
  unfold slices_Equal_uint64_uint64.f
  by_cases hl : x.length = y.length
  · have H : ∀ (d i : Nat), i + d = x.length → Ev (fun k => slices_Equal_uint64_uint64.l0 k x y (x.length : Int) (i : Int)) (decide (x.drop i = y.drop i)) := by
      intro d
      induction d with
      | zero =>
        intro i h
        rw [List.drop_of_length_le (by omega), List.drop_of_length_le (by omega), decide_eq_true rfl]
        refine Ev.step (f := fun _ => some true) (fun k => ?_) (Ev.now _)
        simp only [slices_Equal_uint64_uint64.l0]
        rw [if_neg (by omega)]
      | succ d ih =>
        intro i h
        have h1 : i < x.length := by omega
        have h2 : i < y.length := by omega
        by_cases c : x[i] = y[i]
        · have e : decide (x.drop i = y.drop i) = decide (x.drop (i + 1) = y.drop (i + 1)) := decide_eq_decide.2 (by rw [eqlist_step h1 h2]; exact ⟨fun g => g.2, fun g => ⟨c, g⟩⟩)
          rw [e]
          refine Ev.step (f := fun k => slices_Equal_uint64_uint64.l0 k x y (x.length : Int) ((i + 1 : Nat) : Int)) (fun k => ?_) (ih (i + 1) (by omega))
          simp only [slices_Equal_uint64_uint64.l0]
          rw [if_pos (by omega), if_pos (by omega), if_pos (by omega), if_pos (by omega), rd_nat' x i h1, rd_nat' y i h2, if_pos c, cz1 i (by omega)]
        · rw [decide_eq_false (fun g => c ((eqlist_step h1 h2).1 g).1)]
          refine Ev.step (f := fun _ => some false) (fun k => ?_) (Ev.now _)
          simp only [slices_Equal_uint64_uint64.l0]
          rw [if_pos (by omega), if_pos (by omega), if_pos (by omega), if_pos (by omega), rd_nat' x i h1, rd_nat' y i h2, if_neg c]
    have := H x.length 0 (by omega)
    rw [List.drop_zero, List.drop_zero] at this
    exact Ev.congr (fun k => if_pos (by omega)) this
  · rw [decide_eq_false (fun g => hl (by rw [g]))]
    exact Ev.congr (f := fun _ => some false) (fun k => if_neg (by omega)) (Ev.now _)
theorem sameS_ev (la lb : Int) (x y : List Int) (hx : x.length ≤ 1000000) : Ev (fun k => setops_Same.f k la x lb y) (decide (la = lb ∧ x = y)) := by
  unfold setops_Same.f
  by_cases c : la = lb
  · have e : decide (la = lb ∧ x = y) = decide (x = y) := decide_eq_decide.2 ⟨fun g => g.2, fun g => ⟨c, g⟩⟩
    rw [e]
    exact Ev.congr (fun k => if_pos c) (Ev.bind (equal_ev x y hx) (Ev.now _))
  · rw [decide_eq_false (fun g => c g.1)]
    exact Ev.congr (f := fun _ => some false) (fun k => if_neg c) (Ev.now _)
theorem rsame (la lb : Int) (x y : List Int) (hx : x.length ≤ 1000000) : Ev (fun k => tallymanref17_Same.f k la x lb y) (decide (la = lb ∧ x = y)) := by
  unfold tallymanref17_Same.f
  have jt : Ev (fun k => tallymanref17_Same.j0 k true la x lb y) false := by
    refine Ev.step (f := fun _ => some false) (fun k => ?_) (Ev.now _)
    simp only [tallymanref17_Same.j0]
    rw [if_pos trivial]
  by_cases c : la = lb
  · have e : decide (la = lb ∧ x = y) = decide (x = y) := decide_eq_decide.2 ⟨fun g => g.2, fun g => ⟨c, g⟩⟩
    rw [e]
    refine Ev.congr (fun k => if_pos c) ?_
    by_cases hl : x.length = y.length
    · have H : ∀ (d i : Nat), i + d = x.length → Ev (fun k => tallymanref17_Same.l0 k (i : Int) la x lb y) (decide (x.drop i = y.drop i)) := by
        intro d
        induction d with
        | zero =>
          intro i h
          rw [List.drop_of_length_le (by omega), List.drop_of_length_le (by omega), decide_eq_true rfl]
          refine Ev.step (f := fun _ => some true) (fun k => ?_) (Ev.now _)
          simp only [tallymanref17_Same.l0]
          rw [if_neg (by omega)]
        | succ d ih =>
          intro i h
          have h1 : i < x.length := by omega
          have h2 : i < y.length := by omega
          by_cases c : x[i] = y[i]
          · have e : decide (x.drop i = y.drop i) = decide (x.drop (i + 1) = y.drop (i + 1)) := decide_eq_decide.2 (by rw [eqlist_step h1 h2]; exact ⟨fun g => g.2, fun g => ⟨c, g⟩⟩)
            rw [e]
            refine Ev.step (f := fun k => tallymanref17_Same.l0 k ((i + 1 : Nat) : Int) la x lb y) (fun k => ?_) (ih (i + 1) (by omega))
            simp only [tallymanref17_Same.l0]
            rw [if_pos (by omega), if_pos (by omega), if_pos (by omega), rd_nat' x i h1, rd_nat' y i h2, if_pos c, cz1 i (by omega)]
          · rw [decide_eq_false (fun g => c ((eqlist_step h1 h2).1 g).1)]
            refine Ev.step (f := fun _ => some false) (fun k => ?_) (Ev.now _)
            simp only [tallymanref17_Same.l0]
            rw [if_pos (by omega), if_pos (by omega), if_pos (by omega), rd_nat' x i h1, rd_nat' y i h2, if_neg c]
      have := H x.length 0 (by omega)
      rw [List.drop_zero, List.drop_zero] at this
      have hf : (((x.length : Int)) != (y.length : Int)) = false := by simpa using (by omega : (x.length : Int) = (y.length : Int))
      rw [hf]
      refine Ev.step (f := fun k => tallymanref17_Same.l0 k ((0 : Nat) : Int) la x lb y) (fun k => ?_) this
      simp only [tallymanref17_Same.j0]
      rw [if_neg (by decide)]
      rfl
    · have hf : (((x.length : Int)) != (y.length : Int)) = true := by simpa using (by omega : ¬ (x.length : Int) = (y.length : Int))
      rw [hf, decide_eq_false (fun g => hl (by rw [g]))]
      exact jt
  · rw [decide_eq_false (fun g => c g.1)]
    exact Ev.congr (fun k => if_neg c) jt
theorem view_ev (L : Int) (x : List Int) (hx : x.length ≤ 1000000) : Ev (fun k => tallymankit_View.f k L x L x) true := by
  have H : ∀ (d i : Nat), i + d = x.length → Ev (fun k => tallymankit_Same.l0 k x x (i : Int)) true := by
    intro d
    induction d with
    | zero =>
      intro i h
      refine Ev.step (f := fun _ => some true) (fun k => ?_) (Ev.now _)
      simp only [tallymankit_Same.l0]
      rw [if_neg (by omega)]
    | succ d ih =>
      intro i h
      refine Ev.step (f := fun k => tallymankit_Same.l0 k x x ((i + 1 : Nat) : Int)) (fun k => ?_) (ih (i + 1) (by omega))
      simp only [tallymankit_Same.l0]
      rw [if_pos (by omega), if_pos (by omega), if_pos (by omega), if_pos trivial, cz1 i (by omega)]
  unfold tallymankit_View.f tallymankit_Same.f
  refine Ev.congr (f := fun k => (tallymankit_Same.l0 k x x ((0 : Nat) : Int)).bind fun t129 => (some t129)) (fun k => ?_) (Ev.bind (H x.length 0 (by omega)) (Ev.now _))
  rw [if_pos rfl, if_pos rfl]
  rfl
theorem est_both (L : Nat) (l : List Int) (hL : L < 18446744073709551616) : ∃ r, Ev (fun k => setops_Estimate.f k (L : Int) l) r ∧ Ev (fun k => tallymanref17_Estimate.f k (L : Int) l) r := by
  by_cases h : vchk (L : Int) l = 0
  · refine ⟨_, est_ev L l hL h, ?_⟩
    have hn := (vchk_ok.1 h).len
    have hc := rchk (L : Int) l
    rw [h] at hc
    have hw : IntKind.u64.wrap (l.length : Int) = (l.length : Int) := wu64' (by omega) (by omega)
    unfold tallymanref17_Estimate.f estS
    by_cases h0 : L = 0
    · refine Ev.bind hc (Ev.congr (f := fun _ => some (l.length : Int)) (fun k => ?_) (by rw [if_pos h0]; exact Ev.now _))
      rw [if_pos rfl, if_pos (by omega), hw]
    · rw [if_neg h0]
      by_cases h1 : L ≤ l.length
      · refine Ev.bind hc (Ev.congr (f := fun _ => some 9223372036854775807) (fun k => ?_) (by rw [if_pos h1]; exact Ev.now _))
        rw [if_pos rfl, if_neg (by omega), hw, if_pos (by omega)]
      · obtain ⟨r, hd⟩ := div64_ev l.length L (by omega) hL
        rw [if_neg h1]
        refine Ev.bind hc (Ev.congr (f := fun k => (bits_Div64.f k (l.length : Int) 0 (L : Int)).bind fun bt122 => (some (mn bt122.1 9223372036854775807))) (fun k => ?_) (Ev.bind hd (Ev.congr (f := fun _ => some ((min (l.length * 18446744073709551616 / L) 9223372036854775807 : Nat) : Int)) (fun k => ?_) (Ev.now _))))
        · rw [if_pos rfl, if_neg (by omega), hw, if_neg (by omega)]
        · generalize l.length * 18446744073709551616 / L = Q
          unfold mn
          dsimp only
          congr 1
          by_cases hq : (9223372036854775807 : Int) < (Q : Int)
          · rw [if_pos hq]; omega
          · rw [if_neg hq]; omega
  · refine ⟨0, ?_, ?_⟩
    · unfold setops_Estimate.f
      exact Ev.bind (hcheck (L : Int) l) (Ev.congr (f := fun _ => some 0) (fun k => by rw [if_neg h]) (Ev.now _))
    · unfold tallymanref17_Estimate.f
      exact Ev.bind (rchk (L : Int) l) (Ev.congr (f := fun _ => some 0) (fun k => by rw [if_neg h]) (Ev.now _))
/-! ### Of: the check of a sketch -/
def thOk (K : Int) (l : List Int) (L : Int) : Prop := (16 ≤ K ∧ K ≤ 4096 ∧ (l.length : Int) ≤ K ∧ (L = 0 ∨ (l.length : Int) = K)) ∧ fromOk L l 0
theorem theta_loop {K : Int} {h : List Int} {L : Int} (hl : h.length ≤ 1000000) : ∀ (d i : Nat), i + d = h.length →
    (fromOk L h i → Ev (fun k => theta_Check.l0 k h (h.length : Int) (i : Int) K h L) 0) ∧ (¬ fromOk L h i → Ev (fun k => theta_Check.l0 k h (h.length : Int) (i : Int) K h L) 2) := by
  intro d
  induction d with
  | zero =>
    intro i e
    refine ⟨fun _ => Ev.step (f := fun _ => some 0) (fun k => ?_) (Ev.now _), fun g => absurd (fun j h1 h2 => by omega) g⟩
    simp only [theta_Check.l0]
    rw [if_neg (by omega)]
  | succ d ih =>
    intro i e
    have hi : i < h.length := by omega
    have hr : rd h (i : Int) = h[i] := rd_nat' h i hi
    have hw := cz1 i (by omega)
    obtain ⟨ih1, ih2⟩ := ih (i + 1) (by omega)
    rw [fromOk_step hi]
    have one : ∀ k, theta_Check.l0 (k + 1) h (h.length : Int) (i : Int) K h L = if (0 < i ∧ h[i] ≤ rd h ((i - 1 : Nat) : Int)) ∨ (¬ L = 0 ∧ L ≤ h[i]) then some 2 else theta_Check.l0 k h (h.length : Int) ((i + 1 : Nat) : Int) K h L := by
      intro k
      simp only [theta_Check.l0]
      rw [if_pos (by omega), if_pos (by omega), if_pos (by omega), hw, hr]
      by_cases h0 : 0 < i
      · rw [if_pos (by omega), czm i h0 (by omega), if_pos (by omega), if_pos (by omega)]
        by_cases c : h[i] ≤ rd h ((i - 1 : Nat) : Int)
        · rw [if_pos c, if_pos (.inl ⟨h0, c⟩)]
        · rw [if_neg c]
          by_cases c2 : L = 0
          · rw [if_pos c2, if_neg (by omega)]
          · rw [if_neg c2]
            by_cases c3 : h[i] ≥ L
            · rw [if_pos c3, if_pos (.inr ⟨c2, c3⟩)]
            · rw [if_neg c3, if_neg (by omega)]
      · rw [if_neg (by omega)]
        by_cases c2 : L = 0
        · rw [if_pos c2, if_neg (by omega)]
        · rw [if_neg c2]
          by_cases c3 : h[i] ≥ L
          · rw [if_pos c3, if_pos (.inr ⟨c2, c3⟩)]
          · rw [if_neg c3, if_neg (by omega)]
    by_cases hc : (0 < i ∧ h[i] ≤ rd h ((i - 1 : Nat) : Int)) ∨ (¬ L = 0 ∧ L ≤ h[i])
    · refine ⟨fun g => ?_, fun _ => Ev.step (f := fun _ => some 2) (fun k => by rw [one, if_pos hc]) (Ev.now _)⟩
      exfalso
      rcases hc with ⟨h0, c⟩ | ⟨h0, c⟩
      · have := g.1.1 h0; omega
      · have := g.1.2; omega
    · have hg : (0 < i → rd h ((i - 1 : Nat) : Int) < h[i]) ∧ (L = 0 ∨ h[i] < L) := ⟨fun h0 => by omega, by omega⟩
      exact ⟨fun g => Ev.step (fun k => by rw [one, if_neg hc]) (ih1 g.2), fun g => Ev.step (fun k => by rw [one, if_neg hc]) (ih2 fun h => g ⟨hg, h⟩)⟩
theorem theta_chk (K : Int) (h : List Int) (L : Int) (hl : h.length ≤ 1000000) : (thOk K h L → Ev (fun k => theta_Check.f k K h L) 0) ∧ (¬ thOk K h L → Ev (fun k => theta_Check.f k K h L) 2) := by
  have jt : Ev (fun k => theta_Check.j0 k true K h L) 2 := by
    refine Ev.step (f := fun _ => some 2) (fun k => ?_) (Ev.now _)
    simp only [theta_Check.j0]
    rw [if_pos trivial]
  have jf : ∀ r, Ev (fun k => theta_Check.l0 k h (h.length : Int) ((0 : Nat) : Int) K h L) r → Ev (fun k => theta_Check.j0 k false K h L) r := fun r hr => by
    refine Ev.step (f := fun k => theta_Check.l0 k h (h.length : Int) ((0 : Nat) : Int) K h L) (fun k => ?_) hr
    simp only [theta_Check.j0]
    rw [if_neg (by decide)]
    rfl
  obtain ⟨t1, t2⟩ := theta_loop (K := K) (L := L) hl h.length 0 (by omega)
  unfold theta_Check.f thOk
  by_cases hp : 16 ≤ K ∧ K ≤ 4096 ∧ (h.length : Int) ≤ K ∧ (L = 0 ∨ (h.length : Int) = K)
  · have hf : ∀ r, Ev (fun k => theta_Check.j0 k false K h L) r → Ev (fun k => if K < 16 then (theta_Check.j0 k true K h L) else (if K > 4096 then (theta_Check.j0 k true K h L) else (if (h.length : Int) > K then (theta_Check.j0 k true K h L) else (if L = 0 then (theta_Check.j0 k false K h L) else (theta_Check.j0 k ((h.length : Int) != K) K h L))))) r := fun r hr => by
      refine Ev.congr (fun k => ?_) hr
      rw [if_neg (by omega), if_neg (by omega), if_neg (by omega)]
      by_cases h0 : L = 0
      · rw [if_pos h0]
      · have := hp.2.2.2.resolve_left h0
        rw [if_neg h0, show (((h.length : Int)) != K) = false by simpa using this]
    exact ⟨fun g => hf _ (jf _ (t1 g.2)), fun g => hf _ (jf _ (t2 fun q => g ⟨hp, q⟩))⟩
  · refine ⟨fun g => absurd g.1 hp, fun _ => Ev.congr (fun k => ?_) jt⟩
    by_cases a1 : K < 16
    · rw [if_pos a1]
    · rw [if_neg a1]
      by_cases a2 : K > 4096
      · rw [if_pos a2]
      · rw [if_neg a2]
        by_cases a3 : (h.length : Int) > K
        · rw [if_pos a3]
        · rw [if_neg a3]
          by_cases a4 : L = 0
          · exact absurd ⟨by omega, by omega, by omega, .inl a4⟩ hp
          · have : ¬ (h.length : Int) = K := fun e => hp ⟨by omega, by omega, by omega, .inr e⟩
            rw [if_neg a4, show (((h.length : Int)) != K) = true by simpa using this]
/-- The steps alone, without the limit. -/
def stepsOk (l : List Int) (i : Nat) : Prop := ∀ j, i ≤ j → ∀ h : j < l.length, rd l ((j - 1 : Nat) : Int) < l[j]
theorem r16_loop {K : Int} {h : List Int} {L : Int} (hl : h.length ≤ 1000000) (hne : L = 0 ∨ 0 < h.length) : ∀ (d i : Nat), i + d = h.length → 0 < i →
    (stepsOk h i ∧ (L = 0 ∨ rd h ((h.length - 1 : Nat) : Int) < L) → Ev (fun k => tallymanref16_Check.l0 k (h.length : Int) (i : Int) K h L) 0) ∧
    (¬ (stepsOk h i ∧ (L = 0 ∨ rd h ((h.length - 1 : Nat) : Int) < L)) → Ev (fun k => tallymanref16_Check.l0 k (h.length : Int) (i : Int) K h L) 2) := by
  intro d
  induction d with
  | zero =>
    intro i e h0
    have one : ∀ k, tallymanref16_Check.l0 (k + 1) (h.length : Int) (i : Int) K h L = if L = 0 ∨ rd h ((h.length - 1 : Nat) : Int) < L then some 0 else some 2 := by
      intro k
      simp only [tallymanref16_Check.l0]
      rw [if_neg (by omega)]
      by_cases c : L = 0
      · rw [if_pos c, if_pos (.inl c)]
      · have hp := hne.resolve_left c
        rw [if_neg c, czm h.length hp (by omega), if_pos (by omega), if_pos (by omega)]
        by_cases c2 : rd h ((h.length - 1 : Nat) : Int) ≥ L
        · rw [if_pos c2, if_neg (by omega)]
        · rw [if_neg c2, if_pos (.inr (by omega))]
    refine ⟨fun g => Ev.step (f := fun _ => some 0) (fun k => by rw [one, if_pos g.2]) (Ev.now _), fun g => Ev.step (f := fun _ => some 2) (fun k => ?_) (Ev.now _)⟩
    rw [one, if_neg (fun q => g ⟨fun j h1 h2 => by omega, q⟩)]
  | succ d ih =>
    intro i e h0
    have hi : i < h.length := by omega
    have hr : rd h (i : Int) = h[i] := rd_nat' h i hi
    obtain ⟨ih1, ih2⟩ := ih (i + 1) (by omega) (by omega)
    have st : stepsOk h i ↔ rd h ((i - 1 : Nat) : Int) < h[i] ∧ stepsOk h (i + 1) := by
      constructor
      · intro g
        exact ⟨g i (Nat.le_refl _) hi, fun j hj hl => g j (by omega) hl⟩
      · rintro ⟨g1, g2⟩ j hj hl
        by_cases e : j = i
        · subst e; exact g1
        · exact g2 j (by omega) hl
    have one : ∀ k, tallymanref16_Check.l0 (k + 1) (h.length : Int) (i : Int) K h L = if rd h ((i - 1 : Nat) : Int) ≥ h[i] then some 2 else tallymanref16_Check.l0 k (h.length : Int) ((i + 1 : Nat) : Int) K h L := by
      intro k
      simp only [tallymanref16_Check.l0]
      rw [if_pos (by omega), czm i h0 (by omega), if_pos (by omega), if_pos (by omega), if_pos (by omega), if_pos (by omega), hr, cz1 i (by omega)]
    rw [st]
    by_cases c : rd h ((i - 1 : Nat) : Int) ≥ h[i]
    · exact ⟨fun g => absurd g.1.1 (by omega), fun _ => Ev.step (f := fun _ => some 2) (fun k => by rw [one, if_pos c]) (Ev.now _)⟩
    · exact ⟨fun g => Ev.step (fun k => by rw [one, if_neg c]) (ih1 ⟨g.1.2, g.2⟩), fun g => Ev.step (fun k => by rw [one, if_neg c]) (ih2 fun q => g ⟨⟨by omega, q.1⟩, q.2⟩)⟩
theorem steps_from {h : List Int} {L : Int} (hne : L = 0 ∨ 0 < h.length) : (stepsOk h 1 ∧ (L = 0 ∨ rd h ((h.length - 1 : Nat) : Int) < L)) ↔ fromOk L h 0 := by
  constructor
  · rintro ⟨g1, g2⟩ j _ hj
    have hi : h.Pairwise (· < ·) := inc_of_steps fun j h0 hj => g1 j (by omega) hj
    refine ⟨fun h0 => g1 j (by omega) hj, ?_⟩
    by_cases h0 : L = 0
    · exact .inl h0
    · right
      have g2 := g2.resolve_left h0
      rw [rd_nat' h (h.length - 1) (by omega)] at g2
      by_cases e : j = h.length - 1
      · subst e; exact g2
      · have := List.pairwise_iff_getElem.1 hi j (h.length - 1) hj (by omega) (by omega)
        omega
  · intro g
    refine ⟨fun j h1 hj => (g j (by omega) hj).1 (by omega), ?_⟩
    by_cases h0 : L = 0
    · exact .inl h0
    · have hp := hne.resolve_left h0
      rw [rd_nat' h (h.length - 1) (by omega)]
      exact (g (h.length - 1) (by omega) (by omega)).2
theorem r16_chk (K : Int) (h : List Int) (L : Int) (hl : h.length ≤ 1000000) : (thOk K h L → Ev (fun k => tallymanref16_Check.f k K h L) 0) ∧ (¬ thOk K h L → Ev (fun k => tallymanref16_Check.f k K h L) 2) := by
  have jt : Ev (fun k => tallymanref16_Check.j0 k (h.length : Int) true K h L) 2 := by
    refine Ev.step (f := fun _ => some 2) (fun k => ?_) (Ev.now _)
    simp only [tallymanref16_Check.j0]
    rw [if_pos trivial]
  unfold tallymanref16_Check.f tallymanref16_may.f thOk
  by_cases hp : 16 ≤ K ∧ K ≤ 4096 ∧ (h.length : Int) ≤ K ∧ (L = 0 ∨ (h.length : Int) = K)
  · have hne : L = 0 ∨ 0 < h.length := hp.2.2.2.imp_right fun e => by omega
    have main : (fromOk L h 0 → Ev (fun k => tallymanref16_Check.l0 k (h.length : Int) ((1 : Nat) : Int) K h L) 0) ∧ (¬ fromOk L h 0 → Ev (fun k => tallymanref16_Check.l0 k (h.length : Int) ((1 : Nat) : Int) K h L) 2) := by
      by_cases hz : h.length = 0
      · have hL := hne.resolve_right (by omega)
        refine ⟨fun _ => Ev.step (f := fun _ => some 0) (fun k => ?_) (Ev.now _), fun g => absurd (fun j h1 h2 => by omega) g⟩
        simp only [tallymanref16_Check.l0]
        rw [if_neg (by omega), if_pos hL]
      · have := r16_loop (K := K) (L := L) hl hne (h.length - 1) 1 (by omega) (by omega)
        rw [steps_from hne] at this
        exact this
    have hf : ∀ r, Ev (fun k => tallymanref16_Check.l0 k (h.length : Int) ((1 : Nat) : Int) K h L) r → Ev (fun k => (if K ≥ 16 then (some (decide (K ≤ 4096))) else (some false)).bind fun t315 => (if t315 = true then (if (h.length : Int) > K then (tallymanref16_Check.j0 k (h.length : Int) true K h L) else (if L = 0 then (tallymanref16_Check.j0 k (h.length : Int) false K h L) else (tallymanref16_Check.j0 k (h.length : Int) (decide ((h.length : Int) < K)) K h L))) else (tallymanref16_Check.j0 k (h.length : Int) true K h L))) r := fun r hr => by
      have hj : Ev (fun k => tallymanref16_Check.j0 k (h.length : Int) false K h L) r := by
        refine Ev.step (f := fun k => tallymanref16_Check.l0 k (h.length : Int) ((1 : Nat) : Int) K h L) (fun k => ?_) hr
        simp only [tallymanref16_Check.j0]
        rw [if_neg (by decide)]
        rfl
      refine Ev.congr (fun k => ?_) hj
      rw [if_pos (by omega), Option.bind_some, decide_eq_true (by omega), if_pos rfl, if_neg (by omega)]
      by_cases h0 : L = 0
      · rw [if_pos h0]
      · have := hp.2.2.2.resolve_left h0
        rw [if_neg h0, decide_eq_false (by omega)]
    exact ⟨fun g => hf _ (main.1 g.2), fun g => hf _ (main.2 fun q => g ⟨hp, q⟩)⟩
  · refine ⟨fun g => absurd g.1 hp, fun _ => Ev.congr (fun k => ?_) jt⟩
    by_cases a1 : K ≥ 16
    · rw [if_pos a1, Option.bind_some]
      by_cases a2 : K ≤ 4096
      · rw [decide_eq_true a2, if_pos rfl]
        by_cases a3 : (h.length : Int) > K
        · rw [if_pos a3]
        · rw [if_neg a3]
          by_cases a4 : L = 0
          · exact absurd ⟨a1, a2, by omega, .inl a4⟩ hp
          · have : ¬ (h.length : Int) = K := fun e => hp ⟨a1, a2, by omega, .inr e⟩
            rw [if_neg a4, decide_eq_true (by omega)]
      · rw [decide_eq_false a2, if_neg (by decide)]
    · rw [if_neg a1, Option.bind_some, if_neg (by decide)]
theorem of_both (K : Int) (h : List Int) (L : Int) (hl : h.length ≤ 1000000) : ∃ r : Int × List Int × Int, r.2.1.length ≤ 1000000 ∧ Ev (fun k => setops_Of.f k K h L) r ∧ Ev (fun k => tallymanref17_Of.f k K h L) r := by
  obtain ⟨a1, a2⟩ := theta_chk K h L hl
  obtain ⟨b1, b2⟩ := r16_chk K h L hl
  unfold setops_Of.f tallymanref17_Of.f
  by_cases c : thOk K h L
  · refine ⟨(L, h, 0), hl, Ev.bind (a1 c) (Ev.congr (f := fun _ => some (L, h, 0)) (fun k => ?_) (Ev.now _)), Ev.bind (b1 c) (Ev.congr (f := fun _ => some (L, h, 0)) (fun k => ?_) (Ev.now _))⟩
    · rw [if_pos rfl]
      unfold slices_Clone_uint64_uint64.f
      rw [if_pos (by omega)]
      rfl
    · rw [if_pos rfl]
      simp only [Option.bind_some, List.length_nil, List.nil_append]
      rw [if_pos (by omega)]
  · exact ⟨(0, [], 2), by simp, Ev.bind (a2 c) (Ev.congr (f := fun _ => some (0, [], 2)) (fun k => if_neg (by decide)) (Ev.now _)), Ev.bind (b2 c) (Ev.congr (f := fun _ => some (0, [], 2)) (fun k => if_neg (by decide)) (Ev.now _))⟩
end Go.Proofs.Ytpagondojdlknaa.H
