/- Contracts of Go functions, walked by hand: each call comes to the Lean function beside it and leaves what was there before. -/
import Derived.Test.YtpagondojdlknaaVU
import Derived.Test.YtpagondojdlknaaProg
import Derived.Below
import Derived.Deep.Draws
import Derived.Deep.AppendLies
import Derived.Maps.AppendAt
import Derived.OwnWalk
import Derived.Laws.BytesArg
import Derived.Laws.MakeOwn
import Derived.Laws.OwnMore
import Derived.Deep.OwnRows
import Derived.Tactics
import Derived.Lib.ConvBytes
import Derived.Laws.Slices
import Derived.WalkKit
import Derived.KernelRfl
import Derived.RowKit3
import Derived.Deep.LoopGhost
import Derived.Deep.QuietTactic
import Derived.BigQuiet
import Derived.WideLaws
import Derived.Deep.DeepCutAuto
import Derived.Deep.CutBlock
import Derived.Deep.RegionHeld3
import Derived.Laws.Rows
import Derived.Lib.AppendStr
import Derived.ArgAppend
import Derived.Laws.IdiomCopy
import Derived.OrdersHeld
import Derived.Laws.BitsLemmas
import Derived.RowKit
import Derived.WalkSpells
import Derived.WalkLawsBesides
import Derived.Laws.Bits64b
import Derived.Laws.BitsAllLaws
import Derived.Maps.OwnSet
namespace Go.Proofs.Ytpagondojdlknaa.H
open Go.RowKit Go.Proofs.YtpagondojdlknaaW.PrintWords Go.Proofs.YtpagondojdlknaaW.PrintLast Go.Proofs.YtpagondojdlknaaW.PrintMore
attribute [local go_sem] max2_int min2_int max_two min_two max_three min_three max_four min_four
set_option linter.unusedVariables false
set_option linter.unusedSimpArgs false

/-! ### Several operations of one region that make memory, in whatever order they come up -/
/-- One that makes: its place, its destination, what is known of its value, and which blocks are its value's own. -/
structure Mk where
  i : Nat
  N : Tmp
  F : Value → World → Prop
  O : Value → Nat → Prop
def mkLst (l : Array Bool) : List Nat → List Bool → Array Bool
  | i :: is, b :: bs => mkLst (if b = true then l.setIfInBounds i true else l) is bs
  | _, _ => l
def mkPut (a : Act) (N : Tmp) : Option Value → Act
  | some v => a.put (some N) v
  | none => a
def mkAct (a : Act) : List Mk → List (Option Value) → Act
  | m :: M, o :: st => mkAct (mkPut a m.N o) M st
  | _, _ => a
def mkLeft : List Nat → List Bool → List Nat
  | i :: is, b :: bs => if b = true then mkLeft is bs else i :: mkLeft is bs
  | _, _ => []
def masks : Nat → List (List Bool)
  | 0 => [[]]
  | n + 1 => (masks n).map (true :: ·) ++ (masks n).map (false :: ·)
theorem mem_masks : ∀ bs : List Bool, bs ∈ masks bs.length
  | [] => by simp [masks]
  | true :: bs => List.mem_append_left _ (List.mem_map_of_mem (mem_masks bs))
  | false :: bs => List.mem_append_right _ (List.mem_map_of_mem (mem_masks bs))
theorem put_put (a : Act) {n k : Tmp} (h : n ≠ k) (u v : Value) : (a.put (some n) u).put (some k) v = (a.put (some k) v).put (some n) u := by
  unfold Act.put
  simp [Array.setIfInBounds_comm _ _ h]
theorem mkAct_put : ∀ (M : List Mk) (st : List (Option Value)) (a : Act) (n : Tmp) (v : Value), (∀ m ∈ M, m.N ≠ n) → (mkAct a M st).put (some n) v = mkAct (a.put (some n) v) M st
  | [], _, _, _, _, _ => by simp [mkAct]
  | _ :: _, [], _, _, _, _ => by simp [mkAct]
  | m :: M, o :: st, a, n, v, h => by
    have ih := mkAct_put M st (mkPut a m.N o) n v (fun x hx => h x (List.mem_cons_of_mem _ hx))
    unfold mkAct
    rw [ih]
    cases o with
    | none => rfl
    | some u => unfold mkPut; rw [put_put a (h m (List.mem_cons_self ..))]
theorem mkAct_set : ∀ (M : List Mk) (st : List (Option Value)) (a : Act) (p : Nat) (m : Mk) (v : Value), (M.map (·.N)).Nodup → M[p]? = some m → st[p]? = some none → (mkAct a M st).put (some m.N) v = mkAct a M (st.set p (some v))
  | [], _, _, _, _, _, _, h, _ => by simp at h
  | _ :: _, [], _, _, _, _, _, _, h => by simp at h
  | m0 :: M, o :: st, a, 0, m, v, hn, h, h2 => by
    obtain rfl : m0 = m := by simpa using h
    obtain rfl : o = none := by simpa using h2
    rw [List.map_cons, List.nodup_cons] at hn
    show (mkAct (mkPut a m0.N none) M st).put _ _ = mkAct (mkPut a m0.N (some v)) M st
    exact mkAct_put M st a m0.N v (fun x hx e => hn.1 (by rw [← e]; exact List.mem_map_of_mem hx))
  | m0 :: M, o :: st, a, p + 1, m, v, hn, h, h2 => by
    rw [List.map_cons, List.nodup_cons] at hn
    show (mkAct (mkPut a m0.N o) M st).put _ _ = mkAct (mkPut a m0.N o) M (st.set p (some v))
    exact mkAct_set M st (mkPut a m0.N o) p m v hn.2 (by simpa using h) (by simpa using h2)
theorem mkLst_put : ∀ (is : List Nat) (bs : List Bool) (l : Array Bool) (i : Nat), i ∉ is → (mkLst l is bs).setIfInBounds i true = mkLst (l.setIfInBounds i true) is bs
  | [], _, _, _, _ => by simp [mkLst]
  | _ :: _, [], _, _, _ => by simp [mkLst]
  | j :: is, b :: bs, l, i, h => by
    rw [List.mem_cons, not_or] at h
    unfold mkLst
    rw [mkLst_put is bs _ i h.2]
    cases b with
    | false => rfl
    | true => rw [if_pos rfl, if_pos rfl, Array.setIfInBounds_comm _ _ (fun e => h.1 e.symm)]
theorem mkLst_set : ∀ (is : List Nat) (bs : List Bool) (l : Array Bool) (p i : Nat), is.Nodup → is[p]? = some i → bs[p]? = some false → (mkLst l is bs).setIfInBounds i true = mkLst l is (bs.set p true)
  | [], _, _, _, _, _, h, _ => by simp at h
  | _ :: _, [], _, _, _, _, _, h => by simp at h
  | j :: is, b :: bs, l, 0, i, hn, h, h2 => by
    obtain rfl : j = i := by simpa using h
    obtain rfl : b = false := by simpa using h2
    rw [List.nodup_cons] at hn
    show (mkLst (if false = true then _ else l) is bs).setIfInBounds _ _ = mkLst (if true = true then _ else l) is bs
    rw [if_neg (by decide), if_pos rfl]
    exact mkLst_put is bs l j hn.1
  | j :: is, b :: bs, l, p + 1, i, hn, h, h2 => by
    rw [List.nodup_cons] at hn
    show (mkLst (if b = true then _ else l) is bs).setIfInBounds _ _ = mkLst (if b = true then _ else l) is (bs.set p true)
    exact mkLst_set is bs _ p i hn.2 (by simpa using h) (by simpa using h2)
theorem mem_left : ∀ (is : List Nat) (bs : List Bool) (i : Nat), i ∈ mkLeft is bs → ∃ p : Nat, is[p]? = some i ∧ bs[p]? = some false
  | [], _, _, h => by simp [mkLeft] at h
  | _ :: _, [], _, h => by simp [mkLeft] at h
  | j :: is, b :: bs, i, h => by
    unfold mkLeft at h
    cases b with
    | true =>
      rw [if_pos rfl] at h
      obtain ⟨p, h1, h2⟩ := mem_left is bs i h
      exact ⟨p + 1, by simpa using h1, by simpa using h2⟩
    | false =>
      rw [if_neg (by decide)] at h
      rcases List.mem_cons.1 h with rfl | h
      · exact ⟨0, rfl, rfl⟩
      · obtain ⟨p, h1, h2⟩ := mem_left is bs i h
        exact ⟨p + 1, by simpa using h1, by simpa using h2⟩
theorem left_len : ∀ (is : List Nat) (st : List (Option Value)), st.length = is.length → (mkLeft is (st.map Option.isSome)).length = st.countP Option.isNone
  | [], [], _ => rfl
  | [], _ :: _, h => by simp at h
  | _ :: _, [], h => by simp at h
  | j :: is, o :: st, h => by
    have ih := left_len is st (by simpa using h)
    rw [List.map_cons, List.countP_cons]
    unfold mkLeft
    cases o with
    | none => simp [ih]
    | some v => simp [ih]
theorem cnt_set : ∀ (st : List (Option Value)) (p : Nat) (v : Value), st[p]? = some none → (st.set p (some v)).countP Option.isNone + 1 = st.countP Option.isNone
  | [], _, _, h => by simp at h
  | o :: st, 0, v, h => by
    obtain rfl : o = none := by simpa using h
    simp
  | o :: st, p + 1, v, h => by
    have ih := cnt_set st p v (by simpa using h)
    rw [List.set_cons_succ, List.countP_cons, List.countP_cons]
    omega
theorem all_some : ∀ st : List (Option Value), st.countP Option.isNone = 0 → ∃ vs : List Value, st = vs.map some
  | [], _ => ⟨[], rfl⟩
  | none :: st, h => by simp at h
  | some v :: st, h => by
    obtain ⟨vs, rfl⟩ := all_some st (by simpa using h)
    exact ⟨v :: vs, rfl⟩
section
variable {P : Program} {ops : Array Oper} {Q : Exit → Act → World → Prop} {md : Region.Mode} {S : World → Prop} {ds : List Nat}
def MkStep (P : Program) (ops : Array Oper) (Q : Exit → Act → World → Prop) (M : List Mk) (a : Act) (w0 : World) (m : Mk) : Prop :=
  ∃ oi, ops[m.i]? = some oi ∧ oi.dst = some m.N ∧ ∀ (a' : Act) (w' : World) (K : Act → World → Prop), (∀ t, t ∉ M.map (·.N) → a'.eval (.tmp t) = a.eval (.tmp t)) → Below w0.heap.size w0 w' →
    (∀ v w'', m.F v w'' → (∀ k, m.O v k → w'.heap.size ≤ k) → Below w'.heap.size w' w'' → K (a'.put (some m.N) v) w'') → if Region.wanted oi (yielded ops a'.tmps) = true then Oper.wp P oi a' w' K Q else K (a'.put (some m.N) undef) w'
theorem eval_put (a : Act) {n t : Tmp} (h : t ≠ n) (v : Value) : (a.put (some n) v).eval (.tmp t) = a.eval (.tmp t) := by
  unfold Act.put Act.eval
  simp [Array.getD_eq_getD_getElem?, Array.getElem?_setIfInBounds, Ne.symm h]
theorem eval_mkAct : ∀ (M : List Mk) (st : List (Option Value)) (a : Act) (t : Tmp), t ∉ M.map (·.N) → (mkAct a M st).eval (.tmp t) = a.eval (.tmp t)
  | [], _, _, _, _ => by simp [mkAct]
  | _ :: _, [], _, _, _ => by simp [mkAct]
  | m :: M, o :: st, a, t, h => by
    rw [List.map_cons, List.mem_cons, not_or] at h
    unfold mkAct
    rw [eval_mkAct M st _ t h.2]
    cases o with
    | none => rfl
    | some v => exact eval_put a h.1 v
theorem makers_aux {M : List Mk} {l : Array Bool} {a : Act} {w0 : World} {fuel : Nat} (hN : (M.map (·.N)).Nodup) (hI : (M.map (·.i)).Nodup) (hds : ∀ m ∈ M, m.i ∉ ds)
    (hS : ∀ w', Below w0.heap.size w0 w' → S w') (hmono : ∀ m ∈ M, ∀ v w w', m.F v w → Below w.heap.size w w' → m.F v w') (hO : ∀ m ∈ M, ∀ v w, m.F v w → ∀ k, m.O v k → k < w.heap.size)
    (hready : ∀ bs : List Bool, bs.length = M.length → mkLeft (M.map (·.i)) bs ≠ [] → (∀ i ∈ Region.ready md ops (mkLst l (M.map (·.i)) bs), i ∈ mkLeft (M.map (·.i)) bs) ∧ Region.ready md ops (mkLst l (M.map (·.i)) bs) ≠ [])
    (hstep : ∀ m ∈ M, MkStep P ops Q M a w0 m)
    (hcont : ∀ (vs : List Value) (w' : World), vs.length = M.length → Below w0.heap.size w0 w' → (∀ (p : Nat) m v, M[p]? = some m → vs[p]? = some v → m.F v w' ∧ ∀ k, m.O v k → w0.heap.size ≤ k) →
      (∀ (p q : Nat) m n u v, p ≠ q → M[p]? = some m → M[q]? = some n → vs[p]? = some u → vs[q]? = some v → ∀ k, m.O u k → ¬ n.O v k) → wpAnyLast P md ops Q S ds fuel (mkLst l (M.map (·.i)) ((vs.map some).map Option.isSome)) (mkAct a M (vs.map some)) w') :
    ∀ (n : Nat) (st : List (Option Value)) (w : World), st.countP Option.isNone = n → st.length = M.length → Below w0.heap.size w0 w →
      (∀ (p : Nat) m v, M[p]? = some m → st[p]? = some (some v) → m.F v w ∧ ∀ k, m.O v k → w0.heap.size ≤ k) →
      (∀ (p q : Nat) m n u v, p ≠ q → M[p]? = some m → M[q]? = some n → st[p]? = some (some u) → st[q]? = some (some v) → ∀ k, m.O u k → ¬ n.O v k) →
      wpAnyLast P md ops Q S ds (fuel + n) (mkLst l (M.map (·.i)) (st.map Option.isSome)) (mkAct a M st) w := by
  intro n
  induction n with
  | zero =>
    intro st w hc hl hb hf hd
    obtain ⟨vs, rfl⟩ := all_some st hc
    refine hcont vs w (by simpa using hl) hb (fun p m v h1 h2 => hf p m v h1 (by simp [h2])) (fun p q m n u v hpq h1 h2 h3 h4 => hd p q m n u v hpq h1 h2 (by simp [h3]) (by simp [h4]))
  | succ n ih =>
    intro st w hc hl hb hf hd
    obtain ⟨hr1, hr2⟩ := hready (st.map Option.isSome) (by simpa using hl) (fun e => by
      have := left_len (M.map (·.i)) st (by simpa using hl)
      rw [e, hc] at this
      simp at this)
    refine wpAnyLast_all (fuel := fuel + n) rfl hr2 (fun i hi => ?_)
    · obtain ⟨p, hp, hq⟩ := mem_left _ _ i (hr1 i hi)
      rw [List.getElem?_map] at hp hq
      obtain ⟨m, hm, rfl⟩ := Option.map_eq_some_iff.1 hp
      obtain ⟨o, ho, ho2⟩ := Option.map_eq_some_iff.1 hq
      obtain rfl : o = none := by cases o with
        | none => rfl
        | some v => simp at ho2
      have hmM : m ∈ M := List.mem_of_getElem? hm
      obtain ⟨oi, h1, h2, h3⟩ := hstep m hmM
      refine wpOp_step h1 (fun K hK => ?_)
      rw [h2]
      refine h3 _ w K (fun t ht => eval_mkAct M st a t ht) hb (fun v w2 hF hfr hb2 => hK _ _ ⟨fun _ _ => hS _ (below_step hb hb2), ?_⟩)
      have e1 := mkAct_set M st a p m v hN hm ho
      have e2 := mkLst_set (M.map (·.i)) (st.map Option.isSome) l p m.i hI (by rw [List.getElem?_map, hm]; rfl) (by rw [List.getElem?_map, ho]; rfl)
      have e3 : (st.map Option.isSome).set p true = (st.set p (some v)).map Option.isSome := by rw [List.map_set]; rfl
      rw [e1, e2, e3]
      have hpl : p < st.length := by
        rcases Nat.lt_or_ge p st.length with h | h
        · exact h
        · rw [List.getElem?_eq_none h] at ho; cases ho
      have hat : ∀ q u, (st.set p (some v))[q]? = some (some u) → (q = p ∧ u = v) ∨ (q ≠ p ∧ st[q]? = some (some u)) := by
        intro q u h
        by_cases e : q = p
        · subst e
          rw [List.getElem?_set_self hpl] at h
          exact .inl ⟨rfl, by simpa using h.symm⟩
        · rw [List.getElem?_set_ne (fun h => e h.symm)] at h
          exact .inr ⟨e, h⟩
      refine ih (st.set p (some v)) w2 (by have := cnt_set st p v ho; omega) (by simpa using hl) (below_step hb hb2) (fun q m2 u g1 g2 => ?_) (fun q r m2 n2 u x hqr g1 g2 g3 g4 k hk hk2 => ?_)
      · rcases hat q u g2 with ⟨rfl, rfl⟩ | ⟨_, g2⟩
        · rw [hm] at g1
          obtain rfl := Option.some.inj g1
          exact ⟨hF, fun k hk => Nat.le_trans hb.size (hfr k hk)⟩
        · obtain ⟨f1, f2⟩ := hf q m2 u g1 g2
          exact ⟨hmono m2 (List.mem_of_getElem? g1) _ _ _ f1 hb2, f2⟩
      · rcases hat q u g3 with ⟨rfl, rfl⟩ | ⟨_, s3⟩
        · rcases hat r x g4 with ⟨rfl, rfl⟩ | ⟨_, s4⟩
          · exact hqr rfl
          · rw [hm] at g1
            obtain rfl := Option.some.inj g1
            have a1 := hfr k hk
            have a2 := hO n2 (List.mem_of_getElem? g2) x w (hf r n2 x g2 s4).1 k hk2
            omega
        · rcases hat r x g4 with ⟨rfl, rfl⟩ | ⟨_, s4⟩
          · rw [hm] at g2
            obtain rfl := Option.some.inj g2
            have a1 := hfr k hk2
            have a2 := hO m2 (List.mem_of_getElem? g1) u w (hf q m2 u g1 s3).1 k hk
            omega
          · exact hd q r m2 n2 u x hqr g1 g2 s3 s4 k hk hk2
/-- The makers of a region, each shown once; what follows is shown once, with all their values and whose blocks are whose. -/
theorem makers_ (M : List Mk) (l l' : Array Bool) {a : Act} {w0 : World} {fuel : Nat} {T : Bool × List (List Nat × List Nat)} (hT : rtab md ops = T) (hS0 : S w0) (hN : (M.map (·.N)).Nodup) (hI : (M.map (·.i)).Nodup) (hds : ∀ m ∈ M, m.i ∉ ds)
    (hready : ((masks M.length).all fun bs => (mkLeft (M.map (·.i)) bs).isEmpty || (((readyT T.2 (mkLst l (M.map (·.i)) bs).toList).all fun i => (mkLeft (M.map (·.i)) bs).contains i) && !(readyT T.2 (mkLst l (M.map (·.i)) bs).toList).isEmpty)) = true) (hl : mkLst l (M.map (·.i)) (List.replicate M.length true) = l')
    (hS : ∀ w', Below w0.heap.size w0 w' → S w') (hmono : ∀ m ∈ M, ∀ v w w', m.F v w → Below w.heap.size w w' → m.F v w') (hO : ∀ m ∈ M, ∀ v w, m.F v w → ∀ k, m.O v k → k < w.heap.size)
    (hstep : ∀ m ∈ M, MkStep P ops Q M a w0 m)
    (hcont : ∀ (vs : List Value) (w' : World), vs.length = M.length → Below w0.heap.size w0 w' → (∀ (p : Nat) m v, M[p]? = some m → vs[p]? = some v → m.F v w' ∧ ∀ k, m.O v k → w0.heap.size ≤ k) →
      (∀ (p q : Nat) m n u v, p ≠ q → M[p]? = some m → M[q]? = some n → vs[p]? = some u → vs[q]? = some v → ∀ k, m.O u k → ¬ n.O v k) → wpAnyLast P md ops Q S ds fuel l' (mkAct a M (vs.map some)) w') :
    wpAnyLast P md ops Q S ds (fuel + M.length) l a w0 := by
  have hrep : ∀ k, (List.replicate k (none : Option Value)).countP Option.isNone = k := fun k => by rw [List.countP_replicate]; simp
  have h := makers_aux (P := P) (Q := Q) (S := S) (ds := ds) (md := md) (ops := ops) (M := M) (l := l) (a := a) (w0 := w0) (fuel := fuel) hN hI hds hS hmono hO (fun bs hbs => ?_) hstep (fun vs w' h1 h2 h3 h4 => ?_) M.length (List.replicate M.length none) w0 (hrep _) (by simp) (Below.refl _ _) (fun p m v _ h => ?_) (fun p q m n u v _ _ _ h => ?_)
  · have e1 : mkAct a M (List.replicate M.length none) = a := by
      have : ∀ (M : List Mk) (a : Act), mkAct a M (List.replicate M.length none) = a := by
        intro M
        induction M with
        | nil => intro a; rfl
        | cons m M ih => intro a; exact ih a
      exact this M a
    have e2 : mkLst l (M.map (·.i)) ((List.replicate M.length (none : Option Value)).map Option.isSome) = l := by
      have : ∀ (is : List Nat) (l : Array Bool) (k : Nat), mkLst l is ((List.replicate k (none : Option Value)).map Option.isSome) = l := by
        intro is
        induction is with
        | nil => intro l k; simp [mkLst]
        | cons i is ih =>
          intro l k
          cases k with
          | zero => simp [mkLst]
          | succ k => exact ih l k
      exact this _ _ _
    rw [e1, e2] at h
    exact h
  · subst hT
    rw [ready_eq]
    have := List.all_eq_true.1 hready bs (by rw [← hbs]; exact mem_masks bs)
    rw [Bool.or_eq_true, Bool.and_eq_true, List.all_eq_true] at this
    intro hne
    rcases this with h | ⟨h1, h2⟩
    · exact absurd (List.isEmpty_iff.1 h) hne
    · exact ⟨fun i hi => by simpa using h1 i hi, fun e => by rw [e] at h2; simp at h2⟩
  · have e : ∀ us : List Value, (us.map some).map Option.isSome = List.replicate us.length true := by
      intro us
      induction us with
      | nil => rfl
      | cons v us ih => rw [List.map_cons, List.map_cons, ih]; rfl
    rw [e, h1, hl]
    exact hcont vs w' h1 h2 h3 h4
  · rw [List.getElem?_replicate] at h
    split at h <;> simp at h
  · rw [List.getElem?_replicate] at h
    split at h <;> simp at h
end
/-- A view that a call has made: its limit, and a row of its own. -/
def FRow (e base : Nat) (L : Int) (xs : List Int) : Value → World → Prop := fun v w => ∃ s, v = .agg #[.int .u64 L, s] ∧ Kd.R (Kd.int .u64) e w base (fun _ => True) s xs
def ORow (L : Int) : Value → Nat → Prop := fun v k => ∃ s, v = .agg #[.int .u64 L, s] ∧ s.ownBlock = some k
/-- A block that was made. -/
def FBox (cs : Array Value) (t : TypeId) : Value → World → Prop := fun v w => ∃ g, v = .pointer (some ⟨g, 0, none⟩) ∧ w.heap[g]? = some (.cells cs t (0, 0))
def OBox : Value → Nat → Prop := fun v k => v = .pointer (some ⟨k, 0, none⟩)
theorem FRow.mono {e base : Nat} {L : Int} {xs : List Int} (v : Value) (w w' : World) (h : FRow e base L xs v w) (hb : Below w.heap.size w w') : FRow e base L xs v w' := by
  obtain ⟨s, e1, h⟩ := h
  exact ⟨s, e1, Kd.R_below h hb⟩
theorem FRow.lt {e base : Nat} {L : Int} {xs : List Int} (v : Value) (w : World) (h : FRow e base L xs v w) (k : Nat) (hk : ORow L v k) : k < w.heap.size := by
  obtain ⟨s, rfl, h0, inner, ho, hr⟩ := h
  obtain ⟨s', e2, hs⟩ := hk
  have : s = s' := by simpa using e2
  subst this
  exact own_lt ho k hs
theorem FBox.mono {cs : Array Value} {t : TypeId} (v : Value) (w w' : World) (h : FBox cs t v w) (hb : Below w.heap.size w w') : FBox cs t v w' := by
  obtain ⟨g, e1, h⟩ := h
  exact ⟨g, e1, blk_below h hb⟩
theorem FBox.lt {cs : Array Value} {t : TypeId} (v : Value) (w : World) (h : FBox cs t v w) (k : Nat) (hk : OBox v k) : k < w.heap.size := by
  obtain ⟨g, rfl, h⟩ := h
  have : g = k := by unfold OBox at hk; simpa using hk
  subst this
  exact blk_lt h
theorem R_own_of {k : IntKind} {e base : Nat} {w : World} {ok ok' : Nat → Prop} {v : Value} {xs : List Int} (h : Kd.R (Kd.int k) e w base ok v xs) (h' : ∀ b, v.ownBlock = some b → ok' b) : Kd.R (Kd.int k) e w base ok' v xs := ⟨h', h.2⟩
theorem R_base {k : IntKind} {e base : Nat} {w : World} {ok : Nat → Prop} {v : Value} {xs : List Int} (h : Kd.R (Kd.int k) e w base ok v xs) (b : Nat) (hb : v.ownBlock = some b) : base ≤ b := by
  obtain ⟨_, inner, ho, _⟩ := h
  exact own_base ho b hb
theorem ORow.mk {L : Int} {s : Value} {k : Nat} (h : s.ownBlock = some k) : ORow L (.agg #[.int .u64 L, s]) k := ⟨s, rfl, h⟩
theorem ORow.of {L : Int} {s : Value} {k : Nat} (h : ORow L (.agg #[.int .u64 L, s]) k) : s.ownBlock = some k := by
  obtain ⟨s', e, h⟩ := h
  have : s = s' := by simpa using e
  subst this
  exact h

end Go.Proofs.Ytpagondojdlknaa.H
