/- For every alphabet and every list of words, the program's IsFinite answers what the reference's answers and leaves its arguments as they were. No condition. -/
import Derived.ArgAppend
import Derived.Below
import Derived.BigQuiet
import Derived.ChangeOld
import Derived.ChangeShapes
import Derived.Deep.AppendLies
import Derived.Deep.CutBlock
import Derived.Deep.DeepCutAuto
import Derived.Deep.DeepHandedRow
import Derived.Deep.Draws
import Derived.Deep.LoopGhost
import Derived.Deep.OwnRows
import Derived.Deep.QuietTactic
import Derived.Deep.RegionHeld3
import Derived.Deep.Slices
import Derived.KernelRfl
import Derived.Laws.BitsLemmas
import Derived.Laws.BytesArg
import Derived.Laws.IdiomCopy
import Derived.Laws.MakeOwn
import Derived.Laws.OwnMore
import Derived.Laws.Rows
import Derived.Laws.Slices
import Derived.Laws.StructEq
import Derived.Lib.AppendStr
import Derived.Lib.ConvBytes
import Derived.Lib.LaidTab
import Derived.Lib.SliceRun
import Derived.Lib.SmallJoins
import Derived.Maps.AppendAt
import Derived.OpenShut
import Derived.OrdersHeld
import Derived.OwnWalk
import Derived.ProofKit
import Derived.RowKit
import Derived.RowKit3
import Derived.Shelf.Abstract
import Derived.Shelf.Spec.TrailingZeros
import Derived.ShutString
import Derived.SizedLaws
import Derived.Tactics
import Derived.Test.YthbaocejgjpfoaaDoorCards
import Derived.Test.YthbaocejgjpfoaaDoorProg
import Derived.Test.YthbaocejgjpfoaaDoorTie
import Derived.WalkKit
import Derived.WideLaws
import Derived.Test.YthbaocejgjpfoaaDoorCFnExactIsFinite2
import Derived.Test.YthbaocejgjpfoaaDoorCFnExactIsFinite3
import Derived.Test.YthbaocejgjpfoaaDoorCFnExactIsFinite4
import Derived.Test.YthbaocejgjpfoaaDoorCFnExactIsFinite5
import Derived.Test.YthbaocejgjpfoaaDoorCFnExactIsFinite6
section M0
namespace Go.Proofs.YthbaocejgjpfoaaDoor.U
open Go.RowKit Go.Proofs.YthbaocejgjpfoaaDoor.P Go.Proofs.YthbaocejgjpfoaaDoorW.PrintWords Go.Proofs.YthbaocejgjpfoaaDoorW.PrintLast Go.Proofs.YthbaocejgjpfoaaDoorW.PrintMore
set_option linter.unusedVariables false
/-! Words over an alphabet, and their order. -/
/-- The order of two lists, letter by letter. -/
def cmpL : List Int → List Int → Int
  | [], [] => 0
  | [], _ :: _ => -1
  | _ :: _, [] => 1
  | a :: u, b :: v => if a < b then -1 else if a > b then 1 else cmpL u v
theorem cmpL_nil (v : List Int) : cmpL [] v = if 0 < v.length then -1 else 0 := by cases v <;> rfl
theorem cmpL_over (u v : List Int) (i : Nat) (hu : i < u.length) (hv : ¬ i < v.length) : cmpL (u.drop i) (v.drop i) = 1 := by
  rw [List.drop_eq_getElem_cons hu, show v.drop i = [] from List.drop_eq_nil_of_le (by omega)]
  rfl
theorem cmpL_end (u v : List Int) : cmpL (u.drop u.length) (v.drop u.length) = if u.length < v.length then -1 else 0 := by
  rw [List.drop_length, cmpL_nil, List.length_drop]
  by_cases h : u.length < v.length
  · rw [if_pos h, if_pos (by omega)]
  · rw [if_neg h, if_neg (by omega)]
theorem cmpL_at (u v : List Int) (i : Nat) (hu : i < u.length) (hv : i < v.length) : cmpL (u.drop i) (v.drop i) = if u[i] < v[i] then -1 else if u[i] > v[i] then 1 else cmpL (u.drop (i + 1)) (v.drop (i + 1)) := by
  rw [List.drop_eq_getElem_cons hu, List.drop_eq_getElem_cons hv]
  rfl
theorem less_ev (u v : List Int) (hu : u.length ≤ 9223372036854775806) : Ev (fun k => spec_l01Less.f k u v) (decide (cmpL u v < 0)) := by
  have key := Ev.up (fun k (_ : Unit) i => spec_l01Less.l0 k u v i) u.length (fun i _ => decide (cmpL (u.drop i) (v.drop i) < 0)) (fun i _ => i ≤ v.length)
    (fun _ _ => by
      refine Ev.round ?_
      simp only [spec_l01Less.l0]
      refine Ev.no (by omega) (Ev.round ?_)
      simp only [spec_l01Less.j1]
      refine Ev.no (by simp) ?_
      rw [cmpL_end]
      by_cases h : u.length < v.length
      · rw [if_pos h, decide_eq_true (show (u.length : Int) < (v.length : Int) by omega)]
        exact Ev.now _
      · rw [if_neg h, decide_eq_false (show ¬ (u.length : Int) < (v.length : Int) by omega)]
        exact Ev.now _)
    (fun i _ hi hv ih => by
      refine Ev.round ?_
      simp only [spec_l01Less.l0]
      refine Ev.yes (by omega) (Ev.round ?_)
      simp only [spec_l01Less.j1]
      by_cases hv' : i < v.length
      · rw [decide_eq_true (show (i : Int) < (v.length : Int) by omega)]
        refine Ev.yes rfl (Ev.yes (by omega) (Ev.yes (by omega) (Ev.yes (by omega) ?_)))
        rw [rd_lt hi, rd_lt hv', w64s (by omega), cmpL_at u v i hi hv']
        by_cases e : u[i] = v[i]
        · refine Ev.yes e ?_
          rw [if_neg (by omega), if_neg (by omega)]
          exact ih () (by omega)
        · refine Ev.no e ?_
          by_cases e' : u[i] < v[i]
          · rw [if_pos e', decide_eq_true e']
            exact Ev.now _
          · rw [if_neg e', if_pos (by omega), decide_eq_false e']
            exact Ev.now _
      · rw [decide_eq_false (show ¬ (i : Int) < (v.length : Int) by omega)]
        refine Ev.no (by simp) ?_
        rw [cmpL_over u v i hi hv', decide_eq_false (show ¬ (u.length : Int) < (v.length : Int) by omega)]
        exact Ev.now _)
  have := key 0 () (by omega) (by omega)
  unfold spec_l01Less.f
  simpa using this
theorem cmpInt (a b : Int) : cmp_Compare_int64.f a b = some (if a < b then -1 else if a > b then 1 else 0) := by
  unfold cmp_Compare_int64.f
  have h : ∀ x, cmp_isNaN_int64.f x = some false := fun x => by unfold cmp_isNaN_int64.f; simp
  rw [h, h]
  simp only [Option.bind_some, Bool.false_eq_true, if_false]
  split
  · rfl
  · split <;> rfl
theorem compare_ev (u v : List Int) (hu : u.length ≤ 9223372036854775806) : Ev (fun k => slices_Compare_int64_int64.f k u v) (cmpL u v) := by
  have key := Ev.up (fun k (_ : Unit) i => slices_Compare_int64_int64.l0 k u v u (u.length : Int) i) u.length (fun i _ => cmpL (u.drop i) (v.drop i)) (fun i _ => i ≤ v.length)
    (fun _ _ => by
      refine Ev.round ?_
      simp only [slices_Compare_int64_int64.l0]
      refine Ev.no (by omega) ?_
      rw [cmpL_end]
      by_cases h : u.length < v.length
      · rw [if_pos h]
        exact Ev.yes (by omega) (Ev.now _)
      · rw [if_neg h]
        exact Ev.no (by omega) (Ev.now _))
    (fun i _ hi hv ih => by
      refine Ev.round ?_
      simp only [slices_Compare_int64_int64.l0]
      refine Ev.yes (by omega) (Ev.yes (by omega) (Ev.yes (by omega) ?_))
      by_cases hv' : i < v.length
      · refine Ev.no (by omega) (Ev.yes (by omega) (Ev.here (cmpInt _ _) ?_))
        rw [rd_lt hi, rd_lt hv', w64s (by omega), cmpL_at u v i hi hv']
        by_cases e' : u[i] < v[i]
        · rw [if_pos e', if_pos e']
          exact Ev.no (by omega) (Ev.now _)
        · rw [if_neg e', if_neg e']
          by_cases e : u[i] > v[i]
          · rw [if_pos e, if_pos e]
            exact Ev.no (by omega) (Ev.now _)
          · rw [if_neg e, if_neg e]
            exact Ev.yes rfl (ih () (by omega))
      · refine Ev.yes (by omega) ?_
        rw [cmpL_over u v i hi hv']
        exact Ev.now _)
  have := key 0 () (by omega) (by omega)
  unfold slices_Compare_int64_int64.f
  simpa using this
/-- Does u come before v? -/
def befB (u v : List Int) : Bool := if u.length = v.length then decide (cmpL u v < 0) else decide (u.length < v.length)
theorem before_ev (u v : List Int) (hu : u.length ≤ 9223372036854775806) : Ev (fun k => spec_l12Before.f k u v) (befB u v) := by
  unfold spec_l12Before.f befB
  by_cases h : u.length = v.length
  · rw [if_pos h]
    exact Ev.yes (by omega) (Ev.bind (less_ev u v hu) (Ev.now _))
  · rw [if_neg h]
    refine Ev.no (by omega) ?_
    by_cases h2 : u.length < v.length
    · rw [decide_eq_true h2, decide_eq_true (show (u.length : Int) < (v.length : Int) by omega)]
      exact Ev.now _
    · rw [decide_eq_false h2, decide_eq_false (show ¬ (u.length : Int) < (v.length : Int) by omega)]
      exact Ev.now _
/-- The program's order of words. -/
def cmpW (u v : List Int) : Int := if u.length = v.length then cmpL u v else (u.length : Int) - (v.length : Int)
theorem compareWords_ev (u v : List Int) (hu : u.length ≤ 1048576) (hv : v.length ≤ 1048576) : Ev (fun k => impl_compareWords.f k u v) (cmpW u v) := by
  unfold impl_compareWords.f cmpW
  by_cases h : u.length = v.length
  · rw [if_pos h]
    exact Ev.yes (by omega) (Ev.bind (compare_ev u v (by omega)) (Ev.now _))
  · rw [if_neg h]
    refine Ev.no (by omega) ?_
    rw [w64 (by omega) (by omega)]
    exact Ev.now _
theorem cmpW_bef (u v : List Int) : befB u v = decide (cmpW u v < 0) := by
  unfold befB cmpW
  by_cases h : u.length = v.length
  · rw [if_pos h, if_pos h]
  · rw [if_neg h, if_neg h, decide_eq_decide]
    omega
/-- Is it a word? -/
def wordB (n : Int) (w : List Int) : Bool := decide (w.length ≤ 24) && w.all fun t => inI t 0 (wrap64 (n - 1))
theorem l11Word_ev (n : Int) (w : List Int) (hw : w.length ≤ 9223372036854775806) : Ev (fun k => spec_l11Word.f k n w) (wordB n w) := by
  have key := Ev.up (fun k (_ : Unit) i => spec_l11Word.l0 k n w i) w.length (fun i _ => decide (w.length ≤ 24) && (w.drop i).all fun t => inI t 0 (wrap64 (n - 1))) (fun i _ => True)
    (fun _ _ => by
      refine Ev.round ?_
      simp only [spec_l11Word.l0]
      refine Ev.no (by omega) ?_
      rw [List.drop_length, List.all_nil, Bool.and_true]
      rw [show decide (w.length ≤ 24) = decide ((w.length : Int) ≤ 24) from by rw [decide_eq_decide]; omega]
      exact Ev.now _)
    (fun i _ hi _ ih => by
      refine Ev.round ?_
      simp only [spec_l11Word.l0]
      refine Ev.yes (by omega) (Ev.yes (by omega) (Ev.here (spInI _ _ _) ?_))
      rw [rd_lt hi, w64s (by omega), List.drop_eq_getElem_cons hi, List.all_cons]
      cases inI w[i] 0 (wrap64 (n - 1))
      · rw [Bool.false_and, Bool.and_false]
        exact Ev.no (by simp) (Ev.now _)
      · rw [Bool.true_and]
        exact Ev.yes rfl (ih () trivial))
  have := key 0 () (by omega) trivial
  unfold spec_l11Word.f wordB
  simpa using this
theorem isWord_eq (n : Int) (d w : List Int) : impl_isWord.f n d w = some (wordB n w) := by
  unfold impl_isWord.f wordB
  by_cases h : w.length ≤ 24
  · rw [if_pos (by omega), decide_eq_true h, Bool.true_and]
    rfl
  · rw [if_neg (by omega), decide_eq_false h, Bool.false_and]
/-- Is the word at i a word, after the one before it? -/
def okAt (n : Int) (l : List (List Int)) (i : Nat) : Bool := wordB n (l.getD i []) && (decide (i = 0) || befB (l.getD (i - 1) []) (l.getD i []))
def finB (n : Int) (l : List (List Int)) : Bool := decide (l.length ≤ 40) && (List.range l.length).all (okAt n l)
theorem getD_mem {l : List (List Int)} {i : Nat} (h : i < l.length) : l.getD i [] ∈ l := by
  rw [List.getD_eq_getElem?_getD, List.getElem?_eq_getElem h]
  exact List.getElem_mem h
theorem finB_no {n : Int} {l : List (List Int)} {i : Nat} (hi : i < l.length) (h : okAt n l i = false) : finB n l = false := by
  unfold finB
  rw [show (List.range l.length).all (okAt n l) = false from by
    rw [List.all_eq_false]
    exact ⟨i, List.mem_range.2 hi, by rw [h]; simp⟩, Bool.and_false]
theorem finB_end {n : Int} {l : List (List Int)} (h : ∀ i, i < l.length → okAt n l i = true) : finB n l = decide (l.length ≤ 40) := by
  unfold finB
  rw [show (List.range l.length).all (okAt n l) = true from List.all_eq_true.2 fun i hi => h i (List.mem_range.1 hi), Bool.and_true]
theorem l12Is_ev (n : Int) (d : List Int) (l : List (List Int)) (hl : l.length ≤ 1048576) (hx : ∀ x ∈ l, x.length ≤ 1048576) : Ev (fun k => spec_l12Is.f k n d l) (finB n l) := by
  have key := Ev.up (fun k (_ : Unit) i => spec_l12Is.l0 k l i n d) l.length (fun _ _ => finB n l) (fun i _ => ∀ j, j < i → okAt n l j = true)
    (fun _ hI => by
      refine Ev.round ?_
      simp only [spec_l12Is.l0]
      refine Ev.no (by omega) ?_
      rw [finB_end hI, show decide (l.length ≤ 40) = decide ((l.length : Int) ≤ 40) from by rw [decide_eq_decide]; omega]
      exact Ev.now _)
    (fun i _ hi hI ih => by
      refine Ev.round ?_
      simp only [spec_l12Is.l0]
      have hg : ∀ i : Nat, rd_L1 l (i : Int) = l.getD i [] := fun i => rfl
      have hlen : ∀ i, i < l.length → (l.getD i []).length ≤ 1048576 := fun i hi => hx _ (getD_mem hi)
      refine Ev.yes (by omega) (Ev.yes (by omega) ?_)
      rw [hg, w64s (by omega)]
      refine Ev.bind (l11Word_ev n _ (by have := hlen i hi; omega)) ?_
      have hok : okAt n l i = (wordB n (l.getD i []) && (decide (i = 0) || befB (l.getD (i - 1) []) (l.getD i []))) := rfl
      cases hw : wordB n (l.getD i [])
      · refine Ev.no (by simp) ?_
        rw [finB_no hi (by rw [hok, hw, Bool.false_and])]
        exact Ev.now _
      refine Ev.yes rfl ?_
      rw [hw, Bool.true_and] at hok
      have hnext : okAt n l i = true → ∀ j, j < i + 1 → okAt n l j = true := fun h j hj => by
        by_cases e : j = i
        · subst e; exact h
        · exact hI j (by omega)
      by_cases h0 : i = 0
      · refine Ev.no (by omega) (ih () (hnext ?_))
        rw [hok, decide_eq_true h0, Bool.true_or]
      · have hw1 : wrap64 ((i : Int) - 1) = ((i - 1 : Nat) : Int) := by rw [w64 (by omega) (by omega)]; omega
        rw [decide_eq_false h0, Bool.false_or] at hok
        rw [hw1]
        refine Ev.yes (by omega) (Ev.yes (by omega) (Ev.yes (by omega) ?_))
        rw [hg]
        refine Ev.bind (before_ev _ _ (by have := hlen (i - 1) (by omega); omega)) ?_
        cases hb : befB (l.getD (i - 1) []) (l.getD i [])
        · refine Ev.no (by simp) ?_
          rw [finB_no hi (by rw [hok, hb])]
          exact Ev.now _
        · exact Ev.yes rfl (ih () (hnext (by rw [hok, hb]))))
  have := key 0 () (by omega) (fun j hj => absurd hj (by omega))
  unfold spec_l12Is.f
  simpa using this
end Go.Proofs.YthbaocejgjpfoaaDoor.U
end M0
section M1
namespace Go.Proofs.YthbaocejgjpfoaaDoor.Pure
open Go.RowKit Go.Proofs.YthbaocejgjpfoaaDoor.P Go.Proofs.YthbaocejgjpfoaaDoor.U Go.Proofs.YthbaocejgjpfoaaDoorW.PrintWords Go.Proofs.YthbaocejgjpfoaaDoorW.PrintLast Go.Proofs.YthbaocejgjpfoaaDoorW.PrintMore
set_option linter.unusedVariables false
theorem spec_IsFinite_ev (n : Int) (d : List Int) (l : List (List Int)) (hl : l.length ≤ 1048576) (hx : ∀ x ∈ l, x.length ≤ 1048576) : Ev (fun k => spec_IsFinite.f k n d l) (alB n d && finB n l) := by
  unfold spec_IsFinite.f
  refine Ev.bind (l02Is_ev n d) ?_
  cases alB n d
  · exact Ev.no (by simp) (Ev.now _)
  · exact Ev.yes rfl (Ev.bind (l12Is_ev n d l hl hx) (Ev.now _))
theorem impl_IsFinite_loop (n : Int) (d : List Int) (l : List (List Int)) (hl : l.length ≤ 40) (hx : ∀ x ∈ l, x.length ≤ 1048576) : Ev (fun k => impl_IsFinite.l0 k l l (l.length : Int) 0 n d) (finB n l) := by
  have key := Ev.up (fun k (_ : Unit) i => impl_IsFinite.l0 k l l (l.length : Int) i n d) l.length (fun _ _ => finB n l) (fun i _ => ∀ j, j < i → okAt n l j = true)
    (fun _ hI => by
      refine Ev.round ?_
      simp only [impl_IsFinite.l0]
      refine Ev.no (by omega) ?_
      rw [finB_end hI, decide_eq_true hl]
      exact Ev.now _)
    (fun i _ hi hI ih => by
      refine Ev.round ?_
      simp only [impl_IsFinite.l0]
      have hg : ∀ i : Nat, rd_L1 l (i : Int) = l.getD i [] := fun i => rfl
      have hlen : ∀ i, i < l.length → (l.getD i []).length ≤ 1048576 := fun i hi => hx _ (getD_mem hi)
      refine Ev.yes (by omega) (Ev.yes (by omega) (Ev.yes (by omega) (Ev.here (isWord_eq _ _ _) ?_)))
      rw [hg, w64s (by omega)]
      have hok : okAt n l i = (wordB n (l.getD i []) && (decide (i = 0) || befB (l.getD (i - 1) []) (l.getD i []))) := rfl
      cases hw : wordB n (l.getD i [])
      · refine Ev.no (by simp) ?_
        rw [finB_no hi (by rw [hok, hw, Bool.false_and])]
        exact Ev.now _
      refine Ev.yes rfl ?_
      rw [hw, Bool.true_and] at hok
      have hnext : okAt n l i = true → ∀ j, j < i + 1 → okAt n l j = true := fun h j hj => by
        by_cases e : j = i
        · subst e; exact h
        · exact hI j (by omega)
      by_cases h0 : i = 0
      · refine Ev.no (by omega) (ih () (hnext ?_))
        rw [hok, decide_eq_true h0, Bool.true_or]
      · have hw1 : wrap64 ((i : Int) - 1) = ((i - 1 : Nat) : Int) := by rw [w64 (by omega) (by omega)]; omega
        rw [decide_eq_false h0, Bool.false_or] at hok
        rw [hw1]
        refine Ev.yes (by omega) (Ev.yes (by omega) (Ev.yes (by omega) ?_))
        rw [hg]
        refine Ev.bind (compareWords_ev _ _ (hlen (i - 1) (by omega)) (hlen i hi)) ?_
        rw [cmpW_bef] at hok
        by_cases hc : cmpW (l.getD (i - 1) []) (l.getD i []) ≥ 0
        · refine Ev.yes hc ?_
          rw [finB_no hi (by rw [hok]; exact decide_eq_false (by omega))]
          exact Ev.now _
        · exact Ev.no hc (ih () (hnext (by rw [hok]; exact decide_eq_true (by omega)))))
  have := key 0 () (by omega) (fun j hj => absurd hj (by omega))
  simpa using this
theorem impl_IsFinite_ev (n : Int) (d : List Int) (l : List (List Int)) (hl : l.length ≤ 1048576) (hx : ∀ x ∈ l, x.length ≤ 1048576) : Ev (fun k => impl_IsFinite.f k n d l) (alB n d && finB n l) := by
  unfold impl_IsFinite.f
  refine Ev.bind (isAl_ev n d) ?_
  cases alB n d
  · refine Ev.no (by simp) (Ev.round ?_)
    simp only [impl_IsFinite.j0]
    exact Ev.yes (by trivial) (Ev.now _)
  · refine Ev.yes rfl (Ev.round ?_)
    simp only [impl_IsFinite.j0]
    by_cases h : l.length ≤ 40
    · rw [decide_eq_false (show ¬ (l.length : Int) > 40 by omega)]
      exact Ev.no (by simp) (impl_IsFinite_loop n d l h hx)
    · rw [decide_eq_true (show (l.length : Int) > 40 by omega)]
      refine Ev.yes rfl ?_
      rw [show finB n l = false from by unfold finB; rw [decide_eq_false h, Bool.false_and]]
      exact Ev.now _
theorem szAl (n : Int) (d : List Int) (hd : d.length ≤ maxLen) : laws_szAlphabet.f n d 1048576 = some (if d.length ≤ 1048576 then ((1048576 - d.length : Nat) : Int) else -1) := by
  unfold maxLen at hd
  unfold laws_szAlphabet.f laws_szInt64S.f
  rw [w64 (by omega) (by omega)]
  by_cases h : d.length ≤ 1048576
  · rw [if_neg (by omega), if_pos h]
    simp only [Option.bind_some]
    rw [if_neg (by omega)]
    congr 1; omega
  · rw [if_pos (by omega), if_neg h]
    rfl
theorem toAl (n : Int) (d : List Int) (hd : d.length ≤ 35184372088832) : Ev (fun k => laws_toAlphabet.f k n d) (n, d) := by
  unfold laws_toAlphabet.f
  exact Ev.bind (toS d hd) (Ev.now _)
theorem eqS1 (a : List Int) (hn : a.length ≤ 9223372036854775806) : Ev (fun k => laws_eqInt64S.f k a a) true := by
  have := eqS a a hn
  rw [decide_eq_true rfl] at this
  exact this
theorem eqAl1 (n : Int) (d : List Int) (hd : d.length ≤ 35184372088832) : Ev (fun k => laws_eqAlphabet.f k n d n d) true := by
  unfold laws_eqAlphabet.f
  exact Ev.yes rfl (Ev.bind (eqS1 d (by omega)) (Ev.yes rfl (Ev.now _)))
theorem FnExactIsFinite : ∀ (a0_0 : Int) (l0_1 : List Int) (l1 : List (List Int)), ((Lit.int .i64 a0_0).wf = true) → (l0_1.length ≤ maxLen ∧ ∀ x0 ∈ l0_1, (Lit.int .i64 x0).wf = true) → (l1.length ≤ maxLen ∧ ∀ x1 ∈ l1, x1.length ≤ maxLen ∧ ∀ x2 ∈ x1, (Lit.int .i64 x2).wf = true) → ∃ k, laws_FnExactIsFinite.f k a0_0 l0_1 l1 = some true := by
  intro n d l _ hd hl
  apply Ev.rounds
  unfold laws_FnExactIsFinite.f
  refine Ev.here (szAl n d hd.1) ?_
  rcases Nat.lt_or_ge 1048576 d.length with h1 | h1
  · rw [if_neg (by omega)]; exact Ev.yes (by omega) (Ev.now _)
  rw [if_pos h1]
  refine Ev.no (by omega) (Ev.bind (szSS l hl.1 (fun x hx => (hl.2 x hx).1) (1048576 - d.length) (by omega)) ?_)
  rcases Nat.lt_or_ge (1048576 - d.length) (sz2 l) with h2 | h2
  · rw [if_neg (by omega)]; exact Ev.yes (by omega) (Ev.now _)
  rw [if_pos h2]
  have hl1 : l.length ≤ 1048576 := by unfold sz2 at h2; omega
  have hl2 : ∀ x ∈ l, x.length ≤ 1048576 := fun x hx => by have := le_sz2 hx; omega
  have he : Ev (fun k => laws_eqInt64SS.f k l l) true := by
    have := eqSS l l (by omega) (fun x hx => by have := hl2 x hx; omega)
    rw [decide_eq_true rfl] at this
    exact this
  refine Ev.no (by omega) (Ev.bind (toAl n d (by omega)) (Ev.bind (toSS l hl1 hl2) (Ev.bind (spec_IsFinite_ev n d l hl1 hl2) (Ev.bind (toAl n d (by omega)) (Ev.bind (toSS l hl1 hl2) (Ev.bind (impl_IsFinite_ev n d l hl1 hl2) ?_))))))
  refine Ev.no (by simp) (Ev.bind (toAl n d (by omega)) (Ev.bind (eqAl1 n d (by omega)) (Ev.yes rfl (Ev.bind (toSS l hl1 hl2) (Ev.bind he (Ev.yes rfl (Ev.now _)))))))
end Go.Proofs.YthbaocejgjpfoaaDoor.Pure
end M1
section M2
namespace Go.Proofs.YthbaocejgjpfoaaDoor.fnExactIsFinite
open Go.ChangeShapes Go.WideShapes Go.ChangeAt Go.RowKit Go.Lib Go.Joins Go.Proofs.YthbaocejgjpfoaaDoor.P Go.Proofs.YthbaocejgjpfoaaDoor.Op Go.Proofs.YthbaocejgjpfoaaDoor.Sh Go.Proofs.YthbaocejgjpfoaaDoorW.PrintWords Go.Proofs.YthbaocejgjpfoaaDoorW.PrintLast
open Go.ChangeMaps (open_string shut_string)
set_option linter.unusedVariables false
set_option linter.unusedSimpArgs false
theorem own : ownKnob Tryd.prog.godebug = none := by kernel_rfl
theorem laidOut : laidOutB Tryd.prog = true := by kernel_rfl
theorem gTab : Tryd.prog.globalNamed "math/bits.deBruijn64tab" = some 0 := by kernel_rfl
theorem gTabType : (Tryd.prog.globals[0]?).map (·.type) = some 191 := by kernel_rfl
theorem cellsT : Tryd.prog.cellsOf 191 = 64 := by kernel_rfl
theorem cellsE : Tryd.prog.cellsOf 5 = 1 := by kernel_rfl
def tabL : List Int := [0, 1, 56, 2, 57, 49, 28, 3, 61, 58, 42, 50, 38, 29, 17, 4, 62, 47, 59, 36, 45, 43, 51, 22, 53, 39, 33, 30, 24, 18, 12, 5, 63, 55, 48, 27, 60, 41, 37, 16, 46, 35, 44, 21, 52, 32, 23, 11, 54, 26, 40, 15, 34, 20, 31, 10, 25, 14, 19, 9, 13, 8, 7, 6]
theorem tabL_eq : tabL = Lib.deBruijn64tab.map (fun (n : Nat) => (n : Int)) := rfl
theorem table {W : World} (h : laidMetH Tryd.prog Rows.fnExactIsFiniteRow.laid W) : Lib.TabIs Tryd.prog W "math/bits.deBruijn64tab" .u8 tabL :=
  Lib.tabIs_of_head (rest := []) gTab gTabType Tryd.underlying191 Tryd.underlying5 cellsE cellsT h
theorem tab {W : World} (h : laidMetH Tryd.prog Rows.fnExactIsFiniteRow.laid W) : Tab W := fun j hj => by
  have h1 := (table h).cell gTab j (by rw [tabL_eq, List.length_map]; exact hj)
  rw [h1, tabL_eq]
  congr 2
  simp only [List.getD_eq_getElem?_getD, List.getElem?_map, List.getElem?_eq_getElem hj, Option.map_some, Option.getD_some, List.getElem_map]
set_option maxRecDepth 100000 in
theorem contract (H : Type) (enc : TypeId × Value → H) (W : World) (base : Nat) (args : Array Value) (ds gs : List (DataW H)) (before : List MemPlace)
    (hval0 : ∀ (j : Nat) t v, Tryd.f3.params[j]? = some t → args[j]? = some v → Value.okWide Tryd.prog W .any base t v)
    (hW : DataW.Whole enc Tryd.prog Tryd.f3.params.toList Rows.fnExactIsFiniteSpec.vars false W args.toList ds gs before) (hL : laidMetH Tryd.prog Rows.fnExactIsFiniteRow.laid W) :
    Calls Tryd.prog 3 args W fun e W' => ∃ v, e = .returned v ∧ Rows.fnExactIsFiniteSpec.post enc Tryd.prog Tryd.f3 false true false false W args v W' := by
  have hTab := tab hL
  clear hL
  have hval : ∀ (j : Nat) t v, Tryd.f3.params[j]? = some t → args[j]? = some v → Value.okWide Tryd.prog W .any base t v := hval0
  have hW' := hW
  obtain ⟨p, q, hA0, hV, rfl, hfz, hnd⟩ := hW
  have hA : DataW.TrodAll enc Tryd.prog W 0 (fun _ => true) true Tryd.f3.params.toList args.toList ds p := hA0
  rw [Tryd.params3] at hA hval
  obtain ⟨v0, vs0, d0, ds0, p0, q0, hargs, rfl, rfl, h0, r0⟩ := trodAll_cons hA
  obtain ⟨v1, vs1, d1, ds1, p1, q1, rfl, rfl, rfl, h1, r1⟩ := trodAll_cons r0
  obtain ⟨rfl, rfl, rfl⟩ := trodAll_nil r1
  obtain rfl : args = #[v0, v1] := by cases args; simp_all
  obtain ⟨rfl, rfl⟩ := trodVars_none hV
  have k0 := h0
  have lt0 : ∀ x ∈ p0, x.block < W.heap.size := by obtain ⟨m, hm⟩ := k0; exact DataW.trod_lt m _ _ _ hm
  obtain ⟨c00, c01, y00, y01, m0, rfl, _, _, t00, t01⟩ := open_agg2 Tryd.underlying24 (by kernel_rfl) (by kernel_rfl) (hval 0 24 v0 rfl rfl) h0
  obtain ⟨a0_0, e0_0, _, w0_0⟩ := DataW.trod_int Tryd.underlying2 t00
  obtain rfl : c00 = .int .i64 a0_0 := by simpa using e0_0
  obtain ⟨A0_1, c0_1, l0_1, rfl, hc0_1, hr0_1, w0_1⟩ := open_row t01 (opens_slice Tryd.underlying22 (by kernel_rfl) (opens_int Tryd.underlying2))
  have k1 := h1
  have lt1 : ∀ x ∈ p1, x.block < W.heap.size := by obtain ⟨m, hm⟩ := k1; exact DataW.trod_lt m _ _ _ hm
  obtain ⟨z1, len1, cap1, rfl⟩ := okWide_slice Tryd.underlying25 (hval 1 25 v1 rfl rfl)
  obtain ⟨f1, hf1⟩ := h1
  obtain ⟨A1, c1, l1, e1, hc1, hr1, w1⟩ := open_row hf1 (opens_slice Tryd.underlying25 (by kernel_rfl) (opens_slice Tryd.underlying22 (by kernel_rfl) (opens_int Tryd.underlying2)))
  simp only [Value.slice.injEq] at e1
  obtain ⟨ea1, eb1, ec1⟩ := e1
  obtain rfl := ea1.symm
  subst eb1
  obtain rfl := ec1.symm
  clear hA0 hval0
  obtain ⟨k, hk⟩ := Pure.FnExactIsFinite a0_0 l0_1 l1 w0_0 w0_1 w1
  refine (laws_FnExactIsFinite.calls k a0_0 A0_1 c0_1 l0_1 A1 c1 l1 true W hr0_1 hc0_1 hr1 hc1 hk rfl hTab).mono fun e W' ⟨he, bel0⟩ => ?_
  have bel : Below W.heap.size W W' := bel0
  subst he
  exact ⟨_, rfl, _, _, _, [], _, [], hW', trodAll_mk1 (shut_bool Tryd.underlying4 _), (trodAll_cons_mk (Below.trod laidOut (by kernel_rfl) (of_decide_eq_true (by kernel_rfl)) k0 bel lt0) (trodAll_cons_mk (Below.trod laidOut (by kernel_rfl) (of_decide_eq_true (by kernel_rfl)) k1 bel lt1) trodAll_mk0)), rfl, bel.frame _, fun h => by cases h⟩
noncomputable def laidWorld (os : Os) : World :=
  { World.holding Tryd.prog os ⟨#[], #[], []⟩ with heap := (World.holding Tryd.prog os ⟨#[], #[], []⟩).heap.modify 0 fun
      | .cells _ t frozen => .cells #[.int .u8 0, .int .u8 1, .int .u8 56, .int .u8 2, .int .u8 57, .int .u8 49, .int .u8 28, .int .u8 3, .int .u8 61, .int .u8 58, .int .u8 42, .int .u8 50, .int .u8 38, .int .u8 29, .int .u8 17, .int .u8 4, .int .u8 62, .int .u8 47, .int .u8 59, .int .u8 36, .int .u8 45, .int .u8 43, .int .u8 51, .int .u8 22, .int .u8 53, .int .u8 39, .int .u8 33, .int .u8 30, .int .u8 24, .int .u8 18, .int .u8 12, .int .u8 5, .int .u8 63, .int .u8 55, .int .u8 48, .int .u8 27, .int .u8 60, .int .u8 41, .int .u8 37, .int .u8 16, .int .u8 46, .int .u8 35, .int .u8 44, .int .u8 21, .int .u8 52, .int .u8 32, .int .u8 23, .int .u8 11, .int .u8 54, .int .u8 26, .int .u8 40, .int .u8 15, .int .u8 34, .int .u8 20, .int .u8 31, .int .u8 10, .int .u8 25, .int .u8 14, .int .u8 19, .int .u8 9, .int .u8 13, .int .u8 8, .int .u8 7, .int .u8 6] t frozen
      | o => o }
theorem laid_met (os : Os) : laidMet Tryd.prog Rows.fnExactIsFiniteRow.laid ((laidWorld os).forCall (fun _ _ => 0) ⟨#[], #[.agg #[.int .i64 0, .slice none 0 0], .slice none 0 0], []⟩).memory :=
  laidMet_of_run' 8 (by kernel_rfl) (by kernel_rfl)
theorem reads (os : Os) {H : Type} (enc : TypeId × Value → H) : ∃ places, DataW.whole enc Tryd.prog ((laidWorld os).forCall (fun _ _ => 0) ⟨#[], #[.agg #[.int .i64 0, .slice none 0 0], .slice none 0 0], []⟩).memory Tryd.f3.params.toList Rows.fnExactIsFiniteSpec.vars false (#[.agg #[.int .i64 0, .slice none 0 0], .slice none 0 0] : Array Value).toList 8 = some ([.agg [.lit (.int .i64 0), .nil], .nil], [], places) :=
  ⟨[], by kernel_rfl⟩
set_option maxRecDepth 100000 in
theorem lifted (os : Os) (started : os.Started) (H : Type) (enc : TypeId × Value → H) (F : Stop.Interp) :
    ReturnsInHanded {} Tryd.checked os 3 .any ((OpenSpec.ofChange Rows.fnExactIsFiniteSpec).preRow enc Tryd.prog Tryd.f3 Rows.fnExactIsFiniteRow.domain false Rows.fnExactIsFiniteRow.laid) (((OpenSpec.ofChange Rows.fnExactIsFiniteSpec).at F).post enc Tryd.prog Tryd.f3 false true false false) := by
  obtain ⟨places, hx⟩ := reads os enc
  refine returnsInHanded_of_row (C := Tryd.checked) (s := OpenSpec.ofChange Rows.fnExactIsFiniteSpec) own started (by kernel_rfl) Tryd.func3
    (witness_row_at (enc := enc) (C := Tryd.checked) false (laidWorld os) #[.agg #[.int .i64 0, .slice none 0 0], .slice none 0 0] rfl (by kernel_rfl) (by kernel_rfl) (by kernel_rfl)
      (OpenSpec.preRow_of_cond 8 hx (by kernel_rfl) (fun k hk => by cases hk) (by kernel_rfl) (laid_met os))) ?_
  intro W base args ds gs before hval hW _ _ _ hL _ _
  exact contract H enc W base args ds gs before hval hW hL
theorem said : Rows.FnExactIsFiniteSaid :=
  OpenClaim.holds_of_cond 3 Tryd.f3 rfl rfl rfl rfl rfl rfl rfl ⟨rfl, rfl, rfl, rfl, rfl⟩ rfl rfl rfl rfl rfl (by kernel_rfl) Tryd.func3 (by kernel_rfl)
    (of_decide_eq_true (by kernel_rfl)) (by unfold Func.isWrapper; first | (rw [if_pos (by decide +kernel)]; kernel_rfl) | (rw [if_neg (by decide +kernel)]; exact ⟨rfl, rfl⟩))
    (fun os started H enc _ F => by rw [OpenClaim.pre_eq_preRow]; exact lifted os started H enc F)
theorem plain (f : FuncId) (fn : Func) (hf : Tryd.pinned.checked.prog.funcNamed "loop.example/g01094/laws.FnExactIsFinite" = some f) (hfn : Tryd.pinned.checked.prog.funcs[f]? = some fn) :
    false = Tryd.pinned.checked.prog.looks [] ∧ ∀ (j : Nat) t, fn.params[j]? = some t → Tryd.pinned.checked.prog.wantsStandIn t = false := by
  obtain rfl : f = 3 := Option.some.inj ((show Tryd.prog.funcNamed "loop.example/g01094/laws.FnExactIsFinite" = some 3 by kernel_rfl).symm.trans hf) |>.symm
  obtain rfl : fn = Tryd.f3 := (Option.some.inj (Tryd.func3.symm.trans hfn)).symm
  refine ⟨by kernel_rfl, fun j t ht => ?_⟩
  rw [Tryd.params3] at ht
  have hm := Array.mem_of_getElem? ht
  simp only [List.mem_toArray, List.mem_cons, List.not_mem_nil, or_false] at hm
  rcases hm with rfl | rfl
  · exact (show Tryd.prog.wantsStandIn 24 = false by kernel_rfl)
  · exact (show Tryd.prog.wantsStandIn 25 = false by kernel_rfl)
theorem card : Rows.FnExactIsFiniteCardSaid :=
  Claim7.holds_tied_plain_at .later [] _ _ _ _ said (fun _ h => by cases h) (by kernel_rfl) (fun _ h => by cases h) fnExactIsFinite_row_tie rfl ⟨rfl, rfl⟩ (by kernel_rfl) rfl plain (by kernel_rfl)
#print axioms card
end Go.Proofs.YthbaocejgjpfoaaDoor.fnExactIsFinite
namespace Go.Proofs.YthbaocejgjpfoaaDoor
/-- The card, under a short name, for the claim. -/
theorem fnExactIsFinite_holds : Rows.FnExactIsFiniteCardSaid := fnExactIsFinite.card
end Go.Proofs.YthbaocejgjpfoaaDoor
end M2
