/- For every asynchronous automaton, the program's IsAsynchronous answers what the reference's answers and leaves its argument as it was. No condition. -/
import Derived.ArgAppend
import Derived.Below
import Derived.BigQuiet
import Derived.ChangeOld
import Derived.ChangeSame
import Derived.ChangeShapes
import Derived.Deep.AppendLies
import Derived.Deep.CutBlock
import Derived.Deep.DeepCutAuto
import Derived.Deep.DeepHandedRow
import Derived.Deep.Draws
import Derived.Deep.LoopGhost
import Derived.Deep.OwnRows
import Derived.Deep.QuietTactic
import Derived.Deep.RegionHeld3
import Derived.Deep.Slices
import Derived.Deep.Strs
import Derived.KernelRfl
import Derived.Laws.BitsLemmas
import Derived.Laws.BytesArg
import Derived.Laws.IdiomCopy
import Derived.Laws.MakeOwn
import Derived.Laws.OwnMore
import Derived.Laws.Rows
import Derived.Laws.Slices
import Derived.Laws.StructEq
import Derived.Lib.AppendStr
import Derived.Lib.ConvBytes
import Derived.Lib.LaidTab
import Derived.Lib.SliceRun
import Derived.Lib.SmallJoins
import Derived.Maps.AppendAt
import Derived.OpenShut
import Derived.OrdersHeld
import Derived.OwnWalk
import Derived.ProofKit
import Derived.RowKit
import Derived.RowKit3
import Derived.Shelf.Abstract
import Derived.Shelf.Spec.TrailingZeros
import Derived.ShutString
import Derived.SizedLaws
import Derived.Tactics
import Derived.Test.YthbaocejgjpfoaaDoorCards
import Derived.Test.YthbaocejgjpfoaaDoorChecked
import Derived.Test.YthbaocejgjpfoaaDoorProg
import Derived.Test.YthbaocejgjpfoaaDoorTie
import Derived.WalkKit
import Derived.WideLaws
import Derived.Test.YthbaocejgjpfoaaDoorCFnExactIsAsynchronous2
import Derived.Test.YthbaocejgjpfoaaDoorCFnExactIsAsynchronous3
import Derived.Test.YthbaocejgjpfoaaDoorCFnExactIsAsynchronous5
import Derived.Test.YthbaocejgjpfoaaDoorCFnExactIsAsynchronous6
import Derived.Test.YthbaocejgjpfoaaDoorCFnExactIsAsynchronous7
import Derived.Test.YthbaocejgjpfoaaDoorCFnExactIsAsynchronous9
import Derived.Test.YthbaocejgjpfoaaDoorCFnExactIsAsynchronous10
import Derived.Test.YthbaocejgjpfoaaDoorCFnExactIsAsynchronous11
import Derived.Test.YthbaocejgjpfoaaDoorCFnExactIsAsynchronous12
import Derived.Test.YthbaocejgjpfoaaDoorCFnExactIsAsynchronous13
import Derived.Test.YthbaocejgjpfoaaDoorCFnExactIsAsynchronous14
section M0
namespace Go.Proofs.YthbaocejgjpfoaaDoor.Pure
open Go.RowKit Go.Proofs.YthbaocejgjpfoaaDoor.P Go.Proofs.YthbaocejgjpfoaaDoor.U Go.Proofs.YthbaocejgjpfoaaDoorW.PrintWords Go.Proofs.YthbaocejgjpfoaaDoorW.PrintLast Go.Proofs.YthbaocejgjpfoaaDoorW.PrintMore
set_option linter.unusedVariables false
abbrev JT := S149
abbrev JL := S147
def jD (J : List JT) (i : Nat) : JT := J.getD i z149
theorem jD_lt {J : List JT} {i : Nat} (h : i < J.length) : jD J i = J[i] := by
  unfold jD; rw [List.getD_eq_getElem?_getD, List.getElem?_eq_getElem h]; rfl
theorem rdJ (J : List JT) (i : Nat) : rd_T149 J (i : Int) = jD J i := rfl
/-- The sizes that a letter's joint has. -/
def pkJ (a sz : List Int) (L : Int) : List Int := pickL (a.getD L.toNat 0).toNat sz 0
/-- Does joint a come before joint b? -/
def befJ (a b : JT) : Bool := if b.f0 < a.f0 then false else if b.f0 = a.f0 then decide (cmpL a.f1 b.f1 < 0) else true
def jOk (a sz : List Int) (J : List JT) (i : Nat) : Bool :=
  inI (jD J i).f0 0 ((a.length : Int) - 1) && (glR (pkJ a sz (jD J i).f0) (jD J i).f1 && (glR (pkJ a sz (jD J i).f0) (jD J i).f2 && (decide (i = 0) || befJ (jD J (i - 1)) (jD J i))))
def jsB (a sz : List Int) (J : List JT) : Bool := decide (J.length ≤ 64) && (List.range J.length).all (jOk a sz J)
theorem jsB_no {a sz : List Int} {J : List JT} {i : Nat} (hi : i < J.length) (h : jOk a sz J i = false) : jsB a sz J = false := by
  unfold jsB
  rw [show (List.range J.length).all (jOk a sz J) = false from by
    rw [List.all_eq_false]
    exact ⟨i, List.mem_range.2 hi, by rw [h]; simp⟩, Bool.and_false]
theorem jsB_end {a sz : List Int} {J : List JT} (h : ∀ i, i < J.length → jOk a sz J i = true) : jsB a sz J = decide (J.length ≤ 64) := by
  unfold jsB
  rw [show (List.range J.length).all (jOk a sz J) = true from List.all_eq_true.2 fun i hi => h i (List.mem_range.1 hi), Bool.and_true]
/-- Small enough. -/
structure Sm (a sz c : List Int) (J : List JT) (F : List (List Int)) : Prop where
  na : a.length ≤ 1048576
  nsz : sz.length ≤ 1048576
  nc : c.length ≤ 1048576
  nJ : J.length ≤ 1048576
  nJ1 : ∀ x ∈ J, x.f1.length ≤ 1048576
  nJ2 : ∀ x ∈ J, x.f2.length ≤ 1048576
  nF : F.length ≤ 1048576
  nF1 : ∀ x ∈ F, x.length ≤ 1048576
theorem jD_mem {J : List JT} {i : Nat} (h : i < J.length) : jD J i ∈ J := by rw [jD_lt h]; exact List.getElem_mem h
theorem place {a : List Int} {n : Nat} (h : arPl n a = true) : n ≤ 4 ∧ a.length ≤ 8 ∧ ∀ i : Nat, i < a.length → ∃ m : Nat, rd a (i : Int) = (m : Int) ∧ (a.getD i 0).toNat = m ∧ m < 2 ^ n := by
  unfold arPl at h
  simp only [Bool.and_eq_true, decide_eq_true_eq, List.all_eq_true] at h
  refine ⟨h.1.2, h.2.1, fun i hi => ⟨(a.getD i 0).toNat, ?_, rfl, ?_⟩⟩
  · have := (inI_iff.1 (h.2.2 _ (List.getElem_mem hi)))
    rw [rdn, List.getD_eq_getElem?_getD, List.getElem?_eq_getElem hi]
    show a[i] = ((a[i]).toNat : Int)
    omega
  · have := (inI_iff.1 (h.2.2 _ (List.getElem_mem hi)))
    rw [List.getD_eq_getElem?_getD, List.getElem?_eq_getElem hi]
    show (a[i]).toNat < _
    have h2 : 0 < 2 ^ n := Nat.pow_pos (by decide)
    generalize 2 ^ n = p at this h2 ⊢
    omega
theorem spJoints_ev {a sz c : List Int} {J : List JT} {F : List (List Int)} (S : Sm a sz c J F) (hp : arPl sz.length a = true) :
    Ev (fun k => spec_l14Joints.f k a sz c J F) (jsB a sz J) := by
  obtain ⟨hs, ha, hpl⟩ := place hp
  have key := Ev.up (fun k (_ : Unit) i => spec_l14Joints.l0 k i a sz c J F) J.length (fun _ _ => jsB a sz J) (fun i _ => ∀ j, j < i → jOk a sz J j = true)
    (fun _ hI => by
      refine Ev.round ?_
      simp only [spec_l14Joints.l0]
      refine Ev.no (by omega) ?_
      rw [jsB_end hI, show decide (J.length ≤ 64) = decide ((J.length : Int) ≤ 64) from by rw [decide_eq_decide]; omega]
      exact Ev.now _)
    (fun i _ hi hI ih => by
      have hJ := S.nJ
      have hnext : jOk a sz J i = true → ∀ j, j < i + 1 → jOk a sz J j = true := fun h j hj => by
        by_cases e : j = i
        · subst e; exact h
        · exact hI j (by omega)
      have hno : ∀ x y z, jsB a sz J = false → Ev (fun k => spec_l14Joints.j1 k (i : Int) true a sz c J F x y z) (jsB a sz J) := fun x y z h => by
        refine Ev.round ?_
        simp only [spec_l14Joints.j1]
        rw [h]
        exact Ev.yes (by trivial) (Ev.now _)
      refine Ev.round ?_
      simp only [spec_l14Joints.l0]
      rw [rdJ]
      have hok : jOk a sz J i = (inI (jD J i).f0 0 ((a.length : Int) - 1) && (glR (pkJ a sz (jD J i).f0) (jD J i).f1 && (glR (pkJ a sz (jD J i).f0) (jD J i).f2 && (decide (i = 0) || befJ (jD J (i - 1)) (jD J i))))) := rfl
      have hl1 := S.nJ1 _ (jD_mem hi)
      have hl2 := S.nJ2 _ (jD_mem hi)
      refine Ev.yes (by omega) (Ev.yes (by omega) ?_)
      rw [w64 (n := (a.length : Int) - 1) (by omega) (by omega)]
      refine Ev.here (spInI _ _ _) ?_
      cases h1 : inI (jD J i).f0 0 ((a.length : Int) - 1)
      · exact Ev.no (by simp) (hno _ _ _ (jsB_no hi (by rw [hok, h1, Bool.false_and])))
      rw [h1, Bool.true_and] at hok
      rw [inI_iff] at h1
      obtain ⟨L, hL⟩ := Int.eq_ofNat_of_zero_le h1.1
      have hLa : L < a.length := by omega
      obtain ⟨m, hm1, hm2, hm3⟩ := hpl L hLa
      have hpk : pkJ a sz (jD J i).f0 = pickL m sz 0 := by unfold pkJ; rw [hL, Int.toNat_natCast, hm2]
      have hm63 : m < 2 ^ 63 := Nat.lt_of_lt_of_le hm3 (Nat.pow_le_pow_right (by decide) (by omega))
      refine Ev.yes rfl (Ev.yes h1.1 (Ev.yes (by omega) ?_))
      rw [hL, hm1, ← hL]
      rw [hpk] at hok
      refine Ev.bind (spLocal_ev a sz c J F m _ hm63 hs hl1) ?_
      cases h2 : glR (pickL m sz 0) (jD J i).f1
      · exact Ev.no (by simp) (hno _ _ _ (jsB_no hi (by rw [hok, h2, Bool.false_and])))
      rw [h2, Bool.true_and] at hok
      refine Ev.yes rfl (Ev.bind (spLocal_ev a sz c J F m _ hm63 hs hl2) ?_)
      cases h3 : glR (pickL m sz 0) (jD J i).f2
      · exact hno _ _ _ (jsB_no hi (by rw [hok, h3, Bool.false_and]))
      rw [h3, Bool.true_and] at hok
      refine Ev.round ?_
      simp only [spec_l14Joints.j1]
      refine Ev.no (by simp) ?_
      rw [w64s (by omega)]
      by_cases h0 : i = 0
      · refine Ev.no (by omega) (ih () (hnext ?_))
        rw [hok, decide_eq_true h0, Bool.true_or]
      · have hw1 : wrap64 ((i : Int) - 1) = ((i - 1 : Nat) : Int) := by rw [w64 (by omega) (by omega)]; omega
        rw [decide_eq_false h0, Bool.false_or] at hok
        rw [hw1, rdJ]
        refine Ev.yes (by omega) (Ev.yes (by omega) (Ev.yes (by omega) ?_))
        by_cases h4 : (jD J i).f0 < (jD J (i - 1)).f0
        · refine Ev.yes h4 ?_
          rw [jsB_no hi (by rw [hok]; unfold befJ; rw [if_pos h4])]
          exact Ev.now _
        · refine Ev.no h4 ?_
          by_cases h5 : (jD J i).f0 = (jD J (i - 1)).f0
          · have hb : befJ (jD J (i - 1)) (jD J i) = decide (cmpL (jD J (i - 1)).f1 (jD J i).f1 < 0) := by unfold befJ; rw [if_neg h4, if_pos h5]
            refine Ev.yes h5 (Ev.bind (less_ev _ _ (by have := S.nJ1 _ (jD_mem (show i - 1 < J.length by omega)); omega)) ?_)
            cases h6 : decide (cmpL (jD J (i - 1)).f1 (jD J i).f1 < 0)
            · refine Ev.no (by simp) ?_
              rw [jsB_no hi (by rw [hok, hb, h6])]
              exact Ev.now _
            · exact Ev.yes rfl (ih () (hnext (by rw [hok, hb, h6])))
          · refine Ev.no h5 (ih () (hnext ?_))
            rw [hok]; unfold befJ; rw [if_neg h4, if_neg h5])
  have := key 0 () (by omega) (fun j hj => absurd hj (by omega))
  unfold spec_l14Joints.f
  simpa using this
/-- The program's order of joints. -/
theorem compareJ {x y : JT} (hx : 0 ≤ x.f0 ∧ x.f0 ≤ 8) (hy : 0 ≤ y.f0 ∧ y.f0 ≤ 8) (hl : x.f1.length ≤ 1048576) :
    ∃ r, Ev (fun k => impl_compareJoints.f k x.f0 x.f1 x.f2 y.f0 y.f1 y.f2) r ∧ befJ x y = decide (r < 0) := by
  unfold impl_compareJoints.f befJ
  by_cases h : x.f0 = y.f0
  · refine ⟨cmpL x.f1 y.f1, Ev.yes h (Ev.bind (compare_ev _ _ (by omega)) (Ev.now _)), ?_⟩
    rw [if_neg (by omega), if_pos h.symm]
  · refine ⟨x.f0 - y.f0, Ev.no h (by rw [w64 (by omega) (by omega)]; exact Ev.now _), ?_⟩
    by_cases h2 : y.f0 < x.f0
    · rw [if_pos h2, decide_eq_false (by omega)]
    · rw [if_neg h2, if_neg (by omega), decide_eq_true (by omega)]
theorem goodJoints_ev {a sz c : List Int} {J : List JT} {F : List (List Int)} (S : Sm a sz c J F) (hp : arPl sz.length a = true) :
    Ev (fun k => impl_goodJoints.f k a sz c J F) (jsB a sz J) := by
  obtain ⟨hs, ha, hpl⟩ := place hp
  have key := Ev.up (fun k (_ : Unit) i => impl_goodJoints.l0 k J (J.length : Int) i a sz c J F) J.length (fun _ _ => jsB a sz J) (fun i _ => ∀ j, j < i → jOk a sz J j = true)
    (fun _ hI => by
      refine Ev.round ?_
      simp only [impl_goodJoints.l0]
      refine Ev.no (by omega) ?_
      rw [jsB_end hI, show decide (J.length ≤ 64) = decide ((J.length : Int) ≤ 64) from by rw [decide_eq_decide]; omega]
      exact Ev.now _)
    (fun i _ hi hI ih => by
      have hJ := S.nJ
      have hnext : jOk a sz J i = true → ∀ j, j < i + 1 → jOk a sz J j = true := fun h j hj => by
        by_cases e : j = i
        · subst e; exact h
        · exact hI j (by omega)
      refine Ev.round ?_
      simp only [impl_goodJoints.l0]
      rw [rdJ]
      have hok : jOk a sz J i = (inI (jD J i).f0 0 ((a.length : Int) - 1) && (glR (pkJ a sz (jD J i).f0) (jD J i).f1 && (glR (pkJ a sz (jD J i).f0) (jD J i).f2 && (decide (i = 0) || befJ (jD J (i - 1)) (jD J i))))) := rfl
      have hl1 := S.nJ1 _ (jD_mem hi)
      have hl2 := S.nJ2 _ (jD_mem hi)
      refine Ev.yes (by omega) (Ev.yes (by omega) (Ev.yes (by omega) (Ev.here (show impl_length_int64_80.f a = some (a.length : Int) from rfl) ?_)))
      rw [w64 (n := (a.length : Int) - 1) (by omega) (by omega)]
      refine Ev.here (imInI _ _ _) ?_
      cases h1 : inI (jD J i).f0 0 ((a.length : Int) - 1)
      · refine Ev.no (by simp) ?_
        rw [jsB_no hi (by rw [hok, h1, Bool.false_and])]
        exact Ev.now _
      rw [h1, Bool.true_and] at hok
      rw [inI_iff] at h1
      obtain ⟨L, hL⟩ := Int.eq_ofNat_of_zero_le h1.1
      have hLa : L < a.length := by omega
      obtain ⟨m, hm1, hm2, hm3⟩ := hpl L hLa
      have hpk : pkJ a sz (jD J i).f0 = pickL m sz 0 := by unfold pkJ; rw [hL, Int.toNat_natCast, hm2]
      refine Ev.yes rfl (Ev.yes h1.1 (Ev.yes (by omega) ?_))
      rw [hL, hm1, ← hL]
      rw [hpk] at hok
      refine Ev.bind (locals_ev sz m (by omega) hm3) (Ev.bind (isGlobal_ev _ _ hl1) ?_)
      cases h2 : glR (pickL m sz 0) (jD J i).f1
      · refine Ev.no (by simp) ?_
        rw [jsB_no hi (by rw [hok, h2, Bool.false_and])]
        exact Ev.now _
      rw [h2, Bool.true_and] at hok
      refine Ev.yes rfl (Ev.bind (isGlobal_ev _ _ hl2) ?_)
      cases h3 : glR (pickL m sz 0) (jD J i).f2
      · refine Ev.no (by simp) ?_
        rw [jsB_no hi (by rw [hok, h3, Bool.false_and])]
        exact Ev.now _
      rw [h3, Bool.true_and] at hok
      refine Ev.yes rfl ?_
      rw [w64s (by omega)]
      by_cases h0 : i = 0
      · refine Ev.no (by omega) (ih () (hnext ?_))
        rw [hok, decide_eq_true h0, Bool.true_or]
      · have hw1 : wrap64 ((i : Int) - 1) = ((i - 1 : Nat) : Int) := by rw [w64 (by omega) (by omega)]; omega
        rw [decide_eq_false h0, Bool.false_or] at hok
        rw [hw1, rdJ]
        have hprev := hI (i - 1) (by omega)
        unfold jOk at hprev
        rw [Bool.and_eq_true, inI_iff] at hprev
        obtain ⟨r, hr, hrb⟩ := compareJ (x := jD J (i - 1)) (y := jD J i) (by omega) (by omega) (S.nJ1 _ (jD_mem (show i - 1 < J.length by omega)))
        refine Ev.yes (by omega) (Ev.yes (by omega) (Ev.yes (by omega) (Ev.bind hr ?_)))
        by_cases h5 : r ≥ 0
        · refine Ev.yes h5 ?_
          rw [jsB_no hi (by rw [hok, hrb]; exact decide_eq_false (by omega))]
          exact Ev.now _
        · exact Ev.no h5 (ih () (hnext (by rw [hok, hrb]; exact decide_eq_true (by omega)))))
  have := key 0 () (by omega) (fun j hj => absurd hj (by omega))
  unfold impl_goodJoints.f
  simpa using this
def fOk (sz : List Int) (F : List (List Int)) (i : Nat) : Bool := glR sz (F.getD i []) && (decide (i = 0) || decide (cmpL (F.getD (i - 1) []) (F.getD i []) < 0))
def fsB (sz : List Int) (F : List (List Int)) : Bool := decide (F.length ≤ 64) && (List.range F.length).all (fOk sz F)
theorem fsB_no {sz : List Int} {F : List (List Int)} {i : Nat} (hi : i < F.length) (h : fOk sz F i = false) : fsB sz F = false := by
  unfold fsB
  rw [show (List.range F.length).all (fOk sz F) = false from by
    rw [List.all_eq_false]
    exact ⟨i, List.mem_range.2 hi, by rw [h]; simp⟩, Bool.and_false]
theorem fsB_end {sz : List Int} {F : List (List Int)} (h : ∀ i, i < F.length → fOk sz F i = true) : fsB sz F = decide (F.length ≤ 64) := by
  unfold fsB
  rw [show (List.range F.length).all (fOk sz F) = true from List.all_eq_true.2 fun i hi => h i (List.mem_range.1 hi), Bool.and_true]
/-- Is it an asynchronous automaton? -/
def asB (a sz c : List Int) (J : List JT) (F : List (List Int)) : Bool :=
  arPl sz.length a && ((sz.all fun t => inI t 1 4) && (glR sz c && (jsB a sz J && fsB sz F)))
theorem spF_ev {a sz c : List Int} {J : List JT} {F : List (List Int)} (S : Sm a sz c J F) (hs : sz.length ≤ 4) : Ev (fun k => spec_IsAsynchronous.l1 k 0 a sz c J F) (fsB sz F) := by
  have key := Ev.up (fun k (_ : Unit) i => spec_IsAsynchronous.l1 k i a sz c J F) F.length (fun _ _ => fsB sz F) (fun i _ => ∀ j, j < i → fOk sz F j = true)
    (fun _ hI => by
      refine Ev.round ?_
      simp only [spec_IsAsynchronous.l1]
      refine Ev.no (by omega) ?_
      rw [fsB_end hI, show decide (F.length ≤ 64) = decide ((F.length : Int) ≤ 64) from by rw [decide_eq_decide]; omega]
      exact Ev.now _)
    (fun i _ hi hI ih => by
      have hF := S.nF
      have hnext : fOk sz F i = true → ∀ j, j < i + 1 → fOk sz F j = true := fun h j hj => by
        by_cases e : j = i
        · subst e; exact h
        · exact hI j (by omega)
      refine Ev.round ?_
      simp only [spec_IsAsynchronous.l1]
      have hg : ∀ i : Nat, rd_L1 F (i : Int) = F.getD i [] := fun i => rfl
      have hlen : ∀ i, i < F.length → (F.getD i []).length ≤ 1048576 := fun i hi => S.nF1 _ (getD_mem hi)
      have hok : fOk sz F i = (glR sz (F.getD i []) && (decide (i = 0) || decide (cmpL (F.getD (i - 1) []) (F.getD i []) < 0))) := rfl
      refine Ev.yes (by omega) (Ev.yes (by omega) ?_)
      rw [hg, w64s (by omega)]
      refine Ev.bind (spGlobal_ev a sz c J F _ hs (hlen i hi)) ?_
      cases h1 : glR sz (F.getD i [])
      · refine Ev.no (by simp) ?_
        rw [fsB_no hi (by rw [hok, h1, Bool.false_and])]
        exact Ev.now _
      rw [h1, Bool.true_and] at hok
      refine Ev.yes rfl ?_
      by_cases h0 : i = 0
      · refine Ev.no (by omega) (ih () (hnext ?_))
        rw [hok, decide_eq_true h0, Bool.true_or]
      · have hw1 : wrap64 ((i : Int) - 1) = ((i - 1 : Nat) : Int) := by rw [w64 (by omega) (by omega)]; omega
        rw [decide_eq_false h0, Bool.false_or] at hok
        rw [hw1, hg]
        refine Ev.yes (by omega) (Ev.yes (by omega) (Ev.yes (by omega) (Ev.bind (less_ev _ _ (by have := hlen (i - 1) (by omega); omega)) ?_)))
        cases h6 : decide (cmpL (F.getD (i - 1) []) (F.getD i []) < 0)
        · refine Ev.no (by simp) ?_
          rw [fsB_no hi (by rw [hok, h6])]
          exact Ev.now _
        · exact Ev.yes rfl (ih () (hnext (by rw [hok, h6]))))
  have := key 0 () (by omega) (fun j hj => absurd hj (by omega))
  simpa using this
theorem imF_ev {a sz c : List Int} {J : List JT} {F : List (List Int)} (S : Sm a sz c J F) (h64 : F.length ≤ 64) : Ev (fun k => impl_IsAsynchronous.l0 k F (F.length : Int) 0 a sz c J F) (fsB sz F) := by
  have key := Ev.up (fun k (_ : Unit) i => impl_IsAsynchronous.l0 k F (F.length : Int) i a sz c J F) F.length (fun _ _ => fsB sz F) (fun i _ => ∀ j, j < i → fOk sz F j = true)
    (fun _ hI => by
      refine Ev.round ?_
      simp only [impl_IsAsynchronous.l0]
      refine Ev.no (by omega) ?_
      rw [fsB_end hI, decide_eq_true h64]
      exact Ev.now _)
    (fun i _ hi hI ih => by
      have hnext : fOk sz F i = true → ∀ j, j < i + 1 → fOk sz F j = true := fun h j hj => by
        by_cases e : j = i
        · subst e; exact h
        · exact hI j (by omega)
      refine Ev.round ?_
      simp only [impl_IsAsynchronous.l0]
      have hg : ∀ i : Nat, rd_L1 F (i : Int) = F.getD i [] := fun i => rfl
      have hlen : ∀ i, i < F.length → (F.getD i []).length ≤ 1048576 := fun i hi => S.nF1 _ (getD_mem hi)
      have hok : fOk sz F i = (glR sz (F.getD i []) && (decide (i = 0) || decide (cmpL (F.getD (i - 1) []) (F.getD i []) < 0))) := rfl
      refine Ev.yes (by omega) (Ev.yes (by omega) (Ev.yes (by omega) ?_))
      rw [hg, w64s (by omega)]
      refine Ev.bind (isGlobal_ev _ _ (hlen i hi)) ?_
      cases h1 : glR sz (F.getD i [])
      · refine Ev.no (by simp) ?_
        rw [fsB_no hi (by rw [hok, h1, Bool.false_and])]
        exact Ev.now _
      rw [h1, Bool.true_and] at hok
      refine Ev.yes rfl ?_
      by_cases h0 : i = 0
      · refine Ev.no (by omega) (ih () (hnext ?_))
        rw [hok, decide_eq_true h0, Bool.true_or]
      · have hw1 : wrap64 ((i : Int) - 1) = ((i - 1 : Nat) : Int) := by rw [w64 (by omega) (by omega)]; omega
        rw [decide_eq_false h0, Bool.false_or] at hok
        rw [hw1, hg]
        refine Ev.yes (by omega) (Ev.yes (by omega) (Ev.yes (by omega) (Ev.bind (compare_ev _ _ (by have := hlen (i - 1) (by omega); omega)) ?_)))
        by_cases h5 : cmpL (F.getD (i - 1) []) (F.getD i []) ≥ 0
        · refine Ev.yes h5 ?_
          rw [fsB_no hi (by rw [hok]; exact decide_eq_false (by omega))]
          exact Ev.now _
        · exact Ev.no h5 (ih () (hnext (by rw [hok]; exact decide_eq_true (by omega)))))
  have := key 0 () (by omega) (fun j hj => absurd hj (by omega))
  simpa using this
theorem spec_As_ev {a sz c : List Int} {J : List JT} {F : List (List Int)} (S : Sm a sz c J F) : Ev (fun k => spec_IsAsynchronous.f k a sz c J F) (asB a sz c J F) := by
  have hsz := S.nsz
  unfold spec_IsAsynchronous.f asB
  refine Ev.bind (spPl_ev sz.length a S.na S.nsz) ?_
  cases hp : arPl sz.length a
  · exact Ev.no (by simp) (Ev.now _)
  refine Ev.yes rfl ?_
  rw [Bool.true_and]
  have hs := (place hp).1
  have tail : Ev (fun k => spec_IsAsynchronous.l0 k (sz.length : Int) a sz c J F) (glR sz c && (jsB a sz J && fsB sz F)) := by
    refine Ev.round ?_
    simp only [spec_IsAsynchronous.l0]
    refine Ev.no (by omega) (Ev.bind (spGlobal_ev a sz c J F c hs S.nc) ?_)
    have hno : Ev (fun k => spec_IsAsynchronous.j1 k true a sz c J F) false := Ev.round (by simp only [spec_IsAsynchronous.j1]; exact Ev.yes (by trivial) (Ev.now _))
    cases glR sz c
    · exact Ev.no (by simp) hno
    refine Ev.yes rfl (Ev.bind (spJoints_ev S hp) ?_)
    rw [Bool.true_and]
    cases jsB a sz J
    · exact hno
    refine Ev.round ?_
    simp only [spec_IsAsynchronous.j1]
    refine Ev.no (by simp) ?_
    rw [Bool.true_and]
    exact spF_ev S hs
  have key := Ev.up (fun k (_ : Unit) i => spec_IsAsynchronous.l0 k i a sz c J F) sz.length (fun i _ => ((sz.drop i).all fun t => inI t 1 4) && (glR sz c && (jsB a sz J && fsB sz F))) (fun _ _ => True)
    (fun _ _ => by
      rw [List.drop_length, List.all_nil, Bool.true_and]
      exact tail)
    (fun i _ hi _ ih => by
      refine Ev.round ?_
      simp only [spec_IsAsynchronous.l0]
      refine Ev.yes (by omega) (Ev.yes (by omega) (Ev.here (spInI _ _ _) ?_))
      rw [rd_lt hi, w64s (by omega), List.drop_eq_getElem_cons hi, List.all_cons]
      cases inI sz[i] 1 4
      · exact Ev.no (by simp) (Ev.now _)
      · refine Ev.yes rfl ?_
        rw [Bool.true_and]
        exact ih () trivial)
  have := key 0 () (by omega) trivial
  simpa using this
theorem impl_As_ev {a sz c : List Int} {J : List JT} {F : List (List Int)} (S : Sm a sz c J F) : Ev (fun k => impl_IsAsynchronous.f k a sz c J F) (asB a sz c J F) := by
  have hno : Ev (fun k => impl_IsAsynchronous.j0 k true a sz c J F) false := Ev.round (by simp only [impl_IsAsynchronous.j0]; exact Ev.yes (by trivial) (Ev.now _))
  unfold impl_IsAsynchronous.f asB
  refine Ev.here (show impl_length_int64_80.f sz = some (sz.length : Int) from rfl) (Ev.here (arePl_ev _ _) ?_)
  cases hp : arPl sz.length a
  · exact Ev.no (by simp) hno
  refine Ev.yes rfl (Ev.here (allIn_all _ _ _) ?_)
  rw [Bool.true_and]
  cases sz.all fun t => inI t 1 4
  · exact Ev.no (by simp) hno
  refine Ev.yes rfl (Ev.bind (isGlobal_ev _ _ S.nc) ?_)
  rw [Bool.true_and]
  cases glR sz c
  · exact Ev.no (by simp) hno
  refine Ev.yes rfl (Ev.bind (goodJoints_ev S hp) ?_)
  rw [Bool.true_and]
  cases jsB a sz J
  · exact Ev.no (by simp) hno
  refine Ev.yes rfl (Ev.round ?_)
  simp only [impl_IsAsynchronous.j0]
  rw [Bool.true_and]
  by_cases h : F.length ≤ 64
  · rw [decide_eq_false (show ¬ (F.length : Int) > 64 by omega)]
    exact Ev.no (by simp) (imF_ev S h)
  · rw [decide_eq_true (show (F.length : Int) > 64 by omega)]
    refine Ev.yes rfl ?_
    rw [show fsB sz F = false from by unfold fsB; rw [decide_eq_false h, Bool.false_and]]
    exact Ev.now _
/-- A joint as the program has it. -/
def toJ (x : JL) : JT := ⟨x.f0, x.f1, x.f2⟩
theorem toJoint_ev (x : JL) (h1 : x.f1.length ≤ 35184372088832) (h2 : x.f2.length ≤ 35184372088832) : Ev (fun k => laws_toJoint.f k x.f0 x.f1 x.f2) (x.f0, x.f1, x.f2) := by
  unfold laws_toJoint.f
  exact Ev.bind (toS _ h1) (Ev.bind (toS _ h2) (Ev.now _))
theorem toJS (J : List JL) (hn : J.length ≤ 1048576) (h1 : ∀ x ∈ J, x.f1.length ≤ 1048576) (h2 : ∀ x ∈ J, x.f2.length ≤ 1048576) : Ev (fun k => laws_toJointS.f k J) (J.map toJ) := by
  have key := Ev.up (fun k s i => laws_toJointS.l0 k J s i) J.length (fun _ _ => J.map toJ) (fun i s => s.length = J.length ∧ ∀ j, j < i → s[j]? = (J.map toJ)[j]?)
    (fun s ⟨h1, h2⟩ => by
      refine Ev.round ?_
      simp only [laws_toJointS.l0]
      refine Ev.no (by omega) ?_
      have : s = J.map toJ := List.ext_getElem? fun j => by
        by_cases hj : j < J.length
        · exact h2 j hj
        · rw [List.getElem?_eq_none (by omega), List.getElem?_eq_none (by rw [List.length_map]; omega)]
      rw [this]
      exact Ev.now _)
    (fun i s hi ⟨hl, hp⟩ ih => by
      refine Ev.round ?_
      simp only [laws_toJointS.l0]
      have hg : rd_T147 J (i : Int) = J[i] := by
        show J.getD i _ = _
        rw [List.getD_eq_getElem?_getD, List.getElem?_eq_getElem hi]; rfl
      rw [hg]
      have hm := List.getElem_mem hi
      refine Ev.yes (by omega) (Ev.yes (by omega) (Ev.bind (toJoint_ev _ (by have := h1 _ hm; omega) (by have := h2 _ hm; omega)) (Ev.yes (by omega) ?_)))
      rw [w64s (by omega)]
      refine ih _ ⟨by simp [hl], fun j hj => ?_⟩
      rw [Int.toNat_natCast]
      by_cases e : j = i
      · subst e
        rw [List.getElem?_set_self (by omega), List.getElem?_map, List.getElem?_eq_getElem hi]
        rfl
      · rw [List.getElem?_set_ne (by omega)]
        exact hp j (by omega))
  unfold laws_toJointS.f
  refine Ev.yes (by omega) (Ev.yes (by omega) ?_)
  have := key 0 (List.replicate J.length z149) (by omega) ⟨by simp, fun j hj => absurd hj (by omega)⟩
  simpa using this
theorem eqS1 (a : List Int) (hn : a.length ≤ 9223372036854775806) : Ev (fun k => laws_eqInt64S.f k a a) true := by
  have := eqS a a hn
  rw [decide_eq_true rfl] at this
  exact this
theorem eqJS (J : List JT) (hn : J.length ≤ 1048576) (h1 : ∀ x ∈ J, x.f1.length ≤ 1048576) (h2 : ∀ x ∈ J, x.f2.length ≤ 1048576) : Ev (fun k => laws_eqJointS.f k J J) true := by
  have key := Ev.up (fun k (_ : Unit) i => laws_eqJointS.l0 k J J i) J.length (fun _ _ => true) (fun _ _ => True)
    (fun _ _ => by
      refine Ev.round ?_
      simp only [laws_eqJointS.l0]
      exact Ev.no (by omega) (Ev.now _))
    (fun i _ hi _ ih => by
      refine Ev.round ?_
      simp only [laws_eqJointS.l0]
      rw [rdJ, w64s (by omega)]
      have a1 := h1 _ (jD_mem hi)
      have a2 := h2 _ (jD_mem hi)
      refine Ev.yes (by omega) (Ev.yes (by omega) (Ev.yes (by omega) ?_))
      refine Ev.bind (a := true) ?_ (Ev.yes rfl (ih () trivial))
      unfold laws_eqJoint.f
      exact Ev.yes rfl (Ev.bind (eqS1 _ (by omega)) (Ev.yes rfl (Ev.bind (eqS1 _ (by omega)) (Ev.yes rfl (Ev.now _))))))
  unfold laws_eqJointS.f
  refine Ev.yes rfl ?_
  have := key 0 () (by omega) trivial
  simpa using this
/-- What the laws count of joints. -/
def szJ (J : List JL) : Nat := J.length + (J.map fun x => x.f1.length + x.f2.length).sum
theorem szS_eq (l : List Int) (a : Nat) (hl : l.length ≤ maxLen) (ha : a ≤ 1048576) : laws_szInt64S.f l (a : Int) = some (if l.length ≤ a then ((a - l.length : Nat) : Int) else -1) := by
  unfold maxLen at hl
  unfold laws_szInt64S.f
  rw [w64 (by omega) (by omega)]
  by_cases h : l.length ≤ a
  · rw [if_neg (by omega), if_pos h]; congr 1; omega
  · rw [if_pos (by omega), if_neg h]
theorem szJoint_eq (x : JL) (a : Nat) (h1 : x.f1.length ≤ maxLen) (h2 : x.f2.length ≤ maxLen) (ha : a ≤ 1048576) :
    laws_szJoint.f x.f0 x.f1 x.f2 (a : Int) = some (if x.f1.length + x.f2.length ≤ a then ((a - (x.f1.length + x.f2.length) : Nat) : Int) else -1) := by
  unfold laws_szJoint.f
  rw [szS_eq _ _ h1 ha]
  simp only [Option.bind_some]
  by_cases e1 : x.f1.length ≤ a
  · rw [if_pos e1, if_neg (by omega), szS_eq _ _ h2 (by omega)]
    simp only [Option.bind_some]
    by_cases e2 : x.f2.length ≤ a - x.f1.length
    · rw [if_pos e2, if_neg (by omega), if_pos (by omega), Nat.sub_sub]
    · rw [if_neg e2, if_pos (by omega), if_neg (by omega)]
  · rw [if_neg e1, if_pos (by omega), if_neg (by omega)]
theorem szJS_ev (J : List JL) (hn : J.length ≤ maxLen) (h1 : ∀ x ∈ J, x.f1.length ≤ maxLen) (h2 : ∀ x ∈ J, x.f2.length ≤ maxLen) (a : Nat) (ha : a ≤ 1048576) :
    Ev (fun k => laws_szJointS.f k J a) (if szJ J ≤ a then ((a - szJ J : Nat) : Int) else -1) := by
  have hn' := hn
  unfold maxLen at hn'
  have key := Ev.up (fun k (s : Nat) i => laws_szJointS.l0 k J (s : Int) i) J.length
    (fun i s => if ((J.drop i).map fun x => x.f1.length + x.f2.length).sum ≤ s then ((s - ((J.drop i).map fun x => x.f1.length + x.f2.length).sum : Nat) : Int) else -1) (fun _ s => s ≤ 1048576)
    (fun s hs => by
      refine Ev.round ?_
      simp only [laws_szJointS.l0]
      refine Ev.no (by omega) ?_
      simp only [List.drop_length, List.map_nil, List.sum_nil, Nat.zero_le, if_true, Nat.sub_zero]
      exact Ev.now _)
    (fun i s hi hs ih => by
      refine Ev.round ?_
      simp only [laws_szJointS.l0]
      have hg : rd_T147 J (i : Int) = J[i] := by
        show J.getD i _ = _
        rw [List.getD_eq_getElem?_getD, List.getElem?_eq_getElem hi]; rfl
      have hm := List.getElem_mem hi
      rw [hg, w64s (by omega)]
      refine Ev.yes (by omega) (Ev.yes (by omega) (Ev.here (szJoint_eq _ _ (h1 _ hm) (h2 _ hm) hs) ?_))
      rw [List.drop_eq_getElem_cons hi, List.map_cons, List.sum_cons]
      generalize J[i].f1.length + J[i].f2.length = q
      generalize hS : ((J.drop (i + 1)).map fun x => x.f1.length + x.f2.length).sum = T at ih
      by_cases h : q ≤ s
      · rw [if_pos h]
        refine Ev.no (by omega) ?_
        have := ih (s - q) (by omega)
        by_cases h2 : T ≤ s - q
        · rw [if_pos h2] at this
          rw [if_pos (by omega), show s - (q + T) = s - q - T from by omega]
          exact this
        · rw [if_neg h2] at this
          rw [if_neg (by omega)]
          exact this
      · rw [if_neg h]
        refine Ev.yes (by omega) ?_
        rw [if_neg (by omega)]
        exact Ev.now _)
  unfold laws_szJointS.f szJ
  rw [w64 (n := (a : Int) - (J.length : Int)) (by omega) (by omega)]
  by_cases h : J.length ≤ a
  · refine Ev.no (by omega) ?_
    have := key 0 (a - J.length) (by omega) (by omega)
    rw [show ((a - J.length : Nat) : Int) = (a : Int) - (J.length : Int) from by omega, List.drop_zero] at this
    generalize (J.map fun x => x.f1.length + x.f2.length).sum = T at this ⊢
    by_cases h2 : T ≤ a - J.length
    · rw [if_pos h2] at this
      rw [if_pos (by omega), show a - (J.length + T) = a - J.length - T from by omega]
      exact this
    · rw [if_neg h2] at this
      rw [if_neg (by omega)]
      exact this
  · refine Ev.yes (by omega) ?_
    rw [if_neg (by omega)]
    exact Ev.now _
theorem le_szJ {J : List JL} {x : JL} (h : x ∈ J) : x.f1.length + x.f2.length ≤ szJ J := by
  unfold szJ
  have : x.f1.length + x.f2.length ∈ J.map fun x => x.f1.length + x.f2.length := List.mem_map.2 ⟨x, h, rfl⟩
  have := le_sum this
  omega
theorem FnExactIsAsynchronous : ∀ (l0_0 : List Int) (l0_1 : List Int) (l0_2 : List Int) (l0_3 : List (JL)) (l0_4 : List (List Int)), (l0_0.length ≤ maxLen ∧ ∀ x0 ∈ l0_0, (Lit.int .i64 x0).wf = true) → (l0_1.length ≤ maxLen ∧ ∀ x1 ∈ l0_1, (Lit.int .i64 x1).wf = true) → (l0_2.length ≤ maxLen ∧ ∀ x2 ∈ l0_2, (Lit.int .i64 x2).wf = true) → (l0_3.length ≤ maxLen ∧ ∀ x3 ∈ l0_3, okT147 x3) → (l0_4.length ≤ maxLen ∧ ∀ x4 ∈ l0_4, x4.length ≤ maxLen ∧ ∀ x5 ∈ x4, (Lit.int .i64 x5).wf = true) → ∃ k, laws_FnExactIsAsynchronous.f k l0_0 l0_1 l0_2 l0_3 l0_4 = some true := by
  intro a sz c J F ha hsz hc hJ hF
  have hJ1 : ∀ x ∈ J, x.f1.length ≤ maxLen := fun x hx => (hJ.2 x hx).2.1.1
  have hJ2 : ∀ x ∈ J, x.f2.length ≤ maxLen := fun x hx => (hJ.2 x hx).2.2.1
  apply Ev.rounds
  unfold laws_FnExactIsAsynchronous.f
  have hS : Ev (fun k => laws_szAsynchronous.f k a sz c J F 1048576) (if a.length + sz.length + c.length + szJ J + sz2 F ≤ 1048576 then ((1048576 - (a.length + sz.length + c.length + szJ J + sz2 F) : Nat) : Int) else -1) := by
    unfold laws_szAsynchronous.f
    refine Ev.here (szS_eq a 1048576 ha.1 (by omega)) ?_
    rcases Nat.lt_or_ge 1048576 a.length with h | h
    · rw [if_neg (by omega), if_neg (by omega)]; exact Ev.yes (by omega) (Ev.now _)
    rw [if_pos h]
    refine Ev.no (by omega) (Ev.here (szS_eq sz _ hsz.1 (by omega)) ?_)
    rcases Nat.lt_or_ge (1048576 - a.length) sz.length with h | h
    · rw [if_neg (by omega), if_neg (by omega)]; exact Ev.yes (by omega) (Ev.now _)
    rw [if_pos h]
    refine Ev.no (by omega) (Ev.here (szS_eq c _ hc.1 (by omega)) ?_)
    rcases Nat.lt_or_ge (1048576 - a.length - sz.length) c.length with h | h
    · rw [if_neg (by omega), if_neg (by omega)]; exact Ev.yes (by omega) (Ev.now _)
    rw [if_pos h]
    refine Ev.no (by omega) (Ev.bind (szJS_ev J hJ.1 hJ1 hJ2 _ (by omega)) ?_)
    rcases Nat.lt_or_ge (1048576 - a.length - sz.length - c.length) (szJ J) with h | h
    · rw [if_neg (by omega), if_neg (by omega)]; exact Ev.yes (by omega) (Ev.now _)
    rw [if_pos h]
    refine Ev.no (by omega) (Ev.bind (szSS F hF.1 (fun x hx => (hF.2 x hx).1) _ (by omega)) ?_)
    rcases Nat.lt_or_ge (1048576 - a.length - sz.length - c.length - szJ J) (sz2 F) with h | h
    · rw [if_neg (show ¬ sz2 F ≤ 1048576 - a.length - sz.length - c.length - szJ J by omega), if_neg (show ¬ a.length + sz.length + c.length + szJ J + sz2 F ≤ 1048576 by omega)]; exact Ev.yes (by omega) (Ev.now _)
    rw [if_pos h, if_pos (show a.length + sz.length + c.length + szJ J + sz2 F ≤ 1048576 by omega), show 1048576 - (a.length + sz.length + c.length + szJ J + sz2 F) = 1048576 - a.length - sz.length - c.length - szJ J - sz2 F by omega]
    exact Ev.no (by omega) (Ev.now _)
  refine Ev.bind hS ?_
  rcases Nat.lt_or_ge 1048576 (a.length + sz.length + c.length + szJ J + sz2 F) with h | h
  · rw [if_neg (by omega)]; exact Ev.yes (by omega) (Ev.now _)
  rw [if_pos h]
  have hJl : J.length ≤ szJ J := by unfold szJ; omega
  have hFl : F.length ≤ sz2 F := by unfold sz2; omega
  have S : Sm a sz c (J.map toJ) F := by
    refine ⟨by omega, by omega, by omega, by rw [List.length_map]; omega, fun x hx => ?_, fun x hx => ?_, by omega, fun x hx => by have := le_sz2 hx; omega⟩
    · obtain ⟨y, hy, rfl⟩ := List.mem_map.1 hx
      have := le_szJ hy
      show y.f1.length ≤ _
      omega
    · obtain ⟨y, hy, rfl⟩ := List.mem_map.1 hx
      have := le_szJ hy
      show y.f2.length ≤ _
      omega
  have hto : Ev (fun k => laws_toAsynchronous.f k a sz c J F) (a, sz, c, J.map toJ, F) := by
    unfold laws_toAsynchronous.f
    exact Ev.bind (toS a (by omega)) (Ev.bind (toS sz (by omega)) (Ev.bind (toS c (by omega)) (Ev.bind (toJS J (by omega) (fun x hx => by have := le_szJ hx; omega) (fun x hx => by have := le_szJ hx; omega)) (Ev.bind (toSS F S.nF S.nF1) (Ev.now _)))))
  refine Ev.no (by omega) (Ev.bind hto (Ev.bind (spec_As_ev S) (Ev.bind hto (Ev.bind (impl_As_ev S) (Ev.no (by simp) (Ev.bind hto (Ev.bind (a := true) ?_ (Ev.yes rfl (Ev.now _)))))))))
  have he : Ev (fun k => laws_eqInt64SS.f k F F) true := by
    have := eqSS F F (by have := S.nF; omega) (fun x hx => by have := S.nF1 x hx; omega)
    rw [decide_eq_true rfl] at this
    exact this
  unfold laws_eqAsynchronous.f
  exact Ev.bind (eqS1 a (by omega)) (Ev.yes rfl (Ev.bind (eqS1 sz (by omega)) (Ev.yes rfl (Ev.bind (eqS1 c (by omega)) (Ev.yes rfl (Ev.bind (eqJS _ S.nJ S.nJ1 S.nJ2) (Ev.yes rfl (Ev.bind he (Ev.yes rfl (Ev.now _))))))))))
end Go.Proofs.YthbaocejgjpfoaaDoor.Pure
end M0
section M1
namespace Go.Proofs.YthbaocejgjpfoaaDoor.fnExactIsAsynchronous
open Go.ChangeShapes Go.WideShapes Go.ChangeAt Go.RowKit Go.Lib Go.Joins Go.Proofs.YthbaocejgjpfoaaDoor.P Go.Proofs.YthbaocejgjpfoaaDoor.Op Go.Proofs.YthbaocejgjpfoaaDoor.Sh Go.Proofs.YthbaocejgjpfoaaDoorW.PrintWords Go.Proofs.YthbaocejgjpfoaaDoorW.PrintLast
open Go.ChangeMaps (open_string shut_string)
set_option linter.unusedVariables false
set_option linter.unusedSimpArgs false
theorem own : ownKnob Tryd.prog.godebug = none := by kernel_rfl
theorem laidOut : laidOutB Tryd.prog = true := by kernel_rfl
theorem gTab : Tryd.prog.globalNamed "math/bits.deBruijn64tab" = some 0 := by kernel_rfl
theorem gTabType : (Tryd.prog.globals[0]?).map (·.type) = some 191 := by kernel_rfl
theorem cellsT : Tryd.prog.cellsOf 191 = 64 := by kernel_rfl
theorem cellsE : Tryd.prog.cellsOf 5 = 1 := by kernel_rfl
def tabL : List Int := [0, 1, 56, 2, 57, 49, 28, 3, 61, 58, 42, 50, 38, 29, 17, 4, 62, 47, 59, 36, 45, 43, 51, 22, 53, 39, 33, 30, 24, 18, 12, 5, 63, 55, 48, 27, 60, 41, 37, 16, 46, 35, 44, 21, 52, 32, 23, 11, 54, 26, 40, 15, 34, 20, 31, 10, 25, 14, 19, 9, 13, 8, 7, 6]
theorem tabL_eq : tabL = Lib.deBruijn64tab.map (fun (n : Nat) => (n : Int)) := rfl
theorem table {W : World} (h : laidMetH Tryd.prog Rows.fnExactIsAsynchronousRow.laid W) : Lib.TabIs Tryd.prog W "math/bits.deBruijn64tab" .u8 tabL :=
  Lib.tabIs_of_head (rest := []) gTab gTabType Tryd.underlying191 Tryd.underlying5 cellsE cellsT h
theorem tab {W : World} (h : laidMetH Tryd.prog Rows.fnExactIsAsynchronousRow.laid W) : Tab W := fun j hj => by
  have h1 := (table h).cell gTab j (by rw [tabL_eq, List.length_map]; exact hj)
  rw [h1, tabL_eq]
  congr 2
  simp only [List.getD_eq_getElem?_getD, List.getElem?_map, List.getElem?_eq_getElem hj, Option.map_some, Option.getD_some, List.getElem_map]
set_option maxRecDepth 100000 in
theorem contract (H : Type) (enc : TypeId × Value → H) (W : World) (base : Nat) (args : Array Value) (ds gs : List (DataW H)) (before : List MemPlace)
    (hval0 : ∀ (j : Nat) t v, Tryd.f7.params[j]? = some t → args[j]? = some v → Value.okWide Tryd.prog W .any base t v)
    (hW : DataW.Whole enc Tryd.prog Tryd.f7.params.toList Rows.fnExactIsAsynchronousSpec.vars false W args.toList ds gs before) (hL : laidMetH Tryd.prog Rows.fnExactIsAsynchronousRow.laid W) :
    Calls Tryd.prog 7 args W fun e W' => ∃ v, e = .returned v ∧ Rows.fnExactIsAsynchronousSpec.post enc Tryd.prog Tryd.f7 false true false false W args v W' := by
  have hTab := tab hL
  clear hL
  have hval : ∀ (j : Nat) t v, Tryd.f7.params[j]? = some t → args[j]? = some v → Value.okWide Tryd.prog W .any base t v := hval0
  have hW' := hW
  obtain ⟨p, q, hA0, hV, rfl, hfz, hnd⟩ := hW
  have hA : DataW.TrodAll enc Tryd.prog W 0 (fun _ => true) true Tryd.f7.params.toList args.toList ds p := hA0
  rw [Tryd.params7] at hA hval
  obtain ⟨v0, vs0, d0, ds0, p0, q0, hargs, rfl, rfl, h0, r0⟩ := trodAll_cons hA
  obtain ⟨rfl, rfl, rfl⟩ := trodAll_nil r0
  obtain rfl : args = #[v0] := by cases args; simp_all
  obtain ⟨rfl, rfl⟩ := trodVars_none hV
  have k0 := h0
  have lt0 : ∀ x ∈ p0, x.block < W.heap.size := by obtain ⟨m, hm⟩ := k0; exact DataW.trod_lt m _ _ _ hm
  obtain ⟨c00, c01, c02, c03, c04, y00, y01, y02, y03, y04, m0, rfl, _, _, t00, t01, t02, t03, t04⟩ := open_agg5 Tryd.underlying60 (by kernel_rfl) (by kernel_rfl) (hval 0 60 v0 rfl rfl) h0
  obtain ⟨A0_0, c0_0, l0_0, rfl, hc0_0, hr0_0, w0_0⟩ := open_row t00 (opens_slice Tryd.underlying22 (by kernel_rfl) (opens_int Tryd.underlying2))
  obtain ⟨A0_1, c0_1, l0_1, rfl, hc0_1, hr0_1, w0_1⟩ := open_row t01 (opens_slice Tryd.underlying22 (by kernel_rfl) (opens_int Tryd.underlying2))
  obtain ⟨A0_2, c0_2, l0_2, rfl, hc0_2, hr0_2, w0_2⟩ := open_row t02 (opens_slice Tryd.underlying22 (by kernel_rfl) (opens_int Tryd.underlying2))
  obtain ⟨A0_3, c0_3, l0_3, rfl, hc0_3, hr0_3, w0_3⟩ := open_row t03 (opens_slice Tryd.underlying58 (by kernel_rfl) opensT147)
  obtain ⟨A0_4, c0_4, l0_4, rfl, hc0_4, hr0_4, w0_4⟩ := open_row t04 (opens_slice Tryd.underlying25 (by kernel_rfl) (opens_slice Tryd.underlying22 (by kernel_rfl) (opens_int Tryd.underlying2)))
  clear hA0 hval0
  obtain ⟨k, hk⟩ := Pure.FnExactIsAsynchronous l0_0 l0_1 l0_2 l0_3 l0_4 w0_0 w0_1 w0_2 w0_3 w0_4
  refine (laws_FnExactIsAsynchronous.calls k A0_0 c0_0 l0_0 A0_1 c0_1 l0_1 A0_2 c0_2 l0_2 A0_3 c0_3 l0_3 A0_4 c0_4 l0_4 true W hr0_0 hc0_0 hr0_1 hc0_1 hr0_2 hc0_2 hr0_3 hc0_3 hr0_4 hc0_4 hk rfl hTab).mono fun e W' ⟨he, bel0⟩ => ?_
  have bel : Below W.heap.size W W' := bel0
  subst he
  exact ⟨_, rfl, _, _, _, [], _, [], hW', trodAll_mk1 (shut_bool Tryd.underlying4 _), (trodAll_cons_mk (Below.trod laidOut (by kernel_rfl) (of_decide_eq_true (by kernel_rfl)) k0 bel lt0) trodAll_mk0), rfl, bel.frame _, fun h => by cases h⟩
noncomputable def laidWorld (os : Os) : World :=
  { World.holding Tryd.prog os ⟨#[], #[], []⟩ with heap := (World.holding Tryd.prog os ⟨#[], #[], []⟩).heap.modify 0 fun
      | .cells _ t frozen => .cells #[.int .u8 0, .int .u8 1, .int .u8 56, .int .u8 2, .int .u8 57, .int .u8 49, .int .u8 28, .int .u8 3, .int .u8 61, .int .u8 58, .int .u8 42, .int .u8 50, .int .u8 38, .int .u8 29, .int .u8 17, .int .u8 4, .int .u8 62, .int .u8 47, .int .u8 59, .int .u8 36, .int .u8 45, .int .u8 43, .int .u8 51, .int .u8 22, .int .u8 53, .int .u8 39, .int .u8 33, .int .u8 30, .int .u8 24, .int .u8 18, .int .u8 12, .int .u8 5, .int .u8 63, .int .u8 55, .int .u8 48, .int .u8 27, .int .u8 60, .int .u8 41, .int .u8 37, .int .u8 16, .int .u8 46, .int .u8 35, .int .u8 44, .int .u8 21, .int .u8 52, .int .u8 32, .int .u8 23, .int .u8 11, .int .u8 54, .int .u8 26, .int .u8 40, .int .u8 15, .int .u8 34, .int .u8 20, .int .u8 31, .int .u8 10, .int .u8 25, .int .u8 14, .int .u8 19, .int .u8 9, .int .u8 13, .int .u8 8, .int .u8 7, .int .u8 6] t frozen
      | o => o }
theorem laid_met (os : Os) : laidMet Tryd.prog Rows.fnExactIsAsynchronousRow.laid ((laidWorld os).forCall (fun _ _ => 0) ⟨#[], #[.agg #[.slice none 0 0, .slice none 0 0, .slice none 0 0, .slice none 0 0, .slice none 0 0]], []⟩).memory :=
  laidMet_of_run' 8 (by kernel_rfl) (by kernel_rfl)
theorem reads (os : Os) {H : Type} (enc : TypeId × Value → H) : ∃ places, DataW.whole enc Tryd.prog ((laidWorld os).forCall (fun _ _ => 0) ⟨#[], #[.agg #[.slice none 0 0, .slice none 0 0, .slice none 0 0, .slice none 0 0, .slice none 0 0]], []⟩).memory Tryd.f7.params.toList Rows.fnExactIsAsynchronousSpec.vars false (#[.agg #[.slice none 0 0, .slice none 0 0, .slice none 0 0, .slice none 0 0, .slice none 0 0]] : Array Value).toList 8 = some ([.agg [.nil, .nil, .nil, .nil, .nil]], [], places) :=
  ⟨[], by kernel_rfl⟩
set_option maxRecDepth 100000 in
theorem lifted (os : Os) (started : os.Started) (H : Type) (enc : TypeId × Value → H) (F : Stop.Interp) :
    ReturnsInHanded {} Tryd.checked os 7 .any ((OpenSpec.ofChange Rows.fnExactIsAsynchronousSpec).preRow enc Tryd.prog Tryd.f7 Rows.fnExactIsAsynchronousRow.domain false Rows.fnExactIsAsynchronousRow.laid) (((OpenSpec.ofChange Rows.fnExactIsAsynchronousSpec).at F).post enc Tryd.prog Tryd.f7 false true false false) := by
  obtain ⟨places, hx⟩ := reads os enc
  refine returnsInHanded_of_row (C := Tryd.checked) (s := OpenSpec.ofChange Rows.fnExactIsAsynchronousSpec) own started (by kernel_rfl) Tryd.func7
    (witness_row_at (enc := enc) (C := Tryd.checked) false (laidWorld os) #[.agg #[.slice none 0 0, .slice none 0 0, .slice none 0 0, .slice none 0 0, .slice none 0 0]] rfl (by kernel_rfl) (by kernel_rfl) (by kernel_rfl)
      (OpenSpec.preRow_of_cond 8 hx (by kernel_rfl) (fun k hk => by cases hk) (by kernel_rfl) (laid_met os))) ?_
  intro W base args ds gs before hval hW _ _ _ hL _ _
  exact contract H enc W base args ds gs before hval hW hL
theorem said : Rows.FnExactIsAsynchronousSaid :=
  OpenClaim.holds_of_cond 7 Tryd.f7 rfl rfl rfl rfl rfl rfl rfl ⟨rfl, rfl, rfl, rfl, rfl⟩ rfl rfl rfl rfl rfl (by kernel_rfl) Tryd.func7 (by kernel_rfl)
    (of_decide_eq_true (by kernel_rfl)) (by unfold Func.isWrapper; first | (rw [if_pos (by decide +kernel)]; kernel_rfl) | (rw [if_neg (by decide +kernel)]; exact ⟨rfl, rfl⟩))
    (fun os started H enc _ F => by rw [OpenClaim.pre_eq_preRow]; exact lifted os started H enc F)
theorem plain (f : FuncId) (fn : Func) (hf : Tryd.pinned.checked.prog.funcNamed "loop.example/g01094/laws.FnExactIsAsynchronous" = some f) (hfn : Tryd.pinned.checked.prog.funcs[f]? = some fn) :
    false = Tryd.pinned.checked.prog.looks [] ∧ ∀ (j : Nat) t, fn.params[j]? = some t → Tryd.pinned.checked.prog.wantsStandIn t = false := by
  obtain rfl : f = 7 := Option.some.inj ((show Tryd.prog.funcNamed "loop.example/g01094/laws.FnExactIsAsynchronous" = some 7 by kernel_rfl).symm.trans hf) |>.symm
  obtain rfl : fn = Tryd.f7 := (Option.some.inj (Tryd.func7.symm.trans hfn)).symm
  refine ⟨by kernel_rfl, fun j t ht => ?_⟩
  rw [Tryd.params7] at ht
  have hm := Array.mem_of_getElem? ht
  simp only [List.mem_toArray, List.mem_cons, List.not_mem_nil, or_false] at hm
  rcases hm with rfl
  · exact (show Tryd.prog.wantsStandIn 60 = false by kernel_rfl)
theorem card : Rows.FnExactIsAsynchronousCardSaid :=
  Claim7.holds_tied_plain_at .later [] _ _ _ _ said (fun _ h => by cases h) (by kernel_rfl) (fun _ h => by cases h) fnExactIsAsynchronous_row_tie rfl ⟨rfl, rfl⟩ (by kernel_rfl) rfl plain (by kernel_rfl)
#print axioms card
end Go.Proofs.YthbaocejgjpfoaaDoor.fnExactIsAsynchronous
namespace Go.Proofs.YthbaocejgjpfoaaDoor
/-- The card, under a short name, for the claim. -/
theorem fnExactIsAsynchronous_holds : Rows.FnExactIsAsynchronousCardSaid := fnExactIsAsynchronous.card
end Go.Proofs.YthbaocejgjpfoaaDoor
end M1
