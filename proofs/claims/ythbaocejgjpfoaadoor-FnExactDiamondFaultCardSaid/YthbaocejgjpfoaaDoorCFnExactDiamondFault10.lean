/- For every alphabet and every automaton given as numbers and rows, the program's DiamondFault answers what the reference's answers, leaves its arguments as they were and hands out a row of its own. No condition. -/
import Derived.ArgAppend
import Derived.Below
import Derived.BigQuiet
import Derived.ChangeOld
import Derived.ChangeSame
import Derived.ChangeShapes
import Derived.Deep.AppendLies
import Derived.Deep.CutBlock
import Derived.Deep.DeepCutAuto
import Derived.Deep.DeepHandedRow
import Derived.Deep.Draws
import Derived.Deep.LoopGhost
import Derived.Deep.OwnRows
import Derived.Deep.QuietTactic
import Derived.Deep.RegionHeld3
import Derived.Deep.Slices
import Derived.Deep.Strs
import Derived.KernelRfl
import Derived.Laws.BitsLemmas
import Derived.Laws.BytesArg
import Derived.Laws.IdiomCopy
import Derived.Laws.MakeOwn
import Derived.Laws.OwnMore
import Derived.Laws.Rows
import Derived.Laws.Slices
import Derived.Laws.StructEq
import Derived.Lib.AppendStr
import Derived.Lib.ConvBytes
import Derived.Lib.LaidTab
import Derived.Lib.SliceRun
import Derived.Lib.SmallJoins
import Derived.Maps.AppendAt
import Derived.OpenShut
import Derived.OrdersHeld
import Derived.OwnWalk
import Derived.ProofKit
import Derived.RowKit
import Derived.RowKit3
import Derived.Shelf.Abstract
import Derived.Shelf.Spec.TrailingZeros
import Derived.ShutString
import Derived.SizedLaws
import Derived.Tactics
import Derived.Test.YthbaocejgjpfoaaDoorCards
import Derived.Test.YthbaocejgjpfoaaDoorChecked
import Derived.Test.YthbaocejgjpfoaaDoorProg
import Derived.Test.YthbaocejgjpfoaaDoorTie
import Derived.WalkKit
import Derived.WideLaws
import Derived.Test.YthbaocejgjpfoaaDoorCFnExactDiamondFault0
import Derived.Test.YthbaocejgjpfoaaDoorCFnExactDiamondFault1
import Derived.Test.YthbaocejgjpfoaaDoorCFnExactDiamondFault2
import Derived.Test.YthbaocejgjpfoaaDoorCFnExactDiamondFault3
import Derived.Test.YthbaocejgjpfoaaDoorCFnExactDiamondFault4
import Derived.Test.YthbaocejgjpfoaaDoorCFnExactDiamondFault5
import Derived.Test.YthbaocejgjpfoaaDoorCFnExactDiamondFault6
import Derived.Test.YthbaocejgjpfoaaDoorCFnExactDiamondFault7
import Derived.Test.YthbaocejgjpfoaaDoorCFnExactDiamondFault8
import Derived.Test.YthbaocejgjpfoaaDoorCFnExactDiamondFault9
section M0
namespace Go.Proofs.YthbaocejgjpfoaaDoor.Op
open Go.RowKit Go.Proofs.YthbaocejgjpfoaaDoorW.PrintWords Go.Proofs.YthbaocejgjpfoaaDoorW.PrintLast Go.Proofs.YthbaocejgjpfoaaDoorW.PrintMore
/-- What is read at type t lies in memory as kind d says. -/
def Opens {α : Type} (P : Program) (t : TypeId) (d : Kd α) (ok : α → Prop) : Prop :=
  ∀ (H : Type) (enc : TypeId × Value → H) (w : World) (base : Nat) (held : Bool) (fuel : Nat) (cs : List Value) (x : DataW H × List MemPlace),
    DataW.trod enc P w base (fun _ => true) held fuel t cs = some x → ∃ a, d.K w a cs ∧ ok a
theorem opens_int {P : Program} {t : TypeId} {k : IntKind} (ht : P.underlying t = some (.int k)) : Opens P t (Kd.int k) (fun n => (Lit.int k n).wf = true) := by
  intro H enc w base held fuel cs x h
  obtain ⟨n, rfl, _, hw⟩ := DataW.trod_int ht h
  exact ⟨n, rfl, hw⟩
theorem opens_slice {α : Type} {P : Program} {t e : TypeId} {d : Kd α} {ok : α → Prop} (ht : P.underlying t = some (.slice e)) (hc : P.cellsOf e = d.sz) (he : Opens P e d ok) :
    Opens P t (Kd.slice e d) (fun xs => xs.length ≤ maxLen ∧ ∀ x ∈ xs, ok x) := by
  intro H enc w base held fuel cs x h
  rcases DataW.trod_slice ht h with ⟨rfl, _⟩ | ⟨a, len, cap, elems, rest, n, _, rfl, _, hb, hl, hm, hlen, hel, _, _⟩
  · exact ⟨[], ⟨none, 0, rfl, Nat.le_refl _, rfl, by simp, fun h => absurd h (by simp)⟩, by simp, by simp⟩
  · have each : ∀ i, i < len → ∃ y : α × List Value, y.2.length = d.sz ∧ d.K w y.1 y.2 ∧ ok y.1 ∧ ∀ j u, y.2[j]? = some u → w.cell? (a.add (i * d.sz + j)) = some u := by
      intro i hi
      have h1 := hel i hi
      rw [List.getElem?_eq_getElem (by omega), Option.bind_eq_some_iff] at h1
      obtain ⟨cs', h2, h3⟩ := h1
      obtain ⟨y, hk, ho⟩ := he _ _ _ _ _ _ _ _ h3
      obtain ⟨_, h5, h6⟩ := World.cells?_some h2
      refine ⟨(y, cs'), h5.trans hc, hk, ho, fun j u hj => ?_⟩
      have hjl : j < P.cellsOf e := by rw [← h5]; exact (List.getElem?_eq_some_iff.1 hj).1
      have h7 := h6 j hjl
      rw [hj, hc] at h7
      rw [← Addr.add_add]
      exact h7
    have hy := fun i : Fin len => Classical.choose_spec (each i.1 i.2)
    generalize hY : (fun i : Fin len => Classical.choose (each i.1 i.2)) = y at hy
    have hy' : ∀ i : Fin len, (y i).2.length = d.sz ∧ d.K w (y i).1 (y i).2 ∧ ok (y i).1 ∧ ∀ j u, (y i).2[j]? = some u → w.cell? (a.add (i.1 * d.sz + j)) = some u := by
      intro i; rw [← hY]; exact hy i
    clear hy hY
    have hln : (List.ofFn fun i => (y i).1).length = len := by simp
    refine ⟨List.ofFn fun i => (y i).1, ⟨some a, cap, by rw [hln], by rw [hln]; exact hl, ?_⟩, by rw [hln]; omega, ?_⟩
    · refine ⟨rfl, by rw [hln]; unfold maxLen at hm; omega, fun _ => ⟨a, rfl, fun j p hj => ?_⟩⟩
      have hjl : j < len := by rw [← hln]; exact (List.getElem?_eq_some_iff.1 hj).1
      rw [List.getElem?_ofFn, dif_pos hjl, Option.some.injEq] at hj
      subst hj
      obtain ⟨q1, q2, _, q4⟩ := hy' ⟨j, hjl⟩
      exact ⟨(y ⟨j, hjl⟩).2, q1, q2, fun i u hi => q4 i u hi⟩
    · intro x hx
      rw [List.mem_ofFn] at hx
      obtain ⟨i, rfl⟩ := hx
      exact (hy' i).2.2.1
/-- An argument that is a slice. -/
theorem open_row {α : Type} {P : Program} {t e : TypeId} {d : Kd α} {ok : List α → Prop} {H : Type} {enc : TypeId × Value → H} {w : World} {base fuel : Nat} {held : Bool} {v : Value} {x : DataW H × List MemPlace}
    (h : DataW.trod enc P w base (fun _ => true) held fuel t [v] = some x) (hs : Opens P t (Kd.slice e d) ok) : ∃ A c xs, v = .slice A xs.length c ∧ xs.length ≤ c ∧ d.C w A xs.length xs ∧ ok xs := by
  obtain ⟨xs, ⟨A, c, hv, hl, hr⟩, ho⟩ := hs _ _ _ _ _ _ _ _ h
  exact ⟨A, c, xs, by simpa using hv, hl, hr, ho⟩
end Go.Proofs.YthbaocejgjpfoaaDoor.Op
end M0
section M1
namespace Go.Proofs.YthbaocejgjpfoaaDoor.U
open Go.RowKit Go.Proofs.YthbaocejgjpfoaaDoorW.PrintWords Go.Proofs.YthbaocejgjpfoaaDoorW.PrintLast
set_option linter.unusedVariables false
/-! Small laws of numbers and lists for the plain part: what a printed loop comes to. -/
theorem w64 {n : Int} (h0 : -9223372036854775808 ≤ n) (h1 : n ≤ 9223372036854775807) : wrap64 n = n := by unfold wrap64; omega
theorem w64s {n : Nat} (h : n < 9223372036854775807) : wrap64 ((n : Int) + 1) = ((n + 1 : Nat) : Int) := by unfold wrap64; omega
theorem rdn (l : List Int) (i : Nat) : rd l (i : Int) = l.getD i 0 := rfl
theorem rd_lt {l : List Int} {i : Nat} (h : i < l.length) : rd l (i : Int) = l[i] := by
  show l.getD i 0 = _; rw [List.getD_eq_getElem?_getD, List.getElem?_eq_getElem h]; rfl
theorem rdOf_lt {α : Type} {d : α} {l : List α} {i : Nat} (h : i < l.length) : rdOf d l (i : Int) = l[i] := by
  show l.getD i d = _; rw [List.getD_eq_getElem?_getD, List.getElem?_eq_getElem h]; rfl
theorem Ev.now' {α : Type} {g : Nat → Option α} {r : α} (h : ∀ k, g k = some r) : Ev g r := ⟨0, fun k _ => h k⟩
/-- One round more, the loop's own equation still to be unfolded. -/
theorem Ev.round {α : Type} {g : Nat → Option α} {r : α} (h : Ev (fun k => g (k + 1)) r) : Ev g r := by
  obtain ⟨K, h⟩ := h
  refine ⟨K + 1, fun n hn => ?_⟩
  obtain ⟨m, rfl⟩ : ∃ m, n = m + 1 := ⟨n - 1, by omega⟩
  exact h m (by omega)
theorem Ev.here {α β : Type} {g : Option α} {f : Nat → α → Option β} {a : α} {r : β} (h : g = some a) (k : Ev (fun n => f n a) r) : Ev (fun n => g.bind (f n)) r := by
  subst h; exact k
theorem Ev.yes {α : Type} {c : Prop} [Decidable c] {A B : Nat → Option α} {r : α} (h : c) (k : Ev A r) : Ev (fun n => if c then A n else B n) r := Ev.congr (fun _ => if_pos h) k
theorem Ev.no {α : Type} {c : Prop} [Decidable c] {A B : Nat → Option α} {r : α} (h : ¬ c) (k : Ev B r) : Ev (fun n => if c then A n else B n) r := Ev.congr (fun _ => if_neg h) k
/-- An upward loop over an index: what it comes to from i on, if what one round does is known. -/
theorem Ev.up {σ ρ : Type} (L : Nat → σ → Int → Option ρ) (n : Nat) (R : Nat → σ → ρ) (I : Nat → σ → Prop)
    (hend : ∀ s, I n s → Ev (fun k => L k s (n : Int)) (R n s))
    (hstep : ∀ i s, i < n → I i s → (∀ s', I (i + 1) s' → Ev (fun k => L k s' ((i + 1 : Nat) : Int)) (R (i + 1) s')) → Ev (fun k => L k s (i : Int)) (R i s)) :
    ∀ i s, i ≤ n → I i s → Ev (fun k => L k s (i : Int)) (R i s) := by
  intro i s hi hI
  obtain ⟨d, hd⟩ : ∃ d, n - i = d := ⟨_, rfl⟩
  induction d generalizing i s with
  | zero =>
    have : i = n := by omega
    subst this
    exact hend s hI
  | succ d ih => exact hstep i s (by omega) hI (fun s' h' => ih (i + 1) s' (by omega) h' (by omega))
/-- The rounds come to something that Q says. -/
def EvP {α : Type} (g : Nat → Option α) (Q : α → Prop) : Prop := ∃ r, Ev g r ∧ Q r
theorem EvP.mono {α : Type} {g : Nat → Option α} {Q Q' : α → Prop} (h : EvP g Q) (k : ∀ r, Q r → Q' r) : EvP g Q' := by
  obtain ⟨r, h, q⟩ := h; exact ⟨r, h, k r q⟩
theorem EvP.round {α : Type} {g : Nat → Option α} {Q : α → Prop} (h : EvP (fun k => g (k + 1)) Q) : EvP g Q := by
  obtain ⟨r, h, q⟩ := h; exact ⟨r, Ev.round h, q⟩
theorem EvP.yes {α : Type} {c : Prop} [Decidable c] {A B : Nat → Option α} {Q : α → Prop} (h : c) (k : EvP A Q) : EvP (fun n => if c then A n else B n) Q := by
  obtain ⟨r, k, q⟩ := k; exact ⟨r, Ev.yes h k, q⟩
theorem EvP.no {α : Type} {c : Prop} [Decidable c] {A B : Nat → Option α} {Q : α → Prop} (h : ¬ c) (k : EvP B Q) : EvP (fun n => if c then A n else B n) Q := by
  obtain ⟨r, k, q⟩ := k; exact ⟨r, Ev.no h k, q⟩
theorem EvP.here {α β : Type} {g : Option α} {f : Nat → α → Option β} {a : α} {Q : β → Prop} (h : g = some a) (k : EvP (fun n => f n a) Q) : EvP (fun n => g.bind (f n)) Q := by
  obtain ⟨r, k, q⟩ := k; exact ⟨r, Ev.here h k, q⟩
theorem EvP.bind {α β : Type} {g : Nat → Option α} {f : Nat → α → Option β} {a : α} {Q : β → Prop} (h : Ev g a) (k : EvP (fun n => f n a) Q) : EvP (fun n => (g n).bind (f n)) Q := by
  obtain ⟨r, k, q⟩ := k; exact ⟨r, Ev.bind h k, q⟩
theorem EvP.up {σ ρ : Type} (L : Nat → σ → Int → Option ρ) (Q : ρ → Prop) (n : Nat) (I : Nat → σ → Prop)
    (hend : ∀ s, I n s → EvP (fun k => L k s (n : Int)) Q)
    (hstep : ∀ i s, i < n → I i s → (∀ s', I (i + 1) s' → EvP (fun k => L k s' ((i + 1 : Nat) : Int)) Q) → EvP (fun k => L k s (i : Int)) Q) :
    ∀ i s, i ≤ n → I i s → EvP (fun k => L k s (i : Int)) Q := by
  intro i s hi hI
  obtain ⟨d, hd⟩ : ∃ d, n - i = d := ⟨_, rfl⟩
  induction d generalizing i s with
  | zero =>
    have : i = n := by omega
    subst this
    exact hend s hI
  | succ d ih => exact hstep i s (by omega) hI (fun s' h' => ih (i + 1) s' (by omega) h' (by omega))
end Go.Proofs.YthbaocejgjpfoaaDoor.U
end M1
section M2
namespace Go.Proofs.YthbaocejgjpfoaaDoor.U
open Go.RowKit Go.Proofs.YthbaocejgjpfoaaDoor.P Go.Proofs.YthbaocejgjpfoaaDoorW.PrintWords Go.Proofs.YthbaocejgjpfoaaDoorW.PrintLast
set_option linter.unusedVariables false
/-! What the law's own helpers come to: copies, equality, sizes. -/
theorem toS (x0 : List Int) (hn : x0.length ≤ 35184372088832) : Ev (fun k => laws_toInt64S.f k x0) x0 := by
  have key := Ev.up (fun k s i => laws_toInt64S.l0 k x0 s i) x0.length (fun _ _ => x0) (fun i s => s.length = x0.length ∧ ∀ j, j < i → s[j]? = x0[j]?)
    (fun s ⟨h1, h2⟩ => by
      refine Ev.round ?_
      simp only [laws_toInt64S.l0]
      refine Ev.no (by omega) ?_
      have : s = x0 := List.ext_getElem? fun j => by
        by_cases hj : j < x0.length
        · exact h2 j hj
        · rw [List.getElem?_eq_none (by omega), List.getElem?_eq_none (by omega)]
      rw [this]
      exact Ev.now _)
    (fun i s hi ⟨h1, h2⟩ ih => by
      refine Ev.round ?_
      simp only [laws_toInt64S.l0]
      refine Ev.yes (by omega) (Ev.yes (by omega) (Ev.yes (by omega) ?_))
      rw [w64s (by omega)]
      refine ih _ ⟨by simp [h1], fun j hj => ?_⟩
      rw [Int.toNat_natCast, rd_lt hi]
      by_cases e : j = i
      · subst e
        rw [List.getElem?_set_self (by omega), List.getElem?_eq_getElem hi]
      · rw [List.getElem?_set_ne (by omega)]
        exact h2 j (by omega))
  unfold laws_toInt64S.f
  refine Ev.yes (by omega) (Ev.yes (by omega) ?_)
  have := key 0 (List.replicate x0.length 0) (by omega) ⟨by simp, fun j hj => absurd hj (by omega)⟩
  simpa using this
theorem toSS (x0 : List (List Int)) (hn : x0.length ≤ 1048576) (hr : ∀ x ∈ x0, x.length ≤ 1048576) : Ev (fun k => laws_toInt64SS.f k x0) x0 := by
  have key := Ev.up (fun k s i => laws_toInt64SS.l0 k x0 s i) x0.length (fun _ _ => x0) (fun i s => s.length = x0.length ∧ ∀ j, j < i → s[j]? = x0[j]?)
    (fun s ⟨h1, h2⟩ => by
      refine Ev.round ?_
      simp only [laws_toInt64SS.l0]
      refine Ev.no (by omega) ?_
      have : s = x0 := List.ext_getElem? fun j => by
        by_cases hj : j < x0.length
        · exact h2 j hj
        · rw [List.getElem?_eq_none (by omega), List.getElem?_eq_none (by omega)]
      rw [this]
      exact Ev.now _)
    (fun i s hi ⟨h1, h2⟩ ih => by
      refine Ev.round ?_
      simp only [laws_toInt64SS.l0]
      refine Ev.yes (by omega) (Ev.yes (by omega) ?_)
      have hg : rd_L1 x0 (i : Int) = x0[i] := rdOf_lt (d := []) hi
      rw [hg]
      refine Ev.bind (toS x0[i] (by have := hr _ (List.getElem_mem hi); omega)) (Ev.yes (by omega) ?_)
      rw [w64s (by omega)]
      refine ih _ ⟨by simp [h1], fun j hj => ?_⟩
      rw [Int.toNat_natCast]
      by_cases e : j = i
      · subst e
        rw [List.getElem?_set_self (by omega), List.getElem?_eq_getElem hi]
      · rw [List.getElem?_set_ne (by omega)]
        exact h2 j (by omega))
  unfold laws_toInt64SS.f
  refine Ev.yes (by omega) (Ev.yes (by omega) ?_)
  have := key 0 (List.replicate x0.length []) (by omega) ⟨by simp, fun j hj => absurd hj (by omega)⟩
  simpa using this
theorem eqS (a b : List Int) (hn : a.length ≤ 9223372036854775806) : Ev (fun k => laws_eqInt64S.f k a b) (decide (a = b)) := by
  unfold laws_eqInt64S.f
  by_cases hl : a.length = b.length
  · refine Ev.yes (by omega) ?_
    have key := Ev.up (fun k (_ : Unit) i => laws_eqInt64S.l0 k a b i) a.length (fun _ _ => decide (a = b)) (fun i _ => ∀ j, j < i → a[j]? = b[j]?)
      (fun _ h2 => by
        refine Ev.round ?_
        simp only [laws_eqInt64S.l0]
        refine Ev.no (by omega) ?_
        have : a = b := List.ext_getElem? fun j => by
          by_cases hj : j < a.length
          · exact h2 j hj
          · rw [List.getElem?_eq_none (by omega), List.getElem?_eq_none (by omega)]
        rw [decide_eq_true this]
        exact Ev.now _)
      (fun i _ hi h2 ih => by
        refine Ev.round ?_
        simp only [laws_eqInt64S.l0]
        refine Ev.yes (by omega) (Ev.yes (by omega) (Ev.yes (by omega) ?_))
        rw [rd_lt hi, rd_lt (by omega : i < b.length), w64s (by omega)]
        by_cases e : a[i] = b[i]
        · refine Ev.yes e (ih () fun j hj => ?_)
          by_cases e' : j = i
          · subst e'
            rw [List.getElem?_eq_getElem hi, List.getElem?_eq_getElem (by omega), e]
          · exact h2 j (by omega)
        · refine Ev.no e ?_
          rw [decide_eq_false (fun h => e (by subst h; rfl))]
          exact Ev.now _)
    have := key 0 () (by omega) (fun j hj => absurd hj (by omega))
    simpa using this
  · refine Ev.no (by omega) ?_
    rw [decide_eq_false (fun h => hl (by rw [h]))]
    exact Ev.now _
theorem eqSS (a b : List (List Int)) (hn : a.length ≤ 9223372036854775806) (hr : ∀ x ∈ a, x.length ≤ 9223372036854775806) : Ev (fun k => laws_eqInt64SS.f k a b) (decide (a = b)) := by
  unfold laws_eqInt64SS.f
  by_cases hl : a.length = b.length
  · refine Ev.yes (by omega) ?_
    have key := Ev.up (fun k (_ : Unit) i => laws_eqInt64SS.l0 k a b i) a.length (fun _ _ => decide (a = b)) (fun i _ => ∀ j, j < i → a[j]? = b[j]?)
      (fun _ h2 => by
        refine Ev.round ?_
        simp only [laws_eqInt64SS.l0]
        refine Ev.no (by omega) ?_
        have : a = b := List.ext_getElem? fun j => by
          by_cases hj : j < a.length
          · exact h2 j hj
          · rw [List.getElem?_eq_none (by omega), List.getElem?_eq_none (by omega)]
        rw [decide_eq_true this]
        exact Ev.now _)
      (fun i _ hi h2 ih => by
        refine Ev.round ?_
        simp only [laws_eqInt64SS.l0]
        refine Ev.yes (by omega) (Ev.yes (by omega) (Ev.yes (by omega) ?_))
        have hg : rd_L1 a (i : Int) = a[i] := rdOf_lt (d := []) hi
        have hg2 : rd_L1 b (i : Int) = b[i] := rdOf_lt (d := []) (by omega)
        rw [hg, hg2, w64s (by omega)]
        refine Ev.bind (eqS a[i] b[i] (hr _ (List.getElem_mem hi))) ?_
        by_cases e : a[i] = b[i]
        · rw [decide_eq_true e]
          refine Ev.yes rfl (ih () fun j hj => ?_)
          by_cases e' : j = i
          · subst e'
            rw [List.getElem?_eq_getElem hi, List.getElem?_eq_getElem (by omega), e]
          · exact h2 j (by omega)
        · rw [decide_eq_false e]
          refine Ev.no (by simp) ?_
          rw [decide_eq_false (fun h => e (by subst h; rfl))]
          exact Ev.now _)
    have := key 0 () (by omega) (fun j hj => absurd hj (by omega))
    simpa using this
  · refine Ev.no (by omega) ?_
    rw [decide_eq_false (fun h => hl (by rw [h]))]
    exact Ev.now _
/-- The size of a list of lists as the laws count it. -/
def sz2 (x : List (List Int)) : Nat := x.length + (x.map List.length).sum
theorem szSS (x0 : List (List Int)) (hn : x0.length ≤ maxLen) (hr : ∀ x ∈ x0, x.length ≤ maxLen) (a : Nat) (ha : a ≤ 1048576) :
    Ev (fun k => laws_szInt64SS.f k x0 a) (if sz2 x0 ≤ a then ((a - sz2 x0 : Nat) : Int) else -1) := by
  unfold maxLen at hn hr
  have hrd : ∀ i, i < x0.length → rd_L1 x0 (i : Int) = x0.getD i [] := fun i hi => rfl
  have key := Ev.up (fun k (s : Nat) i => laws_szInt64SS.l0 k x0 (s : Int) i) x0.length
    (fun i s => if ((x0.drop i).map List.length).sum ≤ s then ((s - ((x0.drop i).map List.length).sum : Nat) : Int) else -1) (fun _ s => s ≤ 1048576)
    (fun s hs => by
      refine Ev.round ?_
      simp only [laws_szInt64SS.l0]
      refine Ev.no (by omega) ?_
      simp only [List.drop_length, List.map_nil, List.sum_nil, Nat.zero_le, if_true, Nat.sub_zero]
      exact Ev.now _)
    (fun i s hi hs ih => by
      refine Ev.round ?_
      simp only [laws_szInt64SS.l0]
      refine Ev.yes (by omega) (Ev.yes (by omega) ?_)
      have hg : rd_L1 x0 (i : Int) = x0[i] := rdOf_lt (d := []) hi
      rw [hg, w64s (by omega)]
      have hx := hr _ (List.getElem_mem hi)
      have hd : x0.drop i = x0[i] :: x0.drop (i + 1) := List.drop_eq_getElem_cons hi
      rw [hd, List.map_cons, List.sum_cons]
      have hw : wrap64 ((s : Int) - (x0[i].length : Int)) = (s : Int) - (x0[i].length : Int) := w64 (by omega) (by omega)
      have hf : laws_szInt64S.f x0[i] (s : Int) = some (if x0[i].length ≤ s then ((s - x0[i].length : Nat) : Int) else -1) := by
        unfold laws_szInt64S.f
        rw [hw]
        by_cases h : x0[i].length ≤ s
        · rw [if_neg (by omega), if_pos h]; congr 1; omega
        · rw [if_pos (by omega), if_neg h]
      refine Ev.here hf ?_
      by_cases h : x0[i].length ≤ s
      · rw [if_pos h]
        refine Ev.no (by omega) ?_
        have := ih (s - x0[i].length) (by omega)
        by_cases h2 : ((x0.drop (i + 1)).map List.length).sum ≤ s - x0[i].length
        · rw [if_pos h2] at this
          rw [if_pos (by omega), show s - (x0[i].length + ((x0.drop (i + 1)).map List.length).sum) = s - x0[i].length - ((x0.drop (i + 1)).map List.length).sum from by omega]
          exact this
        · rw [if_neg h2] at this
          rw [if_neg (by omega)]
          exact this
      · rw [if_neg h]
        refine Ev.yes (by omega) ?_
        rw [if_neg (by omega)]
        exact Ev.now _)
  unfold laws_szInt64SS.f
  have hw : wrap64 ((a : Int) - (x0.length : Int)) = (a : Int) - (x0.length : Int) := w64 (by omega) (by omega)
  rw [hw]
  unfold sz2
  by_cases h : x0.length ≤ a
  · refine Ev.no (by omega) ?_
    have := key 0 (a - x0.length) (by omega) (by omega)
    rw [show ((a - x0.length : Nat) : Int) = (a : Int) - (x0.length : Int) from by omega] at this
    simp only [List.drop_zero] at this
    by_cases h2 : (x0.map List.length).sum ≤ a - x0.length
    · rw [if_pos h2] at this
      rw [if_pos (by omega), show a - (x0.length + (x0.map List.length).sum) = a - x0.length - (x0.map List.length).sum from by omega]
      exact this
    · rw [if_neg h2] at this
      rw [if_neg (by omega)]
      exact this
  · refine Ev.yes (by omega) ?_
    rw [if_neg (by omega)]
    exact Ev.now _
theorem le_sum {l : List Nat} {a : Nat} (h : a ∈ l) : a ≤ l.sum := by
  induction l with
  | nil => cases h
  | cons b l ih =>
    rw [List.sum_cons]
    rcases List.mem_cons.1 h with rfl | h
    · omega
    · have := ih h; omega
theorem le_sz2 {x0 : List (List Int)} {x : List Int} (h : x ∈ x0) : x.length ≤ sz2 x0 := by
  unfold sz2
  have : x.length ∈ x0.map List.length := List.mem_map.2 ⟨x, h, rfl⟩
  have := le_sum this
  omega
end Go.Proofs.YthbaocejgjpfoaaDoor.U
end M2
section M3
namespace Go.Proofs.YthbaocejgjpfoaaDoor.U
open Go.RowKit Go.Proofs.YthbaocejgjpfoaaDoor.P Go.Proofs.YthbaocejgjpfoaaDoorW.PrintWords Go.Proofs.YthbaocejgjpfoaaDoorW.PrintLast
set_option linter.unusedVariables false
/-! The reference's test of an automaton. -/
theorem spIn (a lo hi : Int) : spec_l01In.f a lo hi = some (inRB a lo hi) := by
  unfold spec_l01In.f inRB
  by_cases h : lo ≤ a
  · rw [if_pos h, decide_eq_true h, Bool.true_and]
  · rw [if_neg h, decide_eq_false h, Bool.false_and]
theorem u64w {n : Int} (h0 : 0 ≤ n) (h1 : n < 18446744073709551616) : IntKind.u64.wrap n = n := by
  show n % 18446744073709551616 = n
  omega
theorem spOne {n : Int} (h0 : 0 ≤ n) (h1 : n < 18446744073709551616) : spec_l01One.f n = some (shl .i64 1 n) := by
  unfold spec_l01One.f
  rw [u64w h0 h1, if_pos h0]
theorem maskB_eq {F n : Int} (h0 : 0 ≤ n) (h1 : n ≤ 24) : maskB F n = inRB F 0 (wrap64 (shl .i64 1 n - 1)) := by
  unfold maskB impl_IsMask.f
  rw [inRange_some]
  have : inRB n 0 24 = true := by unfold inRB; simp; omega
  rw [this]
  simp only [Option.bind_some, if_true]
  unfold impl_one.f
  rw [if_pos h0]
  simp only [Option.bind_some]
  rw [inRange_some]
  rfl
theorem spFull {n : Int} (h0 : 0 ≤ n) (h1 : n < 18446744073709551616) : spec_l01Full.f n = some (wrap64 (shl .i64 1 n - 1)) := by
  unfold spec_l01Full.f
  rw [spOne h0 h1]
  rfl
theorem l11Is_loop (L S F : Int) (N : List (List Int)) (hn : N.length ≤ 16) (hL : L ≤ 8) : Ev (fun k => spec_l11Is.l0 k (N.length : Int) 0 L S F N) (!(N.any (badRow L N.length))) := by
  have key := Ev.up (fun k (_ : Unit) i => spec_l11Is.l0 k (N.length : Int) i L S F N) N.length (fun i _ => !((N.drop i).any (badRow L N.length))) (fun _ _ => True)
    (fun _ _ => by
      refine Ev.round ?_
      simp only [spec_l11Is.l0]
      refine Ev.no (by omega) ?_
      rw [List.drop_length]
      exact Ev.now _)
    (fun i _ hi _ ih => by
      refine Ev.round ?_
      simp only [spec_l11Is.l0]
      have hg : rd_L1 N (i : Int) = N[i] := rdOf_lt (d := []) hi
      refine Ev.yes (by omega) (Ev.yes (by omega) (Ev.yes (by omega) ?_))
      rw [hg, List.drop_eq_getElem_cons hi, List.any_cons]
      by_cases hl : (N[i].length : Int) = L
      · refine Ev.yes hl ?_
        have inner := Ev.up (fun k (_ : Unit) j => spec_l11Is.l1 k (N.length : Int) (i : Int) j L S F N) N[i].length
          (fun j _ => ((N[i].drop j).all fun t => decide (-1 ≤ t) && decide (t ≤ (N.length : Int) - 1)) && !((N.drop (i + 1)).any (badRow L N.length))) (fun _ _ => True)
          (fun _ _ => by
            refine Ev.round ?_
            simp only [spec_l11Is.l1]
            refine Ev.no (by omega) ?_
            rw [List.drop_length, w64s (by omega)]
            simpa using ih () trivial)
          (fun j _ hj _ ihj => by
            refine Ev.round ?_
            simp only [spec_l11Is.l1]
            rw [hg]
            refine Ev.yes (by omega) (Ev.yes (by omega) (Ev.yes (by omega) (Ev.yes (by omega) (Ev.yes (by omega) ?_))))
            rw [rd_lt hj, w64 (n := (N.length : Int) - 1) (by omega) (by omega), w64s (by omega)]
            refine Ev.here (spIn _ _ _) ?_
            rw [List.drop_eq_getElem_cons hj, List.all_cons]
            show Ev _ ((inRB N[i][j] (-1) ((N.length : Int) - 1) && _) && _)
            cases hb : inRB N[i][j] (-1) ((N.length : Int) - 1)
            · exact Ev.no (by simp) (Ev.now _)
            · refine Ev.yes rfl ?_
              simpa using ihj () trivial)
        have h0 := inner 0 () (by omega) trivial
        have hb : badRow L N.length N[i] = !(N[i].all fun t => decide (-1 ≤ t) && decide (t ≤ (N.length : Int) - 1)) := by unfold badRow; rw [decide_eq_true hl]; simp
        rw [hb, Bool.not_or, Bool.not_not]
        simpa using h0
      · refine Ev.no hl ?_
        have hb : badRow L N.length N[i] = true := by unfold badRow; rw [decide_eq_false hl]; simp
        rw [hb]
        exact Ev.now _)
  have := key 0 () (by omega) trivial
  simpa using this
theorem l11Is_ev (L S F : Int) (N : List (List Int)) (hN : N.length ≤ 9223372036854775807) : Ev (fun k => spec_l11Is.f k L S F N) (isAut L S F N) := by
  unfold spec_l11Is.f isAut
  refine Ev.here (show spec_l11States.f L S F N = some (N.length : Int) from rfl) ?_
  refine Ev.here (spIn _ _ _) ?_
  have hno : ∀ x3, Ev (fun k => spec_l11Is.j0 k x3 true L S F N) false := fun x3 => Ev.round (by simp only [spec_l11Is.j0]; exact Ev.yes (by trivial) (Ev.now _))
  cases h1 : inRB L 0 8
  · exact Ev.no (by simp) (hno _)
  refine Ev.yes rfl (Ev.here (spIn _ _ _) ?_)
  cases h2 : inRB (N.length : Int) 1 16
  · exact Ev.no (by simp) (hno _)
  have h2' := h2
  unfold inRB at h1 h2'
  simp only [Bool.and_eq_true, decide_eq_true_eq] at h1 h2'
  refine Ev.yes rfl ?_
  rw [w64 (n := (N.length : Int) - 1) (by omega) (by omega)]
  refine Ev.here (spIn _ _ _) ?_
  cases h3 : inRB S 0 ((N.length : Int) - 1)
  · exact Ev.no (by simp) (hno _)
  refine Ev.yes rfl (Ev.here (spFull (by omega) (by omega)) (Ev.here (spIn _ _ _) ?_))
  rw [← maskB_eq (by omega) (by omega)]
  cases h4 : maskB F N.length
  · exact hno _
  · refine Ev.round ?_
    simp only [spec_l11Is.j0]
    refine Ev.no (by simp) ?_
    simpa using l11Is_loop L S F N (by omega) h1.2
theorem toA (a b c : Int) (l : List (List Int)) (h : sz2 l ≤ 1048576) : Ev (fun k => laws_toAutomaton.f k a b c l) (a, b, c, l) := by
  unfold laws_toAutomaton.f
  refine Ev.bind (toSS l (by unfold sz2 at h; omega) (fun x hx => by have := le_sz2 hx; omega)) (Ev.now _)
theorem eqA (a b c : Int) (l : List (List Int)) (h : sz2 l ≤ 1048576) : Ev (fun k => laws_eqAutomaton.f k a b c l a b c l) true := by
  unfold laws_eqAutomaton.f
  refine Ev.yes rfl (Ev.yes rfl (Ev.yes rfl ?_))
  refine Ev.bind (eqSS l l (by unfold sz2 at h; omega) (fun x hx => by have := le_sz2 hx; omega)) ?_
  rw [decide_eq_true rfl]
  exact Ev.yes rfl (Ev.now _)
end Go.Proofs.YthbaocejgjpfoaaDoor.U
end M3
section M4
namespace Go.Proofs.YthbaocejgjpfoaaDoor.U
open Go.RowKit Go.Proofs.YthbaocejgjpfoaaDoor.P Go.Proofs.YthbaocejgjpfoaaDoorW.PrintWords Go.Proofs.YthbaocejgjpfoaaDoorW.PrintLast
set_option linter.unusedVariables false
/-! Reading words in an automaton. -/
/-- The rows of a machine: each of as many places as there are letters, each place a state or -1. -/
def Rows' (L : Int) (N : List (List Int)) : Prop := ∀ row ∈ N, (row.length : Int) = L ∧ ∀ t ∈ row, -1 ≤ t ∧ t < N.length
structure AutOK (L S F : Int) (N : List (List Int)) : Prop where
  l0 : 0 ≤ L
  l8 : L ≤ 8
  n1 : 1 ≤ N.length
  n16 : N.length ≤ 16
  s0 : 0 ≤ S
  sn : S < N.length
  mask : maskB F N.length = true
  rows : Rows' L N
theorem isAut_ok {L S F : Int} {N : List (List Int)} (h : isAut L S F N = true) : AutOK L S F N := by
  unfold isAut inRB at h
  simp only [Bool.and_eq_true, decide_eq_true_eq, Bool.not_eq_true', List.any_eq_false] at h
  obtain ⟨⟨a, b⟩, ⟨c, d⟩, ⟨e, f⟩, g, i⟩ := h
  refine ⟨a, b, by omega, by omega, e, by omega, g, fun row hr => ?_⟩
  have := i row hr
  unfold badRow at this
  simp only [Bool.or_eq_true, Bool.not_eq_true', decide_eq_false_iff_not, not_or, Decidable.not_not, Bool.not_eq_false, List.all_eq_true, Bool.and_eq_true, decide_eq_true_eq] at this
  exact ⟨this.1, fun t ht => ⟨(this.2 t ht).1, by have := (this.2 t ht).2; omega⟩⟩
/-- The state to which a letter leads, -1 for no state. -/
def nx (N : List (List Int)) (s a : Int) : Int := if s < 0 then -1 else rd (rd_L1 N s) a
/-- The state to which a word leads. -/
def rdW (N : List (List Int)) (s : Int) (w : List Int) : Int := w.foldl (nx N) s
theorem nat_of {i : Int} {n : Nat} (h0 : 0 ≤ i) (h1 : i < n) : ∃ k : Nat, i = k ∧ k < n := ⟨i.toNat, by omega, by omega⟩
theorem row_at {L : Int} {N : List (List Int)} (hN : Rows' L N) {s : Int} (h0 : 0 ≤ s) (h1 : s < N.length) : ((rd_L1 N s).length : Int) = L ∧ ∀ t ∈ rd_L1 N s, -1 ≤ t ∧ t < N.length := by
  obtain ⟨k, rfl, hk⟩ := nat_of h0 h1
  have hg : rd_L1 N (k : Int) = N[k] := rdOf_lt (d := []) hk
  rw [hg]
  exact hN _ (List.getElem_mem hk)
theorem rd_mem {l : List Int} {i : Int} (h0 : 0 ≤ i) (h1 : i < l.length) : rd l i ∈ l := by
  obtain ⟨k, rfl, hk⟩ := nat_of h0 h1
  rw [rd_lt hk]
  exact List.getElem_mem hk
theorem nx_in {L : Int} {N : List (List Int)} (hN : Rows' L N) {s a : Int} (h1 : s < N.length) (ha : 0 ≤ a) (hb : a < L) : -1 ≤ nx N s a ∧ nx N s a < N.length := by
  unfold nx
  by_cases h : s < 0
  · rw [if_pos h]; omega
  · rw [if_neg h]
    have hr := row_at hN (s := s) (by omega) h1
    exact hr.2 _ (rd_mem ha (by omega))
theorem rdW_neg (N : List (List Int)) {s : Int} (h : s < 0) (w : List Int) : w ≠ [] → rdW N s w = -1 := by
  intro hw
  induction w generalizing s with
  | nil => exact absurd rfl hw
  | cons a w ih =>
    show rdW N (nx N s a) w = -1
    have e : nx N s a = -1 := by unfold nx; rw [if_pos h]
    rw [e]
    by_cases hn : w = []
    · subst hn; rfl
    · exact ih (by omega) hn
theorem rdW_neg' (N : List (List Int)) (w : List Int) : rdW N (-1) w = -1 := by
  by_cases h : w = []
  · subst h; rfl
  · exact rdW_neg N (by omega) w h
/-- The reference's reading, from a state. -/
theorem l11Read_ev {L S F : Int} {N : List (List Int)} (hN : Rows' L N) (s : Int) (w : List Int) (h0 : -1 ≤ s) (h1 : s < N.length) (hl : w.length ≤ 9223372036854775806) (hw : ∀ a ∈ w, 0 ≤ a ∧ a < L) :
    Ev (fun k => spec_l11Read.f k L S F N s w) (rdW N s w) := by
  have key := Ev.up (fun k (s : Int) i => spec_l11Read.l0 k s w i L S F N) w.length (fun i s => rdW N s (w.drop i)) (fun _ s => -1 ≤ s ∧ s < N.length)
    (fun s hs => by
      refine Ev.round ?_
      simp only [spec_l11Read.l0]
      refine Ev.no (by omega) ?_
      rw [List.drop_length]
      exact Ev.now _)
    (fun i s hi hs ih => by
      refine Ev.round ?_
      simp only [spec_l11Read.l0]
      refine Ev.yes (by omega) ?_
      rw [List.drop_eq_getElem_cons hi]
      by_cases h : s ≥ 0
      · have ha := hw _ (List.getElem_mem hi)
        have hr := row_at hN (s := s) h hs.2
        rw [rd_lt hi]
        refine Ev.yes h (Ev.yes h (Ev.yes hs.2 (Ev.yes (by omega) (Ev.yes ha.1 (Ev.yes (by omega) ?_)))))
        rw [w64s (by omega)]
        have hx := nx_in hN (s := s) hs.2 ha.1 ha.2
        have e : nx N s w[i] = rd (rd_L1 N s) w[i] := by unfold nx; rw [if_neg (by omega)]
        have := ih (nx N s w[i]) hx
        rw [e] at this
        show Ev _ (rdW N (nx N s w[i]) (w.drop (i + 1)))
        rw [e]
        exact this
      · refine Ev.no h ?_
        have : s = -1 := by omega
        subst this
        rw [rdW_neg' N]
        exact Ev.now _)
  have := key 0 s (by omega) ⟨h0, h1⟩
  unfold spec_l11Read.f
  simpa using this
def hasB (F s : Int) : Bool := (Go.bits .and .i64 (shr .i64 F s) 1) == 1
theorem has_eq {F s : Int} (h : 0 ≤ s) : impl_has.f F s = some (hasB F s) := by unfold impl_has.f; rw [if_pos h]; rfl
/-- The final states of an automaton, as a list. -/
def finL (F : Int) (n : Nat) : List Bool := (List.range n).map fun (s : Nat) => hasB F s
theorem machineOf_ev (L S F : Int) (N : List (List Int)) (hn : N.length ≤ 1048576) : Ev (fun k => impl_machineOf.f k L S F N) (L, S, finL F N.length, N) := by
  have key := Ev.up (fun k (s : List Bool) i => impl_machineOf.l0 k (N.length : Int) i L S F N L S s N) N.length (fun _ _ => (L, S, finL F N.length, N)) (fun i s => s = finL F i)
    (fun s hs => by
      refine Ev.round ?_
      simp only [impl_machineOf.l0]
      refine Ev.no (by omega) ?_
      rw [hs]
      exact Ev.now _)
    (fun i s hi hs ih => by
      refine Ev.round ?_
      simp only [impl_machineOf.l0]
      refine Ev.yes (by omega) (Ev.here (has_eq (by omega)) ?_)
      have hl : s.length = i := by rw [hs]; simp [finL]
      refine Ev.yes (by omega) ?_
      rw [w64s (by omega)]
      refine ih _ ?_
      rw [hs]
      simp [finL, List.range_succ])
  have := key 0 [] (by omega) (by simp [finL])
  unfold impl_machineOf.f
  simpa using this
theorem step_eq {L : Int} {N : List (List Int)} (hN : Rows' L N) (S : Int) (fin : List Bool) {s a : Int} (h1 : s < N.length) (ha : 0 ≤ a) (hb : a < L) : impl_machine_step.f L S fin N s a = some (nx N s a) := by
  unfold impl_machine_step.f nx
  by_cases h : s < 0
  · rw [if_pos h, if_pos h]
  · have hr := row_at hN (s := s) (by omega) h1
    rw [if_neg h, if_neg h, if_pos (by omega), if_pos h1, if_pos ha, if_pos (by omega)]
end Go.Proofs.YthbaocejgjpfoaaDoor.U
end M4
section M5
namespace Go.Proofs.YthbaocejgjpfoaaDoor.U
open Go.RowKit Go.Proofs.YthbaocejgjpfoaaDoorW.PrintWords Go.Proofs.YthbaocejgjpfoaaDoorW.PrintLast Go.Proofs.YthbaocejgjpfoaaDoorW.PrintMore
set_option linter.unusedVariables false
/-! Sets as numbers. -/
theorem i64_id (n : Int) (h0 : 0 ≤ n) (h1 : n < 2 ^ 63) : IntKind.i64.wrap n = n := by rw [IntKind.wrap_i64]; omega
theorem bor {a b : Nat} (ha : a < 2 ^ 63) (hb : b < 2 ^ 63) : bits .or .i64 (a : Int) (b : Int) = ((a ||| b : Nat) : Int) := (bits_nat .i64 63 (by decide) i64_id a b ha hb).2
theorem band {a b : Nat} (ha : a < 2 ^ 63) (hb : b < 2 ^ 63) : bits .and .i64 (a : Int) (b : Int) = ((a &&& b : Nat) : Int) := (bits_nat .i64 63 (by decide) i64_id a b ha hb).1
theorem shl1 {i : Nat} (hi : i < 63) : shl .i64 1 (i : Int) = ((2 ^ i : Nat) : Int) := by
  unfold shl
  rw [Int.toNat_natCast]
  have : min i IntKind.i64.bits = i := Nat.min_eq_left (by show i ≤ 64; omega)
  rw [this, Int.one_mul]
  have h := Nat.pow_lt_pow_right (a := 2) (by decide) hi
  rw [show ((2 : Int) ^ i) = ((2 ^ i : Nat) : Int) from by simp]
  exact i64_id _ (Int.natCast_nonneg _) (by exact_mod_cast h)
/-- The members k < n with p k, joined to s. -/
def orN (p : Nat → Bool) : Nat → Nat → Nat
  | 0, s => s
  | n + 1, s => if p n then orN p n s ||| 2 ^ n else orN p n s
theorem orN_yes {p : Nat → Bool} {n s : Nat} (h : p n = true) : orN p (n + 1) s = orN p n s ||| 2 ^ n := if_pos h
theorem orN_no {p : Nat → Bool} {n s : Nat} (h : p n = false) : orN p (n + 1) s = orN p n s := if_neg (by rw [h]; simp)
theorem testBit_orN (p : Nat → Bool) (n s j : Nat) : (orN p n s).testBit j = (s.testBit j || (decide (j < n) && p j)) := by
  induction n with
  | zero => simp [orN]
  | succ n ih =>
    unfold orN
    by_cases h : p n
    · rw [if_pos h, Nat.testBit_or, ih, Nat.testBit_two_pow]
      by_cases e : n = j
      · subst e; simp [h]
      · have e2 : decide (j < n + 1) = decide (j < n) := by rw [decide_eq_decide]; omega
        rw [e2]; simp [e]
    · rw [if_neg h, ih]
      by_cases e : n = j
      · subst e; simp [h]
      · have e2 : decide (j < n + 1) = decide (j < n) := by rw [decide_eq_decide]; omega
        rw [e2]
theorem orN_lt (p : Nat → Bool) (n s m : Nat) (hn : n ≤ m) (hs : s < 2 ^ m) : orN p n s < 2 ^ m := by
  induction n with
  | zero => exact hs
  | succ n ih =>
    unfold orN
    split
    · exact Nat.or_lt_two_pow (ih (by omega)) (Nat.pow_lt_pow_right (by decide) (by omega))
    · exact ih (by omega)
theorem hasN {m s : Nat} (hm : m < 2 ^ 63) (hs : s ≤ 64) : ((bits .and .i64 (shr .i64 (m : Int) (s : Int)) 1) == 1) = m.testBit s := by
  have hsh : shr .i64 (m : Int) (s : Int) = ((m / 2 ^ s : Nat) : Int) := by
    unfold shr
    rw [Int.toNat_natCast, Nat.min_eq_left (show s ≤ IntKind.i64.bits from hs)]
    rw [show ((2 : Int) ^ s) = ((2 ^ s : Nat) : Int) from by simp]
    exact (Int.natCast_ediv _ _).symm
  have hq : m / 2 ^ s < 2 ^ 63 := Nat.lt_of_le_of_lt (Nat.div_le_self _ _) hm
  rw [hsh, show (1 : Int) = ((1 : Nat) : Int) from rfl, band hq (by decide), Nat.and_one_is_mod, Nat.testBit_eq_decide_div_mod_eq]
  generalize m / 2 ^ s % 2 = r
  by_cases h : r = 1
  · subst h; rfl
  · rw [decide_eq_false h]
    simp; omega
end Go.Proofs.YthbaocejgjpfoaaDoor.U
end M5
section M6
namespace Go.Proofs.YthbaocejgjpfoaaDoor.U
open Go.RowKit Go.Proofs.YthbaocejgjpfoaaDoor.P Go.Proofs.YthbaocejgjpfoaaDoorW.PrintWords Go.Proofs.YthbaocejgjpfoaaDoorW.PrintLast Go.Proofs.YthbaocejgjpfoaaDoorW.PrintMore
set_option linter.unusedVariables false
/-! Alphabets: both tests answer alike. -/
def inI (a lo hi : Int) : Bool := decide (lo ≤ a) && decide (a ≤ hi)
theorem inI_iff {a lo hi : Int} : inI a lo hi = true ↔ lo ≤ a ∧ a ≤ hi := by unfold inI; simp
theorem spInI (a lo hi : Int) : spec_l01In.f a lo hi = some (inI a lo hi) := by
  unfold spec_l01In.f inI
  by_cases h : lo ≤ a
  · rw [if_pos h, decide_eq_true h, Bool.true_and]
  · rw [if_neg h, decide_eq_false h, Bool.false_and]
theorem imInI (a lo hi : Int) : impl_inRange.f a lo hi = some (inI a lo hi) := by
  unfold impl_inRange.f inI
  by_cases h : lo ≤ a
  · rw [if_pos h, decide_eq_true h, Bool.true_and]
  · rw [if_neg h, decide_eq_false h, Bool.false_and]
theorem u64i {n : Nat} (h : n < 18446744073709551616) : IntKind.u64.wrap (n : Int) = (n : Int) := by
  show (n : Int) % 18446744073709551616 = n
  omega
theorem spOneI {i : Nat} (h : i < 63) : spec_l01One.f (i : Int) = some ((2 ^ i : Nat) : Int) := by
  unfold spec_l01One.f
  rw [u64i (by omega), if_pos (by omega), shl1 h]
theorem imOneI {i : Nat} (h : i < 63) : impl_one.f (i : Int) = some ((2 ^ i : Nat) : Int) := by
  unfold impl_one.f
  rw [if_pos (by omega), shl1 h]
theorem fullW {n : Nat} (h : n < 63) : wrap64 (((2 ^ n : Nat) : Int) - 1) = ((2 ^ n - 1 : Nat) : Int) := by
  have h1 := Nat.pow_lt_pow_right (a := 2) (by decide) h
  have h2 : 0 < 2 ^ n := Nat.pow_pos (by decide)
  generalize 2 ^ n = p at h1 h2
  have h3 : (2 : Nat) ^ 63 = 9223372036854775808 := by decide
  rw [h3] at h1
  rw [w64 (by omega) (by omega)]
  omega
theorem spFullI {n : Nat} (h : n < 63) : spec_l01Full.f (n : Int) = some ((2 ^ n - 1 : Nat) : Int) := by
  unfold spec_l01Full.f
  rw [spOneI h]
  simp only [Option.bind_some]
  rw [fullW h]
theorem spBitI {m s : Nat} (hm : m < 2 ^ 63) (hs : s ≤ 64) : spec_l01Bit.f (m : Int) (s : Int) = some (m.testBit s) := by
  unfold spec_l01Bit.f
  rw [u64i (by omega), if_pos (by omega), hasN hm hs]
theorem imHasI {m s : Nat} (hm : m < 2 ^ 63) (hs : s ≤ 64) : impl_has.f (m : Int) (s : Int) = some (m.testBit s) := by
  unfold impl_has.f
  rw [if_pos (by omega), hasN hm hs]
/-- Does row a of a relation have b? -/
def bt (d : List Int) (a b : Nat) : Bool := (d.getD a 0).toNat.testBit b
def okRow (d : List Int) (a : Nat) : Prop := bt d a a = true ∧ ∀ b, b < d.length → bt d a b = bt d b a
instance (d : List Int) (a : Nat) : Decidable (okRow d a) := by unfold okRow; exact inferInstance
def symB (d : List Int) : Bool := decide (∀ a, a < d.length → okRow d a)
/-- Is it an alphabet? -/
def alB (n : Int) (d : List Int) : Bool := inI n 0 8 && (decide ((d.length : Int) = n) && ((d.all fun t => inI t 0 ((2 ^ d.length - 1 : Nat) : Int)) && symB d))
theorem symB_no {d : List Int} {a : Nat} (ha : a < d.length) (h : ¬ okRow d a) : symB d = false := decide_eq_false fun hh => h (hh a ha)
theorem masks_ev (d : List Int) (hn : d.length ≤ 8) : Ev (fun k => spec_l01Masks.f k (d.length : Int) d) (d.all fun t => inI t 0 ((2 ^ d.length - 1 : Nat) : Int)) := by
  have key := Ev.up (fun k (_ : Unit) i => spec_l01Masks.l0 k (d.length : Int) d i) d.length (fun i _ => (d.drop i).all fun t => inI t 0 ((2 ^ d.length - 1 : Nat) : Int)) (fun _ _ => True)
    (fun _ _ => by
      refine Ev.round ?_
      simp only [spec_l01Masks.l0]
      refine Ev.no (by omega) ?_
      rw [List.drop_length]
      exact Ev.now _)
    (fun i _ hi _ ih => by
      refine Ev.round ?_
      simp only [spec_l01Masks.l0]
      refine Ev.yes (by omega) (Ev.yes (by omega) (Ev.here (spFullI (by omega)) (Ev.here (spInI _ _ _) ?_)))
      rw [rd_lt hi, w64s (by omega), List.drop_eq_getElem_cons hi, List.all_cons]
      cases inI d[i] 0 ((2 ^ d.length - 1 : Nat) : Int)
      · exact Ev.no (by simp) (Ev.now _)
      · exact Ev.yes rfl (ih () trivial))
  have := key 0 () (by omega) trivial
  unfold spec_l01Masks.f
  simpa using this
/-- The rows are sets of letters. -/
def Sets (d : List Int) : Prop := d.length ≤ 8 ∧ ∀ a, a < d.length → 0 ≤ d.getD a 0 ∧ (d.getD a 0).toNat < 2 ^ d.length
theorem Sets.small {d : List Int} (h : Sets d) {a : Nat} (ha : a < d.length) : (d.getD a 0).toNat < 256 :=
  Nat.lt_of_lt_of_le (h.2 a ha).2 (show 2 ^ d.length ≤ 2 ^ 8 from Nat.pow_le_pow_right (by decide) h.1)
theorem Sets.rdE {d : List Int} (h : Sets d) {a : Nat} (ha : a < d.length) : rd d (a : Int) = ((d.getD a 0).toNat : Int) := by
  rw [rdn]; exact (Int.toNat_of_nonneg (h.2 a ha).1).symm
theorem sets_of {d : List Int} (hn : d.length ≤ 8) (h : (d.all fun t => inI t 0 ((2 ^ d.length - 1 : Nat) : Int)) = true) : Sets d := by
  refine ⟨hn, fun a ha => ?_⟩
  have := List.all_eq_true.1 h _ (List.getElem_mem ha)
  rw [inI_iff] at this
  rw [List.getD_eq_getElem?_getD, List.getElem?_eq_getElem ha]
  simp only [Option.getD_some]
  have h2 : 0 < 2 ^ d.length := Nat.pow_pos (by decide)
  generalize 2 ^ d.length = p at this h2
  omega
theorem spBitR {d : List Int} (h : Sets d) {a b : Nat} (ha : a < d.length) (hb : b ≤ 64) : spec_l01Bit.f (rd d (a : Int)) (b : Int) = some (bt d a b) := by
  rw [h.rdE ha, spBitI (Nat.lt_of_lt_of_le (h.small ha) (by decide)) hb]
  rfl
theorem l02Loop (d : List Int) (h : Sets d) : Ev (fun k => spec_l02Is.l0 k 0 (d.length : Int) d) (symB d) := by
  have hn := h.1
  have key := Ev.up (fun k (_ : Unit) i => spec_l02Is.l0 k i (d.length : Int) d) d.length (fun _ _ => symB d) (fun i _ => ∀ a, a < i → okRow d a)
    (fun _ hI => by
      refine Ev.round ?_
      simp only [spec_l02Is.l0]
      refine Ev.no (by omega) ?_
      rw [show symB d = true from decide_eq_true hI]
      exact Ev.now _)
    (fun i _ hi hI ih => by
      refine Ev.round ?_
      simp only [spec_l02Is.l0]
      refine Ev.yes (by omega) (Ev.yes (by omega) (Ev.yes (by omega) (Ev.here (spBitR h hi (by omega)) ?_)))
      cases hb : bt d i i
      · refine Ev.no (by simp) ?_
        rw [symB_no hi (fun hh => by rw [hh.1] at hb; cases hb)]
        exact Ev.now _
      refine Ev.yes rfl ?_
      have inner := Ev.up (fun k (_ : Unit) j => spec_l02Is.l1 k (i : Int) j (d.length : Int) d) d.length (fun _ _ => symB d) (fun j _ => ∀ b, b < j → bt d i b = bt d b i)
        (fun _ hJ => by
          refine Ev.round ?_
          simp only [spec_l02Is.l1]
          refine Ev.no (by omega) ?_
          rw [w64s (by omega)]
          refine ih () fun a ha => ?_
          by_cases e : a = i
          · subst e; exact ⟨hb, hJ⟩
          · exact hI a (by omega))
        (fun j _ hj hJ ihj => by
          refine Ev.round ?_
          simp only [spec_l02Is.l1]
          refine Ev.yes (by omega) (Ev.yes (by omega) (Ev.yes (by omega) (Ev.here (spBitR h hi (by omega)) (Ev.yes (by omega) (Ev.yes (by omega) (Ev.here (spBitR h hj (by omega)) ?_))))))
          rw [w64s (by omega)]
          by_cases e : bt d i j = bt d j i
          · refine Ev.no (by simp [e]) (ihj () fun b hb' => ?_)
            by_cases e' : b = j
            · subst e'; exact e
            · exact hJ b (by omega)
          · refine Ev.yes (by simp [e]) ?_
            rw [symB_no hi (fun hh => e (hh.2 j hj))]
            exact Ev.now _)
      have := inner 0 () (by omega) (fun b hb => absurd hb (by omega))
      simpa using this)
  have := key 0 () (by omega) (fun b hb => absurd hb (by omega))
  simpa using this
theorem l02Is_ev (n : Int) (d : List Int) : Ev (fun k => spec_l02Is.f k n d) (alB n d) := by
  unfold spec_l02Is.f alB
  have hno : Ev (fun k => spec_l02Is.j0 k true n d) false := Ev.round (by simp only [spec_l02Is.j0]; exact Ev.yes (by trivial) (Ev.now _))
  refine Ev.here (spInI _ _ _) ?_
  cases h1 : inI n 0 8
  · exact Ev.no (by simp) hno
  rw [inI_iff] at h1
  refine Ev.yes rfl ?_
  by_cases h2 : (d.length : Int) = n
  · subst h2
    refine Ev.yes rfl (Ev.bind (masks_ev d (by omega)) (Ev.round ?_))
    simp only [spec_l02Is.j0]
    rw [decide_true]
    cases h3 : d.all fun t => inI t 0 ((2 ^ d.length - 1 : Nat) : Int)
    · exact Ev.yes rfl (Ev.now _)
    · exact Ev.no (by simp) (l02Loop d (sets_of (by omega) h3))
  · refine Ev.no h2 ?_
    rw [decide_eq_false h2]
    exact hno
/-- The members of a small set. -/
def memN (m : Nat) : List Nat := (List.range 8).filter (m.testBit ·)
theorem mem_step : ∀ m : Fin 256, m.val ≠ 0 → (impl_least.f (m.val : Int) = some ((Lib.ctz 64 m.val : Nat) : Int) ∧ Go.bits .and .i64 (m.val : Int) (wrap64 ((m.val : Int) - 1)) = ((m.val &&& (m.val - 1) : Nat) : Int)
    ∧ m.val &&& (m.val - 1) < m.val ∧ memN m.val = Lib.ctz 64 m.val :: memN (m.val &&& (m.val - 1))) := by decide +kernel
theorem members_loop (m : Nat) (hm : m < 256) : ∀ acc : List Int, acc.length + m < 17592186044416 → Ev (fun k => impl_members.l0 k (m : Int) acc) (acc ++ (memN m).map Int.ofNat) := by
  induction m using Nat.strongRecOn with
  | _ m ih =>
    intro acc ha
    refine Ev.round ?_
    simp only [impl_members.l0]
    by_cases h0 : m = 0
    · subst h0
      refine Ev.yes rfl ?_
      rw [show memN 0 = [] from by decide, List.map_nil, List.append_nil]
      exact Ev.now _
    · obtain ⟨h1, h2, h3, h4⟩ := mem_step ⟨m, hm⟩ h0
      simp only at h1 h2 h3 h4
      refine Ev.no (by omega) (Ev.here h1 (Ev.yes (by omega) ?_))
      rw [h2, h4, List.map_cons]
      have := ih _ h3 (by omega) (acc ++ [((Lib.ctz 64 m : Nat) : Int)]) (by rw [List.length_append, List.length_singleton]; omega)
      rw [List.append_assoc] at this
      exact this
theorem members_ev {m : Nat} (hm : m < 256) : Ev (fun k => impl_members.f k (m : Int)) ((memN m).map Int.ofNat) := by
  unfold impl_members.f
  have := members_loop m hm [] (by have : ([] : List Int).length = 0 := rfl; omega)
  simpa using this
theorem mem_memN {m k : Nat} (hm : m < 256) : k ∈ memN m ↔ m.testBit k = true := by
  unfold memN
  rw [List.mem_filter, List.mem_range]
  refine ⟨fun h => h.2, fun h => ⟨?_, h⟩⟩
  rcases Nat.lt_or_ge k 8 with h8 | h8
  · exact h8
  · rw [Nat.testBit_lt_two_pow (Nat.lt_of_lt_of_le hm (show 2 ^ 8 ≤ 2 ^ k from Nat.pow_le_pow_right (by decide) h8))] at h
    cases h
/-- The converse's row k from the first i rows. -/
def cvN (d : List Int) (i k : Nat) : Nat := orN (fun j => bt d j k) i 0
theorem cvN_lt (d : List Int) {i k : Nat} (hi : i ≤ 8) : cvN d i k < 256 := orN_lt _ i 0 8 hi (by decide)
def cvTo (d : List Int) (i : Nat) : List Int := (List.range d.length).map fun k => ((cvN d i k : Nat) : Int)
theorem converse_ev (d : List Int) (h : Sets d) : Ev (fun k => impl_converse.f k d) (cvTo d d.length) := by
  have hn := h.1
  have key := Ev.up (fun k (s : List Int) i => impl_converse.l0 k s d (d.length : Int) i) d.length (fun _ _ => cvTo d d.length) (fun i s => s = cvTo d i)
    (fun s hs => by
      refine Ev.round ?_
      simp only [impl_converse.l0]
      refine Ev.no (by omega) ?_
      rw [hs]
      exact Ev.now _)
    (fun i s hi hs ih => by
      refine Ev.round ?_
      simp only [impl_converse.l0]
      refine Ev.yes (by omega) (Ev.yes (by omega) (Ev.yes (by omega) ?_))
      rw [h.rdE hi]
      have hm := h.small hi
      refine Ev.bind (members_ev hm) ?_
      generalize hM : (d.getD i 0).toNat = m at hm
      have hbt : ∀ k, bt d i k = m.testBit k := fun k => by unfold bt; rw [hM]
      have hlt : ∀ k, k ∈ memN m → k < d.length := fun k hk => by
        rw [mem_memN hm] at hk
        rcases Nat.lt_or_ge k d.length with h8 | h8
        · exact h8
        · have := (h.2 i hi).2
          rw [hM] at this
          rw [Nat.testBit_lt_two_pow (Nat.lt_of_lt_of_le this (Nat.pow_le_pow_right (by decide) h8))] at hk
          cases hk
      have hlen : (memN m).length ≤ 8 := by unfold memN; exact Nat.le_trans (List.length_filter_le _ _) (by simp)
      have hgl : ((memN m).map Int.ofNat).length = (memN m).length := List.length_map _
      have inner := Ev.up (fun k (s : List Int) j => impl_converse.l1 k s (i : Int) d (d.length : Int) (i : Int) ((memN m).map Int.ofNat) (((memN m).map Int.ofNat).length : Int) j) (memN m).length (fun _ _ => cvTo d d.length)
        (fun j s => s = (List.range d.length).map fun k => ((cvN d i k ||| (if k ∈ (memN m).take j then 2 ^ i else 0) : Nat) : Int))
        (fun s hs => by
          refine Ev.round ?_
          simp only [impl_converse.l1]
          refine Ev.no (by omega) ?_
          rw [w64s (by omega)]
          refine ih _ ?_
          rw [hs, List.take_length]
          unfold cvTo
          refine List.map_congr_left fun k _ => ?_
          congr 1
          unfold cvN
          by_cases hk : k ∈ memN m
          · rw [if_pos hk, orN_yes (by show bt d i k = true; rw [hbt]; exact (mem_memN hm).1 hk)]
          · rw [if_neg hk, orN_no (by
              show bt d i k = false
              rw [hbt]
              cases hq : m.testBit k
              · rfl
              · exact absurd ((mem_memN hm).2 hq) hk), Nat.or_zero])
        (fun j s hj hs ihj => by
          refine Ev.round ?_
          simp only [impl_converse.l1]
          have hg : rd ((memN m).map Int.ofNat) (j : Int) = (((memN m)[j] : Nat) : Int) := by
            rw [rd_lt (by omega), List.getElem_map]; rfl
          rw [hg]
          have htl := hlt _ (List.getElem_mem hj)
          have htk : ∀ k, k ∈ (memN m).take (j + 1) ↔ k ∈ (memN m).take j ∨ k = (memN m)[j] := fun k => by
            rw [List.take_add_one, List.getElem?_eq_getElem hj, List.mem_append]
            simp
          generalize (memN m)[j] = t at htl htk
          have hsl : s.length = d.length := by rw [hs]; simp
          refine Ev.yes (by omega) (Ev.yes (by omega) (Ev.yes (by omega) (Ev.yes (by omega) (Ev.yes (by omega) (Ev.here (imOneI (by omega)) ?_)))))
          rw [w64s (by omega)]
          refine ihj _ ?_
          rw [Int.toNat_natCast, rd_lt (by omega : t < s.length)]
          have hx : (if t ∈ (memN m).take j then 2 ^ i else 0) < 2 ^ 8 := by
            split
            · exact Nat.pow_lt_pow_right (by decide) (by omega)
            · decide
          have hst : s[t]'(by omega) = ((cvN d i t ||| (if t ∈ (memN m).take j then 2 ^ i else 0) : Nat) : Int) := by simp only [hs, List.getElem_map, List.getElem_range]
          rw [hst, bor (Nat.lt_of_lt_of_le (Nat.or_lt_two_pow (cvN_lt d (by omega)) hx) (by decide)) (Nat.pow_lt_pow_right (by decide) (by omega)), hs]
          apply List.ext_getElem?
          intro k
          by_cases hk : k < d.length
          · by_cases e : k = t
            · subst e
              rw [List.getElem?_set_self (by simpa using hk)]
              simp only [List.getElem?_map, List.getElem?_range hk, Option.map_some]
              rw [if_pos ((htk k).2 (Or.inr rfl)), Nat.or_assoc]
              congr 3
              split
              · exact Nat.or_self _
              · exact Nat.zero_or _
            · rw [List.getElem?_set_ne (by omega)]
              simp only [List.getElem?_map, List.getElem?_range hk, Option.map_some]
              congr 4
              exact propext ((htk k).trans (or_iff_left e)).symm
          · rw [List.getElem?_eq_none (by simp; omega), List.getElem?_eq_none (by simp; omega)])
      have := inner 0 s (by omega) (by rw [hs]; unfold cvTo; refine List.map_congr_left fun k _ => ?_; simp)
      simpa using this)
  unfold impl_converse.f
  refine Ev.yes (by omega) (Ev.yes (by omega) ?_)
  have := key 0 (List.replicate d.length 0) (by omega) (by
    apply List.ext_getElem?
    intro k
    unfold cvTo
    by_cases hk : k < d.length
    · simp [hk, cvN, orN]
    · rw [List.getElem?_eq_none (by simp; omega), List.getElem?_eq_none (by simp; omega)])
  simpa using this
theorem cv_bit (d : List Int) (k j : Nat) : (cvN d d.length k).testBit j = (decide (j < d.length) && bt d j k) := by
  unfold cvN
  rw [testBit_orN]
  simp
theorem cv_row {d : List Int} (h : Sets d) {k : Nat} (hk : k < d.length) : (cvN d d.length k = (d.getD k 0).toNat ∧ (cvN d d.length k).testBit k = true) ↔ okRow d k := by
  have hb : ∀ b, ¬ b < d.length → bt d k b = false := fun b hb => by
    unfold bt
    exact Nat.testBit_lt_two_pow (Nat.lt_of_lt_of_le (h.2 k hk).2 (Nat.pow_le_pow_right (by decide) (by omega)))
  constructor
  · rintro ⟨h1, h2⟩
    have h3 : ∀ b, b < d.length → bt d b k = bt d k b := fun b hb => by
      have := cv_bit d k b
      rw [h1, decide_eq_true hb, Bool.true_and] at this
      exact this.symm
    refine ⟨?_, fun b hb => (h3 b hb).symm⟩
    rw [h1] at h2
    exact h2
  · rintro ⟨h1, h2⟩
    have e : cvN d d.length k = (d.getD k 0).toNat := by
      apply Nat.eq_of_testBit_eq
      intro j
      rw [cv_bit]
      by_cases hj : j < d.length
      · rw [decide_eq_true hj, Bool.true_and]
        exact (h2 j hj).symm
      · rw [decide_eq_false hj, Bool.false_and]
        exact (hb j hj).symm
    exact ⟨e, by rw [e]; exact h1⟩
theorem isAl_loop (d : List Int) (h : Sets d) : Ev (fun k => impl_IsAlphabet.l0 k (cvTo d d.length) (d.length : Int) 0 (d.length : Int) d) (symB d) := by
  have hn := h.1
  have hcl : (cvTo d d.length).length = d.length := by simp [cvTo]
  have key := Ev.up (fun k (_ : Unit) i => impl_IsAlphabet.l0 k (cvTo d d.length) (d.length : Int) i (d.length : Int) d) d.length (fun _ _ => symB d) (fun i _ => ∀ a, a < i → okRow d a)
    (fun _ hI => by
      refine Ev.round ?_
      simp only [impl_IsAlphabet.l0]
      refine Ev.no (by omega) ?_
      rw [show symB d = true from decide_eq_true hI]
      exact Ev.now _)
    (fun i _ hi hI ih => by
      refine Ev.round ?_
      simp only [impl_IsAlphabet.l0]
      have hg : rd (cvTo d d.length) (i : Int) = ((cvN d d.length i : Nat) : Int) := by
        rw [rd_lt (by omega)]; unfold cvTo; rw [List.getElem_map, List.getElem_range]
      have hl := cvN_lt d (k := i) hn
      refine Ev.yes (by omega) (Ev.yes (by omega) (Ev.yes (by omega) (Ev.yes (by omega) ?_)))
      rw [hg, h.rdE hi, w64s (by omega)]
      have hc := cv_row h hi
      by_cases e : cvN d d.length i = (d.getD i 0).toNat
      · refine Ev.yes (by rw [e]) (Ev.here (imHasI (by omega) (by omega)) ?_)
        cases hb : (cvN d d.length i).testBit i
        · refine Ev.no (by simp) ?_
          rw [symB_no hi (fun hh => by have := (hc.2 hh).2; rw [hb] at this; cases this)]
          exact Ev.now _
        · refine Ev.yes rfl (ih () fun a ha => ?_)
          by_cases e' : a = i
          · subst e'; exact hc.1 ⟨e, hb⟩
          · exact hI a (by omega)
      · refine Ev.no (by omega) ?_
        rw [symB_no hi (fun hh => e (hc.2 hh).1)]
        exact Ev.now _)
  have := key 0 () (by omega) (fun b hb => absurd hb (by omega))
  simpa using this
theorem isAl_ev (n : Int) (d : List Int) : Ev (fun k => impl_IsAlphabet.f k n d) (alB n d) := by
  unfold impl_IsAlphabet.f alB
  have hno : Ev (fun k => impl_IsAlphabet.j0 k true n d) false := Ev.round (by simp only [impl_IsAlphabet.j0]; exact Ev.yes (by trivial) (Ev.now _))
  refine Ev.here (imInI _ _ _) ?_
  cases h1 : inI n 0 8
  · exact Ev.no (by simp) hno
  rw [inI_iff] at h1
  refine Ev.yes rfl (Ev.here (show impl_length_int64_80.f d = some (d.length : Int) from rfl) ?_)
  by_cases h2 : (d.length : Int) = n
  · subst h2
    refine Ev.yes rfl ?_
    have hr : impl_IsRelation.f d = some (d.all fun t => inI t 0 ((2 ^ d.length - 1 : Nat) : Int)) := by
      unfold impl_IsRelation.f
      rw [if_pos (by omega)]
      refine (congrArg (fun o => Option.bind o _) (show impl_length_int64_80.f d = some (d.length : Int) from rfl)).trans ?_
      simp only [Option.bind_some]
      rw [imOneI (by omega)]
      simp only [Option.bind_some]
      rw [fullW (by omega)]
      rfl
    refine Ev.here hr (Ev.round ?_)
    simp only [impl_IsAlphabet.j0]
    rw [decide_true]
    cases h3 : d.all fun t => inI t 0 ((2 ^ d.length - 1 : Nat) : Int)
    · exact Ev.yes rfl (Ev.now _)
    · refine Ev.no (by simp) (Ev.bind (converse_ev d (sets_of (by omega) h3)) ?_)
      have hcl : (cvTo d d.length).length = d.length := by simp [cvTo]
      rw [hcl]
      simpa using isAl_loop d (sets_of (by omega) h3)
  · refine Ev.no h2 ?_
    rw [decide_eq_false h2]
    exact hno
end Go.Proofs.YthbaocejgjpfoaaDoor.U
end M6
section M7
namespace Go.Proofs.YthbaocejgjpfoaaDoor.U
open Go.RowKit Go.Proofs.YthbaocejgjpfoaaDoor.P Go.Proofs.YthbaocejgjpfoaaDoorW.PrintWords Go.Proofs.YthbaocejgjpfoaaDoorW.PrintLast Go.Proofs.YthbaocejgjpfoaaDoorW.PrintMore
set_option linter.unusedVariables false
/-! Diamonds: the first fault, both ways. -/
def f2 (ok : Nat → Nat → Nat → Bool) (L s a b : Nat) : Option (List Int) := (List.range' b (L - b)).findSome? fun b => if ok s a b then none else some [(s : Int), (a : Int), (b : Int)]
def f1 (ok : Nat → Nat → Nat → Bool) (L s a : Nat) : Option (List Int) := (List.range' a (L - a)).findSome? fun a => f2 ok L s a (a + 1)
def f0 (ok : Nat → Nat → Nat → Bool) (n L s : Nat) : Option (List Int) := (List.range' s (n - s)).findSome? fun s => f1 ok L s 0
/-- The first fault, or nothing. -/
def faultOf (ok : Nat → Nat → Nat → Bool) (n L : Nat) : List Int := (f0 ok n L 0).getD []
theorem f2_end (ok : Nat → Nat → Nat → Bool) (L s a : Nat) : f2 ok L s a L = none := by simp [f2]
theorem f2_ok {ok : Nat → Nat → Nat → Bool} {L s a b : Nat} (h : b < L) (k : ok s a b = true) : f2 ok L s a b = f2 ok L s a (b + 1) := by
  unfold f2
  rw [show L - b = (L - (b + 1)) + 1 by omega, List.range'_succ, List.findSome?_cons]
  simp [k]
theorem f2_no {ok : Nat → Nat → Nat → Bool} {L s a b : Nat} (h : b < L) (k : ok s a b = false) : f2 ok L s a b = some [(s : Int), (a : Int), (b : Int)] := by
  unfold f2
  rw [show L - b = (L - (b + 1)) + 1 by omega, List.range'_succ, List.findSome?_cons]
  simp [k]
theorem f1_end (ok : Nat → Nat → Nat → Bool) (L s : Nat) : f1 ok L s L = none := by simp [f1]
theorem f1_step {ok : Nat → Nat → Nat → Bool} {L s a : Nat} (h : a < L) : f1 ok L s a = (f2 ok L s a (a + 1)).or (f1 ok L s (a + 1)) := by
  unfold f1
  rw [show L - a = (L - (a + 1)) + 1 by omega, List.range'_succ, List.findSome?_cons]
  cases f2 ok L s a (a + 1) <;> rfl
theorem f0_end (ok : Nat → Nat → Nat → Bool) (n L : Nat) : f0 ok n L n = none := by simp [f0]
theorem f0_step {ok : Nat → Nat → Nat → Bool} {n L s : Nat} (h : s < n) : f0 ok n L s = (f1 ok L s 0).or (f0 ok n L (s + 1)) := by
  unfold f0
  rw [show n - s = (n - (s + 1)) + 1 by omega, List.range'_succ, List.findSome?_cons]
  cases f1 ok L s 0 <;> rfl
/-- Three loops, one in another: what they come to. -/
theorem nest3 (ok : Nat → Nat → Nat → Bool) (n L : Nat) (E0 : Nat → List Int → Prop) (E1 : Nat → Nat → List Int → Prop) (E2 : Nat → Nat → Nat → List Int → Prop)
    (h2a : ∀ s a b r, s < n → a < L → b < L → ok s a b = true → E2 s a (b + 1) r → E2 s a b r) (h2b : ∀ s a b, s < n → a < L → b < L → ok s a b = false → E2 s a b [(s : Int), (a : Int), (b : Int)])
    (h2c : ∀ s a r, s < n → a < L → E1 s (a + 1) r → E2 s a L r) (h1a : ∀ s a r, s < n → a < L → E2 s a (a + 1) r → E1 s a r) (h1b : ∀ s r, s < n → E0 (s + 1) r → E1 s L r)
    (h0a : ∀ s r, s < n → E1 s 0 r → E0 s r) (h0b : E0 n []) : E0 0 (faultOf ok n L) := by
  have main : ∀ (i s : Nat), n - s = i → s ≤ n → E0 s ((f0 ok n L s).getD []) := by
    intro i
    induction i with
    | zero => intro s h1 h2; obtain rfl : s = n := by omega
              rw [f0_end]; exact h0b
    | succ i ih0 =>
      intro s h1 h2
      have hs : s < n := by omega
      have rest := ih0 (s + 1) (by omega) (by omega)
      have l1 : ∀ (j a : Nat), L - a = j → a ≤ L → E1 s a (((f1 ok L s a).or (f0 ok n L (s + 1))).getD []) := by
        intro j
        induction j with
        | zero => intro a h3 h4; obtain rfl : a = L := by omega
                  rw [f1_end]; exact h1b s _ hs rest
        | succ j ih1 =>
          intro a h3 h4
          have ha : a < L := by omega
          have rest1 := ih1 (a + 1) (by omega) (by omega)
          have l2 : ∀ (m b : Nat), L - b = m → b ≤ L → E2 s a b (((f2 ok L s a b).or ((f1 ok L s (a + 1)).or (f0 ok n L (s + 1)))).getD []) := by
            intro m
            induction m with
            | zero => intro b h5 h6; obtain rfl : b = L := by omega
                      rw [f2_end]; exact h2c s a _ hs ha rest1
            | succ m ih2 =>
              intro b h5 h6
              have hb : b < L := by omega
              cases k : ok s a b with
              | true => rw [f2_ok hb k]; exact h2a s a b _ hs ha hb k (ih2 (b + 1) (by omega) (by omega))
              | false => rw [f2_no hb k]; exact h2b s a b hs ha hb k
          rw [f1_step ha, Option.or_assoc]
          exact h1a s a _ hs ha (l2 _ (a + 1) rfl (by omega))
      rw [f0_step hs]
      exact h0a s _ hs (l1 _ 0 rfl (by omega))
  exact main _ 0 rfl (by omega)
/-- Is the diamond of two letters at a state whole, or are they dependent? -/
def diaB (d : List Int) (N : List (List Int)) (s a b : Nat) : Bool := bt d a b || decide (nx N (nx N s a) b = nx N (nx N s b) a)
def faultA (d : List Int) (N : List (List Int)) (L : Nat) : List Int := faultOf (diaB d N) N.length L
theorem alB_ok {n : Int} {d : List Int} (h : alB n d = true) : 0 ≤ n ∧ n ≤ 8 ∧ (d.length : Int) = n ∧ Sets d := by
  unfold alB inI at h
  simp only [Bool.and_eq_true, decide_eq_true_eq] at h
  obtain ⟨⟨h0, h1⟩, h2, h3, _⟩ := h
  refine ⟨h0, h1, h2, sets_of (by omega) ?_⟩
  unfold inI
  exact h3
theorem imHasR {d : List Int} (h : Sets d) {a b : Nat} (ha : a < d.length) (hb : b ≤ 64) : impl_has.f (rd d (a : Int)) (b : Int) = some (bt d a b) := by
  rw [h.rdE ha, imHasI (Nat.lt_of_lt_of_le (h.small ha) (by decide)) hb]
  rfl
theorem l02Dep_eq {n : Int} {d : List Int} (h : Sets d) {a b : Nat} (ha : a < d.length) (hb : b ≤ 64) : spec_l02Dep.f n d (a : Int) (b : Int) = some (bt d a b) := by
  unfold spec_l02Dep.f
  rw [if_pos (by omega), if_pos (by omega), spBitR h ha hb]
  rfl
theorem depend_eq {n : Int} {d : List Int} (h : Sets d) {a b : Nat} (ha : a < d.length) (hb : b ≤ 64) : impl_depend.f n d (a : Int) (b : Int) = some (bt d a b) := by
  unfold impl_depend.f
  rw [if_pos (by omega), if_pos (by omega), imHasR h ha hb]
  rfl
theorem specFault_ev {n L S F : Int} {d : List Int} {N : List (List Int)} (hd : Sets d) (hN : Rows' L N) (hL : L = d.length) (hn : N.length ≤ 1048576) :
    Ev (fun k => spec_l11Fault.f k n d L S F N) (faultA d N d.length) := by
  have h8 := hd.1
  refine nest3 (diaB d N) N.length d.length (fun s r => Ev (fun k => spec_l11Fault.l0 k (s : Int) n d L S F N) r) (fun s a r => Ev (fun k => spec_l11Fault.l1 k (s : Int) (a : Int) n d L S F N) r) (fun s a b r => Ev (fun k => spec_l11Fault.l2 k (s : Int) (a : Int) (b : Int) n d L S F N) r) ?_ ?_ ?_ ?_ ?_ ?_ ?_
  · intro s a b r hs ha hb hk ih
    refine Ev.round ?_
    simp only [spec_l11Fault.l2]
    refine Ev.yes (by omega) (Ev.here (l02Dep_eq hd ha (by omega)) ?_)
    rw [w64s (by omega)]
    cases hbt : bt d a b
    · refine Ev.no (by simp) (Ev.bind (l11Read_ev hN s [(a : Int), (b : Int)] (by omega) (by omega) (by simp) (by simp; omega)) (Ev.bind (l11Read_ev hN s [(b : Int), (a : Int)] (by omega) (by omega) (by simp) (by simp; omega)) ?_))
      have : nx N (nx N s a) b = nx N (nx N s b) a := by simpa [diaB, hbt] using hk
      exact Ev.yes (by simpa [rdW] using this) ih
    · exact Ev.yes rfl ih
  · intro s a b hs ha hb hk
    have h1 : bt d a b = false := by simp [diaB] at hk; exact hk.1
    have h2 : nx N (nx N s a) b ≠ nx N (nx N s b) a := by simp [diaB] at hk; exact hk.2
    refine Ev.round ?_
    simp only [spec_l11Fault.l2]
    refine Ev.yes (by omega) (Ev.here (l02Dep_eq hd ha (by omega)) ?_)
    rw [h1]
    refine Ev.no (by simp) (Ev.bind (l11Read_ev hN s [(a : Int), (b : Int)] (by omega) (by omega) (by simp) (by simp; omega)) (Ev.bind (l11Read_ev hN s [(b : Int), (a : Int)] (by omega) (by omega) (by simp) (by simp; omega)) ?_))
    exact Ev.no (by simpa [rdW] using h2) (Ev.now _)
  · intro s a r hs ha ih
    refine Ev.round ?_
    simp only [spec_l11Fault.l2]
    refine Ev.no (by omega) ?_
    rw [w64s (by omega)]
    exact ih
  · intro s a r hs ha ih
    refine Ev.round ?_
    simp only [spec_l11Fault.l1]
    refine Ev.yes (by omega) ?_
    rw [w64s (by omega)]
    exact ih
  · intro s r hs ih
    refine Ev.round ?_
    simp only [spec_l11Fault.l1]
    refine Ev.no (by omega) ?_
    rw [w64s (by omega)]
    exact ih
  · intro s r hs ih
    refine Ev.round ?_
    simp only [spec_l11Fault.l0]
    exact Ev.here (show spec_l11States.f L S F N = some (N.length : Int) from rfl) (Ev.yes (by omega) ih)
  · refine Ev.round ?_
    simp only [spec_l11Fault.l0]
    exact Ev.here (show spec_l11States.f L S F N = some (N.length : Int) from rfl) (Ev.no (by omega) (Ev.now _))
theorem implFault_ev {n L S : Int} {d : List Int} {fin : List Bool} {N : List (List Int)} (hd : Sets d) (hN : Rows' L N) (hL : L = d.length) (hnd : n = d.length) (hn : N.length ≤ 1048576) :
    Ev (fun k => impl_machine_diamondFault.f k L S fin N n d) (faultA d N d.length) := by
  have h8 := hd.1
  unfold impl_machine_diamondFault.f
  have hx : ∀ s a : Nat, s < N.length → a < d.length → -1 ≤ nx N s a ∧ nx N s a < N.length := fun s a hs ha => nx_in hN (by omega) (by omega) (by omega)
  refine Ev.here (show _ = some (N.length : Int) from rfl) ?_
  refine nest3 (diaB d N) N.length d.length (fun s r => Ev (fun k => impl_machine_diamondFault.l0 k (N.length : Int) (s : Int) L S fin N n d) r) (fun s a r => Ev (fun k => impl_machine_diamondFault.l1 k (s : Int) (N.length : Int) (s : Int) n (a : Int) L S fin N n d) r) (fun s a b r => Ev (fun k => impl_machine_diamondFault.l2 k (s : Int) (a : Int) (b : Int) (N.length : Int) (s : Int) n (a : Int) L S fin N n d) r) ?_ ?_ ?_ ?_ ?_ ?_ ?_
  · intro s a b r hs ha hb hk ih
    refine Ev.round ?_
    simp only [impl_machine_diamondFault.l2]
    refine Ev.yes (by omega) (Ev.here (depend_eq hd ha (by omega)) ?_)
    rw [w64s (by omega)]
    cases hbt : bt d a b
    · have h1 := hx s a hs ha
      have h2 := hx s b hs hb
      refine Ev.no (by simp) (Ev.here (step_eq hN S fin (by omega) (by omega) (by omega)) (Ev.here (step_eq hN S fin (by omega) (by omega) (by omega)) (Ev.here (step_eq hN S fin (by omega) (by omega) (by omega)) (Ev.here (step_eq hN S fin (by omega) (by omega) (by omega)) ?_))))
      have : nx N (nx N s a) b = nx N (nx N s b) a := by simpa [diaB, hbt] using hk
      exact Ev.yes this ih
    · exact Ev.yes rfl ih
  · intro s a b hs ha hb hk
    have k1 : bt d a b = false := by simp [diaB] at hk; exact hk.1
    have k2 : nx N (nx N s a) b ≠ nx N (nx N s b) a := by simp [diaB] at hk; exact hk.2
    have h1 := hx s a hs ha
    have h2 := hx s b hs hb
    refine Ev.round ?_
    simp only [impl_machine_diamondFault.l2]
    refine Ev.yes (by omega) (Ev.here (depend_eq hd ha (by omega)) ?_)
    rw [k1]
    refine Ev.no (by simp) (Ev.here (step_eq hN S fin (by omega) (by omega) (by omega)) (Ev.here (step_eq hN S fin (by omega) (by omega) (by omega)) (Ev.here (step_eq hN S fin (by omega) (by omega) (by omega)) (Ev.here (step_eq hN S fin (by omega) (by omega) (by omega)) ?_))))
    exact Ev.no k2 (Ev.now _)
  · intro s a r hs ha ih
    refine Ev.round ?_
    simp only [impl_machine_diamondFault.l2]
    refine Ev.no (by omega) ?_
    rw [w64s (by omega)]
    exact ih
  · intro s a r hs ha ih
    refine Ev.round ?_
    simp only [impl_machine_diamondFault.l1]
    refine Ev.yes (by omega) ?_
    rw [w64s (by omega)]
    exact ih
  · intro s r hs ih
    refine Ev.round ?_
    simp only [impl_machine_diamondFault.l1]
    refine Ev.no (by omega) ?_
    rw [w64s (by omega)]
    exact ih
  · intro s r hs ih
    refine Ev.round ?_
    simp only [impl_machine_diamondFault.l0]
    exact Ev.yes (by omega) ih
  · refine Ev.round ?_
    simp only [impl_machine_diamondFault.l0]
    exact Ev.no (by omega) (Ev.now _)
/-- The code for an alphabet and an automaton over it. -/
def codeX (n : Int) (d : List Int) (L S F : Int) (N : List (List Int)) : Int := if alB n d = true ∧ isAut L S F N = true then (if L = n then 0 else 2) else 1
theorem codeX_0 {n : Int} {d : List Int} {L S F : Int} {N : List (List Int)} (h : codeX n d L S F N = 0) : alB n d = true ∧ isAut L S F N = true ∧ L = n := by
  unfold codeX at h
  split at h
  · rename_i h1
    split at h
    · rename_i h2; exact ⟨h1.1, h1.2, h2⟩
    · simp at h
  · simp at h
theorem overS_ev (n : Int) (d : List Int) (L S F : Int) (N : List (List Int)) (hN : N.length ≤ 9223372036854775807) : Ev (fun k => spec_l11Over.f k n d L S F N) (codeX n d L S F N) := by
  unfold spec_l11Over.f
  refine Ev.bind (l02Is_ev n d) ?_
  cases h1 : alB n d
  · have e : codeX n d L S F N = 1 := by unfold codeX; rw [if_neg (by rw [h1]; simp)]
    rw [e]
    refine Ev.no (by simp) (Ev.round ?_)
    simp only [spec_l11Over.j0]
    first | exact Ev.yes rfl (Ev.now _) | exact Ev.yes trivial (Ev.now _)
  · refine Ev.yes rfl (Ev.bind (l11Is_ev L S F N hN) (Ev.round ?_))
    simp only [spec_l11Over.j0]
    cases h2 : isAut L S F N
    · have e : codeX n d L S F N = 1 := by unfold codeX; rw [if_neg (by rw [h2]; simp)]
      rw [e]
      first | exact Ev.yes rfl (Ev.now _) | exact Ev.yes trivial (Ev.now _)
    · have e : codeX n d L S F N = if L = n then 0 else 2 := by unfold codeX; rw [if_pos ⟨h1, h2⟩]
      rw [e]
      refine Ev.no (by decide) ?_
      by_cases h3 : L = n
      · refine Ev.yes h3 ?_; rw [if_pos h3]; exact Ev.now _
      · refine Ev.no h3 ?_; rw [if_neg h3]; exact Ev.now _
theorem overI_ev (n : Int) (d : List Int) (L S F : Int) (N : List (List Int)) : Ev (fun k => impl_checkOver.f k n d [⟨L, S, F, N⟩]) (codeX n d L S F N) := by
  unfold impl_checkOver.f
  refine Ev.bind (isAl_ev n d) ?_
  refine Ev.now' (fun _ => ?_)
  unfold codeX
  cases h1 : alB n d
  · simp
  · cases h2 : isAut L S F N
    · simp [h2]
    · by_cases h3 : L = n
      · subst h3; simp [h2]
      · simp [h2, h3]
theorem szAny (a b c : Int) (l : List (List Int)) (hn : l.length ≤ maxLen) (hr : ∀ x ∈ l, x.length ≤ maxLen) (m : Nat) (hm : m ≤ 1048576) :
    Ev (fun k => laws_szAutomaton.f k a b c l (m : Int)) (if sz2 l ≤ m then ((m - sz2 l : Nat) : Int) else -1) := by
  unfold laws_szAutomaton.f
  refine Ev.bind (szSS l hn hr m hm) ?_
  by_cases h : sz2 l ≤ m
  · rw [if_pos h]
    refine Ev.no (by omega) (Ev.now _)
  · rw [if_neg h]
    refine Ev.yes (by omega) (Ev.now _)
theorem szAlX (n : Int) (d : List Int) (hd : d.length ≤ maxLen) : laws_szAlphabet.f n d 1048576 = some (if d.length ≤ 1048576 then ((1048576 - d.length : Nat) : Int) else -1) := by
  unfold maxLen at hd
  unfold laws_szAlphabet.f laws_szInt64S.f
  rw [w64 (by omega) (by omega)]
  by_cases h : d.length ≤ 1048576
  · rw [if_neg (by omega), if_pos h]
    simp only [Option.bind_some]
    rw [if_neg (by omega)]
    congr 1; omega
  · rw [if_pos (by omega), if_neg h]
    rfl
theorem toAlX (n : Int) (d : List Int) (hd : d.length ≤ 35184372088832) : Ev (fun k => laws_toAlphabet.f k n d) (n, d) := by
  unfold laws_toAlphabet.f
  exact Ev.bind (toS d hd) (Ev.now _)
theorem eqAlX (n : Int) (d : List Int) (hd : d.length ≤ 35184372088832) : Ev (fun k => laws_eqAlphabet.f k n d n d) true := by
  have h1 : Ev (fun k => laws_eqInt64S.f k d d) true := by
    have := eqS d d (by omega)
    rw [decide_eq_true rfl] at this
    exact this
  unfold laws_eqAlphabet.f
  exact Ev.yes rfl (Ev.bind h1 (Ev.yes rfl (Ev.now _)))
end Go.Proofs.YthbaocejgjpfoaaDoor.U
end M7
section M8
namespace Go.Proofs.YthbaocejgjpfoaaDoor.U
open Go.RowKit Go.Proofs.YthbaocejgjpfoaaDoor.P Go.Proofs.YthbaocejgjpfoaaDoorW.PrintWords Go.Proofs.YthbaocejgjpfoaaDoorW.PrintLast
set_option linter.unusedVariables false
/-! Marking a list with numbers, and finding the numbers again. -/
/-- a, a+1, .., n numbers. -/
def upL (a n : Nat) : List Int := (List.range n).map fun i => ((a + i : Nat) : Int)
theorem upL_length (a n : Nat) : (upL a n).length = n := by simp [upL]
theorem upL_get (a n i : Nat) (h : i < (upL a n).length) : (upL a n)[i] = ((a + i : Nat) : Int) := by simp [upL]
theorem markS (l : List Int) (a : Nat) (ha : a + l.length ≤ 1152921504606846976) : Ev (fun k => laws_markInt64S.f k l (a : Int)) (((a + l.length : Nat) : Int), upL a l.length) := by
  have key := Ev.up (fun k (s : List Int × Int) i => laws_markInt64S.l0 k s.1 s.2 i) l.length (fun _ _ => (((a + l.length : Nat) : Int), upL a l.length))
    (fun i s => s.2 = ((a + i : Nat) : Int) ∧ s.1.length = l.length ∧ ∀ j, j < i → s.1[j]? = some ((a + j : Nat) : Int))
    (fun s ⟨h1, h2, h3⟩ => by
      refine Ev.round ?_
      simp only [laws_markInt64S.l0]
      refine Ev.no (by omega) ?_
      have : s.1 = upL a l.length := List.ext_getElem? fun j => by
        by_cases hj : j < l.length
        · rw [h3 j hj, List.getElem?_eq_getElem (by rw [upL_length]; exact hj), upL_get]
        · rw [List.getElem?_eq_none (by omega), List.getElem?_eq_none (by rw [upL_length]; omega)]
      rw [this, h1]
      exact Ev.now _)
    (fun i s hi ⟨h1, h2, h3⟩ ih => by
      refine Ev.round ?_
      simp only [laws_markInt64S.l0]
      refine Ev.yes (by omega) (Ev.yes (by omega) ?_)
      rw [h1, w64s (by omega), w64s (by omega)]
      refine ih (s.1.set (i : Int).toNat ((a + i : Nat) : Int), ((a + i + 1 : Nat) : Int)) ⟨rfl, by simp [h2], fun j hj => ?_⟩
      rw [Int.toNat_natCast]
      by_cases e : j = i
      · subst e
        exact List.getElem?_set_self (by omega)
      · rw [List.getElem?_set_ne (by omega)]
        exact h3 j (by omega))
  have := key 0 (l, (a : Int)) (by omega) ⟨by simp, rfl, fun j hj => absurd hj (by omega)⟩
  unfold laws_markInt64S.f
  simpa using this
theorem heldS (n a : Nat) (ha : a + n ≤ 1152921504606846976) : Ev (fun k => laws_heldInt64S.f k (upL a n) (a : Int)) (((a + n : Nat) : Int)) := by
  have hl := upL_length a n
  have key := Ev.up (fun k (s : Int) i => laws_heldInt64S.l0 k (upL a n) s i) n (fun _ _ => (((a + n : Nat) : Int))) (fun i s => s = ((a + i : Nat) : Int))
    (fun s h1 => by
      refine Ev.round ?_
      simp only [laws_heldInt64S.l0]
      refine Ev.no (by omega) ?_
      rw [h1]
      exact Ev.now _)
    (fun i s hi h1 ih => by
      refine Ev.round ?_
      simp only [laws_heldInt64S.l0]
      refine Ev.yes (by omega) (Ev.yes (by omega) ?_)
      rw [rd_lt (by omega), upL_get, h1]
      refine Ev.yes rfl ?_
      rw [w64s (by omega), w64s (by omega)]
      exact ih _ rfl)
  have := key 0 (a : Int) (by omega) (by simp)
  unfold laws_heldInt64S.f
  simpa using this
theorem eqS' {a b : List Int} (h : a = b) (hn : a.length ≤ 9223372036854775806) : Ev (fun k => laws_eqInt64S.f k a b) true := by
  have := eqS a b hn
  rw [decide_eq_true h] at this
  exact this
theorem markAl (x : Int) (l : List Int) (hn : l.length ≤ 1048576) : Ev (fun k => laws_markAlphabet.f k x l 1) (((1 + l.length : Nat) : Int), upL 1 l.length) := by
  unfold laws_markAlphabet.f
  exact Ev.bind (markS l 1 (by omega)) (Ev.now _)
end Go.Proofs.YthbaocejgjpfoaaDoor.U
end M8
section M9
namespace Go.Proofs.YthbaocejgjpfoaaDoor.U
open Go.RowKit Go.Proofs.YthbaocejgjpfoaaDoor.P Go.Proofs.YthbaocejgjpfoaaDoorW.PrintWords Go.Proofs.YthbaocejgjpfoaaDoorW.PrintLast
set_option linter.unusedVariables false
/-! Marking rows of rows. -/
def upR : Nat → List (List Int) → List (List Int)
  | _, [] => []
  | a, r :: rs => upL a r.length :: upR (a + r.length) rs
def tot (l : List (List Int)) : Nat := (l.map List.length).sum
theorem markSS_loop : ∀ (rest done : List (List Int)) (a : Nat), a + tot rest ≤ 1152921504606846976 → (done ++ rest).length ≤ 1048576 →
    Ev (fun k => laws_markInt64SS.l0 k (done ++ rest) (a : Int) ((done.length : Nat) : Int)) (((a + tot rest : Nat) : Int), done ++ upR a rest)
  | [], done, a, ha, hl => by
    refine Ev.round ?_
    simp only [laws_markInt64SS.l0]
    refine Ev.no (by simp) ?_
    simp only [upR, tot, List.map_nil, List.sum_nil, Nat.add_zero]
    exact Ev.now _
  | r :: rest, done, a, ha, hl => by
    have ht : tot (r :: rest) = r.length + tot rest := by simp [tot]
    rw [ht] at ha ⊢
    refine Ev.round ?_
    simp only [laws_markInt64SS.l0]
    have hi : done.length < (done ++ r :: rest).length := by simp
    have er : rdOf ([] : List Int) (done ++ r :: rest) ((done.length : Nat) : Int) = r := by
      rw [rdOf_lt hi]; simp
    rw [er, w64s (by omega)]
    refine Ev.yes (by omega) (Ev.yes (by omega) (Ev.bind (markS r a (by omega)) ?_))
    have es : (done ++ r :: rest).set (((done.length : Nat) : Int)).toNat (upL a r.length) = (done ++ [upL a r.length]) ++ rest := by
      rw [Int.toNat_natCast, List.set_append_right _ _ (Nat.le_refl _), Nat.sub_self, List.set_cons_zero]
      simp
    have h := markSS_loop rest (done ++ [upL a r.length]) (a + r.length) (by omega) (by simpa using hl)
    dsimp only
    rw [es]
    have el : (((done ++ [upL a r.length]).length : Nat) : Int) = ((done.length + 1 : Nat) : Int) := by simp
    rw [el] at h
    have e2 : (done ++ [upL a r.length]) ++ upR (a + r.length) rest = done ++ upR a (r :: rest) := by simp [upR]
    rw [e2, Nat.add_assoc] at h
    exact h
theorem markSS (l : List (List Int)) (a : Nat) (ha : a + tot l ≤ 1152921504606846976) (hl : l.length ≤ 1048576) : Ev (fun k => laws_markInt64SS.f k l (a : Int)) (((a + tot l : Nat) : Int), upR a l) := by
  unfold laws_markInt64SS.f
  exact markSS_loop l [] a ha hl
theorem tot_le (l : List (List Int)) : tot l ≤ sz2 l := by unfold tot sz2; omega
theorem markAut (x y z : Int) (l : List (List Int)) (a : Nat) (ha : a ≤ 1048577) (hl : sz2 l ≤ 1048576) : Ev (fun k => laws_markAutomaton.f k x y z l (a : Int)) (((a + tot l : Nat) : Int), upR a l) := by
  unfold laws_markAutomaton.f
  have := tot_le l
  exact markSS l a (by omega) (by unfold sz2 at hl; omega)
end Go.Proofs.YthbaocejgjpfoaaDoor.U
end M9
section M10
namespace Go.Proofs.YthbaocejgjpfoaaDoor.Pure
open Go.RowKit Go.Proofs.YthbaocejgjpfoaaDoor.P Go.Proofs.YthbaocejgjpfoaaDoor.U Go.Proofs.YthbaocejgjpfoaaDoorW.PrintWords Go.Proofs.YthbaocejgjpfoaaDoorW.PrintLast Go.Proofs.YthbaocejgjpfoaaDoorW.PrintMore
set_option linter.unusedVariables false
theorem fault_len (ok : Nat → Nat → Nat → Bool) (n L : Nat) : (faultOf ok n L).length ≤ 3 :=
  nest3 ok n L (fun _ r => r.length ≤ 3) (fun _ _ r => r.length ≤ 3) (fun _ _ _ r => r.length ≤ 3) (fun _ _ _ _ _ _ _ _ h => h) (fun _ _ _ _ _ _ _ => by simp) (fun _ _ _ _ _ h => h) (fun _ _ _ _ _ h => h) (fun _ _ _ h => h) (fun _ _ _ h => h) (by simp)
def diaF (n : Int) (d : List Int) (L S F : Int) (N : List (List Int)) : List Int × Int := if codeX n d L S F N = 0 then (if faultA d N d.length = [] then ([], 4) else (faultA d N d.length, 0)) else ([], codeX n d L S F N)
theorem diaF_len (n : Int) (d : List Int) (L S F : Int) (N : List (List Int)) : (diaF n d L S F N).1.length ≤ 3 := by
  unfold diaF
  split
  · split
    · simp
    · exact fault_len _ _ _
  · simp
theorem diaS_ev (n : Int) (d : List Int) (L S F : Int) (N : List (List Int)) (hN : N.length ≤ 1048576) : Ev (fun k => spec_DiamondFault.f k n d L S F N) (diaF n d L S F N) := by
  unfold spec_DiamondFault.f diaF
  refine Ev.bind (overS_ev n d L S F N (by omega)) ?_
  by_cases h : codeX n d L S F N = 0
  · rw [if_pos h, h]
    obtain ⟨h1, h2, h3⟩ := codeX_0 h
    have ok := isAut_ok h2
    obtain ⟨_, _, h4, hd⟩ := alB_ok h1
    refine Ev.yes rfl (Ev.bind (specFault_ev hd ok.rows (by omega) hN) ?_)
    by_cases hf : faultA d N d.length = []
    · rw [if_pos hf, hf]; exact Ev.yes rfl (Ev.now _)
    · rw [if_neg hf]
      refine Ev.no (fun e => hf ?_) (Ev.now _)
      exact List.length_eq_zero_iff.1 (by omega)
  · refine Ev.no h ?_
    rw [if_neg h]
    exact Ev.now _
theorem diaI_ev (n : Int) (d : List Int) (L S F : Int) (N : List (List Int)) : Ev (fun k => impl_DiamondFault.f k n d L S F N) (diaF n d L S F N) := by
  unfold impl_DiamondFault.f diaF
  refine Ev.bind (overI_ev n d L S F N) ?_
  by_cases h : codeX n d L S F N = 0
  · rw [if_pos h, h]
    obtain ⟨h1, h2, h3⟩ := codeX_0 h
    have ok := isAut_ok h2
    have hn := ok.n16
    obtain ⟨_, _, h4, hd⟩ := alB_ok h1
    refine Ev.yes rfl (Ev.bind (machineOf_ev L S F N (by omega)) (Ev.bind (implFault_ev hd ok.rows (by first | omega | (show N.length ≤ _; omega)) (by first | omega | (show N.length ≤ _; omega)) (by first | omega | (show N.length ≤ _; omega))) ?_))
    by_cases hf : faultA d N d.length = []
    · refine Ev.yes hf ?_; rw [if_pos hf]; exact Ev.now _
    · refine Ev.no hf ?_; rw [if_neg hf]; exact Ev.now _
  · refine Ev.no h ?_
    rw [if_neg h]
    exact Ev.now _
theorem FnExactDiamondFault : ∀ (a0_0 : Int) (l0_1 : List Int) (a1_0 : Int) (a1_1 : Int) (a1_2 : Int) (l1_3 : List (List Int)), ((Lit.int .i64 a0_0).wf = true) → (l0_1.length ≤ maxLen ∧ ∀ x0 ∈ l0_1, (Lit.int .i64 x0).wf = true) → ((Lit.int .i64 a1_0).wf = true) → ((Lit.int .i64 a1_1).wf = true) → ((Lit.int .i64 a1_2).wf = true) → (l1_3.length ≤ maxLen ∧ ∀ x1 ∈ l1_3, x1.length ≤ maxLen ∧ ∀ x2 ∈ x1, (Lit.int .i64 x2).wf = true) → ∃ k, laws_FnExactDiamondFault.f k a0_0 l0_1 a1_0 a1_1 a1_2 l1_3 = some true := by
  intro n d L S F N _ hd _ _ _ ⟨hn, hr⟩
  apply Ev.rounds
  unfold laws_FnExactDiamondFault.f
  refine Ev.here (szAlX n d hd.1) ?_
  rcases Nat.lt_or_ge 1048576 d.length with h1 | h1
  · rw [if_neg (by omega)]; exact Ev.yes (by omega) (Ev.now _)
  rw [if_pos h1]
  refine Ev.no (by omega) (Ev.bind (szAny L S F N hn (fun x hx => (hr x hx).1) (1048576 - d.length) (by omega)) ?_)
  by_cases h2 : sz2 N ≤ 1048576 - d.length
  · rw [if_pos h2]
    have hz : sz2 N ≤ 1048576 := by omega
    have hl : N.length ≤ 1048576 := by unfold sz2 at hz; omega
    have hf := diaF_len n d L S F N
    have eq : Ev (fun k => laws_eqInt64S.f k (diaF n d L S F N).1 (diaF n d L S F N).1) true := eqS' rfl (by omega)
    refine Ev.no (by omega) (Ev.bind (toAlX n d (by omega)) (Ev.bind (toA L S F N hz) (Ev.bind (diaS_ev n d L S F N hl) (Ev.bind (toAlX n d (by omega)) (Ev.bind (toA L S F N hz) (Ev.bind (diaI_ev n d L S F N) (Ev.bind eq (Ev.yes rfl (Ev.round ?_)))))))))
    simp only [laws_FnExactDiamondFault.j0]
    refine Ev.no (by simp) (Ev.bind (toAlX n d (by omega)) (Ev.bind (eqAlX n d (by omega)) (Ev.yes rfl (Ev.bind (toA L S F N hz) (Ev.bind (eqA L S F N hz) (Ev.yes rfl (Ev.bind (markAl n d (by omega)) (Ev.bind (markAut L S F N (1 + d.length) (by omega) hz) (Ev.no (by show ¬ ((1 + d.length + tot N : Nat) : Int) < 0; omega) (Ev.bind eq (Ev.yes rfl (Ev.round ?_))))))))))))
    simp only [laws_FnExactDiamondFault.j1]
    refine Ev.no (by simp) (Ev.bind (markS (diaF n d L S F N).1 1 (by omega)) (Ev.bind (heldS (diaF n d L S F N).1.length 1 (by omega)) (Ev.no (by omega) (Ev.yes rfl (Ev.bind (toAlX n d (by omega)) (Ev.bind (toA L S F N hz) (Ev.bind (diaI_ev n d L S F N) (Ev.bind eq (Ev.yes rfl (Ev.round ?_))))))))))
    simp only [laws_FnExactDiamondFault.j2]
    exact Ev.no (by simp) (Ev.bind (heldS (diaF n d L S F N).1.length 1 (by omega)) (Ev.no (by omega) (Ev.yes rfl (Ev.now _))))
  · rw [if_neg h2]
    exact Ev.yes (by omega) (Ev.now _)
end Go.Proofs.YthbaocejgjpfoaaDoor.Pure
end M10
section M11
namespace Go.Proofs.YthbaocejgjpfoaaDoor.fnExactDiamondFault
open Go.ChangeShapes Go.WideShapes Go.ChangeAt Go.RowKit Go.Lib Go.Joins Go.Proofs.YthbaocejgjpfoaaDoor.P Go.Proofs.YthbaocejgjpfoaaDoor.Op Go.Proofs.YthbaocejgjpfoaaDoor.Sh Go.Proofs.YthbaocejgjpfoaaDoorW.PrintWords Go.Proofs.YthbaocejgjpfoaaDoorW.PrintLast
open Go.ChangeMaps (open_string shut_string)
set_option linter.unusedVariables false
set_option linter.unusedSimpArgs false
theorem own : ownKnob Tryd.prog.godebug = none := by kernel_rfl
theorem laidOut : laidOutB Tryd.prog = true := by kernel_rfl
theorem gTab : Tryd.prog.globalNamed "math/bits.deBruijn64tab" = some 0 := by kernel_rfl
theorem gTabType : (Tryd.prog.globals[0]?).map (·.type) = some 191 := by kernel_rfl
theorem cellsT : Tryd.prog.cellsOf 191 = 64 := by kernel_rfl
theorem cellsE : Tryd.prog.cellsOf 5 = 1 := by kernel_rfl
def tabL : List Int := [0, 1, 56, 2, 57, 49, 28, 3, 61, 58, 42, 50, 38, 29, 17, 4, 62, 47, 59, 36, 45, 43, 51, 22, 53, 39, 33, 30, 24, 18, 12, 5, 63, 55, 48, 27, 60, 41, 37, 16, 46, 35, 44, 21, 52, 32, 23, 11, 54, 26, 40, 15, 34, 20, 31, 10, 25, 14, 19, 9, 13, 8, 7, 6]
theorem tabL_eq : tabL = Lib.deBruijn64tab.map (fun (n : Nat) => (n : Int)) := rfl
theorem table {W : World} (h : laidMetH Tryd.prog Rows.fnExactDiamondFaultRow.laid W) : Lib.TabIs Tryd.prog W "math/bits.deBruijn64tab" .u8 tabL :=
  Lib.tabIs_of_head (rest := []) gTab gTabType Tryd.underlying191 Tryd.underlying5 cellsE cellsT h
theorem tab {W : World} (h : laidMetH Tryd.prog Rows.fnExactDiamondFaultRow.laid W) : Tab W := fun j hj => by
  have h1 := (table h).cell gTab j (by rw [tabL_eq, List.length_map]; exact hj)
  rw [h1, tabL_eq]
  congr 2
  simp only [List.getD_eq_getElem?_getD, List.getElem?_map, List.getElem?_eq_getElem hj, Option.map_some, Option.getD_some, List.getElem_map]
set_option maxRecDepth 100000 in
theorem contract (H : Type) (enc : TypeId × Value → H) (W : World) (base : Nat) (args : Array Value) (ds gs : List (DataW H)) (before : List MemPlace)
    (hval0 : ∀ (j : Nat) t v, Tryd.f6.params[j]? = some t → args[j]? = some v → Value.okWide Tryd.prog W .any base t v)
    (hW : DataW.Whole enc Tryd.prog Tryd.f6.params.toList Rows.fnExactDiamondFaultSpec.vars false W args.toList ds gs before) (hL : laidMetH Tryd.prog Rows.fnExactDiamondFaultRow.laid W) :
    Calls Tryd.prog 6 args W fun e W' => ∃ v, e = .returned v ∧ Rows.fnExactDiamondFaultSpec.post enc Tryd.prog Tryd.f6 false true false false W args v W' := by
  have hTab := tab hL
  clear hL
  have hval : ∀ (j : Nat) t v, Tryd.f6.params[j]? = some t → args[j]? = some v → Value.okWide Tryd.prog W .any base t v := hval0
  have hW' := hW
  obtain ⟨p, q, hA0, hV, rfl, hfz, hnd⟩ := hW
  have hA : DataW.TrodAll enc Tryd.prog W 0 (fun _ => true) true Tryd.f6.params.toList args.toList ds p := hA0
  rw [Tryd.params6] at hA hval
  obtain ⟨v0, vs0, d0, ds0, p0, q0, hargs, rfl, rfl, h0, r0⟩ := trodAll_cons hA
  obtain ⟨v1, vs1, d1, ds1, p1, q1, rfl, rfl, rfl, h1, r1⟩ := trodAll_cons r0
  obtain ⟨rfl, rfl, rfl⟩ := trodAll_nil r1
  obtain rfl : args = #[v0, v1] := by cases args; simp_all
  obtain ⟨rfl, rfl⟩ := trodVars_none hV
  have k0 := h0
  have lt0 : ∀ x ∈ p0, x.block < W.heap.size := by obtain ⟨m, hm⟩ := k0; exact DataW.trod_lt m _ _ _ hm
  obtain ⟨c00, c01, y00, y01, m0, rfl, _, _, t00, t01⟩ := open_agg2 Tryd.underlying24 (by kernel_rfl) (by kernel_rfl) (hval 0 24 v0 rfl rfl) h0
  obtain ⟨a0_0, e0_0, _, w0_0⟩ := DataW.trod_int Tryd.underlying2 t00
  obtain rfl : c00 = .int .i64 a0_0 := by simpa using e0_0
  obtain ⟨A0_1, c0_1, l0_1, rfl, hc0_1, hr0_1, w0_1⟩ := open_row t01 (opens_slice Tryd.underlying22 (by kernel_rfl) (opens_int Tryd.underlying2))
  have k1 := h1
  have lt1 : ∀ x ∈ p1, x.block < W.heap.size := by obtain ⟨m, hm⟩ := k1; exact DataW.trod_lt m _ _ _ hm
  obtain ⟨c10, c11, c12, c13, y10, y11, y12, y13, m1, rfl, _, _, t10, t11, t12, t13⟩ := open_agg4 Tryd.underlying44 (by kernel_rfl) (by kernel_rfl) (hval 1 44 v1 rfl rfl) h1
  obtain ⟨a1_0, e1_0, _, w1_0⟩ := DataW.trod_int Tryd.underlying2 t10
  obtain rfl : c10 = .int .i64 a1_0 := by simpa using e1_0
  obtain ⟨a1_1, e1_1, _, w1_1⟩ := DataW.trod_int Tryd.underlying2 t11
  obtain rfl : c11 = .int .i64 a1_1 := by simpa using e1_1
  obtain ⟨a1_2, e1_2, _, w1_2⟩ := DataW.trod_int Tryd.underlying2 t12
  obtain rfl : c12 = .int .i64 a1_2 := by simpa using e1_2
  obtain ⟨A1_3, c1_3, l1_3, rfl, hc1_3, hr1_3, w1_3⟩ := open_row t13 (opens_slice Tryd.underlying25 (by kernel_rfl) (opens_slice Tryd.underlying22 (by kernel_rfl) (opens_int Tryd.underlying2)))
  clear hA0 hval0
  obtain ⟨k, hk⟩ := Pure.FnExactDiamondFault a0_0 l0_1 a1_0 a1_1 a1_2 l1_3 w0_0 w0_1 w1_0 w1_1 w1_2 w1_3
  refine (laws_FnExactDiamondFault.calls k a0_0 A0_1 c0_1 l0_1 a1_0 a1_1 a1_2 A1_3 c1_3 l1_3 true W hr0_1 hc0_1 hr1_3 hc1_3 hk rfl hTab).mono fun e W' ⟨he, bel0⟩ => ?_
  have bel : Below W.heap.size W W' := bel0
  subst he
  exact ⟨_, rfl, _, _, _, [], _, [], hW', trodAll_mk1 (shut_bool Tryd.underlying4 _), (trodAll_cons_mk (Below.trod laidOut (by kernel_rfl) (of_decide_eq_true (by kernel_rfl)) k0 bel lt0) (trodAll_cons_mk (Below.trod laidOut (by kernel_rfl) (of_decide_eq_true (by kernel_rfl)) k1 bel lt1) trodAll_mk0)), rfl, bel.frame _, fun h => by cases h⟩
noncomputable def laidWorld (os : Os) : World :=
  { World.holding Tryd.prog os ⟨#[], #[], []⟩ with heap := (World.holding Tryd.prog os ⟨#[], #[], []⟩).heap.modify 0 fun
      | .cells _ t frozen => .cells #[.int .u8 0, .int .u8 1, .int .u8 56, .int .u8 2, .int .u8 57, .int .u8 49, .int .u8 28, .int .u8 3, .int .u8 61, .int .u8 58, .int .u8 42, .int .u8 50, .int .u8 38, .int .u8 29, .int .u8 17, .int .u8 4, .int .u8 62, .int .u8 47, .int .u8 59, .int .u8 36, .int .u8 45, .int .u8 43, .int .u8 51, .int .u8 22, .int .u8 53, .int .u8 39, .int .u8 33, .int .u8 30, .int .u8 24, .int .u8 18, .int .u8 12, .int .u8 5, .int .u8 63, .int .u8 55, .int .u8 48, .int .u8 27, .int .u8 60, .int .u8 41, .int .u8 37, .int .u8 16, .int .u8 46, .int .u8 35, .int .u8 44, .int .u8 21, .int .u8 52, .int .u8 32, .int .u8 23, .int .u8 11, .int .u8 54, .int .u8 26, .int .u8 40, .int .u8 15, .int .u8 34, .int .u8 20, .int .u8 31, .int .u8 10, .int .u8 25, .int .u8 14, .int .u8 19, .int .u8 9, .int .u8 13, .int .u8 8, .int .u8 7, .int .u8 6] t frozen
      | o => o }
theorem laid_met (os : Os) : laidMet Tryd.prog Rows.fnExactDiamondFaultRow.laid ((laidWorld os).forCall (fun _ _ => 0) ⟨#[], #[.agg #[.int .i64 0, .slice none 0 0], .agg #[.int .i64 0, .int .i64 0, .int .i64 0, .slice none 0 0]], []⟩).memory :=
  laidMet_of_run' 8 (by kernel_rfl) (by kernel_rfl)
theorem reads (os : Os) {H : Type} (enc : TypeId × Value → H) : ∃ places, DataW.whole enc Tryd.prog ((laidWorld os).forCall (fun _ _ => 0) ⟨#[], #[.agg #[.int .i64 0, .slice none 0 0], .agg #[.int .i64 0, .int .i64 0, .int .i64 0, .slice none 0 0]], []⟩).memory Tryd.f6.params.toList Rows.fnExactDiamondFaultSpec.vars false (#[.agg #[.int .i64 0, .slice none 0 0], .agg #[.int .i64 0, .int .i64 0, .int .i64 0, .slice none 0 0]] : Array Value).toList 8 = some ([.agg [.lit (.int .i64 0), .nil], .agg [.lit (.int .i64 0), .lit (.int .i64 0), .lit (.int .i64 0), .nil]], [], places) :=
  ⟨[], by kernel_rfl⟩
set_option maxRecDepth 100000 in
theorem lifted (os : Os) (started : os.Started) (H : Type) (enc : TypeId × Value → H) (F : Stop.Interp) :
    ReturnsInHanded {} Tryd.checked os 6 .any ((OpenSpec.ofChange Rows.fnExactDiamondFaultSpec).preRow enc Tryd.prog Tryd.f6 Rows.fnExactDiamondFaultRow.domain false Rows.fnExactDiamondFaultRow.laid) (((OpenSpec.ofChange Rows.fnExactDiamondFaultSpec).at F).post enc Tryd.prog Tryd.f6 false true false false) := by
  obtain ⟨places, hx⟩ := reads os enc
  refine returnsInHanded_of_row (C := Tryd.checked) (s := OpenSpec.ofChange Rows.fnExactDiamondFaultSpec) own started (by kernel_rfl) Tryd.func6
    (witness_row_at (enc := enc) (C := Tryd.checked) false (laidWorld os) #[.agg #[.int .i64 0, .slice none 0 0], .agg #[.int .i64 0, .int .i64 0, .int .i64 0, .slice none 0 0]] rfl (by kernel_rfl) (by kernel_rfl) (by kernel_rfl)
      (OpenSpec.preRow_of_cond 8 hx (by kernel_rfl) (fun k hk => by cases hk) (by kernel_rfl) (laid_met os))) ?_
  intro W base args ds gs before hval hW _ _ _ hL _ _
  exact contract H enc W base args ds gs before hval hW hL
theorem said : Rows.FnExactDiamondFaultSaid :=
  OpenClaim.holds_of_cond 6 Tryd.f6 rfl rfl rfl rfl rfl rfl rfl ⟨rfl, rfl, rfl, rfl, rfl⟩ rfl rfl rfl rfl rfl (by kernel_rfl) Tryd.func6 (by kernel_rfl)
    (of_decide_eq_true (by kernel_rfl)) (by unfold Func.isWrapper; first | (rw [if_pos (by decide +kernel)]; kernel_rfl) | (rw [if_neg (by decide +kernel)]; exact ⟨rfl, rfl⟩))
    (fun os started H enc _ F => by rw [OpenClaim.pre_eq_preRow]; exact lifted os started H enc F)
theorem plain (f : FuncId) (fn : Func) (hf : Tryd.pinned.checked.prog.funcNamed "loop.example/g01094/laws.FnExactDiamondFault" = some f) (hfn : Tryd.pinned.checked.prog.funcs[f]? = some fn) :
    false = Tryd.pinned.checked.prog.looks [] ∧ ∀ (j : Nat) t, fn.params[j]? = some t → Tryd.pinned.checked.prog.wantsStandIn t = false := by
  obtain rfl : f = 6 := Option.some.inj ((show Tryd.prog.funcNamed "loop.example/g01094/laws.FnExactDiamondFault" = some 6 by kernel_rfl).symm.trans hf) |>.symm
  obtain rfl : fn = Tryd.f6 := (Option.some.inj (Tryd.func6.symm.trans hfn)).symm
  refine ⟨by kernel_rfl, fun j t ht => ?_⟩
  rw [Tryd.params6] at ht
  have hm := Array.mem_of_getElem? ht
  simp only [List.mem_toArray, List.mem_cons, List.not_mem_nil, or_false] at hm
  rcases hm with rfl | rfl
  · exact (show Tryd.prog.wantsStandIn 24 = false by kernel_rfl)
  · exact (show Tryd.prog.wantsStandIn 44 = false by kernel_rfl)
theorem card : Rows.FnExactDiamondFaultCardSaid :=
  Claim7.holds_tied_plain_at .later [] _ _ _ _ said (fun _ h => by cases h) (by kernel_rfl) (fun _ h => by cases h) fnExactDiamondFault_row_tie rfl ⟨rfl, rfl⟩ (by kernel_rfl) rfl plain (by kernel_rfl)
#print axioms card
end Go.Proofs.YthbaocejgjpfoaaDoor.fnExactDiamondFault
namespace Go.Proofs.YthbaocejgjpfoaaDoor
/-- The card, under a short name, for the claim. -/
theorem fnExactDiamondFault_holds : Rows.FnExactDiamondFaultCardSaid := fnExactDiamondFault.card
end Go.Proofs.YthbaocejgjpfoaaDoor
end M11
