import Derived.ArgAppend
import Derived.Below
import Derived.BigQuiet
import Derived.ChangeSame
import Derived.ChangeShapes
import Derived.Deep.AppendLies
import Derived.Deep.CutBlock
import Derived.Deep.DeepCutAuto
import Derived.Deep.Draws
import Derived.Deep.LoopGhost
import Derived.Deep.OwnRows
import Derived.Deep.QuietTactic
import Derived.Deep.RegionHeld3
import Derived.Deep.Slices
import Derived.Deep.Strs
import Derived.KernelRfl
import Derived.Laws.BitsLemmas
import Derived.Laws.BytesArg
import Derived.Laws.IdiomCopy
import Derived.Laws.MakeOwn
import Derived.Laws.OwnMore
import Derived.Laws.Rows
import Derived.Laws.Slices
import Derived.Laws.Strings
import Derived.Laws.StructEq
import Derived.Lib.AppendStr
import Derived.Lib.ConvBytes
import Derived.Lib.SliceRun
import Derived.Lib.SmallJoins
import Derived.Maps.AppendAt
import Derived.OrdersHeld
import Derived.OwnWalk
import Derived.RowKit
import Derived.RowKit3
import Derived.Shelf.Abstract
import Derived.Shelf.Spec.TrailingZeros
import Derived.Tactics
import Derived.Test.YthbaocejgjpfoaaDoorChecked
import Derived.Test.YthbaocejgjpfoaaDoorProg
import Derived.WalkKit
import Derived.WideLaws
import Derived.Test.YthbaocejgjpfoaaDoorCFnExactParseExpression2
import Derived.Test.YthbaocejgjpfoaaDoorCFnExactParseExpression3
import Derived.Test.YthbaocejgjpfoaaDoorCFnExactParseExpression4
import Derived.Test.YthbaocejgjpfoaaDoorCFnExactParseExpression5
import Derived.Test.YthbaocejgjpfoaaDoorCFnExactParseExpression6
import Derived.Test.YthbaocejgjpfoaaDoorCFnExactParseExpression7
section M0
namespace Go.Proofs.YthbaocejgjpfoaaDoor.U
open Go.RowKit Go.Proofs.YthbaocejgjpfoaaDoorW.PrintWords Go.Proofs.YthbaocejgjpfoaaDoorW.PrintLast
set_option linter.unusedVariables false
/-! Small laws of numbers and lists for the plain part: what a printed loop comes to. -/
theorem w64 {n : Int} (h0 : -9223372036854775808 ≤ n) (h1 : n ≤ 9223372036854775807) : wrap64 n = n := by unfold wrap64; omega
theorem w64s {n : Nat} (h : n < 9223372036854775807) : wrap64 ((n : Int) + 1) = ((n + 1 : Nat) : Int) := by unfold wrap64; omega
theorem rdn (l : List Int) (i : Nat) : rd l (i : Int) = l.getD i 0 := rfl
theorem rd_lt {l : List Int} {i : Nat} (h : i < l.length) : rd l (i : Int) = l[i] := by
  show l.getD i 0 = _; rw [List.getD_eq_getElem?_getD, List.getElem?_eq_getElem h]; rfl
/-- One round more, the loop's own equation still to be unfolded. -/
theorem Ev.round {α : Type} {g : Nat → Option α} {r : α} (h : Ev (fun k => g (k + 1)) r) : Ev g r := by
  obtain ⟨K, h⟩ := h
  refine ⟨K + 1, fun n hn => ?_⟩
  obtain ⟨m, rfl⟩ : ∃ m, n = m + 1 := ⟨n - 1, by omega⟩
  exact h m (by omega)
theorem Ev.here {α β : Type} {g : Option α} {f : Nat → α → Option β} {a : α} {r : β} (h : g = some a) (k : Ev (fun n => f n a) r) : Ev (fun n => g.bind (f n)) r := by
  subst h; exact k
theorem Ev.yes {α : Type} {c : Prop} [Decidable c] {A B : Nat → Option α} {r : α} (h : c) (k : Ev A r) : Ev (fun n => if c then A n else B n) r := Ev.congr (fun _ => if_pos h) k
theorem Ev.no {α : Type} {c : Prop} [Decidable c] {A B : Nat → Option α} {r : α} (h : ¬ c) (k : Ev B r) : Ev (fun n => if c then A n else B n) r := Ev.congr (fun _ => if_neg h) k
theorem Ev.det {α : Type} {g : Nat → Option α} {a b : α} (h : Ev g a) (k : Ev g b) : a = b := by
  obtain ⟨K, h⟩ := h
  obtain ⟨L, k⟩ := k
  have h1 := h (max K L) (by omega)
  have h2 := k (max K L) (by omega)
  exact Option.some.inj (h1.symm.trans h2)
/-- An upward loop over an index: what it comes to from i on, if what one round does is known. -/
theorem Ev.up {σ ρ : Type} (L : Nat → σ → Int → Option ρ) (n : Nat) (R : Nat → σ → ρ) (I : Nat → σ → Prop)
    (hend : ∀ s, I n s → Ev (fun k => L k s (n : Int)) (R n s))
    (hstep : ∀ i s, i < n → I i s → (∀ s', I (i + 1) s' → Ev (fun k => L k s' ((i + 1 : Nat) : Int)) (R (i + 1) s')) → Ev (fun k => L k s (i : Int)) (R i s)) :
    ∀ i s, i ≤ n → I i s → Ev (fun k => L k s (i : Int)) (R i s) := by
  intro i s hi hI
  obtain ⟨d, hd⟩ : ∃ d, n - i = d := ⟨_, rfl⟩
  induction d generalizing i s with
  | zero =>
    have : i = n := by omega
    subst this
    exact hend s hI
  | succ d ih => exact hstep i s (by omega) hI (fun s' h' => ih (i + 1) s' (by omega) h' (by omega))
/-- The rounds come to something that Q says. -/
def EvP {α : Type} (g : Nat → Option α) (Q : α → Prop) : Prop := ∃ r, Ev g r ∧ Q r
theorem EvP.mono {α : Type} {g : Nat → Option α} {Q Q' : α → Prop} (h : EvP g Q) (k : ∀ r, Q r → Q' r) : EvP g Q' := by
  obtain ⟨r, h, q⟩ := h; exact ⟨r, h, k r q⟩
theorem EvP.round {α : Type} {g : Nat → Option α} {Q : α → Prop} (h : EvP (fun k => g (k + 1)) Q) : EvP g Q := by
  obtain ⟨r, h, q⟩ := h; exact ⟨r, Ev.round h, q⟩
theorem EvP.yes {α : Type} {c : Prop} [Decidable c] {A B : Nat → Option α} {Q : α → Prop} (h : c) (k : EvP A Q) : EvP (fun n => if c then A n else B n) Q := by
  obtain ⟨r, k, q⟩ := k; exact ⟨r, Ev.yes h k, q⟩
theorem EvP.no {α : Type} {c : Prop} [Decidable c] {A B : Nat → Option α} {Q : α → Prop} (h : ¬ c) (k : EvP B Q) : EvP (fun n => if c then A n else B n) Q := by
  obtain ⟨r, k, q⟩ := k; exact ⟨r, Ev.no h k, q⟩
theorem EvP.here {α β : Type} {g : Option α} {f : Nat → α → Option β} {a : α} {Q : β → Prop} (h : g = some a) (k : EvP (fun n => f n a) Q) : EvP (fun n => g.bind (f n)) Q := by
  obtain ⟨r, k, q⟩ := k; exact ⟨r, Ev.here h k, q⟩
theorem EvP.bind {α β : Type} {g : Nat → Option α} {f : Nat → α → Option β} {a : α} {Q : β → Prop} (h : Ev g a) (k : EvP (fun n => f n a) Q) : EvP (fun n => (g n).bind (f n)) Q := by
  obtain ⟨r, k, q⟩ := k; exact ⟨r, Ev.bind h k, q⟩
theorem EvP.up {σ ρ : Type} (L : Nat → σ → Int → Option ρ) (Q : ρ → Prop) (n : Nat) (I : Nat → σ → Prop)
    (hend : ∀ s, I n s → EvP (fun k => L k s (n : Int)) Q)
    (hstep : ∀ i s, i < n → I i s → (∀ s', I (i + 1) s' → EvP (fun k => L k s' ((i + 1 : Nat) : Int)) Q) → EvP (fun k => L k s (i : Int)) Q) :
    ∀ i s, i ≤ n → I i s → EvP (fun k => L k s (i : Int)) Q := by
  intro i s hi hI
  obtain ⟨d, hd⟩ : ∃ d, n - i = d := ⟨_, rfl⟩
  induction d generalizing i s with
  | zero =>
    have : i = n := by omega
    subst this
    exact hend s hI
  | succ d ih => exact hstep i s (by omega) hI (fun s' h' => ih (i + 1) s' (by omega) h' (by omega))
end Go.Proofs.YthbaocejgjpfoaaDoor.U
end M0
section M1
namespace Go.Proofs.YthbaocejgjpfoaaDoor.U
open Go.RowKit Go.Proofs.YthbaocejgjpfoaaDoor.P Go.Proofs.YthbaocejgjpfoaaDoorW.PrintWords Go.Proofs.YthbaocejgjpfoaaDoorW.PrintLast
set_option linter.unusedVariables false
/-! What the law's own helpers come to: copies, equality, sizes. -/
theorem toS (x0 : List Int) (hn : x0.length ≤ 35184372088832) : Ev (fun k => laws_toInt64S.f k x0) x0 := by
  have key := Ev.up (fun k s i => laws_toInt64S.l0 k x0 s i) x0.length (fun _ _ => x0) (fun i s => s.length = x0.length ∧ ∀ j, j < i → s[j]? = x0[j]?)
    (fun s ⟨h1, h2⟩ => by
      refine Ev.round ?_
      simp only [laws_toInt64S.l0]
      refine Ev.no (by omega) ?_
      have : s = x0 := List.ext_getElem? fun j => by
        by_cases hj : j < x0.length
        · exact h2 j hj
        · rw [List.getElem?_eq_none (by omega), List.getElem?_eq_none (by omega)]
      rw [this]
      exact Ev.now _)
    (fun i s hi ⟨h1, h2⟩ ih => by
      refine Ev.round ?_
      simp only [laws_toInt64S.l0]
      refine Ev.yes (by omega) (Ev.yes (by omega) (Ev.yes (by omega) ?_))
      rw [w64s (by omega)]
      refine ih _ ⟨by simp [h1], fun j hj => ?_⟩
      rw [Int.toNat_natCast, rd_lt hi]
      by_cases e : j = i
      · subst e
        rw [List.getElem?_set_self (by omega), List.getElem?_eq_getElem hi]
      · rw [List.getElem?_set_ne (by omega)]
        exact h2 j (by omega))
  unfold laws_toInt64S.f
  refine Ev.yes (by omega) (Ev.yes (by omega) ?_)
  have := key 0 (List.replicate x0.length 0) (by omega) ⟨by simp, fun j hj => absurd hj (by omega)⟩
  simpa using this
theorem eqS (a b : List Int) (hn : a.length ≤ 9223372036854775806) : Ev (fun k => laws_eqInt64S.f k a b) (decide (a = b)) := by
  unfold laws_eqInt64S.f
  by_cases hl : a.length = b.length
  · refine Ev.yes (by omega) ?_
    have key := Ev.up (fun k (_ : Unit) i => laws_eqInt64S.l0 k a b i) a.length (fun _ _ => decide (a = b)) (fun i _ => ∀ j, j < i → a[j]? = b[j]?)
      (fun _ h2 => by
        refine Ev.round ?_
        simp only [laws_eqInt64S.l0]
        refine Ev.no (by omega) ?_
        have : a = b := List.ext_getElem? fun j => by
          by_cases hj : j < a.length
          · exact h2 j hj
          · rw [List.getElem?_eq_none (by omega), List.getElem?_eq_none (by omega)]
        rw [decide_eq_true this]
        exact Ev.now _)
      (fun i _ hi h2 ih => by
        refine Ev.round ?_
        simp only [laws_eqInt64S.l0]
        refine Ev.yes (by omega) (Ev.yes (by omega) (Ev.yes (by omega) ?_))
        rw [rd_lt hi, rd_lt (by omega : i < b.length), w64s (by omega)]
        by_cases e : a[i] = b[i]
        · refine Ev.yes e (ih () fun j hj => ?_)
          by_cases e' : j = i
          · subst e'
            rw [List.getElem?_eq_getElem hi, List.getElem?_eq_getElem (by omega), e]
          · exact h2 j (by omega)
        · refine Ev.no e ?_
          rw [decide_eq_false (fun h => e (by subst h; rfl))]
          exact Ev.now _)
    have := key 0 () (by omega) (fun j hj => absurd hj (by omega))
    simpa using this
  · refine Ev.no (by omega) ?_
    rw [decide_eq_false (fun h => hl (by rw [h]))]
    exact Ev.now _
end Go.Proofs.YthbaocejgjpfoaaDoor.U
end M1
section M2
namespace Go.Proofs.YthbaocejgjpfoaaDoor.U
open Go.RowKit Go.Proofs.YthbaocejgjpfoaaDoorW.PrintWords Go.Proofs.YthbaocejgjpfoaaDoorW.PrintLast Go.Proofs.YthbaocejgjpfoaaDoorW.PrintMore
set_option linter.unusedVariables false
/-! Sets as numbers. -/
theorem i64_id (n : Int) (h0 : 0 ≤ n) (h1 : n < 2 ^ 63) : IntKind.i64.wrap n = n := by rw [IntKind.wrap_i64]; omega
theorem bor {a b : Nat} (ha : a < 2 ^ 63) (hb : b < 2 ^ 63) : bits .or .i64 (a : Int) (b : Int) = ((a ||| b : Nat) : Int) := (bits_nat .i64 63 (by decide) i64_id a b ha hb).2
theorem band {a b : Nat} (ha : a < 2 ^ 63) (hb : b < 2 ^ 63) : bits .and .i64 (a : Int) (b : Int) = ((a &&& b : Nat) : Int) := (bits_nat .i64 63 (by decide) i64_id a b ha hb).1
theorem shl1 {i : Nat} (hi : i < 63) : shl .i64 1 (i : Int) = ((2 ^ i : Nat) : Int) := by
  unfold shl
  rw [Int.toNat_natCast]
  have : min i IntKind.i64.bits = i := Nat.min_eq_left (by show i ≤ 64; omega)
  rw [this, Int.one_mul]
  have h := Nat.pow_lt_pow_right (a := 2) (by decide) hi
  rw [show ((2 : Int) ^ i) = ((2 ^ i : Nat) : Int) from by simp]
  exact i64_id _ (Int.natCast_nonneg _) (by exact_mod_cast h)
/-- The members k < n with p k, joined to s. -/
def orN (p : Nat → Bool) : Nat → Nat → Nat
  | 0, s => s
  | n + 1, s => if p n then orN p n s ||| 2 ^ n else orN p n s
theorem orN_yes {p : Nat → Bool} {n s : Nat} (h : p n = true) : orN p (n + 1) s = orN p n s ||| 2 ^ n := if_pos h
theorem orN_no {p : Nat → Bool} {n s : Nat} (h : p n = false) : orN p (n + 1) s = orN p n s := if_neg (by rw [h]; simp)
theorem testBit_orN (p : Nat → Bool) (n s j : Nat) : (orN p n s).testBit j = (s.testBit j || (decide (j < n) && p j)) := by
  induction n with
  | zero => simp [orN]
  | succ n ih =>
    unfold orN
    by_cases h : p n
    · rw [if_pos h, Nat.testBit_or, ih, Nat.testBit_two_pow]
      by_cases e : n = j
      · subst e; simp [h]
      · have e2 : decide (j < n + 1) = decide (j < n) := by rw [decide_eq_decide]; omega
        rw [e2]; simp [e]
    · rw [if_neg h, ih]
      by_cases e : n = j
      · subst e; simp [h]
      · have e2 : decide (j < n + 1) = decide (j < n) := by rw [decide_eq_decide]; omega
        rw [e2]
theorem orN_lt (p : Nat → Bool) (n s m : Nat) (hn : n ≤ m) (hs : s < 2 ^ m) : orN p n s < 2 ^ m := by
  induction n with
  | zero => exact hs
  | succ n ih =>
    unfold orN
    split
    · exact Nat.or_lt_two_pow (ih (by omega)) (Nat.pow_lt_pow_right (by decide) (by omega))
    · exact ih (by omega)
theorem hasN {m s : Nat} (hm : m < 2 ^ 63) (hs : s ≤ 64) : ((bits .and .i64 (shr .i64 (m : Int) (s : Int)) 1) == 1) = m.testBit s := by
  have hsh : shr .i64 (m : Int) (s : Int) = ((m / 2 ^ s : Nat) : Int) := by
    unfold shr
    rw [Int.toNat_natCast, Nat.min_eq_left (show s ≤ IntKind.i64.bits from hs)]
    rw [show ((2 : Int) ^ s) = ((2 ^ s : Nat) : Int) from by simp]
    exact (Int.natCast_ediv _ _).symm
  have hq : m / 2 ^ s < 2 ^ 63 := Nat.lt_of_le_of_lt (Nat.div_le_self _ _) hm
  rw [hsh, show (1 : Int) = ((1 : Nat) : Int) from rfl, band hq (by decide), Nat.and_one_is_mod, Nat.testBit_eq_decide_div_mod_eq]
  generalize m / 2 ^ s % 2 = r
  by_cases h : r = 1
  · subst h; rfl
  · rw [decide_eq_false h]
    simp; omega
end Go.Proofs.YthbaocejgjpfoaaDoor.U
end M2
section M3
namespace Go.Proofs.YthbaocejgjpfoaaDoor.U
open Go.RowKit Go.Proofs.YthbaocejgjpfoaaDoor.P Go.Proofs.YthbaocejgjpfoaaDoorW.PrintWords Go.Proofs.YthbaocejgjpfoaaDoorW.PrintLast Go.Proofs.YthbaocejgjpfoaaDoorW.PrintMore
set_option linter.unusedVariables false
/-! Alphabets: both tests answer alike. -/
def inI (a lo hi : Int) : Bool := decide (lo ≤ a) && decide (a ≤ hi)
theorem inI_iff {a lo hi : Int} : inI a lo hi = true ↔ lo ≤ a ∧ a ≤ hi := by unfold inI; simp
theorem spInI (a lo hi : Int) : spec_l01In.f a lo hi = some (inI a lo hi) := by
  unfold spec_l01In.f inI
  by_cases h : lo ≤ a
  · rw [if_pos h, decide_eq_true h, Bool.true_and]
  · rw [if_neg h, decide_eq_false h, Bool.false_and]
theorem imInI (a lo hi : Int) : impl_inRange.f a lo hi = some (inI a lo hi) := by
  unfold impl_inRange.f inI
  by_cases h : lo ≤ a
  · rw [if_pos h, decide_eq_true h, Bool.true_and]
  · rw [if_neg h, decide_eq_false h, Bool.false_and]
theorem u64i {n : Nat} (h : n < 18446744073709551616) : IntKind.u64.wrap (n : Int) = (n : Int) := by
  show (n : Int) % 18446744073709551616 = n
  omega
theorem spOneI {i : Nat} (h : i < 63) : spec_l01One.f (i : Int) = some ((2 ^ i : Nat) : Int) := by
  unfold spec_l01One.f
  rw [u64i (by omega), if_pos (by omega), shl1 h]
theorem imOneI {i : Nat} (h : i < 63) : impl_one.f (i : Int) = some ((2 ^ i : Nat) : Int) := by
  unfold impl_one.f
  rw [if_pos (by omega), shl1 h]
theorem fullW {n : Nat} (h : n < 63) : wrap64 (((2 ^ n : Nat) : Int) - 1) = ((2 ^ n - 1 : Nat) : Int) := by
  have h1 := Nat.pow_lt_pow_right (a := 2) (by decide) h
  have h2 : 0 < 2 ^ n := Nat.pow_pos (by decide)
  generalize 2 ^ n = p at h1 h2
  have h3 : (2 : Nat) ^ 63 = 9223372036854775808 := by decide
  rw [h3] at h1
  rw [w64 (by omega) (by omega)]
  omega
theorem spFullI {n : Nat} (h : n < 63) : spec_l01Full.f (n : Int) = some ((2 ^ n - 1 : Nat) : Int) := by
  unfold spec_l01Full.f
  rw [spOneI h]
  simp only [Option.bind_some]
  rw [fullW h]
theorem spBitI {m s : Nat} (hm : m < 2 ^ 63) (hs : s ≤ 64) : spec_l01Bit.f (m : Int) (s : Int) = some (m.testBit s) := by
  unfold spec_l01Bit.f
  rw [u64i (by omega), if_pos (by omega), hasN hm hs]
theorem imHasI {m s : Nat} (hm : m < 2 ^ 63) (hs : s ≤ 64) : impl_has.f (m : Int) (s : Int) = some (m.testBit s) := by
  unfold impl_has.f
  rw [if_pos (by omega), hasN hm hs]
/-- Does row a of a relation have b? -/
def bt (d : List Int) (a b : Nat) : Bool := (d.getD a 0).toNat.testBit b
def okRow (d : List Int) (a : Nat) : Prop := bt d a a = true ∧ ∀ b, b < d.length → bt d a b = bt d b a
instance (d : List Int) (a : Nat) : Decidable (okRow d a) := by unfold okRow; exact inferInstance
def symB (d : List Int) : Bool := decide (∀ a, a < d.length → okRow d a)
/-- Is it an alphabet? -/
def alB (n : Int) (d : List Int) : Bool := inI n 0 8 && (decide ((d.length : Int) = n) && ((d.all fun t => inI t 0 ((2 ^ d.length - 1 : Nat) : Int)) && symB d))
theorem symB_no {d : List Int} {a : Nat} (ha : a < d.length) (h : ¬ okRow d a) : symB d = false := decide_eq_false fun hh => h (hh a ha)
theorem masks_ev (d : List Int) (hn : d.length ≤ 8) : Ev (fun k => spec_l01Masks.f k (d.length : Int) d) (d.all fun t => inI t 0 ((2 ^ d.length - 1 : Nat) : Int)) := by
  have key := Ev.up (fun k (_ : Unit) i => spec_l01Masks.l0 k (d.length : Int) d i) d.length (fun i _ => (d.drop i).all fun t => inI t 0 ((2 ^ d.length - 1 : Nat) : Int)) (fun _ _ => True)
    (fun _ _ => by
      refine Ev.round ?_
      simp only [spec_l01Masks.l0]
      refine Ev.no (by omega) ?_
      rw [List.drop_length]
      exact Ev.now _)
    (fun i _ hi _ ih => by
      refine Ev.round ?_
      simp only [spec_l01Masks.l0]
      refine Ev.yes (by omega) (Ev.yes (by omega) (Ev.here (spFullI (by omega)) (Ev.here (spInI _ _ _) ?_)))
      rw [rd_lt hi, w64s (by omega), List.drop_eq_getElem_cons hi, List.all_cons]
      cases inI d[i] 0 ((2 ^ d.length - 1 : Nat) : Int)
      · exact Ev.no (by simp) (Ev.now _)
      · exact Ev.yes rfl (ih () trivial))
  have := key 0 () (by omega) trivial
  unfold spec_l01Masks.f
  simpa using this
/-- The rows are sets of letters. -/
def Sets (d : List Int) : Prop := d.length ≤ 8 ∧ ∀ a, a < d.length → 0 ≤ d.getD a 0 ∧ (d.getD a 0).toNat < 2 ^ d.length
theorem Sets.small {d : List Int} (h : Sets d) {a : Nat} (ha : a < d.length) : (d.getD a 0).toNat < 256 :=
  Nat.lt_of_lt_of_le (h.2 a ha).2 (show 2 ^ d.length ≤ 2 ^ 8 from Nat.pow_le_pow_right (by decide) h.1)
theorem Sets.rdE {d : List Int} (h : Sets d) {a : Nat} (ha : a < d.length) : rd d (a : Int) = ((d.getD a 0).toNat : Int) := by
  rw [rdn]; exact (Int.toNat_of_nonneg (h.2 a ha).1).symm
theorem sets_of {d : List Int} (hn : d.length ≤ 8) (h : (d.all fun t => inI t 0 ((2 ^ d.length - 1 : Nat) : Int)) = true) : Sets d := by
  refine ⟨hn, fun a ha => ?_⟩
  have := List.all_eq_true.1 h _ (List.getElem_mem ha)
  rw [inI_iff] at this
  rw [List.getD_eq_getElem?_getD, List.getElem?_eq_getElem ha]
  simp only [Option.getD_some]
  have h2 : 0 < 2 ^ d.length := Nat.pow_pos (by decide)
  generalize 2 ^ d.length = p at this h2
  omega
theorem spBitR {d : List Int} (h : Sets d) {a b : Nat} (ha : a < d.length) (hb : b ≤ 64) : spec_l01Bit.f (rd d (a : Int)) (b : Int) = some (bt d a b) := by
  rw [h.rdE ha, spBitI (Nat.lt_of_lt_of_le (h.small ha) (by decide)) hb]
  rfl
theorem l02Loop (d : List Int) (h : Sets d) : Ev (fun k => spec_l02Is.l0 k 0 (d.length : Int) d) (symB d) := by
  have hn := h.1
  have key := Ev.up (fun k (_ : Unit) i => spec_l02Is.l0 k i (d.length : Int) d) d.length (fun _ _ => symB d) (fun i _ => ∀ a, a < i → okRow d a)
    (fun _ hI => by
      refine Ev.round ?_
      simp only [spec_l02Is.l0]
      refine Ev.no (by omega) ?_
      rw [show symB d = true from decide_eq_true hI]
      exact Ev.now _)
    (fun i _ hi hI ih => by
      refine Ev.round ?_
      simp only [spec_l02Is.l0]
      refine Ev.yes (by omega) (Ev.yes (by omega) (Ev.yes (by omega) (Ev.here (spBitR h hi (by omega)) ?_)))
      cases hb : bt d i i
      · refine Ev.no (by simp) ?_
        rw [symB_no hi (fun hh => by rw [hh.1] at hb; cases hb)]
        exact Ev.now _
      refine Ev.yes rfl ?_
      have inner := Ev.up (fun k (_ : Unit) j => spec_l02Is.l1 k (i : Int) j (d.length : Int) d) d.length (fun _ _ => symB d) (fun j _ => ∀ b, b < j → bt d i b = bt d b i)
        (fun _ hJ => by
          refine Ev.round ?_
          simp only [spec_l02Is.l1]
          refine Ev.no (by omega) ?_
          rw [w64s (by omega)]
          refine ih () fun a ha => ?_
          by_cases e : a = i
          · subst e; exact ⟨hb, hJ⟩
          · exact hI a (by omega))
        (fun j _ hj hJ ihj => by
          refine Ev.round ?_
          simp only [spec_l02Is.l1]
          refine Ev.yes (by omega) (Ev.yes (by omega) (Ev.yes (by omega) (Ev.here (spBitR h hi (by omega)) (Ev.yes (by omega) (Ev.yes (by omega) (Ev.here (spBitR h hj (by omega)) ?_))))))
          rw [w64s (by omega)]
          by_cases e : bt d i j = bt d j i
          · refine Ev.no (by simp [e]) (ihj () fun b hb' => ?_)
            by_cases e' : b = j
            · subst e'; exact e
            · exact hJ b (by omega)
          · refine Ev.yes (by simp [e]) ?_
            rw [symB_no hi (fun hh => e (hh.2 j hj))]
            exact Ev.now _)
      have := inner 0 () (by omega) (fun b hb => absurd hb (by omega))
      simpa using this)
  have := key 0 () (by omega) (fun b hb => absurd hb (by omega))
  simpa using this
theorem l02Is_ev (n : Int) (d : List Int) : Ev (fun k => spec_l02Is.f k n d) (alB n d) := by
  unfold spec_l02Is.f alB
  have hno : Ev (fun k => spec_l02Is.j0 k true n d) false := Ev.round (by simp only [spec_l02Is.j0]; exact Ev.yes (by trivial) (Ev.now _))
  refine Ev.here (spInI _ _ _) ?_
  cases h1 : inI n 0 8
  · exact Ev.no (by simp) hno
  rw [inI_iff] at h1
  refine Ev.yes rfl ?_
  by_cases h2 : (d.length : Int) = n
  · subst h2
    refine Ev.yes rfl (Ev.bind (masks_ev d (by omega)) (Ev.round ?_))
    simp only [spec_l02Is.j0]
    rw [decide_true]
    cases h3 : d.all fun t => inI t 0 ((2 ^ d.length - 1 : Nat) : Int)
    · exact Ev.yes rfl (Ev.now _)
    · exact Ev.no (by simp) (l02Loop d (sets_of (by omega) h3))
  · refine Ev.no h2 ?_
    rw [decide_eq_false h2]
    exact hno
/-- The members of a small set. -/
def memN (m : Nat) : List Nat := (List.range 8).filter (m.testBit ·)
theorem mem_step : ∀ m : Fin 256, m.val ≠ 0 → (impl_least.f (m.val : Int) = some ((Lib.ctz 64 m.val : Nat) : Int) ∧ Go.bits .and .i64 (m.val : Int) (wrap64 ((m.val : Int) - 1)) = ((m.val &&& (m.val - 1) : Nat) : Int)
    ∧ m.val &&& (m.val - 1) < m.val ∧ memN m.val = Lib.ctz 64 m.val :: memN (m.val &&& (m.val - 1))) := by decide +kernel
theorem members_loop (m : Nat) (hm : m < 256) : ∀ acc : List Int, acc.length + m < 17592186044416 → Ev (fun k => impl_members.l0 k (m : Int) acc) (acc ++ (memN m).map Int.ofNat) := by
  induction m using Nat.strongRecOn with
  | _ m ih =>
    intro acc ha
    refine Ev.round ?_
    simp only [impl_members.l0]
    by_cases h0 : m = 0
    · subst h0
      refine Ev.yes rfl ?_
      rw [show memN 0 = [] from by decide, List.map_nil, List.append_nil]
      exact Ev.now _
    · obtain ⟨h1, h2, h3, h4⟩ := mem_step ⟨m, hm⟩ h0
      simp only at h1 h2 h3 h4
      refine Ev.no (by omega) (Ev.here h1 (Ev.yes (by omega) ?_))
      rw [h2, h4, List.map_cons]
      have := ih _ h3 (by omega) (acc ++ [((Lib.ctz 64 m : Nat) : Int)]) (by rw [List.length_append, List.length_singleton]; omega)
      rw [List.append_assoc] at this
      exact this
theorem members_ev {m : Nat} (hm : m < 256) : Ev (fun k => impl_members.f k (m : Int)) ((memN m).map Int.ofNat) := by
  unfold impl_members.f
  have := members_loop m hm [] (by have : ([] : List Int).length = 0 := rfl; omega)
  simpa using this
theorem mem_memN {m k : Nat} (hm : m < 256) : k ∈ memN m ↔ m.testBit k = true := by
  unfold memN
  rw [List.mem_filter, List.mem_range]
  refine ⟨fun h => h.2, fun h => ⟨?_, h⟩⟩
  rcases Nat.lt_or_ge k 8 with h8 | h8
  · exact h8
  · rw [Nat.testBit_lt_two_pow (Nat.lt_of_lt_of_le hm (show 2 ^ 8 ≤ 2 ^ k from Nat.pow_le_pow_right (by decide) h8))] at h
    cases h
/-- The converse's row k from the first i rows. -/
def cvN (d : List Int) (i k : Nat) : Nat := orN (fun j => bt d j k) i 0
theorem cvN_lt (d : List Int) {i k : Nat} (hi : i ≤ 8) : cvN d i k < 256 := orN_lt _ i 0 8 hi (by decide)
def cvTo (d : List Int) (i : Nat) : List Int := (List.range d.length).map fun k => ((cvN d i k : Nat) : Int)
theorem converse_ev (d : List Int) (h : Sets d) : Ev (fun k => impl_converse.f k d) (cvTo d d.length) := by
  have hn := h.1
  have key := Ev.up (fun k (s : List Int) i => impl_converse.l0 k s d (d.length : Int) i) d.length (fun _ _ => cvTo d d.length) (fun i s => s = cvTo d i)
    (fun s hs => by
      refine Ev.round ?_
      simp only [impl_converse.l0]
      refine Ev.no (by omega) ?_
      rw [hs]
      exact Ev.now _)
    (fun i s hi hs ih => by
      refine Ev.round ?_
      simp only [impl_converse.l0]
      refine Ev.yes (by omega) (Ev.yes (by omega) (Ev.yes (by omega) ?_))
      rw [h.rdE hi]
      have hm := h.small hi
      refine Ev.bind (members_ev hm) ?_
      generalize hM : (d.getD i 0).toNat = m at hm
      have hbt : ∀ k, bt d i k = m.testBit k := fun k => by unfold bt; rw [hM]
      have hlt : ∀ k, k ∈ memN m → k < d.length := fun k hk => by
        rw [mem_memN hm] at hk
        rcases Nat.lt_or_ge k d.length with h8 | h8
        · exact h8
        · have := (h.2 i hi).2
          rw [hM] at this
          rw [Nat.testBit_lt_two_pow (Nat.lt_of_lt_of_le this (Nat.pow_le_pow_right (by decide) h8))] at hk
          cases hk
      have hlen : (memN m).length ≤ 8 := by unfold memN; exact Nat.le_trans (List.length_filter_le _ _) (by simp)
      have hgl : ((memN m).map Int.ofNat).length = (memN m).length := List.length_map _
      have inner := Ev.up (fun k (s : List Int) j => impl_converse.l1 k s (i : Int) d (d.length : Int) (i : Int) ((memN m).map Int.ofNat) (((memN m).map Int.ofNat).length : Int) j) (memN m).length (fun _ _ => cvTo d d.length)
        (fun j s => s = (List.range d.length).map fun k => ((cvN d i k ||| (if k ∈ (memN m).take j then 2 ^ i else 0) : Nat) : Int))
        (fun s hs => by
          refine Ev.round ?_
          simp only [impl_converse.l1]
          refine Ev.no (by omega) ?_
          rw [w64s (by omega)]
          refine ih _ ?_
          rw [hs, List.take_length]
          unfold cvTo
          refine List.map_congr_left fun k _ => ?_
          congr 1
          unfold cvN
          by_cases hk : k ∈ memN m
          · rw [if_pos hk, orN_yes (by show bt d i k = true; rw [hbt]; exact (mem_memN hm).1 hk)]
          · rw [if_neg hk, orN_no (by
              show bt d i k = false
              rw [hbt]
              cases hq : m.testBit k
              · rfl
              · exact absurd ((mem_memN hm).2 hq) hk), Nat.or_zero])
        (fun j s hj hs ihj => by
          refine Ev.round ?_
          simp only [impl_converse.l1]
          have hg : rd ((memN m).map Int.ofNat) (j : Int) = (((memN m)[j] : Nat) : Int) := by
            rw [rd_lt (by omega), List.getElem_map]; rfl
          rw [hg]
          have htl := hlt _ (List.getElem_mem hj)
          have htk : ∀ k, k ∈ (memN m).take (j + 1) ↔ k ∈ (memN m).take j ∨ k = (memN m)[j] := fun k => by
            rw [List.take_add_one, List.getElem?_eq_getElem hj, List.mem_append]
            simp
          generalize (memN m)[j] = t at htl htk
          have hsl : s.length = d.length := by rw [hs]; simp
          refine Ev.yes (by omega) (Ev.yes (by omega) (Ev.yes (by omega) (Ev.yes (by omega) (Ev.yes (by omega) (Ev.here (imOneI (by omega)) ?_)))))
          rw [w64s (by omega)]
          refine ihj _ ?_
          rw [Int.toNat_natCast, rd_lt (by omega : t < s.length)]
          have hx : (if t ∈ (memN m).take j then 2 ^ i else 0) < 2 ^ 8 := by
            split
            · exact Nat.pow_lt_pow_right (by decide) (by omega)
            · decide
          have hst : s[t]'(by omega) = ((cvN d i t ||| (if t ∈ (memN m).take j then 2 ^ i else 0) : Nat) : Int) := by simp only [hs, List.getElem_map, List.getElem_range]
          rw [hst, bor (Nat.lt_of_lt_of_le (Nat.or_lt_two_pow (cvN_lt d (by omega)) hx) (by decide)) (Nat.pow_lt_pow_right (by decide) (by omega)), hs]
          apply List.ext_getElem?
          intro k
          by_cases hk : k < d.length
          · by_cases e : k = t
            · subst e
              rw [List.getElem?_set_self (by simpa using hk)]
              simp only [List.getElem?_map, List.getElem?_range hk, Option.map_some]
              rw [if_pos ((htk k).2 (Or.inr rfl)), Nat.or_assoc]
              congr 3
              split
              · exact Nat.or_self _
              · exact Nat.zero_or _
            · rw [List.getElem?_set_ne (by omega)]
              simp only [List.getElem?_map, List.getElem?_range hk, Option.map_some]
              congr 4
              exact propext ((htk k).trans (or_iff_left e)).symm
          · rw [List.getElem?_eq_none (by simp; omega), List.getElem?_eq_none (by simp; omega)])
      have := inner 0 s (by omega) (by rw [hs]; unfold cvTo; refine List.map_congr_left fun k _ => ?_; simp)
      simpa using this)
  unfold impl_converse.f
  refine Ev.yes (by omega) (Ev.yes (by omega) ?_)
  have := key 0 (List.replicate d.length 0) (by omega) (by
    apply List.ext_getElem?
    intro k
    unfold cvTo
    by_cases hk : k < d.length
    · simp [hk, cvN, orN]
    · rw [List.getElem?_eq_none (by simp; omega), List.getElem?_eq_none (by simp; omega)])
  simpa using this
theorem cv_bit (d : List Int) (k j : Nat) : (cvN d d.length k).testBit j = (decide (j < d.length) && bt d j k) := by
  unfold cvN
  rw [testBit_orN]
  simp
theorem cv_row {d : List Int} (h : Sets d) {k : Nat} (hk : k < d.length) : (cvN d d.length k = (d.getD k 0).toNat ∧ (cvN d d.length k).testBit k = true) ↔ okRow d k := by
  have hb : ∀ b, ¬ b < d.length → bt d k b = false := fun b hb => by
    unfold bt
    exact Nat.testBit_lt_two_pow (Nat.lt_of_lt_of_le (h.2 k hk).2 (Nat.pow_le_pow_right (by decide) (by omega)))
  constructor
  · rintro ⟨h1, h2⟩
    have h3 : ∀ b, b < d.length → bt d b k = bt d k b := fun b hb => by
      have := cv_bit d k b
      rw [h1, decide_eq_true hb, Bool.true_and] at this
      exact this.symm
    refine ⟨?_, fun b hb => (h3 b hb).symm⟩
    rw [h1] at h2
    exact h2
  · rintro ⟨h1, h2⟩
    have e : cvN d d.length k = (d.getD k 0).toNat := by
      apply Nat.eq_of_testBit_eq
      intro j
      rw [cv_bit]
      by_cases hj : j < d.length
      · rw [decide_eq_true hj, Bool.true_and]
        exact (h2 j hj).symm
      · rw [decide_eq_false hj, Bool.false_and]
        exact (hb j hj).symm
    exact ⟨e, by rw [e]; exact h1⟩
theorem isAl_loop (d : List Int) (h : Sets d) : Ev (fun k => impl_IsAlphabet.l0 k (cvTo d d.length) (d.length : Int) 0 (d.length : Int) d) (symB d) := by
  have hn := h.1
  have hcl : (cvTo d d.length).length = d.length := by simp [cvTo]
  have key := Ev.up (fun k (_ : Unit) i => impl_IsAlphabet.l0 k (cvTo d d.length) (d.length : Int) i (d.length : Int) d) d.length (fun _ _ => symB d) (fun i _ => ∀ a, a < i → okRow d a)
    (fun _ hI => by
      refine Ev.round ?_
      simp only [impl_IsAlphabet.l0]
      refine Ev.no (by omega) ?_
      rw [show symB d = true from decide_eq_true hI]
      exact Ev.now _)
    (fun i _ hi hI ih => by
      refine Ev.round ?_
      simp only [impl_IsAlphabet.l0]
      have hg : rd (cvTo d d.length) (i : Int) = ((cvN d d.length i : Nat) : Int) := by
        rw [rd_lt (by omega)]; unfold cvTo; rw [List.getElem_map, List.getElem_range]
      have hl := cvN_lt d (k := i) hn
      refine Ev.yes (by omega) (Ev.yes (by omega) (Ev.yes (by omega) (Ev.yes (by omega) ?_)))
      rw [hg, h.rdE hi, w64s (by omega)]
      have hc := cv_row h hi
      by_cases e : cvN d d.length i = (d.getD i 0).toNat
      · refine Ev.yes (by rw [e]) (Ev.here (imHasI (by omega) (by omega)) ?_)
        cases hb : (cvN d d.length i).testBit i
        · refine Ev.no (by simp) ?_
          rw [symB_no hi (fun hh => by have := (hc.2 hh).2; rw [hb] at this; cases this)]
          exact Ev.now _
        · refine Ev.yes rfl (ih () fun a ha => ?_)
          by_cases e' : a = i
          · subst e'; exact hc.1 ⟨e, hb⟩
          · exact hI a (by omega)
      · refine Ev.no (by omega) ?_
        rw [symB_no hi (fun hh => e (hc.2 hh).1)]
        exact Ev.now _)
  have := key 0 () (by omega) (fun b hb => absurd hb (by omega))
  simpa using this
theorem isAl_ev (n : Int) (d : List Int) : Ev (fun k => impl_IsAlphabet.f k n d) (alB n d) := by
  unfold impl_IsAlphabet.f alB
  have hno : Ev (fun k => impl_IsAlphabet.j0 k true n d) false := Ev.round (by simp only [impl_IsAlphabet.j0]; exact Ev.yes (by trivial) (Ev.now _))
  refine Ev.here (imInI _ _ _) ?_
  cases h1 : inI n 0 8
  · exact Ev.no (by simp) hno
  rw [inI_iff] at h1
  refine Ev.yes rfl (Ev.here (show impl_length_int64_80.f d = some (d.length : Int) from rfl) ?_)
  by_cases h2 : (d.length : Int) = n
  · subst h2
    refine Ev.yes rfl ?_
    have hr : impl_IsRelation.f d = some (d.all fun t => inI t 0 ((2 ^ d.length - 1 : Nat) : Int)) := by
      unfold impl_IsRelation.f
      rw [if_pos (by omega)]
      refine (congrArg (fun o => Option.bind o _) (show impl_length_int64_80.f d = some (d.length : Int) from rfl)).trans ?_
      simp only [Option.bind_some]
      rw [imOneI (by omega)]
      simp only [Option.bind_some]
      rw [fullW (by omega)]
      rfl
    refine Ev.here hr (Ev.round ?_)
    simp only [impl_IsAlphabet.j0]
    rw [decide_true]
    cases h3 : d.all fun t => inI t 0 ((2 ^ d.length - 1 : Nat) : Int)
    · exact Ev.yes rfl (Ev.now _)
    · refine Ev.no (by simp) (Ev.bind (converse_ev d (sets_of (by omega) h3)) ?_)
      have hcl : (cvTo d d.length).length = d.length := by simp [cvTo]
      rw [hcl]
      simpa using isAl_loop d (sets_of (by omega) h3)
  · refine Ev.no h2 ?_
    rw [decide_eq_false h2]
    exact hno
end Go.Proofs.YthbaocejgjpfoaaDoor.U
end M3
section M4
namespace Go.Proofs.YthbaocejgjpfoaaDoor.U
open Go.RowKit Go.Proofs.YthbaocejgjpfoaaDoor.P Go.Proofs.YthbaocejgjpfoaaDoorW.PrintWords Go.Proofs.YthbaocejgjpfoaaDoorW.PrintLast Go.Proofs.YthbaocejgjpfoaaDoorW.PrintMore
set_option linter.unusedVariables false
/-! Expressions: both tests answer alike. -/
abbrev TmT := S84
def tD (e : List TmT) (i : Nat) : TmT := e.getD i z84
theorem rdTm (e : List TmT) (i : Nat) : rd_T84 e (i : Int) = tD e i := rfl
/-- Is this a term over n letters? -/
def tOk (n : Int) (t : TmT) : Bool := inI t.f0 0 5 && (if t.f0 = 2 then inI t.f1 0 (wrap64 (n - 1)) else decide (t.f1 = 0))
theorem inI00 (a : Int) : inI a 0 0 = decide (a = 0) := by
  unfold inI
  rw [← Bool.decide_and, decide_eq_decide]
  omega
theorem endNeg (e : List TmT) (a : Int) (h : a < 0) : Ev (fun k => spec_l13End.f k e a) (-1) := by
  refine Ev.round ?_
  simp only [spec_l13End.f]
  refine Ev.yes h (Ev.round ?_)
  simp only [spec_l13End.j0]
  exact Ev.yes (by trivial) (Ev.now _)
theorem ends (n : Int) (d : List Int) (e : List TmT) (he : e.length ≤ 1048576) : ∀ (m i : Nat), e.length + 1 ≤ i + m → i ≤ e.length →
    ∃ r s : Int, Ev (fun k => spec_l13End.f k e (i : Int)) r ∧ Ev (fun k => impl_termEnd.f k n d e (i : Int)) s ∧ (r = -1 ∨ ((i : Int) < r ∧ r ≤ e.length)) ∧
      (s = -1 ∨ (s = r ∧ ∀ j : Nat, i ≤ j → (j : Int) < r → tOk n (tD e j) = true)) ∧ (r ≠ -1 → (∀ j : Nat, i ≤ j → (j : Int) < r → tOk n (tD e j) = true) → s = r) := by
  intro m
  induction m with
  | zero => intro i h1 h2; omega
  | succ m ih =>
    intro i h1 h2
    by_cases hi : i < e.length
    · -- what the reference says
      have hK : ∀ r, Ev (fun k => spec_l13End.j1 k e (i : Int) (tD e i).f0 (decide ((tD e i).f0 = 3 ∨ (tD e i).f0 = 4))) r → Ev (fun k => spec_l13End.f k e (i : Int)) r := fun r hr => by
        refine Ev.round ?_
        simp only [spec_l13End.f]
        refine Ev.no (by omega) (Ev.round ?_)
        simp only [spec_l13End.j0]
        refine Ev.no (by simp; omega) (Ev.yes (by omega) (Ev.yes (by omega) ?_))
        rw [rdTm]
        by_cases h3 : (tD e i).f0 = 3
        · refine Ev.yes h3 ?_
          rw [show ((tD e i).f0 == 3) = decide ((tD e i).f0 = 3 ∨ (tD e i).f0 = 4) from by rw [decide_eq_true (Or.inl h3), h3]; rfl]
          exact hr
        · refine Ev.no h3 ?_
          rw [show ((tD e i).f0 == 4) = decide ((tD e i).f0 = 3 ∨ (tD e i).f0 = 4) from by
            by_cases h4 : (tD e i).f0 = 4
            · rw [decide_eq_true (Or.inr h4), h4]; rfl
            · rw [decide_eq_false (by omega)]; simpa using h4]
          exact hr
      -- the program's test of the term itself
      have hS : ∀ s, (tOk n (tD e i) = true → Ev (fun k => impl_termEnd.j1 k e (i : Int) false n d) s) → (tOk n (tD e i) = false → s = -1) → Ev (fun k => impl_termEnd.f k n d e (i : Int)) s := fun s hs hn => by
        refine Ev.round ?_
        simp only [impl_termEnd.f]
        refine Ev.no (by omega) (Ev.yes (by omega) (Ev.yes (by omega) (Ev.here (imInI _ _ _) (Ev.round ?_))))
        simp only [impl_termEnd.j0]
        rw [rdTm]
        unfold tOk at hs hn
        cases h5 : inI (tD e i).f0 0 5
        · rw [h5, Bool.false_and] at hn
          rw [hn rfl]
          exact Ev.yes rfl (Ev.now _)
        rw [h5, Bool.true_and] at hs hn
        refine Ev.no (by simp) (Ev.yes (by omega) (Ev.yes (by omega) ?_))
        have hyes : Ev (fun k => impl_termEnd.j1 k e (i : Int) true n d) (-1) := by
          refine Ev.round ?_
          simp only [impl_termEnd.j1]
          exact Ev.yes (by trivial) (Ev.now _)
        by_cases h2 : (tD e i).f0 = 2
        · rw [if_pos h2] at hs hn
          refine Ev.yes h2 (Ev.here (show impl_isLetter.f n d (tD e i).f1 = some (inI (tD e i).f1 0 (wrap64 (n - 1))) from by unfold impl_isLetter.f; rw [imInI]; rfl) ?_)
          cases h6 : inI (tD e i).f1 0 (wrap64 (n - 1))
          · rw [hn h6]
            exact Ev.no (by simp) hyes
          · exact Ev.yes rfl (hs h6)
        · rw [if_neg h2] at hs hn
          refine Ev.no h2 ?_
          by_cases h7 : (tD e i).f1 = 0
          · rw [show ((tD e i).f1 != 0) = false from by rw [h7]; rfl]
            exact hs (decide_eq_true h7)
          · rw [show ((tD e i).f1 != 0) = true from by simpa using h7, hn (decide_eq_false h7)]
            exact hyes
      have hone : ∀ (t : Int) (s : Int), impl_partsIn.f (tD e i).f0 = some t → Ev (fun k => impl_termEnd.l0 k e ((i + 1 : Nat) : Int) t 0 n d) s → Ev (fun k => impl_termEnd.j1 k e (i : Int) false n d) s := fun t s ht hs => by
        refine Ev.round ?_
        simp only [impl_termEnd.j1]
        refine Ev.no (by simp) (Ev.yes (by omega) (Ev.yes (by omega) ?_))
        rw [rdTm, w64s (by omega)]
        exact Ev.here ht hs
      -- a part: from an end to the next end, or to -1
      have part : ∀ (t q : Nat) (at_ : Nat), q < t → t ≤ 2 → i < at_ → at_ ≤ e.length → ∀ s', (∃ r s : Int, Ev (fun k => spec_l13End.f k e (at_ : Int)) r ∧ Ev (fun k => impl_termEnd.f k n d e (at_ : Int)) s ∧
          ((s < 0 ∧ s' = -1) ∨ (0 ≤ s ∧ Ev (fun k => impl_termEnd.l0 k e s t ((q + 1 : Nat) : Int) n d) s'))) → Ev (fun k => impl_termEnd.l0 k e (at_ : Int) t (q : Int) n d) s' := fun t q at_ hq ht _ _ s' ⟨r, s, _, hs, h⟩ => by
        refine Ev.round ?_
        simp only [impl_termEnd.l0]
        refine Ev.yes (by omega) (Ev.bind hs ?_)
        rw [w64s (by omega)]
        rcases h with ⟨h, rfl⟩ | ⟨h, h'⟩
        · exact Ev.yes h (Ev.now _)
        · exact Ev.no (by omega) h'
      have fin : ∀ (t : Nat) (a : Int), Ev (fun k => impl_termEnd.l0 k e a (t : Int) (t : Int) n d) a := fun t a => by
        refine Ev.round ?_
        simp only [impl_termEnd.l0]
        exact Ev.no (by omega) (Ev.now _)
      obtain ⟨r1, s1, R1, S1, b1, c1, d1⟩ := ih (i + 1) (by omega) (by omega)
      by_cases h34 : (tD e i).f0 = 3 ∨ (tD e i).f0 = 4
      · have hp : impl_partsIn.f (tD e i).f0 = some ((2 : Nat) : Int) := by
          unfold impl_partsIn.f
          rw [if_neg (by omega)]
          rcases h34 with h | h
          · rw [if_pos h]; rfl
          · rw [if_neg (by omega), if_pos h]; rfl
        rcases b1 with b1 | b1
        · -- the first part is missing
          have R : Ev (fun k => spec_l13End.f k e (i : Int)) (-1) := by
            refine hK _ ?_
            rw [decide_eq_true h34]
            refine Ev.round ?_
            simp only [spec_l13End.j1]
            rw [w64s (by omega)]
            refine Ev.yes (by trivial) (Ev.bind R1 (Ev.bind (endNeg e r1 (by omega)) (Ev.now _)))
          have hs1 : s1 = -1 := by rcases c1 with h | h <;> omega
          refine ⟨-1, -1, R, hS _ (fun _ => hone _ _ hp (part 2 0 (i + 1) (by omega) (by omega) (by omega) (by omega) _ ⟨r1, s1, R1, S1, Or.inl ⟨by omega, rfl⟩⟩)) (fun _ => rfl), Or.inl rfl, Or.inl rfl, fun h => absurd rfl h⟩
        · obtain ⟨a, ha⟩ := Int.eq_ofNat_of_zero_le (by omega : 0 ≤ r1)
          subst ha
          obtain ⟨r2, s2, R2, S2, b2, c2, d2⟩ := ih a (by omega) (by omega)
          have R : Ev (fun k => spec_l13End.f k e (i : Int)) r2 := by
            refine hK _ ?_
            rw [decide_eq_true h34]
            refine Ev.round ?_
            simp only [spec_l13End.j1]
            rw [w64s (by omega)]
            exact Ev.yes (by trivial) (Ev.bind R1 (Ev.bind R2 (Ev.now _)))
          by_cases hok : tOk n (tD e i) = true
          · by_cases hs1 : s1 = -1
            · refine ⟨r2, -1, R, hS _ (fun _ => hone _ _ hp (part 2 0 (i + 1) (by omega) (by omega) (by omega) (by omega) _ ⟨_, s1, R1, S1, Or.inl ⟨by omega, rfl⟩⟩)) (fun _ => rfl), by rcases b2 with h | h; exact Or.inl h; exact Or.inr ⟨by omega, h.2⟩, Or.inl rfl, fun h hall => ?_⟩
              have : (a : Int) < r2 := by rcases b2 with h' | h' <;> omega
              have := d1 (by omega) (fun j hj hj' => hall j (by omega) (by omega))
              omega
            · have hs1' : s1 = (a : Int) := by rcases c1 with h | h; exact absurd h hs1; exact h.1
              have ok1 : ∀ j : Nat, i + 1 ≤ j → (j : Int) < (a : Int) → tOk n (tD e j) = true := by rcases c1 with h | h; exact absurd h hs1; exact h.2
              rw [hs1'] at S1
              have S : Ev (fun k => impl_termEnd.f k n d e (i : Int)) (if s2 < 0 then -1 else s2) := by
                refine hS _ (fun _ => hone _ _ hp (part 2 0 (i + 1) (by omega) (by omega) (by omega) (by omega) _ ⟨_, _, R1, S1, Or.inr ⟨by omega, part 2 1 a (by omega) (by omega) (by omega) (by omega) _ ⟨_, s2, R2, S2, ?_⟩⟩⟩)) (fun h => by rw [hok] at h; cases h)
                by_cases h : s2 < 0
                · exact Or.inl ⟨h, if_pos h⟩
                · rw [if_neg h]
                  exact Or.inr ⟨by omega, fin 2 s2⟩
              refine ⟨r2, _, R, S, by rcases b2 with h | h; exact Or.inl h; exact Or.inr ⟨by omega, h.2⟩, ?_, fun h hall => ?_⟩
              · rcases c2 with h | h
                · left; rw [if_pos (by omega)]
                · by_cases hn : s2 < 0
                  · left; rw [if_pos hn]
                  · right
                    rw [if_neg hn]
                    refine ⟨h.1, fun j hj hj' => ?_⟩
                    by_cases e1 : j = i
                    · subst e1; exact hok
                    · by_cases e2 : j < a
                      · exact ok1 j (by omega) (by omega)
                      · exact h.2 j (by omega) hj'
              · have h0 : (a : Int) < r2 := by rcases b2 with h' | h' <;> omega
                have := d2 h (fun j hj hj' => hall j (by omega) hj')
                rw [if_neg (by omega), this]
          · refine ⟨r2, -1, R, hS _ (fun h => absurd h hok) (fun _ => rfl), by rcases b2 with h | h; exact Or.inl h; exact Or.inr ⟨by omega, h.2⟩, Or.inl rfl, fun h hall => ?_⟩
            exact absurd (hall i (by omega) (by rcases b2 with h' | h' <;> omega)) hok
      · by_cases h5 : (tD e i).f0 = 5
        · have hp : impl_partsIn.f (tD e i).f0 = some ((1 : Nat) : Int) := by
            unfold impl_partsIn.f
            rw [if_pos h5]; rfl
          have R : Ev (fun k => spec_l13End.f k e (i : Int)) r1 := by
            refine hK _ ?_
            rw [decide_eq_false h34]
            refine Ev.round ?_
            simp only [spec_l13End.j1]
            rw [w64s (by omega)]
            exact Ev.no (by simp) (Ev.yes h5 (Ev.bind R1 (Ev.now _)))
          by_cases hok : tOk n (tD e i) = true
          · have S : Ev (fun k => impl_termEnd.f k n d e (i : Int)) (if s1 < 0 then -1 else s1) := by
              refine hS _ (fun _ => hone _ _ hp (part 1 0 (i + 1) (by omega) (by omega) (by omega) (by omega) _ ⟨_, s1, R1, S1, ?_⟩)) (fun h => by rw [hok] at h; cases h)
              by_cases h : s1 < 0
              · exact Or.inl ⟨h, if_pos h⟩
              · rw [if_neg h]
                exact Or.inr ⟨by omega, fin 1 s1⟩
            refine ⟨r1, _, R, S, by rcases b1 with h | h; exact Or.inl h; exact Or.inr ⟨by omega, h.2⟩, ?_, fun h hall => ?_⟩
            · rcases c1 with h | h
              · left; rw [if_pos (by omega)]
              · by_cases hn : s1 < 0
                · left; rw [if_pos hn]
                · right
                  rw [if_neg hn]
                  refine ⟨h.1, fun j hj hj' => ?_⟩
                  by_cases e1 : j = i
                  · subst e1; exact hok
                  · exact h.2 j (by omega) hj'
            · have h0 : (i : Int) < r1 := by rcases b1 with h' | h' <;> omega
              have := d1 h (fun j hj hj' => hall j (by omega) hj')
              rw [if_neg (by omega), this]
          · refine ⟨r1, -1, R, hS _ (fun h => absurd h hok) (fun _ => rfl), by rcases b1 with h | h; exact Or.inl h; exact Or.inr ⟨by omega, h.2⟩, Or.inl rfl, fun h hall => ?_⟩
            exact absurd (hall i (by omega) (by rcases b1 with h' | h' <;> omega)) hok
        · have hp : impl_partsIn.f (tD e i).f0 = some ((0 : Nat) : Int) := by
            unfold impl_partsIn.f
            rw [if_neg h5, if_neg (by omega), if_neg (by omega)]; rfl
          have R : Ev (fun k => spec_l13End.f k e (i : Int)) ((i + 1 : Nat) : Int) := by
            refine hK _ ?_
            rw [decide_eq_false h34]
            refine Ev.round ?_
            simp only [spec_l13End.j1]
            rw [w64s (by omega)]
            exact Ev.no (by simp) (Ev.no h5 (Ev.now _))
          by_cases hok : tOk n (tD e i) = true
          · refine ⟨_, _, R, hS _ (fun _ => hone _ _ hp (fin 0 _)) (fun h => by rw [hok] at h; cases h), Or.inr ⟨by omega, by omega⟩, Or.inr ⟨rfl, fun j hj hj' => ?_⟩, fun _ _ => rfl⟩
            have : j = i := by omega
            subst this; exact hok
          · refine ⟨_, -1, R, hS _ (fun h => absurd h hok) (fun _ => rfl), Or.inr ⟨by omega, by omega⟩, Or.inl rfl, fun h hall => ?_⟩
            exact absurd (hall i (by omega) (by omega)) hok
    · -- behind the end
      refine ⟨-1, -1, ?_, ?_, Or.inl rfl, Or.inl rfl, fun h => absurd rfl h⟩
      · refine Ev.round ?_
        simp only [spec_l13End.f]
        refine Ev.no (by omega) (Ev.round ?_)
        simp only [spec_l13End.j0]
        exact Ev.yes (decide_eq_true (by omega)) (Ev.now _)
      · refine Ev.round ?_
        simp only [impl_termEnd.f]
        refine Ev.yes (by omega) (Ev.round ?_)
        simp only [impl_termEnd.j0]
        exact Ev.yes (by trivial) (Ev.now _)
theorem tOk_ev (n : Int) (t : TmT) : (inI t.f0 0 5 && inI t.f1 0 (if t.f0 = 2 then wrap64 (n - 1) else 0)) = tOk n t := by
  unfold tOk
  by_cases h : t.f0 = 2
  · rw [if_pos h, if_pos h]
  · rw [if_neg h, if_neg h, inI00]
/-- Both tests of an expression come to the same. -/
theorem isExpr_ev' (n : Int) (d : List Int) (e : List TmT) (he : e.length ≤ 1048576) : ∃ b, Ev (fun k => spec_IsExpression.f k n d e) b ∧ Ev (fun k => impl_IsExpression.f k n d e) b ∧
    (b = true → alB n d = true ∧ 1 ≤ e.length ∧ e.length ≤ 24 ∧ (∀ j : Nat, j < e.length → tOk n (tD e j) = true) ∧ Ev (fun k => spec_l13End.f k e ((0 : Nat) : Int)) (e.length : Int)) := by
  obtain ⟨r, s, R, S, _, c, dd⟩ := ends n d e he (e.length + 1) 0 (by omega) (by omega)
  have hno : Ev (fun k => spec_IsExpression.j0 k e true n d) false := Ev.round (by simp only [spec_IsExpression.j0]; exact Ev.yes (by trivial) (Ev.now _))
  have key := Ev.up (fun k (_ : Unit) i => spec_IsExpression.l0 k e i n d) e.length (fun i _ => (e.drop i).all (tOk n) && (r == (e.length : Int))) (fun _ _ => True)
    (fun _ _ => by
      refine Ev.round ?_
      simp only [spec_IsExpression.l0]
      refine Ev.no (by omega) (Ev.bind R ?_)
      rw [List.drop_length, List.all_nil, Bool.true_and]
      exact Ev.now _)
    (fun i _ hi _ ih => by
      have hg : tD e i = e[i] := by unfold tD; rw [List.getD_eq_getElem?_getD, List.getElem?_eq_getElem hi]; rfl
      have hj : ∀ q, q = (if (tD e i).f0 = 2 then wrap64 (n - 1) else 0) → Ev (fun k => spec_IsExpression.j2 k e (i : Int) q n d) ((e.drop i).all (tOk n) && (r == (e.length : Int))) := fun q hq => by
        refine Ev.round ?_
        simp only [spec_IsExpression.j2]
        rw [rdTm, w64s (by omega)]
        rw [List.drop_eq_getElem_cons hi, List.all_cons, ← hg, ← tOk_ev, ← hq]
        refine Ev.yes (by omega) (Ev.yes (by omega) (Ev.here (spInI _ _ _) ?_))
        cases inI (tD e i).f0 0 5
        · exact Ev.no (by simp) (Ev.now _)
        refine Ev.yes rfl (Ev.here (spInI _ _ _) ?_)
        cases inI (tD e i).f1 0 q
        · exact Ev.no (by simp) (Ev.now _)
        refine Ev.yes rfl ?_
        rw [Bool.true_and, Bool.true_and]
        exact ih () trivial
      refine Ev.round ?_
      simp only [spec_IsExpression.l0]
      rw [rdTm]
      refine Ev.yes (by omega) (Ev.yes (by omega) ?_)
      by_cases h : (tD e i).f0 = 2
      · exact Ev.yes h (hj _ (by rw [if_pos h]))
      · exact Ev.no h (hj _ (by rw [if_neg h])))
  have hloop := key 0 () (by omega) trivial
  rw [List.drop_zero] at hloop
  have hall : e.all (tOk n) = true ↔ ∀ j : Nat, 0 ≤ j → j < e.length → tOk n (tD e j) = true := by
    rw [List.all_eq_true]
    constructor
    · intro h j _ hj
      unfold tD; rw [List.getD_eq_getElem?_getD, List.getElem?_eq_getElem hj]
      exact h _ (List.getElem_mem hj)
    · intro h x hx
      obtain ⟨j, hj, rfl⟩ := List.getElem_of_mem hx
      have := h j (by omega) hj
      unfold tD at this; rw [List.getD_eq_getElem?_getD, List.getElem?_eq_getElem hj] at this
      exact this
  have same : 1 ≤ e.length → (e.all (tOk n) && (r == (e.length : Int))) = (s == (e.length : Int)) := fun h1 => by
    by_cases hr : r = (e.length : Int)
    · rw [show (r == (e.length : Int)) = true from by rw [hr]; exact beq_self_eq_true _, Bool.and_true]
      cases ha : e.all (tOk n)
      · symm
        rw [beq_eq_false_iff_ne]
        intro hs
        have : s = r ∧ ∀ j : Nat, 0 ≤ j → (j : Int) < r → tOk n (tD e j) = true := by rcases c with h | h; omega; exact h
        have := hall.2 (fun j hj hj' => this.2 j hj (by omega))
        rw [ha] at this; cases this
      · symm
        have := dd (by omega) (fun j hj hj' => hall.1 ha j hj (by omega))
        rw [this, hr]; exact beq_self_eq_true _
    · rw [show (r == (e.length : Int)) = false from by rw [beq_eq_false_iff_ne]; exact hr, Bool.and_false]
      symm
      rw [beq_eq_false_iff_ne]
      intro hs
      rcases c with h | h
      · omega
      · exact hr (by rw [← h.1, hs])
  refine ⟨alB n d && (decide (1 ≤ e.length) && (decide (e.length ≤ 24) && (s == (e.length : Int)))), ?_, ?_, ?_⟩
  rotate_left 2
  · intro hb
    simp only [Bool.and_eq_true, decide_eq_true_eq, beq_iff_eq] at hb
    obtain ⟨h1, h2, h3, h4⟩ := hb
    rcases c with h | h
    · omega
    · have hr : r = (e.length : Int) := h.1.symm.trans h4
      rw [hr] at R
      exact ⟨h1, h2, h3, fun j hj => h.2 j (by omega) (by omega), R⟩
  · unfold spec_IsExpression.f
    refine Ev.bind (l02Is_ev n d) ?_
    cases alB n d
    · exact Ev.no (by simp) hno
    refine Ev.yes rfl ?_
    by_cases h1 : 1 ≤ e.length
    · refine Ev.no (by omega) (Ev.round ?_)
      simp only [spec_IsExpression.j0]
      rw [decide_eq_true h1, Bool.true_and, Bool.true_and]
      by_cases h2 : e.length ≤ 24
      · rw [decide_eq_true h2, Bool.true_and, decide_eq_false (show ¬ (e.length : Int) > 24 by omega), ← same h1]
        exact Ev.no (by simp) (by simpa using hloop)
      · rw [decide_eq_false h2, decide_eq_true (show (e.length : Int) > 24 by omega)]
        exact Ev.yes rfl (Ev.now _)
    · refine Ev.yes (by omega) ?_
      rw [decide_eq_false h1]
      exact hno
  · unfold impl_IsExpression.f
    refine Ev.bind (isAl_ev n d) ?_
    cases alB n d
    · exact Ev.no (by simp) (Ev.now _)
    refine Ev.yes rfl ?_
    by_cases h1 : 1 ≤ e.length
    · rw [decide_eq_true h1, Bool.true_and, Bool.true_and]
      refine Ev.yes (by omega) ?_
      by_cases h2 : e.length ≤ 24
      · rw [decide_eq_true h2, Bool.true_and]
        exact Ev.yes (by omega) (Ev.bind S (Ev.now _))
      · rw [decide_eq_false h2]
        exact Ev.no (by omega) (Ev.now _)
    · rw [decide_eq_false h1]
      exact Ev.no (by omega) (Ev.now _)
theorem eqTmS (J : List TmT) (hn : J.length ≤ 1048576) : Ev (fun k => laws_eqTermS.f k J J) true := by
  have key := Ev.up (fun k (_ : Unit) i => laws_eqTermS.l0 k J J i) J.length (fun _ _ => true) (fun _ _ => True)
    (fun _ _ => by
      refine Ev.round ?_
      simp only [laws_eqTermS.l0]
      exact Ev.no (by omega) (Ev.now _))
    (fun i _ hi _ ih => by
      refine Ev.round ?_
      simp only [laws_eqTermS.l0]
      rw [rdTm, w64s (by omega)]
      refine Ev.yes (by omega) (Ev.yes (by omega) (Ev.yes (by omega) ?_))
      refine Ev.here (a := true) ?_ (Ev.yes rfl (ih () trivial))
      unfold laws_eqTerm.f
      rw [if_pos rfl, if_pos rfl])
  unfold laws_eqTermS.f
  refine Ev.yes rfl ?_
  have := key 0 () (by omega) trivial
  simpa using this
theorem szAl (n : Int) (d : List Int) (hd : d.length ≤ maxLen) : laws_szAlphabet.f n d 1048576 = some (if d.length ≤ 1048576 then ((1048576 - d.length : Nat) : Int) else -1) := by
  unfold maxLen at hd
  unfold laws_szAlphabet.f laws_szInt64S.f
  rw [w64 (by omega) (by omega)]
  by_cases h : d.length ≤ 1048576
  · rw [if_neg (by omega), if_pos h]
    simp only [Option.bind_some]
    rw [if_neg (by omega)]
    congr 1; omega
  · rw [if_pos (by omega), if_neg h]
    rfl
theorem toAl (n : Int) (d : List Int) (hd : d.length ≤ 35184372088832) : Ev (fun k => laws_toAlphabet.f k n d) (n, d) := by
  unfold laws_toAlphabet.f
  exact Ev.bind (toS d hd) (Ev.now _)
theorem eqAl1 (n : Int) (d : List Int) (hd : d.length ≤ 35184372088832) : Ev (fun k => laws_eqAlphabet.f k n d n d) true := by
  have h1 : Ev (fun k => laws_eqInt64S.f k d d) true := by
    have := eqS d d (by omega)
    rw [decide_eq_true rfl] at this
    exact this
  unfold laws_eqAlphabet.f
  exact Ev.yes rfl (Ev.bind h1 (Ev.yes rfl (Ev.now _)))
end Go.Proofs.YthbaocejgjpfoaaDoor.U
end M4
section M5
namespace Go.Proofs.YthbaocejgjpfoaaDoor.U
open Go.RowKit Go.Proofs.YthbaocejgjpfoaaDoor.P Go.Proofs.YthbaocejgjpfoaaDoorW.PrintWords Go.Proofs.YthbaocejgjpfoaaDoorW.PrintLast Go.Proofs.YthbaocejgjpfoaaDoorW.PrintMore
set_option linter.unusedVariables false
/-! Expressions as trees. -/
inductive Tr where
  | nothing | empty | letter (a : Nat) | sum (x y : Tr) | prod (x y : Tr) | star (x : Tr)
def Tr.enc : Tr → List TmT
  | .nothing => [⟨0, 0⟩]
  | .empty => [⟨1, 0⟩]
  | .letter a => [⟨2, a⟩]
  | .sum x y => ⟨3, 0⟩ :: (x.enc ++ y.enc)
  | .prod x y => ⟨4, 0⟩ :: (x.enc ++ y.enc)
  | .star x => ⟨5, 0⟩ :: x.enc
/-- The letters are below n. -/
def Tr.ok (n : Int) : Tr → Prop
  | .letter a => (a : Int) < n
  | .sum x y | .prod x y => x.ok n ∧ y.ok n
  | .star x => x.ok n
  | _ => True
theorem Tr.enc_pos (t : Tr) : 0 < t.enc.length := by cases t <;> simp [Tr.enc]
end Go.Proofs.YthbaocejgjpfoaaDoor.U
end M5
section M6
namespace Go.Proofs.YthbaocejgjpfoaaDoor.U
open Go.RowKit Go.Proofs.YthbaocejgjpfoaaDoor.P Go.Proofs.YthbaocejgjpfoaaDoorW.PrintWords Go.Proofs.YthbaocejgjpfoaaDoorW.PrintLast Go.Proofs.YthbaocejgjpfoaaDoorW.PrintMore
set_option linter.unusedVariables false
/-! Reading expressions. -/
def bA (l : List UInt8) : ByteArray := ⟨l.toArray⟩
theorem bA_size (l : List UInt8) : (bA l).size = l.length := by simp [bA, ByteArray.size]
theorem bA_data (s : ByteArray) : bA s.data.toList = s := by cases s; simp [bA]
theorem bA_toList (l : List UInt8) : (bA l).toList = l := by rw [ByteArray.toList_eq]; simp [bA]
theorem bA_bt {l : List UInt8} {i : Nat} (h : i < l.length) : Go.Proofs.YthbaocejgjpfoaaDoorW.PrintWords.bt (bA l) (i : Int) = (l[i].toNat : Int) := by
  unfold Go.Proofs.YthbaocejgjpfoaaDoorW.PrintWords.bt
  rw [dif_pos (by rw [bA_size]; simpa using h)]
  simp only [Int.toNat_natCast, bA]
  rfl
theorem bA_extract (l : List UInt8) (i : Nat) : (bA l).extract i (bA l).size = bA (l.drop i) := by
  apply ByteArray.ext
  simp [bA, ByteArray.size, List.take_of_length_le]
theorem bA_take (l : List UInt8) (i : Nat) : (bA l).extract 0 i = bA (l.take i) := by
  apply ByteArray.ext
  simp [bA]
def stars : Tr → List UInt8 → Tr × List UInt8
  | t, [] => (t, [])
  | t, c :: r => if c = 42 then stars (.star t) r else (t, c :: r)
def pr : Nat → List UInt8 → Option (Tr × List UInt8)
  | 0, _ => none
  | k + 1, s => match s with
    | [] => none
    | c :: r =>
      if c = 48 then some (stars .nothing r) else if c = 49 then some (stars .empty r) else if 97 ≤ c.toNat then some (stars (.letter (c.toNat - 97)) r)
      else if c = 40 then
        match pr k r with
        | none => none
        | some (x, []) => none
        | some (x, d :: r2) => match pr k r2 with
          | none => none
          | some (y, []) => none
          | some (y, f :: r4) => if f = 41 then (if d = 43 then some (stars (.sum x y) r4) else if d = 46 then some (stars (.prod x y) r4) else none) else none
      else none
/-- The letters are those of the widest alphabet. -/
def Tr.good : Tr → Bool
  | .letter a => decide (a ≤ 7)
  | .sum x y | .prod x y => x.good && y.good
  | .star x => x.good
  | _ => true
theorem stars_len : ∀ (r : List UInt8) (t : Tr), (stars t r).1.enc.length + (stars t r).2.length = t.enc.length + r.length ∧ (stars t r).2.length ≤ r.length ∧ (stars t r).1.good = t.good
  | [], t => ⟨rfl, Nat.le_refl _, rfl⟩
  | c :: r, t => by
    unfold stars
    split
    · obtain ⟨h1, h2, h3⟩ := stars_len r (.star t)
      refine ⟨by rw [h1]; simp [Tr.enc]; omega, by simp; omega, h3⟩
    · exact ⟨rfl, Nat.le_refl _, rfl⟩
theorem pr_len : ∀ (k : Nat) (s : List UInt8) (t : Tr) (r : List UInt8), pr k s = some (t, r) → t.enc.length + r.length ≤ s.length ∧ r.length < s.length
  | 0, s, t, r, h => by simp [pr] at h
  | k + 1, [], t, r, h => by simp [pr] at h
  | k + 1, c :: s, t, r, h => by
    have leaf : ∀ (x : Tr) (s' : List UInt8), x.enc.length + s'.length ≤ s.length + 1 → s'.length ≤ s.length → some (stars x s') = some (t, r) → t.enc.length + r.length ≤ (c :: s).length ∧ r.length < (c :: s).length := by
      intro x s' hx hs' e
      obtain ⟨h1, h2, _⟩ := stars_len s' x
      have e := Option.some.inj e
      rw [e] at h1 h2
      dsimp only at h1 h2
      simp only [List.length_cons]
      omega
    unfold pr at h
    dsimp only at h
    split at h
    · exact leaf .nothing s (by simp [Tr.enc]; omega) (Nat.le_refl _) h
    split at h
    · exact leaf .empty s (by simp [Tr.enc]; omega) (Nat.le_refl _) h
    split at h
    · exact leaf (.letter _) s (by simp [Tr.enc]; omega) (Nat.le_refl _) h
    split at h
    · split at h
      · cases h
      · cases h
      · rename_i x d r2 e1
        have l1 := pr_len k _ _ _ e1
        split at h
        · cases h
        · cases h
        · rename_i y f r4 e2
          have l2 := pr_len k _ _ _ e2
          simp only [List.length_cons] at l1 l2
          split at h
          · split at h
            · exact leaf (.sum x y) r4 (by simp [Tr.enc]; omega) (by omega) h
            · split at h
              · exact leaf (.prod x y) r4 (by simp [Tr.enc]; omega) (by omega) h
              · cases h
          · cases h
    · cases h
theorem prefix_eq (l : List UInt8) (c : UInt8) : strings_HasPrefix.f (bA l) (⟨#[c]⟩ : ByteArray) = some (decide (l.head? = some c)) := by
  have hs : (⟨#[c]⟩ : ByteArray).size = 1 := rfl
  have ht : (⟨#[c]⟩ : ByteArray).toList = [c] := by rw [ByteArray.toList_eq]
  unfold strings_HasPrefix.f stringslite_HasPrefix.f
  rw [hs, bA_size]
  cases l with
  | nil => rw [if_neg (by simp)]; rfl
  | cons b l =>
    rw [if_pos (by simp <;> omega), if_pos (by decide), if_pos (by simp <;> omega)]
    have : (((1 : Nat) : Int)).toNat = 1 := rfl
    rw [this, bA_take, bA_toList, ht]
    simp
    rfl
/-- What the program's reading comes to. -/
def outI : Option (Tr × List UInt8) → List TmT × ByteArray × Bool
  | none => ([], ⟨#[]⟩, false)
  | some (t, r) => (t.enc, bA r, true)
theorem stars_impl : ∀ (r : List UInt8) (t : Tr), t.enc.length + r.length ≤ 200 → Ev (fun k => impl_readExpression.l0 k t.enc (bA r)) (outI (some (stars t r)))
  | [], t, h => by
    refine Ev.round ?_
    simp only [impl_readExpression.l0]
    refine Ev.here (prefix_eq _ _) (Ev.no (by simp) (Ev.now _))
  | c :: r, t, h => by
    refine Ev.round ?_
    simp only [impl_readExpression.l0]
    refine Ev.here (prefix_eq _ _) ?_
    by_cases hc : c = 42
    · subst hc
      have : stars t (42 :: r) = stars (.star t) r := by rw [stars, if_pos rfl]
      rw [this]
      refine Ev.yes (by simp) ?_
      simp only [Option.bind_some]
      simp only [List.length_cons] at h
      refine Ev.yes (by simp; omega) (Ev.yes (by rw [bA_size]; simp <;> omega) ?_)
      rw [bA_extract]
      exact stars_impl r (.star t) (by simp [Tr.enc]; omega)
    · have : stars t (c :: r) = (t, c :: r) := by rw [stars, if_neg hc]
      rw [this]
      exact Ev.no (by simp [hc]) (Ev.now _)
theorem concat3 (a b c : List TmT) (h : a.length + b.length + c.length ≤ 1000) : Ev (fun k => impl_Term_137.f k [a, b, c]) (a ++ b ++ c) := by
  have r0 : rd_L7 [a, b, c] ((0 : Nat) : Int) = a := rfl
  have r1 : rd_L7 [a, b, c] ((1 : Nat) : Int) = b := rfl
  have r2 : rd_L7 [a, b, c] ((2 : Nat) : Int) = c := rfl
  have app : ∀ (i : Nat) (x l R : List TmT), i < 3 → rd_L7 [a, b, c] (i : Int) = x → l.length + x.length ≤ 1000 →
      Ev (fun k => impl_Term_137.l1 k (l ++ x) [a, b, c] 3 ((i + 1 : Nat) : Int)) R → Ev (fun k => impl_Term_137.l1 k l [a, b, c] 3 (i : Int)) R := by
    intro i x l R hi hx hl k
    refine Ev.round ?_
    simp only [impl_Term_137.l1]
    rw [hx, w64s (by omega)]
    exact Ev.yes (by omega) (Ev.yes (by omega) (Ev.yes (by simp; omega) (Ev.yes (by omega) k)))
  have cnt : ∀ (i : Nat) (x : List TmT) (n : Nat) (R : List TmT), i < 3 → rd_L7 [a, b, c] (i : Int) = x → n + x.length ≤ 1000 →
      Ev (fun k => impl_Term_137.l0 k [a, b, c] ((n + x.length : Nat) : Int) [a, b, c] 3 ((i + 1 : Nat) : Int)) R → Ev (fun k => impl_Term_137.l0 k [a, b, c] (n : Int) [a, b, c] 3 (i : Int)) R := by
    intro i x n R hi hx hl k
    refine Ev.round ?_
    simp only [impl_Term_137.l0]
    rw [hx, w64s (by omega), w64 (n := (n : Int) + x.length) (by omega) (by omega)]
    exact Ev.yes (by omega) (Ev.yes (by omega) (Ev.yes (by simp; omega) (Ev.no (by omega) (by rw [show ((n : Int) + (x.length : Int)) = ((n + x.length : Nat) : Int) by omega]; exact k))))
  unfold impl_Term_137.f
  refine cnt 0 a 0 _ (by omega) r0 (by omega) (cnt 1 b _ _ (by omega) r1 (by omega) (cnt 2 c _ _ (by omega) r2 (by omega) ?_))
  refine Ev.round ?_
  simp only [impl_Term_137.l0]
  refine Ev.no (by omega) (Ev.here (show impl_Term_159.f _ _ = some [] from ?_) ?_)
  · unfold impl_Term_159.f
    rw [if_pos ⟨rfl, by omega, by omega⟩]
  · refine app 0 a [] _ (by omega) r0 (by simp; omega) (app 1 b _ _ (by omega) r1 (by simp; omega) (app 2 c _ _ (by omega) r2 (by simp; omega) ?_))
    refine Ev.round ?_
    simp only [impl_Term_137.l1]
    exact Ev.no (by omega) (Ev.now _)
/-- The first character of what is left. -/
theorem isEmpty_bA (l : List UInt8) : (bA l).toList = [] ↔ l = [] := by rw [bA_toList]
theorem impl_read : ∀ (k : Nat) (s : List UInt8), s.length < k → s.length ≤ 96 → Ev (fun n => impl_readExpression.f n (bA s)) (outI (pr k s))
  | 0, s, h, _ => by omega
  | k + 1, [], h, hs => by
    refine Ev.round ?_
    simp only [impl_readExpression.f]
    exact Ev.yes ((isEmpty_bA _).2 rfl) (Ev.now _)
  | k + 1, c :: r, h, hs => by
    simp only [List.length_cons] at h hs
    have hbt : Go.Proofs.YthbaocejgjpfoaaDoorW.PrintWords.bt (bA (c :: r)) 0 = (c.toNat : Int) := bA_bt (l := c :: r) (i := 0) (by simp)
    have hlt : c.toNat < 256 := c.toNat_lt
    have hext : (bA (c :: r)).extract 1 (bA (c :: r)).size = bA r := by rw [bA_extract]; rfl
    have j2 : ∀ (t : Tr) (r' : List UInt8), t.enc.length + r'.length ≤ 200 → Ev (fun n => impl_readExpression.j2 n t.enc (bA r')) (outI (some (stars t r'))) := fun t r' hl => by
      refine Ev.round ?_
      simp only [impl_readExpression.j2]
      exact stars_impl r' t hl
    refine Ev.round ?_
    simp only [impl_readExpression.f]
    refine Ev.no (by rw [isEmpty_bA]; simp) ?_
    simp only [Option.bind_some, hbt, hext, List.nil_append]
    refine Ev.yes (by rw [bA_size]; simp <;> omega) (Ev.yes (by rw [bA_size]; simp <;> omega) ?_)
    unfold pr
    dsimp only
    by_cases h0 : c = 48
    · rw [if_pos h0]
      exact Ev.yes (by rw [h0]; rfl) (Ev.yes (by simp) (j2 .nothing r (by simp [Tr.enc]; omega)))
    rw [if_neg h0]
    have c0 : (c.toNat : Int) ≠ 48 := fun e => h0 (UInt8.toNat_inj.1 (by simpa using (by omega : c.toNat = 48)))
    refine Ev.no c0 ?_
    by_cases h1 : c = 49
    · rw [if_pos h1]
      exact Ev.yes (by rw [h1]; rfl) (Ev.yes (by simp) (j2 .empty r (by simp [Tr.enc]; omega)))
    rw [if_neg h1]
    have c1 : (c.toNat : Int) ≠ 49 := fun e => h1 (UInt8.toNat_inj.1 (by simpa using (by omega : c.toNat = 49)))
    refine Ev.no c1 ?_
    by_cases h2 : 97 ≤ c.toNat
    · rw [if_pos h2]
      refine Ev.yes (by omega) (Ev.yes (by simp) ?_)
      have := j2 (.letter (c.toNat - 97)) r (by simp [Tr.enc]; omega)
      have e : ((c.toNat : Int) - 97) % 256 = ((c.toNat - 97 : Nat) : Int) := by omega
      rw [e]
      exact this
    rw [if_neg h2]
    refine Ev.no (by omega) ?_
    by_cases h3 : c = 40
    · rw [if_pos h3]
      refine Ev.yes (by rw [h3]; rfl) (Ev.bind (impl_read k r (by omega) (by omega)) ?_)
      have fail0 : ∀ (x : List TmT) (y : ByteArray), Ev (fun n => impl_readExpression.j0 n x y true) (outI none) := fun x y => by
        refine Ev.round ?_
        simp only [impl_readExpression.j0]
        exact Ev.yes (by trivial) (Ev.now _)
      have fail1 : ∀ (x x' : List TmT) (y y' : ByteArray), Ev (fun n => impl_readExpression.j1 n x y x' y' true) (outI none) := fun x x' y y' => by
        refine Ev.round ?_
        simp only [impl_readExpression.j1]
        exact Ev.yes (by trivial) (Ev.now _)
      cases e1 : pr k r with
      | none => exact Ev.no (by simp [outI]) (fail0 _ _)
      | some q =>
        obtain ⟨x, r1⟩ := q
        have l1 := pr_len k _ _ _ e1
        refine Ev.yes rfl ?_
        show Ev (fun n => impl_readExpression.j0 n x.enc (bA r1) ((bA r1).toList == [])) _
        rw [bA_toList]
        cases r1 with
        | nil => exact fail0 _ _
        | cons d r2 =>
          simp only [List.length_cons] at l1
          have hbt2 : Go.Proofs.YthbaocejgjpfoaaDoorW.PrintWords.bt (bA (d :: r2)) 0 = (d.toNat : Int) := bA_bt (l := d :: r2) (i := 0) (by simp)
          have hext2 : (bA (d :: r2)).extract 1 (bA (d :: r2)).size = bA r2 := by rw [bA_extract]; rfl
          refine Ev.round ?_
          simp only [impl_readExpression.j0, hext2]
          refine Ev.no (by simp) (Ev.yes (by rw [bA_size]; simp <;> omega) (Ev.bind (impl_read k r2 (by omega) (by omega)) ?_))
          try dsimp only
          cases e2 : pr k r2 with
          | none => exact Ev.no (by simp [outI]) (fail1 _ _ _ _)
          | some q =>
            obtain ⟨y, r3⟩ := q
            have l2 := pr_len k _ _ _ e2
            refine Ev.yes rfl (Ev.here (prefix_eq r3 41) ?_)
            show Ev (fun n => impl_readExpression.j1 n x.enc (bA (d :: r2)) y.enc (bA r3) _) _
            cases r3 with
            | nil => exact fail1 _ _ _ _
            | cons f r4 =>
              simp only [List.length_cons] at l2
              have hext3 : (bA (f :: r4)).extract 1 (bA (f :: r4)).size = bA r4 := by rw [bA_extract]; rfl
              dsimp only
              by_cases hf : f = 41
              · rw [if_pos hf]
                refine Ev.round ?_
                simp only [impl_readExpression.j1, hbt2, hext3]
                refine Ev.no (by simp [hf]) (Ev.yes (by rw [bA_size]; simp <;> omega) ?_)
                by_cases hd : d = 43
                · rw [if_pos hd]
                  refine Ev.yes (by rw [hd]; rfl) (Ev.bind (concat3 _ _ _ (by simp; omega)) (Ev.yes (by rw [bA_size]; simp <;> omega) ?_))
                  exact j2 (.sum x y) r4 (by simp [Tr.enc]; omega)
                rw [if_neg hd]
                have d0 : (d.toNat : Int) ≠ 43 := fun e => hd (UInt8.toNat_inj.1 (by simpa using (by omega : d.toNat = 43)))
                refine Ev.no d0 ?_
                by_cases hd2 : d = 46
                · rw [if_pos hd2]
                  refine Ev.yes (by rw [hd2]; rfl) (Ev.bind (concat3 _ _ _ (by simp; omega)) (Ev.yes (by rw [bA_size]; simp <;> omega) ?_))
                  exact j2 (.prod x y) r4 (by simp [Tr.enc]; omega)
                rw [if_neg hd2]
                have d1 : (d.toNat : Int) ≠ 46 := fun e => hd2 (UInt8.toNat_inj.1 (by simpa using (by omega : d.toNat = 46)))
                exact Ev.no d1 (Ev.now _)
              · rw [if_neg hf, show (!decide ((f :: r4).head? = some 41)) = true by simp [hf]]
                exact fail1 _ _ _ _
    · rw [if_neg h3]
      have c3 : (c.toNat : Int) ≠ 40 := fun e => h3 (UInt8.toNat_inj.1 (by simpa using (by omega : c.toNat = 40)))
      exact Ev.no c3 (Ev.now _)
/-- What the reference's reading comes to, by what the reading is: the tree, if its letters are good; else no list. -/
def outS (l : List UInt8) (o : Option (Tr × List UInt8)) (p : List TmT × Int) : Prop :=
  (∃ t r, o = some (t, r) ∧ t.good = true ∧ ∃ j : Nat, j ≤ l.length ∧ l.drop j = r ∧ p = (t.enc, (j : Int))) ∨ ((∀ t r, o = some (t, r) → t.good = false) ∧ p.1 = [])
theorem drop_len {l r : List UInt8} {j : Nat} (h : l.drop j = r) (hj : j ≤ l.length) : l.length = j + r.length := by rw [← h, List.length_drop]; omega
theorem drop_get {l r : List UInt8} {c : UInt8} {j : Nat} (h : l.drop j = c :: r) : ∃ hj : j < l.length, l[j] = c ∧ l.drop (j + 1) = r := by
  have hj : j < l.length := by
    rcases Nat.lt_or_ge j l.length with h' | h'
    · exact h'
    · rw [List.drop_eq_nil_of_le h'] at h; cases h
  rw [List.drop_eq_getElem_cons hj] at h
  injection h with h1 h2
  exact ⟨hj, h1, h2⟩
theorem stars_spec (l : List UInt8) (hl : l.length ≤ 96) : ∀ (r : List UInt8) (t : Tr) (j : Nat), t.enc.length + r.length ≤ 200 → j ≤ l.length → l.drop j = r →
    ∃ j' : Nat, j' ≤ l.length ∧ l.drop j' = (stars t r).2 ∧ Ev (fun k => spec_l13Read.l0 k (bA l) (j : Int) t.enc) ((stars t r).1.enc, (j' : Int))
  | [], t, j, h, hj, hd => by
    refine ⟨j, hj, hd, Ev.round ?_⟩
    have := drop_len hd hj
    simp only [List.length_nil] at this
    simp only [spec_l13Read.l0]
    exact Ev.no (by rw [bA_size]; omega) (Ev.now _)
  | c :: r, t, j, h, hj, hd => by
    obtain ⟨hj', hc, hd'⟩ := drop_get hd
    simp only [List.length_cons] at h
    by_cases h42 : c = 42
    · subst h42
      have e : stars t (42 :: r) = stars (.star t) r := by rw [stars, if_pos rfl]
      rw [e]
      obtain ⟨j', q1, q2, q3⟩ := stars_spec l hl r (.star t) (j + 1) (by simp [Tr.enc]; omega) (by omega) hd'
      refine ⟨j', q1, q2, Ev.round ?_⟩
      simp only [spec_l13Read.l0]
      rw [bA_bt hj', hc, w64s (by omega)]
      refine Ev.yes (by rw [bA_size]; omega) (Ev.yes (by omega) (Ev.yes rfl ?_))
      simp only [Option.bind_some]
      exact Ev.yes (by simp; omega) q3
    · have e : stars t (c :: r) = (t, c :: r) := by rw [stars, if_neg h42]
      rw [e]
      refine ⟨j, hj, hd, Ev.round ?_⟩
      simp only [spec_l13Read.l0]
      rw [bA_bt hj', hc]
      have c0 : (c.toNat : Int) ≠ 42 := fun e => h42 (UInt8.toNat_inj.1 (by simpa using (by omega : c.toNat = 42)))
      exact Ev.yes (by rw [bA_size]; omega) (Ev.yes (by omega) (Ev.no c0 (Ev.now _)))
theorem spec_read (l : List UInt8) (hl : l.length ≤ 96) : ∀ (k i : Nat), (l.drop i).length < k → i ≤ l.length → ∃ p, Ev (fun n => spec_l13Read.f n (bA l) (i : Int)) p ∧ outS l (pr k (l.drop i)) p
  | 0, i, h, _ => by omega
  | k + 1, i, h, hi => by
    have h2 : ∀ (t : Tr) (j : Nat), t.enc.length ≤ 100 → j ≤ l.length → ∃ p, Ev (fun n => spec_l13Read.j2 n (bA l) (j : Int) t.enc) p ∧ ∃ j' : Nat, j' ≤ l.length ∧ l.drop j' = (stars t (l.drop j)).2 ∧ p = ((stars t (l.drop j)).1.enc, (j' : Int)) := fun t j ht hj => by
      obtain ⟨j', q1, q2, q3⟩ := stars_spec l hl (l.drop j) t j (by rw [List.length_drop]; omega) hj rfl
      refine ⟨_, Ev.round ?_, j', q1, q2, rfl⟩
      simp only [spec_l13Read.j2]
      exact q3
    -- a tree that is read, its stars behind it
    have fin : ∀ (t : Tr) (j : Nat) (g : Nat → Option (List TmT × Int)), t.enc.length ≤ 100 → j ≤ l.length → t.good = true → (∀ p, Ev (fun n => spec_l13Read.j2 n (bA l) (j : Int) t.enc) p → Ev g p) → ∃ p, Ev g p ∧ outS l (some (stars t (l.drop j))) p := fun t j g ht hj hg k => by
      obtain ⟨p, q, j', q1, q2, q3⟩ := h2 t j ht hj
      refine ⟨p, k p q, Or.inl ⟨_, _, rfl, ?_, j', q1, q2, q3⟩⟩
      rw [(stars_len (l.drop j) t).2.2]; exact hg
    cases hd : l.drop i with
    | nil =>
      have := drop_len hd hi
      refine ⟨([], (i : Int)), Ev.round ?_, Or.inr ⟨fun t r e => by simp [pr] at e, rfl⟩⟩
      simp only [spec_l13Read.f]
      simp only [List.length_nil] at this
      exact Ev.yes (by rw [bA_size]; omega) (Ev.now _)
    | cons c r =>
      obtain ⟨hi', hc, hd'⟩ := drop_get hd
      rw [hd] at h
      simp only [List.length_cons] at h
      have hrl : r.length ≤ l.length := by rw [← hd', List.length_drop]; omega
      have hlt : c.toNat < 256 := c.toNat_lt
      have start : ∀ p, Ev (fun n => if (c.toNat : Int) = 48 then (spec_l13Read.j2 n (bA l) ((i + 1 : Nat) : Int) (([(⟨0, 0⟩ : TmT)] : List TmT))) else (if (c.toNat : Int) = 49 then (spec_l13Read.j2 n (bA l) ((i + 1 : Nat) : Int) (([(⟨1, 0⟩ : TmT)] : List TmT))) else (if (c.toNat : Int) ≥ 97 then (spec_l13Read.j0 n (bA l) ((i + 1 : Nat) : Int) (c.toNat : Int) (decide ((c.toNat : Int) ≤ 104))) else (spec_l13Read.j0 n (bA l) ((i + 1 : Nat) : Int) (c.toNat : Int) false)))) p →
          Ev (fun n => spec_l13Read.f n (bA l) (i : Int)) p := fun p hp => by
        refine Ev.round ?_
        simp only [spec_l13Read.f]
        rw [bA_bt hi', hc, w64s (by omega)]
        exact Ev.no (by rw [bA_size]; omega) (Ev.yes (by omega) (Ev.yes (by rw [bA_size]; omega) hp))
      unfold pr
      dsimp only
      by_cases h0 : c = 48
      · rw [if_pos h0, ← hd']
        exact fin .nothing (i + 1) _ (by simp [Tr.enc]) (by omega) rfl (fun p q => start p (Ev.yes (by rw [h0]; rfl) q))
      rw [if_neg h0]
      have c0 : (c.toNat : Int) ≠ 48 := fun e => h0 (UInt8.toNat_inj.1 (by simpa using (by omega : c.toNat = 48)))
      by_cases h1 : c = 49
      · rw [if_pos h1, ← hd']
        exact fin .empty (i + 1) _ (by simp [Tr.enc]) (by omega) rfl (fun p q => start p (Ev.no c0 (Ev.yes (by rw [h1]; rfl) q)))
      rw [if_neg h1]
      have c1 : (c.toNat : Int) ≠ 49 := fun e => h1 (UInt8.toNat_inj.1 (by simpa using (by omega : c.toNat = 49)))
      by_cases h3 : 97 ≤ c.toNat
      · rw [if_pos h3, ← hd']
        by_cases h4 : c.toNat ≤ 104
        · have e : ((c.toNat : Int) - 97) % 256 = ((c.toNat - 97 : Nat) : Int) := by omega
          refine fin (.letter (c.toNat - 97)) (i + 1) _ (by simp [Tr.enc]) (by omega) (by simp [Tr.good]; omega) (fun p q => start p (Ev.no c0 (Ev.no c1 (Ev.yes (by omega) (Ev.round ?_)))))
          simp only [spec_l13Read.j0]
          rw [e]
          exact Ev.yes (by simp; omega) q
        · refine ⟨([], ((i + 1 : Nat) : Int)), start _ (Ev.no c0 (Ev.no c1 (Ev.yes (by omega) (Ev.round ?_)))), Or.inr ⟨fun t r' e => ?_, rfl⟩⟩
          · simp only [spec_l13Read.j0]
            exact Ev.no (by simp; omega) (Ev.no (by omega) (Ev.now _))
          · have e := Option.some.inj e
            have := (stars_len (l.drop (i + 1)) (.letter (c.toNat - 97))).2.2
            rw [e] at this
            rw [this]
            simp [Tr.good]; omega
      rw [if_neg h3]
      have start2 : ∀ p, Ev (fun n => spec_l13Read.j0 n (bA l) ((i + 1 : Nat) : Int) (c.toNat : Int) false) p → Ev (fun n => spec_l13Read.f n (bA l) (i : Int)) p := fun p hp => start p (Ev.no c0 (Ev.no c1 (Ev.no (by omega) hp)))
      by_cases h5 : c = 40
      · rw [if_pos h5]
        obtain ⟨p1, P1, o1⟩ := spec_read l hl k (i + 1) (by rw [hd']; omega) (by omega)
        rw [hd'] at o1
        have fail1 : ∀ (x : List TmT) (z : Int), Ev (fun n => spec_l13Read.j1 n (bA l) ((i + 1 : Nat) : Int) x z true) ([], ((i + 1 : Nat) : Int)) := fun x z => by
          refine Ev.round ?_
          simp only [spec_l13Read.j1]
          exact Ev.yes (by trivial) (Ev.now _)
        have go : ∀ p, Ev (fun n => if (p1.1.length : Int) = 0 then (spec_l13Read.j1 n (bA l) ((i + 1 : Nat) : Int) p1.1 p1.2 true) else (if p1.2 ≥ ((bA l).size : Int) then (spec_l13Read.j1 n (bA l) ((i + 1 : Nat) : Int) p1.1 p1.2 true) else (if 0 ≤ p1.2 then (if p1.2 < ((bA l).size : Int) then (if (Go.Proofs.YthbaocejgjpfoaaDoorW.PrintWords.bt (bA l) p1.2) = 43 then (spec_l13Read.j1 n (bA l) ((i + 1 : Nat) : Int) p1.1 p1.2 false) else (spec_l13Read.j1 n (bA l) ((i + 1 : Nat) : Int) p1.1 p1.2 ((Go.Proofs.YthbaocejgjpfoaaDoorW.PrintWords.bt (bA l) p1.2) != 46))) else (none)) else (none)))) p → Ev (fun n => spec_l13Read.f n (bA l) (i : Int)) p := fun p hp => by
          refine start2 p (Ev.round ?_)
          simp only [spec_l13Read.j0]
          exact Ev.no (by simp) (Ev.yes (by rw [h5]; rfl) (Ev.bind P1 hp))
        have failed : (∀ t r', (match pr k r with
            | none => none
            | some (x, []) => none
            | some (x, d :: r2) => match pr k r2 with
              | none => none
              | some (y, []) => none
              | some (y, f :: r4) => if f = 41 then (if d = 43 then some (stars (.sum x y) r4) else if d = 46 then some (stars (.prod x y) r4) else none) else none) = some (t, r') → t.good = false) → ∀ (z : Int), Ev (fun n => spec_l13Read.f n (bA l) (i : Int)) ([], z) → ∃ p, Ev (fun n => spec_l13Read.f n (bA l) (i : Int)) p ∧ outS l (match pr k r with
            | none => none
            | some (x, []) => none
            | some (x, d :: r2) => match pr k r2 with
              | none => none
              | some (y, []) => none
              | some (y, f :: r4) => if f = 41 then (if d = 43 then some (stars (.sum x y) r4) else if d = 46 then some (stars (.prod x y) r4) else none) else none) p := fun hb z hz => ⟨_, hz, Or.inr ⟨hb, rfl⟩⟩
        have bad2 : ∀ (x y : Tr) (r4 : List UInt8) (d : UInt8) (t : Tr) (r' : List UInt8), x.good = false ∨ y.good = false → (if d = 43 then some (stars (.sum x y) r4) else if d = 46 then some (stars (.prod x y) r4) else none) = some (t, r') → t.good = false := by
          intro x y r4 d t r' hb e
          have hxy : (x.good && y.good) = false := by rcases hb with hb | hb <;> simp [hb]
          split at e
          · have := (stars_len r4 (.sum x y)).2.2
            rw [Option.some.inj e] at this
            rw [this]; exact hxy
          · split at e
            · have := (stars_len r4 (.prod x y)).2.2
              rw [Option.some.inj e] at this
              rw [this]; exact hxy
            · cases e
        rcases o1 with ⟨x, r1, e1, gx, j1, hj1, hd1, rfl⟩ | ⟨hb1, hp1⟩
        · have hx := x.enc_pos
          have l1 := pr_len k _ _ _ e1
          rw [e1] at failed ⊢
          cases r1 with
          | nil =>
            have := drop_len hd1 hj1
            simp only [List.length_nil] at this
            exact failed (fun t r' e => by simp at e) _ (go _ (Ev.no (by show ¬ (x.enc.length : Int) = 0; omega) (Ev.yes (by show (j1 : Int) ≥ _; rw [bA_size]; omega) (fail1 _ _))))
          | cons d r2 =>
            obtain ⟨hj1', hcd, hd1'⟩ := drop_get hd1
            simp only [List.length_cons] at l1
            have hbt1 : Go.Proofs.YthbaocejgjpfoaaDoorW.PrintWords.bt (bA l) (j1 : Int) = (d.toNat : Int) := by rw [bA_bt hj1', hcd]
            have hdl : d.toNat < 256 := d.toNat_lt
            have go1 : ∀ p, Ev (fun n => if (d.toNat : Int) = 43 then (spec_l13Read.j1 n (bA l) ((i + 1 : Nat) : Int) x.enc (j1 : Int) false) else (spec_l13Read.j1 n (bA l) ((i + 1 : Nat) : Int) x.enc (j1 : Int) ((d.toNat : Int) != 46))) p → Ev (fun n => spec_l13Read.f n (bA l) (i : Int)) p := fun p hp => by
              refine go p (Ev.no (by show ¬ (x.enc.length : Int) = 0; omega) (Ev.no (by show ¬ (j1 : Int) ≥ _; rw [bA_size]; omega) (Ev.yes (by show 0 ≤ (j1 : Int); omega) (Ev.yes (by show (j1 : Int) < _; rw [bA_size]; omega) ?_))))
              dsimp only
              rw [hbt1]
              exact hp
            obtain ⟨p2, P2, o2⟩ := spec_read l hl k (j1 + 1) (by rw [hd1']; omega) (by omega)
            rw [hd1'] at o2
            -- what stands behind the second part
            have tail : ∀ (kd : Int) (e0 : Nat → Option (List TmT × Int)), (kd = 3 ∧ d = 43 ∨ kd = 4 ∧ d = 46) →
                (∀ p, Ev (fun n => if (p2.1.length : Int) = 0 then (some (([] : List TmT), ((i + 1 : Nat) : Int))) else (if p2.2 ≥ ((bA l).size : Int) then (some (([] : List TmT), ((i + 1 : Nat) : Int))) else (if 0 ≤ p2.2 then (if p2.2 < ((bA l).size : Int) then (if (Go.Proofs.YthbaocejgjpfoaaDoorW.PrintWords.bt (bA l) p2.2) = 41 then ((some (([(⟨kd, 0⟩ : TmT)] : List TmT) : List TmT)).bind fun y793 => (if y793.length + x.enc.length < 8796093022208 then ((some (y793 ++ x.enc : List TmT)).bind fun y796 => (if y796.length + p2.1.length < 8796093022208 then (spec_l13Read.j2 n (bA l) (wrap64 (p2.2 + 1)) (y796 ++ p2.1)) else (none))) else (none))) else (some (([] : List TmT), ((i + 1 : Nat) : Int)))) else (none)) else (none)))) p → Ev e0 p) →
                ∃ p, Ev e0 p ∧ outS l (match pr k r2 with
                  | none => none
                  | some (y, []) => none
                  | some (y, f :: r4) => if f = 41 then (if d = 43 then some (stars (.sum x y) r4) else if d = 46 then some (stars (.prod x y) r4) else none) else none) p := by
              intro kd e0 hkd he0
              rcases o2 with ⟨y, r3, e2, gy, j2, hj2, hd2, rfl⟩ | ⟨hb2, hp2⟩
              · have hy := y.enc_pos
                have l2 := pr_len k _ _ _ e2
                rw [e2]
                cases r3 with
                | nil =>
                  have := drop_len hd2 hj2
                  simp only [List.length_nil] at this
                  exact ⟨_, he0 _ (Ev.no (by show ¬ (y.enc.length : Int) = 0; omega) (Ev.yes (by show (j2 : Int) ≥ _; rw [bA_size]; omega) (Ev.now _))), Or.inr ⟨fun t r' e => by simp at e, rfl⟩⟩
                | cons f r4 =>
                  obtain ⟨hj2', hcf, hd2'⟩ := drop_get hd2
                  simp only [List.length_cons] at l2
                  have hbt2 : Go.Proofs.YthbaocejgjpfoaaDoorW.PrintWords.bt (bA l) (j2 : Int) = (f.toNat : Int) := by rw [bA_bt hj2', hcf]
                  have lead : ∀ p, Ev (fun n => (if (f.toNat : Int) = 41 then (spec_l13Read.j2 n (bA l) ((j2 + 1 : Nat) : Int) ((⟨kd, 0⟩ : TmT) :: (x.enc ++ y.enc))) else (some (([] : List TmT), ((i + 1 : Nat) : Int))))) p → Ev e0 p := fun p hp => by
                    refine he0 p (Ev.no (by show ¬ (y.enc.length : Int) = 0; omega) (Ev.no (by show ¬ (j2 : Int) ≥ _; rw [bA_size]; omega) (Ev.yes (by show 0 ≤ (j2 : Int); omega) (Ev.yes (by show (j2 : Int) < _; rw [bA_size]; omega) ?_))))
                    dsimp only
                    rw [hbt2, w64s (by omega)]
                    by_cases hf : (f.toNat : Int) = 41
                    · refine Ev.yes hf ?_
                      simp only [Option.bind_some]
                      refine Ev.yes (by simp; omega) (Ev.yes (by simp; omega) ?_)
                      simp only [if_pos hf] at hp
                      simpa using hp
                    · simp only [if_neg hf] at hp
                      exact Ev.no hf hp
                  dsimp only
                  by_cases hf : f = 41
                  · rw [if_pos hf]
                    rcases hkd with ⟨rfl, hd43⟩ | ⟨rfl, hd46⟩
                    · rw [if_pos hd43, ← hd2']
                      exact fin (.sum x y) (j2 + 1) e0 (by simp [Tr.enc]; omega) (by omega) (by simp [Tr.good, gx, gy]) (fun p q => lead p (Ev.yes (by rw [hf]; rfl) q))
                    · rw [if_neg (by rw [hd46]; decide), if_pos hd46, ← hd2']
                      exact fin (.prod x y) (j2 + 1) e0 (by simp [Tr.enc]; omega) (by omega) (by simp [Tr.good, gx, gy]) (fun p q => lead p (Ev.yes (by rw [hf]; rfl) q))
                  · rw [if_neg hf]
                    have cf : (f.toNat : Int) ≠ 41 := fun e => hf (UInt8.toNat_inj.1 (by simpa using (by omega : f.toNat = 41)))
                    exact ⟨_, lead _ (Ev.no cf (Ev.now _)), Or.inr ⟨fun t r' e => by simp at e, rfl⟩⟩
              · refine ⟨_, he0 _ (Ev.yes (by rw [hp2]; rfl) (Ev.now _)), Or.inr ⟨fun t r' e => ?_, rfl⟩⟩
                split at e
                · cases e
                · cases e
                · rename_i y f r4 e2
                  split at e
                  · exact bad2 x y r4 d t r' (Or.inr (hb2 _ _ e2)) e
                  · cases e
            dsimp only
            by_cases hd43 : d = 43
            · refine tail 3 _ (Or.inl ⟨rfl, hd43⟩) fun p hp => go1 p (Ev.yes (by rw [hd43]; rfl) (Ev.round ?_))
              simp only [spec_l13Read.j1]
              rw [hbt1, w64s (by omega)]
              exact Ev.no (by simp) (Ev.yes (by omega) (Ev.yes (by rw [bA_size]; omega) (Ev.no (by rw [hd43]; decide) (Ev.bind P2 hp))))
            have d43 : (d.toNat : Int) ≠ 43 := fun e => hd43 (UInt8.toNat_inj.1 (by simpa using (by omega : d.toNat = 43)))
            by_cases hd46 : d = 46
            · refine tail 4 _ (Or.inr ⟨rfl, hd46⟩) fun p hp => go1 p (Ev.no d43 (Ev.round ?_))
              simp only [spec_l13Read.j1]
              rw [hbt1, w64s (by omega)]
              exact Ev.no (by rw [hd46]; decide) (Ev.yes (by omega) (Ev.yes (by rw [bA_size]; omega) (Ev.yes (by rw [hd46]; rfl) (Ev.bind P2 hp))))
            have d46 : (d.toNat : Int) ≠ 46 := fun e => hd46 (UInt8.toNat_inj.1 (by simpa using (by omega : d.toNat = 46)))
            refine ⟨_, go1 _ (Ev.no d43 (by rw [show ((d.toNat : Int) != 46) = true by simpa using d46]; exact fail1 _ _)), Or.inr ⟨fun t r' e => ?_, rfl⟩⟩
            split at e
            · cases e
            · cases e
            · split at e <;> first | (cases e; done) | (rw [if_neg hd43, if_neg hd46] at e; cases e)
        · refine failed (fun t r' e => ?_) _ (go _ (Ev.yes (by rw [hp1]; rfl) (fail1 _ _)))
          split at e
          · cases e
          · cases e
          · rename_i x d r2 e1
            split at e
            · cases e
            · cases e
            · rename_i y f r4 e2
              split at e
              · exact bad2 x y r4 d t r' (Or.inl (hb1 _ _ e1)) e
              · cases e
      · rw [if_neg h5]
        have c5 : (c.toNat : Int) ≠ 40 := fun e => h5 (UInt8.toNat_inj.1 (by simpa using (by omega : c.toNat = 40)))
        refine ⟨([], ((i + 1 : Nat) : Int)), start2 _ (Ev.round ?_), Or.inr ⟨fun t r' e => by simp at e, rfl⟩⟩
        simp only [spec_l13Read.j0]
        exact Ev.no (by simp) (Ev.no c5 (Ev.now _))
end Go.Proofs.YthbaocejgjpfoaaDoor.U
end M6
section M7
namespace Go.Proofs.YthbaocejgjpfoaaDoor.U
open Go.RowKit Go.Proofs.YthbaocejgjpfoaaDoor.P Go.Proofs.YthbaocejgjpfoaaDoorW.PrintWords Go.Proofs.YthbaocejgjpfoaaDoorW.PrintLast
set_option linter.unusedVariables false
/-! Marking a list with numbers, and finding the numbers again. -/
/-- a, a+1, .., n numbers. -/
def upL (a n : Nat) : List Int := (List.range n).map fun i => ((a + i : Nat) : Int)
theorem upL_length (a n : Nat) : (upL a n).length = n := by simp [upL]
theorem upL_get (a n i : Nat) (h : i < (upL a n).length) : (upL a n)[i] = ((a + i : Nat) : Int) := by simp [upL]
theorem markS (l : List Int) (a : Nat) (ha : a + l.length ≤ 1152921504606846976) : Ev (fun k => laws_markInt64S.f k l (a : Int)) (((a + l.length : Nat) : Int), upL a l.length) := by
  have key := Ev.up (fun k (s : List Int × Int) i => laws_markInt64S.l0 k s.1 s.2 i) l.length (fun _ _ => (((a + l.length : Nat) : Int), upL a l.length))
    (fun i s => s.2 = ((a + i : Nat) : Int) ∧ s.1.length = l.length ∧ ∀ j, j < i → s.1[j]? = some ((a + j : Nat) : Int))
    (fun s ⟨h1, h2, h3⟩ => by
      refine Ev.round ?_
      simp only [laws_markInt64S.l0]
      refine Ev.no (by omega) ?_
      have : s.1 = upL a l.length := List.ext_getElem? fun j => by
        by_cases hj : j < l.length
        · rw [h3 j hj, List.getElem?_eq_getElem (by rw [upL_length]; exact hj), upL_get]
        · rw [List.getElem?_eq_none (by omega), List.getElem?_eq_none (by rw [upL_length]; omega)]
      rw [this, h1]
      exact Ev.now _)
    (fun i s hi ⟨h1, h2, h3⟩ ih => by
      refine Ev.round ?_
      simp only [laws_markInt64S.l0]
      refine Ev.yes (by omega) (Ev.yes (by omega) ?_)
      rw [h1, w64s (by omega), w64s (by omega)]
      refine ih (s.1.set (i : Int).toNat ((a + i : Nat) : Int), ((a + i + 1 : Nat) : Int)) ⟨rfl, by simp [h2], fun j hj => ?_⟩
      rw [Int.toNat_natCast]
      by_cases e : j = i
      · subst e
        exact List.getElem?_set_self (by omega)
      · rw [List.getElem?_set_ne (by omega)]
        exact h3 j (by omega))
  have := key 0 (l, (a : Int)) (by omega) ⟨by simp, rfl, fun j hj => absurd hj (by omega)⟩
  unfold laws_markInt64S.f
  simpa using this
theorem markAl (x : Int) (l : List Int) (hn : l.length ≤ 1048576) : Ev (fun k => laws_markAlphabet.f k x l 1) (((1 + l.length : Nat) : Int), upL 1 l.length) := by
  unfold laws_markAlphabet.f
  exact Ev.bind (markS l 1 (by omega)) (Ev.now _)
end Go.Proofs.YthbaocejgjpfoaaDoor.U
end M7
section M8
namespace Go.Proofs.YthbaocejgjpfoaaDoor.U
open Go.RowKit Go.Proofs.YthbaocejgjpfoaaDoor.P Go.Proofs.YthbaocejgjpfoaaDoorW.PrintWords Go.Proofs.YthbaocejgjpfoaaDoorW.PrintLast Go.Proofs.YthbaocejgjpfoaaDoorW.PrintMore
set_option linter.unusedVariables false
/-! Reading an expression, both ways. -/
theorem good_letter : ∀ t : Tr, t.good = false → ∃ x ∈ t.enc, x.f0 = 2 ∧ 8 ≤ x.f1
  | .nothing, h => by simp [Tr.good] at h
  | .empty, h => by simp [Tr.good] at h
  | .letter a, h => ⟨⟨2, (a : Int)⟩, by simp [Tr.enc], rfl, by simp [Tr.good] at h; show (8 : Int) ≤ (a : Int); omega⟩
  | .star x, h => by
    obtain ⟨y, hy, h2⟩ := good_letter x (by simpa [Tr.good] using h)
    exact ⟨y, by simp [Tr.enc, hy], h2⟩
  | .sum x y, h => by
    have h' : x.good = false ∨ y.good = false := by
      cases hx : x.good
      · exact .inl rfl
      · right; simpa [Tr.good, hx] using h
    rcases h' with h' | h'
    · obtain ⟨z, hz, h2⟩ := good_letter x h'
      exact ⟨z, by simp [Tr.enc, hz], h2⟩
    · obtain ⟨z, hz, h2⟩ := good_letter y h'
      exact ⟨z, by simp [Tr.enc, hz], h2⟩
  | .prod x y, h => by
    have h' : x.good = false ∨ y.good = false := by
      cases hx : x.good
      · exact .inl rfl
      · right; simpa [Tr.good, hx] using h
    rcases h' with h' | h'
    · obtain ⟨z, hz, h2⟩ := good_letter x h'
      exact ⟨z, by simp [Tr.enc, hz], h2⟩
    · obtain ⟨z, hz, h2⟩ := good_letter y h'
      exact ⟨z, by simp [Tr.enc, hz], h2⟩
theorem isExpr_good {n : Int} {d : List Int} {t : Tr} {b : Bool} (h : b = true → alB n d = true ∧ 1 ≤ t.enc.length ∧ t.enc.length ≤ 24 ∧ (∀ j : Nat, j < t.enc.length → tOk n (tD t.enc j) = true) ∧ Ev (fun k => spec_l13End.f k t.enc ((0 : Nat) : Int)) (t.enc.length : Int)) (hg : t.good = false) : b = false := by
  cases b with
  | false => rfl
  | true =>
    exfalso
    obtain ⟨ha, _, _, hok, _⟩ := h rfl
    obtain ⟨x, hx, h2, h8⟩ := good_letter t hg
    obtain ⟨j, hj, rfl⟩ := List.mem_iff_getElem.1 hx
    have := hok j hj
    have e : tD t.enc j = t.enc[j] := by unfold tD; rw [List.getD_eq_getElem?_getD, List.getElem?_eq_getElem hj]; rfl
    rw [e] at this
    unfold tOk at this
    rw [if_pos h2] at this
    simp only [Bool.and_eq_true, inI_iff] at this
    have hn : 0 ≤ n ∧ n ≤ 8 := by
      unfold alB at ha
      simp only [Bool.and_eq_true, inI_iff] at ha
      exact ha.1
    have := this.2.2
    unfold wrap64 at this
    omega
theorem parse_both (n : Int) (d : List Int) (s : ByteArray) (hs : s.size ≤ 1048576) : ∃ r, Ev (fun k => spec_ParseExpression.f k n d s) r ∧ Ev (fun k => impl_ParseExpression.f k n d s) r ∧ r.1.length ≤ 96 ∧
    (alB n d = false → r = ([], 1)) ∧ (∀ t : Tr, pr (s.data.toList.length + 1) s.data.toList = some (t, []) → s.size ≤ 96 → (∀ b, Ev (fun k => impl_IsExpression.f k n d t.enc) b → b = true → r = (t.enc, 0))) ∧
    (r.2 = 0 → ∃ t : Tr, t.good = true ∧ pr (s.data.toList.length + 1) s.data.toList = some (t, []) ∧ r.1 = t.enc ∧ Ev (fun k => impl_IsExpression.f k n d t.enc) true) ∧ (r.2 ≠ 0 → r.1 = []) := by
  obtain ⟨l, rfl⟩ : ∃ l, s = bA l := ⟨s.data.toList, (bA_data s).symm⟩
  have hl0 : (bA l).data.toList = l := by simp [bA]
  rw [hl0]
  rw [bA_size] at hs
  unfold spec_ParseExpression.f impl_ParseExpression.f
  have h1 := l02Is_ev n d
  have h2 := isAl_ev n d
  cases ha : alB n d with
  | false =>
    rw [ha] at h1 h2
    refine ⟨([], 1), Ev.bind h1 (Ev.no (by simp) (Ev.now _)), Ev.bind h2 (Ev.no (by simp) (Ev.now _)), by simp, fun _ => rfl, fun t _ _ b hb hb1 => ?_, fun h => absurd h (by simp), fun _ => rfl⟩
    subst hb1
    obtain ⟨b, _, b2, b3⟩ := isExpr_ev' n d t.enc (by
      rename_i h96 _
      have := pr_len _ _ _ _ (by assumption)
      omega)
    have := Ev.det b2 hb
    rw [(b3 this).1] at ha
    exact absurd ha (by simp)
  | true =>
    rw [ha] at h1 h2
    rcases Nat.lt_or_ge 96 l.length with hl | hl
    · refine ⟨([], 6), Ev.bind h1 (Ev.yes rfl (Ev.yes (by rw [bA_size]; omega) (Ev.now _))), Ev.bind h2 (Ev.yes rfl (Ev.yes (by rw [bA_size]; omega) (Ev.now _))), by simp, fun h => by simp at h, fun t _ h96 => ?_, fun h => absurd h (by simp), fun _ => rfl⟩
      rw [bA_size] at h96
      omega
    · obtain ⟨p, P, o⟩ := spec_read l hl (l.length + 1) 0 (by simp) (by omega)
      rw [List.drop_zero] at o
      have I := impl_read (l.length + 1) l (by omega) hl
      rcases o with ⟨t, r, e, g, j, hj, hd, rfl⟩ | ⟨hb, hp⟩
      · rw [e] at I
        have hjl := drop_len hd hj
        have hlen := pr_len _ _ _ _ e
        cases r with
        | nil =>
          simp only [List.length_nil] at hjl
          obtain ⟨b, b1, b2, b3⟩ := isExpr_ev' n d t.enc (by omega)
          have S : ∀ q, Ev (fun k => (spec_IsExpression.f k n d t.enc).bind fun t827 => (if t827 = true then (some (t.enc, (0 : Int))) else (some (([] : List TmT), (6 : Int))))) q → Ev (fun k => (spec_l02Is.f k n d).bind fun t822 => (if t822 = true then (if ((bA l).size : Int) > 96 then (some (([] : List TmT), (6 : Int))) else ((spec_l13Read.f k (bA l) 0).bind fun bt823 => (if bt823.2 = ((bA l).size : Int) then ((spec_IsExpression.f k n d bt823.1).bind fun t827 => (if t827 = true then (some (bt823.1, (0 : Int))) else (some (([] : List TmT), (6 : Int))))) else (some (([] : List TmT), (6 : Int)))))) else (some (([] : List TmT), (1 : Int))))) q := fun q hq =>
            Ev.bind h1 (Ev.yes rfl (Ev.no (by rw [bA_size]; omega) (Ev.bind P (Ev.yes (by show (j : Int) = _; rw [bA_size]; omega) hq))))
          have T : ∀ q, Ev (fun k => (impl_IsExpression.f k n d t.enc).bind fun t892 => (if t892 = true then (some (t.enc, (0 : Int))) else (some (([] : List TmT), (6 : Int))))) q → Ev (fun k => (impl_IsAlphabet.f k n d).bind fun t886 => (if t886 = true then (if ((bA l).size : Int) > 96 then (some (([] : List TmT), (6 : Int))) else ((impl_readExpression.f k (bA l)).bind fun bt887 => (if bt887.2.2 = true then (if bt887.2.1.toList = ([] : List UInt8) then ((impl_IsExpression.f k n d bt887.1).bind fun t892 => (if t892 = true then (some (bt887.1, (0 : Int))) else (some (([] : List TmT), (6 : Int))))) else (some (([] : List TmT), (6 : Int)))) else (some (([] : List TmT), (6 : Int)))))) else (some (([] : List TmT), (1 : Int))))) q := fun q hq =>
            Ev.bind h2 (Ev.yes rfl (Ev.no (by rw [bA_size]; omega) (Ev.bind I (Ev.yes rfl (Ev.yes ((isEmpty_bA []).2 rfl) hq)))))
          cases b with
          | false =>
            refine ⟨([], 6), S _ (Ev.bind b1 (Ev.no (by simp) (Ev.now _))), T _ (Ev.bind b2 (Ev.no (by simp) (Ev.now _))), by simp, fun h => by simp at h, fun t' e' _ b hb hb1 => ?_, fun h => absurd h (by simp), fun _ => rfl⟩
            rw [e] at e'
            obtain ⟨rfl, _⟩ := Prod.mk.inj (Option.some.inj e')
            have := Ev.det b2 hb
            rw [hb1] at this
            exact absurd this (by simp)
          | true =>
            refine ⟨(t.enc, 0), S _ (Ev.bind b1 (Ev.yes rfl (Ev.now _))), T _ (Ev.bind b2 (Ev.yes rfl (Ev.now _))), by show t.enc.length ≤ 96; omega, fun h => by simp at h, fun t' e' _ b hb hb1 => ?_, fun _ => ⟨t, g, e, rfl, b2⟩, fun h => absurd rfl h⟩
            rw [e] at e'
            obtain ⟨rfl, _⟩ := Prod.mk.inj (Option.some.inj e')
            rfl
        | cons c r =>
          simp only [List.length_cons] at hjl
          refine ⟨([], 6), Ev.bind h1 (Ev.yes rfl (Ev.no (by rw [bA_size]; omega) (Ev.bind P (Ev.no (by show ¬ (j : Int) = _; rw [bA_size]; omega) (Ev.now _))))), Ev.bind h2 (Ev.yes rfl (Ev.no (by rw [bA_size]; omega) (Ev.bind I (Ev.yes rfl (Ev.no (fun h => absurd ((isEmpty_bA (c :: r)).1 h) (by simp)) (Ev.now _)))))), by simp, fun h => by simp at h, fun t' e' => ?_, fun h => absurd h (by simp), fun _ => rfl⟩
          rw [e] at e'
          obtain ⟨_, e2⟩ := Prod.mk.inj (Option.some.inj e')
          exact absurd e2 (by simp)
      · have S : Ev (fun k => (spec_l02Is.f k n d).bind fun t822 => (if t822 = true then (if ((bA l).size : Int) > 96 then (some (([] : List TmT), (6 : Int))) else ((spec_l13Read.f k (bA l) 0).bind fun bt823 => (if bt823.2 = ((bA l).size : Int) then ((spec_IsExpression.f k n d bt823.1).bind fun t827 => (if t827 = true then (some (bt823.1, (0 : Int))) else (some (([] : List TmT), (6 : Int))))) else (some (([] : List TmT), (6 : Int)))))) else (some (([] : List TmT), (1 : Int))))) ([], 6) := by
          refine Ev.bind h1 (Ev.yes rfl (Ev.no (by rw [bA_size]; omega) (Ev.bind P ?_)))
          by_cases hq : p.2 = ((bA l).size : Int)
          · refine Ev.yes hq ?_
            rw [hp]
            obtain ⟨b, b1, b2, b3⟩ := isExpr_ev' n d ([] : List TmT) (by simp)
            cases b with
            | false => exact Ev.bind b1 (Ev.no (by simp) (Ev.now _))
            | true => have := (b3 rfl).2.1; simp at this
          · exact Ev.no hq (Ev.now _)
        have T : Ev (fun k => (impl_IsAlphabet.f k n d).bind fun t886 => (if t886 = true then (if ((bA l).size : Int) > 96 then (some (([] : List TmT), (6 : Int))) else ((impl_readExpression.f k (bA l)).bind fun bt887 => (if bt887.2.2 = true then (if bt887.2.1.toList = ([] : List UInt8) then ((impl_IsExpression.f k n d bt887.1).bind fun t892 => (if t892 = true then (some (bt887.1, (0 : Int))) else (some (([] : List TmT), (6 : Int))))) else (some (([] : List TmT), (6 : Int)))) else (some (([] : List TmT), (6 : Int)))))) else (some (([] : List TmT), (1 : Int))))) ([], 6) := by
          refine Ev.bind h2 (Ev.yes rfl (Ev.no (by rw [bA_size]; omega) (Ev.bind I ?_)))
          cases e : pr (l.length + 1) l with
          | none => exact Ev.no (by simp [outI]) (Ev.now _)
          | some q =>
            obtain ⟨t, r⟩ := q
            refine Ev.yes rfl ?_
            cases r with
            | nil =>
              have hlen := pr_len _ _ _ _ e
              refine Ev.yes ((isEmpty_bA []).2 rfl) ?_
              obtain ⟨b, b1, b2, b3⟩ := isExpr_ev' n d t.enc (by omega)
              have := isExpr_good b3 (hb _ _ e)
              subst this
              exact Ev.bind b2 (Ev.no (by simp) (Ev.now _))
            | cons c r => exact Ev.no (fun h => absurd ((isEmpty_bA (c :: r)).1 h) (by simp)) (Ev.now _)
        refine ⟨([], 6), S, T, by simp, fun h => by simp at h, fun t e _ b hb' hb1 => ?_, fun h => absurd h (by simp), fun _ => rfl⟩
        have hlen := pr_len _ _ _ _ e
        obtain ⟨b', b1, b2, b3⟩ := isExpr_ev' n d t.enc (by omega)
        have := isExpr_good b3 (hb _ _ e)
        have := Ev.det b2 hb'
        simp_all
/-! Marking a row of terms. -/
def upT (a n : Nat) : List TmT := (List.range n).map fun i => ⟨((a + 2 * i : Nat) : Int), ((a + 2 * i + 1 : Nat) : Int)⟩
theorem upT_length (a n : Nat) : (upT a n).length = n := by simp [upT]
theorem upT_get (a n i : Nat) (h : i < (upT a n).length) : (upT a n)[i] = ⟨((a + 2 * i : Nat) : Int), ((a + 2 * i + 1 : Nat) : Int)⟩ := by simp [upT]
theorem tD_at {e : List TmT} {i : Nat} (h : i < e.length) : tD e i = e[i] := by unfold tD; rw [List.getD_eq_getElem?_getD, List.getElem?_eq_getElem h]; rfl
theorem markT (l : List TmT) (a : Nat) (ha : a + 2 * l.length ≤ 1152921504606846976) : Ev (fun k => laws_markTermS.f k l (a : Int)) (((a + 2 * l.length : Nat) : Int), upT a l.length) := by
  have key := Ev.up (fun k (s : List TmT × Int) i => laws_markTermS.l0 k s.1 s.2 i) l.length (fun _ _ => (((a + 2 * l.length : Nat) : Int), upT a l.length))
    (fun i s => s.2 = ((a + 2 * i : Nat) : Int) ∧ s.1.length = l.length ∧ ∀ j, j < i → s.1[j]? = some (⟨((a + 2 * j : Nat) : Int), ((a + 2 * j + 1 : Nat) : Int)⟩ : TmT))
    (fun s ⟨h1, h2, h3⟩ => by
      refine Ev.round ?_
      simp only [laws_markTermS.l0]
      refine Ev.no (by omega) ?_
      have : s.1 = upT a l.length := List.ext_getElem? fun j => by
        by_cases hj : j < l.length
        · rw [h3 j hj, List.getElem?_eq_getElem (by rw [upT_length]; exact hj), upT_get]
        · rw [List.getElem?_eq_none (by omega), List.getElem?_eq_none (by rw [upT_length]; omega)]
      rw [this, h1]
      exact Ev.now _)
    (fun i s hi ⟨h1, h2, h3⟩ ih => by
      refine Ev.round ?_
      simp only [laws_markTermS.l0, Option.bind_some]
      refine Ev.yes (by omega) (Ev.yes (by omega) ?_)
      rw [h1, w64s (by omega), w64s (by omega), w64s (by omega)]
      have hx : i < (s.1.set (i : Int).toNat (⟨((a + 2 * i : Nat) : Int), (rd_T84 s.1 (i : Int)).f1⟩ : TmT)).length := by simp; omega
      have e0 : rd_T84 (s.1.set (i : Int).toNat (⟨((a + 2 * i : Nat) : Int), (rd_T84 s.1 (i : Int)).f1⟩ : TmT)) (i : Int) = (⟨((a + 2 * i : Nat) : Int), (rd_T84 s.1 (i : Int)).f1⟩ : TmT) := by
        rw [rdTm, tD_at hx]
        simp
      rw [e0]
      refine ih (_, ((a + 2 * i + 1 + 1 : Nat) : Int)) ⟨rfl, by simp [h2], fun j hj => ?_⟩
      rw [Int.toNat_natCast]
      by_cases e : j = i
      · subst e
        exact List.getElem?_set_self (by simp; omega)
      · rw [List.getElem?_set_ne (by omega), List.getElem?_set_ne (by omega)]
        exact h3 j (by omega))
  have := key 0 (l, (a : Int)) (by omega) ⟨by simp, rfl, fun j hj => absurd hj (by omega)⟩
  unfold laws_markTermS.f
  simpa using this
theorem heldT (n a : Nat) (ha : a + 2 * n ≤ 1152921504606846976) : Ev (fun k => laws_heldTermS.f k (upT a n) (a : Int)) (((a + 2 * n : Nat) : Int)) := by
  have hl := upT_length a n
  have key := Ev.up (fun k (s : Int) i => laws_heldTermS.l0 k (upT a n) s i) n (fun _ _ => (((a + 2 * n : Nat) : Int))) (fun i s => s = ((a + 2 * i : Nat) : Int))
    (fun s h1 => by
      refine Ev.round ?_
      simp only [laws_heldTermS.l0]
      refine Ev.no (by omega) ?_
      rw [h1]
      exact Ev.now _)
    (fun i s hi h1 ih => by
      refine Ev.round ?_
      simp only [laws_heldTermS.l0]
      refine Ev.yes (by omega) (Ev.yes (by omega) ?_)
      rw [rdTm, tD_at (by omega), upT_get, h1, w64s (by omega), w64s (by omega), w64s (by omega)]
      exact Ev.yes rfl (Ev.yes rfl (ih _ rfl)))
  have := key 0 (a : Int) (by omega) (by simp)
  unfold laws_heldTermS.f
  simpa using this
end Go.Proofs.YthbaocejgjpfoaaDoor.U
end M8
section M9
namespace Go.Proofs.YthbaocejgjpfoaaDoor.Pure
open Go.RowKit Go.Proofs.YthbaocejgjpfoaaDoor.P Go.Proofs.YthbaocejgjpfoaaDoor.U Go.Proofs.YthbaocejgjpfoaaDoorW.PrintWords Go.Proofs.YthbaocejgjpfoaaDoorW.PrintLast Go.Proofs.YthbaocejgjpfoaaDoorW.PrintMore
set_option linter.unusedVariables false
theorem FnExactParseExpression : ∀ (a0_0 : Int) (l0_1 : List Int) (a1 : ByteArray), ((Lit.int .i64 a0_0).wf = true) → (l0_1.length ≤ maxLen ∧ ∀ x0 ∈ l0_1, (Lit.int .i64 x0).wf = true) → (a1.size ≤ maxLen) → ∃ k, laws_FnExactParseExpression.f k a0_0 l0_1 a1 = some true := by
  intro n d s _ hd hs
  apply Ev.rounds
  unfold laws_FnExactParseExpression.f
  rcases Nat.lt_or_ge 1048576 s.size with h0 | h0
  · exact Ev.yes (by omega) (Ev.now _)
  refine Ev.no (by omega) (Ev.here (szAl n d hd.1) ?_)
  rcases Nat.lt_or_ge 1048576 d.length with h1 | h1
  · rw [if_neg (by omega)]; exact Ev.yes (by omega) (Ev.now _)
  rw [if_pos h1]
  obtain ⟨r, S, T, hl, _⟩ := parse_both n d s h0
  refine Ev.no (by omega) (Ev.bind (toAl n d (by omega)) (Ev.bind S (Ev.bind (toAl n d (by omega)) (Ev.bind T (Ev.bind (eqTmS r.1 (by omega)) (Ev.yes rfl (Ev.round ?_)))))))
  simp only [laws_FnExactParseExpression.j0]
  refine Ev.no (by simp) (Ev.bind (toAl n d (by omega)) (Ev.bind (eqAl1 n d (by omega)) (Ev.yes rfl (Ev.bind (markAl n d (by omega)) (Ev.no (by show ¬ ((1 + d.length : Nat) : Int) < 0; omega) (Ev.bind (eqTmS r.1 (by omega)) (Ev.yes rfl (Ev.round ?_))))))))
  simp only [laws_FnExactParseExpression.j1]
  refine Ev.no (by simp) (Ev.bind (markT r.1 1 (by omega)) (Ev.bind (heldT r.1.length 1 (by omega)) (Ev.no (by omega) (Ev.yes rfl (Ev.bind (toAl n d (by omega)) (Ev.bind T (Ev.bind (eqTmS r.1 (by omega)) (Ev.yes rfl (Ev.round ?_)))))))))
  simp only [laws_FnExactParseExpression.j2]
  exact Ev.no (by simp) (Ev.bind (heldT r.1.length 1 (by omega)) (Ev.no (by omega) (Ev.yes rfl (Ev.now _))))
end Go.Proofs.YthbaocejgjpfoaaDoor.Pure
end M9
