/- For every draw: the text of what is read out of a drawn text is that text, an expression drawn is read back out of its own text, and where there is nothing to read both say so. No condition. -/
import Derived.ArgAppend
import Derived.Below
import Derived.BigQuiet
import Derived.ChangeOld
import Derived.ChangeSame
import Derived.ChangeShapes
import Derived.Deep.AppendLies
import Derived.Deep.CutBlock
import Derived.Deep.DeepCutAuto
import Derived.Deep.DeepHandedRow
import Derived.Deep.Draws
import Derived.Deep.LoopGhost
import Derived.Deep.OwnRows
import Derived.Deep.QuietTactic
import Derived.Deep.RegionHeld3
import Derived.Deep.Slices
import Derived.Deep.Strs
import Derived.KernelRfl
import Derived.Laws.BitsLemmas
import Derived.Laws.BytesArg
import Derived.Laws.IdiomCopy
import Derived.Laws.MakeOwn
import Derived.Laws.OwnMore
import Derived.Laws.Rows
import Derived.Laws.Slices
import Derived.Laws.Strings
import Derived.Laws.StructEq
import Derived.Lib.AppendStr
import Derived.Lib.ConvBytes
import Derived.Lib.LaidTab
import Derived.Lib.SliceRun
import Derived.Lib.SmallJoins
import Derived.Maps.AppendAt
import Derived.OpenShut
import Derived.OrdersHeld
import Derived.OwnWalk
import Derived.ProofKit
import Derived.RowKit
import Derived.RowKit3
import Derived.Shelf.Abstract
import Derived.Shelf.Spec.TrailingZeros
import Derived.ShutString
import Derived.SizedLaws
import Derived.Tactics
import Derived.Test.YthbaocejgjpfoaaDoorCards
import Derived.Test.YthbaocejgjpfoaaDoorChecked
import Derived.Test.YthbaocejgjpfoaaDoorProg
import Derived.Test.YthbaocejgjpfoaaDoorTie
import Derived.WalkKit
import Derived.WideLaws
import Derived.Test.YthbaocejgjpfoaaDoorCFnExpressionTexts2
import Derived.Test.YthbaocejgjpfoaaDoorCFnExpressionTexts3
import Derived.Test.YthbaocejgjpfoaaDoorCFnExpressionTexts4
import Derived.Test.YthbaocejgjpfoaaDoorCFnExpressionTexts5
import Derived.Test.YthbaocejgjpfoaaDoorCFnExpressionTexts6
import Derived.Test.YthbaocejgjpfoaaDoorCFnExpressionTexts7
import Derived.Test.YthbaocejgjpfoaaDoorCFnExpressionTexts8
import Derived.Test.YthbaocejgjpfoaaDoorCFnExpressionTexts9
import Derived.Test.YthbaocejgjpfoaaDoorCFnExpressionTexts10
import Derived.Test.YthbaocejgjpfoaaDoorCFnExpressionTexts11
import Derived.Test.YthbaocejgjpfoaaDoorCFnExpressionTexts12
import Derived.Test.YthbaocejgjpfoaaDoorCFnExpressionTexts13
section M0
namespace Go.Proofs.YthbaocejgjpfoaaDoor.U
open Go.RowKit Go.Proofs.YthbaocejgjpfoaaDoor.P Go.Proofs.YthbaocejgjpfoaaDoorW.PrintWords Go.Proofs.YthbaocejgjpfoaaDoorW.PrintLast Go.Proofs.YthbaocejgjpfoaaDoorW.PrintMore
set_option linter.unusedVariables false
/-! Reading expressions. -/
def bA (l : List UInt8) : ByteArray := ⟨l.toArray⟩
theorem bA_size (l : List UInt8) : (bA l).size = l.length := by simp [bA, ByteArray.size]
theorem bA_data (s : ByteArray) : bA s.data.toList = s := by cases s; simp [bA]
theorem bA_toList (l : List UInt8) : (bA l).toList = l := by rw [ByteArray.toList_eq]; simp [bA]
theorem bA_bt {l : List UInt8} {i : Nat} (h : i < l.length) : Go.Proofs.YthbaocejgjpfoaaDoorW.PrintWords.bt (bA l) (i : Int) = (l[i].toNat : Int) := by
  unfold Go.Proofs.YthbaocejgjpfoaaDoorW.PrintWords.bt
  rw [dif_pos (by rw [bA_size]; simpa using h)]
  simp only [Int.toNat_natCast, bA]
  rfl
theorem bA_extract (l : List UInt8) (i : Nat) : (bA l).extract i (bA l).size = bA (l.drop i) := by
  apply ByteArray.ext
  simp [bA, ByteArray.size, List.take_of_length_le]
theorem bA_take (l : List UInt8) (i : Nat) : (bA l).extract 0 i = bA (l.take i) := by
  apply ByteArray.ext
  simp [bA]
def stars : Tr → List UInt8 → Tr × List UInt8
  | t, [] => (t, [])
  | t, c :: r => if c = 42 then stars (.star t) r else (t, c :: r)
def pr : Nat → List UInt8 → Option (Tr × List UInt8)
  | 0, _ => none
  | k + 1, s => match s with
    | [] => none
    | c :: r =>
      if c = 48 then some (stars .nothing r) else if c = 49 then some (stars .empty r) else if 97 ≤ c.toNat then some (stars (.letter (c.toNat - 97)) r)
      else if c = 40 then
        match pr k r with
        | none => none
        | some (x, []) => none
        | some (x, d :: r2) => match pr k r2 with
          | none => none
          | some (y, []) => none
          | some (y, f :: r4) => if f = 41 then (if d = 43 then some (stars (.sum x y) r4) else if d = 46 then some (stars (.prod x y) r4) else none) else none
      else none
/-- The letters are those of the widest alphabet. -/
def Tr.good : Tr → Bool
  | .letter a => decide (a ≤ 7)
  | .sum x y | .prod x y => x.good && y.good
  | .star x => x.good
  | _ => true
theorem stars_len : ∀ (r : List UInt8) (t : Tr), (stars t r).1.enc.length + (stars t r).2.length = t.enc.length + r.length ∧ (stars t r).2.length ≤ r.length ∧ (stars t r).1.good = t.good
  | [], t => ⟨rfl, Nat.le_refl _, rfl⟩
  | c :: r, t => by
    unfold stars
    split
    · obtain ⟨h1, h2, h3⟩ := stars_len r (.star t)
      refine ⟨by rw [h1]; simp [Tr.enc]; omega, by simp; omega, h3⟩
    · exact ⟨rfl, Nat.le_refl _, rfl⟩
theorem pr_len : ∀ (k : Nat) (s : List UInt8) (t : Tr) (r : List UInt8), pr k s = some (t, r) → t.enc.length + r.length ≤ s.length ∧ r.length < s.length
  | 0, s, t, r, h => by simp [pr] at h
  | k + 1, [], t, r, h => by simp [pr] at h
  | k + 1, c :: s, t, r, h => by
    have leaf : ∀ (x : Tr) (s' : List UInt8), x.enc.length + s'.length ≤ s.length + 1 → s'.length ≤ s.length → some (stars x s') = some (t, r) → t.enc.length + r.length ≤ (c :: s).length ∧ r.length < (c :: s).length := by
      intro x s' hx hs' e
      obtain ⟨h1, h2, _⟩ := stars_len s' x
      have e := Option.some.inj e
      rw [e] at h1 h2
      dsimp only at h1 h2
      simp only [List.length_cons]
      omega
    unfold pr at h
    dsimp only at h
    split at h
    · exact leaf .nothing s (by simp [Tr.enc]; omega) (Nat.le_refl _) h
    split at h
    · exact leaf .empty s (by simp [Tr.enc]; omega) (Nat.le_refl _) h
    split at h
    · exact leaf (.letter _) s (by simp [Tr.enc]; omega) (Nat.le_refl _) h
    split at h
    · split at h
      · cases h
      · cases h
      · rename_i x d r2 e1
        have l1 := pr_len k _ _ _ e1
        split at h
        · cases h
        · cases h
        · rename_i y f r4 e2
          have l2 := pr_len k _ _ _ e2
          simp only [List.length_cons] at l1 l2
          split at h
          · split at h
            · exact leaf (.sum x y) r4 (by simp [Tr.enc]; omega) (by omega) h
            · split at h
              · exact leaf (.prod x y) r4 (by simp [Tr.enc]; omega) (by omega) h
              · cases h
          · cases h
    · cases h
theorem prefix_eq (l : List UInt8) (c : UInt8) : strings_HasPrefix.f (bA l) (⟨#[c]⟩ : ByteArray) = some (decide (l.head? = some c)) := by
  have hs : (⟨#[c]⟩ : ByteArray).size = 1 := rfl
  have ht : (⟨#[c]⟩ : ByteArray).toList = [c] := by rw [ByteArray.toList_eq]
  unfold strings_HasPrefix.f stringslite_HasPrefix.f
  rw [hs, bA_size]
  cases l with
  | nil => rw [if_neg (by simp)]; rfl
  | cons b l =>
    rw [if_pos (by simp <;> omega), if_pos (by decide), if_pos (by simp <;> omega)]
    have : (((1 : Nat) : Int)).toNat = 1 := rfl
    rw [this, bA_take, bA_toList, ht]
    simp
    rfl
/-- What the program's reading comes to. -/
def outI : Option (Tr × List UInt8) → List TmT × ByteArray × Bool
  | none => ([], ⟨#[]⟩, false)
  | some (t, r) => (t.enc, bA r, true)
theorem stars_impl : ∀ (r : List UInt8) (t : Tr), t.enc.length + r.length ≤ 200 → Ev (fun k => impl_readExpression.l0 k t.enc (bA r)) (outI (some (stars t r)))
  | [], t, h => by
    refine Ev.round ?_
    simp only [impl_readExpression.l0]
    refine Ev.here (prefix_eq _ _) (Ev.no (by simp) (Ev.now _))
  | c :: r, t, h => by
    refine Ev.round ?_
    simp only [impl_readExpression.l0]
    refine Ev.here (prefix_eq _ _) ?_
    by_cases hc : c = 42
    · subst hc
      have : stars t (42 :: r) = stars (.star t) r := by rw [stars, if_pos rfl]
      rw [this]
      refine Ev.yes (by simp) ?_
      simp only [Option.bind_some]
      simp only [List.length_cons] at h
      refine Ev.yes (by simp; omega) (Ev.yes (by rw [bA_size]; simp <;> omega) ?_)
      rw [bA_extract]
      exact stars_impl r (.star t) (by simp [Tr.enc]; omega)
    · have : stars t (c :: r) = (t, c :: r) := by rw [stars, if_neg hc]
      rw [this]
      exact Ev.no (by simp [hc]) (Ev.now _)
theorem concat3 (a b c : List TmT) (h : a.length + b.length + c.length ≤ 1000) : Ev (fun k => impl_Term_137.f k [a, b, c]) (a ++ b ++ c) := by
  have r0 : rd_L7 [a, b, c] ((0 : Nat) : Int) = a := rfl
  have r1 : rd_L7 [a, b, c] ((1 : Nat) : Int) = b := rfl
  have r2 : rd_L7 [a, b, c] ((2 : Nat) : Int) = c := rfl
  have app : ∀ (i : Nat) (x l R : List TmT), i < 3 → rd_L7 [a, b, c] (i : Int) = x → l.length + x.length ≤ 1000 →
      Ev (fun k => impl_Term_137.l1 k (l ++ x) [a, b, c] 3 ((i + 1 : Nat) : Int)) R → Ev (fun k => impl_Term_137.l1 k l [a, b, c] 3 (i : Int)) R := by
    intro i x l R hi hx hl k
    refine Ev.round ?_
    simp only [impl_Term_137.l1]
    rw [hx, w64s (by omega)]
    exact Ev.yes (by omega) (Ev.yes (by omega) (Ev.yes (by simp; omega) (Ev.yes (by omega) k)))
  have cnt : ∀ (i : Nat) (x : List TmT) (n : Nat) (R : List TmT), i < 3 → rd_L7 [a, b, c] (i : Int) = x → n + x.length ≤ 1000 →
      Ev (fun k => impl_Term_137.l0 k [a, b, c] ((n + x.length : Nat) : Int) [a, b, c] 3 ((i + 1 : Nat) : Int)) R → Ev (fun k => impl_Term_137.l0 k [a, b, c] (n : Int) [a, b, c] 3 (i : Int)) R := by
    intro i x n R hi hx hl k
    refine Ev.round ?_
    simp only [impl_Term_137.l0]
    rw [hx, w64s (by omega), w64 (n := (n : Int) + x.length) (by omega) (by omega)]
    exact Ev.yes (by omega) (Ev.yes (by omega) (Ev.yes (by simp; omega) (Ev.no (by omega) (by rw [show ((n : Int) + (x.length : Int)) = ((n + x.length : Nat) : Int) by omega]; exact k))))
  unfold impl_Term_137.f
  refine cnt 0 a 0 _ (by omega) r0 (by omega) (cnt 1 b _ _ (by omega) r1 (by omega) (cnt 2 c _ _ (by omega) r2 (by omega) ?_))
  refine Ev.round ?_
  simp only [impl_Term_137.l0]
  refine Ev.no (by omega) (Ev.here (show impl_Term_159.f _ _ = some [] from ?_) ?_)
  · unfold impl_Term_159.f
    rw [if_pos ⟨rfl, by omega, by omega⟩]
  · refine app 0 a [] _ (by omega) r0 (by simp; omega) (app 1 b _ _ (by omega) r1 (by simp; omega) (app 2 c _ _ (by omega) r2 (by simp; omega) ?_))
    refine Ev.round ?_
    simp only [impl_Term_137.l1]
    exact Ev.no (by omega) (Ev.now _)
/-- The first character of what is left. -/
theorem isEmpty_bA (l : List UInt8) : (bA l).toList = [] ↔ l = [] := by rw [bA_toList]
theorem impl_read : ∀ (k : Nat) (s : List UInt8), s.length < k → s.length ≤ 96 → Ev (fun n => impl_readExpression.f n (bA s)) (outI (pr k s))
  | 0, s, h, _ => by omega
  | k + 1, [], h, hs => by
    refine Ev.round ?_
    simp only [impl_readExpression.f]
    exact Ev.yes ((isEmpty_bA _).2 rfl) (Ev.now _)
  | k + 1, c :: r, h, hs => by
    simp only [List.length_cons] at h hs
    have hbt : Go.Proofs.YthbaocejgjpfoaaDoorW.PrintWords.bt (bA (c :: r)) 0 = (c.toNat : Int) := bA_bt (l := c :: r) (i := 0) (by simp)
    have hlt : c.toNat < 256 := c.toNat_lt
    have hext : (bA (c :: r)).extract 1 (bA (c :: r)).size = bA r := by rw [bA_extract]; rfl
    have j2 : ∀ (t : Tr) (r' : List UInt8), t.enc.length + r'.length ≤ 200 → Ev (fun n => impl_readExpression.j2 n t.enc (bA r')) (outI (some (stars t r'))) := fun t r' hl => by
      refine Ev.round ?_
      simp only [impl_readExpression.j2]
      exact stars_impl r' t hl
    refine Ev.round ?_
    simp only [impl_readExpression.f]
    refine Ev.no (by rw [isEmpty_bA]; simp) ?_
    simp only [Option.bind_some, hbt, hext, List.nil_append]
    refine Ev.yes (by rw [bA_size]; simp <;> omega) (Ev.yes (by rw [bA_size]; simp <;> omega) ?_)
    unfold pr
    dsimp only
    by_cases h0 : c = 48
    · rw [if_pos h0]
      exact Ev.yes (by rw [h0]; rfl) (Ev.yes (by simp) (j2 .nothing r (by simp [Tr.enc]; omega)))
    rw [if_neg h0]
    have c0 : (c.toNat : Int) ≠ 48 := fun e => h0 (UInt8.toNat_inj.1 (by simpa using (by omega : c.toNat = 48)))
    refine Ev.no c0 ?_
    by_cases h1 : c = 49
    · rw [if_pos h1]
      exact Ev.yes (by rw [h1]; rfl) (Ev.yes (by simp) (j2 .empty r (by simp [Tr.enc]; omega)))
    rw [if_neg h1]
    have c1 : (c.toNat : Int) ≠ 49 := fun e => h1 (UInt8.toNat_inj.1 (by simpa using (by omega : c.toNat = 49)))
    refine Ev.no c1 ?_
    by_cases h2 : 97 ≤ c.toNat
    · rw [if_pos h2]
      refine Ev.yes (by omega) (Ev.yes (by simp) ?_)
      have := j2 (.letter (c.toNat - 97)) r (by simp [Tr.enc]; omega)
      have e : ((c.toNat : Int) - 97) % 256 = ((c.toNat - 97 : Nat) : Int) := by omega
      rw [e]
      exact this
    rw [if_neg h2]
    refine Ev.no (by omega) ?_
    by_cases h3 : c = 40
    · rw [if_pos h3]
      refine Ev.yes (by rw [h3]; rfl) (Ev.bind (impl_read k r (by omega) (by omega)) ?_)
      have fail0 : ∀ (x : List TmT) (y : ByteArray), Ev (fun n => impl_readExpression.j0 n x y true) (outI none) := fun x y => by
        refine Ev.round ?_
        simp only [impl_readExpression.j0]
        exact Ev.yes (by trivial) (Ev.now _)
      have fail1 : ∀ (x x' : List TmT) (y y' : ByteArray), Ev (fun n => impl_readExpression.j1 n x y x' y' true) (outI none) := fun x x' y y' => by
        refine Ev.round ?_
        simp only [impl_readExpression.j1]
        exact Ev.yes (by trivial) (Ev.now _)
      cases e1 : pr k r with
      | none => exact Ev.no (by simp [outI]) (fail0 _ _)
      | some q =>
        obtain ⟨x, r1⟩ := q
        have l1 := pr_len k _ _ _ e1
        refine Ev.yes rfl ?_
        show Ev (fun n => impl_readExpression.j0 n x.enc (bA r1) ((bA r1).toList == [])) _
        rw [bA_toList]
        cases r1 with
        | nil => exact fail0 _ _
        | cons d r2 =>
          simp only [List.length_cons] at l1
          have hbt2 : Go.Proofs.YthbaocejgjpfoaaDoorW.PrintWords.bt (bA (d :: r2)) 0 = (d.toNat : Int) := bA_bt (l := d :: r2) (i := 0) (by simp)
          have hext2 : (bA (d :: r2)).extract 1 (bA (d :: r2)).size = bA r2 := by rw [bA_extract]; rfl
          refine Ev.round ?_
          simp only [impl_readExpression.j0, hext2]
          refine Ev.no (by simp) (Ev.yes (by rw [bA_size]; simp <;> omega) (Ev.bind (impl_read k r2 (by omega) (by omega)) ?_))
          try dsimp only
          cases e2 : pr k r2 with
          | none => exact Ev.no (by simp [outI]) (fail1 _ _ _ _)
          | some q =>
            obtain ⟨y, r3⟩ := q
            have l2 := pr_len k _ _ _ e2
            refine Ev.yes rfl (Ev.here (prefix_eq r3 41) ?_)
            show Ev (fun n => impl_readExpression.j1 n x.enc (bA (d :: r2)) y.enc (bA r3) _) _
            cases r3 with
            | nil => exact fail1 _ _ _ _
            | cons f r4 =>
              simp only [List.length_cons] at l2
              have hext3 : (bA (f :: r4)).extract 1 (bA (f :: r4)).size = bA r4 := by rw [bA_extract]; rfl
              dsimp only
              by_cases hf : f = 41
              · rw [if_pos hf]
                refine Ev.round ?_
                simp only [impl_readExpression.j1, hbt2, hext3]
                refine Ev.no (by simp [hf]) (Ev.yes (by rw [bA_size]; simp <;> omega) ?_)
                by_cases hd : d = 43
                · rw [if_pos hd]
                  refine Ev.yes (by rw [hd]; rfl) (Ev.bind (concat3 _ _ _ (by simp; omega)) (Ev.yes (by rw [bA_size]; simp <;> omega) ?_))
                  exact j2 (.sum x y) r4 (by simp [Tr.enc]; omega)
                rw [if_neg hd]
                have d0 : (d.toNat : Int) ≠ 43 := fun e => hd (UInt8.toNat_inj.1 (by simpa using (by omega : d.toNat = 43)))
                refine Ev.no d0 ?_
                by_cases hd2 : d = 46
                · rw [if_pos hd2]
                  refine Ev.yes (by rw [hd2]; rfl) (Ev.bind (concat3 _ _ _ (by simp; omega)) (Ev.yes (by rw [bA_size]; simp <;> omega) ?_))
                  exact j2 (.prod x y) r4 (by simp [Tr.enc]; omega)
                rw [if_neg hd2]
                have d1 : (d.toNat : Int) ≠ 46 := fun e => hd2 (UInt8.toNat_inj.1 (by simpa using (by omega : d.toNat = 46)))
                exact Ev.no d1 (Ev.now _)
              · rw [if_neg hf, show (!decide ((f :: r4).head? = some 41)) = true by simp [hf]]
                exact fail1 _ _ _ _
    · rw [if_neg h3]
      have c3 : (c.toNat : Int) ≠ 40 := fun e => h3 (UInt8.toNat_inj.1 (by simpa using (by omega : c.toNat = 40)))
      exact Ev.no c3 (Ev.now _)
/-- What the reference's reading comes to, by what the reading is: the tree, if its letters are good; else no list. -/
def outS (l : List UInt8) (o : Option (Tr × List UInt8)) (p : List TmT × Int) : Prop :=
  (∃ t r, o = some (t, r) ∧ t.good = true ∧ ∃ j : Nat, j ≤ l.length ∧ l.drop j = r ∧ p = (t.enc, (j : Int))) ∨ ((∀ t r, o = some (t, r) → t.good = false) ∧ p.1 = [])
theorem drop_len {l r : List UInt8} {j : Nat} (h : l.drop j = r) (hj : j ≤ l.length) : l.length = j + r.length := by rw [← h, List.length_drop]; omega
theorem drop_get {l r : List UInt8} {c : UInt8} {j : Nat} (h : l.drop j = c :: r) : ∃ hj : j < l.length, l[j] = c ∧ l.drop (j + 1) = r := by
  have hj : j < l.length := by
    rcases Nat.lt_or_ge j l.length with h' | h'
    · exact h'
    · rw [List.drop_eq_nil_of_le h'] at h; cases h
  rw [List.drop_eq_getElem_cons hj] at h
  injection h with h1 h2
  exact ⟨hj, h1, h2⟩
theorem stars_spec (l : List UInt8) (hl : l.length ≤ 96) : ∀ (r : List UInt8) (t : Tr) (j : Nat), t.enc.length + r.length ≤ 200 → j ≤ l.length → l.drop j = r →
    ∃ j' : Nat, j' ≤ l.length ∧ l.drop j' = (stars t r).2 ∧ Ev (fun k => spec_l13Read.l0 k (bA l) (j : Int) t.enc) ((stars t r).1.enc, (j' : Int))
  | [], t, j, h, hj, hd => by
    refine ⟨j, hj, hd, Ev.round ?_⟩
    have := drop_len hd hj
    simp only [List.length_nil] at this
    simp only [spec_l13Read.l0]
    exact Ev.no (by rw [bA_size]; omega) (Ev.now _)
  | c :: r, t, j, h, hj, hd => by
    obtain ⟨hj', hc, hd'⟩ := drop_get hd
    simp only [List.length_cons] at h
    by_cases h42 : c = 42
    · subst h42
      have e : stars t (42 :: r) = stars (.star t) r := by rw [stars, if_pos rfl]
      rw [e]
      obtain ⟨j', q1, q2, q3⟩ := stars_spec l hl r (.star t) (j + 1) (by simp [Tr.enc]; omega) (by omega) hd'
      refine ⟨j', q1, q2, Ev.round ?_⟩
      simp only [spec_l13Read.l0]
      rw [bA_bt hj', hc, w64s (by omega)]
      refine Ev.yes (by rw [bA_size]; omega) (Ev.yes (by omega) (Ev.yes rfl ?_))
      simp only [Option.bind_some]
      exact Ev.yes (by simp; omega) q3
    · have e : stars t (c :: r) = (t, c :: r) := by rw [stars, if_neg h42]
      rw [e]
      refine ⟨j, hj, hd, Ev.round ?_⟩
      simp only [spec_l13Read.l0]
      rw [bA_bt hj', hc]
      have c0 : (c.toNat : Int) ≠ 42 := fun e => h42 (UInt8.toNat_inj.1 (by simpa using (by omega : c.toNat = 42)))
      exact Ev.yes (by rw [bA_size]; omega) (Ev.yes (by omega) (Ev.no c0 (Ev.now _)))
theorem spec_read (l : List UInt8) (hl : l.length ≤ 96) : ∀ (k i : Nat), (l.drop i).length < k → i ≤ l.length → ∃ p, Ev (fun n => spec_l13Read.f n (bA l) (i : Int)) p ∧ outS l (pr k (l.drop i)) p
  | 0, i, h, _ => by omega
  | k + 1, i, h, hi => by
    have h2 : ∀ (t : Tr) (j : Nat), t.enc.length ≤ 100 → j ≤ l.length → ∃ p, Ev (fun n => spec_l13Read.j2 n (bA l) (j : Int) t.enc) p ∧ ∃ j' : Nat, j' ≤ l.length ∧ l.drop j' = (stars t (l.drop j)).2 ∧ p = ((stars t (l.drop j)).1.enc, (j' : Int)) := fun t j ht hj => by
      obtain ⟨j', q1, q2, q3⟩ := stars_spec l hl (l.drop j) t j (by rw [List.length_drop]; omega) hj rfl
      refine ⟨_, Ev.round ?_, j', q1, q2, rfl⟩
      simp only [spec_l13Read.j2]
      exact q3
    -- a tree that is read, its stars behind it
    have fin : ∀ (t : Tr) (j : Nat) (g : Nat → Option (List TmT × Int)), t.enc.length ≤ 100 → j ≤ l.length → t.good = true → (∀ p, Ev (fun n => spec_l13Read.j2 n (bA l) (j : Int) t.enc) p → Ev g p) → ∃ p, Ev g p ∧ outS l (some (stars t (l.drop j))) p := fun t j g ht hj hg k => by
      obtain ⟨p, q, j', q1, q2, q3⟩ := h2 t j ht hj
      refine ⟨p, k p q, Or.inl ⟨_, _, rfl, ?_, j', q1, q2, q3⟩⟩
      rw [(stars_len (l.drop j) t).2.2]; exact hg
    cases hd : l.drop i with
    | nil =>
      have := drop_len hd hi
      refine ⟨([], (i : Int)), Ev.round ?_, Or.inr ⟨fun t r e => by simp [pr] at e, rfl⟩⟩
      simp only [spec_l13Read.f]
      simp only [List.length_nil] at this
      exact Ev.yes (by rw [bA_size]; omega) (Ev.now _)
    | cons c r =>
      obtain ⟨hi', hc, hd'⟩ := drop_get hd
      rw [hd] at h
      simp only [List.length_cons] at h
      have hrl : r.length ≤ l.length := by rw [← hd', List.length_drop]; omega
      have hlt : c.toNat < 256 := c.toNat_lt
      have start : ∀ p, Ev (fun n => if (c.toNat : Int) = 48 then (spec_l13Read.j2 n (bA l) ((i + 1 : Nat) : Int) (([(⟨0, 0⟩ : TmT)] : List TmT))) else (if (c.toNat : Int) = 49 then (spec_l13Read.j2 n (bA l) ((i + 1 : Nat) : Int) (([(⟨1, 0⟩ : TmT)] : List TmT))) else (if (c.toNat : Int) ≥ 97 then (spec_l13Read.j0 n (bA l) ((i + 1 : Nat) : Int) (c.toNat : Int) (decide ((c.toNat : Int) ≤ 104))) else (spec_l13Read.j0 n (bA l) ((i + 1 : Nat) : Int) (c.toNat : Int) false)))) p →
          Ev (fun n => spec_l13Read.f n (bA l) (i : Int)) p := fun p hp => by
        refine Ev.round ?_
        simp only [spec_l13Read.f]
        rw [bA_bt hi', hc, w64s (by omega)]
        exact Ev.no (by rw [bA_size]; omega) (Ev.yes (by omega) (Ev.yes (by rw [bA_size]; omega) hp))
      unfold pr
      dsimp only
      by_cases h0 : c = 48
      · rw [if_pos h0, ← hd']
        exact fin .nothing (i + 1) _ (by simp [Tr.enc]) (by omega) rfl (fun p q => start p (Ev.yes (by rw [h0]; rfl) q))
      rw [if_neg h0]
      have c0 : (c.toNat : Int) ≠ 48 := fun e => h0 (UInt8.toNat_inj.1 (by simpa using (by omega : c.toNat = 48)))
      by_cases h1 : c = 49
      · rw [if_pos h1, ← hd']
        exact fin .empty (i + 1) _ (by simp [Tr.enc]) (by omega) rfl (fun p q => start p (Ev.no c0 (Ev.yes (by rw [h1]; rfl) q)))
      rw [if_neg h1]
      have c1 : (c.toNat : Int) ≠ 49 := fun e => h1 (UInt8.toNat_inj.1 (by simpa using (by omega : c.toNat = 49)))
      by_cases h3 : 97 ≤ c.toNat
      · rw [if_pos h3, ← hd']
        by_cases h4 : c.toNat ≤ 104
        · have e : ((c.toNat : Int) - 97) % 256 = ((c.toNat - 97 : Nat) : Int) := by omega
          refine fin (.letter (c.toNat - 97)) (i + 1) _ (by simp [Tr.enc]) (by omega) (by simp [Tr.good]; omega) (fun p q => start p (Ev.no c0 (Ev.no c1 (Ev.yes (by omega) (Ev.round ?_)))))
          simp only [spec_l13Read.j0]
          rw [e]
          exact Ev.yes (by simp; omega) q
        · refine ⟨([], ((i + 1 : Nat) : Int)), start _ (Ev.no c0 (Ev.no c1 (Ev.yes (by omega) (Ev.round ?_)))), Or.inr ⟨fun t r' e => ?_, rfl⟩⟩
          · simp only [spec_l13Read.j0]
            exact Ev.no (by simp; omega) (Ev.no (by omega) (Ev.now _))
          · have e := Option.some.inj e
            have := (stars_len (l.drop (i + 1)) (.letter (c.toNat - 97))).2.2
            rw [e] at this
            rw [this]
            simp [Tr.good]; omega
      rw [if_neg h3]
      have start2 : ∀ p, Ev (fun n => spec_l13Read.j0 n (bA l) ((i + 1 : Nat) : Int) (c.toNat : Int) false) p → Ev (fun n => spec_l13Read.f n (bA l) (i : Int)) p := fun p hp => start p (Ev.no c0 (Ev.no c1 (Ev.no (by omega) hp)))
      by_cases h5 : c = 40
      · rw [if_pos h5]
        obtain ⟨p1, P1, o1⟩ := spec_read l hl k (i + 1) (by rw [hd']; omega) (by omega)
        rw [hd'] at o1
        have fail1 : ∀ (x : List TmT) (z : Int), Ev (fun n => spec_l13Read.j1 n (bA l) ((i + 1 : Nat) : Int) x z true) ([], ((i + 1 : Nat) : Int)) := fun x z => by
          refine Ev.round ?_
          simp only [spec_l13Read.j1]
          exact Ev.yes (by trivial) (Ev.now _)
        have go : ∀ p, Ev (fun n => if (p1.1.length : Int) = 0 then (spec_l13Read.j1 n (bA l) ((i + 1 : Nat) : Int) p1.1 p1.2 true) else (if p1.2 ≥ ((bA l).size : Int) then (spec_l13Read.j1 n (bA l) ((i + 1 : Nat) : Int) p1.1 p1.2 true) else (if 0 ≤ p1.2 then (if p1.2 < ((bA l).size : Int) then (if (Go.Proofs.YthbaocejgjpfoaaDoorW.PrintWords.bt (bA l) p1.2) = 43 then (spec_l13Read.j1 n (bA l) ((i + 1 : Nat) : Int) p1.1 p1.2 false) else (spec_l13Read.j1 n (bA l) ((i + 1 : Nat) : Int) p1.1 p1.2 ((Go.Proofs.YthbaocejgjpfoaaDoorW.PrintWords.bt (bA l) p1.2) != 46))) else (none)) else (none)))) p → Ev (fun n => spec_l13Read.f n (bA l) (i : Int)) p := fun p hp => by
          refine start2 p (Ev.round ?_)
          simp only [spec_l13Read.j0]
          exact Ev.no (by simp) (Ev.yes (by rw [h5]; rfl) (Ev.bind P1 hp))
        have failed : (∀ t r', (match pr k r with
            | none => none
            | some (x, []) => none
            | some (x, d :: r2) => match pr k r2 with
              | none => none
              | some (y, []) => none
              | some (y, f :: r4) => if f = 41 then (if d = 43 then some (stars (.sum x y) r4) else if d = 46 then some (stars (.prod x y) r4) else none) else none) = some (t, r') → t.good = false) → ∀ (z : Int), Ev (fun n => spec_l13Read.f n (bA l) (i : Int)) ([], z) → ∃ p, Ev (fun n => spec_l13Read.f n (bA l) (i : Int)) p ∧ outS l (match pr k r with
            | none => none
            | some (x, []) => none
            | some (x, d :: r2) => match pr k r2 with
              | none => none
              | some (y, []) => none
              | some (y, f :: r4) => if f = 41 then (if d = 43 then some (stars (.sum x y) r4) else if d = 46 then some (stars (.prod x y) r4) else none) else none) p := fun hb z hz => ⟨_, hz, Or.inr ⟨hb, rfl⟩⟩
        have bad2 : ∀ (x y : Tr) (r4 : List UInt8) (d : UInt8) (t : Tr) (r' : List UInt8), x.good = false ∨ y.good = false → (if d = 43 then some (stars (.sum x y) r4) else if d = 46 then some (stars (.prod x y) r4) else none) = some (t, r') → t.good = false := by
          intro x y r4 d t r' hb e
          have hxy : (x.good && y.good) = false := by rcases hb with hb | hb <;> simp [hb]
          split at e
          · have := (stars_len r4 (.sum x y)).2.2
            rw [Option.some.inj e] at this
            rw [this]; exact hxy
          · split at e
            · have := (stars_len r4 (.prod x y)).2.2
              rw [Option.some.inj e] at this
              rw [this]; exact hxy
            · cases e
        rcases o1 with ⟨x, r1, e1, gx, j1, hj1, hd1, rfl⟩ | ⟨hb1, hp1⟩
        · have hx := x.enc_pos
          have l1 := pr_len k _ _ _ e1
          rw [e1] at failed ⊢
          cases r1 with
          | nil =>
            have := drop_len hd1 hj1
            simp only [List.length_nil] at this
            exact failed (fun t r' e => by simp at e) _ (go _ (Ev.no (by show ¬ (x.enc.length : Int) = 0; omega) (Ev.yes (by show (j1 : Int) ≥ _; rw [bA_size]; omega) (fail1 _ _))))
          | cons d r2 =>
            obtain ⟨hj1', hcd, hd1'⟩ := drop_get hd1
            simp only [List.length_cons] at l1
            have hbt1 : Go.Proofs.YthbaocejgjpfoaaDoorW.PrintWords.bt (bA l) (j1 : Int) = (d.toNat : Int) := by rw [bA_bt hj1', hcd]
            have hdl : d.toNat < 256 := d.toNat_lt
            have go1 : ∀ p, Ev (fun n => if (d.toNat : Int) = 43 then (spec_l13Read.j1 n (bA l) ((i + 1 : Nat) : Int) x.enc (j1 : Int) false) else (spec_l13Read.j1 n (bA l) ((i + 1 : Nat) : Int) x.enc (j1 : Int) ((d.toNat : Int) != 46))) p → Ev (fun n => spec_l13Read.f n (bA l) (i : Int)) p := fun p hp => by
              refine go p (Ev.no (by show ¬ (x.enc.length : Int) = 0; omega) (Ev.no (by show ¬ (j1 : Int) ≥ _; rw [bA_size]; omega) (Ev.yes (by show 0 ≤ (j1 : Int); omega) (Ev.yes (by show (j1 : Int) < _; rw [bA_size]; omega) ?_))))
              dsimp only
              rw [hbt1]
              exact hp
            obtain ⟨p2, P2, o2⟩ := spec_read l hl k (j1 + 1) (by rw [hd1']; omega) (by omega)
            rw [hd1'] at o2
            -- what stands behind the second part
            have tail : ∀ (kd : Int) (e0 : Nat → Option (List TmT × Int)), (kd = 3 ∧ d = 43 ∨ kd = 4 ∧ d = 46) →
                (∀ p, Ev (fun n => if (p2.1.length : Int) = 0 then (some (([] : List TmT), ((i + 1 : Nat) : Int))) else (if p2.2 ≥ ((bA l).size : Int) then (some (([] : List TmT), ((i + 1 : Nat) : Int))) else (if 0 ≤ p2.2 then (if p2.2 < ((bA l).size : Int) then (if (Go.Proofs.YthbaocejgjpfoaaDoorW.PrintWords.bt (bA l) p2.2) = 41 then ((some (([(⟨kd, 0⟩ : TmT)] : List TmT) : List TmT)).bind fun y793 => (if y793.length + x.enc.length < 8796093022208 then ((some (y793 ++ x.enc : List TmT)).bind fun y796 => (if y796.length + p2.1.length < 8796093022208 then (spec_l13Read.j2 n (bA l) (wrap64 (p2.2 + 1)) (y796 ++ p2.1)) else (none))) else (none))) else (some (([] : List TmT), ((i + 1 : Nat) : Int)))) else (none)) else (none)))) p → Ev e0 p) →
                ∃ p, Ev e0 p ∧ outS l (match pr k r2 with
                  | none => none
                  | some (y, []) => none
                  | some (y, f :: r4) => if f = 41 then (if d = 43 then some (stars (.sum x y) r4) else if d = 46 then some (stars (.prod x y) r4) else none) else none) p := by
              intro kd e0 hkd he0
              rcases o2 with ⟨y, r3, e2, gy, j2, hj2, hd2, rfl⟩ | ⟨hb2, hp2⟩
              · have hy := y.enc_pos
                have l2 := pr_len k _ _ _ e2
                rw [e2]
                cases r3 with
                | nil =>
                  have := drop_len hd2 hj2
                  simp only [List.length_nil] at this
                  exact ⟨_, he0 _ (Ev.no (by show ¬ (y.enc.length : Int) = 0; omega) (Ev.yes (by show (j2 : Int) ≥ _; rw [bA_size]; omega) (Ev.now _))), Or.inr ⟨fun t r' e => by simp at e, rfl⟩⟩
                | cons f r4 =>
                  obtain ⟨hj2', hcf, hd2'⟩ := drop_get hd2
                  simp only [List.length_cons] at l2
                  have hbt2 : Go.Proofs.YthbaocejgjpfoaaDoorW.PrintWords.bt (bA l) (j2 : Int) = (f.toNat : Int) := by rw [bA_bt hj2', hcf]
                  have lead : ∀ p, Ev (fun n => (if (f.toNat : Int) = 41 then (spec_l13Read.j2 n (bA l) ((j2 + 1 : Nat) : Int) ((⟨kd, 0⟩ : TmT) :: (x.enc ++ y.enc))) else (some (([] : List TmT), ((i + 1 : Nat) : Int))))) p → Ev e0 p := fun p hp => by
                    refine he0 p (Ev.no (by show ¬ (y.enc.length : Int) = 0; omega) (Ev.no (by show ¬ (j2 : Int) ≥ _; rw [bA_size]; omega) (Ev.yes (by show 0 ≤ (j2 : Int); omega) (Ev.yes (by show (j2 : Int) < _; rw [bA_size]; omega) ?_))))
                    dsimp only
                    rw [hbt2, w64s (by omega)]
                    by_cases hf : (f.toNat : Int) = 41
                    · refine Ev.yes hf ?_
                      simp only [Option.bind_some]
                      refine Ev.yes (by simp; omega) (Ev.yes (by simp; omega) ?_)
                      simp only [if_pos hf] at hp
                      simpa using hp
                    · simp only [if_neg hf] at hp
                      exact Ev.no hf hp
                  dsimp only
                  by_cases hf : f = 41
                  · rw [if_pos hf]
                    rcases hkd with ⟨rfl, hd43⟩ | ⟨rfl, hd46⟩
                    · rw [if_pos hd43, ← hd2']
                      exact fin (.sum x y) (j2 + 1) e0 (by simp [Tr.enc]; omega) (by omega) (by simp [Tr.good, gx, gy]) (fun p q => lead p (Ev.yes (by rw [hf]; rfl) q))
                    · rw [if_neg (by rw [hd46]; decide), if_pos hd46, ← hd2']
                      exact fin (.prod x y) (j2 + 1) e0 (by simp [Tr.enc]; omega) (by omega) (by simp [Tr.good, gx, gy]) (fun p q => lead p (Ev.yes (by rw [hf]; rfl) q))
                  · rw [if_neg hf]
                    have cf : (f.toNat : Int) ≠ 41 := fun e => hf (UInt8.toNat_inj.1 (by simpa using (by omega : f.toNat = 41)))
                    exact ⟨_, lead _ (Ev.no cf (Ev.now _)), Or.inr ⟨fun t r' e => by simp at e, rfl⟩⟩
              · refine ⟨_, he0 _ (Ev.yes (by rw [hp2]; rfl) (Ev.now _)), Or.inr ⟨fun t r' e => ?_, rfl⟩⟩
                split at e
                · cases e
                · cases e
                · rename_i y f r4 e2
                  split at e
                  · exact bad2 x y r4 d t r' (Or.inr (hb2 _ _ e2)) e
                  · cases e
            dsimp only
            by_cases hd43 : d = 43
            · refine tail 3 _ (Or.inl ⟨rfl, hd43⟩) fun p hp => go1 p (Ev.yes (by rw [hd43]; rfl) (Ev.round ?_))
              simp only [spec_l13Read.j1]
              rw [hbt1, w64s (by omega)]
              exact Ev.no (by simp) (Ev.yes (by omega) (Ev.yes (by rw [bA_size]; omega) (Ev.no (by rw [hd43]; decide) (Ev.bind P2 hp))))
            have d43 : (d.toNat : Int) ≠ 43 := fun e => hd43 (UInt8.toNat_inj.1 (by simpa using (by omega : d.toNat = 43)))
            by_cases hd46 : d = 46
            · refine tail 4 _ (Or.inr ⟨rfl, hd46⟩) fun p hp => go1 p (Ev.no d43 (Ev.round ?_))
              simp only [spec_l13Read.j1]
              rw [hbt1, w64s (by omega)]
              exact Ev.no (by rw [hd46]; decide) (Ev.yes (by omega) (Ev.yes (by rw [bA_size]; omega) (Ev.yes (by rw [hd46]; rfl) (Ev.bind P2 hp))))
            have d46 : (d.toNat : Int) ≠ 46 := fun e => hd46 (UInt8.toNat_inj.1 (by simpa using (by omega : d.toNat = 46)))
            refine ⟨_, go1 _ (Ev.no d43 (by rw [show ((d.toNat : Int) != 46) = true by simpa using d46]; exact fail1 _ _)), Or.inr ⟨fun t r' e => ?_, rfl⟩⟩
            split at e
            · cases e
            · cases e
            · split at e <;> first | (cases e; done) | (rw [if_neg hd43, if_neg hd46] at e; cases e)
        · refine failed (fun t r' e => ?_) _ (go _ (Ev.yes (by rw [hp1]; rfl) (fail1 _ _)))
          split at e
          · cases e
          · cases e
          · rename_i x d r2 e1
            split at e
            · cases e
            · cases e
            · rename_i y f r4 e2
              split at e
              · exact bad2 x y r4 d t r' (Or.inl (hb1 _ _ e1)) e
              · cases e
      · rw [if_neg h5]
        have c5 : (c.toNat : Int) ≠ 40 := fun e => h5 (UInt8.toNat_inj.1 (by simpa using (by omega : c.toNat = 40)))
        refine ⟨([], ((i + 1 : Nat) : Int)), start2 _ (Ev.round ?_), Or.inr ⟨fun t r' e => by simp at e, rfl⟩⟩
        simp only [spec_l13Read.j0]
        exact Ev.no (by simp) (Ev.no c5 (Ev.now _))
end Go.Proofs.YthbaocejgjpfoaaDoor.U
end M0
section M1
namespace Go.Proofs.YthbaocejgjpfoaaDoor.U
open Go.RowKit Go.Proofs.YthbaocejgjpfoaaDoor.P Go.Proofs.YthbaocejgjpfoaaDoorW.PrintWords Go.Proofs.YthbaocejgjpfoaaDoorW.PrintLast Go.Proofs.YthbaocejgjpfoaaDoorW.PrintMore
set_option linter.unusedVariables false
/-! Reading an expression, both ways. -/
theorem good_letter : ∀ t : Tr, t.good = false → ∃ x ∈ t.enc, x.f0 = 2 ∧ 8 ≤ x.f1
  | .nothing, h => by simp [Tr.good] at h
  | .empty, h => by simp [Tr.good] at h
  | .letter a, h => ⟨⟨2, (a : Int)⟩, by simp [Tr.enc], rfl, by simp [Tr.good] at h; show (8 : Int) ≤ (a : Int); omega⟩
  | .star x, h => by
    obtain ⟨y, hy, h2⟩ := good_letter x (by simpa [Tr.good] using h)
    exact ⟨y, by simp [Tr.enc, hy], h2⟩
  | .sum x y, h => by
    have h' : x.good = false ∨ y.good = false := by
      cases hx : x.good
      · exact .inl rfl
      · right; simpa [Tr.good, hx] using h
    rcases h' with h' | h'
    · obtain ⟨z, hz, h2⟩ := good_letter x h'
      exact ⟨z, by simp [Tr.enc, hz], h2⟩
    · obtain ⟨z, hz, h2⟩ := good_letter y h'
      exact ⟨z, by simp [Tr.enc, hz], h2⟩
  | .prod x y, h => by
    have h' : x.good = false ∨ y.good = false := by
      cases hx : x.good
      · exact .inl rfl
      · right; simpa [Tr.good, hx] using h
    rcases h' with h' | h'
    · obtain ⟨z, hz, h2⟩ := good_letter x h'
      exact ⟨z, by simp [Tr.enc, hz], h2⟩
    · obtain ⟨z, hz, h2⟩ := good_letter y h'
      exact ⟨z, by simp [Tr.enc, hz], h2⟩
theorem isExpr_good {n : Int} {d : List Int} {t : Tr} {b : Bool} (h : b = true → alB n d = true ∧ 1 ≤ t.enc.length ∧ t.enc.length ≤ 24 ∧ (∀ j : Nat, j < t.enc.length → tOk n (tD t.enc j) = true) ∧ Ev (fun k => spec_l13End.f k t.enc ((0 : Nat) : Int)) (t.enc.length : Int)) (hg : t.good = false) : b = false := by
  cases b with
  | false => rfl
  | true =>
    exfalso
    obtain ⟨ha, _, _, hok, _⟩ := h rfl
    obtain ⟨x, hx, h2, h8⟩ := good_letter t hg
    obtain ⟨j, hj, rfl⟩ := List.mem_iff_getElem.1 hx
    have := hok j hj
    have e : tD t.enc j = t.enc[j] := by unfold tD; rw [List.getD_eq_getElem?_getD, List.getElem?_eq_getElem hj]; rfl
    rw [e] at this
    unfold tOk at this
    rw [if_pos h2] at this
    simp only [Bool.and_eq_true, inI_iff] at this
    have hn : 0 ≤ n ∧ n ≤ 8 := by
      unfold alB at ha
      simp only [Bool.and_eq_true, inI_iff] at ha
      exact ha.1
    have := this.2.2
    unfold wrap64 at this
    omega
theorem parse_both (n : Int) (d : List Int) (s : ByteArray) (hs : s.size ≤ 1048576) : ∃ r, Ev (fun k => spec_ParseExpression.f k n d s) r ∧ Ev (fun k => impl_ParseExpression.f k n d s) r ∧ r.1.length ≤ 96 ∧
    (alB n d = false → r = ([], 1)) ∧ (∀ t : Tr, pr (s.data.toList.length + 1) s.data.toList = some (t, []) → s.size ≤ 96 → (∀ b, Ev (fun k => impl_IsExpression.f k n d t.enc) b → b = true → r = (t.enc, 0))) ∧
    (r.2 = 0 → ∃ t : Tr, t.good = true ∧ pr (s.data.toList.length + 1) s.data.toList = some (t, []) ∧ r.1 = t.enc ∧ Ev (fun k => impl_IsExpression.f k n d t.enc) true) ∧ (r.2 ≠ 0 → r.1 = []) := by
  obtain ⟨l, rfl⟩ : ∃ l, s = bA l := ⟨s.data.toList, (bA_data s).symm⟩
  have hl0 : (bA l).data.toList = l := by simp [bA]
  rw [hl0]
  rw [bA_size] at hs
  unfold spec_ParseExpression.f impl_ParseExpression.f
  have h1 := l02Is_ev n d
  have h2 := isAl_ev n d
  cases ha : alB n d with
  | false =>
    rw [ha] at h1 h2
    refine ⟨([], 1), Ev.bind h1 (Ev.no (by simp) (Ev.now _)), Ev.bind h2 (Ev.no (by simp) (Ev.now _)), by simp, fun _ => rfl, fun t _ _ b hb hb1 => ?_, fun h => absurd h (by simp), fun _ => rfl⟩
    subst hb1
    obtain ⟨b, _, b2, b3⟩ := isExpr_ev' n d t.enc (by
      rename_i h96 _
      have := pr_len _ _ _ _ (by assumption)
      omega)
    have := Ev.det b2 hb
    rw [(b3 this).1] at ha
    exact absurd ha (by simp)
  | true =>
    rw [ha] at h1 h2
    rcases Nat.lt_or_ge 96 l.length with hl | hl
    · refine ⟨([], 6), Ev.bind h1 (Ev.yes rfl (Ev.yes (by rw [bA_size]; omega) (Ev.now _))), Ev.bind h2 (Ev.yes rfl (Ev.yes (by rw [bA_size]; omega) (Ev.now _))), by simp, fun h => by simp at h, fun t _ h96 => ?_, fun h => absurd h (by simp), fun _ => rfl⟩
      rw [bA_size] at h96
      omega
    · obtain ⟨p, P, o⟩ := spec_read l hl (l.length + 1) 0 (by simp) (by omega)
      rw [List.drop_zero] at o
      have I := impl_read (l.length + 1) l (by omega) hl
      rcases o with ⟨t, r, e, g, j, hj, hd, rfl⟩ | ⟨hb, hp⟩
      · rw [e] at I
        have hjl := drop_len hd hj
        have hlen := pr_len _ _ _ _ e
        cases r with
        | nil =>
          simp only [List.length_nil] at hjl
          obtain ⟨b, b1, b2, b3⟩ := isExpr_ev' n d t.enc (by omega)
          have S : ∀ q, Ev (fun k => (spec_IsExpression.f k n d t.enc).bind fun t827 => (if t827 = true then (some (t.enc, (0 : Int))) else (some (([] : List TmT), (6 : Int))))) q → Ev (fun k => (spec_l02Is.f k n d).bind fun t822 => (if t822 = true then (if ((bA l).size : Int) > 96 then (some (([] : List TmT), (6 : Int))) else ((spec_l13Read.f k (bA l) 0).bind fun bt823 => (if bt823.2 = ((bA l).size : Int) then ((spec_IsExpression.f k n d bt823.1).bind fun t827 => (if t827 = true then (some (bt823.1, (0 : Int))) else (some (([] : List TmT), (6 : Int))))) else (some (([] : List TmT), (6 : Int)))))) else (some (([] : List TmT), (1 : Int))))) q := fun q hq =>
            Ev.bind h1 (Ev.yes rfl (Ev.no (by rw [bA_size]; omega) (Ev.bind P (Ev.yes (by show (j : Int) = _; rw [bA_size]; omega) hq))))
          have T : ∀ q, Ev (fun k => (impl_IsExpression.f k n d t.enc).bind fun t892 => (if t892 = true then (some (t.enc, (0 : Int))) else (some (([] : List TmT), (6 : Int))))) q → Ev (fun k => (impl_IsAlphabet.f k n d).bind fun t886 => (if t886 = true then (if ((bA l).size : Int) > 96 then (some (([] : List TmT), (6 : Int))) else ((impl_readExpression.f k (bA l)).bind fun bt887 => (if bt887.2.2 = true then (if bt887.2.1.toList = ([] : List UInt8) then ((impl_IsExpression.f k n d bt887.1).bind fun t892 => (if t892 = true then (some (bt887.1, (0 : Int))) else (some (([] : List TmT), (6 : Int))))) else (some (([] : List TmT), (6 : Int)))) else (some (([] : List TmT), (6 : Int)))))) else (some (([] : List TmT), (1 : Int))))) q := fun q hq =>
            Ev.bind h2 (Ev.yes rfl (Ev.no (by rw [bA_size]; omega) (Ev.bind I (Ev.yes rfl (Ev.yes ((isEmpty_bA []).2 rfl) hq)))))
          cases b with
          | false =>
            refine ⟨([], 6), S _ (Ev.bind b1 (Ev.no (by simp) (Ev.now _))), T _ (Ev.bind b2 (Ev.no (by simp) (Ev.now _))), by simp, fun h => by simp at h, fun t' e' _ b hb hb1 => ?_, fun h => absurd h (by simp), fun _ => rfl⟩
            rw [e] at e'
            obtain ⟨rfl, _⟩ := Prod.mk.inj (Option.some.inj e')
            have := Ev.det b2 hb
            rw [hb1] at this
            exact absurd this (by simp)
          | true =>
            refine ⟨(t.enc, 0), S _ (Ev.bind b1 (Ev.yes rfl (Ev.now _))), T _ (Ev.bind b2 (Ev.yes rfl (Ev.now _))), by show t.enc.length ≤ 96; omega, fun h => by simp at h, fun t' e' _ b hb hb1 => ?_, fun _ => ⟨t, g, e, rfl, b2⟩, fun h => absurd rfl h⟩
            rw [e] at e'
            obtain ⟨rfl, _⟩ := Prod.mk.inj (Option.some.inj e')
            rfl
        | cons c r =>
          simp only [List.length_cons] at hjl
          refine ⟨([], 6), Ev.bind h1 (Ev.yes rfl (Ev.no (by rw [bA_size]; omega) (Ev.bind P (Ev.no (by show ¬ (j : Int) = _; rw [bA_size]; omega) (Ev.now _))))), Ev.bind h2 (Ev.yes rfl (Ev.no (by rw [bA_size]; omega) (Ev.bind I (Ev.yes rfl (Ev.no (fun h => absurd ((isEmpty_bA (c :: r)).1 h) (by simp)) (Ev.now _)))))), by simp, fun h => by simp at h, fun t' e' => ?_, fun h => absurd h (by simp), fun _ => rfl⟩
          rw [e] at e'
          obtain ⟨_, e2⟩ := Prod.mk.inj (Option.some.inj e')
          exact absurd e2 (by simp)
      · have S : Ev (fun k => (spec_l02Is.f k n d).bind fun t822 => (if t822 = true then (if ((bA l).size : Int) > 96 then (some (([] : List TmT), (6 : Int))) else ((spec_l13Read.f k (bA l) 0).bind fun bt823 => (if bt823.2 = ((bA l).size : Int) then ((spec_IsExpression.f k n d bt823.1).bind fun t827 => (if t827 = true then (some (bt823.1, (0 : Int))) else (some (([] : List TmT), (6 : Int))))) else (some (([] : List TmT), (6 : Int)))))) else (some (([] : List TmT), (1 : Int))))) ([], 6) := by
          refine Ev.bind h1 (Ev.yes rfl (Ev.no (by rw [bA_size]; omega) (Ev.bind P ?_)))
          by_cases hq : p.2 = ((bA l).size : Int)
          · refine Ev.yes hq ?_
            rw [hp]
            obtain ⟨b, b1, b2, b3⟩ := isExpr_ev' n d ([] : List TmT) (by simp)
            cases b with
            | false => exact Ev.bind b1 (Ev.no (by simp) (Ev.now _))
            | true => have := (b3 rfl).2.1; simp at this
          · exact Ev.no hq (Ev.now _)
        have T : Ev (fun k => (impl_IsAlphabet.f k n d).bind fun t886 => (if t886 = true then (if ((bA l).size : Int) > 96 then (some (([] : List TmT), (6 : Int))) else ((impl_readExpression.f k (bA l)).bind fun bt887 => (if bt887.2.2 = true then (if bt887.2.1.toList = ([] : List UInt8) then ((impl_IsExpression.f k n d bt887.1).bind fun t892 => (if t892 = true then (some (bt887.1, (0 : Int))) else (some (([] : List TmT), (6 : Int))))) else (some (([] : List TmT), (6 : Int)))) else (some (([] : List TmT), (6 : Int)))))) else (some (([] : List TmT), (1 : Int))))) ([], 6) := by
          refine Ev.bind h2 (Ev.yes rfl (Ev.no (by rw [bA_size]; omega) (Ev.bind I ?_)))
          cases e : pr (l.length + 1) l with
          | none => exact Ev.no (by simp [outI]) (Ev.now _)
          | some q =>
            obtain ⟨t, r⟩ := q
            refine Ev.yes rfl ?_
            cases r with
            | nil =>
              have hlen := pr_len _ _ _ _ e
              refine Ev.yes ((isEmpty_bA []).2 rfl) ?_
              obtain ⟨b, b1, b2, b3⟩ := isExpr_ev' n d t.enc (by omega)
              have := isExpr_good b3 (hb _ _ e)
              subst this
              exact Ev.bind b2 (Ev.no (by simp) (Ev.now _))
            | cons c r => exact Ev.no (fun h => absurd ((isEmpty_bA (c :: r)).1 h) (by simp)) (Ev.now _)
        refine ⟨([], 6), S, T, by simp, fun h => by simp at h, fun t e _ b hb' hb1 => ?_, fun h => absurd h (by simp), fun _ => rfl⟩
        have hlen := pr_len _ _ _ _ e
        obtain ⟨b', b1, b2, b3⟩ := isExpr_ev' n d t.enc (by omega)
        have := isExpr_good b3 (hb _ _ e)
        have := Ev.det b2 hb'
        simp_all
/-! Marking a row of terms. -/
end Go.Proofs.YthbaocejgjpfoaaDoor.U
end M1
section M2
namespace Go.Proofs.YthbaocejgjpfoaaDoor.U
open Go.RowKit Go.Proofs.YthbaocejgjpfoaaDoor.P Go.Proofs.YthbaocejgjpfoaaDoorW.PrintWords Go.Proofs.YthbaocejgjpfoaaDoorW.PrintLast Go.Proofs.YthbaocejgjpfoaaDoorW.PrintMore
set_option linter.unusedVariables false
/-! Drawn expressions, and texts read back. -/
def TmQ (s : List Int) (m : Nat) (q : List TmT × Int × Int) : Prop := 1 ≤ q.1.length ∧ q.1.length ≤ max m 1 ∧ Okd s q.2.1
theorem grow_leaf {s : List Int} (hs : Bytes s) (n : Int) (hn : 0 ≤ n) (a2 x7 : Int) (m : Nat) {p : Int} (r : Int) (hp : Okd s p) : EvP (fun k => spec_l13Grow.j0 k n a2 x7 true s p r) (TmQ s m) := by
  have leaf1 : ∀ {p : Int} (r : Int), Okd s p → EvP (fun k => spec_l13Grow.j1 k n true s p r) (TmQ s m) := fun r hp => by
    refine EvP.round ?_
    simp only [spec_l13Grow.j1]
    obtain ⟨v, p', r', e, hp', _⟩ := next_ev hs r 2 hp
    exact EvP.yes (by trivial) (EvP.here e (EvP.ret ⟨by simp, by simp; omega, hp'⟩))
  have leaf2 : ∀ {p : Int} (r : Int), Okd s p → EvP (fun k => spec_l13Grow.j1 k n false s p r) (TmQ s m) := fun r hp => by
    refine EvP.round ?_
    simp only [spec_l13Grow.j1]
    obtain ⟨v, p', r', e, hp', _⟩ := next_ev hs r n hp
    exact EvP.no (by simp) (EvP.here e (EvP.ret ⟨by simp, by simp; omega, hp'⟩))
  refine EvP.round ?_
  simp only [spec_l13Grow.j0]
  refine EvP.yes (by trivial) ?_
  by_cases h0 : n = 0
  · exact EvP.yes h0 (leaf1 r hp)
  · obtain ⟨v, p', r', e, hp', _⟩ := next_ev hs r 24 hp
    refine EvP.no h0 (EvP.here e ?_)
    cases hv : v == 0
    · exact leaf2 r' hp'
    · exact leaf1 r' hp'
theorem grow_ev {s : List Int} (hs : Bytes s) (n : Int) (hn : 0 ≤ n) : ∀ (m : Nat), m ≤ 1000 → ∀ {p : Int} (r : Int), Okd s p → EvP (fun k => spec_l13Grow.f k s p r n (m : Int)) (TmQ s m) := by
  intro m
  induction m using Nat.strongRecOn with
  | ind m IH =>
    intro hm p r hp
    refine EvP.round ?_
    simp only [spec_l13Grow.f]
    obtain ⟨v, p1, r1, e1, hp1, _, hv⟩ := next_ev hs r 8 hp
    have hv := hv (by decide)
    refine EvP.here e1 ?_
    by_cases h2 : (m : Int) < 2
    · exact EvP.yes h2 (grow_leaf hs n hn _ _ m r1 hp1)
    refine EvP.no h2 ?_
    by_cases h3 : v < 2
    · exact EvP.yes h3 (grow_leaf hs n hn _ _ m r1 hp1)
    refine EvP.no h3 ?_
    cases h4 : n == 0
    · have star : EvP (fun k => spec_l13Grow.j2 k n (m : Int) v true s p1 r1) (TmQ s m) := by
        refine EvP.round ?_
        simp only [spec_l13Grow.j2, Option.bind_some]
        have em : wrap64 ((m : Int) - 1) = ((m - 1 : Nat) : Int) := by rw [w64 (by omega) (by omega)]; omega
        rw [em]
        refine EvP.yes (by trivial) (EvP.bindP (IH (m - 1) (by omega) (by omega) r1 hp1) (fun q ⟨q1, q2, q3⟩ => ?_))
        have q2' : q.1.length ≤ m - 1 := by omega
        refine EvP.yes (by simp; omega) (EvP.ret ⟨by simp, ?_, q3⟩)
        simp only [List.length_append, List.length_cons, List.length_nil]
        omega
      have two : 3 ≤ m → EvP (fun k => spec_l13Grow.j2 k n (m : Int) v false s p1 r1) (TmQ s m) := fun hm3 => by
        refine EvP.round ?_
        simp only [spec_l13Grow.j2, Option.bind_some]
        have em : wrap64 ((m : Int) - 2) = ((m - 2 : Nat) : Int) := by rw [w64 (by omega) (by omega)]; omega
        have em1 : wrap64 ((m : Int) - 1) = ((m - 1 : Nat) : Int) := by rw [w64 (by omega) (by omega)]; omega
        rw [em, em1]
        refine EvP.no (by simp) (EvP.bindP (IH (m - 2) (by omega) (by omega) r1 hp1) (fun q ⟨q1, q2, q3⟩ => ?_))
        have q2' : q.1.length ≤ m - 2 := by omega
        have em2 : wrap64 (((m - 1 : Nat) : Int) - (q.1.length : Int)) = ((m - 1 - q.1.length : Nat) : Int) := by rw [w64 (by omega) (by omega)]; omega
        rw [em2]
        refine EvP.bindP (IH (m - 1 - q.1.length) (by omega) (by omega) q.2.2 q3) (fun z ⟨z1, z2, z3⟩ => ?_)
        have z2' : z.1.length ≤ m - 1 - q.1.length := by omega
        refine EvP.yes (by simp; omega) (EvP.yes (by simp; omega) (EvP.ret ⟨by simp, ?_, z3⟩))
        simp only [List.length_append, List.length_cons, List.length_nil]
        omega
      refine EvP.round ?_
      simp only [spec_l13Grow.j0]
      refine EvP.no (by simp) ?_
      by_cases h5 : (m : Int) < 3
      · exact EvP.yes h5 star
      · refine EvP.no h5 ?_
        cases h6 : decide (v < 4)
        · exact two (by omega)
        · exact star
    · exact grow_leaf hs n hn _ _ m r1 hp1
/-- What is drawn: an alphabet and terms, both small. -/
def ExQ (q : Int × List Int × List TmT) : Prop := q.2.1.length ≤ 4 ∧ q.2.2.length ≤ 14
theorem drawOne_ev {s : List Int} (hs : Bytes s) : EvP (fun k => spec_l13DrawOne.f k s) ExQ := by
  unfold spec_l13DrawOne.f
  refine EvP.bindP (from_ev hs) (fun q ⟨hq1, hq2⟩ => ?_)
  obtain ⟨q1, q2, q3⟩ := q
  dsimp only at hq1 hq2
  subst hq1
  subst hq2
  refine EvP.bindP (draw_ev hs q3 ⟨by omega, by omega⟩) (fun x ⟨x1, x2, x3, x4⟩ => ?_)
  obtain ⟨v, p1, r1, e1, hp1, _, hv⟩ := next_ev hs x.2.2.2 14 x4
  have hv := hv (by decide)
  refine EvP.here e1 ?_
  dsimp only
  have ev : wrap64 (1 + v) = (((1 + v).toNat : Nat) : Int) := by rw [w64 (by omega) (by omega)]; omega
  rw [ev]
  refine EvP.bindP (grow_ev hs x.1 x1 (1 + v).toNat (by omega) r1 hp1) (fun g ⟨g1, g2, g3⟩ => ?_)
  obtain ⟨v2, p2, r2, e2, hp2, _⟩ := next_ev hs g.2.2 24 g3
  refine EvP.here e2 ?_
  dsimp only
  have el : wrap64 ((g.1.length : Int) - 1) = ((g.1.length - 1 : Nat) : Int) := by rw [w64 (by omega) (by omega)]; omega
  by_cases h0 : v2 = 0
  · refine EvP.yes h0 ?_
    rw [el]
    refine EvP.yes (by omega) (EvP.yes (by omega) (EvP.ret ⟨by dsimp only; omega, ?_⟩))
    simp only [List.length_take]
    omega
  refine EvP.no h0 ?_
  by_cases h1 : v2 = 1
  · refine EvP.yes h1 ?_
    obtain ⟨v3, p3, r3, e3, hp3, _, hv3⟩ := next_ev hs r2 (g.1.length : Int) hp2
    have hv3 := hv3 (by omega)
    obtain ⟨v4, p4, r4, e4, hp4, _⟩ := next_ev hs r3 6 hp3
    refine EvP.here e3 (EvP.here e4 (EvP.yes hv3.1 (EvP.yes hv3.2 (EvP.ret ⟨by dsimp only; omega, ?_⟩))))
    simp only [List.length_set]
    omega
  refine EvP.no h1 ?_
  by_cases h2 : v2 = 2
  · refine EvP.yes h2 ?_
    obtain ⟨v3, p3, r3, e3, hp3, _, hv3⟩ := next_ev hs r2 (g.1.length : Int) hp2
    have hv3 := hv3 (by omega)
    obtain ⟨v4, p4, r4, e4, hp4, _⟩ := next_ev hs r3 8 hp3
    refine EvP.here e3 (EvP.here e4 (EvP.yes hv3.1 (EvP.yes hv3.2 (EvP.ret ⟨by dsimp only; omega, ?_⟩))))
    simp only [List.length_set]
    omega
  refine EvP.no h2 (EvP.ret ⟨by dsimp only; omega, ?_⟩)
  dsimp only
  omega
theorem extract_le (s : ByteArray) (a b : Nat) : (s.extract a b).size ≤ s.size := by rw [ByteArray.size_extract]; omega
theorem damage_ev {s : List Int} (hs : Bytes s) {p : Int} (r : Int) (hp : Okd s p) (t : ByteArray) (ht : t.size ≤ 1000) : ∃ q, spec_l01Damage.f s p r t = some q ∧ q.1.size ≤ 1001 := by
  unfold spec_l01Damage.f
  generalize hL : ([⟨#[97]⟩, ⟨#[98]⟩, ⟨#[99]⟩, ⟨#[100]⟩, ⟨#[101]⟩, ⟨#[104]⟩, ⟨#[105]⟩, ⟨#[45]⟩, ⟨#[32]⟩, ⟨#[44]⟩, ⟨#[46]⟩, ⟨#[58]⟩, ⟨#[59]⟩, ⟨#[124]⟩, ⟨#[42]⟩, ⟨#[40]⟩, ⟨#[41]⟩, ⟨#[48]⟩, ⟨#[49]⟩, ⟨#[65]⟩, ⟨#[10]⟩] : List ByteArray) = L
  have hlen : 0 < L.length := by rw [← hL]; simp
  have hone : ∀ x ∈ L, x.size = 1 := by
    rw [← hL]
    intro x hx
    simp only [List.mem_cons, List.not_mem_nil, or_false] at hx
    rcases hx with h | h | h | h | h | h | h | h | h | h | h | h | h | h | h | h | h | h | h | h | h <;> (rw [h]; rfl)
  clear hL
  obtain ⟨v, p1, r1, e1, hp1, _, hv⟩ := next_ev hs r (L.length : Int) hp
  have hv := hv (by omega)
  simp only [Option.bind_some]
  rw [e1]
  simp only [Option.bind_some]
  rw [if_pos hv.1, if_pos hv.2]
  have hx : (rdOf ByteArray.empty L v).size = 1 := by
    obtain ⟨i, rfl⟩ : ∃ i : Nat, v = (i : Int) := ⟨v.toNat, by omega⟩
    rw [rdOf_lt (by omega)]
    exact hone _ (List.getElem_mem _)
  by_cases h0 : (t.size : Int) = 0
  · rw [if_pos h0]
    exact ⟨_, rfl, by dsimp only; omega⟩
  rw [if_neg h0]
  obtain ⟨i, p2, r2, e2, hp2, _, hi⟩ := next_ev hs r1 (t.size : Int) hp1
  have hi := hi (by omega)
  rw [e2]
  simp only [Option.bind_some]
  obtain ⟨c, p3, r3, e3, hp3, _, hc⟩ := next_ev hs r2 3 hp2
  rw [e3]
  simp only [Option.bind_some]
  have ei : wrap64 (i + 1) = i + 1 := w64 (by omega) (by omega)
  have x0 := extract_le t 0 i.toNat
  have x1 := extract_le t (i + 1).toNat t.size
  have x2 := extract_le t i.toNat t.size
  have y0 : (t.extract 0 i.toNat).size = i.toNat := by rw [ByteArray.size_extract]; omega
  have y1 : (t.extract (i + 1).toNat t.size).size = t.size - (i + 1).toNat := by rw [ByteArray.size_extract]; omega
  have y2 : (t.extract i.toNat t.size).size = t.size - i.toNat := by rw [ByteArray.size_extract]; omega
  rw [ei]
  by_cases c0 : c = 0
  · rw [if_pos c0, if_pos hi.1, if_pos (by omega), if_pos (by omega), if_pos (by omega), if_pos (by omega), if_pos (by rw [ByteArray.size_append]; omega)]
    exact ⟨_, rfl, by simp only [ByteArray.size_append]; omega⟩
  rw [if_neg c0]
  by_cases c1 : c = 1
  · rw [if_pos c1, if_pos hi.1, if_pos (by omega), if_pos (by omega), if_pos (by omega), if_pos (by omega)]
    exact ⟨_, rfl, by simp only [ByteArray.size_append]; omega⟩
  rw [if_neg c1, if_pos hi.1, if_pos (by omega), if_pos (by omega), if_pos (by rw [ByteArray.size_append]; omega)]
  exact ⟨_, rfl, by simp only [ByteArray.size_append]; omega⟩
/-! A text is read back. -/
def Tr.tl : Tr → List UInt8
  | .nothing => [48]
  | .empty => [49]
  | .letter a => (letB a).data.toList
  | .sum x y => 40 :: (x.tl ++ 43 :: (y.tl ++ [41]))
  | .prod x y => 40 :: (x.tl ++ 46 :: (y.tl ++ [41]))
  | .star x => x.tl ++ [42]
theorem Tr.text_tl : ∀ t : Tr, t.text.data.toList = t.tl
  | .nothing => rfl
  | .empty => rfl
  | .letter a => rfl
  | .sum x y => by simp [Tr.text, Tr.tl, ByteArray.data_append, Tr.text_tl x, Tr.text_tl y]
  | .prod x y => by simp [Tr.text, Tr.tl, ByteArray.data_append, Tr.text_tl x, Tr.text_tl y]
  | .star x => by simp [Tr.text, Tr.tl, ByteArray.data_append, Tr.text_tl x]
theorem letB_tl0 : ∀ a : Fin 8, (letB ((a.val : Nat) : Int)).data.toList = [UInt8.ofNat (97 + a.val)] ∧ UInt8.ofNat (97 + a.val) ≠ 48 ∧ UInt8.ofNat (97 + a.val) ≠ 49 ∧ UInt8.ofNat (97 + a.val) ≠ 40 ∧ 97 ≤ (UInt8.ofNat (97 + a.val)).toNat ∧ (UInt8.ofNat (97 + a.val)).toNat - 97 = a.val := by decide
theorem letB_tl (a : Fin 8) : ∃ c : UInt8, (letB ((a.val : Nat) : Int)).data.toList = [c] ∧ c ≠ 48 ∧ c ≠ 49 ∧ c ≠ 40 ∧ 97 ≤ c.toNat ∧ c.toNat - 97 = a.val := ⟨_, letB_tl0 a⟩
theorem letter_tl (c : UInt8) (h : 97 ≤ c.toNat) (h8 : c.toNat - 97 ≤ 7) : (letB ((c.toNat - 97 : Nat) : Int)).data.toList = [c] := by
  obtain ⟨d, hd, _, _, _, hd1, hd2⟩ := letB_tl ⟨c.toNat - 97, by omega⟩
  dsimp only at hd hd2
  rw [hd]
  have : d = c := UInt8.toNat_inj.1 (by omega)
  rw [this]
theorem stars_tl : ∀ (r : List UInt8) (t : Tr), (stars t r).1.tl ++ (stars t r).2 = t.tl ++ r
  | [], t => rfl
  | c :: r, t => by
    unfold stars
    by_cases hc : c = 42
    · rw [if_pos hc, stars_tl r (.star t), hc]
      simp [Tr.tl]
    · rw [if_neg hc]
/-- What is read is the tree's text. -/
theorem pr_tl : ∀ (k : Nat) (s : List UInt8) (t : Tr) (r : List UInt8), pr k s = some (t, r) → t.good = true → s = t.tl ++ r
  | 0, _, _, _, h, _ => by simp [pr] at h
  | k + 1, [], _, _, h, _ => by simp [pr] at h
  | k + 1, c :: s, t, r, h, hg => by
    have done : ∀ (x : Tr) (q : List UInt8), stars x q = (t, r) → x.tl ++ q = t.tl ++ r := fun x q e => by
      have := stars_tl q x
      rw [e] at this
      exact this.symm
    have good : ∀ (x : Tr) (q : List UInt8), stars x q = (t, r) → x.good = true := fun x q e => by
      have := (stars_len q x).2.2
      rw [e] at this
      rw [← this]
      exact hg
    unfold pr at h
    dsimp only at h
    split at h
    · rename_i hc
      have := done _ _ (Option.some.inj h)
      rw [← this, hc]; rfl
    split at h
    · rename_i hc
      have := done _ _ (Option.some.inj h)
      rw [← this, hc]; rfl
    split at h
    · rename_i hc
      have e := Option.some.inj h
      have hgl := good _ _ e
      have := done _ _ e
      rw [← this]
      simp only [Tr.good, decide_eq_true_eq] at hgl
      simp only [Tr.tl]
      rw [letter_tl c hc hgl]; rfl
    split at h
    · rename_i hc
      split at h
      · cases h
      · cases h
      · rename_i x d r2 e1
        split at h
        · cases h
        · cases h
        · rename_i y f r4 e2
          split at h
          · rename_i hf
            split at h
            · rename_i hd
              have e := Option.some.inj h
              have hgl := good _ _ e
              simp only [Tr.good, Bool.and_eq_true] at hgl
              have := done _ _ e
              rw [← this, pr_tl k _ _ _ e1 hgl.1, pr_tl k _ _ _ e2 hgl.2, hc, hd, hf]
              simp [Tr.tl]
            · split at h
              · rename_i hd
                have e := Option.some.inj h
                have hgl := good _ _ e
                simp only [Tr.good, Bool.and_eq_true] at hgl
                have := done _ _ e
                rw [← this, pr_tl k _ _ _ e1 hgl.1, pr_tl k _ _ _ e2 hgl.2, hc, hd, hf]
                simp [Tr.tl]
              · cases h
          · cases h
    · cases h
/-- A tree's text is read as the tree. -/
theorem tl_pr : ∀ (t : Tr), t.good = true → ∀ (k : Nat) (r : List UInt8), (t.tl ++ r).length < k → pr k (t.tl ++ r) = some (stars t r)
  | t, hg, 0, r, h => by simp at h
  | .nothing, hg, k + 1, r, h => by simp [Tr.tl, pr]
  | .empty, hg, k + 1, r, h => by simp [Tr.tl, pr]
  | .letter a, hg, k + 1, r, h => by
    simp only [Tr.good, decide_eq_true_eq] at hg
    obtain ⟨c, hc, c1, c2, c3, c4, c5⟩ := letB_tl ⟨a, by omega⟩
    dsimp only at hc c5
    simp only [Tr.tl, hc, List.cons_append, List.nil_append]
    unfold pr
    dsimp only
    rw [if_neg c1, if_neg c2, if_pos c4, c5]
  | .star x, hg, k + 1, r, h => by
    have e : (Tr.star x).tl ++ r = x.tl ++ 42 :: r := by simp [Tr.tl]
    rw [e] at h ⊢
    rw [tl_pr x (by simpa [Tr.good] using hg) (k + 1) (42 :: r) h]
    unfold stars
    rw [if_pos rfl]
    congr 1
    cases r <;> rfl
  | .sum x y, hg, k + 1, r, h => by
    simp only [Tr.good, Bool.and_eq_true] at hg
    have e : (Tr.sum x y).tl ++ r = 40 :: (x.tl ++ 43 :: (y.tl ++ 41 :: r)) := by simp [Tr.tl]
    rw [e] at h ⊢
    simp only [List.length_cons, List.length_append] at h
    unfold pr
    dsimp only
    rw [if_neg (by decide), if_neg (by decide), if_neg (by decide), if_pos rfl, tl_pr x hg.1 k _ (by simp only [List.length_cons, List.length_append]; omega)]
    have s1 : stars x (43 :: (y.tl ++ 41 :: r)) = (x, 43 :: (y.tl ++ 41 :: r)) := by unfold stars; rw [if_neg (by decide)]
    have s2 : stars y (41 :: r) = (y, 41 :: r) := by unfold stars; rw [if_neg (by decide)]
    rw [s1]
    dsimp only
    rw [tl_pr y hg.2 k _ (by simp only [List.length_cons, List.length_append]; omega), s2]
    simp
  | .prod x y, hg, k + 1, r, h => by
    simp only [Tr.good, Bool.and_eq_true] at hg
    have e : (Tr.prod x y).tl ++ r = 40 :: (x.tl ++ 46 :: (y.tl ++ 41 :: r)) := by simp [Tr.tl]
    rw [e] at h ⊢
    simp only [List.length_cons, List.length_append] at h
    unfold pr
    dsimp only
    rw [if_neg (by decide), if_neg (by decide), if_neg (by decide), if_pos rfl, tl_pr x hg.1 k _ (by simp only [List.length_cons, List.length_append]; omega)]
    have s1 : stars x (46 :: (y.tl ++ 41 :: r)) = (x, 46 :: (y.tl ++ 41 :: r)) := by unfold stars; rw [if_neg (by decide)]
    have s2 : stars y (41 :: r) = (y, 41 :: r) := by unfold stars; rw [if_neg (by decide)]
    rw [s1]
    dsimp only
    rw [tl_pr y hg.2 k _ (by simp only [List.length_cons, List.length_append]; omega), s2]
    simp
theorem Tr.ok_good {n : Int} (hn : n ≤ 8) : ∀ t : Tr, t.ok n → t.good = true
  | .nothing, _ => rfl
  | .empty, _ => rfl
  | .letter a, h => by simp only [Tr.ok] at h; simp only [Tr.good, decide_eq_true_eq]; omega
  | .sum x y, h => by simp only [Tr.good, Bool.and_eq_true]; exact ⟨Tr.ok_good hn x h.1, Tr.ok_good hn y h.2⟩
  | .prod x y, h => by simp only [Tr.good, Bool.and_eq_true]; exact ⟨Tr.ok_good hn x h.1, Tr.ok_good hn y h.2⟩
  | .star x, h => Tr.ok_good hn x h
/-- Terms tell their tree. -/
theorem Tr.enc_inj : ∀ (t u : Tr) (r s : List TmT), t.enc ++ r = u.enc ++ s → t = u ∧ r = s
  | .nothing, u, r, s, h => by cases u <;> simp_all [Tr.enc]
  | .empty, u, r, s, h => by cases u <;> simp_all [Tr.enc]
  | .letter a, u, r, s, h => by
    cases u <;> simp_all [Tr.enc]
    omega
  | .star x, u, r, s, h => by
    cases u with
    | star y =>
      simp only [Tr.enc, List.cons_append, List.cons.injEq, true_and] at h
      obtain ⟨rfl, rfl⟩ := Tr.enc_inj x y r s h
      exact ⟨rfl, rfl⟩
    | _ => simp [Tr.enc] at h
  | .sum x y, u, r, s, h => by
    cases u with
    | sum x' y' =>
      simp only [Tr.enc, List.cons_append, List.append_assoc, List.cons.injEq, true_and] at h
      obtain ⟨rfl, h2⟩ := Tr.enc_inj x x' _ _ h
      obtain ⟨rfl, rfl⟩ := Tr.enc_inj y y' _ _ h2
      exact ⟨rfl, rfl⟩
    | _ => simp [Tr.enc] at h
  | .prod x y, u, r, s, h => by
    cases u with
    | prod x' y' =>
      simp only [Tr.enc, List.cons_append, List.append_assoc, List.cons.injEq, true_and] at h
      obtain ⟨rfl, h2⟩ := Tr.enc_inj x x' _ _ h
      obtain ⟨rfl, rfl⟩ := Tr.enc_inj y y' _ _ h2
      exact ⟨rfl, rfl⟩
    | _ => simp [Tr.enc] at h
theorem tl_text_eq {t u : Tr} (h : t.enc = u.enc) : u.text = t.text := by
  obtain ⟨rfl, _⟩ := Tr.enc_inj t u [] [] (by rw [h])
  rfl
end Go.Proofs.YthbaocejgjpfoaaDoor.U
end M2
section M3
namespace Go.Proofs.YthbaocejgjpfoaaDoor.Pure
open Go.RowKit Go.Proofs.YthbaocejgjpfoaaDoor.P Go.Proofs.YthbaocejgjpfoaaDoor.U Go.Proofs.YthbaocejgjpfoaaDoorW.PrintWords Go.Proofs.YthbaocejgjpfoaaDoorW.PrintLast Go.Proofs.YthbaocejgjpfoaaDoorW.PrintMore
set_option linter.unusedVariables false
theorem bA_inj {s : ByteArray} {l : List UInt8} (h : s.data.toList = l) : s = bA l := by rw [← h, bA_data]
theorem isExpr_tree' {n : Int} {d : List Int} {e : List TmT} {b : Bool} (hb : Ev (fun k => impl_IsExpression.f k n d e) b) (he : e.length ≤ 1048576) (h : b = true) : ∃ t : Tr, t.ok n ∧ e = t.enc ∧ 0 ≤ n ∧ n ≤ 8 ∧ e.length ≤ 24 := by
  obtain ⟨c, _, h2, h3⟩ := isExpr_ev' n d e he
  have := Ev.det hb h2
  subst this
  obtain ⟨ha, l1, l2, hok, hE⟩ := h3 h
  have hn : 0 ≤ n ∧ n ≤ 8 := by
    unfold alB at ha
    simp only [Bool.and_eq_true, inI_iff] at ha
    exact ha.1
  obtain ⟨t, ht, e1⟩ := isExpr_tree (d := d) hn l2 hok hE
  exact ⟨t, ht, e1, hn.1, hn.2, l2⟩
/-- The text of terms that make an expression. -/
theorem exprText_yes {n : Int} {d : List Int} {t : Tr} (hb : Ev (fun k => impl_IsExpression.f k n d t.enc) true) (ht : t.ok n) (hn : n ≤ 8) (hl : t.enc.length ≤ 24) : Ev (fun k => impl_ExpressionText.f k n d t.enc) (t.text, 0) := by
  unfold impl_ExpressionText.f
  exact Ev.bind hb (Ev.yes rfl (Ev.bind (text_impl n hn t ht hl) (Ev.now _)))
theorem exprText_no {n : Int} {d : List Int} {e : List TmT} (hb : Ev (fun k => impl_IsExpression.f k n d e) false) : Ev (fun k => impl_ExpressionText.f k n d e) (⟨#[]⟩, 1) := by
  unfold impl_ExpressionText.f
  exact Ev.bind hb (Ev.no (by simp) (Ev.now _))
theorem eqTerms_ev (e : List TmT) (he : e.length ≤ 1048576) : Ev (fun k => laws_FnExpressionTexts.l0 k e e 0) true := by
  have key := Ev.up (fun k (_ : Unit) i => laws_FnExpressionTexts.l0 k e e i) e.length (fun _ _ => true) (fun _ _ => True)
    (fun _ _ => by
      refine Ev.round ?_
      simp only [laws_FnExpressionTexts.l0]
      exact Ev.no (by omega) (Ev.now _))
    (fun i _ hi _ ih => by
      refine Ev.round ?_
      simp only [laws_FnExpressionTexts.l0]
      rw [rdTm, w64s (by omega)]
      refine Ev.yes (by omega) (Ev.yes (by omega) (Ev.yes (by omega) ?_))
      exact Ev.no (by simp) (ih () trivial))
  exact key 0 () (by omega) trivial
theorem last_ev {l : List Int} (hs : Bytes l) : Ev (fun k => laws_FnExpressionTexts.j0 k l) true := by
  refine Ev.round ?_
  simp only [laws_FnExpressionTexts.j0]
  obtain ⟨q, Q, hq⟩ := drawOne_ev hs
  obtain ⟨n, d, e⟩ := q
  have he : e.length ≤ 14 := hq.2
  have D : Ev (fun k => spec_DrawExpressionText.f k l) (n, d, e) := by
    unfold spec_DrawExpressionText.f
    exact Ev.bind Q (Ev.now _)
  obtain ⟨b, _, hb, _⟩ := isExpr_ev' n d e (by omega)
  cases b with
  | false => exact Ev.bind D (Ev.bind (exprText_no hb) (Ev.bind hb (Ev.no (by simp) (Ev.yes rfl (Ev.now' fun _ => by show some ((⟨#[]⟩ : ByteArray).toList == ([] : List UInt8)) = some true; rw [ByteArray.toList_eq]; rfl)))))
  | true =>
    obtain ⟨t, ht, rfl, hn0, hn, hl⟩ := isExpr_tree' hb (by omega) rfl
    have hg := Tr.ok_good hn t ht
    have hsz := t.text_size
    have h96 : t.text.size ≤ 96 := by omega
    obtain ⟨r, _, R, hr, _, h3, h4, _⟩ := parse_both n d t.text (by omega)
    have e0 : pr (t.text.data.toList.length + 1) t.text.data.toList = some (t, []) := by
      rw [t.text_tl]
      have := tl_pr t hg (t.tl.length + 1) [] (by simp)
      rw [List.append_nil] at this
      rw [this]; rfl
    have := h3 t e0 h96 true hb rfl
    subst this
    refine Ev.bind D (Ev.bind (exprText_yes hb ht hn hl) (Ev.bind hb (Ev.yes rfl (Ev.bind R (Ev.yes rfl (Ev.yes rfl (Ev.round ?_)))))))
    simp only [laws_FnExpressionTexts.j1]
    exact Ev.no (by simp) (eqTerms_ev _ (by omega))
theorem drawParse_ev {l : List Int} (hs : Bytes l) : EvP (fun k => spec_DrawParseExpression.f k l) (fun q => q.2.2.size ≤ 1001) := by
  unfold spec_DrawParseExpression.f
  refine EvP.bindP (from_ev hs) (fun s ⟨s1, s2⟩ => ?_)
  obtain ⟨s1', s2', s3⟩ := s
  dsimp only at s1 s2
  subst s1
  subst s2
  obtain ⟨q, Q, hq⟩ := drawOne_ev hs
  obtain ⟨n, d, e⟩ := q
  have he : e.length ≤ 14 := hq.2
  have tail : ∀ t : ByteArray, t.size ≤ 1000 → EvP (fun k => spec_DrawParseExpression.j0 k t s1' 0 s3 n d) (fun q => q.2.2.size ≤ 1001) := fun t ht => by
    refine EvP.round ?_
    simp only [spec_DrawParseExpression.j0]
    obtain ⟨v, p, r, e1, hp, _⟩ := next_ev hs s3 4 (p := 0) ⟨by omega, by omega⟩
    refine EvP.here e1 ?_
    by_cases hv : v = 0
    · obtain ⟨z, hz, hz1⟩ := damage_ev hs r hp t ht
      exact EvP.yes hv (EvP.here hz (EvP.ret hz1))
    · exact EvP.no hv (EvP.ret (by dsimp only; omega))
  obtain ⟨b, b1, b2, b3⟩ := isExpr_ev' n d e (by omega)
  refine EvP.bind Q (EvP.bind b1 ?_)
  cases b with
  | false => exact EvP.no (by simp) (tail _ (by show (6 : Nat) ≤ 1000; decide))
  | true =>
    obtain ⟨t, ht, rfl, hn0, hn, hl⟩ := isExpr_tree' b2 (by omega) rfl
    have hsz := t.text_size
    exact EvP.yes rfl (EvP.bind (text_spec n hn t.enc hl t ht 0 [] (by simp)) (tail _ (by omega)))
theorem FnExpressionTexts : ∀ (l0 : List Int), (l0.length ≤ maxLen ∧ ∀ x0 ∈ l0, (Lit.int .u8 x0).wf = true) → ∃ k, laws_FnExpressionTexts.f k l0 = some true := by
  intro l ⟨hl, hb⟩
  apply Ev.rounds
  unfold laws_FnExpressionTexts.f laws_big.f
  refine Ev.here rfl ?_
  by_cases h : (l.length : Int) > 4096
  · exact Ev.yes (decide_eq_true h) (Ev.now _)
  refine Ev.no (by simpa using h) ?_
  have hs : Bytes l := ⟨by omega, fun x hx => by
    have := hb x hx
    unfold Lit.wf at this
    simp at this
    have u0 : IntKind.u8.min = 0 := rfl
    have u1 : IntKind.u8.max = 255 := rfl
    omega⟩
  obtain ⟨q, Q, hq⟩ := drawParse_ev hs
  obtain ⟨n, d, s⟩ := q
  dsimp only at hq
  obtain ⟨r, S, R, hr, _, h3, h4, h5⟩ := parse_both n d s (by omega)
  refine Ev.bind Q (Ev.bind R (Ev.bind S (Ev.yes rfl ?_)))
  by_cases h0 : r.2 = 0
  · obtain ⟨t, hg, e0, e1, e2⟩ := h4 h0
    obtain ⟨r1, r2⟩ := r
    dsimp only at h0 e1
    subst e1
    subst h0
    have htl := pr_tl _ _ _ _ e0 hg
    rw [List.append_nil] at htl
    obtain ⟨t', ht', e3, hn0, hn, hl24⟩ := isExpr_tree' e2 (by dsimp only at hr; omega) rfl
    rw [e3] at e2
    have hg' := Tr.ok_good hn t' ht'
    have hT := exprText_yes e2 ht' hn (by rw [← e3]; exact hl24)
    have ett : t.text = s := by
      have a1 := t.text_tl
      rw [← htl] at a1
      rw [bA_inj a1, bA_data]
    rw [← e3] at e2 hT
    have etext : t'.text = t.text := tl_text_eq e3
    refine Ev.yes rfl (Ev.bind hT (Ev.yes rfl (Ev.yes (by rw [etext, ett]) (Ev.bind e2 (Ev.yes rfl (last_ev hs))))))
  · have := h5 h0
    refine Ev.no h0 (Ev.no (by rw [this]; simp) (last_ev hs))
end Go.Proofs.YthbaocejgjpfoaaDoor.Pure
end M3
section M4
namespace Go.Proofs.YthbaocejgjpfoaaDoor.fnExpressionTexts
open Go.ChangeShapes Go.WideShapes Go.ChangeAt Go.RowKit Go.Lib Go.Joins Go.Proofs.YthbaocejgjpfoaaDoor.P Go.Proofs.YthbaocejgjpfoaaDoor.Op Go.Proofs.YthbaocejgjpfoaaDoor.Sh Go.Proofs.YthbaocejgjpfoaaDoorW.PrintWords Go.Proofs.YthbaocejgjpfoaaDoorW.PrintLast
open Go.ChangeMaps (open_string shut_string)
set_option linter.unusedVariables false
set_option linter.unusedSimpArgs false
theorem own : ownKnob Tryd.prog.godebug = none := by kernel_rfl
theorem laidOut : laidOutB Tryd.prog = true := by kernel_rfl
theorem gTab : Tryd.prog.globalNamed "math/bits.deBruijn64tab" = some 0 := by kernel_rfl
theorem gTabType : (Tryd.prog.globals[0]?).map (·.type) = some 191 := by kernel_rfl
theorem cellsT : Tryd.prog.cellsOf 191 = 64 := by kernel_rfl
theorem cellsE : Tryd.prog.cellsOf 5 = 1 := by kernel_rfl
def tabL : List Int := [0, 1, 56, 2, 57, 49, 28, 3, 61, 58, 42, 50, 38, 29, 17, 4, 62, 47, 59, 36, 45, 43, 51, 22, 53, 39, 33, 30, 24, 18, 12, 5, 63, 55, 48, 27, 60, 41, 37, 16, 46, 35, 44, 21, 52, 32, 23, 11, 54, 26, 40, 15, 34, 20, 31, 10, 25, 14, 19, 9, 13, 8, 7, 6]
theorem tabL_eq : tabL = Lib.deBruijn64tab.map (fun (n : Nat) => (n : Int)) := rfl
theorem table {W : World} (h : laidMetH Tryd.prog Rows.fnExpressionTextsRow.laid W) : Lib.TabIs Tryd.prog W "math/bits.deBruijn64tab" .u8 tabL :=
  Lib.tabIs_of_head (rest := []) gTab gTabType Tryd.underlying191 Tryd.underlying5 cellsE cellsT h
theorem tab {W : World} (h : laidMetH Tryd.prog Rows.fnExpressionTextsRow.laid W) : Tab W := fun j hj => by
  have h1 := (table h).cell gTab j (by rw [tabL_eq, List.length_map]; exact hj)
  rw [h1, tabL_eq]
  congr 2
  simp only [List.getD_eq_getElem?_getD, List.getElem?_map, List.getElem?_eq_getElem hj, Option.map_some, Option.getD_some, List.getElem_map]
set_option maxRecDepth 100000 in
theorem contract (H : Type) (enc : TypeId × Value → H) (W : World) (base : Nat) (args : Array Value) (ds gs : List (DataW H)) (before : List MemPlace)
    (hval0 : ∀ (j : Nat) t v, Tryd.f10.params[j]? = some t → args[j]? = some v → Value.okWide Tryd.prog W .any base t v)
    (hW : DataW.Whole enc Tryd.prog Tryd.f10.params.toList Rows.fnExpressionTextsSpec.vars false W args.toList ds gs before) (hL : laidMetH Tryd.prog Rows.fnExpressionTextsRow.laid W) :
    Calls Tryd.prog 10 args W fun e W' => ∃ v, e = .returned v ∧ Rows.fnExpressionTextsSpec.post enc Tryd.prog Tryd.f10 false true false false W args v W' := by
  have hTab := tab hL
  clear hL
  have hval : ∀ (j : Nat) t v, Tryd.f10.params[j]? = some t → args[j]? = some v → Value.okWide Tryd.prog W .any base t v := hval0
  have hW' := hW
  obtain ⟨p, q, hA0, hV, rfl, hfz, hnd⟩ := hW
  have hA : DataW.TrodAll enc Tryd.prog W 0 (fun _ => true) true Tryd.f10.params.toList args.toList ds p := hA0
  rw [Tryd.params10] at hA hval
  obtain ⟨v0, vs0, d0, ds0, p0, q0, hargs, rfl, rfl, h0, r0⟩ := trodAll_cons hA
  obtain ⟨rfl, rfl, rfl⟩ := trodAll_nil r0
  obtain rfl : args = #[v0] := by cases args; simp_all
  obtain ⟨rfl, rfl⟩ := trodVars_none hV
  have k0 := h0
  have lt0 : ∀ x ∈ p0, x.block < W.heap.size := by obtain ⟨m, hm⟩ := k0; exact DataW.trod_lt m _ _ _ hm
  obtain ⟨z0, len0, cap0, rfl⟩ := okWide_slice Tryd.underlying76 (hval 0 76 v0 rfl rfl)
  obtain ⟨f0, hf0⟩ := h0
  obtain ⟨A0, c0, l0, e0, hc0, hr0, w0⟩ := open_row hf0 (opens_slice Tryd.underlying76 (by kernel_rfl) (opens_int Tryd.underlying5))
  simp only [Value.slice.injEq] at e0
  obtain ⟨ea0, eb0, ec0⟩ := e0
  obtain rfl := ea0.symm
  subst eb0
  obtain rfl := ec0.symm
  clear hA0 hval0
  obtain ⟨k, hk⟩ := Pure.FnExpressionTexts l0 w0
  refine (laws_FnExpressionTexts.calls k A0 c0 l0 true W hr0 hc0 hk rfl hTab).mono fun e W' ⟨he, bel0⟩ => ?_
  have bel : Below W.heap.size W W' := bel0
  subst he
  exact ⟨_, rfl, _, _, _, [], _, [], hW', trodAll_mk1 (shut_bool Tryd.underlying4 _), (trodAll_cons_mk (Below.trod laidOut (by kernel_rfl) (of_decide_eq_true (by kernel_rfl)) k0 bel lt0) trodAll_mk0), rfl, bel.frame _, fun h => by cases h⟩
noncomputable def laidWorld (os : Os) : World :=
  { World.holding Tryd.prog os ⟨#[], #[], []⟩ with heap := (World.holding Tryd.prog os ⟨#[], #[], []⟩).heap.modify 0 fun
      | .cells _ t frozen => .cells #[.int .u8 0, .int .u8 1, .int .u8 56, .int .u8 2, .int .u8 57, .int .u8 49, .int .u8 28, .int .u8 3, .int .u8 61, .int .u8 58, .int .u8 42, .int .u8 50, .int .u8 38, .int .u8 29, .int .u8 17, .int .u8 4, .int .u8 62, .int .u8 47, .int .u8 59, .int .u8 36, .int .u8 45, .int .u8 43, .int .u8 51, .int .u8 22, .int .u8 53, .int .u8 39, .int .u8 33, .int .u8 30, .int .u8 24, .int .u8 18, .int .u8 12, .int .u8 5, .int .u8 63, .int .u8 55, .int .u8 48, .int .u8 27, .int .u8 60, .int .u8 41, .int .u8 37, .int .u8 16, .int .u8 46, .int .u8 35, .int .u8 44, .int .u8 21, .int .u8 52, .int .u8 32, .int .u8 23, .int .u8 11, .int .u8 54, .int .u8 26, .int .u8 40, .int .u8 15, .int .u8 34, .int .u8 20, .int .u8 31, .int .u8 10, .int .u8 25, .int .u8 14, .int .u8 19, .int .u8 9, .int .u8 13, .int .u8 8, .int .u8 7, .int .u8 6] t frozen
      | o => o }
theorem laid_met (os : Os) : laidMet Tryd.prog Rows.fnExpressionTextsRow.laid ((laidWorld os).forCall (fun _ _ => 0) ⟨#[], #[.slice none 0 0], []⟩).memory :=
  laidMet_of_run' 8 (by kernel_rfl) (by kernel_rfl)
theorem reads (os : Os) {H : Type} (enc : TypeId × Value → H) : ∃ places, DataW.whole enc Tryd.prog ((laidWorld os).forCall (fun _ _ => 0) ⟨#[], #[.slice none 0 0], []⟩).memory Tryd.f10.params.toList Rows.fnExpressionTextsSpec.vars false (#[.slice none 0 0] : Array Value).toList 8 = some ([.nil], [], places) :=
  ⟨[], by kernel_rfl⟩
set_option maxRecDepth 100000 in
theorem lifted (os : Os) (started : os.Started) (H : Type) (enc : TypeId × Value → H) (F : Stop.Interp) :
    ReturnsInHanded {} Tryd.checked os 10 .any ((OpenSpec.ofChange Rows.fnExpressionTextsSpec).preRow enc Tryd.prog Tryd.f10 Rows.fnExpressionTextsRow.domain false Rows.fnExpressionTextsRow.laid) (((OpenSpec.ofChange Rows.fnExpressionTextsSpec).at F).post enc Tryd.prog Tryd.f10 false true false false) := by
  obtain ⟨places, hx⟩ := reads os enc
  refine returnsInHanded_of_row (C := Tryd.checked) (s := OpenSpec.ofChange Rows.fnExpressionTextsSpec) own started (by kernel_rfl) Tryd.func10
    (witness_row_at (enc := enc) (C := Tryd.checked) false (laidWorld os) #[.slice none 0 0] rfl (by kernel_rfl) (by kernel_rfl) (by kernel_rfl)
      (OpenSpec.preRow_of_cond 8 hx (by kernel_rfl) (fun k hk => by cases hk) (by kernel_rfl) (laid_met os))) ?_
  intro W base args ds gs before hval hW _ _ _ hL _ _
  exact contract H enc W base args ds gs before hval hW hL
theorem said : Rows.FnExpressionTextsSaid :=
  OpenClaim.holds_of_cond 10 Tryd.f10 rfl rfl rfl rfl rfl rfl rfl ⟨rfl, rfl, rfl, rfl, rfl⟩ rfl rfl rfl rfl rfl (by kernel_rfl) Tryd.func10 (by kernel_rfl)
    (of_decide_eq_true (by kernel_rfl)) (by unfold Func.isWrapper; first | (rw [if_pos (by decide +kernel)]; kernel_rfl) | (rw [if_neg (by decide +kernel)]; exact ⟨rfl, rfl⟩))
    (fun os started H enc _ F => by rw [OpenClaim.pre_eq_preRow]; exact lifted os started H enc F)
theorem plain (f : FuncId) (fn : Func) (hf : Tryd.pinned.checked.prog.funcNamed "loop.example/g01094/laws.FnExpressionTexts" = some f) (hfn : Tryd.pinned.checked.prog.funcs[f]? = some fn) :
    false = Tryd.pinned.checked.prog.looks [] ∧ ∀ (j : Nat) t, fn.params[j]? = some t → Tryd.pinned.checked.prog.wantsStandIn t = false := by
  obtain rfl : f = 10 := Option.some.inj ((show Tryd.prog.funcNamed "loop.example/g01094/laws.FnExpressionTexts" = some 10 by kernel_rfl).symm.trans hf) |>.symm
  obtain rfl : fn = Tryd.f10 := (Option.some.inj (Tryd.func10.symm.trans hfn)).symm
  refine ⟨by kernel_rfl, fun j t ht => ?_⟩
  rw [Tryd.params10] at ht
  have hm := Array.mem_of_getElem? ht
  simp only [List.mem_toArray, List.mem_cons, List.not_mem_nil, or_false] at hm
  rcases hm with rfl
  · exact (show Tryd.prog.wantsStandIn 76 = false by kernel_rfl)
theorem card : Rows.FnExpressionTextsCardSaid :=
  Claim7.holds_tied_plain_at .later [] _ _ _ _ said (fun _ h => by cases h) (by kernel_rfl) (fun _ h => by cases h) fnExpressionTexts_row_tie rfl ⟨rfl, rfl⟩ (by kernel_rfl) rfl plain (by kernel_rfl)
#print axioms card
end Go.Proofs.YthbaocejgjpfoaaDoor.fnExpressionTexts
namespace Go.Proofs.YthbaocejgjpfoaaDoor
/-- The card, under a short name, for the claim. -/
theorem fnExpressionTexts_holds : Rows.FnExpressionTextsCardSaid := fnExpressionTexts.card
end Go.Proofs.YthbaocejgjpfoaaDoor
end M4
