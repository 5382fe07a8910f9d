/- For every alphabet and every list of terms, the program's ContentsOf answers what the reference's answers, leaves its arguments as they were and hands out a row of its own. No condition. -/
import Derived.ArgAppend
import Derived.Below
import Derived.BigQuiet
import Derived.ChangeOld
import Derived.ChangeSame
import Derived.ChangeShapes
import Derived.Deep.AppendLies
import Derived.Deep.CutBlock
import Derived.Deep.DeepCutAuto
import Derived.Deep.DeepHandedRow
import Derived.Deep.Draws
import Derived.Deep.LoopGhost
import Derived.Deep.OwnRows
import Derived.Deep.QuietTactic
import Derived.Deep.RegionHeld3
import Derived.Deep.Slices
import Derived.Deep.Strs
import Derived.KernelRfl
import Derived.Laws.BitsLemmas
import Derived.Laws.BytesArg
import Derived.Laws.IdiomCopy
import Derived.Laws.MakeOwn
import Derived.Laws.OwnMore
import Derived.Laws.Rows
import Derived.Laws.Slices
import Derived.Laws.StructEq
import Derived.Lib.AppendStr
import Derived.Lib.ConvBytes
import Derived.Lib.LaidTab
import Derived.Lib.SliceRun
import Derived.Lib.SmallJoins
import Derived.Maps.AppendAt
import Derived.OpenShut
import Derived.OrdersHeld
import Derived.OwnWalk
import Derived.ProofKit
import Derived.RowKit
import Derived.RowKit3
import Derived.Shelf.Abstract
import Derived.Shelf.SlicesG.CompactI
import Derived.Shelf.SortM.Plain
import Derived.Shelf.SortM.SortNone
import Derived.Shelf.Spec.TrailingZeros
import Derived.ShutString
import Derived.SizedLaws
import Derived.Sort.Grow
import Derived.Tactics
import Derived.Test.YtcbcfkmeemenkaaDoorCards
import Derived.Test.YtcbcfkmeemenkaaDoorChecked
import Derived.Test.YtcbcfkmeemenkaaDoorProg
import Derived.Test.YtcbcfkmeemenkaaDoorTie
import Derived.WalkKit
import Derived.WideLaws
import Derived.Test.YtcbcfkmeemenkaaDoorCFnExactContentsOf2
import Derived.Test.YtcbcfkmeemenkaaDoorCFnExactContentsOf3
import Derived.Test.YtcbcfkmeemenkaaDoorCFnExactContentsOf4
import Derived.Test.YtcbcfkmeemenkaaDoorCFnExactContentsOf5
import Derived.Test.YtcbcfkmeemenkaaDoorCFnExactContentsOf6
import Derived.Test.YtcbcfkmeemenkaaDoorCFnExactContentsOf7
import Derived.Test.YtcbcfkmeemenkaaDoorCFnExactContentsOf8
import Derived.Test.YtcbcfkmeemenkaaDoorCFnExactContentsOf9
import Derived.Test.YtcbcfkmeemenkaaDoorCFnExactContentsOf10
section M0
namespace Go.Proofs.YtcbcfkmeemenkaaDoor.U
open Go.RowKit Go.Proofs.YtcbcfkmeemenkaaDoor.P Go.Proofs.YtcbcfkmeemenkaaDoorW.PrintWords Go.Proofs.YtcbcfkmeemenkaaDoorW.PrintLast Go.Proofs.YtcbcfkmeemenkaaDoorW.PrintMore
set_option linter.unusedVariables false
/-! The contents of a tree, as the reference tells them: 256 flags. -/
/-- 256 flags that say what P holds of. -/
def IsF (P : Nat → Prop) (F : List Bool) : Prop := F.length = 256 ∧ ∀ c, c < 256 → (F.getD c false = true ↔ P c)
theorem getD_set (F : List Bool) (i c : Nat) (b : Bool) (hi : i < F.length) : (F.set i b).getD c false = if i = c then b else F.getD c false := by
  rw [List.getD_eq_getElem?_getD, List.getD_eq_getElem?_getD, List.getElem?_set]
  by_cases h : i = c
  · subst h
    simp [hi]
  · simp [h]
theorem repl : (List.replicate 256 false).length = 256 := List.length_replicate
theorem getD_rep (c : Nat) : (List.replicate 256 false).getD c false = false := by
  rw [List.getD_eq_getElem?_getD, List.getElem?_replicate]
  split <;> rfl
theorem rdF (F : List Bool) (c : Nat) : rdOf false F (c : Int) = F.getD c false := rfl
/-- One flag set. -/
theorem IsF.one {P : Nat → Prop} {i : Nat} (hi : i < 256) (h : ∀ c, P c ↔ c = i) : IsF P ((List.replicate 256 false).set i true) := by
  refine ⟨by rw [List.length_set, List.length_replicate], fun c hc => ?_⟩
  rw [getD_set _ _ _ _ (by rw [List.length_replicate]; exact hi), getD_rep, h]
  by_cases e : i = c
  · simp [e]
  · simp only [if_neg e, Bool.false_eq_true, false_iff]
    exact fun h => e h.symm
/-- The loop of a sum. -/
theorem sum_loop (e : List TmT) (i : Nat) (hi : i < e.length) (hk : (tD e i).f0 = 3) (P1 P2 : Nat → Prop) (F1 F2 : List Bool) (h1 : IsF P1 F1) (h2 : IsF P2 F2) :
    EvP (fun k => spec_l13Contents.l0 k e (i : Int) (List.replicate 256 false) F1 F2 ((0 : Nat) : Int)) (IsF fun c => P1 c ∨ P2 c) := by
  obtain ⟨n1, m1⟩ := h1
  obtain ⟨n2, m2⟩ := h2
  refine EvP.up (fun k o j => spec_l13Contents.l0 k e (i : Int) o F1 F2 j) _ 256 (fun j o => o.length = 256 ∧ ∀ c, c < 256 → (o.getD c false = true ↔ c < j ∧ (P1 c ∨ P2 c))) (fun o hI => ?_) (fun j o hj hI next => ?_) 0 _ (by omega) ?_
  · refine EvP.round ?_
    simp only [spec_l13Contents.l0]
    exact EvP.no (by omega) (EvP.ret ⟨hI.1, fun c hc => (hI.2 c hc).trans ⟨fun h => h.2, fun h => ⟨hc, h⟩⟩⟩)
  · obtain ⟨hn, hm⟩ := hI
    have step : ∀ b : Bool, (b = true ↔ P1 j ∨ P2 j) → ((o.set j b).length = 256 ∧ ∀ c, c < 256 → ((o.set j b).getD c false = true ↔ c < j + 1 ∧ (P1 c ∨ P2 c))) := by
      intro b hb
      refine ⟨by rw [List.length_set]; exact hn, fun c hc => ?_⟩
      rw [getD_set _ _ _ _ (by omega)]
      by_cases h : j = c
      · subst h
        simp [hb]
      · rw [if_neg h, hm c hc]
        constructor
        · exact fun h => ⟨by omega, h.2⟩
        · exact fun h => ⟨by omega, h.2⟩
    refine EvP.round ?_
    simp only [spec_l13Contents.l0]
    rw [rdTm, rdF, rdF, Int.toNat_natCast, w64s (by omega)]
    refine EvP.yes (by omega) (EvP.yes (by omega) (EvP.yes (by omega) (EvP.yes hk (EvP.yes (by omega) (EvP.yes (by omega) ?_)))))
    by_cases hb : F1.getD j false = true
    · exact EvP.yes hb (EvP.yes (by omega) (next _ (step true ⟨fun _ => .inl ((m1 j hj).1 hb), fun _ => rfl⟩)))
    · refine EvP.no hb (EvP.yes (by omega) (EvP.yes (by omega) (next _ (step _ ?_))))
      rw [m2 j hj]
      exact ⟨.inr, fun h => h.elim (fun h => absurd ((m1 j hj).2 h) hb) id⟩
  · exact ⟨List.length_replicate, fun c _ => by rw [getD_rep]; simp⟩
/-- The inner loop of a product. -/
theorem prodF_in (e : List TmT) (i : Nat) (P2 : Nat → Prop) (F1 F2 : List Bool) (h2 : IsF P2 F2) (n1 : F1.length = 256) (c : Nat) (hc : c < 256) (hF : F1.getD c false = true) (Q : List Bool → Prop) (o : List Bool) (ho : o.length = 256)
    (k0 : ∀ o', o'.length = 256 → (∀ d, d < 256 → (o'.getD d false = true ↔ o.getD d false = true ∨ ∃ b, b < 256 ∧ P2 b ∧ d = c ||| b)) → EvP (fun k => spec_l13Contents.l0 k e (i : Int) o' F1 F2 (wrap64 ((c : Int) + 1))) Q) :
    EvP (fun k => spec_l13Contents.l1 k e (i : Int) o F1 F2 (c : Int) ((0 : Nat) : Int)) Q := by
  obtain ⟨n2, m2⟩ := h2
  refine EvP.up (fun k o j => spec_l13Contents.l1 k e (i : Int) o F1 F2 (c : Int) j) Q 256 (fun j o' => o'.length = 256 ∧ ∀ d, d < 256 → (o'.getD d false = true ↔ o.getD d false = true ∨ ∃ b, b < j ∧ P2 b ∧ d = c ||| b)) (fun o' hI => ?_) (fun j o' hj hI next => ?_) 0 o (by omega) ⟨ho, fun d _ => ⟨.inl, fun h => h.elim id fun ⟨b, hb, _⟩ => by omega⟩⟩
  · refine EvP.round ?_
    simp only [spec_l13Contents.l1]
    exact EvP.no (by omega) (k0 o' hI.1 hI.2)
  · obtain ⟨hn, hm⟩ := hI
    have hor := or256 hc hj
    have step : ∀ b : Bool, (b = true ↔ o'.getD (c ||| j) false = true ∨ P2 j) → ((o'.set (c ||| j) b).length = 256 ∧ ∀ d, d < 256 → ((o'.set (c ||| j) b).getD d false = true ↔ o.getD d false = true ∨ ∃ b, b < j + 1 ∧ P2 b ∧ d = c ||| b)) := by
      intro b hb
      refine ⟨by rw [List.length_set]; exact hn, fun d hd => ?_⟩
      rw [getD_set _ _ _ _ (by omega)]
      by_cases h : c ||| j = d
      · subst h
        rw [if_pos rfl, hb, hm _ hd]
        constructor
        · rintro ((h | ⟨b, hb, h1, h2⟩) | h)
          · exact .inl h
          · exact .inr ⟨b, by omega, h1, h2⟩
          · exact .inr ⟨j, by omega, h, rfl⟩
        · rintro (h | ⟨b, hb, h1, h2⟩)
          · exact .inl (.inl h)
          · rcases Nat.lt_or_ge b j with h3 | h3
            · exact .inl (.inr ⟨b, h3, h1, h2⟩)
            · have : b = j := by omega
              subst this
              exact .inr h1
      · rw [if_neg h, hm d hd]
        constructor
        · rintro (h | ⟨b, hb, h1, h2⟩)
          · exact .inl h
          · exact .inr ⟨b, by omega, h1, h2⟩
        · rintro (h' | ⟨b, hb, h1, h2⟩)
          · exact .inl h'
          · rcases Nat.lt_or_ge b j with h3 | h3
            · exact .inr ⟨b, h3, h1, h2⟩
            · have : b = j := by omega
              subst this
              exact absurd h2.symm h
    refine EvP.round ?_
    simp only [spec_l13Contents.l1]
    rw [bor' hc hj, rdF, rdF, rdF, Int.toNat_natCast, w64s (by omega)]
    refine EvP.yes (by omega) (EvP.yes (by omega) (EvP.yes (by omega) (EvP.yes hF (EvP.yes (by omega) (EvP.yes (by omega) ?_)))))
    by_cases hb : o'.getD (c ||| j) false = true
    · exact EvP.yes hb (next _ (step true ⟨fun _ => .inl hb, fun _ => rfl⟩))
    · refine EvP.no hb (EvP.yes (by omega) (EvP.yes (by omega) (next _ (step _ ?_))))
      rw [m2 j hj]
      exact ⟨.inr, fun h => h.elim (fun h => absurd h hb) id⟩
theorem prodF_out (e : List TmT) (i : Nat) (hi : i < e.length) (hk : (tD e i).f0 = 4) (P1 P2 : Nat → Prop) (F1 F2 : List Bool) (h1 : IsF P1 F1) (h2 : IsF P2 F2) (hP1 : ∀ c, P1 c → c < 256) (hP2 : ∀ c, P2 c → c < 256) :
    EvP (fun k => spec_l13Contents.l0 k e (i : Int) (List.replicate 256 false) F1 F2 ((0 : Nat) : Int)) (IsF fun c => ∃ a b, P1 a ∧ P2 b ∧ c = a ||| b) := by
  obtain ⟨n1, m1⟩ := h1
  refine EvP.up (fun k o j => spec_l13Contents.l0 k e (i : Int) o F1 F2 j) _ 256 (fun j o => o.length = 256 ∧ ∀ c, c < 256 → (o.getD c false = true ↔ ∃ a b, a < j ∧ P1 a ∧ P2 b ∧ c = a ||| b)) (fun o hI => ?_) (fun j o hj hI next => ?_) 0 _ (by omega) ?_
  · refine EvP.round ?_
    simp only [spec_l13Contents.l0]
    exact EvP.no (by omega) (EvP.ret ⟨hI.1, fun c hc => (hI.2 c hc).trans ⟨fun ⟨a, b, _, h⟩ => ⟨a, b, h⟩, fun ⟨a, b, h⟩ => ⟨a, b, hP1 a h.1, h⟩⟩⟩)
  · obtain ⟨hn, hm⟩ := hI
    refine EvP.round ?_
    simp only [spec_l13Contents.l0]
    rw [rdTm]
    refine EvP.yes (by omega) (EvP.yes (by omega) (EvP.yes (by omega) (EvP.no (by omega) ?_)))
    by_cases hb : F1.getD j false = true
    · refine prodF_in e i P2 F1 F2 h2 n1 j hj hb _ o hn (fun o' hn' hm' => ?_)
      rw [w64s (by omega)]
      refine next o' ⟨hn', fun c hc => ?_⟩
      rw [hm' c hc, hm c hc]
      constructor
      · rintro (⟨a, b, h1, h2, h3, h4⟩ | ⟨b, hb1, h1, h2⟩)
        · exact ⟨a, b, by omega, h2, h3, h4⟩
        · exact ⟨j, b, by omega, (m1 j hj).1 hb, h1, h2⟩
      · rintro ⟨a, b, h1, h2, h3, h4⟩
        rcases Nat.lt_or_ge a j with h5 | h5
        · exact .inl ⟨a, b, h5, h2, h3, h4⟩
        · have : a = j := by omega
          subst this
          exact .inr ⟨b, hP2 b h3, h3, h4⟩
    · refine EvP.round ?_
      simp only [spec_l13Contents.l1]
      rw [rdF]
      refine EvP.yes (by omega) (EvP.yes (by omega) (EvP.yes (by omega) (EvP.no hb ?_)))
      rw [w64s (by omega)]
      refine next o ⟨hn, fun c hc => (hm c hc).trans ?_⟩
      constructor
      · rintro ⟨a, b, h1, h2⟩
        exact ⟨a, b, by omega, h2⟩
      · rintro ⟨a, b, h1, h2, h3⟩
        rcases Nat.lt_or_ge a j with h5 | h5
        · exact ⟨a, b, h5, h2, h3⟩
        · have : a = j := by omega
          subst this
          exact absurd ((m1 a hj).2 h2) hb
  · exact ⟨List.length_replicate, fun c _ => by rw [getD_rep]; simp⟩
/-- What is known of a star's flags. -/
structure StF (P : Nat → Prop) (o : List Bool) : Prop where
  len : o.length = 256
  zero : o.getD 0 false = true
  sub : ∀ c, c < 256 → o.getD c false = true → Ors P c
/-- What a round has done so far: it set a flag, or all is closed up to c. -/
def Rd (F : List Bool) (o0 : List Bool) (o : List Bool) (again : Bool) (cl : Prop) : Prop :=
  if again then falses o < falses o0 else o = o0 ∧ cl
theorem starF_in (P : Nat → Prop) (F : List Bool) (hF : IsF P F) (o0 : List Bool) (c : Nat) (hc : c < 256) (Q : List Bool → Prop)
    (k0 : ∀ o g, StF P o → Rd F o0 o g (∀ a, a < c + 1 → o.getD a false = true → ∀ b, b < 256 → F.getD b false = true → o.getD (a ||| b) false = true) → EvP (fun k => spec_l13Contents.l3 k o F g ((c + 1 : Nat) : Int)) Q) (o : List Bool) (g : Bool)
    (ho : StF P o) (hg : Rd F o0 o g (∀ a, a < c → o.getD a false = true → ∀ b, b < 256 → F.getD b false = true → o.getD (a ||| b) false = true)) :
    EvP (fun k => spec_l13Contents.l4 k o F g (c : Int) ((0 : Nat) : Int)) Q := by
  obtain ⟨nF, mF⟩ := hF
  refine EvP.up (fun k (s : List Bool × Bool) j => spec_l13Contents.l4 k s.1 F s.2 (c : Int) j) Q 256 (fun j s => StF P s.1 ∧ Rd F o0 s.1 s.2 ((∀ a, a < c → s.1.getD a false = true → ∀ b, b < 256 → F.getD b false = true → s.1.getD (a ||| b) false = true) ∧ ∀ b, b < j → F.getD b false = true → s.1.getD (c ||| b) false = true)) (fun s hI => ?_) (fun j s hj hI next => ?_) 0 (o, g) (by omega) ⟨ho, ?_⟩
  · obtain ⟨o, g⟩ := s
    obtain ⟨h1, h2⟩ := hI
    refine EvP.round ?_
    simp only [spec_l13Contents.l4]
    refine EvP.no (by omega) (EvP.round ?_)
    simp only [spec_l13Contents.j6]
    refine EvP.no (by decide) ?_
    rw [w64s (by omega)]
    refine k0 o g h1 ?_
    unfold Rd at h2 ⊢
    cases g
    · simp only [Bool.false_eq_true, if_false] at h2 ⊢
      refine ⟨h2.1, fun a ha hoa b hb hFb => ?_⟩
      rcases Nat.lt_or_ge a c with h | h
      · exact h2.2.1 a h hoa b hb hFb
      · have : a = c := by omega
        subst this
        exact h2.2.2 b hb hFb
    · simpa using h2
  · obtain ⟨o, g⟩ := s
    obtain ⟨h1, h2⟩ := hI
    have hn : o.length = 256 := h1.len
    have hor := or256 hc hj
    refine EvP.round ?_
    simp only [spec_l13Contents.l4]
    rw [rdF]
    refine EvP.yes (by omega) (EvP.yes (by omega) (EvP.yes (by omega) (EvP.round ?_)))
    simp only [spec_l13Contents.j6]
    rw [bor' hc hj, rdF, rdF, Int.toNat_natCast]
    by_cases hoc : o.getD c false = true
    · refine EvP.yes hoc (EvP.yes (by omega) (EvP.yes (by omega) ?_))
      rw [w64s (by omega)]
      by_cases hFj : F.getD j false = true
      · refine EvP.yes hFj (EvP.yes (by omega) (EvP.yes (by omega) ?_))
        by_cases hcj : o.getD (c ||| j) false = true
        · refine EvP.yes hcj (next (o, g) ⟨h1, ?_⟩)
          unfold Rd at h2 ⊢
          cases g
          · simp only [Bool.false_eq_true, if_false] at h2 ⊢
            refine ⟨h2.1, h2.2.1, fun b hb hFb => ?_⟩
            rcases Nat.lt_or_ge b j with h | h
            · exact h2.2.2 b h hFb
            · have : b = j := by omega
              subst this
              exact hcj
          · simpa using h2
        · refine EvP.no hcj (next (o.set (c ||| j) true, true) ⟨⟨by rw [List.length_set]; exact hn, ?_, fun d hd => ?_⟩, ?_⟩)
          · rw [getD_set _ _ _ _ (by omega), h1.zero]
            split <;> rfl
          · rw [getD_set _ _ _ _ (by omega)]
            by_cases h : c ||| j = d
            · intro _
              subst h
              rw [Nat.or_comm]
              exact Ors_cons ((mF j hj).1 hFj) (h1.sub c hc hoc)
            · rw [if_neg h]
              exact h1.sub d hd
          · have hlt : falses (o.set (c ||| j) true) < falses o := by
              have hi : c ||| j < o.length := by omega
              have := falses_set hi (by
                have h3 : ¬ o[c ||| j] = true := by
                  intro h4
                  exact hcj (by rw [List.getD_eq_getElem?_getD, List.getElem?_eq_getElem hi]; exact h4)
                simpa using h3)
              omega
            unfold Rd at h2 ⊢
            simp only [if_true]
            cases g
            · simp only [Bool.false_eq_true, if_false] at h2
              rw [← h2.1]
              exact hlt
            · simp only [if_true] at h2
              omega
      · refine EvP.no hFj (next (o, g) ⟨h1, ?_⟩)
        unfold Rd at h2 ⊢
        cases g
        · simp only [Bool.false_eq_true, if_false] at h2 ⊢
          refine ⟨h2.1, h2.2.1, fun b hb hFb => ?_⟩
          rcases Nat.lt_or_ge b j with h | h
          · exact h2.2.2 b h hFb
          · have : b = j := by omega
            subst this
            exact absurd hFb hFj
        · simpa using h2
    · refine EvP.no hoc ?_
      rw [w64s (by omega)]
      refine k0 o g h1 ?_
      unfold Rd at h2 ⊢
      cases g
      · simp only [Bool.false_eq_true, if_false] at h2 ⊢
        refine ⟨h2.1, fun a ha hoa b hb hFb => ?_⟩
        rcases Nat.lt_or_ge a c with h | h
        · exact h2.2.1 a h hoa b hb hFb
        · have : a = c := by omega
          subst this
          exact absurd hoa hoc
      · simpa using h2
  · unfold Rd at hg ⊢
    cases g
    · simp only [Bool.false_eq_true, if_false] at hg ⊢
      exact ⟨hg.1, hg.2, fun b hb => by omega⟩
    · simpa using hg
theorem starF_loop (P : Nat → Prop) (hP : ∀ c, P c → c < 256) (F : List Bool) (hF : IsF P F) : ∀ (m : Nat) (o : List Bool), falses o < m → StF P o → EvP (fun k => spec_l13Contents.l2 k o F true) (IsF (Ors P)) := by
  intro m
  induction m with
  | zero => intro o h; omega
  | succ m ih =>
    intro o hm ho
    refine EvP.round ?_
    simp only [spec_l13Contents.l2]
    refine EvP.yes trivial ?_
    refine EvP.up (fun k (s : List Bool × Bool) j => spec_l13Contents.l3 k s.1 F s.2 j) _ 256 (fun j s => StF P s.1 ∧ Rd F o s.1 s.2 (∀ a, a < j → s.1.getD a false = true → ∀ b, b < 256 → F.getD b false = true → s.1.getD (a ||| b) false = true)) (fun s hI => ?_) (fun j s hj hI next => ?_) 0 (o, false) (by omega) ⟨ho, ?_⟩
    · obtain ⟨o', g⟩ := s
      obtain ⟨h1, h2⟩ := hI
      refine EvP.round ?_
      simp only [spec_l13Contents.l3]
      refine EvP.no (by omega) ?_
      unfold Rd at h2
      cases g
      · simp only [Bool.false_eq_true, if_false] at h2
        refine EvP.round ?_
        simp only [spec_l13Contents.l2]
        refine EvP.no (by decide) (EvP.ret ⟨h1.len, fun c hc => ⟨h1.sub c hc, ?_⟩⟩)
        rintro ⟨l, hl, rfl⟩
        clear hc
        induction l with
        | nil => exact h1.zero
        | cons a l ihl =>
          have h3 := ihl (fun b hb => hl b (by simp [hb]))
          have h4 : l.foldr (fun a b => a ||| b) 0 < 256 := foldr256 fun b hb => hP b (hl b (by simp [hb]))
          have h5 := hP a (hl a (by simp))
          simp only [List.foldr_cons]
          rw [Nat.or_comm]
          exact h2.2 _ h4 h3 a h5 ((hF.2 a h5).2 (hl a (by simp)))
      · simp only [if_true] at h2
        exact ih o' (by omega) h1
    · obtain ⟨o', g⟩ := s
      obtain ⟨h1, h2⟩ := hI
      refine EvP.round ?_
      simp only [spec_l13Contents.l3]
      refine EvP.yes (by omega) ?_
      exact starF_in P F hF o j hj _ (fun o2 g2 hs hr => next (o2, g2) ⟨hs, hr⟩) o' g h1 h2
    · unfold Rd
      simp
theorem cont_spec {n : Int} (hn : n ≤ 8) (e : List TmT) (he : e.length ≤ 1048576) : ∀ (t : Tr) (i : Nat) (rest : List TmT), t.ok n → e.drop i = t.enc ++ rest → EvP (fun k => spec_l13Contents.f k e (i : Int)) (IsF (Cn t))
  | .nothing, i, rest, _, h => by
    obtain ⟨h1, h2, _⟩ := tD_drop h
    refine EvP.round ?_
    simp only [spec_l13Contents.f]
    rw [rdTm, h1]
    refine EvP.yes (by decide) (EvP.here rfl (EvP.yes (by omega) (EvP.yes (by omega) (EvP.no (by decide) (EvP.no (by decide) (EvP.no (by decide) (EvP.round ?_)))))))
    simp only [spec_l13Contents.j0]
    exact EvP.no (by decide) (EvP.no (by decide) (EvP.ret ⟨repl, fun c _ => by rw [getD_rep]; simp [Cn]⟩))
  | .empty, i, rest, _, h => by
    obtain ⟨h1, h2, _⟩ := tD_drop h
    refine EvP.round ?_
    simp only [spec_l13Contents.f]
    rw [rdTm, h1]
    refine EvP.yes (by decide) (EvP.here rfl (EvP.yes (by omega) (EvP.yes (by omega) (EvP.yes (by decide) (EvP.yes (by rw [repl]; decide) (EvP.ret (IsF.one (by decide) fun c => Iff.rfl)))))))
  | .letter a, i, rest, ho, h => by
    have ha : (a : Int) < n := ho
    obtain ⟨h1, h2, _⟩ := tD_drop h
    have hp : 2 ^ a < 256 := Nat.pow_lt_pow_right (n := 8) (by decide) (by omega)
    refine EvP.round ?_
    simp only [spec_l13Contents.f]
    rw [rdTm, h1]
    refine EvP.yes (by decide) (EvP.here rfl (EvP.yes (by omega) (EvP.yes (by omega) (EvP.no (by exact (by decide : ¬ (2 : Int) = 1)) (EvP.yes rfl (EvP.here (spOneI (by omega)) (EvP.yes (Int.natCast_nonneg _) (EvP.yes (by rw [repl]; omega) ?_))))))))
    rw [Int.toNat_natCast]
    exact EvP.ret (IsF.one hp fun c => Iff.rfl)
  | .sum x y, i, rest, ho, h => by
    simp only [Tr.enc, List.cons_append, List.append_assoc] at h
    obtain ⟨h1, h2, h3⟩ := tD_drop h
    have hx := cont_spec hn e he x (i + 1) _ ho.1 h3
    have hy := cont_spec hn e he y (i + 1 + x.enc.length) _ ho.2 (drop_skip h3)
    have hE := end_tree e he x (i + 1) _ h3
    refine EvP.round ?_
    simp only [spec_l13Contents.f]
    rw [rdTm, h1]
    refine EvP.yes (by decide) (EvP.here rfl (EvP.yes (by omega) (EvP.yes (by omega) (EvP.no (by decide) (EvP.no (by decide) (EvP.yes (by decide) (EvP.round ?_)))))))
    simp only [spec_l13Contents.j0]
    rw [w64s (by omega)]
    refine EvP.yes (by decide) (EvP.bindP hx fun F1 h4 => EvP.bind hE (EvP.bindP hy fun F2 h5 => ?_))
    exact sum_loop e i h2 (by rw [h1]) _ _ F1 F2 h4 h5
  | .prod x y, i, rest, ho, h => by
    simp only [Tr.enc, List.cons_append, List.append_assoc] at h
    obtain ⟨h1, h2, h3⟩ := tD_drop h
    have hx := cont_spec hn e he x (i + 1) _ ho.1 h3
    have hy := cont_spec hn e he y (i + 1 + x.enc.length) _ ho.2 (drop_skip h3)
    have hE := end_tree e he x (i + 1) _ h3
    refine EvP.round ?_
    simp only [spec_l13Contents.f]
    rw [rdTm, h1]
    refine EvP.yes (by decide) (EvP.here rfl (EvP.yes (by omega) (EvP.yes (by omega) (EvP.no (by decide) (EvP.no (by decide) (EvP.no (by decide) (EvP.round ?_)))))))
    simp only [spec_l13Contents.j0]
    rw [w64s (by omega)]
    refine EvP.yes (by decide) (EvP.bindP hx fun F1 h4 => EvP.bind hE (EvP.bindP hy fun F2 h5 => ?_))
    exact prodF_out e i h2 (by rw [h1]) _ _ F1 F2 h4 h5 (fun c hc => Cn_lt hn ho.1 hc) (fun c hc => Cn_lt hn ho.2 hc)
  | .star x, i, rest, ho, h => by
    simp only [Tr.enc, List.cons_append] at h
    obtain ⟨h1, h2, h3⟩ := tD_drop h
    have hx := cont_spec hn e he x (i + 1) _ ho h3
    refine EvP.round ?_
    simp only [spec_l13Contents.f]
    rw [rdTm, h1]
    refine EvP.yes (by decide) (EvP.here rfl (EvP.yes (by omega) (EvP.yes (by omega) (EvP.no (by decide) (EvP.no (by decide) (EvP.no (by decide) (EvP.round ?_)))))))
    simp only [spec_l13Contents.j0]
    rw [w64s (by omega)]
    refine EvP.no (by decide) (EvP.yes trivial (EvP.bindP hx fun F h4 => EvP.yes (by rw [repl]; decide) ?_))
    refine starF_loop (Cn x) (fun c hc => Cn_lt (t := x) hn ho hc) F h4 _ _ (Nat.lt_succ_self _) ⟨by rw [List.length_set]; exact repl, ?_, fun c hc => ?_⟩
    · rw [getD_set _ _ _ _ (by rw [repl]; decide)]; rfl
    · rw [getD_set _ _ _ _ (by rw [repl]; decide), getD_rep]
      intro h5
      have : c = 0 := by
        by_cases h6 : (0 : Int).toNat = c
        · exact h6.symm
        · rw [if_neg h6] at h5
          cases h5
      subst this
      exact Ors_zero _
/-- The set flags, in a row. -/
theorem list_flags (P : Nat → Prop) (hP : ∀ c, P c → c < 256) (F : List Bool) (hF : IsF P F) : EvP (fun k => spec_ContentsOf.l0 k F [] ((0 : Nat) : Int)) (fun r => IsL P r.1 ∧ r.2 = 0) := by
  obtain ⟨n1, m1⟩ := hF
  refine EvP.up (fun k o j => spec_ContentsOf.l0 k F o j) _ 256 (fun j o => o.length ≤ j ∧ o.Pairwise (· < ·) ∧ ∀ x, x ∈ o ↔ ∃ c : Nat, x = c ∧ c < j ∧ P c) (fun o hI => ?_) (fun j o hj hI next => ?_) 0 [] (by omega) ⟨by simp, by simp, by simp⟩
  · refine EvP.round ?_
    simp only [spec_ContentsOf.l0]
    exact EvP.no (by omega) (EvP.ret ⟨⟨hI.2.1, fun x => (hI.2.2 x).trans ⟨fun ⟨c, h, _, h2⟩ => ⟨c, h, h2⟩, fun ⟨c, h, h2⟩ => ⟨c, h, hP c h2, h2⟩⟩⟩, rfl⟩)
  · obtain ⟨h1, h2, h3⟩ := hI
    refine EvP.round ?_
    simp only [spec_ContentsOf.l0]
    rw [rdF, w64s (by omega)]
    refine EvP.yes (by omega) (EvP.yes (by omega) (EvP.yes (by omega) ?_))
    by_cases hb : F.getD j false = true
    · refine EvP.yes hb (EvP.yes (by omega) (next _ ⟨by rw [List.length_append]; simp; omega, List.pairwise_append.2 ⟨h2, by simp, fun a ha b hb' => ?_⟩, fun x => ?_⟩))
      · obtain ⟨c, rfl, hc, _⟩ := (h3 a).1 ha
        have : b = (j : Int) := by simpa using hb'
        omega
      · rw [List.mem_append, h3]
        constructor
        · rintro (⟨c, e, hc, h⟩ | h)
          · exact ⟨c, e, by omega, h⟩
          · exact ⟨j, by simpa using h, by omega, (m1 j hj).1 hb⟩
        · rintro ⟨c, e, hc, h⟩
          rcases Nat.lt_or_ge c j with h4 | h4
          · exact .inl ⟨c, e, h4, h⟩
          · have : c = j := by omega
            subst this
            exact .inr (by simp [e])
    · refine EvP.no hb (next o ⟨by omega, h2, fun x => (h3 x).trans ⟨fun ⟨c, e, hc, h⟩ => ⟨c, e, by omega, h⟩, fun ⟨c, e, hc, h⟩ => ?_⟩⟩)
      rcases Nat.lt_or_ge c j with h4 | h4
      · exact ⟨c, e, h4, h⟩
      · have : c = j := by omega
        subst this
        exact absurd ((m1 c hj).2 h) hb
end Go.Proofs.YtcbcfkmeemenkaaDoor.U
end M0
section M1
namespace Go.Proofs.YtcbcfkmeemenkaaDoor.U
open Go.RowKit Go.Proofs.YtcbcfkmeemenkaaDoor.P Go.Proofs.YtcbcfkmeemenkaaDoorW.PrintWords Go.Proofs.YtcbcfkmeemenkaaDoorW.PrintLast Go.Proofs.YtcbcfkmeemenkaaDoorW.PrintMore
set_option linter.unusedVariables false
/-! A set of letters is connected: both tell it. -/
theorem alB_set {n : Int} {d : List Int} (h : alB n d = true) : 0 ≤ n ∧ n ≤ 8 ∧ (d.length : Int) = n ∧ Sets d := by
  unfold alB inI at h
  simp only [Bool.and_eq_true, decide_eq_true_eq] at h
  obtain ⟨⟨h0, h1⟩, h2, h3, _⟩ := h
  refine ⟨h0, h1, h2, sets_of (by omega) ?_⟩
  unfold inI
  exact h3
end Go.Proofs.YtcbcfkmeemenkaaDoor.U
end M1
section M2
namespace Go.Proofs.YtcbcfkmeemenkaaDoor.U
open Go.RowKit Go.Proofs.YtcbcfkmeemenkaaDoor.P Go.Proofs.YtcbcfkmeemenkaaDoorW.PrintWords Go.Proofs.YtcbcfkmeemenkaaDoorW.PrintLast Go.Proofs.YtcbcfkmeemenkaaDoorW.PrintMore
set_option linter.unusedVariables false
/-! Faults of stars. -/
/-- The contents, both ways. -/
theorem cont_both {n : Int} {t : Tr} (h8 : n ≤ 8) (ht : t.ok n) (hl : t.enc.length ≤ 24) : ∃ L, L.length ≤ 256 ∧ Ev (fun k => impl_contents.f k t.enc) L ∧ ∃ F, Ev (fun k => spec_l13Contents.f k t.enc 0) F ∧ Ev (fun k => spec_ContentsOf.l0 k F [] 0) (L, 0) := by
  obtain ⟨L, h1, h2⟩ := cont_impl h8 t ht hl
  obtain ⟨F, h3, h4⟩ := cont_spec h8 t.enc (by omega) t 0 [] ht (by simp)
  obtain ⟨r, h5, h6, h7⟩ := list_flags (Cn t) (fun c hc => Cn_lt h8 ht hc) F h4
  have e : r = (L, 0) := Prod.ext (h6.eq h2) h7
  exact ⟨L, (h2.small fun c hc => Cn_lt h8 ht hc).2, h1, F, h3, e ▸ h5⟩
end Go.Proofs.YtcbcfkmeemenkaaDoor.U
end M2
section M3
namespace Go.Proofs.YtcbcfkmeemenkaaDoor.U
open Go.RowKit Go.Proofs.YtcbcfkmeemenkaaDoor.P Go.Proofs.YtcbcfkmeemenkaaDoorW.PrintWords Go.Proofs.YtcbcfkmeemenkaaDoorW.PrintLast
set_option linter.unusedVariables false
/-! Marking a list with numbers, and finding the numbers again. -/
/-- a, a+1, .., n numbers. -/
def upL (a n : Nat) : List Int := (List.range n).map fun i => ((a + i : Nat) : Int)
theorem upL_length (a n : Nat) : (upL a n).length = n := by simp [upL]
theorem upL_get (a n i : Nat) (h : i < (upL a n).length) : (upL a n)[i] = ((a + i : Nat) : Int) := by simp [upL]
theorem markS (l : List Int) (a : Nat) (ha : a + l.length ≤ 1152921504606846976) : Ev (fun k => laws_markInt64S.f k l (a : Int)) (((a + l.length : Nat) : Int), upL a l.length) := by
  have key := Ev.up (fun k (s : List Int × Int) i => laws_markInt64S.l0 k s.1 s.2 i) l.length (fun _ _ => (((a + l.length : Nat) : Int), upL a l.length))
    (fun i s => s.2 = ((a + i : Nat) : Int) ∧ s.1.length = l.length ∧ ∀ j, j < i → s.1[j]? = some ((a + j : Nat) : Int))
    (fun s ⟨h1, h2, h3⟩ => by
      refine Ev.round ?_
      simp only [laws_markInt64S.l0]
      refine Ev.no (by omega) ?_
      have : s.1 = upL a l.length := List.ext_getElem? fun j => by
        by_cases hj : j < l.length
        · rw [h3 j hj, List.getElem?_eq_getElem (by rw [upL_length]; exact hj), upL_get]
        · rw [List.getElem?_eq_none (by omega), List.getElem?_eq_none (by rw [upL_length]; omega)]
      rw [this, h1]
      exact Ev.now _)
    (fun i s hi ⟨h1, h2, h3⟩ ih => by
      refine Ev.round ?_
      simp only [laws_markInt64S.l0]
      refine Ev.yes (by omega) (Ev.yes (by omega) ?_)
      rw [h1, w64s (by omega), w64s (by omega)]
      refine ih (s.1.set (i : Int).toNat ((a + i : Nat) : Int), ((a + i + 1 : Nat) : Int)) ⟨rfl, by simp [h2], fun j hj => ?_⟩
      rw [Int.toNat_natCast]
      by_cases e : j = i
      · subst e
        exact List.getElem?_set_self (by omega)
      · rw [List.getElem?_set_ne (by omega)]
        exact h3 j (by omega))
  have := key 0 (l, (a : Int)) (by omega) ⟨by simp, rfl, fun j hj => absurd hj (by omega)⟩
  unfold laws_markInt64S.f
  simpa using this
theorem heldS (n a : Nat) (ha : a + n ≤ 1152921504606846976) : Ev (fun k => laws_heldInt64S.f k (upL a n) (a : Int)) (((a + n : Nat) : Int)) := by
  have hl := upL_length a n
  have key := Ev.up (fun k (s : Int) i => laws_heldInt64S.l0 k (upL a n) s i) n (fun _ _ => (((a + n : Nat) : Int))) (fun i s => s = ((a + i : Nat) : Int))
    (fun s h1 => by
      refine Ev.round ?_
      simp only [laws_heldInt64S.l0]
      refine Ev.no (by omega) ?_
      rw [h1]
      exact Ev.now _)
    (fun i s hi h1 ih => by
      refine Ev.round ?_
      simp only [laws_heldInt64S.l0]
      refine Ev.yes (by omega) (Ev.yes (by omega) ?_)
      rw [rd_lt (by omega), upL_get, h1]
      refine Ev.yes rfl ?_
      rw [w64s (by omega), w64s (by omega)]
      exact ih _ rfl)
  have := key 0 (a : Int) (by omega) (by simp)
  unfold laws_heldInt64S.f
  simpa using this
theorem eqS' {a b : List Int} (h : a = b) (hn : a.length ≤ 9223372036854775806) : Ev (fun k => laws_eqInt64S.f k a b) true := by
  have := eqS a b hn
  rw [decide_eq_true h] at this
  exact this
theorem markAl (x : Int) (l : List Int) (hn : l.length ≤ 1048576) : Ev (fun k => laws_markAlphabet.f k x l 1) (((1 + l.length : Nat) : Int), upL 1 l.length) := by
  unfold laws_markAlphabet.f
  exact Ev.bind (markS l 1 (by omega)) (Ev.now _)
end Go.Proofs.YtcbcfkmeemenkaaDoor.U
end M3
section M4
namespace Go.Proofs.YtcbcfkmeemenkaaDoor.U
open Go.RowKit Go.Proofs.YtcbcfkmeemenkaaDoor.P Go.Proofs.YtcbcfkmeemenkaaDoorW.PrintWords Go.Proofs.YtcbcfkmeemenkaaDoorW.PrintLast Go.Proofs.YtcbcfkmeemenkaaDoorW.PrintMore
set_option linter.unusedVariables false
def upT (a n : Nat) : List TmT := (List.range n).map fun i => ⟨((a + 2 * i : Nat) : Int), ((a + 2 * i + 1 : Nat) : Int)⟩
theorem upT_length (a n : Nat) : (upT a n).length = n := by simp [upT]
theorem upT_get (a n i : Nat) (h : i < (upT a n).length) : (upT a n)[i] = ⟨((a + 2 * i : Nat) : Int), ((a + 2 * i + 1 : Nat) : Int)⟩ := by simp [upT]
theorem tD_at {e : List TmT} {i : Nat} (h : i < e.length) : tD e i = e[i] := by unfold tD; rw [List.getD_eq_getElem?_getD, List.getElem?_eq_getElem h]; rfl
theorem markT (l : List TmT) (a : Nat) (ha : a + 2 * l.length ≤ 1152921504606846976) : Ev (fun k => laws_markTermS.f k l (a : Int)) (((a + 2 * l.length : Nat) : Int), upT a l.length) := by
  have key := Ev.up (fun k (s : List TmT × Int) i => laws_markTermS.l0 k s.1 s.2 i) l.length (fun _ _ => (((a + 2 * l.length : Nat) : Int), upT a l.length))
    (fun i s => s.2 = ((a + 2 * i : Nat) : Int) ∧ s.1.length = l.length ∧ ∀ j, j < i → s.1[j]? = some (⟨((a + 2 * j : Nat) : Int), ((a + 2 * j + 1 : Nat) : Int)⟩ : TmT))
    (fun s ⟨h1, h2, h3⟩ => by
      refine Ev.round ?_
      simp only [laws_markTermS.l0]
      refine Ev.no (by omega) ?_
      have : s.1 = upT a l.length := List.ext_getElem? fun j => by
        by_cases hj : j < l.length
        · rw [h3 j hj, List.getElem?_eq_getElem (by rw [upT_length]; exact hj), upT_get]
        · rw [List.getElem?_eq_none (by omega), List.getElem?_eq_none (by rw [upT_length]; omega)]
      rw [this, h1]
      exact Ev.now _)
    (fun i s hi ⟨h1, h2, h3⟩ ih => by
      refine Ev.round ?_
      simp only [laws_markTermS.l0, Option.bind_some]
      refine Ev.yes (by omega) (Ev.yes (by omega) ?_)
      rw [h1, w64s (by omega), w64s (by omega), w64s (by omega)]
      have hx : i < (s.1.set (i : Int).toNat (⟨((a + 2 * i : Nat) : Int), (rd_T50 s.1 (i : Int)).f1⟩ : TmT)).length := by simp; omega
      have e0 : rd_T50 (s.1.set (i : Int).toNat (⟨((a + 2 * i : Nat) : Int), (rd_T50 s.1 (i : Int)).f1⟩ : TmT)) (i : Int) = (⟨((a + 2 * i : Nat) : Int), (rd_T50 s.1 (i : Int)).f1⟩ : TmT) := by
        rw [rdTm, tD_at hx]
        simp
      rw [e0]
      refine ih (_, ((a + 2 * i + 1 + 1 : Nat) : Int)) ⟨rfl, by simp [h2], fun j hj => ?_⟩
      rw [Int.toNat_natCast]
      by_cases e : j = i
      · subst e
        exact List.getElem?_set_self (by simp; omega)
      · rw [List.getElem?_set_ne (by omega), List.getElem?_set_ne (by omega)]
        exact h3 j (by omega))
  have := key 0 (l, (a : Int)) (by omega) ⟨by simp, rfl, fun j hj => absurd hj (by omega)⟩
  unfold laws_markTermS.f
  simpa using this
end Go.Proofs.YtcbcfkmeemenkaaDoor.U
end M4
section M5
namespace Go.Proofs.YtcbcfkmeemenkaaDoor.Pure
open Go.RowKit Go.Proofs.YtcbcfkmeemenkaaDoor.P Go.Proofs.YtcbcfkmeemenkaaDoor.U Go.Proofs.YtcbcfkmeemenkaaDoorW.PrintWords Go.Proofs.YtcbcfkmeemenkaaDoorW.PrintLast Go.Proofs.YtcbcfkmeemenkaaDoorW.PrintMore
set_option linter.unusedVariables false
theorem contentsOf_both (n : Int) (d : List Int) (e : List TmT) (he : e.length ≤ 1048576) : ∃ r, r.1.length ≤ 256 ∧ Ev (fun k => spec_ContentsOf.f k n d e) r ∧ Ev (fun k => impl_ContentsOf.f k n d e) r := by
  obtain ⟨b, h1, h2, h3⟩ := isExpr_ev' n d e he
  cases b with
  | false =>
    refine ⟨([], 1), by simp, ?_, ?_⟩
    · unfold spec_ContentsOf.f; exact Ev.bind h1 (Ev.no (by simp) (Ev.now _))
    · unfold impl_ContentsOf.f; exact Ev.bind h2 (Ev.no (by simp) (Ev.now _))
  | true =>
    obtain ⟨ha, l1, l2, hok, hE⟩ := h3 rfl
    obtain ⟨h0, h8, _, _⟩ := alB_set ha
    obtain ⟨t, ht, rfl⟩ := isExpr_tree (d := d) ⟨h0, h8⟩ l2 hok hE
    obtain ⟨L, hL, hi, F, hF, hs⟩ := cont_both h8 ht l2
    refine ⟨(L, 0), hL, ?_, ?_⟩
    · unfold spec_ContentsOf.f
      exact Ev.bind h1 (Ev.yes rfl (Ev.bind hF hs))
    · unfold impl_ContentsOf.f
      exact Ev.bind h2 (Ev.yes rfl (Ev.bind hi (Ev.now _)))
theorem FnExactContentsOf : ∀ (a0_0 : Int) (l0_1 : List Int) (l1 : List (TmL)), ((Lit.int .i64 a0_0).wf = true) → (l0_1.length ≤ maxLen ∧ ∀ x0 ∈ l0_1, (Lit.int .i64 x0).wf = true) → (l1.length ≤ maxLen ∧ ∀ x1 ∈ l1, okT52 x1) → ∃ k, laws_FnExactContentsOf.f k a0_0 l0_1 l1 = some true := by
  intro n d l _ hd hl
  apply Ev.rounds
  unfold laws_FnExactContentsOf.f
  refine Ev.here (szAl n d hd.1) ?_
  rcases Nat.lt_or_ge 1048576 d.length with h1 | h1
  · rw [if_neg (by omega)]; exact Ev.yes (by omega) (Ev.now _)
  rw [if_pos h1]
  refine Ev.no (by omega) (Ev.here (szTm_eq l _ hl.1 (by omega)) ?_)
  rcases Nat.lt_or_ge (1048576 - d.length) l.length with h2 | h2
  · rw [if_neg (by omega)]; exact Ev.yes (by omega) (Ev.now _)
  rw [if_pos h2]
  have hml : (l.map toTm).length = l.length := List.length_map _
  obtain ⟨⟨L, c⟩, hL, hb1, hb2⟩ := contentsOf_both n d (l.map toTm) (by omega)
  simp only at hL
  have eqI : ∀ (a : List Int), a.length ≤ 1048576 → Ev (fun k => laws_eqInt64S.f k a a) true := fun a ha => eqS' rfl (by omega)
  refine Ev.no (by omega) (Ev.bind (toAl n d (by omega)) (Ev.bind (toTmS l (by omega)) (Ev.bind hb1 (Ev.bind (toAl n d (by omega)) (Ev.bind (toTmS l (by omega)) (Ev.bind hb2 ?_))))))
  refine Ev.bind (eqI L (by omega)) (Ev.yes rfl (Ev.round ?_))
  simp only [laws_FnExactContentsOf.j0]
  refine Ev.no (by simp) (Ev.bind (toAl n d (by omega)) (Ev.bind (eqAl1 n d (by omega)) (Ev.yes rfl (Ev.bind (toTmS l (by omega)) (Ev.bind (eqTmS _ (by omega)) (Ev.yes rfl (Ev.bind (markAl n d h1) (Ev.bind (markT (l.map toTm) _ (by omega)) (Ev.no (by omega) (Ev.bind (eqI L (by omega)) (Ev.yes rfl (Ev.round ?_))))))))))))
  simp only [laws_FnExactContentsOf.j1]
  refine Ev.no (by simp) (Ev.bind (markS L 1 (by omega)) (Ev.bind (heldS L.length 1 (by omega)) (Ev.no (by omega) (Ev.yes rfl (Ev.bind (toAl n d (by omega)) (Ev.bind (toTmS l (by omega)) (Ev.bind hb2 (Ev.bind (eqI L (by omega)) (Ev.yes rfl (Ev.round ?_))))))))))
  simp only [laws_FnExactContentsOf.j2]
  exact Ev.no (by simp) (Ev.bind (heldS L.length 1 (by omega)) (Ev.no (by omega) (Ev.yes rfl (Ev.now _))))
end Go.Proofs.YtcbcfkmeemenkaaDoor.Pure
end M5
section M6
namespace Go.Proofs.YtcbcfkmeemenkaaDoor.fnExactContentsOf
open Go.ChangeShapes Go.WideShapes Go.ChangeAt Go.RowKit Go.Lib Go.Joins Go.Proofs.YtcbcfkmeemenkaaDoor.P Go.Proofs.YtcbcfkmeemenkaaDoor.Op Go.Proofs.YtcbcfkmeemenkaaDoor.Sh Go.Proofs.YtcbcfkmeemenkaaDoorW.PrintWords Go.Proofs.YtcbcfkmeemenkaaDoorW.PrintLast
open Go.ChangeMaps (open_string shut_string)
set_option linter.unusedVariables false
set_option linter.unusedSimpArgs false
theorem own : ownKnob Tryd.prog.godebug = none := by kernel_rfl
theorem laidOut : laidOutB Tryd.prog = true := by kernel_rfl
theorem gTab : Tryd.prog.globalNamed "math/bits.deBruijn64tab" = some 0 := by kernel_rfl
theorem gTabType : (Tryd.prog.globals[0]?).map (·.type) = some 100 := by kernel_rfl
theorem cellsT : Tryd.prog.cellsOf 100 = 64 := by kernel_rfl
theorem cellsE : Tryd.prog.cellsOf 5 = 1 := by kernel_rfl
def tabL : List Int := [0, 1, 56, 2, 57, 49, 28, 3, 61, 58, 42, 50, 38, 29, 17, 4, 62, 47, 59, 36, 45, 43, 51, 22, 53, 39, 33, 30, 24, 18, 12, 5, 63, 55, 48, 27, 60, 41, 37, 16, 46, 35, 44, 21, 52, 32, 23, 11, 54, 26, 40, 15, 34, 20, 31, 10, 25, 14, 19, 9, 13, 8, 7, 6]
theorem tabL_eq : tabL = Lib.deBruijn64tab.map (fun (n : Nat) => (n : Int)) := rfl
theorem table {W : World} (h : laidMetH Tryd.prog Rows.fnExactContentsOfRow.laid W) : Lib.TabIs Tryd.prog W "math/bits.deBruijn64tab" .u8 tabL :=
  Lib.tabIs_of_head (rest := []) gTab gTabType Tryd.underlying100 Tryd.underlying5 cellsE cellsT h
theorem tab {W : World} (h : laidMetH Tryd.prog Rows.fnExactContentsOfRow.laid W) : Tab W := fun j hj => by
  have h1 := (table h).cell gTab j (by rw [tabL_eq, List.length_map]; exact hj)
  rw [h1, tabL_eq]
  congr 2
  simp only [List.getD_eq_getElem?_getD, List.getElem?_map, List.getElem?_eq_getElem hj, Option.map_some, Option.getD_some, List.getElem_map]
set_option maxRecDepth 100000 in
theorem contract (H : Type) (enc : TypeId × Value → H) (W : World) (base : Nat) (args : Array Value) (ds gs : List (DataW H)) (before : List MemPlace)
    (hval0 : ∀ (j : Nat) t v, Tryd.f3.params[j]? = some t → args[j]? = some v → Value.okWide Tryd.prog W .any base t v)
    (hW : DataW.Whole enc Tryd.prog Tryd.f3.params.toList Rows.fnExactContentsOfSpec.vars false W args.toList ds gs before) (hL : laidMetH Tryd.prog Rows.fnExactContentsOfRow.laid W) :
    Calls Tryd.prog 3 args W fun e W' => ∃ v, e = .returned v ∧ Rows.fnExactContentsOfSpec.post enc Tryd.prog Tryd.f3 false true false false W args v W' := by
  have hTab := tab hL
  clear hL
  have hval : ∀ (j : Nat) t v, Tryd.f3.params[j]? = some t → args[j]? = some v → Value.okWide Tryd.prog W .any base t v := hval0
  have hW' := hW
  obtain ⟨p, q, hA0, hV, rfl, hfz, hnd⟩ := hW
  have hA : DataW.TrodAll enc Tryd.prog W 0 (fun _ => true) true Tryd.f3.params.toList args.toList ds p := hA0
  rw [Tryd.params3] at hA hval
  obtain ⟨v0, vs0, d0, ds0, p0, q0, hargs, rfl, rfl, h0, r0⟩ := trodAll_cons hA
  obtain ⟨v1, vs1, d1, ds1, p1, q1, rfl, rfl, rfl, h1, r1⟩ := trodAll_cons r0
  obtain ⟨rfl, rfl, rfl⟩ := trodAll_nil r1
  obtain rfl : args = #[v0, v1] := by cases args; simp_all
  obtain ⟨rfl, rfl⟩ := trodVars_none hV
  have k0 := h0
  have lt0 : ∀ x ∈ p0, x.block < W.heap.size := by obtain ⟨m, hm⟩ := k0; exact DataW.trod_lt m _ _ _ hm
  obtain ⟨c00, c01, y00, y01, m0, rfl, _, _, t00, t01⟩ := open_agg2 Tryd.underlying24 (by kernel_rfl) (by kernel_rfl) (hval 0 24 v0 rfl rfl) h0
  obtain ⟨a0_0, e0_0, _, w0_0⟩ := DataW.trod_int Tryd.underlying2 t00
  obtain rfl : c00 = .int .i64 a0_0 := by simpa using e0_0
  obtain ⟨A0_1, c0_1, l0_1, rfl, hc0_1, hr0_1, w0_1⟩ := open_row t01 (opens_slice Tryd.underlying22 (by kernel_rfl) (opens_int Tryd.underlying2))
  have k1 := h1
  have lt1 : ∀ x ∈ p1, x.block < W.heap.size := by obtain ⟨m, hm⟩ := k1; exact DataW.trod_lt m _ _ _ hm
  obtain ⟨z1, len1, cap1, rfl⟩ := okWide_slice Tryd.underlying25 (hval 1 25 v1 rfl rfl)
  obtain ⟨f1, hf1⟩ := h1
  obtain ⟨A1, c1, l1, e1, hc1, hr1, w1⟩ := open_row hf1 (opens_slice Tryd.underlying25 (by kernel_rfl) opensT52)
  simp only [Value.slice.injEq] at e1
  obtain ⟨ea1, eb1, ec1⟩ := e1
  obtain rfl := ea1.symm
  subst eb1
  obtain rfl := ec1.symm
  clear hA0 hval0
  obtain ⟨k, hk⟩ := Pure.FnExactContentsOf a0_0 l0_1 l1 w0_0 w0_1 w1
  refine (laws_FnExactContentsOf.calls k a0_0 A0_1 c0_1 l0_1 A1 c1 l1 true W hr0_1 hc0_1 hr1 hc1 hk rfl hTab).mono fun e W' ⟨he, bel0⟩ => ?_
  have bel : Below W.heap.size W W' := bel0
  subst he
  exact ⟨_, rfl, _, _, _, [], _, [], hW', trodAll_mk1 (shut_bool Tryd.underlying4 _), (trodAll_cons_mk (Below.trod laidOut (by kernel_rfl) (of_decide_eq_true (by kernel_rfl)) k0 bel lt0) (trodAll_cons_mk (Below.trod laidOut (by kernel_rfl) (of_decide_eq_true (by kernel_rfl)) k1 bel lt1) trodAll_mk0)), rfl, bel.frame _, fun h => by cases h⟩
noncomputable def laidWorld (os : Os) : World :=
  { World.holding Tryd.prog os ⟨#[], #[], []⟩ with heap := (World.holding Tryd.prog os ⟨#[], #[], []⟩).heap.modify 0 fun
      | .cells _ t frozen => .cells #[.int .u8 0, .int .u8 1, .int .u8 56, .int .u8 2, .int .u8 57, .int .u8 49, .int .u8 28, .int .u8 3, .int .u8 61, .int .u8 58, .int .u8 42, .int .u8 50, .int .u8 38, .int .u8 29, .int .u8 17, .int .u8 4, .int .u8 62, .int .u8 47, .int .u8 59, .int .u8 36, .int .u8 45, .int .u8 43, .int .u8 51, .int .u8 22, .int .u8 53, .int .u8 39, .int .u8 33, .int .u8 30, .int .u8 24, .int .u8 18, .int .u8 12, .int .u8 5, .int .u8 63, .int .u8 55, .int .u8 48, .int .u8 27, .int .u8 60, .int .u8 41, .int .u8 37, .int .u8 16, .int .u8 46, .int .u8 35, .int .u8 44, .int .u8 21, .int .u8 52, .int .u8 32, .int .u8 23, .int .u8 11, .int .u8 54, .int .u8 26, .int .u8 40, .int .u8 15, .int .u8 34, .int .u8 20, .int .u8 31, .int .u8 10, .int .u8 25, .int .u8 14, .int .u8 19, .int .u8 9, .int .u8 13, .int .u8 8, .int .u8 7, .int .u8 6] t frozen
      | o => o }
theorem laid_met (os : Os) : laidMet Tryd.prog Rows.fnExactContentsOfRow.laid ((laidWorld os).forCall (fun _ _ => 0) ⟨#[], #[.agg #[.int .i64 0, .slice none 0 0], .slice none 0 0], []⟩).memory :=
  laidMet_of_run' 8 (by kernel_rfl) (by kernel_rfl)
theorem reads (os : Os) {H : Type} (enc : TypeId × Value → H) : ∃ places, DataW.whole enc Tryd.prog ((laidWorld os).forCall (fun _ _ => 0) ⟨#[], #[.agg #[.int .i64 0, .slice none 0 0], .slice none 0 0], []⟩).memory Tryd.f3.params.toList Rows.fnExactContentsOfSpec.vars false (#[.agg #[.int .i64 0, .slice none 0 0], .slice none 0 0] : Array Value).toList 8 = some ([.agg [.lit (.int .i64 0), .nil], .nil], [], places) :=
  ⟨[], by kernel_rfl⟩
set_option maxRecDepth 100000 in
theorem lifted (os : Os) (started : os.Started) (H : Type) (enc : TypeId × Value → H) (F : Stop.Interp) :
    ReturnsInHanded {} Tryd.checked os 3 .any ((OpenSpec.ofChange Rows.fnExactContentsOfSpec).preRow enc Tryd.prog Tryd.f3 Rows.fnExactContentsOfRow.domain false Rows.fnExactContentsOfRow.laid) (((OpenSpec.ofChange Rows.fnExactContentsOfSpec).at F).post enc Tryd.prog Tryd.f3 false true false false) := by
  obtain ⟨places, hx⟩ := reads os enc
  refine returnsInHanded_of_row (C := Tryd.checked) (s := OpenSpec.ofChange Rows.fnExactContentsOfSpec) own started (by kernel_rfl) Tryd.func3
    (witness_row_at (enc := enc) (C := Tryd.checked) false (laidWorld os) #[.agg #[.int .i64 0, .slice none 0 0], .slice none 0 0] rfl (by kernel_rfl) (by kernel_rfl) (by kernel_rfl)
      (OpenSpec.preRow_of_cond 8 hx (by kernel_rfl) (fun k hk => by cases hk) (by kernel_rfl) (laid_met os))) ?_
  intro W base args ds gs before hval hW _ _ _ hL _ _
  exact contract H enc W base args ds gs before hval hW hL
theorem said : Rows.FnExactContentsOfSaid :=
  OpenClaim.holds_of_cond 3 Tryd.f3 rfl rfl rfl rfl rfl rfl rfl ⟨rfl, rfl, rfl, rfl, rfl⟩ rfl rfl rfl rfl rfl (by kernel_rfl) Tryd.func3 (by kernel_rfl)
    (of_decide_eq_true (by kernel_rfl)) (by unfold Func.isWrapper; first | (rw [if_pos (by decide +kernel)]; kernel_rfl) | (rw [if_neg (by decide +kernel)]; exact ⟨rfl, rfl⟩))
    (fun os started H enc _ F => by rw [OpenClaim.pre_eq_preRow]; exact lifted os started H enc F)
theorem plain (f : FuncId) (fn : Func) (hf : Tryd.pinned.checked.prog.funcNamed "loop.example/g01094/laws.FnExactContentsOf" = some f) (hfn : Tryd.pinned.checked.prog.funcs[f]? = some fn) :
    false = Tryd.pinned.checked.prog.looks [] ∧ ∀ (j : Nat) t, fn.params[j]? = some t → Tryd.pinned.checked.prog.wantsStandIn t = false := by
  obtain rfl : f = 3 := Option.some.inj ((show Tryd.prog.funcNamed "loop.example/g01094/laws.FnExactContentsOf" = some 3 by kernel_rfl).symm.trans hf) |>.symm
  obtain rfl : fn = Tryd.f3 := (Option.some.inj (Tryd.func3.symm.trans hfn)).symm
  refine ⟨by kernel_rfl, fun j t ht => ?_⟩
  rw [Tryd.params3] at ht
  have hm := Array.mem_of_getElem? ht
  simp only [List.mem_toArray, List.mem_cons, List.not_mem_nil, or_false] at hm
  rcases hm with rfl | rfl
  · exact (show Tryd.prog.wantsStandIn 24 = false by kernel_rfl)
  · exact (show Tryd.prog.wantsStandIn 25 = false by kernel_rfl)
theorem card : Rows.FnExactContentsOfCardSaid :=
  Claim7.holds_tied_plain_at .later [] _ _ _ _ said (fun _ h => by cases h) (by kernel_rfl) (fun _ h => by cases h) fnExactContentsOf_row_tie rfl ⟨rfl, rfl⟩ (by kernel_rfl) rfl plain (by kernel_rfl)
#print axioms card
end Go.Proofs.YtcbcfkmeemenkaaDoor.fnExactContentsOf
namespace Go.Proofs.YtcbcfkmeemenkaaDoor
/-- The card, under a short name, for the claim. -/
theorem fnExactContentsOf_holds : Rows.FnExactContentsOfCardSaid := fnExactContentsOf.card
end Go.Proofs.YtcbcfkmeemenkaaDoor
end M6
