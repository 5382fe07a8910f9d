/- For every alphabet and every list of terms, the program's IsStarConnected answers what the reference's answers and leaves its arguments as they were. No condition. -/
import Derived.ArgAppend
import Derived.Below
import Derived.BigQuiet
import Derived.ChangeOld
import Derived.ChangeSame
import Derived.ChangeShapes
import Derived.Deep.AppendLies
import Derived.Deep.CutBlock
import Derived.Deep.DeepCutAuto
import Derived.Deep.DeepHandedRow
import Derived.Deep.Draws
import Derived.Deep.LoopGhost
import Derived.Deep.OwnRows
import Derived.Deep.QuietTactic
import Derived.Deep.RegionHeld3
import Derived.Deep.Slices
import Derived.Deep.Strs
import Derived.KernelRfl
import Derived.Laws.BitsLemmas
import Derived.Laws.BytesArg
import Derived.Laws.IdiomCopy
import Derived.Laws.MakeOwn
import Derived.Laws.OwnMore
import Derived.Laws.Rows
import Derived.Laws.Slices
import Derived.Laws.StructEq
import Derived.Lib.AppendStr
import Derived.Lib.ConvBytes
import Derived.Lib.LaidTab
import Derived.Lib.SliceRun
import Derived.Lib.SmallJoins
import Derived.Maps.AppendAt
import Derived.OpenShut
import Derived.OrdersHeld
import Derived.OwnWalk
import Derived.ProofKit
import Derived.RowKit
import Derived.RowKit3
import Derived.Shelf.Abstract
import Derived.Shelf.SlicesG.CompactI
import Derived.Shelf.SortM.Plain
import Derived.Shelf.SortM.SortNone
import Derived.Shelf.Spec.TrailingZeros
import Derived.ShutString
import Derived.SizedLaws
import Derived.Sort.Grow
import Derived.Tactics
import Derived.Test.YtcbcfkmeemenkaaDoorCards
import Derived.Test.YtcbcfkmeemenkaaDoorChecked
import Derived.Test.YtcbcfkmeemenkaaDoorProg
import Derived.Test.YtcbcfkmeemenkaaDoorTie
import Derived.WalkKit
import Derived.WideLaws
import Derived.Test.YtcbcfkmeemenkaaDoorCFnExactIsStarConnected3
import Derived.Test.YtcbcfkmeemenkaaDoorCFnExactIsStarConnected4
import Derived.Test.YtcbcfkmeemenkaaDoorCFnExactIsStarConnected5
import Derived.Test.YtcbcfkmeemenkaaDoorCFnExactIsStarConnected7
import Derived.Test.YtcbcfkmeemenkaaDoorCFnExactIsStarConnected8
import Derived.Test.YtcbcfkmeemenkaaDoorCFnExactIsStarConnected9
import Derived.Test.YtcbcfkmeemenkaaDoorCFnExactIsStarConnected10
section M0
namespace Go.Proofs.YtcbcfkmeemenkaaDoor.U
open Go.RowKit Go.Proofs.YtcbcfkmeemenkaaDoor.P Go.Proofs.YtcbcfkmeemenkaaDoorW.PrintWords Go.Proofs.YtcbcfkmeemenkaaDoorW.PrintLast Go.Proofs.YtcbcfkmeemenkaaDoorW.PrintMore
set_option linter.unusedVariables false
/-! The contents of a tree, as the reference tells them: 256 flags. -/
/-- 256 flags that say what P holds of. -/
def IsF (P : Nat → Prop) (F : List Bool) : Prop := F.length = 256 ∧ ∀ c, c < 256 → (F.getD c false = true ↔ P c)
theorem getD_set (F : List Bool) (i c : Nat) (b : Bool) (hi : i < F.length) : (F.set i b).getD c false = if i = c then b else F.getD c false := by
  rw [List.getD_eq_getElem?_getD, List.getD_eq_getElem?_getD, List.getElem?_set]
  by_cases h : i = c
  · subst h
    simp [hi]
  · simp [h]
theorem repl : (List.replicate 256 false).length = 256 := List.length_replicate
theorem getD_rep (c : Nat) : (List.replicate 256 false).getD c false = false := by
  rw [List.getD_eq_getElem?_getD, List.getElem?_replicate]
  split <;> rfl
theorem rdF (F : List Bool) (c : Nat) : rdOf false F (c : Int) = F.getD c false := rfl
/-- One flag set. -/
theorem IsF.one {P : Nat → Prop} {i : Nat} (hi : i < 256) (h : ∀ c, P c ↔ c = i) : IsF P ((List.replicate 256 false).set i true) := by
  refine ⟨by rw [List.length_set, List.length_replicate], fun c hc => ?_⟩
  rw [getD_set _ _ _ _ (by rw [List.length_replicate]; exact hi), getD_rep, h]
  by_cases e : i = c
  · simp [e]
  · simp only [if_neg e, Bool.false_eq_true, false_iff]
    exact fun h => e h.symm
/-- The loop of a sum. -/
theorem sum_loop (e : List TmT) (i : Nat) (hi : i < e.length) (hk : (tD e i).f0 = 3) (P1 P2 : Nat → Prop) (F1 F2 : List Bool) (h1 : IsF P1 F1) (h2 : IsF P2 F2) :
    EvP (fun k => spec_l13Contents.l0 k e (i : Int) (List.replicate 256 false) F1 F2 ((0 : Nat) : Int)) (IsF fun c => P1 c ∨ P2 c) := by
  obtain ⟨n1, m1⟩ := h1
  obtain ⟨n2, m2⟩ := h2
  refine EvP.up (fun k o j => spec_l13Contents.l0 k e (i : Int) o F1 F2 j) _ 256 (fun j o => o.length = 256 ∧ ∀ c, c < 256 → (o.getD c false = true ↔ c < j ∧ (P1 c ∨ P2 c))) (fun o hI => ?_) (fun j o hj hI next => ?_) 0 _ (by omega) ?_
  · refine EvP.round ?_
    simp only [spec_l13Contents.l0]
    exact EvP.no (by omega) (EvP.ret ⟨hI.1, fun c hc => (hI.2 c hc).trans ⟨fun h => h.2, fun h => ⟨hc, h⟩⟩⟩)
  · obtain ⟨hn, hm⟩ := hI
    have step : ∀ b : Bool, (b = true ↔ P1 j ∨ P2 j) → ((o.set j b).length = 256 ∧ ∀ c, c < 256 → ((o.set j b).getD c false = true ↔ c < j + 1 ∧ (P1 c ∨ P2 c))) := by
      intro b hb
      refine ⟨by rw [List.length_set]; exact hn, fun c hc => ?_⟩
      rw [getD_set _ _ _ _ (by omega)]
      by_cases h : j = c
      · subst h
        simp [hb]
      · rw [if_neg h, hm c hc]
        constructor
        · exact fun h => ⟨by omega, h.2⟩
        · exact fun h => ⟨by omega, h.2⟩
    refine EvP.round ?_
    simp only [spec_l13Contents.l0]
    rw [rdTm, rdF, rdF, Int.toNat_natCast, w64s (by omega)]
    refine EvP.yes (by omega) (EvP.yes (by omega) (EvP.yes (by omega) (EvP.yes hk (EvP.yes (by omega) (EvP.yes (by omega) ?_)))))
    by_cases hb : F1.getD j false = true
    · exact EvP.yes hb (EvP.yes (by omega) (next _ (step true ⟨fun _ => .inl ((m1 j hj).1 hb), fun _ => rfl⟩)))
    · refine EvP.no hb (EvP.yes (by omega) (EvP.yes (by omega) (next _ (step _ ?_))))
      rw [m2 j hj]
      exact ⟨.inr, fun h => h.elim (fun h => absurd ((m1 j hj).2 h) hb) id⟩
  · exact ⟨List.length_replicate, fun c _ => by rw [getD_rep]; simp⟩
/-- The inner loop of a product. -/
theorem prodF_in (e : List TmT) (i : Nat) (P2 : Nat → Prop) (F1 F2 : List Bool) (h2 : IsF P2 F2) (n1 : F1.length = 256) (c : Nat) (hc : c < 256) (hF : F1.getD c false = true) (Q : List Bool → Prop) (o : List Bool) (ho : o.length = 256)
    (k0 : ∀ o', o'.length = 256 → (∀ d, d < 256 → (o'.getD d false = true ↔ o.getD d false = true ∨ ∃ b, b < 256 ∧ P2 b ∧ d = c ||| b)) → EvP (fun k => spec_l13Contents.l0 k e (i : Int) o' F1 F2 (wrap64 ((c : Int) + 1))) Q) :
    EvP (fun k => spec_l13Contents.l1 k e (i : Int) o F1 F2 (c : Int) ((0 : Nat) : Int)) Q := by
  obtain ⟨n2, m2⟩ := h2
  refine EvP.up (fun k o j => spec_l13Contents.l1 k e (i : Int) o F1 F2 (c : Int) j) Q 256 (fun j o' => o'.length = 256 ∧ ∀ d, d < 256 → (o'.getD d false = true ↔ o.getD d false = true ∨ ∃ b, b < j ∧ P2 b ∧ d = c ||| b)) (fun o' hI => ?_) (fun j o' hj hI next => ?_) 0 o (by omega) ⟨ho, fun d _ => ⟨.inl, fun h => h.elim id fun ⟨b, hb, _⟩ => by omega⟩⟩
  · refine EvP.round ?_
    simp only [spec_l13Contents.l1]
    exact EvP.no (by omega) (k0 o' hI.1 hI.2)
  · obtain ⟨hn, hm⟩ := hI
    have hor := or256 hc hj
    have step : ∀ b : Bool, (b = true ↔ o'.getD (c ||| j) false = true ∨ P2 j) → ((o'.set (c ||| j) b).length = 256 ∧ ∀ d, d < 256 → ((o'.set (c ||| j) b).getD d false = true ↔ o.getD d false = true ∨ ∃ b, b < j + 1 ∧ P2 b ∧ d = c ||| b)) := by
      intro b hb
      refine ⟨by rw [List.length_set]; exact hn, fun d hd => ?_⟩
      rw [getD_set _ _ _ _ (by omega)]
      by_cases h : c ||| j = d
      · subst h
        rw [if_pos rfl, hb, hm _ hd]
        constructor
        · rintro ((h | ⟨b, hb, h1, h2⟩) | h)
          · exact .inl h
          · exact .inr ⟨b, by omega, h1, h2⟩
          · exact .inr ⟨j, by omega, h, rfl⟩
        · rintro (h | ⟨b, hb, h1, h2⟩)
          · exact .inl (.inl h)
          · rcases Nat.lt_or_ge b j with h3 | h3
            · exact .inl (.inr ⟨b, h3, h1, h2⟩)
            · have : b = j := by omega
              subst this
              exact .inr h1
      · rw [if_neg h, hm d hd]
        constructor
        · rintro (h | ⟨b, hb, h1, h2⟩)
          · exact .inl h
          · exact .inr ⟨b, by omega, h1, h2⟩
        · rintro (h' | ⟨b, hb, h1, h2⟩)
          · exact .inl h'
          · rcases Nat.lt_or_ge b j with h3 | h3
            · exact .inr ⟨b, h3, h1, h2⟩
            · have : b = j := by omega
              subst this
              exact absurd h2.symm h
    refine EvP.round ?_
    simp only [spec_l13Contents.l1]
    rw [bor' hc hj, rdF, rdF, rdF, Int.toNat_natCast, w64s (by omega)]
    refine EvP.yes (by omega) (EvP.yes (by omega) (EvP.yes (by omega) (EvP.yes hF (EvP.yes (by omega) (EvP.yes (by omega) ?_)))))
    by_cases hb : o'.getD (c ||| j) false = true
    · exact EvP.yes hb (next _ (step true ⟨fun _ => .inl hb, fun _ => rfl⟩))
    · refine EvP.no hb (EvP.yes (by omega) (EvP.yes (by omega) (next _ (step _ ?_))))
      rw [m2 j hj]
      exact ⟨.inr, fun h => h.elim (fun h => absurd h hb) id⟩
theorem prodF_out (e : List TmT) (i : Nat) (hi : i < e.length) (hk : (tD e i).f0 = 4) (P1 P2 : Nat → Prop) (F1 F2 : List Bool) (h1 : IsF P1 F1) (h2 : IsF P2 F2) (hP1 : ∀ c, P1 c → c < 256) (hP2 : ∀ c, P2 c → c < 256) :
    EvP (fun k => spec_l13Contents.l0 k e (i : Int) (List.replicate 256 false) F1 F2 ((0 : Nat) : Int)) (IsF fun c => ∃ a b, P1 a ∧ P2 b ∧ c = a ||| b) := by
  obtain ⟨n1, m1⟩ := h1
  refine EvP.up (fun k o j => spec_l13Contents.l0 k e (i : Int) o F1 F2 j) _ 256 (fun j o => o.length = 256 ∧ ∀ c, c < 256 → (o.getD c false = true ↔ ∃ a b, a < j ∧ P1 a ∧ P2 b ∧ c = a ||| b)) (fun o hI => ?_) (fun j o hj hI next => ?_) 0 _ (by omega) ?_
  · refine EvP.round ?_
    simp only [spec_l13Contents.l0]
    exact EvP.no (by omega) (EvP.ret ⟨hI.1, fun c hc => (hI.2 c hc).trans ⟨fun ⟨a, b, _, h⟩ => ⟨a, b, h⟩, fun ⟨a, b, h⟩ => ⟨a, b, hP1 a h.1, h⟩⟩⟩)
  · obtain ⟨hn, hm⟩ := hI
    refine EvP.round ?_
    simp only [spec_l13Contents.l0]
    rw [rdTm]
    refine EvP.yes (by omega) (EvP.yes (by omega) (EvP.yes (by omega) (EvP.no (by omega) ?_)))
    by_cases hb : F1.getD j false = true
    · refine prodF_in e i P2 F1 F2 h2 n1 j hj hb _ o hn (fun o' hn' hm' => ?_)
      rw [w64s (by omega)]
      refine next o' ⟨hn', fun c hc => ?_⟩
      rw [hm' c hc, hm c hc]
      constructor
      · rintro (⟨a, b, h1, h2, h3, h4⟩ | ⟨b, hb1, h1, h2⟩)
        · exact ⟨a, b, by omega, h2, h3, h4⟩
        · exact ⟨j, b, by omega, (m1 j hj).1 hb, h1, h2⟩
      · rintro ⟨a, b, h1, h2, h3, h4⟩
        rcases Nat.lt_or_ge a j with h5 | h5
        · exact .inl ⟨a, b, h5, h2, h3, h4⟩
        · have : a = j := by omega
          subst this
          exact .inr ⟨b, hP2 b h3, h3, h4⟩
    · refine EvP.round ?_
      simp only [spec_l13Contents.l1]
      rw [rdF]
      refine EvP.yes (by omega) (EvP.yes (by omega) (EvP.yes (by omega) (EvP.no hb ?_)))
      rw [w64s (by omega)]
      refine next o ⟨hn, fun c hc => (hm c hc).trans ?_⟩
      constructor
      · rintro ⟨a, b, h1, h2⟩
        exact ⟨a, b, by omega, h2⟩
      · rintro ⟨a, b, h1, h2, h3⟩
        rcases Nat.lt_or_ge a j with h5 | h5
        · exact ⟨a, b, h5, h2, h3⟩
        · have : a = j := by omega
          subst this
          exact absurd ((m1 a hj).2 h2) hb
  · exact ⟨List.length_replicate, fun c _ => by rw [getD_rep]; simp⟩
/-- What is known of a star's flags. -/
structure StF (P : Nat → Prop) (o : List Bool) : Prop where
  len : o.length = 256
  zero : o.getD 0 false = true
  sub : ∀ c, c < 256 → o.getD c false = true → Ors P c
/-- What a round has done so far: it set a flag, or all is closed up to c. -/
def Rd (F : List Bool) (o0 : List Bool) (o : List Bool) (again : Bool) (cl : Prop) : Prop :=
  if again then falses o < falses o0 else o = o0 ∧ cl
theorem starF_in (P : Nat → Prop) (F : List Bool) (hF : IsF P F) (o0 : List Bool) (c : Nat) (hc : c < 256) (Q : List Bool → Prop)
    (k0 : ∀ o g, StF P o → Rd F o0 o g (∀ a, a < c + 1 → o.getD a false = true → ∀ b, b < 256 → F.getD b false = true → o.getD (a ||| b) false = true) → EvP (fun k => spec_l13Contents.l3 k o F g ((c + 1 : Nat) : Int)) Q) (o : List Bool) (g : Bool)
    (ho : StF P o) (hg : Rd F o0 o g (∀ a, a < c → o.getD a false = true → ∀ b, b < 256 → F.getD b false = true → o.getD (a ||| b) false = true)) :
    EvP (fun k => spec_l13Contents.l4 k o F g (c : Int) ((0 : Nat) : Int)) Q := by
  obtain ⟨nF, mF⟩ := hF
  refine EvP.up (fun k (s : List Bool × Bool) j => spec_l13Contents.l4 k s.1 F s.2 (c : Int) j) Q 256 (fun j s => StF P s.1 ∧ Rd F o0 s.1 s.2 ((∀ a, a < c → s.1.getD a false = true → ∀ b, b < 256 → F.getD b false = true → s.1.getD (a ||| b) false = true) ∧ ∀ b, b < j → F.getD b false = true → s.1.getD (c ||| b) false = true)) (fun s hI => ?_) (fun j s hj hI next => ?_) 0 (o, g) (by omega) ⟨ho, ?_⟩
  · obtain ⟨o, g⟩ := s
    obtain ⟨h1, h2⟩ := hI
    refine EvP.round ?_
    simp only [spec_l13Contents.l4]
    refine EvP.no (by omega) (EvP.round ?_)
    simp only [spec_l13Contents.j6]
    refine EvP.no (by decide) ?_
    rw [w64s (by omega)]
    refine k0 o g h1 ?_
    unfold Rd at h2 ⊢
    cases g
    · simp only [Bool.false_eq_true, if_false] at h2 ⊢
      refine ⟨h2.1, fun a ha hoa b hb hFb => ?_⟩
      rcases Nat.lt_or_ge a c with h | h
      · exact h2.2.1 a h hoa b hb hFb
      · have : a = c := by omega
        subst this
        exact h2.2.2 b hb hFb
    · simpa using h2
  · obtain ⟨o, g⟩ := s
    obtain ⟨h1, h2⟩ := hI
    have hn : o.length = 256 := h1.len
    have hor := or256 hc hj
    refine EvP.round ?_
    simp only [spec_l13Contents.l4]
    rw [rdF]
    refine EvP.yes (by omega) (EvP.yes (by omega) (EvP.yes (by omega) (EvP.round ?_)))
    simp only [spec_l13Contents.j6]
    rw [bor' hc hj, rdF, rdF, Int.toNat_natCast]
    by_cases hoc : o.getD c false = true
    · refine EvP.yes hoc (EvP.yes (by omega) (EvP.yes (by omega) ?_))
      rw [w64s (by omega)]
      by_cases hFj : F.getD j false = true
      · refine EvP.yes hFj (EvP.yes (by omega) (EvP.yes (by omega) ?_))
        by_cases hcj : o.getD (c ||| j) false = true
        · refine EvP.yes hcj (next (o, g) ⟨h1, ?_⟩)
          unfold Rd at h2 ⊢
          cases g
          · simp only [Bool.false_eq_true, if_false] at h2 ⊢
            refine ⟨h2.1, h2.2.1, fun b hb hFb => ?_⟩
            rcases Nat.lt_or_ge b j with h | h
            · exact h2.2.2 b h hFb
            · have : b = j := by omega
              subst this
              exact hcj
          · simpa using h2
        · refine EvP.no hcj (next (o.set (c ||| j) true, true) ⟨⟨by rw [List.length_set]; exact hn, ?_, fun d hd => ?_⟩, ?_⟩)
          · rw [getD_set _ _ _ _ (by omega), h1.zero]
            split <;> rfl
          · rw [getD_set _ _ _ _ (by omega)]
            by_cases h : c ||| j = d
            · intro _
              subst h
              rw [Nat.or_comm]
              exact Ors_cons ((mF j hj).1 hFj) (h1.sub c hc hoc)
            · rw [if_neg h]
              exact h1.sub d hd
          · have hlt : falses (o.set (c ||| j) true) < falses o := by
              have hi : c ||| j < o.length := by omega
              have := falses_set hi (by
                have h3 : ¬ o[c ||| j] = true := by
                  intro h4
                  exact hcj (by rw [List.getD_eq_getElem?_getD, List.getElem?_eq_getElem hi]; exact h4)
                simpa using h3)
              omega
            unfold Rd at h2 ⊢
            simp only [if_true]
            cases g
            · simp only [Bool.false_eq_true, if_false] at h2
              rw [← h2.1]
              exact hlt
            · simp only [if_true] at h2
              omega
      · refine EvP.no hFj (next (o, g) ⟨h1, ?_⟩)
        unfold Rd at h2 ⊢
        cases g
        · simp only [Bool.false_eq_true, if_false] at h2 ⊢
          refine ⟨h2.1, h2.2.1, fun b hb hFb => ?_⟩
          rcases Nat.lt_or_ge b j with h | h
          · exact h2.2.2 b h hFb
          · have : b = j := by omega
            subst this
            exact absurd hFb hFj
        · simpa using h2
    · refine EvP.no hoc ?_
      rw [w64s (by omega)]
      refine k0 o g h1 ?_
      unfold Rd at h2 ⊢
      cases g
      · simp only [Bool.false_eq_true, if_false] at h2 ⊢
        refine ⟨h2.1, fun a ha hoa b hb hFb => ?_⟩
        rcases Nat.lt_or_ge a c with h | h
        · exact h2.2.1 a h hoa b hb hFb
        · have : a = c := by omega
          subst this
          exact absurd hoa hoc
      · simpa using h2
  · unfold Rd at hg ⊢
    cases g
    · simp only [Bool.false_eq_true, if_false] at hg ⊢
      exact ⟨hg.1, hg.2, fun b hb => by omega⟩
    · simpa using hg
theorem starF_loop (P : Nat → Prop) (hP : ∀ c, P c → c < 256) (F : List Bool) (hF : IsF P F) : ∀ (m : Nat) (o : List Bool), falses o < m → StF P o → EvP (fun k => spec_l13Contents.l2 k o F true) (IsF (Ors P)) := by
  intro m
  induction m with
  | zero => intro o h; omega
  | succ m ih =>
    intro o hm ho
    refine EvP.round ?_
    simp only [spec_l13Contents.l2]
    refine EvP.yes trivial ?_
    refine EvP.up (fun k (s : List Bool × Bool) j => spec_l13Contents.l3 k s.1 F s.2 j) _ 256 (fun j s => StF P s.1 ∧ Rd F o s.1 s.2 (∀ a, a < j → s.1.getD a false = true → ∀ b, b < 256 → F.getD b false = true → s.1.getD (a ||| b) false = true)) (fun s hI => ?_) (fun j s hj hI next => ?_) 0 (o, false) (by omega) ⟨ho, ?_⟩
    · obtain ⟨o', g⟩ := s
      obtain ⟨h1, h2⟩ := hI
      refine EvP.round ?_
      simp only [spec_l13Contents.l3]
      refine EvP.no (by omega) ?_
      unfold Rd at h2
      cases g
      · simp only [Bool.false_eq_true, if_false] at h2
        refine EvP.round ?_
        simp only [spec_l13Contents.l2]
        refine EvP.no (by decide) (EvP.ret ⟨h1.len, fun c hc => ⟨h1.sub c hc, ?_⟩⟩)
        rintro ⟨l, hl, rfl⟩
        clear hc
        induction l with
        | nil => exact h1.zero
        | cons a l ihl =>
          have h3 := ihl (fun b hb => hl b (by simp [hb]))
          have h4 : l.foldr (fun a b => a ||| b) 0 < 256 := foldr256 fun b hb => hP b (hl b (by simp [hb]))
          have h5 := hP a (hl a (by simp))
          simp only [List.foldr_cons]
          rw [Nat.or_comm]
          exact h2.2 _ h4 h3 a h5 ((hF.2 a h5).2 (hl a (by simp)))
      · simp only [if_true] at h2
        exact ih o' (by omega) h1
    · obtain ⟨o', g⟩ := s
      obtain ⟨h1, h2⟩ := hI
      refine EvP.round ?_
      simp only [spec_l13Contents.l3]
      refine EvP.yes (by omega) ?_
      exact starF_in P F hF o j hj _ (fun o2 g2 hs hr => next (o2, g2) ⟨hs, hr⟩) o' g h1 h2
    · unfold Rd
      simp
theorem cont_spec {n : Int} (hn : n ≤ 8) (e : List TmT) (he : e.length ≤ 1048576) : ∀ (t : Tr) (i : Nat) (rest : List TmT), t.ok n → e.drop i = t.enc ++ rest → EvP (fun k => spec_l13Contents.f k e (i : Int)) (IsF (Cn t))
  | .nothing, i, rest, _, h => by
    obtain ⟨h1, h2, _⟩ := tD_drop h
    refine EvP.round ?_
    simp only [spec_l13Contents.f]
    rw [rdTm, h1]
    refine EvP.yes (by decide) (EvP.here rfl (EvP.yes (by omega) (EvP.yes (by omega) (EvP.no (by decide) (EvP.no (by decide) (EvP.no (by decide) (EvP.round ?_)))))))
    simp only [spec_l13Contents.j0]
    exact EvP.no (by decide) (EvP.no (by decide) (EvP.ret ⟨repl, fun c _ => by rw [getD_rep]; simp [Cn]⟩))
  | .empty, i, rest, _, h => by
    obtain ⟨h1, h2, _⟩ := tD_drop h
    refine EvP.round ?_
    simp only [spec_l13Contents.f]
    rw [rdTm, h1]
    refine EvP.yes (by decide) (EvP.here rfl (EvP.yes (by omega) (EvP.yes (by omega) (EvP.yes (by decide) (EvP.yes (by rw [repl]; decide) (EvP.ret (IsF.one (by decide) fun c => Iff.rfl)))))))
  | .letter a, i, rest, ho, h => by
    have ha : (a : Int) < n := ho
    obtain ⟨h1, h2, _⟩ := tD_drop h
    have hp : 2 ^ a < 256 := Nat.pow_lt_pow_right (n := 8) (by decide) (by omega)
    refine EvP.round ?_
    simp only [spec_l13Contents.f]
    rw [rdTm, h1]
    refine EvP.yes (by decide) (EvP.here rfl (EvP.yes (by omega) (EvP.yes (by omega) (EvP.no (by exact (by decide : ¬ (2 : Int) = 1)) (EvP.yes rfl (EvP.here (spOneI (by omega)) (EvP.yes (Int.natCast_nonneg _) (EvP.yes (by rw [repl]; omega) ?_))))))))
    rw [Int.toNat_natCast]
    exact EvP.ret (IsF.one hp fun c => Iff.rfl)
  | .sum x y, i, rest, ho, h => by
    simp only [Tr.enc, List.cons_append, List.append_assoc] at h
    obtain ⟨h1, h2, h3⟩ := tD_drop h
    have hx := cont_spec hn e he x (i + 1) _ ho.1 h3
    have hy := cont_spec hn e he y (i + 1 + x.enc.length) _ ho.2 (drop_skip h3)
    have hE := end_tree e he x (i + 1) _ h3
    refine EvP.round ?_
    simp only [spec_l13Contents.f]
    rw [rdTm, h1]
    refine EvP.yes (by decide) (EvP.here rfl (EvP.yes (by omega) (EvP.yes (by omega) (EvP.no (by decide) (EvP.no (by decide) (EvP.yes (by decide) (EvP.round ?_)))))))
    simp only [spec_l13Contents.j0]
    rw [w64s (by omega)]
    refine EvP.yes (by decide) (EvP.bindP hx fun F1 h4 => EvP.bind hE (EvP.bindP hy fun F2 h5 => ?_))
    exact sum_loop e i h2 (by rw [h1]) _ _ F1 F2 h4 h5
  | .prod x y, i, rest, ho, h => by
    simp only [Tr.enc, List.cons_append, List.append_assoc] at h
    obtain ⟨h1, h2, h3⟩ := tD_drop h
    have hx := cont_spec hn e he x (i + 1) _ ho.1 h3
    have hy := cont_spec hn e he y (i + 1 + x.enc.length) _ ho.2 (drop_skip h3)
    have hE := end_tree e he x (i + 1) _ h3
    refine EvP.round ?_
    simp only [spec_l13Contents.f]
    rw [rdTm, h1]
    refine EvP.yes (by decide) (EvP.here rfl (EvP.yes (by omega) (EvP.yes (by omega) (EvP.no (by decide) (EvP.no (by decide) (EvP.no (by decide) (EvP.round ?_)))))))
    simp only [spec_l13Contents.j0]
    rw [w64s (by omega)]
    refine EvP.yes (by decide) (EvP.bindP hx fun F1 h4 => EvP.bind hE (EvP.bindP hy fun F2 h5 => ?_))
    exact prodF_out e i h2 (by rw [h1]) _ _ F1 F2 h4 h5 (fun c hc => Cn_lt hn ho.1 hc) (fun c hc => Cn_lt hn ho.2 hc)
  | .star x, i, rest, ho, h => by
    simp only [Tr.enc, List.cons_append] at h
    obtain ⟨h1, h2, h3⟩ := tD_drop h
    have hx := cont_spec hn e he x (i + 1) _ ho h3
    refine EvP.round ?_
    simp only [spec_l13Contents.f]
    rw [rdTm, h1]
    refine EvP.yes (by decide) (EvP.here rfl (EvP.yes (by omega) (EvP.yes (by omega) (EvP.no (by decide) (EvP.no (by decide) (EvP.no (by decide) (EvP.round ?_)))))))
    simp only [spec_l13Contents.j0]
    rw [w64s (by omega)]
    refine EvP.no (by decide) (EvP.yes trivial (EvP.bindP hx fun F h4 => EvP.yes (by rw [repl]; decide) ?_))
    refine starF_loop (Cn x) (fun c hc => Cn_lt (t := x) hn ho hc) F h4 _ _ (Nat.lt_succ_self _) ⟨by rw [List.length_set]; exact repl, ?_, fun c hc => ?_⟩
    · rw [getD_set _ _ _ _ (by rw [repl]; decide)]; rfl
    · rw [getD_set _ _ _ _ (by rw [repl]; decide), getD_rep]
      intro h5
      have : c = 0 := by
        by_cases h6 : (0 : Int).toNat = c
        · exact h6.symm
        · rw [if_neg h6] at h5
          cases h5
      subst this
      exact Ors_zero _
end Go.Proofs.YtcbcfkmeemenkaaDoor.U
end M0
section M1
namespace Go.Proofs.YtcbcfkmeemenkaaDoor.U
open Go.RowKit Go.Proofs.YtcbcfkmeemenkaaDoor.P Go.Proofs.YtcbcfkmeemenkaaDoorW.PrintWords Go.Proofs.YtcbcfkmeemenkaaDoorW.PrintLast Go.Proofs.YtcbcfkmeemenkaaDoorW.PrintMore
set_option linter.unusedVariables false
/-! A set of letters is connected: both tell it. -/
/-- What is reached from r inside m. -/
inductive Rch (d : List Int) (m r : Nat) : Nat → Prop where
  | root : Rch d m r r
  | step {a b : Nat} : Rch d m r a → bt d a b = true → m.testBit b = true → Rch d m r b
/-- r is m's least member. -/
def Lst (m r : Nat) : Prop := m.testBit r = true ∧ ∀ j, j < r → m.testBit j = false
theorem Lst.uniq {m r r' : Nat} (h : Lst m r) (h' : Lst m r') : r = r' := by
  rcases Nat.lt_trichotomy r r' with h1 | h1 | h1
  · have := h'.2 r h1
    rw [h.1] at this
    cases this
  · exact h1
  · have := h.2 r' h1
    rw [h'.1] at this
    cases this
theorem ctz_Lst {m : Nat} (hm : m < 256) (h0 : m ≠ 0) : Lst m (Lib.ctz 64 m) ∧ impl_least.f (m : Int) = some ((Lib.ctz 64 m : Nat) : Int) := by
  obtain ⟨h1, _, _, h4⟩ := mem_step ⟨m, hm⟩ h0
  refine ⟨⟨(mem_memN hm).1 (by simp only at h4; rw [h4]; simp), fun j hj => ?_⟩, h1⟩
  cases h : m.testBit j with
  | false => rfl
  | true =>
    have hp : (memN m).Pairwise (· < ·) := List.Pairwise.filter _ List.pairwise_lt_range
    have hmem := (mem_memN hm).2 h
    simp only at h4
    rw [h4] at hp hmem
    rcases List.mem_cons.1 hmem with e | hmem
    · omega
    · have := (List.pairwise_cons.1 hp).1 j hmem
      omega
/-- A closed set inside what is reached, with the root in it, is what is reached. -/
theorem Rch_closed {d : List Int} {m r s : Nat} (hr : s.testBit r = true) (hc : ∀ a b, s.testBit a = true → bt d a b = true → m.testBit b = true → s.testBit b = true) {b : Nat} (h : Rch d m r b) : s.testBit b = true := by
  induction h with
  | root => exact hr
  | step _ h1 h2 ih => exact hc _ _ ih h1 h2
theorem Rch_in {d : List Int} {m r : Nat} (hr : m.testBit r = true) {b : Nat} (h : Rch d m r b) : m.testBit b = true := by
  cases h with
  | root => exact hr
  | step _ _ h2 => exact h2
/-- Both come to a set s that is what is reached from m's least member (or 0, if there is none). -/
def Comp (d : List Int) (m s : Nat) : Prop := (m = 0 ∧ s = 0) ∨ ∃ r, Lst m r ∧ ∀ b, s.testBit b = true ↔ Rch d m r b
theorem Comp.uniq {d : List Int} {m s s' : Nat} (h : Comp d m s) (h' : Comp d m s') : s = s' := by
  rcases h with ⟨h0, h1⟩ | ⟨r, hr, h⟩
  · rcases h' with ⟨_, h2⟩ | ⟨r, hr, _⟩
    · rw [h1, h2]
    · rw [h0] at hr
      have := hr.1
      simp at this
  · rcases h' with ⟨h0, _⟩ | ⟨r', hr', h'⟩
    · rw [h0] at hr
      have := hr.1
      simp at this
    · have e := hr.uniq hr'
      subst e
      apply Nat.eq_of_testBit_eq
      intro i
      have h3 := h i
      have h4 := h' i
      cases hs : s.testBit i <;> cases hs' : s'.testBit i <;> simp_all
theorem alB_set {n : Int} {d : List Int} (h : alB n d = true) : 0 ≤ n ∧ n ≤ 8 ∧ (d.length : Int) = n ∧ Sets d := by
  unfold alB inI at h
  simp only [Bool.and_eq_true, decide_eq_true_eq] at h
  obtain ⟨⟨h0, h1⟩, h2, h3, _⟩ := h
  refine ⟨h0, h1, h2, sets_of (by omega) ?_⟩
  unfold inI
  exact h3
/-- Symmetric rows. -/
def Sym (d : List Int) : Prop := ∀ a b, a < d.length → b < d.length → bt d a b = bt d b a
theorem alB_sym {n : Int} {d : List Int} (h : alB n d = true) : Sym d := by
  unfold alB at h
  have h1 : symB d = true := by
    simp only [Bool.and_eq_true] at h
    exact h.2.2.2
  exact fun a b ha hb => (of_decide_eq_true h1 a ha).2 b hb
/-- A row cut down to m. -/
theorem row_and {d : List Int} (h : Sets d) {a m : Nat} (ha : a < d.length) (hm : m < 256) : Go.bits .and .i64 (rd d (a : Int)) (m : Int) = (((d.getD a 0).toNat &&& m : Nat) : Int) := by
  rw [h.rdE ha, band (by have := h.small ha; omega) (by omega)]
/-- One round of the program's: the union of the rows of s's members. -/
theorem isc_in {d : List Int} (h : Sets d) {m s : Nat} (hm : m < 256) (n : Int) (Q : Bool → Prop) (T : List Int) (A : Nat → Prop) (hT : ∀ x ∈ T, ∃ a : Nat, x = a ∧ A a ∧ a < d.length) (hl : T.length ≤ 8) (s0 : Nat) (hs0 : s0 < 256)
    (k0 : ∀ s' : Nat, s' < 256 → (∀ b, s'.testBit b = true ↔ s0.testBit b = true ∨ ∃ a : Nat, (a : Int) ∈ T ∧ bt d a b = true ∧ m.testBit b = true) → EvP (fun k => if (s' : Int) = (s : Int) then some ((s : Int) == (m : Int)) else impl_isConnected.l0 k (m : Int) (s' : Int) n d) Q) :
    EvP (fun k => impl_isConnected.l1 k (m : Int) (s : Int) (s0 : Int) T (T.length : Int) ((0 : Nat) : Int) n d) Q := by
  refine EvP.up (fun k (x : Nat) i => impl_isConnected.l1 k (m : Int) (s : Int) (x : Int) T (T.length : Int) i n d) Q T.length (fun i x => x < 256 ∧ ∀ b, x.testBit b = true ↔ s0.testBit b = true ∨ ∃ a : Nat, (a : Int) ∈ T.take i ∧ bt d a b = true ∧ m.testBit b = true) (fun x hI => ?_) (fun i x hi hI next => ?_) 0 s0 (by omega) ⟨hs0, by simp⟩
  · refine EvP.round ?_
    simp only [impl_isConnected.l1]
    refine EvP.no (by omega) (k0 x hI.1 ?_)
    have := hI.2
    rwa [List.take_length] at this
  · obtain ⟨a, ea, _, ha⟩ := hT T[i] (List.getElem_mem hi)
    have hra : (d.getD a 0).toNat &&& m < 256 := Nat.lt_of_le_of_lt Nat.and_le_right hm
    refine EvP.round ?_
    simp only [impl_isConnected.l1]
    rw [rd_lt hi, ea, row_and h ha hm, bor' hI.1 hra, w64s (by omega)]
    refine EvP.yes (by omega) (EvP.yes (by omega) (EvP.yes (by omega) (EvP.yes (by omega) (EvP.yes (by omega) (next _ ⟨or256 hI.1 hra, fun b => ?_⟩)))))
    rw [Nat.testBit_or, Nat.testBit_and, Bool.or_eq_true, Bool.and_eq_true, hI.2 b, List.take_succ_eq_append_getElem hi, ea]
    constructor
    · rintro ((h1 | ⟨c, hc, h2⟩) | h1)
      · exact .inl h1
      · exact .inr ⟨c, List.mem_append_left _ hc, h2⟩
      · exact .inr ⟨a, List.mem_append_right _ (by simp), h1⟩
    · rintro (h1 | ⟨c, hc, h2⟩)
      · exact .inl (.inl h1)
      · rcases List.mem_append.1 hc with hc | hc
        · exact .inl (.inr ⟨c, hc, h2⟩)
        · have : (c : Int) = (a : Int) := by simpa using hc
          have : c = a := by omega
          subst this
          exact .inr h2
theorem isc_loop {d : List Int} (h : Sets d) {m r : Nat} (hm : m < 2 ^ d.length) (hr : Lst m r) (n : Int) : ∀ (q s : Nat), 256 - s ≤ q → s < 256 → s.testBit r = true → (∀ b, s.testBit b = true → Rch d m r b) →
    EvP (fun k => impl_isConnected.l0 k (m : Int) (s : Int) n d) (fun b => ∃ s', Comp d m s' ∧ b = decide (s' = m)) := by
  have hm8 : m < 256 := Nat.lt_of_lt_of_le hm (Nat.pow_le_pow_right (n := 2) (by decide) h.1)
  have hbit : ∀ b, m.testBit b = true → b < d.length := fun b hb => by
    rcases Nat.lt_or_ge b d.length with h1 | h1
    · exact h1
    · rw [Nat.testBit_lt_two_pow (Nat.lt_of_lt_of_le hm (Nat.pow_le_pow_right (by decide) h1))] at hb
      cases hb
  intro q
  induction q with
  | zero => intro s h1 h2; omega
  | succ q ih =>
    intro s hq hs hsr hsub
    refine EvP.round ?_
    simp only [impl_isConnected.l0]
    refine EvP.bind (members_ev hs) ?_
    have hml : ((memN s).map Int.ofNat).length ≤ 8 := by
      rw [List.length_map]
      exact Nat.le_trans (List.length_filter_le _ _) (by simp)
    refine isc_in h hm8 n _ _ (fun a => Rch d m r a) (fun x hx => ?_) hml s hs (fun s' hs' hb' => ?_)
    · obtain ⟨a, ha, rfl⟩ := List.mem_map.1 hx
      have h2 := hsub a ((mem_memN hs).1 ha)
      exact ⟨a, rfl, h2, hbit a (Rch_in hr.1 h2)⟩
    · have hmem : ∀ a : Nat, (a : Int) ∈ (memN s).map Int.ofNat ↔ s.testBit a = true := by
        intro a
        rw [List.mem_map, ← mem_memN hs]
        constructor
        · rintro ⟨c, hc, e⟩
          have : c = a := by have : (c : Int) = (a : Int) := e; omega
          exact this ▸ hc
        · exact fun hc => ⟨a, hc, rfl⟩
      by_cases e : s' = s
      · subst e
        refine EvP.yes rfl (EvP.ret ⟨s', .inr ⟨r, hr, fun b => ⟨hsub b, fun hb => ?_⟩⟩, ?_⟩)
        · exact Rch_closed hsr (fun a b ha h1 h2 => (hb' b).2 (.inr ⟨a, (hmem a).2 ha, h1, h2⟩)) hb
        · rw [show ((s' : Int) == (m : Int)) = decide ((s' : Int) = (m : Int)) from rfl]
          exact decide_eq_decide.2 (by omega)
      · refine EvP.no (by omega) ?_
        have hle : s ≤ s' := by
          have e2 : s' = s ||| s' := by
            apply Nat.eq_of_testBit_eq
            intro i
            rw [Nat.testBit_or]
            cases h1 : s.testBit i with
            | false => rfl
            | true => rw [(hb' i).2 (.inl h1)]; rfl
          rw [e2]
          exact Nat.left_le_or
        refine ih s' (by omega) hs' ((hb' r).2 (.inl hsr)) (fun b hb => ?_)
        rcases (hb' b).1 hb with h1 | ⟨a, ha, h1, h2⟩
        · exact hsub b h1
        · exact .step (hsub a ((hmem a).1 ha)) h1 h2
theorem isc_ev {d : List Int} (h : Sets d) {m : Nat} (hm : m < 2 ^ d.length) (n : Int) : EvP (fun k => impl_isConnected.f k n d (m : Int)) (fun b => ∃ s', Comp d m s' ∧ b = decide (s' = m)) := by
  have hm8 : m < 256 := Nat.lt_of_lt_of_le hm (Nat.pow_le_pow_right (n := 2) (by decide) h.1)
  unfold impl_isConnected.f
  by_cases h0 : m = 0
  · subst h0
    exact EvP.yes rfl (EvP.ret ⟨0, .inl ⟨rfl, rfl⟩, rfl⟩)
  · obtain ⟨hr, hl⟩ := ctz_Lst hm8 h0
    have hr8 : Lib.ctz 64 m < 8 := by
      rcases Nat.lt_or_ge (Lib.ctz 64 m) 8 with h1 | h1
      · exact h1
      · have := hr.1
        rw [Nat.testBit_lt_two_pow (Nat.lt_of_lt_of_le hm8 (show 2 ^ 8 ≤ 2 ^ _ from Nat.pow_le_pow_right (by decide) h1))] at this
        cases this
    refine EvP.no (by omega) (EvP.here hl (EvP.here (imOneI (by omega)) ?_))
    refine isc_loop h hm hr n 256 _ (Nat.sub_le _ _) (Nat.pow_lt_pow_right (n := 8) (by decide) hr8) (by rw [Nat.testBit_two_pow_self]) (fun b hb => ?_)
    have : Lib.ctz 64 m = b := by simpa [Nat.testBit_two_pow] using hb
    subst this
    exact .root
/-- One round of the reference's. -/
theorem spc_in {d : List Int} (h : Sets d) (hy : Sym d) {m r : Nat} (hm : m < 2 ^ d.length) (hr : m = 0 ∨ Lst m r) (s0 : Nat) (Q : Bool → Prop)
    (k0 : ∀ (s : Nat) (g : Bool), s < 256 → (m = 0 → s = 0) → (m ≠ 0 → s.testBit r = true) → (∀ b, s.testBit b = true → Rch d m r b) → (if g then s0 < s else s = s0 ∧ ∀ b, b < d.length → m.testBit b = true → s.testBit b = false → ∀ a, s.testBit a = true → bt d b a = false) →
      EvP (fun k => spec_l13Connected.l1 k (m : Int) (s : Int) g (d.length : Int) d) Q)
    (hs : s0 < 256) (h1 : m = 0 → s0 = 0) (h2 : m ≠ 0 → s0.testBit r = true) (h3 : ∀ b, s0.testBit b = true → Rch d m r b) :
    EvP (fun k => spec_l13Connected.l2 k (m : Int) (s0 : Int) false ((0 : Nat) : Int) (d.length : Int) d) Q := by
  have hm8 : m < 256 := Nat.lt_of_lt_of_le hm (Nat.pow_le_pow_right (n := 2) (by decide) h.1)
  have hl8 := h.1
  refine EvP.up (fun k (x : Nat × Bool) i => spec_l13Connected.l2 k (m : Int) (x.1 : Int) x.2 i (d.length : Int) d) Q d.length (fun i x => x.1 < 256 ∧ (m = 0 → x.1 = 0) ∧ (m ≠ 0 → x.1.testBit r = true) ∧ (∀ b, x.1.testBit b = true → Rch d m r b) ∧ (if x.2 then s0 < x.1 else x.1 = s0 ∧ ∀ b, b < i → m.testBit b = true → x.1.testBit b = false → ∀ a, x.1.testBit a = true → bt d b a = false)) (fun x hI => ?_) (fun i x hi hI next => ?_) 0 (s0, false) (by omega) ⟨hs, h1, h2, h3, by simp⟩
  · obtain ⟨s, g⟩ := x
    obtain ⟨a1, a2, a3, a4, a5⟩ := hI
    refine EvP.round ?_
    simp only [spec_l13Connected.l2]
    exact EvP.no (by omega) (k0 s g a1 a2 a3 a4 a5)
  · obtain ⟨s, g⟩ := x
    obtain ⟨a1, a2, a3, a4, a5⟩ := hI
    have same : (m.testBit i = true → s.testBit i = false → ∀ a, s.testBit a = true → bt d i a = false) → (if g then s0 < s else s = s0 ∧ ∀ b, b < i + 1 → m.testBit b = true → s.testBit b = false → ∀ a, s.testBit a = true → bt d b a = false) := by
      intro hc
      cases g
      · simp only [Bool.false_eq_true, if_false] at a5 ⊢
        refine ⟨a5.1, fun b hb => ?_⟩
        rcases Nat.lt_or_ge b i with h4 | h4
        · exact a5.2 b h4
        · have : b = i := by omega
          subst this
          exact hc
      · simpa using a5
    refine EvP.round ?_
    simp only [spec_l13Connected.l2]
    rw [w64s (by omega)]
    refine EvP.yes (by omega) (EvP.here (spBitI (by omega) (by omega)) ?_)
    by_cases b1 : m.testBit i = true
    · refine EvP.yes b1 (EvP.here (spBitI (by omega) (by omega)) ?_)
      by_cases b2 : s.testBit i = true
      · exact EvP.yes b2 (next (s, g) ⟨a1, a2, a3, a4, same fun _ h => absurd b2 (by rw [h]; simp)⟩)
      · refine EvP.no b2 (EvP.yes (by omega) (EvP.yes (by omega) ?_))
        rw [row_and h hi (by omega)]
        by_cases b3 : (d.getD i 0).toNat &&& s = 0
        · refine EvP.yes (by omega) (next (s, g) ⟨a1, a2, a3, a4, same fun _ _ a ha => ?_⟩)
          have h5 : ((d.getD i 0).toNat &&& s).testBit a = false := by rw [b3]; simp
          rw [Nat.testBit_and, ha, Bool.and_true] at h5
          exact h5
        · refine EvP.no (by omega) (EvP.here (spOneI (by omega)) ?_)
          have hp : 2 ^ i < 256 := Nat.pow_lt_pow_right (n := 8) (by decide) (by omega)
          rw [bor' a1 hp]
          have hm0 : m ≠ 0 := fun e => by rw [e] at b1; simp at b1
          obtain ⟨a, ha⟩ : ∃ a, ((d.getD i 0).toNat &&& s).testBit a = true := Nat.exists_testBit_of_ne_zero b3
          rw [Nat.testBit_and, Bool.and_eq_true] at ha
          have hal : a < d.length := by
            rcases Nat.lt_or_ge a d.length with h6 | h6
            · exact h6
            · have h7 := (h.2 i hi).2
              have h8 := ha.1
              rw [Nat.testBit_lt_two_pow (Nat.lt_of_lt_of_le h7 (Nat.pow_le_pow_right (by decide) h6))] at h8
              cases h8
          have hnew : Rch d m r i := .step (a4 a ha.2) (by rw [hy a i hal hi]; exact ha.1) b1
          have hlt : s < s ||| 2 ^ i := by
            have h6 : s ≤ s ||| 2 ^ i := Nat.left_le_or
            have h7 : s ≠ s ||| 2 ^ i := fun e => b2 (by rw [e, Nat.testBit_or, Nat.testBit_two_pow_self, Bool.or_true])
            omega
          refine next (s ||| 2 ^ i, true) ⟨or256 a1 hp, fun e => absurd e hm0, fun e => by rw [Nat.testBit_or, a3 e, Bool.true_or], fun b hb => ?_, ?_⟩
          · rw [Nat.testBit_or, Bool.or_eq_true] at hb
            rcases hb with hb | hb
            · exact a4 b hb
            · have : i = b := by simpa [Nat.testBit_two_pow] using hb
              exact this ▸ hnew
          · simp only [if_true]
            cases g
            · simp only [Bool.false_eq_true, if_false] at a5
              omega
            · simp only [if_true] at a5
              omega
    · exact EvP.no b1 (next (s, g) ⟨a1, a2, a3, a4, same fun h => absurd h b1⟩)
theorem spc_loop {d : List Int} (h : Sets d) (hy : Sym d) {m r : Nat} (hm : m < 2 ^ d.length) (hr : m = 0 ∨ Lst m r) : ∀ (q s : Nat), 256 - s ≤ q → s < 256 → (m = 0 → s = 0) → (m ≠ 0 → s.testBit r = true) → (∀ b, s.testBit b = true → Rch d m r b) →
    EvP (fun k => spec_l13Connected.l1 k (m : Int) (s : Int) true (d.length : Int) d) (fun b => ∃ s', Comp d m s' ∧ b = decide (s' = m)) := by
  intro q
  induction q with
  | zero => intro s h1 h2; omega
  | succ q ih =>
    intro s hq hs h1 h2 h3
    refine EvP.round ?_
    simp only [spec_l13Connected.l1]
    refine EvP.yes trivial (spc_in h hy hm hr s _ (fun s' g a1 a2 a3 a4 a5 => ?_) hs h1 h2 h3)
    cases g
    · simp only [Bool.false_eq_true, if_false] at a5
      obtain ⟨rfl, hc⟩ := a5
      refine EvP.round ?_
      simp only [spec_l13Connected.l1]
      refine EvP.no (by decide) (EvP.ret ⟨s', ?_, ?_⟩)
      · rcases Nat.eq_zero_or_pos m with h0 | h0
        · exact .inl ⟨h0, a2 h0⟩
        · have hr' : Lst m r := hr.resolve_left (by omega)
          refine .inr ⟨r, hr', fun b => ⟨a4 b, fun hb => Rch_closed (a3 (by omega)) (fun a c ha hac hmc => ?_) hb⟩⟩
          have hbit : ∀ b, m.testBit b = true → b < d.length := fun b hb => by
            rcases Nat.lt_or_ge b d.length with h1 | h1
            · exact h1
            · rw [Nat.testBit_lt_two_pow (Nat.lt_of_lt_of_le hm (Nat.pow_le_pow_right (by decide) h1))] at hb
              cases hb
          cases hsc : s'.testBit c with
          | true => rfl
          | false =>
            have h4 := hc c (hbit c hmc) hmc hsc a ha
            rw [hy a c (hbit a (Rch_in hr'.1 (a4 a ha))) (hbit c hmc), h4] at hac
            cases hac
      · rw [show ((s' : Int) == (m : Int)) = decide ((s' : Int) = (m : Int)) from rfl]
        exact decide_eq_decide.2 (by omega)
    · simp only [if_true] at a5
      exact ih s' (by omega) a1 a2 a3 a4
theorem spc_ev {d : List Int} (h : Sets d) (hy : Sym d) {m : Nat} (hm : m < 2 ^ d.length) : EvP (fun k => spec_l13Connected.f k (d.length : Int) d (m : Int)) (fun b => ∃ s', Comp d m s' ∧ b = decide (s' = m)) := by
  have hm8 : m < 256 := Nat.lt_of_lt_of_le hm (Nat.pow_le_pow_right (n := 2) (by decide) h.1)
  have hl8 := h.1
  unfold spec_l13Connected.f
  refine EvP.up (fun k (x : Unit) i => spec_l13Connected.l0 k (m : Int) 0 i (d.length : Int) d) _ d.length (fun i _ => ∀ j, j < i → m.testBit j = false) (fun _ hI => ?_) (fun i _ hi hI next => ?_) 0 () (by omega) (by intro j hj; omega)
  · have h0 : m = 0 := by
      apply Nat.eq_of_testBit_eq
      intro j
      rw [Nat.zero_testBit]
      rcases Nat.lt_or_ge j d.length with h1 | h1
      · exact hI j h1
      · exact Nat.testBit_lt_two_pow (Nat.lt_of_lt_of_le hm (Nat.pow_le_pow_right (by decide) h1))
    refine EvP.round ?_
    simp only [spec_l13Connected.l0]
    refine EvP.no (by omega) (EvP.round ?_)
    simp only [spec_l13Connected.j1]
    refine EvP.no (by decide) ?_
    exact spc_loop h hy (r := 0) hm (.inl h0) 256 0 (by omega) (by omega) (fun _ => rfl) (fun h => absurd h0 h) (by simp)
  · refine EvP.round ?_
    simp only [spec_l13Connected.l0]
    refine EvP.yes (by omega) (EvP.round ?_)
    simp only [spec_l13Connected.j1]
    rw [w64s (by omega)]
    refine EvP.yes (by decide) (EvP.here (spBitI (by omega) (by omega)) ?_)
    by_cases b1 : m.testBit i = true
    · refine EvP.yes b1 (EvP.here (spOneI (by omega)) ?_)
      have hp : 2 ^ i < 256 := Nat.pow_lt_pow_right (n := 8) (by decide) (by omega)
      have hp0 : 0 < 2 ^ i := Nat.pow_pos (by decide)
      have hr : Lst m i := ⟨b1, hI⟩
      have fin := spc_loop h hy hm (.inr hr) 256 (2 ^ i) (Nat.sub_le _ _) hp (fun e => by rw [e] at b1; simp at b1) (fun _ => Nat.testBit_two_pow_self) (fun b hb => by
        have : i = b := by simpa [Nat.testBit_two_pow] using hb
        subst this
        exact .root)
      refine EvP.round ?_
      simp only [spec_l13Connected.l0]
      by_cases hlt : i + 1 < d.length
      · refine EvP.yes (by omega) (EvP.round ?_)
        simp only [spec_l13Connected.j1]
        exact EvP.no (by rw [beq_iff_eq]; exact fun e => by have := Int.ofNat_inj.1 (e : ((2 ^ i : Nat) : Int) = ((0 : Nat) : Int)); omega) fin
      · refine EvP.no (by omega) (EvP.round ?_)
        simp only [spec_l13Connected.j1]
        exact EvP.no (by decide) fin
    · exact EvP.no b1 (next () (fun j hj => by
        rcases Nat.lt_or_ge j i with h1 | h1
        · exact hI j h1
        · have : j = i := by omega
          subst this
          simpa using b1))
/-- The same answer. -/
theorem conn_both {n : Int} {d : List Int} (h : alB n d = true) {m : Nat} (hm : m < 2 ^ d.length) : ∃ b, Ev (fun k => impl_isConnected.f k n d (m : Int)) b ∧ Ev (fun k => spec_l13Connected.f k n d (m : Int)) b := by
  obtain ⟨_, _, hn, hs⟩ := alB_set h
  obtain ⟨b, h1, s, hs1, e1⟩ := isc_ev hs hm n
  obtain ⟨b', h2, s', hs2, e2⟩ := spc_ev hs (alB_sym h) hm
  rw [hn] at h2
  rw [hs1.uniq hs2] at e1
  exact ⟨b, h1, by rw [e1, ← e2]; exact h2⟩
end Go.Proofs.YtcbcfkmeemenkaaDoor.U
end M1
section M2
namespace Go.Proofs.YtcbcfkmeemenkaaDoor.U
open Go.RowKit Go.Proofs.YtcbcfkmeemenkaaDoor.P Go.Proofs.YtcbcfkmeemenkaaDoorW.PrintWords Go.Proofs.YtcbcfkmeemenkaaDoorW.PrintLast Go.Proofs.YtcbcfkmeemenkaaDoorW.PrintMore
set_option linter.unusedVariables false
/-! Faults of stars. -/
/-- The parts, with something behind the tree. -/
theorem parts_more (t : Tr) (more e : List TmT) (hte : e = t.enc ++ more) (ht : e.length ≤ 24) : Ev (fun k => impl_parts.f k e) t.parts := by
  have hp := t.enc_pos
  have hel : t.enc.length ≤ e.length := by rw [hte, List.length_append]; omega
  have part : ∀ (x : Tr) (i : Nat) (rest : List TmT) (x3 : List (List TmT)) (j m : Nat) (R : List (List TmT)), e.drop i = x.enc ++ rest → j < m → m ≤ 2 → x3.length ≤ 2 →
      Ev (fun k => impl_parts.l0 k e (x3 ++ [x.enc]) ((i + x.enc.length : Nat) : Int) (m : Int) ((j + 1 : Nat) : Int)) R → Ev (fun k => impl_parts.l0 k e x3 (i : Int) (m : Int) (j : Int)) R := by
    intro x i rest x3 j m R h hj hm hx3 k
    have hlen : i + x.enc.length ≤ e.length := by
      have := congrArg List.length h
      rw [List.length_drop, List.length_append] at this
      have := x.enc_pos
      omega
    refine Ev.round ?_
    simp only [impl_parts.l0]
    refine Ev.yes (by omega) (parts_run e (by omega) x3 i m j R x i 0 rest h (by omega) ?_)
    refine Ev.round ?_
    simp only [impl_parts.l1]
    refine Ev.no (by omega) (Ev.yes (by omega) (Ev.yes (by omega) (Ev.yes (by omega) (Ev.yes (by omega) ?_))))
    rw [Int.toNat_natCast, Int.toNat_natCast, slice_eq h, w64s (by omega)]
    exact k
  have fin : ∀ (x3 : List (List TmT)) (i : Nat) (m : Nat), Ev (fun k => impl_parts.l0 k e x3 (i : Int) (m : Int) (m : Int)) x3 := by
    intro x3 i m
    refine Ev.round ?_
    simp only [impl_parts.l0]
    exact Ev.no (by omega) (Ev.now _)
  unfold impl_parts.f
  refine Ev.yes (by omega) ?_
  rw [show (0 : Int) = ((0 : Nat) : Int) from rfl, rdTm]
  subst hte
  cases t with
  | nothing => exact Ev.here (show impl_partsIn.f _ = some 0 from rfl) (fin [] 1 0)
  | empty => exact Ev.here (show impl_partsIn.f _ = some 0 from rfl) (fin [] 1 0)
  | letter a => exact Ev.here (show impl_partsIn.f _ = some 0 from rfl) (fin [] 1 0)
  | sum x y =>
    refine Ev.here (show impl_partsIn.f _ = some 2 from rfl) ?_
    have h1 : ((Tr.sum x y).enc ++ more).drop 1 = x.enc ++ (y.enc ++ more) := by simp [Tr.enc]
    have h2 := drop_skip h1
    exact part x 1 _ [] 0 2 _ h1 (by omega) (by omega) (by simp) (part y (1 + x.enc.length) more [x.enc] 1 2 _ h2 (by omega) (by omega) (by simp) (fin _ _ 2))
  | prod x y =>
    refine Ev.here (show impl_partsIn.f _ = some 2 from rfl) ?_
    have h1 : ((Tr.prod x y).enc ++ more).drop 1 = x.enc ++ (y.enc ++ more) := by simp [Tr.enc]
    have h2 := drop_skip h1
    exact part x 1 _ [] 0 2 _ h1 (by omega) (by omega) (by simp) (part y (1 + x.enc.length) more [x.enc] 1 2 _ h2 (by omega) (by omega) (by simp) (fin _ _ 2))
  | star x =>
    refine Ev.here (show impl_partsIn.f _ = some 1 from rfl) ?_
    have h1 : ((Tr.star x).enc ++ more).drop 1 = x.enc ++ more := by simp [Tr.enc]
    exact part x 1 more [] 0 1 _ h1 (by omega) (by omega) (by simp) (fin _ _ 1)
/-- At each place of a tree's text a tree begins. -/
theorem tree_at {n : Int} : ∀ (t : Tr), t.ok n → ∀ (i : Nat), i < t.enc.length → ∀ rest : List TmT, ∃ (u : Tr) (more : List TmT), u.ok n ∧ (t.enc ++ rest).drop i = u.enc ++ more
  | t, ho, 0, _, rest => ⟨t, rest, ho, rfl⟩
  | .nothing, _, i + 1, hi, _ | .empty, _, i + 1, hi, _ | .letter _, _, i + 1, hi, _ => by simp [Tr.enc] at hi
  | .sum x y, ho, i + 1, hi, rest | .prod x y, ho, i + 1, hi, rest => by
    simp only [Tr.enc, List.length_cons, List.length_append] at hi
    simp only [Tr.enc, List.cons_append, List.drop_succ_cons, List.append_assoc]
    rcases Nat.lt_or_ge i x.enc.length with h | h
    · exact tree_at x ho.1 i h _
    · obtain ⟨u, more, h1, h2⟩ := tree_at y ho.2 (i - x.enc.length) (by omega) rest
      refine ⟨u, more, h1, ?_⟩
      rw [List.drop_append, List.drop_eq_nil_of_le h, List.nil_append]
      exact h2
  | .star x, ho, i + 1, hi, rest => by
    simp only [Tr.enc, List.length_cons] at hi
    simp only [Tr.enc, List.cons_append, List.drop_succ_cons]
    exact tree_at x ho i (by omega) rest
/-- The letters of a content are the tree's. -/
theorem Cn_lt2 {N : Nat} {n : Int} (hn : n = N) : ∀ {t : Tr} {c : Nat}, t.ok n → Cn t c → c < 2 ^ N
  | .nothing, _, _, h => h.elim
  | .empty, _, _, h => by rw [show _ = 0 from h]; exact Nat.pow_pos (by decide)
  | .letter a, _, ho, h => by
    have ha : (a : Int) < n := ho
    rw [show _ = 2 ^ a from h]
    exact Nat.pow_lt_pow_right (by decide) (by omega)
  | .sum x y, _, ho, h => by
    rcases h with h | h
    · exact Cn_lt2 hn ho.1 h
    · exact Cn_lt2 hn ho.2 h
  | .prod x y, _, ho, h => by
    obtain ⟨a, b, h1, h2, rfl⟩ := h
    exact Nat.or_lt_two_pow (Cn_lt2 hn ho.1 h1) (Cn_lt2 hn ho.2 h2)
  | .star x, _, ho, h => by
    obtain ⟨l, h1, rfl⟩ := h
    have h2 : ∀ a ∈ l, a < 2 ^ N := fun a ha => Cn_lt2 hn (t := x) ho (h1 a ha)
    clear h1
    induction l with
    | nil => exact Nat.pow_pos (by decide)
    | cons a l ih => exact Nat.or_lt_two_pow (h2 a (by simp)) (ih fun b hb => h2 b (by simp [hb]))
/-- What the search for a fault answers: r is told by the first star with a bad content, and its least bad one. -/
def bad (P B : Nat → Prop) (r : Option Nat) : Prop := match r with
  | none => ∀ c, P c → ¬ B c
  | some c => P c ∧ B c ∧ ∀ c', c' < c → P c' → ¬ B c'
theorem bad.uniq {P B : Nat → Prop} {r r' : Option Nat} (h : bad P B r) (h' : bad P B r') : r = r' := by
  cases r with
  | none =>
    cases r' with
    | none => rfl
    | some c' => exact absurd h'.2.1 (h c' h'.1)
  | some c =>
    cases r' with
    | none => exact absurd h.2.1 (h' c h.1)
    | some c' =>
      rcases Nat.lt_trichotomy c c' with h1 | h1 | h1
      · exact absurd h.2.1 (h'.2.2 c h1 h.1)
      · rw [h1]
      · exact absurd h'.2.1 (h.2.2 c' h1 h'.1)
/-- A set that the program finds not connected. -/
def Disc (n : Int) (d : List Int) (c : Nat) : Prop := Ev (fun k => impl_isConnected.f k n d (c : Int)) false
theorem fault_in_I {n : Int} {d : List Int} (ha : alB n d = true) (P : Nat → Prop) (hP : ∀ c, P c → c < 2 ^ d.length) (x1 e : List TmT) (x6 x11 x12 : Int) (L : List Int) (hL : IsL P L) (Q : Int × Int → Prop)
    (k0 : bad P (Disc n d) none → EvP (fun k => impl_starFault.l0 k x1 e x11 (wrap64 (x12 + 1)) n d) Q) (k1 : ∀ c, bad P (Disc n d) (some c) → Q (x6, (c : Int))) :
    EvP (fun k => impl_starFault.l1 k x1 x6 e x11 x12 L (L.length : Int) ((0 : Nat) : Int) n d) Q := by
  have hd8 := (alB_set ha).2.2.2.1
  have hP8 : ∀ c, P c → c < 256 := fun c hc => Nat.lt_of_lt_of_le (hP c hc) (Nat.pow_le_pow_right (n := 2) (by decide) hd8)
  obtain ⟨hl1, hl2⟩ := hL.small hP8
  refine EvP.up (fun k (_ : Unit) i => impl_starFault.l1 k x1 x6 e x11 x12 L (L.length : Int) i n d) Q L.length (fun i _ => ∀ j (hj : j < L.length), j < i → ¬ Disc n d (L[j].toNat)) (fun _ hI => ?_) (fun i _ hi hI next => ?_) 0 () (by omega) (by intro j _ hj; omega)
  · refine EvP.round ?_
    simp only [impl_starFault.l1]
    refine EvP.no (by omega) (k0 fun c hc => ?_)
    obtain ⟨j, hj, e⟩ := List.mem_iff_getElem.1 ((hL.2 (c : Int)).2 ⟨c, rfl, hc⟩)
    have := hI j hj hj
    rw [e] at this
    exact this
  · obtain ⟨c, ec, hc⟩ := (hL.2 L[i]).1 (List.getElem_mem hi)
    obtain ⟨b, hb, _⟩ := conn_both ha (hP c hc)
    refine EvP.round ?_
    simp only [impl_starFault.l1]
    rw [rd_lt hi, ec, w64s (by omega)]
    refine EvP.yes (by omega) (EvP.yes (by omega) (EvP.yes (by omega) (EvP.bind hb ?_)))
    cases b with
    | true =>
      refine EvP.yes rfl (next () fun j hj hji => ?_)
      rcases Nat.lt_or_ge j i with h | h
      · exact hI j hj h
      · have : j = i := by omega
        subst this
        rw [ec]
        intro hD
        have := Ev.det hb hD
        cases this
    | false =>
      refine EvP.no (by decide) (EvP.ret (k1 c ⟨hc, hb, fun c' hc' hPc' hD => ?_⟩))
      obtain ⟨j, hj, ej⟩ := List.mem_iff_getElem.1 ((hL.2 (c' : Int)).2 ⟨c', rfl, hPc'⟩)
      have hji : j < i := by
        rcases Nat.lt_or_ge j i with h | h
        · exact h
        · rcases Nat.eq_or_lt_of_le h with h | h
          · subst h
            omega
          · have := List.pairwise_iff_getElem.1 hL.1 i j hi hj h
            omega
      have := hI j hj hji
      rw [ej] at this
      exact this hD
theorem fault_in_S {n : Int} {d : List Int} (ha : alB n d = true) (P : Nat → Prop) (hP : ∀ c, P c → c < 2 ^ d.length) (e : List TmT) (x6 : Int) (F : List Bool) (hF : IsF P F) (Q : Int × Int → Prop)
    (k0 : bad P (Disc n d) none → EvP (fun k => spec_l13Fault.l0 k e (wrap64 (x6 + 1)) n d) Q) (k1 : ∀ c, bad P (Disc n d) (some c) → Q (x6, (c : Int))) :
    EvP (fun k => spec_l13Fault.l1 k e x6 F ((0 : Nat) : Int) n d) Q := by
  have hd8 := (alB_set ha).2.2.2.1
  have hP8 : ∀ c, P c → c < 256 := fun c hc => Nat.lt_of_lt_of_le (hP c hc) (Nat.pow_le_pow_right (n := 2) (by decide) hd8)
  obtain ⟨n1, m1⟩ := hF
  refine EvP.up (fun k (_ : Unit) i => spec_l13Fault.l1 k e x6 F i n d) Q 256 (fun i _ => ∀ c, c < i → P c → ¬ Disc n d c) (fun _ hI => ?_) (fun i _ hi hI next => ?_) 0 () (by omega) (by intro j hj; omega)
  · refine EvP.round ?_
    simp only [spec_l13Fault.l1]
    exact EvP.no (by omega) (k0 fun c hc => hI c (hP8 c hc) hc)
  · refine EvP.round ?_
    simp only [spec_l13Fault.l1]
    rw [rdF, w64s (by omega)]
    refine EvP.yes (by omega) (EvP.yes (by omega) (EvP.yes (by omega) ?_))
    by_cases hb : F.getD i false = true
    · have hPi := (m1 i hi).1 hb
      obtain ⟨b, hb1, hb2⟩ := conn_both ha (hP i hPi)
      refine EvP.yes hb (EvP.bind hb2 ?_)
      cases b with
      | true =>
        refine EvP.yes rfl (next () fun c hc hPc => ?_)
        rcases Nat.lt_or_ge c i with h | h
        · exact hI c h hPc
        · have : c = i := by omega
          subst this
          intro hD
          have := Ev.det hb1 hD
          cases this
      | false => exact EvP.no (by decide) (EvP.ret (k1 i ⟨hPi, hb1, hI⟩))
    · refine EvP.no hb (next () fun c hc hPc => ?_)
      rcases Nat.lt_or_ge c i with h | h
      · exact hI c h hPc
      · have : c = i := by omega
        subst this
        exact absurd ((m1 c hi).2 hPc) hb
/-- What lies at a place: a star's part, or no star. -/
theorem at_place {n : Int} {t : Tr} (ht : t.ok n) {i : Nat} (hi : i < t.enc.length) (hk : (tD t.enc i).f0 = 5) : ∃ (x : Tr) (more : List TmT), x.ok n ∧ t.enc.drop i = (Tr.star x).enc ++ more := by
  obtain ⟨u, more, h1, h2⟩ := tree_at t ht i hi []
  rw [List.append_nil] at h2
  obtain ⟨y, l, h3, h4⟩ := u.enc_head more
  rw [h3] at h2
  obtain ⟨h5, _, _⟩ := tD_drop h2
  rw [h5, h4] at hk
  cases u with
  | star x => exact ⟨x, more, h1, by rw [h2, ← h3]⟩
  | nothing => simp [Tr.kind] at hk
  | empty => simp [Tr.kind] at hk
  | letter a => simp [Tr.kind] at hk
  | sum x y => simp [Tr.kind] at hk
  | prod x y => simp [Tr.kind] at hk
theorem faults {n : Int} {d : List Int} (ha : alB n d = true) {t : Tr} (ht : t.ok n) (hl : t.enc.length ≤ 24) : ∀ (q i : Nat), t.enc.length - i = q → i ≤ t.enc.length →
    ∃ r, Ev (fun k => impl_starFault.l0 k t.enc t.enc (t.enc.length : Int) (i : Int) n d) r ∧ Ev (fun k => spec_l13Fault.l0 k t.enc (i : Int) n d) r := by
  obtain ⟨h0, h8, hn, hs⟩ := alB_set ha
  intro q
  induction q with
  | zero =>
    intro i hq hi
    have : i = t.enc.length := by omega
    subst this
    refine ⟨(-1, 0), Ev.round ?_, Ev.round ?_⟩
    · simp only [impl_starFault.l0]
      exact Ev.no (by omega) (Ev.now _)
    · simp only [spec_l13Fault.l0]
      exact Ev.no (by omega) (Ev.now _)
  | succ q ih =>
    intro i hq hi
    have hlt : i < t.enc.length := by omega
    obtain ⟨r, hr1, hr2⟩ := ih (i + 1) (by omega) (by omega)
    by_cases hk : (tD t.enc i).f0 = 5
    · obtain ⟨x, more, hx, hd⟩ := at_place ht hlt hk
      have hP : ∀ c, Cn x c → c < 2 ^ d.length := fun c hc => Cn_lt2 (N := d.length) (by omega) hx hc
      have hxl : x.enc.length ≤ 24 := by
        have := congrArg List.length hd
        rw [List.length_drop, List.length_append] at this
        simp only [Tr.enc, List.length_cons] at this
        omega
      have hparts := parts_more (.star x) more (t.enc.drop i) hd (by rw [List.length_drop]; omega)
      have hd2 : t.enc.drop (i + 1) = x.enc ++ more := by
        have hd' : t.enc.drop i = ⟨5, 0⟩ :: (x.enc ++ more) := by rw [hd]; rfl
        exact (tD_drop hd').2.2
      have key : ∀ R : Int × Int, (bad (Cn x) (Disc n d) none → R = r) → (∀ c, bad (Cn x) (Disc n d) (some c) → ((i : Int), (c : Int)) = R) →
          Ev (fun k => impl_starFault.l0 k t.enc t.enc (t.enc.length : Int) (i : Int) n d) R ∧ Ev (fun k => spec_l13Fault.l0 k t.enc (i : Int) n d) R := by
        intro R k0 k1
        constructor
        · have hE : EvP (fun k => impl_starFault.l0 k t.enc t.enc (t.enc.length : Int) (i : Int) n d) (fun r => r = R) := by
            refine EvP.round ?_
            simp only [impl_starFault.l0]
            rw [rdTm, Int.toNat_natCast]
            refine EvP.yes (by omega) (EvP.yes (by omega) (EvP.yes (by omega) (EvP.yes hk (EvP.yes (by omega) (EvP.bind hparts (EvP.yes (by simp [Tr.parts]) (EvP.bindP (cont_impl h8 x hx hxl) fun L hL => ?_)))))))
            refine fault_in_I ha (Cn x) hP t.enc t.enc (i : Int) _ (i : Int) L hL _ (fun hb => ?_) (fun c hc => k1 c hc)
            rw [w64s (by omega)]
            exact EvP.of hr1 (k0 hb).symm
          obtain ⟨r', hr', e⟩ := hE
          exact e ▸ hr'
        · have hE : EvP (fun k => spec_l13Fault.l0 k t.enc (i : Int) n d) (fun r => r = R) := by
            refine EvP.round ?_
            simp only [spec_l13Fault.l0]
            rw [rdTm, w64s (by omega)]
            refine EvP.yes (by omega) (EvP.yes (by omega) (EvP.yes hk (EvP.bindP (cont_spec h8 t.enc (by omega) x (i + 1) more hx hd2) fun F hF => ?_)))
            refine fault_in_S ha (Cn x) hP t.enc (i : Int) F hF _ (fun hb => ?_) (fun c hc => k1 c hc)
            rw [w64s (by omega)]
            exact EvP.of hr2 (k0 hb).symm
          obtain ⟨r', hr', e⟩ := hE
          exact e ▸ hr'
      by_cases hc : ∃ c, bad (Cn x) (Disc n d) (some c)
      · obtain ⟨c, hc⟩ := hc
        refine ⟨((i : Int), (c : Int)), key _ (fun hb => by have := hb.uniq hc; cases this) (fun c' hc' => ?_)⟩
        have := hc'.uniq hc
        injection this with this
        rw [this]
      · exact ⟨r, key r (fun _ => rfl) (fun c hc' => absurd ⟨c, hc'⟩ hc)⟩
    · refine ⟨r, Ev.round ?_, Ev.round ?_⟩
      · simp only [impl_starFault.l0]
        rw [rdTm, w64s (by omega)]
        exact Ev.yes (by omega) (Ev.yes (by omega) (Ev.yes (by omega) (Ev.no hk hr1)))
      · simp only [spec_l13Fault.l0]
        rw [rdTm, w64s (by omega)]
        exact Ev.yes (by omega) (Ev.yes (by omega) (Ev.no hk hr2))
theorem fault_both {n : Int} {d : List Int} (ha : alB n d = true) {t : Tr} (ht : t.ok n) (hl : t.enc.length ≤ 24) :
    ∃ r, Ev (fun k => impl_starFault.f k n d t.enc) r ∧ Ev (fun k => spec_l13Fault.f k n d t.enc) r := faults ha ht hl _ 0 rfl (by omega)
end Go.Proofs.YtcbcfkmeemenkaaDoor.U
end M2
section M3
namespace Go.Proofs.YtcbcfkmeemenkaaDoor.Pure
open Go.RowKit Go.Proofs.YtcbcfkmeemenkaaDoor.P Go.Proofs.YtcbcfkmeemenkaaDoor.U Go.Proofs.YtcbcfkmeemenkaaDoorW.PrintWords Go.Proofs.YtcbcfkmeemenkaaDoorW.PrintLast Go.Proofs.YtcbcfkmeemenkaaDoorW.PrintMore
set_option linter.unusedVariables false
theorem law_both (n : Int) (d : List Int) (e : List TmT) (he : e.length ≤ 1048576) : ∃ r, Ev (fun k => spec_IsStarConnected.f k n d e) r ∧ Ev (fun k => impl_IsStarConnected.f k n d e) r := by
  obtain ⟨b, h1, h2, h3⟩ := isExpr_ev' n d e he
  cases b with
  | false =>
    refine ⟨(false, (1 : Int)), ?_, ?_⟩
    · unfold spec_IsStarConnected.f; exact Ev.bind h1 (Ev.no (by simp) (Ev.now _))
    · unfold impl_IsStarConnected.f; exact Ev.bind h2 (Ev.no (by simp) (Ev.now _))
  | true =>
    obtain ⟨ha, l1, l2, hok, hE⟩ := h3 rfl
    obtain ⟨h0, h8, _, _⟩ := alB_set ha
    obtain ⟨t, ht, rfl⟩ := isExpr_tree (d := d) ⟨h0, h8⟩ l2 hok hE
    obtain ⟨r, hi, hs⟩ := fault_both ha ht l2
    refine ⟨(decide (r.1 < 0), 0), ?_, ?_⟩
    · unfold spec_IsStarConnected.f
      exact Ev.bind h1 (Ev.yes rfl (Ev.bind hs (Ev.now _)))
    · unfold impl_IsStarConnected.f
      exact Ev.bind h2 (Ev.yes rfl (Ev.bind hi (Ev.now _)))
theorem FnExactIsStarConnected : ∀ (a0_0 : Int) (l0_1 : List Int) (l1 : List (TmL)), ((Lit.int .i64 a0_0).wf = true) → (l0_1.length ≤ maxLen ∧ ∀ x0 ∈ l0_1, (Lit.int .i64 x0).wf = true) → (l1.length ≤ maxLen ∧ ∀ x1 ∈ l1, okT52 x1) → ∃ k, laws_FnExactIsStarConnected.f k a0_0 l0_1 l1 = some true := by
  intro n d l _ hd hl
  apply Ev.rounds
  unfold laws_FnExactIsStarConnected.f
  refine Ev.here (szAl n d hd.1) ?_
  rcases Nat.lt_or_ge 1048576 d.length with h1 | h1
  · rw [if_neg (by omega)]; exact Ev.yes (by omega) (Ev.now _)
  rw [if_pos h1]
  refine Ev.no (by omega) (Ev.here (szTm_eq l _ hl.1 (by omega)) ?_)
  rcases Nat.lt_or_ge (1048576 - d.length) l.length with h2 | h2
  · rw [if_neg (by omega)]; exact Ev.yes (by omega) (Ev.now _)
  rw [if_pos h2]
  have hml : (l.map toTm).length = l.length := List.length_map _
  obtain ⟨r, hb1, hb2⟩ := law_both n d (l.map toTm) (by omega)
  refine Ev.no (by omega) (Ev.bind (toAl n d (by omega)) (Ev.bind (toTmS l (by omega)) (Ev.bind hb1 (Ev.bind (toAl n d (by omega)) (Ev.bind (toTmS l (by omega)) (Ev.bind hb2 ?_))))))
  refine Ev.no (by simp) (Ev.round ?_)
  simp only [laws_FnExactIsStarConnected.j0]
  exact Ev.no (by simp) (Ev.bind (toAl n d (by omega)) (Ev.bind (eqAl1 n d (by omega)) (Ev.yes rfl (Ev.bind (toTmS l (by omega)) (Ev.bind (eqTmS _ (by omega)) (Ev.yes rfl (Ev.now _)))))))
end Go.Proofs.YtcbcfkmeemenkaaDoor.Pure
end M3
section M4
namespace Go.Proofs.YtcbcfkmeemenkaaDoor.fnExactIsStarConnected
open Go.ChangeShapes Go.WideShapes Go.ChangeAt Go.RowKit Go.Lib Go.Joins Go.Proofs.YtcbcfkmeemenkaaDoor.P Go.Proofs.YtcbcfkmeemenkaaDoor.Op Go.Proofs.YtcbcfkmeemenkaaDoor.Sh Go.Proofs.YtcbcfkmeemenkaaDoorW.PrintWords Go.Proofs.YtcbcfkmeemenkaaDoorW.PrintLast
open Go.ChangeMaps (open_string shut_string)
set_option linter.unusedVariables false
set_option linter.unusedSimpArgs false
theorem own : ownKnob Tryd.prog.godebug = none := by kernel_rfl
theorem laidOut : laidOutB Tryd.prog = true := by kernel_rfl
theorem gTab : Tryd.prog.globalNamed "math/bits.deBruijn64tab" = some 0 := by kernel_rfl
theorem gTabType : (Tryd.prog.globals[0]?).map (·.type) = some 100 := by kernel_rfl
theorem cellsT : Tryd.prog.cellsOf 100 = 64 := by kernel_rfl
theorem cellsE : Tryd.prog.cellsOf 5 = 1 := by kernel_rfl
def tabL : List Int := [0, 1, 56, 2, 57, 49, 28, 3, 61, 58, 42, 50, 38, 29, 17, 4, 62, 47, 59, 36, 45, 43, 51, 22, 53, 39, 33, 30, 24, 18, 12, 5, 63, 55, 48, 27, 60, 41, 37, 16, 46, 35, 44, 21, 52, 32, 23, 11, 54, 26, 40, 15, 34, 20, 31, 10, 25, 14, 19, 9, 13, 8, 7, 6]
theorem tabL_eq : tabL = Lib.deBruijn64tab.map (fun (n : Nat) => (n : Int)) := rfl
theorem table {W : World} (h : laidMetH Tryd.prog Rows.fnExactIsStarConnectedRow.laid W) : Lib.TabIs Tryd.prog W "math/bits.deBruijn64tab" .u8 tabL :=
  Lib.tabIs_of_head (rest := []) gTab gTabType Tryd.underlying100 Tryd.underlying5 cellsE cellsT h
theorem tab {W : World} (h : laidMetH Tryd.prog Rows.fnExactIsStarConnectedRow.laid W) : Tab W := fun j hj => by
  have h1 := (table h).cell gTab j (by rw [tabL_eq, List.length_map]; exact hj)
  rw [h1, tabL_eq]
  congr 2
  simp only [List.getD_eq_getElem?_getD, List.getElem?_map, List.getElem?_eq_getElem hj, Option.map_some, Option.getD_some, List.getElem_map]
set_option maxRecDepth 100000 in
theorem contract (H : Type) (enc : TypeId × Value → H) (W : World) (base : Nat) (args : Array Value) (ds gs : List (DataW H)) (before : List MemPlace)
    (hval0 : ∀ (j : Nat) t v, Tryd.f4.params[j]? = some t → args[j]? = some v → Value.okWide Tryd.prog W .any base t v)
    (hW : DataW.Whole enc Tryd.prog Tryd.f4.params.toList Rows.fnExactIsStarConnectedSpec.vars false W args.toList ds gs before) (hL : laidMetH Tryd.prog Rows.fnExactIsStarConnectedRow.laid W) :
    Calls Tryd.prog 4 args W fun e W' => ∃ v, e = .returned v ∧ Rows.fnExactIsStarConnectedSpec.post enc Tryd.prog Tryd.f4 false true false false W args v W' := by
  have hTab := tab hL
  clear hL
  have hval : ∀ (j : Nat) t v, Tryd.f4.params[j]? = some t → args[j]? = some v → Value.okWide Tryd.prog W .any base t v := hval0
  have hW' := hW
  obtain ⟨p, q, hA0, hV, rfl, hfz, hnd⟩ := hW
  have hA : DataW.TrodAll enc Tryd.prog W 0 (fun _ => true) true Tryd.f4.params.toList args.toList ds p := hA0
  rw [Tryd.params4] at hA hval
  obtain ⟨v0, vs0, d0, ds0, p0, q0, hargs, rfl, rfl, h0, r0⟩ := trodAll_cons hA
  obtain ⟨v1, vs1, d1, ds1, p1, q1, rfl, rfl, rfl, h1, r1⟩ := trodAll_cons r0
  obtain ⟨rfl, rfl, rfl⟩ := trodAll_nil r1
  obtain rfl : args = #[v0, v1] := by cases args; simp_all
  obtain ⟨rfl, rfl⟩ := trodVars_none hV
  have k0 := h0
  have lt0 : ∀ x ∈ p0, x.block < W.heap.size := by obtain ⟨m, hm⟩ := k0; exact DataW.trod_lt m _ _ _ hm
  obtain ⟨c00, c01, y00, y01, m0, rfl, _, _, t00, t01⟩ := open_agg2 Tryd.underlying24 (by kernel_rfl) (by kernel_rfl) (hval 0 24 v0 rfl rfl) h0
  obtain ⟨a0_0, e0_0, _, w0_0⟩ := DataW.trod_int Tryd.underlying2 t00
  obtain rfl : c00 = .int .i64 a0_0 := by simpa using e0_0
  obtain ⟨A0_1, c0_1, l0_1, rfl, hc0_1, hr0_1, w0_1⟩ := open_row t01 (opens_slice Tryd.underlying22 (by kernel_rfl) (opens_int Tryd.underlying2))
  have k1 := h1
  have lt1 : ∀ x ∈ p1, x.block < W.heap.size := by obtain ⟨m, hm⟩ := k1; exact DataW.trod_lt m _ _ _ hm
  obtain ⟨z1, len1, cap1, rfl⟩ := okWide_slice Tryd.underlying25 (hval 1 25 v1 rfl rfl)
  obtain ⟨f1, hf1⟩ := h1
  obtain ⟨A1, c1, l1, e1, hc1, hr1, w1⟩ := open_row hf1 (opens_slice Tryd.underlying25 (by kernel_rfl) opensT52)
  simp only [Value.slice.injEq] at e1
  obtain ⟨ea1, eb1, ec1⟩ := e1
  obtain rfl := ea1.symm
  subst eb1
  obtain rfl := ec1.symm
  clear hA0 hval0
  obtain ⟨k, hk⟩ := Pure.FnExactIsStarConnected a0_0 l0_1 l1 w0_0 w0_1 w1
  refine (laws_FnExactIsStarConnected.calls k a0_0 A0_1 c0_1 l0_1 A1 c1 l1 true W hr0_1 hc0_1 hr1 hc1 hk rfl hTab).mono fun e W' ⟨he, bel0⟩ => ?_
  have bel : Below W.heap.size W W' := bel0
  subst he
  exact ⟨_, rfl, _, _, _, [], _, [], hW', trodAll_mk1 (shut_bool Tryd.underlying4 _), (trodAll_cons_mk (Below.trod laidOut (by kernel_rfl) (of_decide_eq_true (by kernel_rfl)) k0 bel lt0) (trodAll_cons_mk (Below.trod laidOut (by kernel_rfl) (of_decide_eq_true (by kernel_rfl)) k1 bel lt1) trodAll_mk0)), rfl, bel.frame _, fun h => by cases h⟩
noncomputable def laidWorld (os : Os) : World :=
  { World.holding Tryd.prog os ⟨#[], #[], []⟩ with heap := (World.holding Tryd.prog os ⟨#[], #[], []⟩).heap.modify 0 fun
      | .cells _ t frozen => .cells #[.int .u8 0, .int .u8 1, .int .u8 56, .int .u8 2, .int .u8 57, .int .u8 49, .int .u8 28, .int .u8 3, .int .u8 61, .int .u8 58, .int .u8 42, .int .u8 50, .int .u8 38, .int .u8 29, .int .u8 17, .int .u8 4, .int .u8 62, .int .u8 47, .int .u8 59, .int .u8 36, .int .u8 45, .int .u8 43, .int .u8 51, .int .u8 22, .int .u8 53, .int .u8 39, .int .u8 33, .int .u8 30, .int .u8 24, .int .u8 18, .int .u8 12, .int .u8 5, .int .u8 63, .int .u8 55, .int .u8 48, .int .u8 27, .int .u8 60, .int .u8 41, .int .u8 37, .int .u8 16, .int .u8 46, .int .u8 35, .int .u8 44, .int .u8 21, .int .u8 52, .int .u8 32, .int .u8 23, .int .u8 11, .int .u8 54, .int .u8 26, .int .u8 40, .int .u8 15, .int .u8 34, .int .u8 20, .int .u8 31, .int .u8 10, .int .u8 25, .int .u8 14, .int .u8 19, .int .u8 9, .int .u8 13, .int .u8 8, .int .u8 7, .int .u8 6] t frozen
      | o => o }
theorem laid_met (os : Os) : laidMet Tryd.prog Rows.fnExactIsStarConnectedRow.laid ((laidWorld os).forCall (fun _ _ => 0) ⟨#[], #[.agg #[.int .i64 0, .slice none 0 0], .slice none 0 0], []⟩).memory :=
  laidMet_of_run' 8 (by kernel_rfl) (by kernel_rfl)
theorem reads (os : Os) {H : Type} (enc : TypeId × Value → H) : ∃ places, DataW.whole enc Tryd.prog ((laidWorld os).forCall (fun _ _ => 0) ⟨#[], #[.agg #[.int .i64 0, .slice none 0 0], .slice none 0 0], []⟩).memory Tryd.f4.params.toList Rows.fnExactIsStarConnectedSpec.vars false (#[.agg #[.int .i64 0, .slice none 0 0], .slice none 0 0] : Array Value).toList 8 = some ([.agg [.lit (.int .i64 0), .nil], .nil], [], places) :=
  ⟨[], by kernel_rfl⟩
set_option maxRecDepth 100000 in
theorem lifted (os : Os) (started : os.Started) (H : Type) (enc : TypeId × Value → H) (F : Stop.Interp) :
    ReturnsInHanded {} Tryd.checked os 4 .any ((OpenSpec.ofChange Rows.fnExactIsStarConnectedSpec).preRow enc Tryd.prog Tryd.f4 Rows.fnExactIsStarConnectedRow.domain false Rows.fnExactIsStarConnectedRow.laid) (((OpenSpec.ofChange Rows.fnExactIsStarConnectedSpec).at F).post enc Tryd.prog Tryd.f4 false true false false) := by
  obtain ⟨places, hx⟩ := reads os enc
  refine returnsInHanded_of_row (C := Tryd.checked) (s := OpenSpec.ofChange Rows.fnExactIsStarConnectedSpec) own started (by kernel_rfl) Tryd.func4
    (witness_row_at (enc := enc) (C := Tryd.checked) false (laidWorld os) #[.agg #[.int .i64 0, .slice none 0 0], .slice none 0 0] rfl (by kernel_rfl) (by kernel_rfl) (by kernel_rfl)
      (OpenSpec.preRow_of_cond 8 hx (by kernel_rfl) (fun k hk => by cases hk) (by kernel_rfl) (laid_met os))) ?_
  intro W base args ds gs before hval hW _ _ _ hL _ _
  exact contract H enc W base args ds gs before hval hW hL
theorem said : Rows.FnExactIsStarConnectedSaid :=
  OpenClaim.holds_of_cond 4 Tryd.f4 rfl rfl rfl rfl rfl rfl rfl ⟨rfl, rfl, rfl, rfl, rfl⟩ rfl rfl rfl rfl rfl (by kernel_rfl) Tryd.func4 (by kernel_rfl)
    (of_decide_eq_true (by kernel_rfl)) (by unfold Func.isWrapper; first | (rw [if_pos (by decide +kernel)]; kernel_rfl) | (rw [if_neg (by decide +kernel)]; exact ⟨rfl, rfl⟩))
    (fun os started H enc _ F => by rw [OpenClaim.pre_eq_preRow]; exact lifted os started H enc F)
theorem plain (f : FuncId) (fn : Func) (hf : Tryd.pinned.checked.prog.funcNamed "loop.example/g01094/laws.FnExactIsStarConnected" = some f) (hfn : Tryd.pinned.checked.prog.funcs[f]? = some fn) :
    false = Tryd.pinned.checked.prog.looks [] ∧ ∀ (j : Nat) t, fn.params[j]? = some t → Tryd.pinned.checked.prog.wantsStandIn t = false := by
  obtain rfl : f = 4 := Option.some.inj ((show Tryd.prog.funcNamed "loop.example/g01094/laws.FnExactIsStarConnected" = some 4 by kernel_rfl).symm.trans hf) |>.symm
  obtain rfl : fn = Tryd.f4 := (Option.some.inj (Tryd.func4.symm.trans hfn)).symm
  refine ⟨by kernel_rfl, fun j t ht => ?_⟩
  rw [Tryd.params4] at ht
  have hm := Array.mem_of_getElem? ht
  simp only [List.mem_toArray, List.mem_cons, List.not_mem_nil, or_false] at hm
  rcases hm with rfl | rfl
  · exact (show Tryd.prog.wantsStandIn 24 = false by kernel_rfl)
  · exact (show Tryd.prog.wantsStandIn 25 = false by kernel_rfl)
theorem card : Rows.FnExactIsStarConnectedCardSaid :=
  Claim7.holds_tied_plain_at .later [] _ _ _ _ said (fun _ h => by cases h) (by kernel_rfl) (fun _ h => by cases h) fnExactIsStarConnected_row_tie rfl ⟨rfl, rfl⟩ (by kernel_rfl) rfl plain (by kernel_rfl)
#print axioms card
end Go.Proofs.YtcbcfkmeemenkaaDoor.fnExactIsStarConnected
namespace Go.Proofs.YtcbcfkmeemenkaaDoor
/-- The card, under a short name, for the claim. -/
theorem fnExactIsStarConnected_holds : Rows.FnExactIsStarConnectedCardSaid := fnExactIsStarConnected.card
end Go.Proofs.YtcbcfkmeemenkaaDoor
end M4
