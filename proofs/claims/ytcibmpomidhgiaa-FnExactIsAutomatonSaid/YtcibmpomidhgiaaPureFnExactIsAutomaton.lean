/- For every automaton given as numbers and rows, the program's IsAutomaton answers what the reference's answers, and leaves its argument as it was. No condition. -/
import Derived.Test.YtcibmpomidhgiaaPx5
import Derived.Test.YtcibmpomidhgiaaPx6
import Derived.Test.YtcibmpomidhgiaaPx7
import Derived.Test.YtcibmpomidhgiaaA1
namespace Go.Proofs.Ytcibmpomidhgiaa.Pure
open Go.RowKit Go.Proofs.Ytcibmpomidhgiaa.P Go.Proofs.Ytcibmpomidhgiaa.U Go.Proofs.YtcibmpomidhgiaaW.PrintWords Go.Proofs.YtcibmpomidhgiaaW.PrintLast
theorem FnExactIsAutomaton : ∀ (a0_0 : Int) (a0_1 : Int) (a0_2 : Int) (l0_3 : List (List Int)), ((Lit.int .i64 a0_0).wf = true) → ((Lit.int .i64 a0_1).wf = true) → ((Lit.int .i64 a0_2).wf = true) → (l0_3.length ≤ maxLen ∧ ∀ x0 ∈ l0_3, x0.length ≤ maxLen ∧ ∀ x1 ∈ x0, (Lit.int .i64 x1).wf = true) → ∃ k, laws_FnExactIsAutomaton.f k a0_0 a0_1 a0_2 l0_3 = some true := by
  intro a b c l _ _ _ ⟨hn, hr⟩
  apply Ev.rounds
  unfold laws_FnExactIsAutomaton.f
  refine Ev.bind (szA a b c l hn (fun x hx => (hr x hx).1)) ?_
  by_cases h : sz2 l ≤ 1048576
  · rw [if_pos h]
    refine Ev.no (by omega) ?_
    have hl : l.length ≤ 1048576 := by unfold sz2 at h; omega
    refine Ev.bind (toA a b c l h) ?_
    refine Ev.bind (a := isAut a b c l) ?_ ?_
    · unfold spec_IsAutomaton.f
      exact Ev.bind (l11Is_ev a b c l (by omega)) (Ev.now _)
    refine Ev.bind (toA a b c l h) ?_
    refine Ev.here (show impl_IsAutomaton.f a b c l = some (isAut a b c l) from rfl) ?_
    refine Ev.no (by simp) ?_
    refine Ev.bind (toA a b c l h) ?_
    refine Ev.bind (eqA a b c l h) ?_
    exact Ev.yes rfl (Ev.now _)
  · rw [if_neg h]
    exact Ev.yes (by omega) (Ev.now _)
end Go.Proofs.Ytcibmpomidhgiaa.Pure
