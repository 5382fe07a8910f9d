/- For every automaton given as numbers and rows, the program's PrefixAutomaton answers what the reference's answers, leaves its argument as it was and hands out rows of its own. No condition. -/
import Derived.ChangeOld
import Derived.ChangeSame
import Derived.Deep.Strs
import Derived.OpenShut
import Derived.ProofKit
import Derived.ShutString
import Derived.SizedLaws
import Derived.Test.YtgindgodfcfgkaaChecked
import Derived.Test.YtgindgodfcfgkaaRows
import Derived.Test.YtgindgodfcfgkaaCFnExactPrefixAutomaton15
import Derived.Test.YtgindgodfcfgkaaCFnExactPrefixAutomaton17
section M0
namespace Go.Proofs.Ytgindgodfcfgkaa.Pure
open Go.RowKit Go.Proofs.Ytgindgodfcfgkaa.P Go.Proofs.Ytgindgodfcfgkaa.U Go.Proofs.YtgindgodfcfgkaaW.PrintWords Go.Proofs.YtgindgodfcfgkaaW.PrintLast Go.Proofs.YtgindgodfcfgkaaW.PrintMore
set_option linter.unusedVariables false
theorem preAut_both (L S F : Int) (N : List (List Int)) (hN : N.length ≤ 1048576) : ∃ r, sz2 r.2.2.2.1 ≤ 1048576 ∧ Ev (fun k => Zca.f k L S F N) r ∧ Ev (fun k => Zbw.f k L S F N) r := by
  unfold Zca.f Zbw.f
  by_cases h : isAut L S F N = true
  · have ok := isAut_ok h
    have hn := ok.n16
    obtain ⟨qs, rows, us, qs', rows', g1, g2, g3, g4, g5, g6, g7⟩ := prefix_both h
    have hl := g1.facts.len
    refine ⟨(L, 0, maskQ qs', rows', 0), g6, Ev.bind (l11Is_ev L S F N (by omega)) (Ev.yes h (Ev.bind g3 ?_)), Ev.here (show Zct.f L S F N = some (isAut L S F N) from rfl) (Ev.yes h (Ev.bind (machineOf_ev L S F N (by omega)) (Ev.bind g4 (Ev.bind g5 (Ev.now _)))))⟩
    by_cases hm : maskQ qs = 0
    · rw [if_pos hm] at g7
      exact Ev.yes hm (Ev.bind g7 (Ev.now _))
    · rw [if_neg hm] at g7
      have hw : wrap64 (((2 ^ qs.length : Nat) : Int) - 1) = ((2 ^ qs.length - 1 : Nat) : Int) := by
        have h1 := Nat.pow_lt_pow_right (a := 2) (m := qs.length) (n := 63) (by decide) (by omega)
        have h2 : 0 < 2 ^ qs.length := Nat.pow_pos (by decide)
        unfold wrap64
        omega
      refine Ev.no hm (Ev.here (show Zbm.f L 0 (maskQ qs) rows = some ((qs.length : Nat) : Int) by unfold Zbm.f; rw [hl]) (Ev.here (spFull (by omega) (by omega)) ?_))
      rw [shl1 (by omega), hw]
      exact Ev.bind g7 (Ev.now _)
  · refine ⟨(0, 0, 0, [], 1), by simp [sz2], Ev.bind (l11Is_ev L S F N (by omega)) (Ev.no h (Ev.now _)), Ev.here (show Zct.f L S F N = some (isAut L S F N) from rfl) (Ev.no h (Ev.now _))⟩
theorem FnExactPrefixAutomaton : ∀ (b : Int) (c : Int) (d : Int) (a : List (List Int)), ((Lit.int .i64 b).wf = true) → ((Lit.int .i64 c).wf = true) → ((Lit.int .i64 d).wf = true) → (a.length ≤ maxLen ∧ ∀ x0 ∈ a, x0.length ≤ maxLen ∧ ∀ x1 ∈ x0, (Lit.int .i64 x1).wf = true) → ∃ k, Zar.f k b c d a = some true := by
  intro L S F N _ _ _ ⟨hn, hr⟩
  apply Ev.rounds
  unfold Zar.f
  refine Ev.bind (szA L S F N hn (fun x hx => (hr x hx).1)) ?_
  by_cases hz : sz2 N ≤ 1048576
  · rw [if_pos hz]
    have hl : N.length ≤ 1048576 := by unfold sz2 at hz; omega
    obtain ⟨⟨r1, r2, r3, r4, r5⟩, hrz, hs, hi⟩ := preAut_both L S F N hl
    replace hrz : sz2 r4 ≤ 1048576 := hrz
    have eq := eqA r1 r2 r3 r4 hrz
    refine Ev.no (by omega) (Ev.bind (toA L S F N hz) (Ev.bind hs (Ev.bind (toA L S F N hz) (Ev.bind hi (Ev.bind eq (Ev.yes rfl (Ev.round ?_)))))))
    simp only [Zar.j0]
    refine Ev.no (by simp) (Ev.bind (toA L S F N hz) (Ev.bind (eqA L S F N hz) (Ev.yes rfl (Ev.bind (markAut L S F N 1 (by omega) hz) (Ev.no (by show ¬ ((1 + tot N : Nat) : Int) < 0; omega) (Ev.bind eq (Ev.yes rfl (Ev.round ?_))))))))
    simp only [Zar.j1]
    refine Ev.no (by simp) (Ev.bind (markAut r1 r2 r3 r4 1 (by omega) hrz) (Ev.bind (heldAut r1 r2 r3 r4 hrz) (Ev.no (by omega) (Ev.yes rfl (Ev.bind (toA L S F N hz) (Ev.bind hi (Ev.bind eq (Ev.yes rfl (Ev.round ?_)))))))))
    simp only [Zar.j2]
    exact Ev.no (by simp) (Ev.bind (heldAut r1 r2 r3 r4 hrz) (Ev.no (by omega) (Ev.yes rfl (Ev.now _))))
  · rw [if_neg hz]
    exact Ev.yes (by omega) (Ev.now _)
end Go.Proofs.Ytgindgodfcfgkaa.Pure
end M0
section M1
namespace Go.Proofs.Ytgindgodfcfgkaa.fnExactPrefixAutomaton
open Go.ChangeShapes Go.WideShapes Go.ChangeAt Go.RowKit Go.Lib Go.Joins Go.Proofs.Ytgindgodfcfgkaa.P Go.Proofs.Ytgindgodfcfgkaa.Op Go.Proofs.Ytgindgodfcfgkaa.Sh Go.Proofs.YtgindgodfcfgkaaW.PrintWords Go.Proofs.YtgindgodfcfgkaaW.PrintLast
open Go.ChangeMaps (open_string shut_string)
set_option linter.unusedVariables false
set_option linter.unusedSimpArgs false
theorem own : ownKnob Try.prog.godebug = none := by kernel_rfl
theorem laidOut : laidOutB Try.prog = true := by kernel_rfl
set_option maxRecDepth 100000 in
theorem lifted (os : Os) (started : os.Started) (H : Type) (enc : TypeId × Value → H) :
    ReturnsInHanded {} Try.checked os 4 .any (Rows.fnExactPrefixAutomatonSpec.pre6 enc Try.prog Try.f4 Rows.fnExactPrefixAutomatonRow.domain false) (Rows.fnExactPrefixAutomatonSpec.post enc Try.prog Try.f4 false true false false) := by
  refine returnsInHanded_of_change_sized (C := Try.checked) own started (by kernel_rfl) Try.func4
    (ChangeSpec.witness6 (enc := enc) (C := Try.checked) false ⟨#[], #[.agg #[.int .i64 0, .int .i64 0, .int .i64 0, .slice none 0 0]], []⟩ 8 (by kernel_rfl) (by kernel_rfl) (by kernel_rfl) (by kernel_rfl)) ?_
  intro W base args ds gs before d hW hcnd o _
  have hval : ∀ (j : Nat) t v, Try.f4.params[j]? = some t → args[j]? = some v → Value.okWide Try.prog W .any base t v := d
  have hW' := hW
  obtain ⟨p, q, n, hV, rfl, hfz, hnd⟩ := hW
  have hA : DataW.TrodAll enc Try.prog W 0 (fun _ => true) true Try.f4.params.toList args.toList ds p := n
  rw [Try.params4] at hA hval
  obtain ⟨v0, T, d0, U, p0, q0, hargs, rfl, rfl, h0, r0⟩ := trodAll_cons hA
  obtain ⟨rfl, rfl, rfl⟩ := trodAll_nil r0
  obtain rfl : args = #[v0] := by cases args; simp_all
  obtain ⟨rfl, rfl⟩ := trodVars_none hV
  have k0 := h0
  have G : ∀ x ∈ p0, x.block < W.heap.size := by obtain ⟨m, hm⟩ := k0; exact DataW.trod_lt m _ _ _ hm
  obtain ⟨I, J, K, X, Y, aa, ab, ac, m0, rfl, _, _, L, M, O, P⟩ := open_agg4 Try.underlying24 (by kernel_rfl) (by kernel_rfl) (hval 0 24 v0 rfl rfl) h0
  obtain ⟨a, r, _, s⟩ := DataW.trod_int Try.underlying2 L
  obtain rfl : I = .int .i64 a := by simpa using r
  obtain ⟨b, u, _, w⟩ := DataW.trod_int Try.underlying2 M
  obtain rfl : J = .int .i64 b := by simpa using u
  obtain ⟨c, y, _, z⟩ := DataW.trod_int Try.underlying2 O
  obtain rfl : K = .int .i64 c := by simpa using y
  obtain ⟨A, B, g, rfl, i, l, D⟩ := open_row P (opens_slice Try.underlying22 (by kernel_rfl) (opens_slice Try.underlying33 (by kernel_rfl) (opens_int Try.underlying2)))
  clear n d o
  obtain ⟨k, hk⟩ := Pure.FnExactPrefixAutomaton a b c g s w z D
  refine (Zar.calls k a b c A B g true W l i hk rfl).mono fun e W' ⟨he, E⟩ => ?_
  have bel : Below W.heap.size W W' := E
  subst he
  exact ⟨_, rfl, _, _, _, [], _, [], hW', trodAll_mk1 (shut_bool Try.underlying4 _), (trodAll_cons_mk (Below.trod laidOut (by kernel_rfl) (of_decide_eq_true (by kernel_rfl)) k0 bel G) trodAll_mk0), rfl, bel.frame _, fun h => by cases h⟩
theorem over : Rows.fnExactPrefixAutomatonRow.holds Try.pinned (OpenSpec.ofChange Rows.fnExactPrefixAutomatonSpec) :=
  OpenClaim.holds_of_wide 4 Try.f4 rfl rfl rfl rfl rfl rfl rfl ⟨rfl, rfl, rfl, rfl, rfl⟩ rfl rfl rfl rfl rfl (by kernel_rfl) Try.func4 (by kernel_rfl)
    (of_decide_eq_true (by kernel_rfl)) (by unfold Func.isWrapper; first | (rw [if_pos (by decide +kernel)]; kernel_rfl) | (rw [if_neg (by decide +kernel)]; exact ⟨rfl, rfl⟩))
    (fun os started H enc _ => lifted os started H enc)
theorem proved : Rows.FnExactPrefixAutomatonSaid := over
#print axioms proved
end Go.Proofs.Ytgindgodfcfgkaa.fnExactPrefixAutomaton
namespace Go.Proofs.Ytgindgodfcfgkaa
/-- The row, under a short name, for the claim. -/
theorem fnExactPrefixAutomaton_holds : Rows.FnExactPrefixAutomatonSaid := fnExactPrefixAutomaton.proved
end Go.Proofs.Ytgindgodfcfgkaa
end M1
