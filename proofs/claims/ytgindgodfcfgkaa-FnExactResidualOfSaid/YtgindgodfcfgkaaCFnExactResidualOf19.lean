/- For every automaton given as numbers and rows and every word, the program's ResidualOf answers what the reference's answers, leaves its arguments as they were and hands out rows of its own. No condition. -/
import Derived.ChangeOld
import Derived.ChangeSame
import Derived.Deep.Strs
import Derived.OpenShut
import Derived.ProofKit
import Derived.ShutString
import Derived.SizedLaws
import Derived.Test.YtgindgodfcfgkaaChecked
import Derived.Test.YtgindgodfcfgkaaRows
import Derived.Test.YtgindgodfcfgkaaCFnExactResidualOf16
import Derived.Test.YtgindgodfcfgkaaCFnExactResidualOf18
section M0
namespace Go.Proofs.Ytgindgodfcfgkaa.Pure
open Go.RowKit Go.Proofs.Ytgindgodfcfgkaa.P Go.Proofs.Ytgindgodfcfgkaa.U Go.Proofs.YtgindgodfcfgkaaW.PrintWords Go.Proofs.YtgindgodfcfgkaaW.PrintLast Go.Proofs.YtgindgodfcfgkaaW.PrintMore
set_option linter.unusedVariables false
theorem none_ev {L : Int} (hL : 0 ≤ L) (a : L ≤ 8) : Ev (fun k => Zbv.f k L) (L, 0, 0, [List.replicate L.toNat (-1)]) := by
  unfold Zbv.f
  have key := Ev.up (fun k (s : List Int) i => Zbv.l0 k L s i) L.toNat (fun _ _ => (L, 0, 0, [List.replicate L.toNat (-1)])) (fun i s => s = List.replicate i (-1))
    (fun s hs => by
      refine Ev.round ?_
      simp only [Zbv.l0]
      rw [hs]
      exact Ev.no (by omega) (Ev.now _))
    (fun i s hi hs ih => by
      refine Ev.round ?_
      simp only [Zbv.l0]
      refine Ev.yes (by omega) (Ev.yes (by rw [hs]; simp; omega) ?_)
      rw [w64s (by omega)]
      exact ih _ (by rw [hs, ← List.replicate_succ']))
  have := key 0 [] (by omega) rfl
  simpa using this
theorem nothing_eq {L : Int} (hL : 0 ≤ L) (a : L ≤ 8) : Zcy.f L = some (L, 0, [false], [List.replicate L.toNat (-1)]) := by
  unfold Zcy.f Zbx.f
  rw [if_pos ⟨rfl, hL, a⟩]
  rfl
theorem noneAut_ev {L : Int} (hL : 0 ≤ L) (a : L ≤ 8) : Ev (fun k => Zaz.f k L 0 [false] [List.replicate L.toNat (-1)]) (L, 0, 0, [List.replicate L.toNat (-1)], 0) := by
  have hN : Zcm L [List.replicate L.toNat (-1)] := by
    intro row hr
    rw [List.mem_singleton.1 hr]
    refine ⟨by simp; omega, fun t ht => ?_⟩
    rw [(List.mem_replicate.1 ht).2]
    simp
  obtain ⟨qs, rows, h1, h2, h3⟩ := auto_ev (fin := [false]) hN (by simp) rfl hL a (show (0 : Int) ≤ 0 by omega) (by simp)
  have hE : emp (accM L [List.replicate L.toNat (-1)] [false] (0 : Int).toNat) := by
    intro w
    cases w with
    | nil => rfl
    | cons b w =>
      unfold accM accW
      by_cases hb : b < L.toNat
      · have : nxO [List.replicate L.toNat (-1)] (0 : Int).toNat b = none := by
          refine nxO_no ?_
          have := nx_row (rows := [List.replicate L.toNat (-1)]) (j := 0) (row := List.replicate L.toNat (-1)) rfl b
          show nx _ ((0 : Nat) : Int) (b : Int) < 0
          rw [this, List.getD_eq_getElem?_getD, List.getElem?_replicate, if_pos hb]
          decide
        rw [this]
        simp
      · rw [decide_eq_false hb, Bool.false_and]
  have e := h1.unique (least_empty _ hE)
  obtain ⟨rfl, rfl⟩ := Prod.mk.inj e
  unfold AutR at h3
  rw [if_pos (by simp)] at h3
  have hm : maskQ [accM L [List.replicate L.toNat (-1)] [false] (0 : Int).toNat] = 0 := by
    unfold maskQ
    simp only [List.length_cons, List.length_nil]
    rw [orN_succ, if_neg (by
      show ¬ (accM L [List.replicate L.toNat (-1)] [false] (0 : Int).toNat [] = true)
      rw [hE []]; simp)]
    rfl
  rw [hm] at h3
  exact h3
theorem noneSz {L : Int} (a : L ≤ 8) : sz2 [List.replicate L.toNat (-1 : Int)] ≤ 1048576 := by
  unfold sz2
  simp
  omega
theorem resAut_both (L S F : Int) (N : List (List Int)) (w : List Int) (hN : N.length ≤ 1048576) (hw : w.length ≤ 1048576) : ∃ r, sz2 r.2.2.2.1 ≤ 1048576 ∧ Ev (fun k => Zc1.f k L S F N w) r ∧ Ev (fun k => Zci.f k L S F N w) r := by
  unfold Zc1.f Zci.f
  by_cases h : codeW L S F N w = 0
  · obtain ⟨ok, ov⟩ := codeW_0 h
    have hL := ok.l0; have a := ok.l8; have b := ok.n16; have hS := ok.s0; have hSn := ok.sn
    have e1 := l11Code_ev L S F N w (by omega) (by omega)
    have e2 := checkWord_eq L S F N w
    rw [h] at e1 e2
    have r1 := l11Read_ev (F := F) (S := S) ok.rows S w (by omega) hSn (by omega) (over_in ov).2
    have r2 := mread_ev ok.rows S (finL F N.length) w (by omega) hSn (by omega) (over_in ov).2
    have hin := rdW_in ok.rows (by omega) hSn w (over_in ov).2
    by_cases hneg : rdW N S w < 0
    · exact ⟨(L, 0, 0, [List.replicate L.toNat (-1)], 0), noneSz a, Ev.bind e1 (Ev.yes rfl (Ev.bind r1 (Ev.yes hneg (Ev.bind (none_ev hL a) (Ev.now _))))), Ev.here e2 (Ev.yes rfl (Ev.bind (machineOf_ev L S F N hN) (Ev.bind r2 (Ev.yes hneg (Ev.here (nothing_eq hL a) (Ev.bind (noneAut_ev hL a) (Ev.now _)))))))⟩
    · have hA : isAut L (rdW N S w) F N = true := isAut_mk ⟨hL, a, ok.n1, b, by omega, by omega, ok.mask, ok.rows⟩
      obtain ⟨qs, rows, g1, g2, g3, g4⟩ := small_both hA
      have hl := g1.facts.len
      refine ⟨AutR L qs rows, autR_sz hL a g1, Ev.bind e1 (Ev.yes rfl (Ev.bind r1 (Ev.no hneg (Ev.bind g4 ?_)))), Ev.here e2 (Ev.yes rfl (Ev.bind (machineOf_ev L S F N hN) (Ev.bind r2 (Ev.no hneg (Ev.bind (auto_of g3 hl) (Ev.now _))))))⟩
      unfold AutR
      rw [if_pos (by omega)]
      exact Ev.now _
  · refine ⟨(0, 0, 0, [], codeW L S F N w), by simp [sz2], Ev.bind (l11Code_ev L S F N w (by omega) (by omega)) (Ev.no h (Ev.now _)), Ev.here (checkWord_eq L S F N w) (Ev.no h (Ev.now _))⟩
theorem FnExactResidualOf : ∀ (b : Int) (c : Int) (d : Int) (a : List (List Int)) (l1 : List Int), ((Lit.int .i64 b).wf = true) → ((Lit.int .i64 c).wf = true) → ((Lit.int .i64 d).wf = true) → (a.length ≤ maxLen ∧ ∀ x0 ∈ a, x0.length ≤ maxLen ∧ ∀ x1 ∈ x0, (Lit.int .i64 x1).wf = true) → (l1.length ≤ maxLen ∧ ∀ x2 ∈ l1, (Lit.int .i64 x2).wf = true) → ∃ k, Zat.f k b c d a l1 = some true := by
  intro L S F N v _ _ _ ⟨hn, hr⟩ _
  apply Ev.rounds
  unfold Zat.f
  by_cases hv : (v.length : Int) > 1048576
  · exact Ev.yes hv (Ev.now _)
  refine Ev.no hv (Ev.bind (szA L S F N hn (fun x hx => (hr x hx).1)) ?_)
  by_cases hz : sz2 N ≤ 1048576
  · rw [if_pos hz]
    have hl : N.length ≤ 1048576 := by unfold sz2 at hz; omega
    obtain ⟨⟨r1, r2, r3, r4, r5⟩, hrz, hs, hi⟩ := resAut_both L S F N v hl (by omega)
    replace hrz : sz2 r4 ≤ 1048576 := hrz
    have eq := eqA r1 r2 r3 r4 hrz
    have tv : Ev (fun k => Zba.f k v) v := toS v (by omega)
    have ht : tot N ≤ 1048576 := Nat.le_trans (tot_le N) hz
    have mk : Ev (fun k => Zbh.f k v ((1 + tot N : Nat) : Int)) (((1 + tot N + v.length : Nat) : Int), upL (1 + tot N) v.length) := markS v (1 + tot N) (by omega)
    refine Ev.no (by omega) (Ev.bind (toA L S F N hz) (Ev.bind tv (Ev.bind hs (Ev.bind (toA L S F N hz) (Ev.bind tv (Ev.bind hi (Ev.bind eq (Ev.yes rfl (Ev.round ?_)))))))))
    simp only [Zat.j0]
    refine Ev.no (by simp) (Ev.bind (toA L S F N hz) (Ev.bind (eqA L S F N hz) (Ev.yes rfl (Ev.bind tv (Ev.bind (eqS' rfl (by omega)) (Ev.yes rfl (Ev.bind (markAut L S F N 1 (by omega) hz) (Ev.bind mk (Ev.no (by show ¬ ((1 + tot N + v.length : Nat) : Int) < 0; omega) (Ev.bind eq (Ev.yes rfl (Ev.round ?_))))))))))))
    simp only [Zat.j1]
    refine Ev.no (by simp) (Ev.bind (markAut r1 r2 r3 r4 1 (by omega) hrz) (Ev.bind (heldAut r1 r2 r3 r4 hrz) (Ev.no (by omega) (Ev.yes rfl (Ev.bind (toA L S F N hz) (Ev.bind tv (Ev.bind hi (Ev.bind eq (Ev.yes rfl (Ev.round ?_))))))))))
    simp only [Zat.j2]
    exact Ev.no (by simp) (Ev.bind (heldAut r1 r2 r3 r4 hrz) (Ev.no (by omega) (Ev.yes rfl (Ev.now _))))
  · rw [if_neg hz]
    exact Ev.yes (by omega) (Ev.now _)
end Go.Proofs.Ytgindgodfcfgkaa.Pure
end M0
section M1
namespace Go.Proofs.Ytgindgodfcfgkaa.fnExactResidualOf
open Go.ChangeShapes Go.WideShapes Go.ChangeAt Go.RowKit Go.Lib Go.Joins Go.Proofs.Ytgindgodfcfgkaa.P Go.Proofs.Ytgindgodfcfgkaa.Op Go.Proofs.Ytgindgodfcfgkaa.Sh Go.Proofs.YtgindgodfcfgkaaW.PrintWords Go.Proofs.YtgindgodfcfgkaaW.PrintLast
open Go.ChangeMaps (open_string shut_string)
set_option linter.unusedVariables false
set_option linter.unusedSimpArgs false
theorem own : ownKnob Try.prog.godebug = none := by kernel_rfl
theorem laidOut : laidOutB Try.prog = true := by kernel_rfl
set_option maxRecDepth 100000 in
theorem lifted (os : Os) (started : os.Started) (H : Type) (enc : TypeId × Value → H) :
    ReturnsInHanded {} Try.checked os 5 .any (Rows.fnExactResidualOfSpec.pre6 enc Try.prog Try.f5 Rows.fnExactResidualOfRow.domain false) (Rows.fnExactResidualOfSpec.post enc Try.prog Try.f5 false true false false) := by
  refine returnsInHanded_of_change_sized (C := Try.checked) own started (by kernel_rfl) Try.func5
    (ChangeSpec.witness6 (enc := enc) (C := Try.checked) false ⟨#[], #[.agg #[.int .i64 0, .int .i64 0, .int .i64 0, .slice none 0 0], .slice none 0 0], []⟩ 8 (by kernel_rfl) (by kernel_rfl) (by kernel_rfl) (by kernel_rfl)) ?_
  intro W base args ds gs before d hW hcnd o _
  have hval : ∀ (j : Nat) t v, Try.f5.params[j]? = some t → args[j]? = some v → Value.okWide Try.prog W .any base t v := d
  have hW' := hW
  obtain ⟨p, q, n, hV, rfl, hfz, hnd⟩ := hW
  have hA : DataW.TrodAll enc Try.prog W 0 (fun _ => true) true Try.f5.params.toList args.toList ds p := n
  rw [Try.params5] at hA hval
  obtain ⟨v0, af, d0, ag, p0, q0, hargs, rfl, rfl, h0, r0⟩ := trodAll_cons hA
  obtain ⟨v1, ah, d1, ai, p1, q1, rfl, rfl, rfl, h1, r1⟩ := trodAll_cons r0
  obtain ⟨rfl, rfl, rfl⟩ := trodAll_nil r1
  obtain rfl : args = #[v0, v1] := by cases args; simp_all
  obtain ⟨rfl, rfl⟩ := trodVars_none hV
  have k0 := h0
  have G : ∀ x ∈ p0, x.block < W.heap.size := by obtain ⟨m, hm⟩ := k0; exact DataW.trod_lt m _ _ _ hm
  obtain ⟨I, J, K, aj, ak, al, am, an, m0, rfl, _, _, L, M, O, P⟩ := open_agg4 Try.underlying24 (by kernel_rfl) (by kernel_rfl) (hval 0 24 v0 rfl rfl) h0
  obtain ⟨a, r, _, s⟩ := DataW.trod_int Try.underlying2 L
  obtain rfl : I = .int .i64 a := by simpa using r
  obtain ⟨b, u, _, w⟩ := DataW.trod_int Try.underlying2 M
  obtain rfl : J = .int .i64 b := by simpa using u
  obtain ⟨c, y, _, z⟩ := DataW.trod_int Try.underlying2 O
  obtain rfl : K = .int .i64 c := by simpa using y
  obtain ⟨A, B, g, rfl, i, l, D⟩ := open_row P (opens_slice Try.underlying22 (by kernel_rfl) (opens_slice Try.underlying33 (by kernel_rfl) (opens_int Try.underlying2)))
  have k1 := h1
  have T : ∀ x ∈ p1, x.block < W.heap.size := by obtain ⟨m, hm⟩ := k1; exact DataW.trod_lt m _ _ _ hm
  obtain ⟨z1, ad, ae, rfl⟩ := okWide_slice Try.underlying33 (hval 1 33 v1 rfl rfl)
  obtain ⟨f1, U⟩ := h1
  obtain ⟨A1, c1, l1, e1, X, Y, w1⟩ := open_row U (opens_slice Try.underlying33 (by kernel_rfl) (opens_int Try.underlying2))
  simp only [Value.slice.injEq] at e1
  obtain ⟨aa, ab, ac⟩ := e1
  obtain rfl := aa.symm
  subst ab
  obtain rfl := ac.symm
  clear n d o
  obtain ⟨k, hk⟩ := Pure.FnExactResidualOf a b c g l1 s w z D w1
  refine (Zat.calls k a b c A B g A1 c1 l1 true W l i Y X hk rfl).mono fun e W' ⟨he, E⟩ => ?_
  have bel : Below W.heap.size W W' := E
  subst he
  exact ⟨_, rfl, _, _, _, [], _, [], hW', trodAll_mk1 (shut_bool Try.underlying4 _), (trodAll_cons_mk (Below.trod laidOut (by kernel_rfl) (of_decide_eq_true (by kernel_rfl)) k0 bel G) (trodAll_cons_mk (Below.trod laidOut (by kernel_rfl) (of_decide_eq_true (by kernel_rfl)) k1 bel T) trodAll_mk0)), rfl, bel.frame _, fun h => by cases h⟩
theorem over : Rows.fnExactResidualOfRow.holds Try.pinned (OpenSpec.ofChange Rows.fnExactResidualOfSpec) :=
  OpenClaim.holds_of_wide 5 Try.f5 rfl rfl rfl rfl rfl rfl rfl ⟨rfl, rfl, rfl, rfl, rfl⟩ rfl rfl rfl rfl rfl (by kernel_rfl) Try.func5 (by kernel_rfl)
    (of_decide_eq_true (by kernel_rfl)) (by unfold Func.isWrapper; first | (rw [if_pos (by decide +kernel)]; kernel_rfl) | (rw [if_neg (by decide +kernel)]; exact ⟨rfl, rfl⟩))
    (fun os started H enc _ => lifted os started H enc)
theorem proved : Rows.FnExactResidualOfSaid := over
#print axioms proved
end Go.Proofs.Ytgindgodfcfgkaa.fnExactResidualOf
namespace Go.Proofs.Ytgindgodfcfgkaa
/-- The row, under a short name, for the claim. -/
theorem fnExactResidualOf_holds : Rows.FnExactResidualOfSaid := fnExactResidualOf.proved
end Go.Proofs.Ytgindgodfcfgkaa
end M1
