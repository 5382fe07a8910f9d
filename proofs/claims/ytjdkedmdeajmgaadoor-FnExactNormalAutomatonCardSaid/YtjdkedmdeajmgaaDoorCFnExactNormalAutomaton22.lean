/- For every alphabet given as numbers, the program's NormalAutomaton answers what the reference's answers, leaves its argument as it was and hands out rows of its own. No condition. -/
import Derived.ChangeOld
import Derived.ChangeSame
import Derived.Deep.DeepHandedRow
import Derived.Deep.Strs
import Derived.Lib.LaidTab
import Derived.OpenShut
import Derived.ProofKit
import Derived.ShutString
import Derived.SizedLaws
import Derived.Test.YtjdkedmdeajmgaaDoorCards
import Derived.Test.YtjdkedmdeajmgaaDoorChecked
import Derived.Test.YtjdkedmdeajmgaaDoorTie
import Derived.Test.YtjdkedmdeajmgaaDoorCFnExactNormalAutomaton19
import Derived.Test.YtjdkedmdeajmgaaDoorCFnExactNormalAutomaton21
section M0
namespace Go.Proofs.YtjdkedmdeajmgaaDoor.U
open Go.RowKit Go.Proofs.YtjdkedmdeajmgaaDoor.P Go.Proofs.YtjdkedmdeajmgaaDoorW.PrintWords Go.Proofs.YtjdkedmdeajmgaaDoorW.PrintLast
set_option linter.unusedVariables false
/-! The reference's machine of the normal forms. -/
theorem after_ev {d : List Int} (h : Sets d) {s a : Nat} (ha : a < d.length) (hv : s < 2 ^ d.length) : Ev (fun k => Zbp.f k (d.length : Int) d (s : Int) (a : Int)) ((aft d s a : Nat) : Int) := by
  have h8 := h.1
  have c := pow8 h
  have key := Ev.up (fun k (m : Int) i => Zbp.l0 k (s : Int) (a : Int) m i (d.length : Int) d) d.length (fun _ _ => ((aft d s a : Nat) : Int))
    (fun i m => m = ((orN (fun b => !bt d b a && (decide (b < a) || s.testBit b)) i 0 : Nat) : Int))
    (fun m hm => by
      refine Ev.round ?_
      simp only [Zbp.l0]
      refine Ev.no (by omega) ?_
      rw [hm]
      exact Ev.now _)
    (fun i m hi hm ih => by
      have hlt : orN (fun b => !bt d b a && (decide (b < a) || s.testBit b)) i 0 < 2 ^ 63 := orN_lt _ _ _ 63 (by omega) (by decide)
      have hp : (2 : Nat) ^ i < 2 ^ 63 := Nat.pow_lt_pow_right (by decide) (by omega)
      refine Ev.round ?_
      simp only [Zbp.l0]
      refine Ev.yes (by omega) (Ev.here (l02Dep_eq h hi (by omega)) ?_)
      rw [w64s (by omega)]
      cases hb : bt d i a
      · refine Ev.no (by simp) ?_
        by_cases hia : i < a
        · refine Ev.yes (by omega) (Ev.here (spOneI (by omega)) (ih _ ?_))
          rw [hm, bor hlt hp, orN_succ, if_pos (by rw [hb, decide_eq_true hia]; rfl)]
        · refine Ev.no (by omega) (Ev.here (spBitI (by omega) (by omega)) ?_)
          cases hs : s.testBit i
          · refine Ev.no (by simp) (ih _ ?_)
            rw [hm, orN_succ, if_neg (by rw [hb, decide_eq_false hia, hs]; simp)]
          · refine Ev.yes rfl (Ev.here (spOneI (by omega)) (ih _ ?_))
            rw [hm, bor hlt hp, orN_succ, if_pos (by rw [hb, hs]; simp)]
      · refine Ev.yes rfl (ih _ ?_)
        rw [hm, orN_succ, if_neg (by rw [hb]; simp)])
  have := key 0 0 (by omega) rfl
  unfold Zbp.f
  simpa using this
theorem rdZ (n i : Nat) : rd (List.replicate n (0 : Int)) (i : Int) = 0 := by
  show (List.replicate n (0 : Int)).getD i 0 = 0
  rw [List.getD_eq_getElem?_getD, List.getElem?_replicate]
  split <;> rfl
theorem rdZ0 (l : List Int) : Zam [l] 0 = l := rfl
set_option maxHeartbeats 2000000 in
theorem normals_run {d : List Int} (h : Sets d) : ∀ (f i : Nat) (l : List Nat) (rows : List (List Int)) (r : List Nat × List (List Int)), eRun d.length (nfN d) f i l rows = some r → (∀ y ∈ l, y < 2 ^ d.length) → l.Nodup → i ≤ l.length → rows.length = i →
    Ev (fun k => Zak.l0 k (l.map fun (x : Nat) => (x : Int)) (List.replicate l.length 0) (i : Int) (d.length : Int) d (d.length : Int) 0 1 [List.replicate d.length 0] (d.length : Int) rows (List.replicate i true)) ((d.length : Int), r.2, List.replicate r.1.length true, List.replicate r.1.length 0)
  | 0, i, l, rows, r, hr, _, _, _, _ => by simp [eRun] at hr
  | f + 1, i, l, rows, r, hr, hv, hn, hi, hw => by
    have h8 := h.1
    have g := pow8 h
    have hll := few h hn hv
    unfold eRun at hr
    refine Ev.round ?_
    simp only [Zak.l0]
    cases e : l[i]? with
    | none =>
      rw [e] at hr
      have hr := Option.some.inj hr
      subst hr
      have hge := List.getElem?_eq_none_iff.1 e
      have hil : i = l.length := by omega
      refine Ev.no (by simp; omega) ?_
      rw [hil]
      exact Ev.now _
    | some x =>
      rw [e] at hr
      have hlt := (List.getElem?_eq_some_iff.1 e).1
      have hx := hv x (List.mem_of_getElem? e)
      refine Ev.yes (by simp; omega) ?_
      have letters := Ev.up (fun k (st : List Nat × List Int) a => Zak.l1 k (st.1.map fun (x : Nat) => (x : Int)) (List.replicate st.1.length 0) (i : Int) st.2 a (d.length : Int) d (d.length : Int) 0 1 [List.replicate d.length 0] (d.length : Int) rows (List.replicate i true)) d.length (fun _ _ => ((d.length : Int), r.2, List.replicate r.1.length true, List.replicate r.1.length 0))
        (fun a st => st = (List.range a).foldl (eStep (nfN d) x) (l, []))
        (fun st hst => by
          obtain ⟨ext, g1, g2, g3, g4⟩ := nf_fold (x := x) d.length hn hv
          rw [← hst] at g1 g2
          rw [← g1] at g3 g4
          have c := few h g3 g4
          have hg : st.1[i]? = some x := by rw [g1, List.getElem?_append_left hlt, e]
          have b := (List.getElem?_eq_some_iff.1 hg).1
          refine Ev.round ?_
          simp only [Zak.l1]
          rw [rdZ]
          refine Ev.no (by omega) (Ev.yes (by omega) (Ev.yes (by omega) (Ev.yes (by simp; omega) (Ev.here (show Za5.f 1 0 = some true from spBitI (m := 1) (s := 0) (by decide) (by decide)) (Ev.yes (by simp; omega) ?_)))))
          rw [w64s (by omega), ← List.replicate_succ']
          have hm : eRow d.length (nfN d) x l = st := hst.symm
          dsimp only at hr
          rw [hm] at hr
          exact normals_run h f (i + 1) st.1 (rows ++ [st.2]) r hr g4 g3 (by omega) (by simp [hw]))
        (fun a st ha hst ih => by
          obtain ⟨ext, g1, g2, g3, g4⟩ := nf_fold (x := x) a hn hv
          rw [← hst] at g1 g2
          rw [← g1] at g3 g4
          have c := few h g3 g4
          have hg : st.1[i]? = some x := by rw [g1, List.getElem?_append_left hlt, e]
          have b := (List.getElem?_eq_some_iff.1 hg).1
          have hfold : (List.range (a + 1)).foldl (eStep (nfN d) x) (l, []) = eStep (nfN d) x (st.1, st.2) a := by
            rw [List.range_succ, List.foldl_append, ← hst]; rfl
          refine Ev.round ?_
          simp only [Zak.l1]
          rw [rdZ, rdZ0, rdZ, rdCast hg]
          refine Ev.yes (by omega) (Ev.yes (by omega) (Ev.yes (by simp; omega) (Ev.yes (by omega) (Ev.yes (by simp) (Ev.yes (by omega) (Ev.yes (by simp; omega) (Ev.no (by omega) (Ev.yes (by simp; omega) (Ev.here (spBitI (by omega) (by omega)) ?_)))))))))
          refine Ev.round ?_
          simp only [Zak.j2]
          rw [w64s (by omega), rdCast hg]
          cases hb : x.testBit a
          · have hnx : nfN d x a = some (aft d x a) := by unfold nfN; rw [hb]; rfl
            refine Ev.no (by simp) (Ev.yes (by omega) (Ev.yes (by simp; omega) (Ev.bind (after_ev h ha hx) ?_)))
            cases hfi : st.1.findIdx? (fun y => decide (y = aft d x a)) with
            | some q =>
              have hes : eStep (nfN d) x (st.1, st.2) a = (st.1, st.2 ++ [(q : Int)]) := by
                unfold eStep; rw [hnx]; dsimp only; rw [hfi]
              have hq := find_some hfi
              have hqs := (List.getElem?_eq_some_iff.1 hq).1
              rw [List.findIdx?_eq_some_iff_getElem] at hfi
              obtain ⟨_, _, hfi⟩ := hfi
              have search := Ev.up (fun k (_ : Unit) j => Zak.l2 k (st.1.map fun (x : Nat) => (x : Int)) (List.replicate st.1.length 0) (i : Int) st.2 (a : Int) 0 ((aft d x a : Nat) : Int) j (d.length : Int) d (d.length : Int) 0 1 [List.replicate d.length 0] (d.length : Int) rows (List.replicate i true)) q (fun _ _ => ((d.length : Int), r.2, List.replicate r.1.length true, List.replicate r.1.length 0)) (fun _ _ => True)
                (fun _ _ => by
                  refine Ev.round ?_
                  simp only [Zak.l2]
                  rw [rdZ, rdCast hq, w64s (by omega), w64s (by omega)]
                  refine Ev.yes (by simp; omega) (Ev.yes (by omega) (Ev.yes rfl (Ev.yes (by simp; omega) (Ev.yes rfl (Ev.no (by simp; omega) (Ev.yes (by omega) ?_))))))
                  exact ih (st.1, st.2 ++ [(q : Int)]) (by rw [hfold, hes]))
                (fun j _ hj _ ihj => by
                  have hjl : j < st.1.length := by omega
                  have hne : st.1[j] ≠ aft d x a := by
                    have := hfi j hj
                    simpa using this
                  refine Ev.round ?_
                  simp only [Zak.l2]
                  rw [rdCast (List.getElem?_eq_getElem hjl), w64s (by omega : j < 9223372036854775807)]
                  exact Ev.yes (by simp; omega) (Ev.yes (by omega) (Ev.no (by omega) (ihj () trivial))))
              have := search 0 () (by omega) trivial
              simpa using this
            | none =>
              have hes : eStep (nfN d) x (st.1, st.2) a = (st.1 ++ [aft d x a], st.2 ++ [(st.1.length : Int)]) := by
                unfold eStep; rw [hnx]; dsimp only; rw [hfi]
              have hno := find_none hfi
              have search := Ev.up (fun k (_ : Unit) j => Zak.l2 k (st.1.map fun (x : Nat) => (x : Int)) (List.replicate st.1.length 0) (i : Int) st.2 (a : Int) 0 ((aft d x a : Nat) : Int) j (d.length : Int) d (d.length : Int) 0 1 [List.replicate d.length 0] (d.length : Int) rows (List.replicate i true)) st.1.length (fun _ _ => ((d.length : Int), r.2, List.replicate r.1.length true, List.replicate r.1.length 0)) (fun _ _ => True)
                (fun _ _ => by
                  refine Ev.round ?_
                  simp only [Zak.l2]
                  refine Ev.no (by simp) (Ev.yes (by simp) (Ev.yes (by simp; omega) (Ev.yes (by simp; omega) (Ev.yes (by omega) ?_))))
                  have := ih (st.1 ++ [aft d x a], st.2 ++ [(st.1.length : Int)]) (by rw [hfold, hes])
                  rw [w64s (by omega)]
                  simpa [List.replicate_succ'] using this)
                (fun j _ hj _ ihj => by
                  have hne : st.1[j] ≠ aft d x a := fun e_ => hno (e_ ▸ List.getElem_mem hj)
                  refine Ev.round ?_
                  simp only [Zak.l2]
                  rw [rdCast (List.getElem?_eq_getElem hj), w64s (by omega : j < 9223372036854775807)]
                  exact Ev.yes (by simp; omega) (Ev.yes (by omega) (Ev.no (by omega) (ihj () trivial))))
              have := search 0 () (by omega) trivial
              simpa using this
          · have hes : eStep (nfN d) x (st.1, st.2) a = (st.1, st.2 ++ [-1]) := by
              unfold eStep nfN; rw [hb]; rfl
            refine Ev.yes (by trivial) (Ev.yes (by omega) ?_)
            exact ih (st.1, st.2 ++ [-1]) (by rw [hfold, hes]))
      have := letters 0 (l, []) (by omega) rfl
      simpa using this
theorem normals_ev {d : List Int} (h : Sets d) {r : List Nat × List (List Int)} (hr : eRun d.length (nfN d) 257 0 [0] [] = some r) :
    Ev (fun k => Zak.f k (d.length : Int) d (d.length : Int) 0 1 [List.replicate d.length 0]) ((d.length : Int), r.2, List.replicate r.1.length true, List.replicate r.1.length 0) := by
  unfold Zak.f
  exact normals_run h 257 0 [0] [] r hr (fun y hy => by rw [List.mem_singleton.1 hy]; exact Nat.pow_pos (by decide)) (by simp) (by simp) rfl
theorem normAut_both (n : Int) (d : List Int) : ∃ r, sz2 r.2.2.2.1 ≤ 1048576 ∧ Ev (fun k => Za8.f k n d) r ∧ Ev (fun k => Zb2.f k n d) r := by
  unfold Za8.f Zb2.f
  by_cases hal : alB n d = true
  · obtain ⟨h0, h1, h2, h3⟩ := alB_ok hal
    have hs : symB d = true := by
      unfold alB at hal
      simp only [Bool.and_eq_true] at hal
      exact hal.2.2.2
    subst h2
    obtain ⟨r, hr, hI, b, c⟩ := nf_ends h3
    have hN : Rows' (d.length : Int) r.2 := hI.rows' (L := (d.length : Int)) (by omega)
    have hlen := hI.len
    have hg : (List.replicate r.1.length true).length = r.2.length := by simp [hlen]
    obtain ⟨qs, rows, g1, g2, g3⟩ := auto_ev (L := (d.length : Int)) (S := 0) (fin := List.replicate r.1.length true) hN (by omega) hg h0 h1 (by omega) (by omega)
    obtain ⟨r', k1, qs', rows', k2, _, rfl⟩ := l11Minimal_ev (L := (d.length : Int)) (good := List.replicate r.1.length true) hN (by omega) hg h0 (by omega) (by omega)
    obtain ⟨rfl, rfl⟩ := Prod.mk.inj (g1.unique k2)
    have hm := normalMachine_ev h3 hs hr
    have hsp := normals_ev h3 hr
    have hall : Zdd.f (d.length : Int) = some ((d.length : Int), 0, 1, [List.replicate d.length 0]) := by
      unfold Zdd.f
      rw [if_pos h0, if_pos (by omega), Int.toNat_natCast]
    refine ⟨AutR (d.length : Int) qs rows, autR_sz h0 h1 g1, ?_, ?_⟩
    · refine Ev.bind (l02Is_ev _ d) (Ev.yes hal (Ev.here hall (Ev.bind hsp (Ev.bind k1 ?_))))
      unfold AutR MinR
      by_cases a : qs.length ≤ 16
      · rw [if_pos a, if_pos a]
        exact Ev.no (by dsimp only; omega) (Ev.now _)
      · rw [if_neg a, if_neg a]
        exact Ev.yes (by dsimp only; omega) (Ev.now _)
    · exact Ev.bind (isAl_ev _ d) (Ev.yes hal (Ev.bind hm (Ev.bind g3 (Ev.now _))))
  · exact ⟨(0, 0, 0, [], 1), by simp [sz2], Ev.bind (l02Is_ev n d) (Ev.no hal (Ev.now _)), Ev.bind (isAl_ev n d) (Ev.no hal (Ev.now _))⟩
end Go.Proofs.YtjdkedmdeajmgaaDoor.U
end M0
section M1
namespace Go.Proofs.YtjdkedmdeajmgaaDoor.U
open Go.RowKit Go.Proofs.YtjdkedmdeajmgaaDoor.P Go.Proofs.YtjdkedmdeajmgaaDoorW.PrintWords Go.Proofs.YtjdkedmdeajmgaaDoorW.PrintLast
set_option linter.unusedVariables false
/-! Marking a list with numbers, and finding the numbers again. -/
/-- a, a+1, .., n numbers. -/
def upL (a n : Nat) : List Int := (List.range n).map fun i => ((a + i : Nat) : Int)
theorem upL_length (a n : Nat) : (upL a n).length = n := by simp [upL]
theorem upL_get (a n i : Nat) (h : i < (upL a n).length) : (upL a n)[i] = ((a + i : Nat) : Int) := by simp [upL]
theorem markS (l : List Int) (a : Nat) (ha : a + l.length ≤ 1152921504606846976) : Ev (fun k => Zbk.f k l (a : Int)) (((a + l.length : Nat) : Int), upL a l.length) := by
  have key := Ev.up (fun k (s : List Int × Int) i => Zbk.l0 k s.1 s.2 i) l.length (fun _ _ => (((a + l.length : Nat) : Int), upL a l.length))
    (fun i s => s.2 = ((a + i : Nat) : Int) ∧ s.1.length = l.length ∧ ∀ j, j < i → s.1[j]? = some ((a + j : Nat) : Int))
    (fun s ⟨h1, h2, h3⟩ => by
      refine Ev.round ?_
      simp only [Zbk.l0]
      refine Ev.no (by omega) ?_
      have : s.1 = upL a l.length := List.ext_getElem? fun j => by
        by_cases hj : j < l.length
        · rw [h3 j hj, List.getElem?_eq_getElem (by rw [upL_length]; exact hj), upL_get]
        · rw [List.getElem?_eq_none (by omega), List.getElem?_eq_none (by rw [upL_length]; omega)]
      rw [this, h1]
      exact Ev.now _)
    (fun i s hi ⟨h1, h2, h3⟩ ih => by
      refine Ev.round ?_
      simp only [Zbk.l0]
      refine Ev.yes (by omega) (Ev.yes (by omega) ?_)
      rw [h1, w64s (by omega), w64s (by omega)]
      refine ih (s.1.set (i : Int).toNat ((a + i : Nat) : Int), ((a + i + 1 : Nat) : Int)) ⟨rfl, by simp [h2], fun j hj => ?_⟩
      rw [Int.toNat_natCast]
      by_cases e : j = i
      · subst e
        exact List.getElem?_set_self (by omega)
      · rw [List.getElem?_set_ne (by omega)]
        exact h3 j (by omega))
  have := key 0 (l, (a : Int)) (by omega) ⟨by simp, rfl, fun j hj => absurd hj (by omega)⟩
  unfold Zbk.f
  simpa using this
theorem heldS (n a : Nat) (ha : a + n ≤ 1152921504606846976) : Ev (fun k => Zbn.f k (upL a n) (a : Int)) (((a + n : Nat) : Int)) := by
  have hl := upL_length a n
  have key := Ev.up (fun k (s : Int) i => Zbn.l0 k (upL a n) s i) n (fun _ _ => (((a + n : Nat) : Int))) (fun i s => s = ((a + i : Nat) : Int))
    (fun s h1 => by
      refine Ev.round ?_
      simp only [Zbn.l0]
      refine Ev.no (by omega) ?_
      rw [h1]
      exact Ev.now _)
    (fun i s hi h1 ih => by
      refine Ev.round ?_
      simp only [Zbn.l0]
      refine Ev.yes (by omega) (Ev.yes (by omega) ?_)
      rw [rd_lt (by omega), upL_get, h1]
      refine Ev.yes rfl ?_
      rw [w64s (by omega), w64s (by omega)]
      exact ih _ rfl)
  have := key 0 (a : Int) (by omega) (by simp)
  unfold Zbn.f
  simpa using this
theorem markAl (x : Int) (l : List Int) (hn : l.length ≤ 1048576) : Ev (fun k => Zc0.f k x l 1) (((1 + l.length : Nat) : Int), upL 1 l.length) := by
  unfold Zc0.f
  exact Ev.bind (markS l 1 (by omega)) (Ev.now _)
end Go.Proofs.YtjdkedmdeajmgaaDoor.U
end M1
section M2
namespace Go.Proofs.YtjdkedmdeajmgaaDoor.U
open Go.RowKit Go.Proofs.YtjdkedmdeajmgaaDoor.P Go.Proofs.YtjdkedmdeajmgaaDoorW.PrintWords Go.Proofs.YtjdkedmdeajmgaaDoorW.PrintLast
set_option linter.unusedVariables false
/-! Marking rows of rows. -/
def upR : Nat → List (List Int) → List (List Int)
  | _, [] => []
  | a, r :: rs => upL a r.length :: upR (a + r.length) rs
def tot (l : List (List Int)) : Nat := (l.map List.length).sum
theorem markSS_loop : ∀ (rest done : List (List Int)) (a : Nat), a + tot rest ≤ 1152921504606846976 → (done ++ rest).length ≤ 1048576 →
    Ev (fun k => Zbh.l0 k (done ++ rest) (a : Int) ((done.length : Nat) : Int)) (((a + tot rest : Nat) : Int), done ++ upR a rest)
  | [], done, a, ha, hl => by
    refine Ev.round ?_
    simp only [Zbh.l0]
    refine Ev.no (by simp) ?_
    simp only [upR, tot, List.map_nil, List.sum_nil, Nat.add_zero]
    exact Ev.now _
  | r :: rest, done, a, ha, hl => by
    have ht : tot (r :: rest) = r.length + tot rest := by simp [tot]
    rw [ht] at ha ⊢
    refine Ev.round ?_
    simp only [Zbh.l0]
    have hi : done.length < (done ++ r :: rest).length := by simp
    have er : rdOf ([] : List Int) (done ++ r :: rest) ((done.length : Nat) : Int) = r := by
      rw [rdOf_lt hi]; simp
    rw [er, w64s (by omega)]
    refine Ev.yes (by omega) (Ev.yes (by omega) (Ev.bind (markS r a (by omega)) ?_))
    have es : (done ++ r :: rest).set (((done.length : Nat) : Int)).toNat (upL a r.length) = (done ++ [upL a r.length]) ++ rest := by
      rw [Int.toNat_natCast, List.set_append_right _ _ (Nat.le_refl _), Nat.sub_self, List.set_cons_zero]
      simp
    have h := markSS_loop rest (done ++ [upL a r.length]) (a + r.length) (by omega) (by simpa using hl)
    dsimp only
    rw [es]
    have el : (((done ++ [upL a r.length]).length : Nat) : Int) = ((done.length + 1 : Nat) : Int) := by simp
    rw [el] at h
    have e2 : (done ++ [upL a r.length]) ++ upR (a + r.length) rest = done ++ upR a (r :: rest) := by simp [upR]
    rw [e2, Nat.add_assoc] at h
    exact h
theorem markSS (l : List (List Int)) (a : Nat) (ha : a + tot l ≤ 1152921504606846976) (hl : l.length ≤ 1048576) : Ev (fun k => Zbh.f k l (a : Int)) (((a + tot l : Nat) : Int), upR a l) := by
  unfold Zbh.f
  exact markSS_loop l [] a ha hl
theorem tot_le (l : List (List Int)) : tot l ≤ sz2 l := by unfold tot sz2; omega
theorem markAut (x y z : Int) (l : List (List Int)) (a : Nat) (ha : a ≤ 1048577) (hl : sz2 l ≤ 1048576) : Ev (fun k => Zc6.f k x y z l (a : Int)) (((a + tot l : Nat) : Int), upR a l) := by
  unfold Zc6.f
  have := tot_le l
  exact markSS l a (by omega) (by unfold sz2 at hl; omega)
end Go.Proofs.YtjdkedmdeajmgaaDoor.U
end M2
section M3
namespace Go.Proofs.YtjdkedmdeajmgaaDoor.U
open Go.RowKit Go.Proofs.YtjdkedmdeajmgaaDoor.P Go.Proofs.YtjdkedmdeajmgaaDoorW.PrintWords Go.Proofs.YtjdkedmdeajmgaaDoorW.PrintLast
set_option linter.unusedVariables false
/-! Finding the numbers again in rows of rows. -/
theorem heldSS_loop : ∀ (rest done : List (List Int)) (a : Nat), a + tot rest ≤ 1152921504606846976 → (done ++ rest).length ≤ 1048576 →
    Ev (fun k => Zbj.l0 k (done ++ upR a rest) (a : Int) ((done.length : Nat) : Int)) (((a + tot rest : Nat) : Int))
  | [], done, a, ha, hl => by
    refine Ev.round ?_
    simp only [Zbj.l0]
    refine Ev.no (by simp [upR]) ?_
    simp only [tot, List.map_nil, List.sum_nil, Nat.add_zero]
    exact Ev.now _
  | r :: rest, done, a, ha, hl => by
    have ht : tot (r :: rest) = r.length + tot rest := by simp [tot]
    rw [ht] at ha ⊢
    refine Ev.round ?_
    simp only [Zbj.l0, upR]
    have hi : done.length < (done ++ upL a r.length :: upR (a + r.length) rest).length := by simp
    have er : Zam (done ++ upL a r.length :: upR (a + r.length) rest) ((done.length : Nat) : Int) = upL a r.length := by
      show (done ++ upL a r.length :: upR (a + r.length) rest).getD done.length [] = _
      rw [List.getD_eq_getElem?_getD, List.getElem?_append_right (Nat.le_refl _)]
      simp
    rw [er, w64s (by simp at hl; omega)]
    refine Ev.yes (by omega) (Ev.yes (by omega) (Ev.bind (heldS r.length a (by omega)) (Ev.no (by omega) ?_)))
    have h := heldSS_loop rest (done ++ [upL a r.length]) (a + r.length) (by omega) (by simpa using hl)
    have el : (((done ++ [upL a r.length]).length : Nat) : Int) = ((done.length + 1 : Nat) : Int) := by simp
    rw [el, List.append_assoc, Nat.add_assoc] at h
    exact h
theorem heldSS (l : List (List Int)) (a : Nat) (ha : a + tot l ≤ 1152921504606846976) (hl : l.length ≤ 1048576) : Ev (fun k => Zbj.f k (upR a l) (a : Int)) (((a + tot l : Nat) : Int)) := by
  unfold Zbj.f
  exact heldSS_loop l [] a ha hl
theorem heldAut (x y z : Int) (l : List (List Int)) (hl : sz2 l ≤ 1048576) : Ev (fun k => Zca.f k x y z (upR 1 l) 1) (((1 + tot l : Nat) : Int)) := by
  unfold Zca.f
  have := tot_le l
  exact Ev.bind (heldSS l 1 (by omega) (by unfold sz2 at hl; omega)) (Ev.no (by omega) (Ev.now _))
end Go.Proofs.YtjdkedmdeajmgaaDoor.U
end M3
section M4
namespace Go.Proofs.YtjdkedmdeajmgaaDoor.Pure
open Go.RowKit Go.Proofs.YtjdkedmdeajmgaaDoor.P Go.Proofs.YtjdkedmdeajmgaaDoor.U Go.Proofs.YtjdkedmdeajmgaaDoorW.PrintWords Go.Proofs.YtjdkedmdeajmgaaDoorW.PrintLast Go.Proofs.YtjdkedmdeajmgaaDoorW.PrintMore
set_option linter.unusedVariables false
theorem FnExactNormalAutomaton : ∀ (b : Int) (a : List Int), ((Lit.int .i64 b).wf = true) → (a.length ≤ maxLen ∧ ∀ x0 ∈ a, (Lit.int .i64 x0).wf = true) → ∃ k, Zav.f k b a = some true := by
  intro n d _ ⟨hn, _⟩
  apply Ev.rounds
  unfold Zav.f
  refine Ev.here (szAlX n d hn) ?_
  by_cases hz : d.length ≤ 1048576
  · rw [if_pos hz]
    obtain ⟨⟨r1, r2, r3, r4, r5⟩, hrz, hs, hi⟩ := normAut_both n d
    replace hrz : sz2 r4 ≤ 1048576 := hrz
    have eq := eqA r1 r2 r3 r4 hrz
    have hto := toAlX n d (by omega)
    refine Ev.no (by omega) (Ev.bind hto (Ev.bind hs (Ev.bind hto (Ev.bind hi (Ev.bind eq (Ev.yes rfl (Ev.round ?_)))))))
    simp only [Zav.j0]
    refine Ev.no (by simp) (Ev.bind hto (Ev.bind (eqAlX n d (by omega)) (Ev.yes rfl (Ev.bind (markAl n d (by omega)) (Ev.no (by show ¬ ((1 + d.length : Nat) : Int) < 0; omega) (Ev.bind eq (Ev.yes rfl (Ev.round ?_))))))))
    simp only [Zav.j1]
    refine Ev.no (by simp) (Ev.bind (markAut r1 r2 r3 r4 1 (by omega) hrz) (Ev.bind (heldAut r1 r2 r3 r4 hrz) (Ev.no (by omega) (Ev.yes rfl (Ev.bind hto (Ev.bind hi (Ev.bind eq (Ev.yes rfl (Ev.round ?_)))))))))
    simp only [Zav.j2]
    exact Ev.no (by simp) (Ev.bind (heldAut r1 r2 r3 r4 hrz) (Ev.no (by omega) (Ev.yes rfl (Ev.now _))))
  · rw [if_neg hz]
    exact Ev.yes (by omega) (Ev.now _)
end Go.Proofs.YtjdkedmdeajmgaaDoor.Pure
end M4
section M5
namespace Go.Proofs.YtjdkedmdeajmgaaDoor.fnExactNormalAutomaton
open Go.ChangeShapes Go.WideShapes Go.ChangeAt Go.RowKit Go.Lib Go.Joins Go.Proofs.YtjdkedmdeajmgaaDoor.P Go.Proofs.YtjdkedmdeajmgaaDoor.Op Go.Proofs.YtjdkedmdeajmgaaDoor.Sh Go.Proofs.YtjdkedmdeajmgaaDoorW.PrintWords Go.Proofs.YtjdkedmdeajmgaaDoorW.PrintLast
open Go.ChangeMaps (open_string shut_string)
set_option linter.unusedVariables false
set_option linter.unusedSimpArgs false
theorem own : ownKnob Tryd.prog.godebug = none := by kernel_rfl
theorem laidOut : laidOutB Tryd.prog = true := by kernel_rfl
theorem gTab : Tryd.prog.globalNamed "math/bits.deBruijn64tab" = some 0 := by kernel_rfl
theorem gTabType : (Tryd.prog.globals[0]?).map (·.type) = some 191 := by kernel_rfl
theorem cellsT : Tryd.prog.cellsOf 191 = 64 := by kernel_rfl
theorem cellsE : Tryd.prog.cellsOf 5 = 1 := by kernel_rfl
def tabL : List Int := [0, 1, 56, 2, 57, 49, 28, 3, 61, 58, 42, 50, 38, 29, 17, 4, 62, 47, 59, 36, 45, 43, 51, 22, 53, 39, 33, 30, 24, 18, 12, 5, 63, 55, 48, 27, 60, 41, 37, 16, 46, 35, 44, 21, 52, 32, 23, 11, 54, 26, 40, 15, 34, 20, 31, 10, 25, 14, 19, 9, 13, 8, 7, 6]
theorem tabL_eq : tabL = Lib.deBruijn64tab.map (fun (n : Nat) => (n : Int)) := rfl
theorem table {W : World} (h : laidMetH Tryd.prog Rows.fnExactNormalAutomatonRow.laid W) : Lib.TabIs Tryd.prog W "math/bits.deBruijn64tab" .u8 tabL :=
  Lib.tabIs_of_head (rest := []) gTab gTabType Tryd.underlying191 Tryd.underlying5 cellsE cellsT h
theorem tab {W : World} (h : laidMetH Tryd.prog Rows.fnExactNormalAutomatonRow.laid W) : Tab W := fun j hj => by
  have h1 := (table h).cell gTab j (by rw [tabL_eq, List.length_map]; exact hj)
  rw [h1, tabL_eq]
  congr 2
  simp only [List.getD_eq_getElem?_getD, List.getElem?_map, List.getElem?_eq_getElem hj, Option.map_some, Option.getD_some, List.getElem_map]
set_option maxRecDepth 100000 in
theorem contract (H : Type) (enc : TypeId × Value → H) (W : World) (base : Nat) (args : Array Value) (ds gs : List (DataW H)) (before : List MemPlace)
    (b : ∀ (j : Nat) t v, Tryd.f4.params[j]? = some t → args[j]? = some v → Value.okWide Tryd.prog W .any base t v)
    (hW : DataW.Whole enc Tryd.prog Tryd.f4.params.toList Rows.fnExactNormalAutomatonSpec.vars false W args.toList ds gs before) (hL : laidMetH Tryd.prog Rows.fnExactNormalAutomatonRow.laid W) :
    Calls Tryd.prog 4 args W fun e W' => ∃ v, e = .returned v ∧ Rows.fnExactNormalAutomatonSpec.post enc Tryd.prog Tryd.f4 false true false false W args v W' := by
  have hTab := tab hL
  clear hL
  have hval : ∀ (j : Nat) t v, Tryd.f4.params[j]? = some t → args[j]? = some v → Value.okWide Tryd.prog W .any base t v := b
  have hW' := hW
  obtain ⟨p, q, i, hV, rfl, hfz, hnd⟩ := hW
  have hA : DataW.TrodAll enc Tryd.prog W 0 (fun _ => true) true Tryd.f4.params.toList args.toList ds p := i
  rw [Tryd.params4] at hA hval
  obtain ⟨v0, B, d0, D, p0, q0, hargs, rfl, rfl, h0, r0⟩ := trodAll_cons hA
  obtain ⟨rfl, rfl, rfl⟩ := trodAll_nil r0
  obtain rfl : args = #[v0] := by cases args; simp_all
  obtain ⟨rfl, rfl⟩ := trodVars_none hV
  have k0 := h0
  have w : ∀ x ∈ p0, x.block < W.heap.size := by obtain ⟨m, hm⟩ := k0; exact DataW.trod_lt m _ _ _ hm
  obtain ⟨y, E, G, I, m0, rfl, _, _, z, A⟩ := open_agg2 Tryd.underlying24 (by kernel_rfl) (by kernel_rfl) (hval 0 24 v0 rfl rfl) h0
  obtain ⟨a, l, _, n⟩ := DataW.trod_int Tryd.underlying2 z
  obtain rfl : y = .int .i64 a := by simpa using l
  obtain ⟨o, r, c, rfl, d, g, s⟩ := open_row A (opens_slice Tryd.underlying22 (by kernel_rfl) (opens_int Tryd.underlying2))
  clear i b
  obtain ⟨k, hk⟩ := Pure.FnExactNormalAutomaton a c n s
  refine (Zav.calls k a o r c true W g d hk rfl hTab).mono fun e W' ⟨he, u⟩ => ?_
  have bel : Below W.heap.size W W' := u
  subst he
  exact ⟨_, rfl, _, _, _, [], _, [], hW', trodAll_mk1 (shut_bool Tryd.underlying4 _), (trodAll_cons_mk (Below.trod laidOut (by kernel_rfl) (of_decide_eq_true (by kernel_rfl)) k0 bel w) trodAll_mk0), rfl, bel.frame _, fun h => by cases h⟩
noncomputable def laidWorld (os : Os) : World :=
  { World.holding Tryd.prog os ⟨#[], #[], []⟩ with heap := (World.holding Tryd.prog os ⟨#[], #[], []⟩).heap.modify 0 fun
      | .cells _ t frozen => .cells #[.int .u8 0, .int .u8 1, .int .u8 56, .int .u8 2, .int .u8 57, .int .u8 49, .int .u8 28, .int .u8 3, .int .u8 61, .int .u8 58, .int .u8 42, .int .u8 50, .int .u8 38, .int .u8 29, .int .u8 17, .int .u8 4, .int .u8 62, .int .u8 47, .int .u8 59, .int .u8 36, .int .u8 45, .int .u8 43, .int .u8 51, .int .u8 22, .int .u8 53, .int .u8 39, .int .u8 33, .int .u8 30, .int .u8 24, .int .u8 18, .int .u8 12, .int .u8 5, .int .u8 63, .int .u8 55, .int .u8 48, .int .u8 27, .int .u8 60, .int .u8 41, .int .u8 37, .int .u8 16, .int .u8 46, .int .u8 35, .int .u8 44, .int .u8 21, .int .u8 52, .int .u8 32, .int .u8 23, .int .u8 11, .int .u8 54, .int .u8 26, .int .u8 40, .int .u8 15, .int .u8 34, .int .u8 20, .int .u8 31, .int .u8 10, .int .u8 25, .int .u8 14, .int .u8 19, .int .u8 9, .int .u8 13, .int .u8 8, .int .u8 7, .int .u8 6] t frozen
      | o => o }
theorem laid_met (os : Os) : laidMet Tryd.prog Rows.fnExactNormalAutomatonRow.laid ((laidWorld os).forCall (fun _ _ => 0) ⟨#[], #[.agg #[.int .i64 0, .slice none 0 0]], []⟩).memory :=
  laidMet_of_run' 8 (by kernel_rfl) (by kernel_rfl)
theorem reads (os : Os) {H : Type} (enc : TypeId × Value → H) : ∃ places, DataW.whole enc Tryd.prog ((laidWorld os).forCall (fun _ _ => 0) ⟨#[], #[.agg #[.int .i64 0, .slice none 0 0]], []⟩).memory Tryd.f4.params.toList Rows.fnExactNormalAutomatonSpec.vars false (#[.agg #[.int .i64 0, .slice none 0 0]] : Array Value).toList 8 = some ([.agg [.lit (.int .i64 0), .nil]], [], places) :=
  ⟨[], by kernel_rfl⟩
set_option maxRecDepth 100000 in
theorem lifted (os : Os) (started : os.Started) (H : Type) (enc : TypeId × Value → H) (F : Stop.Interp) :
    ReturnsInHanded {} Tryd.checked os 4 .any ((OpenSpec.ofChange Rows.fnExactNormalAutomatonSpec).preRow enc Tryd.prog Tryd.f4 Rows.fnExactNormalAutomatonRow.domain false Rows.fnExactNormalAutomatonRow.laid) (((OpenSpec.ofChange Rows.fnExactNormalAutomatonSpec).at F).post enc Tryd.prog Tryd.f4 false true false false) := by
  obtain ⟨places, hx⟩ := reads os enc
  refine returnsInHanded_of_row (C := Tryd.checked) (s := OpenSpec.ofChange Rows.fnExactNormalAutomatonSpec) own started (by kernel_rfl) Tryd.func4
    (witness_row_at (enc := enc) (C := Tryd.checked) false (laidWorld os) #[.agg #[.int .i64 0, .slice none 0 0]] rfl (by kernel_rfl) (by kernel_rfl) (by kernel_rfl)
      (OpenSpec.preRow_of_cond 8 hx (by kernel_rfl) (fun k hk => by cases hk) (by kernel_rfl) (laid_met os))) ?_
  intro W base args ds gs before hval hW _ _ _ hL _ _
  exact contract H enc W base args ds gs before hval hW hL
theorem said : Rows.FnExactNormalAutomatonSaid :=
  OpenClaim.holds_of_cond 4 Tryd.f4 rfl rfl rfl rfl rfl rfl rfl ⟨rfl, rfl, rfl, rfl, rfl⟩ rfl rfl rfl rfl rfl (by kernel_rfl) Tryd.func4 (by kernel_rfl)
    (of_decide_eq_true (by kernel_rfl)) (by unfold Func.isWrapper; first | (rw [if_pos (by decide +kernel)]; kernel_rfl) | (rw [if_neg (by decide +kernel)]; exact ⟨rfl, rfl⟩))
    (fun os started H enc _ F => by rw [OpenClaim.pre_eq_preRow]; exact lifted os started H enc F)
theorem plain (f : FuncId) (fn : Func) (hf : Tryd.pinned.checked.prog.funcNamed "loop.example/g01094/laws.FnExactNormalAutomaton" = some f) (hfn : Tryd.pinned.checked.prog.funcs[f]? = some fn) :
    false = Tryd.pinned.checked.prog.looks [] ∧ ∀ (j : Nat) t, fn.params[j]? = some t → Tryd.pinned.checked.prog.wantsStandIn t = false := by
  obtain rfl : f = 4 := Option.some.inj ((show Tryd.prog.funcNamed "loop.example/g01094/laws.FnExactNormalAutomaton" = some 4 by kernel_rfl).symm.trans hf) |>.symm
  obtain rfl : fn = Tryd.f4 := (Option.some.inj (Tryd.func4.symm.trans hfn)).symm
  refine ⟨by kernel_rfl, fun j t ht => ?_⟩
  rw [Tryd.params4] at ht
  have hm := Array.mem_of_getElem? ht
  simp only [List.mem_toArray, List.mem_cons, List.not_mem_nil, or_false] at hm
  rcases hm with rfl
  · exact (show Tryd.prog.wantsStandIn 24 = false by kernel_rfl)
theorem card : Rows.FnExactNormalAutomatonCardSaid :=
  Claim7.holds_tied_plain_at .later [] _ _ _ _ said (fun _ h => by cases h) (by kernel_rfl) (fun _ h => by cases h) fnExactNormalAutomaton_row_tie rfl ⟨rfl, rfl⟩ (by kernel_rfl) rfl plain (by kernel_rfl)
#print axioms card
end Go.Proofs.YtjdkedmdeajmgaaDoor.fnExactNormalAutomaton
namespace Go.Proofs.YtjdkedmdeajmgaaDoor
/-- The card, under a short name, for the claim. -/
theorem fnExactNormalAutomaton_holds : Rows.FnExactNormalAutomatonCardSaid := fnExactNormalAutomaton.card
end Go.Proofs.YtjdkedmdeajmgaaDoor
end M5
