import Derived.Test.YtjdkedmdeajmgaaDoorCFnExactNormalAutomaton20
section M0
namespace Go.Proofs.YtjdkedmdeajmgaaDoor.U
open Go.RowKit Go.Proofs.YtjdkedmdeajmgaaDoor.P Go.Proofs.YtjdkedmdeajmgaaDoorW.PrintWords Go.Proofs.YtjdkedmdeajmgaaDoorW.PrintLast
set_option linter.unusedVariables false
/-! The program's least machine. -/
def cl (c : List Int) (s : Nat) : Int := rd c (s : Int)
set_option maxHeartbeats 1000000 in
theorem minimal_run {L S : Int} {N : List (List Int)} {fin : List Bool} {V : Nat → Prop} {c : List Int} (hN : Rows' L N) (hn : N.length ≤ 65535) (hf : fin.length = N.length) (hL : 0 ≤ L) (m : L ≤ 1048576) (hc : c.length = N.length)
    (H : ClsOK L.toNat N.length (nxO N) (Zbc fin) V (cl c)) : ∀ (f i : Nat) (l : List Nat) (rows : List (List Int)) (l' : List Nat) (rows' : List (List Int)), mRun L.toNat (nxO N) (cl c) f i l rows = some (l', rows') → LOK V (cl c) l → i ≤ l.length → rows.length = i →
      EvP (fun k => Zal.l0 k c (l.map fun (x : Nat) => (x : Int)) (i : Int) L S fin N (Zcr (cl c) l 0) L 0 ((l.take i).map (Zbc fin)) rows) (fun r => r = (L, 0, l'.map (Zbc fin), rows'))
  | 0, i, l, rows, l', rows', h, _, _, _ => by simp [mRun] at h
  | f + 1, i, l, rows, l', rows', h, hl, hi, hr => by
    have hrow : ∀ s : Nat, s < N.length → ((Zam N (s : Int)).length : Int) = L := fun s hs => (row_at hN (s := s) (by omega) (by omega)).1
    have hnx : ∀ s a : Nat, rd (Zam N (s : Int)) (a : Int) = nx N s a := fun s a => by unfold nx; rw [if_neg (by omega)]
    have hll := hl.length_le H
    unfold mRun at h
    refine EvP.round ?_
    simp only [Zal.l0]
    cases e : l[i]? with
    | none =>
      rw [e] at h
      have h := Option.some.inj h
      have hge := List.getElem?_eq_none_iff.1 e
      refine EvP.no (by simp; omega) (EvP.ret ?_)
      rw [List.take_of_length_le hge, ← (Prod.mk.inj h).1, ← (Prod.mk.inj h).2]
    | some s =>
      rw [e] at h
      replace h : mRun L.toNat (nxO N) (cl c) f (i + 1) (mRow L.toNat (nxO N) (cl c) s l).1 (rows ++ [(mRow L.toNat (nxO N) (cl c) s l).2]) = some (l', rows') := h
      have hlt := (List.getElem?_eq_some_iff.1 e).1
      have hsv := hl.v s (List.mem_of_getElem? e)
      have hsn := H.lt s hsv
      refine EvP.yes (by simp; omega) ?_
      have letters := EvP.up (fun k (st : List Nat × List Int) a => Zal.l1 k c (st.1.map fun (x : Nat) => (x : Int)) (i : Int) st.2 L a L S fin N (Zcr (cl c) st.1 0) L 0 ((l.take i).map (Zbc fin)) rows) (fun r => r = (L, 0, l'.map (Zbc fin), rows')) L.toNat
        (fun a st => st = (List.range a).foldl (mStep (nxO N) (cl c) s) (l, []) ∧ LOK V (cl c) st.1 ∧ (∃ t, st.1 = l ++ t) ∧ st.2.length = a)
        (fun st ⟨h1, h2, ⟨t, h3⟩, h4⟩ => by
          have hst := h2.length_le H
          have hg : (st.1.map fun (x : Nat) => (x : Int))[i]? = some (s : Int) := by
            rw [List.getElem?_map, h3, List.getElem?_append_left hlt, e]; rfl
          have d : i < (st.1.map fun (x : Nat) => (x : Int)).length := (List.getElem?_eq_some_iff.1 hg).1
          have hrd : rd (st.1.map fun (x : Nat) => (x : Int)) (i : Int) = (s : Int) := by
            rw [rd_lt d]; exact (List.getElem?_eq_some_iff.1 hg).2
          refine EvP.round ?_
          simp only [Zal.l1]
          rw [hrd]
          refine EvP.no (by omega) (EvP.here rfl (EvP.yes (by simp; omega) (EvP.yes (by omega) (EvP.yes (by omega) (EvP.yes (by omega) (EvP.yes (by omega) (EvP.here rfl (EvP.yes (by simp; omega) ?_))))))))
          rw [w64s (by omega)]
          have e2 : (l.take i).map (Zbc fin) ++ [rdOf false fin (s : Int)] = (st.1.take (i + 1)).map (Zbc fin) := by
            have : st.1.take (i + 1) = l.take i ++ [s] := by
              rw [h3, List.take_append_of_le_length (by omega), List.take_add_one, e]
              rfl
            rw [this, List.map_append]
            rfl
          rw [e2]
          have hm : mRow L.toNat (nxO N) (cl c) s l = st := h1.symm
          rw [hm] at h
          exact minimal_run hN hn hf hL m hc H f (i + 1) st.1 (rows ++ [st.2]) l' rows' h h2 (by rw [h3, List.length_append]; omega) (by simp [hr]))
        (fun a st ha ⟨h1, h2, ⟨t, h3⟩, h4⟩ ih => by
          have hst := h2.length_le H
          have hg : (st.1.map fun (x : Nat) => (x : Int))[i]? = some (s : Int) := by
            rw [List.getElem?_map, h3, List.getElem?_append_left hlt, e]; rfl
          have d : i < (st.1.map fun (x : Nat) => (x : Int)).length := (List.getElem?_eq_some_iff.1 hg).1
          have hrd : rd (st.1.map fun (x : Nat) => (x : Int)) (i : Int) = (s : Int) := by
            rw [rd_lt d]; exact (List.getElem?_eq_some_iff.1 hg).2
          have n := hrow s hsn
          have hx := nx_in hN (s := s) (a := a) (by omega) (by omega) (by omega)
          obtain ⟨j, o⟩ := mStep_ok H hsv ha h2 st.2
          have hfold : (List.range (a + 1)).foldl (mStep (nxO N) (cl c) s) (l, []) = mStep (nxO N) (cl c) s (st.1, st.2) a := by
            rw [List.range_succ, List.foldl_append, ← h1]; rfl
          refine EvP.round ?_
          simp only [Zal.l1]
          rw [hrd, hnx]
          refine EvP.yes (by omega) (EvP.yes (by omega) (EvP.yes (by omega) (EvP.yes (by omega) (EvP.yes (by omega) (EvP.yes (by omega) (EvP.yes (by omega) ?_))))))
          -- nothing there
          have g : mStep (nxO N) (cl c) s (st.1, st.2) a = (st.1, st.2 ++ [-1]) → EvP (fun k => Zal.j2 k c (st.1.map fun (x : Nat) => (x : Int)) (i : Int) st.2 (nx N s a) L a true L S fin N (Zcr (cl c) st.1 0) L 0 ((l.take i).map (Zbc fin)) rows) (fun r => r = (L, 0, l'.map (Zbc fin), rows')) := by
            intro hm
            refine EvP.round ?_
            simp only [Zal.j2]
            refine EvP.yes (by trivial) (EvP.here rfl (EvP.yes (by simp; omega) ?_))
            rw [w64s (by omega)]
            exact ih (st.1, st.2 ++ [-1]) ⟨by rw [hfold, hm], h2, ⟨t, h3⟩, by simp [h4]⟩
          by_cases hneg : nx N s a < 0
          · refine EvP.yes hneg (g ?_)
            unfold mStep
            rw [nxO_no hneg]
          · refine EvP.no hneg (EvP.yes (by omega) (EvP.yes (by omega) ?_))
            obtain ⟨x, ex, hxn⟩ := nat_of (by omega : 0 ≤ nx N s a) hx.2
            have hnO : nxO N s a = some x := by rw [nxO_of (by omega), ex]; rfl
            have hxc : rd c (nx N s a) = cl c x := by rw [ex]; rfl
            rw [hxc]
            by_cases hd : cl c x < 0
            · rw [decide_eq_true hd]
              refine g ?_
              unfold mStep
              rw [hnO]
              exact if_pos hd
            · rw [decide_eq_false hd]
              refine EvP.round ?_
              simp only [Zal.j2]
              refine EvP.no (by simp) (EvP.yes (by omega) (EvP.yes (by omega) ?_))
              rw [hxc]
              have b := mfind_mapOf (cl c) (cl c x) st.1 0 0
              have hms : mStep (nxO N) (cl c) s (st.1, st.2) a = match st.1.findIdx? (fun y => decide (cl c y = cl c x)) with
                | some k => (st.1, st.2 ++ [(k : Int)])
                | none => (st.1 ++ [x], st.2 ++ [(st.1.length : Int)]) := by
                unfold mStep
                rw [hnO]
                exact if_neg hd
              cases hfi : st.1.findIdx? (fun y => decide (cl c y = cl c x)) with
              | some q =>
                rw [hfi] at b hms
                have hyes : mhas (Zcr (cl c) st.1 0) (cl c x) = true := by unfold mhas; rw [b]; rfl
                have hget : mget 0 (Zcr (cl c) st.1 0) (cl c x) = (q : Int) := by unfold mget; rw [b]; simp
                refine EvP.yes hyes (EvP.here rfl (EvP.yes (by simp; omega) ?_))
                rw [hget, w64s (by omega)]
                exact ih (st.1, st.2 ++ [(q : Int)]) ⟨by rw [hfold, hms], h2, ⟨t, h3⟩, by simp [h4]⟩
              | none =>
                rw [hfi] at b hms
                have hno : mhas (Zcr (cl c) st.1 0) (cl c x) = false := by unfold mhas; rw [b]; rfl
                refine EvP.no (by rw [hno]; simp) (EvP.here rfl (EvP.yes (by simp; omega) (EvP.here rfl (EvP.yes (by simp; omega) ?_))))
                rw [ex, List.length_map, w64s (by omega)]
                have hset : mset (Zcr (cl c) st.1 0) (cl c x) (st.1.length : Int) = Zcr (cl c) (st.1 ++ [x]) 0 := by
                  unfold mset
                  rw [b, mapOf_snoc]
                  rfl
                rw [hset]
                rw [hms] at j
                have := ih (st.1 ++ [x], st.2 ++ [(st.1.length : Int)]) ⟨by rw [hfold, hms], j, ⟨t ++ [x], by simp [h3]⟩, by simp [h4]⟩
                simpa using this)
      have := letters 0 (l, []) (by omega) ⟨rfl, hl, ⟨[], by simp⟩, rfl⟩
      simpa using this
/-- What is said of a machine that is least. -/
def LeastR (L : Int) (q : Lang) (n : Nat) (r : Int × Int × List Bool × List (List Int)) : Prop := ∃ qs rows, Zdj L.toNat q (qs, rows) ∧ r = (L, 0, qs.map (fun q => q []), rows) ∧ qs.length ≤ n
theorem minimal_ev {L S : Int} {N : List (List Int)} {fin : List Bool} (hN : Rows' L N) (hn : N.length ≤ 65535) (hf : fin.length = N.length) (hL : 0 ≤ L) (a : L ≤ 8) (hS : 0 ≤ S) (hSn : S < N.length) :
    EvP (fun k => Zal.f k L S fin N) (LeastR L (accM L N fin S.toNat) N.length) := by
  obtain ⟨s, rfl, hs⟩ := nat_of hS hSn
  unfold Zal.f
  refine EvP.bindP (useful_ev fin hN (by omega) hf hL (by omega) hS hSn) fun us ⟨hu, hus⟩ => ?_
  refine EvP.yes (by omega) (EvP.yes (by omega) ?_)
  have hinc : ∀ t : Nat, t < N.length → (rdOf false us (t : Int) = true ↔ incl L.toNat (nxO N) (Zbc fin) (fun x => Rch L N (s : Int) (x : Int)) t) := fun t ht => by
    rw [hus t (by omega) (by omega)]
    exact and_congr Iff.rfl (led_acc hN ht)
  rw [Int.toNat_natCast]
  cases hb : rdOf false us (s : Int)
  · refine EvP.no (by simp) ?_
    have hE : emp (accM L N fin s) := Classical.byContradiction fun hh => by
      have := (hinc s hs).2 ⟨.start, hh⟩
      rw [hb] at this; cases this
    unfold Zdo.f Zb8.f
    rw [if_pos ⟨rfl, hL, a⟩]
    refine EvP.here rfl (EvP.ret ⟨_, _, least_empty _ hE, ?_, by simp; omega⟩)
    simp only [List.map_cons, List.map_nil]
    rw [hE []]
    rfl
  · refine EvP.yes rfl (EvP.bindP (classes_ev hN hn hf hL (by omega) hu hinc (vok_rch hN hS hSn)) fun c ⟨hc, H⟩ => EvP.yes (by omega) ?_)
    have hi := (hinc s hs).1 hb
    have hcs : 0 ≤ cl c s := by
      refine Classical.byContradiction fun hh => hi.2 ((H.dead s hi.1).1 ?_)
      exact Int.not_le.1 hh
    obtain ⟨l, rows, h1, h2, h3⟩ := mRun_least (cls := cl c) H hi.1 hcs
    have := minimal_run (S := s) hN hn hf hL (by omega) hc H _ 0 [s] [] l rows h1 ⟨fun x hx => by rw [List.mem_singleton.1 hx]; exact hi.1, fun x hx => by rw [List.mem_singleton.1 hx]; exact hcs, List.pairwise_singleton _ _⟩ (by simp) rfl
    refine EvP.mono this fun r hr => ⟨_, _, h3, ?_, by rw [List.length_map]; exact h2.length_le H⟩
    rw [hr, List.map_map]
    rfl
end Go.Proofs.YtjdkedmdeajmgaaDoor.U
end M0
section M1
namespace Go.Proofs.YtjdkedmdeajmgaaDoor.U
open Go.RowKit Go.Proofs.YtjdkedmdeajmgaaDoor.P Go.Proofs.YtjdkedmdeajmgaaDoorW.PrintWords Go.Proofs.YtjdkedmdeajmgaaDoorW.PrintLast
set_option linter.unusedVariables false
/-! The reference's classes. -/
theorem alike_ev {L : Int} {N : List (List Int)} (good : List Bool) (c : List Int) (hN : Rows' L N) (hn : N.length ≤ 1048576) (hc : c.length = N.length) (hL : 0 ≤ L) (d : L ≤ 1048576) {s t : Nat} (hs : s < N.length) (ht : t < N.length) :
    Ev (fun k => Zbx.f k L N good c (s : Int) (t : Int)) (decide (rd c (s : Int) = rd c (t : Int) ∧ ∀ a : Nat, a < L.toNat → clsN c (nx N s a) = clsN c (nx N t a))) := by
  have hrow : ∀ s : Nat, s < N.length → ((Zam N (s : Int)).length : Int) = L := fun s hs => (row_at hN (s := s) (by omega) (by omega)).1
  have hnx : ∀ s a : Nat, rd (Zam N (s : Int)) (a : Int) = nx N s a := fun s a => by unfold nx; rw [if_neg (by omega)]
  have hcl : ∀ s a : Nat, s < N.length → a < L.toNat → Zba.f c (nx N s a) = some (clsN c (nx N s a)) := fun s a hs ha => by
    have hx := nx_in hN (s := s) (a := a) (by omega) (by omega) (by omega)
    unfold Zba.f clsN
    by_cases h : nx N s a < 0
    · rw [if_pos h, if_neg (by omega)]
    · rw [if_neg h, if_pos (by omega), if_pos (by omega), if_pos (by omega)]
  unfold Zbx.f
  refine Ev.yes (by omega) (Ev.yes (by omega) (Ev.yes (by omega) (Ev.yes (by omega) ?_)))
  by_cases e : rd c (s : Int) = rd c (t : Int)
  · refine Ev.yes e ?_
    have key := Ev.up (fun k (_ : Unit) a => Zbx.l0 k c (s : Int) (t : Int) a L N good) L.toNat (fun _ _ => decide (rd c (s : Int) = rd c (t : Int) ∧ ∀ a : Nat, a < L.toNat → clsN c (nx N s a) = clsN c (nx N t a)))
      (fun b _ => ∀ a : Nat, a < b → clsN c (nx N s a) = clsN c (nx N t a))
      (fun _ h => by
        refine Ev.round ?_
        simp only [Zbx.l0]
        refine Ev.no (by omega) ?_
        rw [decide_eq_true ⟨e, h⟩]
        exact Ev.now _)
      (fun b _ hb h ih => by
        have r1 := hrow s hs
        have r2 := hrow t ht
        refine Ev.round ?_
        simp only [Zbx.l0]
        refine Ev.yes (by omega) (Ev.yes (by omega) (Ev.yes (by omega) (Ev.yes (by omega) (Ev.yes (by omega) ?_))))
        rw [hnx, hnx, w64s (by omega)]
        refine Ev.here (hcl s b hs hb) (Ev.yes (by omega) (Ev.yes (by omega) (Ev.yes (by omega) (Ev.here (hcl t b ht hb) ?_))))
        by_cases e2 : clsN c (nx N s b) = clsN c (nx N t b)
        · refine Ev.yes e2 (ih () fun a ha => ?_)
          by_cases e3 : a = b
          · subst e3; exact e2
          · exact h a (by omega)
        · refine Ev.no e2 ?_
          rw [decide_eq_false (fun hh => e2 (hh.2 b hb))]
          exact Ev.now _)
    have := key 0 () (by omega) (fun a ha => absurd ha (by omega))
    simpa using this
  · refine Ev.no e ?_
    rw [decide_eq_false (fun hh => e hh.1)]
    exact Ev.now _
set_option maxHeartbeats 1000000 in
theorem l11Classes_ev {L : Int} {N : List (List Int)} {good : List Bool} (hN : Rows' L N) (hn : N.length ≤ 1048575) (hg : good.length = N.length) (hL : 0 ≤ L) (o : L ≤ 1048576) :
    EvP (fun k => Zaq.f k L N good) (fun r => (r.length = N.length ∧ ∀ s : Nat, s < N.length → rd r (s : Int) < N.length) ∧ ClsOK L.toNat N.length (nxO N) (Zbc good) (fun s => s < N.length) (fun s => rd r (s : Int))) := by
  have hV : VOK L.toNat N.length (nxO N) (fun s => s < N.length) := vok_all hN
  have hinc : ∀ s, s < N.length → (incl L.toNat (nxO N) (Zbc good) (fun s => s < N.length) s ↔ Led L N good s) := fun s hs => by
    rw [led_acc hN hs]
    exact ⟨fun h => h.2, fun h => ⟨hs, h⟩⟩
  have pass : ∀ (d : Nat) (c : List Int) (m : Int), c.length = N.length → RI L.toNat N.length (nxO N) (Zbc good) (fun s => s < N.length) (fun s => rd c (s : Int)) → Many N.length (incl L.toNat (nxO N) (Zbc good) (fun s => s < N.length)) (fun s => rd c (s : Int)) m → -1 ≤ m → (N.length : Int) < m + d →
      EvP (fun k => Zaq.l1 k c m L N good) (fun r => (r.length = N.length ∧ ∀ s : Nat, s < N.length → rd r (s : Int) < N.length) ∧ ClsOK L.toNat N.length (nxO N) (Zbc good) (fun s => s < N.length) (fun s => rd r (s : Int))) := by
    intro d
    induction d with
    | zero => intro c m h1 h2 h4 h5 h6; exact absurd h6 (by (rcases h4 with h4 | ⟨k, rfl, C⟩); omega; (have := cnt_le C); omega)
    | succ d ihd =>
    intro c m hc hR hM hm hd
    let sg : Nat → Int × List Int := sigO L.toNat (nxO N) (fun s => rd c (s : Int))
    have sg_iff : ∀ s t : Nat, sg s = sg t ↔ (rd c (s : Int) = rd c (t : Int) ∧ ∀ a : Nat, a < L.toNat → clsN c (nx N s a) = clsN c (nx N t a)) := fun s t => by
      show sigO _ _ _ _ = sigO _ _ _ _ ↔ _
      rw [sigO_iff]
      refine and_congr Iff.rfl ⟨fun h a ha => ?_, fun h a ha => ?_⟩
      · rw [clsN_eq, clsN_eq]; exact h a ha
      · rw [← clsN_eq, ← clsN_eq]; exact h a ha
    have states := EvP.up (fun k (st : List Nat × List Int) i => Zaq.l2 k c m st.2 (st.1.map fun (x : Nat) => (x : Int)) i L N good) (fun r => (r.length = N.length ∧ ∀ s : Nat, s < N.length → rd r (s : Int) < N.length) ∧ ClsOK L.toNat N.length (nxO N) (Zbc good) (fun s => s < N.length) (fun s => rd r (s : Int))) N.length
      (fun i st => st.2.length = N.length ∧ PassI (incl L.toNat (nxO N) (Zbc good) (fun s => s < N.length)) sg i st.1 (fun s => rd st.2 (s : Int)))
      (fun st ⟨h1, I⟩ => by
        refine EvP.round ?_
        simp only [Zaq.l2]
        refine EvP.no (by omega) ?_
        rw [List.length_map]
        by_cases e : (st.1.length : Int) = m
        · refine EvP.yes e (EvP.ret ⟨⟨h1, fun s hs => ?_⟩, many_done hV hR hM I e⟩)
          by_cases hi : incl L.toNat (nxO N) (Zbc good) (fun s => s < N.length) s
          · have := I.cnt.lt s hs hi
            have := cnt_le I.cnt
            omega
          · have := I.out s hs hi; omega
        · refine EvP.no e ?_
          obtain ⟨g1, g2, g3⟩ := many_more hM I e
          exact ihd st.2 _ h1 (hR.step hV I.ref) g1 (by omega) (by omega))
      (fun i st hi ⟨h1, I⟩ ih => by
        have hkl : st.1.length ≤ N.length := by
          have := cnt_le I.cnt
          omega
        refine EvP.round ?_
        simp only [Zaq.l2]
        refine EvP.yes (by omega) (EvP.yes (by omega) (EvP.yes (by omega) (EvP.here rfl ?_)))
        rw [Int.toNat_natCast]
        have keep : ∀ (l : List Int) (v : Int), (∀ s : Nat, s < i → rd l (s : Int) = rd st.2 (s : Int)) → ∀ s : Nat, s < i → rd (l.set i v) (s : Int) = rd st.2 (s : Int) := fun l v hl s hs => by rw [Zdm (by omega)]; exact hl s hs
        have g := keep st.2 (-1) (fun _ _ => rfl)
        by_cases hneg : rd c (i : Int) < 0
        · refine EvP.yes hneg ?_
          rw [w64s (by omega)]
          have hni : ¬ incl L.toNat (nxO N) (Zbc good) (fun s => s < N.length) i := fun hh => by have := hR.nn i hi hh; omega
          exact ih (st.1, st.2.set i (-1)) ⟨by simp [h1], I.skip hni (Zcc (by omega) _) g⟩
        · have hin : incl L.toNat (nxO N) (Zbc good) (fun s => s < N.length) i := Classical.byContradiction fun hh => by have := hR.out i hi hh; omega
          refine EvP.no hneg ?_
          -- the end of the search
          have found : ∀ (q b : Nat) (hq : q < st.1.length), sg st.1[q] = sg i → EvP (fun k => Zaq.j4 k c m ((st.2.set i (-1)).set i q) (st.1.map fun (x : Nat) => (x : Int)) (i : Int) b false L N good) (fun r => (r.length = N.length ∧ ∀ s : Nat, s < N.length → rd r (s : Int) < N.length) ∧ ClsOK L.toNat N.length (nxO N) (Zbc good) (fun s => s < N.length) (fun s => rd r (s : Int))) := by
            intro q b hq hsg
            have hv : rd ((st.2.set i (-1)).set i q) (i : Int) = q := Zcc (by simp; omega) _
            refine EvP.round ?_
            simp only [Zaq.j4]
            refine EvP.no (by simp) (EvP.yes (by omega) (EvP.yes (by simp; omega) (EvP.no (by omega) ?_)))
            rw [w64s (by omega)]
            exact ih (st.1, _) ⟨by simp [h1], I.known (List.getElem?_eq_getElem hq) hsg hv (keep _ _ g) hin⟩
          have search := EvP.up (fun k (_ : Unit) b => Zaq.l3 k c m (st.2.set i (-1)) (st.1.map fun (x : Nat) => (x : Int)) (i : Int) b L N good) (fun r => (r.length = N.length ∧ ∀ s : Nat, s < N.length → rd r (s : Int) < N.length) ∧ ClsOK L.toNat N.length (nxO N) (Zbc good) (fun s => s < N.length) (fun s => rd r (s : Int))) st.1.length
            (fun b _ => ∀ (q : Nat) (hq : q < st.1.length), q < b → sg st.1[q] ≠ sg i)
            (fun _ h => by
              have hv : rd (st.2.set i (-1)) (i : Int) = -1 := Zcc (by omega) _
              refine EvP.round ?_
              simp only [Zaq.l3]
              refine EvP.no (by simp) (EvP.round ?_)
              simp only [Zaq.j4]
              refine EvP.no (by simp) (EvP.yes (by omega) (EvP.yes (by simp; omega) (EvP.yes (by omega) (EvP.yes (by simp; omega) ?_))))
              rw [w64s (by omega), Int.toNat_natCast, List.length_map]
              have := ih (st.1 ++ [i], (st.2.set i (-1)).set i st.1.length) ⟨by simp [h1], I.new (fun x hx e => ?_) (Zcc (by simp; omega) _) (keep _ _ g) hin⟩
              · simpa using this
              · obtain ⟨q, hq, rfl⟩ := List.mem_iff_getElem.1 hx
                exact h q hq hq e)
            (fun b _ hb h ihb => by
              have hv : rd (st.2.set i (-1)) (i : Int) = -1 := Zcc (by omega) _
              have hkb : rd (st.1.map fun (x : Nat) => (x : Int)) (b : Int) = ((st.1[b] : Nat) : Int) := by rw [rd_lt (by simp; omega)]; simp
              have hbn := (I.first _ (List.getElem_mem hb)).1
              refine EvP.round ?_
              simp only [Zaq.l3]
              refine EvP.yes (by simp; omega) (EvP.yes (by omega) (EvP.yes (by simp; omega) (EvP.round ?_)))
              simp only [Zaq.j4]
              refine EvP.yes (by rw [hv]; rfl) (EvP.yes (by omega) (EvP.yes (by simp; omega) ?_))
              rw [hkb, w64s (by omega), Int.toNat_natCast]
              refine EvP.bind (alike_ev good c hN (by omega) hc hL o hi (by omega)) ?_
              by_cases e : sg st.1[b] = sg i
              · rw [decide_eq_true ((sg_iff i st.1[b]).1 e.symm)]
                refine EvP.yes (by trivial) (EvP.yes (by omega) (EvP.yes (by simp; omega) (EvP.round ?_)))
                simp only [Zaq.l3]
                by_cases h5 : ((b + 1 : Nat) : Int) < ((st.1.map fun (x : Nat) => (x : Int)).length : Int)
                · refine EvP.yes h5 (EvP.yes (by omega) (EvP.yes (by simp; omega) ?_))
                  have u : rd ((st.2.set i (-1)).set i b) (i : Int) = b := Zcc (by simp; omega) _
                  rw [u, decide_eq_false (by omega)]
                  exact found b (b + 1) hb e
                · exact EvP.no h5 (found b (b + 1) hb e)
              · rw [decide_eq_false (fun hh => e ((sg_iff i st.1[b]).2 hh).symm)]
                refine EvP.no (by simp) (ihb () fun q hq hqb => ?_)
                by_cases e2 : q = b
                · subst e2; exact e
                · exact h q hq (by omega))
          have := search 0 () (by omega) (fun q _ hq => absurd hq (by omega))
          simpa using this)
    refine EvP.round ?_
    simp only [Zaq.l1]
    refine EvP.yes (by omega) (EvP.yes (by omega) ?_)
    have := states 0 ([], List.replicate c.length 0) (by omega) ⟨by simp [hc], PassI.start⟩
    simpa using this
  unfold Zaq.f
  refine EvP.bindP (l11Live_ev good hN (by omega) hg hL o) fun live ⟨hl, hlive⟩ => ?_
  have first := EvP.up (fun k (c : List Int) i => Zaq.l0 k live c i L N good) (fun r => (r.length = N.length ∧ ∀ s : Nat, s < N.length → rd r (s : Int) < N.length) ∧ ClsOK L.toNat N.length (nxO N) (Zbc good) (fun s => s < N.length) (fun s => rd r (s : Int))) N.length
    (fun i c => c.length = N.length ∧ (∀ s, s < i → ¬ incl L.toNat (nxO N) (Zbc good) (fun s => s < N.length) s → rd c (s : Int) = -1) ∧ (∀ s, s < i → incl L.toNat (nxO N) (Zbc good) (fun s => s < N.length) s → rd c (s : Int) = if Zbc good s then 1 else 0) ∧ ∀ s, i ≤ s → rd c (s : Int) = 0)
    (fun c ⟨h1, h2, h3, _⟩ => by
      refine EvP.round ?_
      simp only [Zaq.l0]
      refine EvP.no (by omega) ?_
      exact pass (N.length + 2) c (-1) h1 (ri_first h2 h3) (.inl (by omega)) (by omega) (by omega))
    (fun i c hi ⟨h1, h2, h3, h4⟩ ih => by
      refine EvP.round ?_
      simp only [Zaq.l0]
      refine EvP.yes (by omega) (EvP.yes (by omega) (EvP.yes (by omega) ?_))
      rw [w64s (by omega), Int.toNat_natCast]
      have n : ∀ v : Int, (¬ incl L.toNat (nxO N) (Zbc good) (fun s => s < N.length) i → v = -1) → (incl L.toNat (nxO N) (Zbc good) (fun s => s < N.length) i → v = if Zbc good i then 1 else 0) → (c.set i v).length = N.length ∧ (∀ s, s < i + 1 → ¬ incl L.toNat (nxO N) (Zbc good) (fun s => s < N.length) s → rd (c.set i v) (s : Int) = -1) ∧ (∀ s, s < i + 1 → incl L.toNat (nxO N) (Zbc good) (fun s => s < N.length) s → rd (c.set i v) (s : Int) = if Zbc good s then 1 else 0) ∧ ∀ s, i + 1 ≤ s → rd (c.set i v) (s : Int) = 0 := by
        intro v g1 g2
        refine ⟨by simp [h1], fun s hs hn => ?_, fun s hs hn => ?_, fun s hs => ?_⟩
        · by_cases e : s = i
          · subst e; rw [Zcc (by omega)]; exact g1 hn
          · rw [Zdm (by omega)]; exact h2 s (by omega) hn
        · by_cases e : s = i
          · subst e; rw [Zcc (by omega)]; exact g2 hn
          · rw [Zdm (by omega)]; exact h3 s (by omega) hn
        · rw [Zdm (by omega)]; exact h4 s (by omega)
      have p := (hlive i (by omega) (by omega)).trans (hinc i hi).symm
      cases hui : rdOf false live (i : Int)
      · refine EvP.no (by simp) (ih _ (n (-1) (fun _ => rfl) (fun hh => ?_)))
        rw [p.2 hh] at hui; cases hui
      · refine EvP.yes rfl (EvP.yes (by omega) ?_)
        have hin := p.1 hui
        cases hg : rdOf false good (i : Int)
        · refine EvP.no (by simp) (ih c ?_)
          have hz := h4 i (by omega)
          have hcs : c.set i 0 = c := by
            apply List.ext_getElem?
            intro j
            rw [List.getElem?_set]
            by_cases e : i = j
            · subst e
              rw [rd_lt (by omega : i < c.length)] at hz
              rw [if_pos rfl, if_pos (by omega), List.getElem?_eq_getElem (by omega), hz]
            · rw [if_neg e]
          have := n 0 (fun hh => absurd hin hh) (fun _ => by show (0 : Int) = if rdOf false good (i : Int) then 1 else 0; rw [hg]; rfl)
          rw [hcs] at this
          exact this
        · refine EvP.yes rfl (ih _ (n 1 (fun hh => absurd hin hh) (fun _ => ?_)))
          show (1 : Int) = if rdOf false good (i : Int) then 1 else 0
          rw [hg]; rfl)
  refine EvP.yes (by omega) (EvP.yes (by omega) ?_)
  have := first 0 (List.replicate N.length 0) (by omega) ⟨by simp, fun s hs => absurd hs (by omega), fun s hs => absurd hs (by omega), fun s _ => by
    show (List.replicate N.length (0 : Int)).getD s 0 = 0
    rw [List.getD_eq_getElem?_getD, List.getElem?_replicate]
    split <;> rfl⟩
  simpa using this
end Go.Proofs.YtjdkedmdeajmgaaDoor.U
end M1
section M2
namespace Go.Proofs.YtjdkedmdeajmgaaDoor.U
open Go.RowKit Go.Proofs.YtjdkedmdeajmgaaDoor.P Go.Proofs.YtjdkedmdeajmgaaDoorW.PrintWords Go.Proofs.YtjdkedmdeajmgaaDoorW.PrintLast
set_option linter.unusedVariables false
/-! The reference's least machine. -/
/-- The set of the states that are final, as a number. -/
def maskQ (qs : List Lang) : Int := ((orN (fun j => ((qs[j]?).map fun q => q []).getD false) qs.length 0 : Nat) : Int)
def MinR (L : Int) (qs : List Lang) (rows : List (List Int)) : Int × Int × Int × List (List Int) × Int := if qs.length ≤ 16 then (L, 0, maskQ qs, rows, (qs.length : Int)) else (0, 0, 0, [], (qs.length : Int))
theorem orN_succ (p : Nat → Bool) (n : Nat) : orN p (n + 1) 0 = if p n then orN p n 0 ||| 2 ^ n else orN p n 0 := rfl
def clS (c : List Int) (s : Nat) : Int := rd c (s : Int)
/-- The numbers given so far: for each class the place of its state in the list. -/
structure NumI (n : Nat) (c : List Int) (l : List Nat) (x : List Int) : Prop where
  len : x.length = n + 1
  at_ : ∀ k : Nat, k < n + 1 → rd x (k : Int) = match l.findIdx? (fun y => decide (clS c y = (k : Int))) with
    | some q => (q : Int)
    | none => -1
theorem NumI.new {n : Nat} {c : List Int} {l : List Nat} {x : List Int} (I : NumI n c l x) {y k : Nat} (hk : k < n + 1) (hy : clS c y = (k : Int)) (h : l.findIdx? (fun y => decide (clS c y = (k : Int))) = none) : NumI n c (l ++ [y]) (x.set k (l.length : Int)) := by
  refine ⟨by simp [I.len], fun j hj => ?_⟩
  rw [List.findIdx?_append]
  by_cases e : j = k
  · subst e
    rw [Zcc (by rw [I.len]; omega), h]
    simp [List.findIdx?_cons, hy]
  · rw [Zdm (fun h => e h.symm), I.at_ j hj]
    have : [y].findIdx? (fun y => decide (clS c y = (j : Int))) = none := by
      simp [List.findIdx?_cons, hy]; omega
    rw [this]
    simp
theorem rd_cast {l : List Nat} {i s : Nat} (h : l[i]? = some s) : rd (l.map fun (x : Nat) => (x : Int)) (i : Int) = (s : Int) := by
  have hl := (List.getElem?_eq_some_iff.1 h).1
  rw [rd_lt (by simp; exact hl)]
  simp [(List.getElem?_eq_some_iff.1 h).2]
theorem l11Mask_ev {L : Int} {N : List (List Int)} {good : List Bool} (hg : good.length = N.length) (l : List Nat) (hl : ∀ x ∈ l, x < N.length) (a : l.length ≤ 16) (rows : List (List Int)) :
    EvP (fun k => Zag.l3 k (l.map fun (x : Nat) => (x : Int)) (l.length : Int) 0 L N good L 0 0 rows) (fun r => r = (L, 0, ((orN (fun j => ((l[j]?).map (Zbc good)).getD false) l.length 0 : Nat) : Int), rows, (l.length : Int))) := by
  have key := EvP.up (fun k (m : Int) i => Zag.l3 k (l.map fun (x : Nat) => (x : Int)) (l.length : Int) i L N good L 0 m rows) (fun r => r = (L, 0, ((orN (fun j => ((l[j]?).map (Zbc good)).getD false) l.length 0 : Nat) : Int), rows, (l.length : Int))) l.length
    (fun i m => m = ((orN (fun j => ((l[j]?).map (Zbc good)).getD false) i 0 : Nat) : Int))
    (fun m hm => by
      refine EvP.round ?_
      simp only [Zag.l3]
      refine EvP.no (by omega) ?_
      rw [hm]
      exact EvP.ret rfl)
    (fun i m hi hm ih => by
      refine EvP.round ?_
      simp only [Zag.l3]
      have e := List.getElem?_eq_getElem hi
      rw [rd_cast e]
      have hs := hl _ (List.getElem_mem hi)
      refine EvP.yes (by omega) (EvP.yes (by omega) (EvP.yes (by simp; omega) (EvP.yes (by omega) (EvP.yes (by omega) ?_))))
      rw [w64s (by omega)]
      have hlt : orN (fun j => ((l[j]?).map (Zbc good)).getD false) i 0 < 2 ^ 63 := orN_lt _ _ _ 63 (by omega) (by decide)
      have hp : (2 : Nat) ^ i < 2 ^ 63 := Nat.pow_lt_pow_right (by decide) (by omega)
      cases hv : rdOf false good ((l[i] : Nat) : Int)
      · refine EvP.no (by simp) (ih m ?_)
        rw [hm, orN_succ, if_neg (by rw [e]; show ¬ (Zbc good l[i] = true); unfold Zbc; rw [hv]; simp)]
      · refine EvP.yes rfl (EvP.here (spOne (by omega) (by omega)) (ih _ ?_))
        rw [hm, shl1 (by omega), bor hlt hp, orN_succ, if_pos (by rw [e]; exact hv)])
  have := key 0 0 (by omega) rfl
  simpa using this
theorem least_mask {L : Int} {l : List Nat} {good : List Bool} {N : List (List Int)} : ((orN (fun j => ((l[j]?).map (Zbc good)).getD false) l.length 0 : Nat) : Int) = maskQ (l.map (accM L N good)) := by
  unfold maskQ
  rw [List.length_map]
  refine congrArg _ (orN_congr fun j hj => ?_)
  rw [List.getElem?_map, Option.map_map]
  rfl
theorem l11ClassOf_at {L : Int} {N : List (List Int)} (hN : Rows' L N) {c : List Int} (hc : c.length = N.length) {s a : Nat} (hs : s < N.length) (ha : a < L.toNat) : Zba.f c (nx N s a) = some (clsN c (nx N s a)) := by
  have hx := nx_in hN (s := s) (a := a) (by omega) (by omega) (by omega)
  unfold Zba.f clsN
  by_cases h : nx N s a < 0
  · rw [if_pos h, if_neg (by omega)]
  · rw [if_neg h, if_pos (by omega), if_pos (by omega), if_pos (by omega)]
set_option maxHeartbeats 1000000 in
theorem l11Minimal_run {L : Int} {N : List (List Int)} {good : List Bool} {c : List Int} (hN : Rows' L N) (hn : N.length ≤ 1048575) (hg : good.length = N.length) (hL : 0 ≤ L) (j : L ≤ 1048576) (hc : c.length = N.length) (hcb : ∀ s : Nat, s < N.length → rd c (s : Int) < N.length)
    (H : ClsOK L.toNat N.length (nxO N) (Zbc good) (fun s => s < N.length) (clS c)) (h0 : 0 ≤ rd c 0) (m : 0 < N.length) : ∀ (f i : Nat) (l : List Nat) (rows : List (List Int)) (x : List Int) (l' : List Nat) (rows' : List (List Int)), mRun L.toNat (nxO N) (clS c) f i l rows = some (l', rows') → LOK (fun s => s < N.length) (clS c) l → i ≤ l.length → rows.length = i → NumI N.length c l x →
      EvP (fun k => Zag.l1 k c (l.map fun (x : Nat) => (x : Int)) x (i : Int) L N good L 0 0 rows) (fun r => r = MinR L (l'.map (accM L N good)) rows')
  | 0, i, l, rows, x, l', rows', h, _, _, _, _ => by simp [mRun] at h
  | f + 1, i, l, rows, x, l', rows', h, hl, hi, hr, hx => by
    have hrow : ∀ s : Nat, s < N.length → ((Zam N (s : Int)).length : Int) = L := fun s hs => (row_at hN (s := s) (by omega) (by omega)).1
    have hnx : ∀ s a : Nat, rd (Zam N (s : Int)) (a : Int) = nx N s a := fun s a => by unfold nx; rw [if_neg (by omega)]
    have hll := hl.length_le H
    unfold mRun at h
    refine EvP.round ?_
    simp only [Zag.l1]
    cases e : l[i]? with
    | none =>
      rw [e] at h
      have h := Option.some.inj h
      have hge := List.getElem?_eq_none_iff.1 e
      refine EvP.no (by simp; omega) ?_
      rw [← (Prod.mk.inj h).1, ← (Prod.mk.inj h).2]
      unfold MinR
      by_cases d : l.length ≤ 16
      · refine EvP.no (by simp; omega) ?_
        rw [if_pos (by simpa using d), ← least_mask]
        have := l11Mask_ev (L := L) hg l hl.v d rows
        simpa using this
      · refine EvP.yes (by simp; omega) ?_
        rw [if_neg (by simpa using d)]
        refine EvP.ret ?_
        simp
    | some s =>
      rw [e] at h
      replace h : mRun L.toNat (nxO N) (clS c) f (i + 1) (mRow L.toNat (nxO N) (clS c) s l).1 (rows ++ [(mRow L.toNat (nxO N) (clS c) s l).2]) = some (l', rows') := h
      have hlt := (List.getElem?_eq_some_iff.1 e).1
      have hsn : s < N.length := hl.v s (List.mem_of_getElem? e)
      refine EvP.yes (by simp; omega) ?_
      have letters := EvP.up (fun k (st : (List Nat × List Int) × List Int) a => Zag.l2 k c (st.1.1.map fun (x : Nat) => (x : Int)) st.2 (i : Int) st.1.2 a L N good L 0 0 rows) (fun r => r = MinR L (l'.map (accM L N good)) rows') L.toNat
        (fun a st => st.1 = (List.range a).foldl (mStep (nxO N) (clS c) s) (l, []) ∧ LOK (fun s => s < N.length) (clS c) st.1.1 ∧ (∃ t, st.1.1 = l ++ t) ∧ st.1.2.length = a ∧ NumI N.length c st.1.1 st.2)
        (fun st ⟨h1, h2, ⟨t, h3⟩, h4, h5⟩ => by
          refine EvP.round ?_
          simp only [Zag.l2]
          refine EvP.no (by omega) (EvP.yes (by omega) ?_)
          rw [w64s (by omega)]
          have hm : mRow L.toNat (nxO N) (clS c) s l = st.1 := h1.symm
          rw [hm] at h
          exact l11Minimal_run hN hn hg hL j hc hcb H h0 m f (i + 1) st.1.1 (rows ++ [st.1.2]) st.2 l' rows' h h2 (by rw [h3, List.length_append]; omega) (by simp [hr]) h5)
        (fun a st ha ⟨h1, h2, ⟨t, h3⟩, h4, h5⟩ ih => by
          have hst := h2.length_le H
          have hg : st.1.1[i]? = some s := by rw [h3, List.getElem?_append_left hlt, e]
          have o := (List.getElem?_eq_some_iff.1 hg).1
          have hrd := rd_cast hg
          have p := hrow s hsn
          have hx := nx_in hN (s := s) (a := a) (by omega) (by omega) (by omega)
          obtain ⟨g, w⟩ := mStep_ok H hsn ha h2 st.1.2
          have hfold : (List.range (a + 1)).foldl (mStep (nxO N) (clS c) s) (l, []) = mStep (nxO N) (clS c) s (st.1.1, st.1.2) a := by
            rw [List.range_succ, List.foldl_append, ← h1]; rfl
          refine EvP.round ?_
          simp only [Zag.l2]
          rw [hrd, hnx]
          refine EvP.yes (by omega) (EvP.yes (by omega) (EvP.yes (by simp; omega) (EvP.yes (by omega) (EvP.yes (by omega) (EvP.yes (by omega) (EvP.yes (by omega) (EvP.here (l11ClassOf_at hN hc hsn ha) (EvP.yes (by omega) (EvP.no (by omega) ?_)))))))))
          -- nothing there
          have b : mStep (nxO N) (clS c) s (st.1.1, st.1.2) a = (st.1.1, st.1.2 ++ [-1]) → EvP (fun k => Zag.j4 k c (st.1.1.map fun (x : Nat) => (x : Int)) st.2 (i : Int) st.1.2 a (clsN c (nx N s a)) true L N good L 0 0 rows) (fun r => r = MinR L (l'.map (accM L N good)) rows') := by
            intro hm
            refine EvP.round ?_
            simp only [Zag.j4]
            refine EvP.yes (by trivial) (EvP.yes (by omega) ?_)
            rw [w64s (by omega)]
            exact ih ((st.1.1, st.1.2 ++ [-1]), st.2) ⟨by rw [hfold, hm], h2, ⟨t, h3⟩, by simp [h4], h5⟩
          by_cases hneg : nx N s a < 0
          · have : clsN c (nx N s a) < 0 := by unfold clsN; rw [if_neg (by omega)]; omega
            rw [decide_eq_true this]
            refine b ?_
            unfold mStep
            rw [nxO_no hneg]
          · obtain ⟨y, ey, hyn⟩ := nat_of (by omega : 0 ≤ nx N s a) hx.2
            have hnO : nxO N s a = some y := by rw [nxO_of (by omega), ey]; rfl
            have hxc : clsN c (nx N s a) = clS c y := by rw [ey]; unfold clsN; rw [if_pos (by omega)]; rfl
            by_cases hd : clS c y < 0
            · rw [decide_eq_true (by rw [hxc]; exact hd)]
              refine b ?_
              unfold mStep
              rw [hnO]
              exact if_pos hd
            · rw [hxc, decide_eq_false hd]
              have hyb : clS c y < N.length := hcb y hyn
              obtain ⟨q, hq, hqn⟩ := nat_of (n := N.length) (by omega : 0 ≤ clS c y) hyb
              refine EvP.round ?_
              simp only [Zag.j4]
              have hlen := h5.len
              refine EvP.no (by simp) (EvP.yes (by omega) (EvP.yes (by omega) ?_))
              have hat := h5.at_ q (by omega)
              have hms : mStep (nxO N) (clS c) s (st.1.1, st.1.2) a = match st.1.1.findIdx? (fun z => decide (clS c z = (q : Int))) with
                | some k => (st.1.1, st.1.2 ++ [(k : Int)])
                | none => (st.1.1 ++ [y], st.1.2 ++ [(st.1.1.length : Int)]) := by
                unfold mStep
                rw [hnO, ← hq]
                exact if_neg hd
              rw [hq]
              cases hfi : st.1.1.findIdx? (fun z => decide (clS c z = (q : Int))) with
              | some u =>
                rw [hfi] at hat hms
                replace hat : rd st.2 (q : Int) = (u : Int) := hat
                refine EvP.no (by omega) (EvP.yes (by omega) ?_)
                rw [hat, w64s (by omega)]
                exact ih ((st.1.1, st.1.2 ++ [(u : Int)]), st.2) ⟨by rw [hfold, hms], h2, ⟨t, h3⟩, by simp [h4], h5⟩
              | none =>
                rw [hfi] at hat hms
                replace hat : rd st.2 (q : Int) = -1 := hat
                refine EvP.yes (by omega) (EvP.here rfl (EvP.yes (by omega) (EvP.yes (by simp; omega) (EvP.yes (by rw [hrd]; omega) (EvP.yes (by rw [hrd]; omega) (EvP.yes (by omega) (EvP.yes (by rw [hrd]; omega) (EvP.yes (by simp; omega) (EvP.yes (by omega) ?_)))))))))
                rw [Int.toNat_natCast, List.length_map, Zcc (by omega), w64s (by omega), hrd, hnx, ey]
                rw [hms] at g
                have := ih ((st.1.1 ++ [y], st.1.2 ++ [(st.1.1.length : Int)]), st.2.set q (st.1.1.length : Int)) ⟨by rw [hfold, hms], g, ⟨t ++ [y], by simp [h3]⟩, by simp [h4], h5.new (by omega) hq hfi⟩
                simpa using this)
      have := letters 0 ((l, []), x) (by omega) ⟨rfl, hl, ⟨[], by simp⟩, rfl, hx⟩
      simpa using this
/-- The reference's least machine of no words. -/
theorem l11Minimal_dead {L : Int} {N : List (List Int)} {good : List Bool} {c : List Int} (hN : Rows' L N) (hn : N.length ≤ 1048575) (hg : good.length = N.length) (hL : 0 ≤ L) (d : L ≤ 1048576) (hc : c.length = N.length) (h0 : rd c 0 < 0) (b : 0 < N.length) (hgd : Zbc good 0 = false) (x : List Int) :
    EvP (fun k => Zag.l1 k c [0] x 0 L N good L 0 0 []) (fun r => r = (L, 0, 0, [List.replicate L.toNat (-1)], 1)) := by
  have hrow : ∀ s : Nat, s < N.length → ((Zam N (s : Int)).length : Int) = L := fun s hs => (row_at hN (s := s) (by omega) (by omega)).1
  have hnx : ∀ s a : Nat, rd (Zam N (s : Int)) (a : Int) = nx N s a := fun s a => by unfold nx; rw [if_neg (by omega)]
  have g := hrow 0 b
  refine EvP.round ?_
  simp only [Zag.l1]
  refine EvP.yes (by decide) ?_
  have letters := EvP.up (fun k (row : List Int) a => Zag.l2 k c [0] x 0 row a L N good L 0 0 []) (fun r => r = (L, 0, 0, [List.replicate L.toNat (-1)], 1)) L.toNat (fun a row => row = List.replicate a (-1))
    (fun row hrw => by
      refine EvP.round ?_
      simp only [Zag.l2]
      refine EvP.no (by omega) (EvP.yes (by decide) ?_)
      refine EvP.round ?_
      simp only [Zag.l1]
      refine EvP.no (by rw [w64 (n := 0 + 1) (by omega) (by omega)]; decide) (EvP.no (by decide) ?_)
      have := l11Mask_ev (L := L) (N := N) hg [0] (fun y hy => by rw [List.mem_singleton.1 hy]; exact b) (by decide) [row]
      have e : orN (fun j => ((([0] : List Nat)[j]?).map (Zbc good)).getD false) ([0] : List Nat).length 0 = 0 := by
        show orN _ (0 + 1) 0 = 0
        rw [orN_succ]
        rw [if_neg (by show ¬ Zbc good 0 = true; rw [hgd]; simp)]
        rfl
      rw [e] at this
      rw [hrw] at this ⊢
      exact this)
    (fun a row ha hrw ih => by
      have hrd : rd ([0] : List Int) 0 = ((0 : Nat) : Int) := rfl
      have hx := nx_in hN (s := ((0 : Nat) : Int)) (a := a) (by omega) (by omega) (by omega)
      refine EvP.round ?_
      simp only [Zag.l2]
      rw [hrd, hnx]
      have hrl : row.length = a := by rw [hrw]; simp
      refine EvP.yes (by omega) (EvP.yes (by omega) (EvP.yes (by simp) (EvP.yes (by omega) (EvP.yes (by omega) (EvP.yes (by omega) (EvP.yes (by omega) (EvP.here (l11ClassOf_at hN hc b ha) (EvP.yes (by omega) (EvP.yes h0 (EvP.round ?_))))))))))
      simp only [Zag.j4]
      refine EvP.yes (by trivial) (EvP.yes (by omega) ?_)
      rw [w64s (by omega)]
      exact ih _ (by rw [hrw, ← List.replicate_succ'])  )
  have := letters 0 [] (by omega) rfl
  simpa using this
set_option maxHeartbeats 1000000 in
theorem l11Minimal_ev {L : Int} {N : List (List Int)} {good : List Bool} (hN : Rows' L N) (hn : N.length ≤ 1048575) (hg : good.length = N.length) (hL : 0 ≤ L) (b : L ≤ 1048576) (a : 0 < N.length) :
    EvP (fun k => Zag.f k L N good) (fun r => ∃ qs rows, Zdj L.toNat (accM L N good 0) (qs, rows) ∧ qs.length ≤ N.length ∧ r = MinR L qs rows) := by
  unfold Zag.f
  refine EvP.bindP (l11Classes_ev hN hn hg hL b) fun c ⟨⟨hc, hcb⟩, H⟩ => ?_
  try dsimp only at H
  rw [w64s (by omega)]
  refine EvP.yes (by omega) (EvP.yes (by omega) ?_)
  have loop := EvP.up (fun k (x : List Int) i => Zag.l0 k c [0] x i L N good L 0 0) (fun r => ∃ qs rows, Zdj L.toNat (accM L N good 0) (qs, rows) ∧ qs.length ≤ N.length ∧ r = MinR L qs rows) (N.length + 1)
    (fun i x => x.length = N.length + 1 ∧ ∀ j : Nat, j < i → rd x (j : Int) = -1)
    (fun x ⟨h1, h2⟩ => by
      refine EvP.round ?_
      simp only [Zag.l0]
      refine EvP.no (by omega) (EvP.yes (by omega) ?_)
      by_cases h0 : rd c 0 ≥ 0
      · have hb := hcb 0 a
        replace hb : rd c 0 < N.length := hb
        obtain ⟨q, hq, hqn⟩ := nat_of (n := N.length) h0 hb
        refine EvP.yes h0 (EvP.yes h0 (EvP.yes (by omega) (EvP.round ?_)))
        simp only [Zag.j1]
        have d : (0 : Int) ≤ clS c 0 := h0
        obtain ⟨l, rows, g1, g2, g3⟩ := mRun_least (cls := clS c) (s := 0) H a d
        have e0 : NumI N.length c [] x := ⟨h1, fun k hk => h2 k hk⟩
        have e1 := e0.new (y := 0) (k := q) (by omega) hq rfl
        have := l11Minimal_run hN hn hg hL b hc hcb H h0 a _ 0 [0] [] (x.set q 0) l rows g1 ⟨fun x hx => by rw [List.mem_singleton.1 hx]; exact a, fun x hx => by rw [List.mem_singleton.1 hx]; exact d, List.pairwise_singleton _ _⟩ (by simp) rfl e1
        rw [hq, Int.toNat_natCast]
        exact EvP.mono this fun r hr => ⟨_, _, g3, by rw [List.length_map]; exact g2.length_le H, hr⟩
      · refine EvP.no h0 (EvP.round ?_)
        simp only [Zag.j1]
        have hE : emp (accM L N good 0) := (H.dead 0 a).1 (by show rd c ((0 : Nat) : Int) < 0; simpa using h0)
        have hgd : Zbc good 0 = false := hE []
        have := l11Minimal_dead hN hn hg hL b hc (by omega) a hgd x
        refine EvP.mono this fun r hr => ⟨_, _, least_empty _ hE, by simp; omega, ?_⟩
        rw [hr]
        unfold MinR
        rw [if_pos (by simp)]
        unfold maskQ
        simp only [List.length_cons, List.length_nil]
        rw [orN_succ, if_neg (by show ¬ (Zbc good 0 = true); rw [hgd]; simp)]
        rfl)
    (fun i x hi ⟨h1, h2⟩ ih => by
      refine EvP.round ?_
      simp only [Zag.l0]
      refine EvP.yes (by omega) (EvP.yes (by omega) ?_)
      rw [w64s (by omega), Int.toNat_natCast]
      refine ih _ ⟨by simp [h1], fun j hj => ?_⟩
      by_cases e : j = i
      · subst e; exact Zcc (by omega) _
      · rw [Zdm (fun h => e h.symm)]; exact h2 j (by omega))
  have := loop 0 (List.replicate (N.length + 1) 0) (by omega) ⟨by simp, fun j hj => absurd hj (by omega)⟩
  simpa using this
end Go.Proofs.YtjdkedmdeajmgaaDoor.U
end M2
section M3
namespace Go.Proofs.YtjdkedmdeajmgaaDoor.U
open Go.RowKit Go.Proofs.YtjdkedmdeajmgaaDoor.P Go.Proofs.YtjdkedmdeajmgaaDoorW.PrintWords Go.Proofs.YtjdkedmdeajmgaaDoorW.PrintLast
set_option linter.unusedVariables false
/-! The least machine's own languages. -/
theorem cStep_all {P : Lang → Prop} (hP : ∀ p b, P p → P (der p b)) {q : Lang} (hq : P q) (qs : List Lang) (row : List Int) (a : Nat) (h : ∀ p ∈ qs, P p) : ∀ p ∈ (cStep q (qs, row) a).1, P p := by
  unfold cStep
  split
  · exact h
  · split
    · exact h
    · intro p hp
      rcases List.mem_append.1 hp with hp | hp
      · exact h p hp
      · rw [List.mem_singleton.1 hp]; exact hP q a hq
theorem cFold_all {P : Lang → Prop} (hP : ∀ p b, P p → P (der p b)) {q : Lang} (hq : P q) : ∀ (us : List Nat) (st : List Lang × List Int), (∀ p ∈ st.1, P p) → ∀ p ∈ (us.foldl (cStep q) st).1, P p
  | [], _, h => h
  | a :: us, st, h => cFold_all hP hq us _ (cStep_all hP hq st.1 st.2 a h)
theorem cRun_all {L : Nat} {P : Lang → Prop} (hP : ∀ p b, P p → P (der p b)) : ∀ (f i : Nat) (qs : List Lang) (rows : List (List Int)) (r : List Lang × List (List Int)), cRun L f i qs rows = some r → (∀ p ∈ qs, P p) → ∀ p ∈ r.1, P p
  | 0, i, qs, rows, r, h, _ => by simp [cRun] at h
  | f + 1, i, qs, rows, r, h, hq => by
    unfold cRun at h
    cases e : qs[i]? with
    | none =>
      rw [e] at h
      have h := Option.some.inj h
      subst h
      exact hq
    | some p =>
      rw [e] at h
      exact cRun_all hP f _ _ _ r h (cFold_all hP (hq p (List.mem_of_getElem? e)) _ _ hq)
/-- No word with another letter. -/
def Lt (L : Nat) (q : Lang) : Prop := ∀ w, (∃ a ∈ w, L ≤ a) → q w = false
theorem Lt.der {L : Nat} {q : Lang} (h : Lt L q) (b : Nat) : Lt L (der q b) := fun w ⟨a, ha, hl⟩ => h (b :: w) ⟨a, by simp [ha], hl⟩
theorem Zdj.lt {L : Nat} {q : Lang} {qs : List Lang} {rows : List (List Int)} (h : Zdj L q (qs, rows)) (hq : Lt L q) : ∀ p ∈ qs, Lt L p := by
  obtain ⟨f, h⟩ := h
  exact cRun_all (P := Lt L) (fun p b hp => hp.der b) f 0 [q] [] _ h (fun p hp => by rw [List.mem_singleton.1 hp]; exact hq)
theorem nx_row {rows : List (List Int)} {j : Nat} {row : List Int} (h : rows[j]? = some row) (b : Nat) : nx rows (j : Int) (b : Int) = row.getD b 0 := by
  unfold nx
  rw [if_neg (by omega)]
  have e : Zam rows (j : Int) = row := by
    show rows.getD j [] = row
    rw [List.getD_eq_getElem?_getD, h]; rfl
  rw [e]
  rfl
end Go.Proofs.YtjdkedmdeajmgaaDoor.U
end M3
section M4
namespace Go.Proofs.YtjdkedmdeajmgaaDoor.U
open Go.RowKit Go.Proofs.YtjdkedmdeajmgaaDoor.P Go.Proofs.YtjdkedmdeajmgaaDoorW.PrintWords Go.Proofs.YtjdkedmdeajmgaaDoorW.PrintLast
set_option linter.unusedVariables false
set_option linter.unusedSectionVars false
/-! Machines over states of any kind, and machines of rows whose states follow a list of such states. -/
def aAcc {σ : Type} (L : Nat) (nxt : σ → Nat → Option σ) (good : σ → Bool) : σ → Lang
  | s, [] => good s
  | s, a :: w => decide (a < L) && match nxt s a with
    | none => false
    | some t => aAcc L nxt good t w
/-- The rows' states are those of the list: each entry is -1 for no state (or for one from which nothing is accepted), or the place of the state to which the letter leads. -/
structure Follows {σ : Type} (L : Nat) (nxt : σ → Nat → Option σ) (good : σ → Bool) (l : List σ) (rows : List (List Int)) (g : List Bool) : Prop where
  len : rows.length = l.length
  gl : ∀ (j : Nat) (x : σ), l[j]? = some x → Zbc g j = good x
  ent : ∀ (j : Nat) (x : σ) (a : Nat), l[j]? = some x → a < L → (nx rows j a < 0 ∧ ∀ y, nxt x a = some y → emp (aAcc L nxt good y)) ∨ ∃ (k : Nat) (y : σ), nx rows j a = k ∧ nxt x a = some y ∧ l[k]? = some y
/-! The run that finds all states. -/
section
variable {σ : Type} [DecidableEq σ] (L : Nat) (nxt : σ → Nat → Option σ)
def eStep (x : σ) (st : List σ × List Int) (a : Nat) : List σ × List Int :=
  match nxt x a with
  | none => (st.1, st.2 ++ [-1])
  | some t => match st.1.findIdx? (fun y => decide (y = t)) with
    | some k => (st.1, st.2 ++ [(k : Int)])
    | none => (st.1 ++ [t], st.2 ++ [(st.1.length : Int)])
def eRow (x : σ) (l : List σ) : List σ × List Int := (List.range L).foldl (eStep nxt x) (l, [])
def eRun : Nat → Nat → List σ → List (List Int) → Option (List σ × List (List Int))
  | 0, _, _, _ => none
  | f + 1, i, l, rows => match l[i]? with
    | some x => eRun f (i + 1) (eRow L nxt x l).1 (rows ++ [(eRow L nxt x l).2])
    | none => some (l, rows)
end
section
variable {σ : Type} {nxt : σ → Nat → Option σ}
def EntA (nxt : σ → Nat → Option σ) (l : List σ) (x : σ) (a : Nat) (t : Int) : Prop := (t = -1 ∧ nxt x a = none) ∨ ∃ (k : Nat) (y : σ), t = k ∧ nxt x a = some y ∧ l[k]? = some y
theorem EntA.more {l ext : List σ} {x : σ} {a : Nat} {t : Int} (h : EntA nxt l x a t) : EntA nxt (l ++ ext) x a t := by
  rcases h with h | ⟨k, y, h1, h2, h3⟩
  · exact .inl h
  · exact .inr ⟨k, y, h1, h2, by rw [List.getElem?_append_left (List.getElem?_eq_some_iff.1 h3).1]; exact h3⟩
theorem EntA.bounds {l : List σ} {x : σ} {a : Nat} {t : Int} (h : EntA nxt l x a t) : -1 ≤ t ∧ t < l.length := by
  rcases h with h | ⟨k, y, h1, _, h3⟩
  · omega
  · have := (List.getElem?_eq_some_iff.1 h3).1; omega
end
section
variable {σ : Type} [DecidableEq σ] {L : Nat} {nxt : σ → Nat → Option σ}
theorem find_some {l : List σ} {t : σ} {k : Nat} (h : l.findIdx? (fun y => decide (y = t)) = some k) : l[k]? = some t := by
  rw [List.findIdx?_eq_some_iff_getElem] at h
  obtain ⟨hk, h1, _⟩ := h
  have h2 : l[k] = t := by simpa using h1
  rw [List.getElem?_eq_getElem hk, h2]
theorem find_none {l : List σ} {t : σ} (h : l.findIdx? (fun y => decide (y = t)) = none) : t ∉ l := by
  rw [List.findIdx?_eq_none_iff] at h
  intro hm
  have := h t hm
  simp at this
theorem eStep_ent (x : σ) (l : List σ) (row : List Int) (a : Nat) (hn : l.Nodup) : ∃ ext t, eStep nxt x (l, row) a = (l ++ ext, row ++ [t]) ∧ EntA nxt (l ++ ext) x a t ∧ (l ++ ext).Nodup ∧ ∀ y ∈ ext, nxt x a = some y := by
  unfold eStep
  cases e : nxt x a with
  | none => exact ⟨[], -1, by simp, .inl ⟨rfl, e⟩, by simpa using hn, by simp⟩
  | some t =>
    dsimp only
    cases e2 : l.findIdx? (fun y => decide (y = t)) with
    | some k => exact ⟨[], k, by simp, .inr ⟨k, t, rfl, e, by simpa using find_some e2⟩, by simpa using hn, by simp⟩
    | none =>
      refine ⟨[t], (l.length : Int), rfl, .inr ⟨l.length, t, rfl, e, by simp⟩, ?_, fun y hy => by rw [List.mem_singleton.1 hy]⟩
      rw [List.nodup_append]
      refine ⟨hn, by simp, fun y hy z hz hyz => ?_⟩
      rw [List.mem_singleton.1 hz] at hyz
      exact find_none e2 (hyz ▸ hy)
theorem eFold_ent (x : σ) : ∀ (n : Nat) (l : List σ), l.Nodup → ∃ ext row, (List.range n).foldl (eStep nxt x) (l, []) = (l ++ ext, row) ∧ row.length = n ∧ (∀ b, b < n → EntA nxt (l ++ ext) x b (row.getD b 0)) ∧ (l ++ ext).Nodup ∧ ∀ y ∈ ext, ∃ b, b < n ∧ nxt x b = some y
  | 0, l, hn => ⟨[], [], by simp, rfl, fun b hb => absurd hb (by omega), by simpa using hn, by simp⟩
  | n + 1, l, hn => by
    obtain ⟨ext, row, h1, h2, h3, h4, h5⟩ := eFold_ent x n l hn
    obtain ⟨a, t, g1, g2, g3, g4⟩ := eStep_ent x (l ++ ext) row n h4
    refine ⟨ext ++ a, row ++ [t], ?_, by simp [h2], fun b hb => ?_, by rw [← List.append_assoc]; exact g3, fun p hp => ?_⟩
    · rw [List.range_succ, List.foldl_append, h1]
      show eStep nxt x (l ++ ext, row) n = _
      rw [g1, List.append_assoc]
    · rw [← List.append_assoc]
      by_cases e : b = n
      · subst e
        have : (row ++ [t]).getD b 0 = t := by rw [List.getD_eq_getElem?_getD, List.getElem?_append_right (by omega), h2]; simp
        rw [this]; exact g2
      · have : (row ++ [t]).getD b 0 = row.getD b 0 := by rw [List.getD_eq_getElem?_getD, List.getElem?_append_left (by omega), List.getD_eq_getElem?_getD]
        rw [this]; exact (h3 b (by omega)).more
    · rcases List.mem_append.1 hp with hp | hp
      · obtain ⟨b, hb, e⟩ := h5 p hp; exact ⟨b, by omega, e⟩
      · exact ⟨n, by omega, g4 p hp⟩
structure ExpI (L : Nat) (nxt : σ → Nat → Option σ) (V : σ → Prop) (l : List σ) (rows : List (List Int)) : Prop where
  len : rows.length = l.length
  wid : ∀ row ∈ rows, row.length = L
  ent : ∀ (j : Nat) (x : σ) (row : List Int), l[j]? = some x → rows[j]? = some row → ∀ b, b < L → EntA nxt l x b (row.getD b 0)
  nodup : l.Nodup
  v : ∀ x ∈ l, V x
/-- What holds on the way, i rows being made. -/
structure ExpW (L : Nat) (nxt : σ → Nat → Option σ) (V : σ → Prop) (i : Nat) (l : List σ) (rows : List (List Int)) : Prop where
  len : rows.length = i
  le : i ≤ l.length
  wid : ∀ row ∈ rows, row.length = L
  ent : ∀ (j : Nat) (x : σ) (row : List Int), l[j]? = some x → rows[j]? = some row → ∀ b, b < L → EntA nxt l x b (row.getD b 0)
  nodup : l.Nodup
  v : ∀ x ∈ l, V x
theorem ExpW.next {V : σ → Prop} (hV : ∀ x a y, V x → a < L → nxt x a = some y → V y) {i : Nat} {l : List σ} {rows : List (List Int)} (h : ExpW L nxt V i l rows) {x : σ} (hx : l[i]? = some x) :
    ExpW L nxt V (i + 1) (eRow L nxt x l).1 (rows ++ [(eRow L nxt x l).2]) ∧ ∃ ext, (eRow L nxt x l).1 = l ++ ext := by
  obtain ⟨ext, row, h1, h2, h3, h4, h5⟩ := eFold_ent (nxt := nxt) x L l h.nodup
  have hc : eRow L nxt x l = (l ++ ext, row) := h1
  rw [hc]
  have hlt := (List.getElem?_eq_some_iff.1 hx).1
  have hr := h.len
  refine ⟨⟨by simp [hr], by simp; omega, fun y hy => ?_, fun j p row' hj hrow b hb => ?_, h4, fun y hy => ?_⟩, ext, rfl⟩
  · rcases List.mem_append.1 hy with hy | hy
    · exact h.wid y hy
    · rw [List.mem_singleton.1 hy]; exact h2
  · dsimp only at hj hrow ⊢
    by_cases hji : j < i
    · rw [List.getElem?_append_left (by omega)] at hrow
      rw [List.getElem?_append_left (by omega)] at hj
      exact (h.ent j p row' hj hrow b hb).more
    · have hl := (List.getElem?_eq_some_iff.1 hrow).1
      simp only [List.length_append, List.length_cons, List.length_nil] at hl
      have : j = i := by omega
      subst this
      rw [List.getElem?_append_right (by omega), hr] at hrow
      simp only [Nat.sub_self, List.getElem?_cons_zero, Option.some.injEq] at hrow
      rw [List.getElem?_append_left hlt, hx] at hj
      have hj := Option.some.inj hj
      subst hj; subst hrow
      exact h3 b hb
  · rcases List.mem_append.1 hy with hy | hy
    · exact h.v y hy
    · obtain ⟨b, hb, e⟩ := h5 y hy
      exact hV x b y (h.v x (List.mem_of_getElem? hx)) hb e
theorem eRun_I {V : σ → Prop} (hV : ∀ x a y, V x → a < L → nxt x a = some y → V y) : ∀ (f i : Nat) (l : List σ) (rows : List (List Int)) (r : List σ × List (List Int)), eRun L nxt f i l rows = some r → ExpW L nxt V i l rows → ExpI L nxt V r.1 r.2 ∧ ∃ ext, r.1 = l ++ ext
  | 0, i, l, rows, r, h, _ => by simp [eRun] at h
  | f + 1, i, l, rows, r, h, hw => by
    unfold eRun at h
    cases e : l[i]? with
    | none =>
      rw [e] at h
      have h := Option.some.inj h
      subst h
      have h1 := List.getElem?_eq_none_iff.1 e
      have h2 := hw.le
      exact ⟨⟨by show rows.length = l.length; have := hw.len; omega, hw.wid, hw.ent, hw.nodup, hw.v⟩, [], by simp⟩
    | some x =>
      rw [e] at h
      obtain ⟨h1, ext, h2⟩ := hw.next hV e
      obtain ⟨h3, b, h4⟩ := eRun_I hV f (i + 1) _ _ r h h1
      exact ⟨h3, ext ++ b, by rw [h4, h2, List.append_assoc]⟩
/-- The run comes to an end, if the states are among so many. -/
theorem eRun_ends {V : σ → Prop} (hV : ∀ x a y, V x → a < L → nxt x a = some y → V y) {u : List σ} (hu : ∀ x, V x → x ∈ u) : ∀ (f i : Nat) (l : List σ) (rows : List (List Int)), ExpW L nxt V i l rows → u.length < i + f → ∃ r, eRun L nxt f i l rows = some r
  | 0, i, l, rows, hw, hf => by
    have h1 := Zdk (l' := u) hw.nodup (fun x hx => hu x (hw.v x hx))
    have h2 := hw.le
    omega
  | f + 1, i, l, rows, hw, hf => by
    unfold eRun
    cases e : l[i]? with
    | none => exact ⟨_, rfl⟩
    | some x => exact eRun_ends hV hu f (i + 1) _ _ (hw.next hV e).1 (by omega)
theorem exp_start {V : σ → Prop} {x : σ} (hx : V x) : ExpW L nxt V 0 [x] [] := ⟨rfl, by simp, by simp, fun j p row _ hr => by simp at hr, by simp, fun y hy => by rw [List.mem_singleton.1 hy]; exact hx⟩
theorem ExpI.follows {V : σ → Prop} {l : List σ} {rows : List (List Int)} (h : ExpI L nxt V l rows) {good : σ → Bool} {g : List Bool} (hg : g = l.map good) : Follows L nxt good l rows g := by
  refine ⟨h.len, fun j x hj => ?_, fun j x a hj ha => ?_⟩
  · rw [hg]
    unfold Zbc
    have hjl := (List.getElem?_eq_some_iff.1 hj).1
    rw [rdOf_lt (by simpa using hjl)]
    simp [(List.getElem?_eq_some_iff.1 hj).2]
  · have hjl := (List.getElem?_eq_some_iff.1 hj).1
    have hl := h.len
    have hr := List.getElem?_eq_getElem (l := rows) (i := j) (by omega)
    have e := h.ent j x _ hj hr a ha
    have hn := nx_row hr a
    rcases e with ⟨h1, h2⟩ | ⟨k, y, h1, h2, h3⟩
    · exact .inl ⟨by rw [hn, h1]; decide, fun y hy => by rw [h2] at hy; cases hy⟩
    · exact .inr ⟨k, y, by rw [hn, h1], h2, h3⟩
theorem ExpI.rows' {V : σ → Prop} {L : Int} (hL : 0 ≤ L) {l : List σ} {rows : List (List Int)} (h : ExpI L.toNat nxt V l rows) : Rows' L rows := by
  intro row hr
  refine ⟨by have := h.wid row hr; omega, fun t ht => ?_⟩
  obtain ⟨j, hj, rfl⟩ := List.mem_iff_getElem.1 hr
  obtain ⟨b, hb, rfl⟩ := List.mem_iff_getElem.1 ht
  have hl := h.len
  have h1 := h.ent j _ _ (List.getElem?_eq_getElem (by omega)) (List.getElem?_eq_getElem hj) b (by rw [← h.wid _ (List.getElem_mem hj)]; exact hb)
  have h2 := h1.bounds
  rw [List.getD_eq_getElem?_getD, List.getElem?_eq_getElem hb] at h2
  simp only [Option.getD_some] at h2
  omega
end
end Go.Proofs.YtjdkedmdeajmgaaDoor.U
end M4
section M5
namespace Go.Proofs.YtjdkedmdeajmgaaDoor.U
open Go.RowKit Go.Proofs.YtjdkedmdeajmgaaDoor.P Go.Proofs.YtjdkedmdeajmgaaDoorW.PrintWords Go.Proofs.YtjdkedmdeajmgaaDoorW.PrintLast Go.Proofs.YtjdkedmdeajmgaaDoorW.PrintMore
set_option linter.unusedVariables false
/-! Alphabets: both tests answer alike. -/
def inI (a lo hi : Int) : Bool := decide (lo ≤ a) && decide (a ≤ hi)
theorem inI_iff {a lo hi : Int} : inI a lo hi = true ↔ lo ≤ a ∧ a ≤ hi := by unfold inI; simp
theorem spInI (a lo hi : Int) : Zbz.f a lo hi = some (inI a lo hi) := by
  unfold Zbz.f inI
  by_cases h : lo ≤ a
  · rw [if_pos h, decide_eq_true h, Bool.true_and]
  · rw [if_neg h, decide_eq_false h, Bool.false_and]
theorem imInI (a lo hi : Int) : Zcn.f a lo hi = some (inI a lo hi) := by
  unfold Zcn.f inI
  by_cases h : lo ≤ a
  · rw [if_pos h, decide_eq_true h, Bool.true_and]
  · rw [if_neg h, decide_eq_false h, Bool.false_and]
theorem u64i {n : Nat} (h : n < 18446744073709551616) : IntKind.u64.wrap (n : Int) = (n : Int) := by
  show (n : Int) % 18446744073709551616 = n
  omega
theorem spOneI {i : Nat} (h : i < 63) : Zcd.f (i : Int) = some ((2 ^ i : Nat) : Int) := by
  unfold Zcd.f
  rw [u64i (by omega), if_pos (by omega), shl1 h]
theorem imOneI {i : Nat} (h : i < 63) : Zc2.f (i : Int) = some ((2 ^ i : Nat) : Int) := by
  unfold Zc2.f
  rw [if_pos (by omega), shl1 h]
theorem fullW {n : Nat} (h : n < 63) : wrap64 (((2 ^ n : Nat) : Int) - 1) = ((2 ^ n - 1 : Nat) : Int) := by
  have h1 := Nat.pow_lt_pow_right (a := 2) (by decide) h
  have h2 : 0 < 2 ^ n := Nat.pow_pos (by decide)
  generalize 2 ^ n = p at h1 h2
  have h3 : (2 : Nat) ^ 63 = 9223372036854775808 := by decide
  rw [h3] at h1
  rw [w64 (by omega) (by omega)]
  omega
theorem spFullI {n : Nat} (h : n < 63) : Zco.f (n : Int) = some ((2 ^ n - 1 : Nat) : Int) := by
  unfold Zco.f
  rw [spOneI h]
  simp only [Option.bind_some]
  rw [fullW h]
theorem spBitI {m s : Nat} (hm : m < 2 ^ 63) (hs : s ≤ 64) : Za5.f (m : Int) (s : Int) = some (m.testBit s) := by
  unfold Za5.f
  rw [u64i (by omega), if_pos (by omega), hasN hm hs]
theorem imHasI {m s : Nat} (hm : m < 2 ^ 63) (hs : s ≤ 64) : impl_has.f (m : Int) (s : Int) = some (m.testBit s) := by
  unfold impl_has.f
  rw [if_pos (by omega), hasN hm hs]
/-- Does row a of a relation have b? -/
def bt (d : List Int) (a b : Nat) : Bool := (d.getD a 0).toNat.testBit b
def okRow (d : List Int) (a : Nat) : Prop := bt d a a = true ∧ ∀ b, b < d.length → bt d a b = bt d b a
instance (d : List Int) (a : Nat) : Decidable (okRow d a) := by unfold okRow; exact inferInstance
def symB (d : List Int) : Bool := decide (∀ a, a < d.length → okRow d a)
/-- Is it an alphabet? -/
def alB (n : Int) (d : List Int) : Bool := inI n 0 8 && (decide ((d.length : Int) = n) && ((d.all fun t => inI t 0 ((2 ^ d.length - 1 : Nat) : Int)) && symB d))
theorem symB_no {d : List Int} {a : Nat} (ha : a < d.length) (h : ¬ okRow d a) : symB d = false := decide_eq_false fun hh => h (hh a ha)
theorem masks_ev (d : List Int) (hn : d.length ≤ 8) : Ev (fun k => Zbu.f k (d.length : Int) d) (d.all fun t => inI t 0 ((2 ^ d.length - 1 : Nat) : Int)) := by
  have key := Ev.up (fun k (_ : Unit) i => Zbu.l0 k (d.length : Int) d i) d.length (fun i _ => (d.drop i).all fun t => inI t 0 ((2 ^ d.length - 1 : Nat) : Int)) (fun _ _ => True)
    (fun _ _ => by
      refine Ev.round ?_
      simp only [Zbu.l0]
      refine Ev.no (by omega) ?_
      rw [List.drop_length]
      exact Ev.now _)
    (fun i _ hi _ ih => by
      refine Ev.round ?_
      simp only [Zbu.l0]
      refine Ev.yes (by omega) (Ev.yes (by omega) (Ev.here (spFullI (by omega)) (Ev.here (spInI _ _ _) ?_)))
      rw [rd_lt hi, w64s (by omega), List.drop_eq_getElem_cons hi, List.all_cons]
      cases inI d[i] 0 ((2 ^ d.length - 1 : Nat) : Int)
      · exact Ev.no (by simp) (Ev.now _)
      · exact Ev.yes rfl (ih () trivial))
  have := key 0 () (by omega) trivial
  unfold Zbu.f
  simpa using this
/-- The rows are sets of letters. -/
def Sets (d : List Int) : Prop := d.length ≤ 8 ∧ ∀ a, a < d.length → 0 ≤ d.getD a 0 ∧ (d.getD a 0).toNat < 2 ^ d.length
theorem Sets.small {d : List Int} (h : Sets d) {a : Nat} (ha : a < d.length) : (d.getD a 0).toNat < 256 :=
  Nat.lt_of_lt_of_le (h.2 a ha).2 (show 2 ^ d.length ≤ 2 ^ 8 from Nat.pow_le_pow_right (by decide) h.1)
theorem Sets.rdE {d : List Int} (h : Sets d) {a : Nat} (ha : a < d.length) : rd d (a : Int) = ((d.getD a 0).toNat : Int) := by
  rw [rdn]; exact (Int.toNat_of_nonneg (h.2 a ha).1).symm
theorem sets_of {d : List Int} (hn : d.length ≤ 8) (h : (d.all fun t => inI t 0 ((2 ^ d.length - 1 : Nat) : Int)) = true) : Sets d := by
  refine ⟨hn, fun a ha => ?_⟩
  have := List.all_eq_true.1 h _ (List.getElem_mem ha)
  rw [inI_iff] at this
  rw [List.getD_eq_getElem?_getD, List.getElem?_eq_getElem ha]
  simp only [Option.getD_some]
  have h2 : 0 < 2 ^ d.length := Nat.pow_pos (by decide)
  generalize 2 ^ d.length = p at this h2
  omega
theorem spBitR {d : List Int} (h : Sets d) {a b : Nat} (ha : a < d.length) (hb : b ≤ 64) : Za5.f (rd d (a : Int)) (b : Int) = some (bt d a b) := by
  rw [h.rdE ha, spBitI (Nat.lt_of_lt_of_le (h.small ha) (by decide)) hb]
  rfl
theorem l02Loop (d : List Int) (h : Sets d) : Ev (fun k => Za7.l0 k 0 (d.length : Int) d) (symB d) := by
  have hn := h.1
  have key := Ev.up (fun k (_ : Unit) i => Za7.l0 k i (d.length : Int) d) d.length (fun _ _ => symB d) (fun i _ => ∀ a, a < i → okRow d a)
    (fun _ hI => by
      refine Ev.round ?_
      simp only [Za7.l0]
      refine Ev.no (by omega) ?_
      rw [show symB d = true from decide_eq_true hI]
      exact Ev.now _)
    (fun i _ hi hI ih => by
      refine Ev.round ?_
      simp only [Za7.l0]
      refine Ev.yes (by omega) (Ev.yes (by omega) (Ev.yes (by omega) (Ev.here (spBitR h hi (by omega)) ?_)))
      cases hb : bt d i i
      · refine Ev.no (by simp) ?_
        rw [symB_no hi (fun hh => by rw [hh.1] at hb; cases hb)]
        exact Ev.now _
      refine Ev.yes rfl ?_
      have inner := Ev.up (fun k (_ : Unit) j => Za7.l1 k (i : Int) j (d.length : Int) d) d.length (fun _ _ => symB d) (fun j _ => ∀ b, b < j → bt d i b = bt d b i)
        (fun _ hJ => by
          refine Ev.round ?_
          simp only [Za7.l1]
          refine Ev.no (by omega) ?_
          rw [w64s (by omega)]
          refine ih () fun a ha => ?_
          by_cases e : a = i
          · subst e; exact ⟨hb, hJ⟩
          · exact hI a (by omega))
        (fun j _ hj hJ ihj => by
          refine Ev.round ?_
          simp only [Za7.l1]
          refine Ev.yes (by omega) (Ev.yes (by omega) (Ev.yes (by omega) (Ev.here (spBitR h hi (by omega)) (Ev.yes (by omega) (Ev.yes (by omega) (Ev.here (spBitR h hj (by omega)) ?_))))))
          rw [w64s (by omega)]
          by_cases e : bt d i j = bt d j i
          · refine Ev.no (by simp [e]) (ihj () fun b hb' => ?_)
            by_cases e' : b = j
            · subst e'; exact e
            · exact hJ b (by omega)
          · refine Ev.yes (by simp [e]) ?_
            rw [symB_no hi (fun hh => e (hh.2 j hj))]
            exact Ev.now _)
      have := inner 0 () (by omega) (fun b hb => absurd hb (by omega))
      simpa using this)
  have := key 0 () (by omega) (fun b hb => absurd hb (by omega))
  simpa using this
theorem l02Is_ev (n : Int) (d : List Int) : Ev (fun k => Za7.f k n d) (alB n d) := by
  unfold Za7.f alB
  have hno : Ev (fun k => Za7.j0 k true n d) false := Ev.round (by simp only [Za7.j0]; exact Ev.yes (by trivial) (Ev.now _))
  refine Ev.here (spInI _ _ _) ?_
  cases h1 : inI n 0 8
  · exact Ev.no (by simp) hno
  rw [inI_iff] at h1
  refine Ev.yes rfl ?_
  by_cases h2 : (d.length : Int) = n
  · subst h2
    refine Ev.yes rfl (Ev.bind (masks_ev d (by omega)) (Ev.round ?_))
    simp only [Za7.j0]
    rw [decide_true]
    cases h3 : d.all fun t => inI t 0 ((2 ^ d.length - 1 : Nat) : Int)
    · exact Ev.yes rfl (Ev.now _)
    · exact Ev.no (by simp) (l02Loop d (sets_of (by omega) h3))
  · refine Ev.no h2 ?_
    rw [decide_eq_false h2]
    exact hno
/-- The members of a small set. -/
def memN (m : Nat) : List Nat := (List.range 8).filter (m.testBit ·)
theorem mem_step : ∀ m : Fin 256, m.val ≠ 0 → (impl_least.f (m.val : Int) = some ((Lib.ctz 64 m.val : Nat) : Int) ∧ Go.bits .and .i64 (m.val : Int) (wrap64 ((m.val : Int) - 1)) = ((m.val &&& (m.val - 1) : Nat) : Int)
    ∧ m.val &&& (m.val - 1) < m.val ∧ memN m.val = Lib.ctz 64 m.val :: memN (m.val &&& (m.val - 1))) := by decide +kernel
theorem members_loop (m : Nat) (hm : m < 256) : ∀ acc : List Int, acc.length + m < 17592186044416 → Ev (fun k => Zb3.l0 k (m : Int) acc) (acc ++ (memN m).map Int.ofNat) := by
  induction m using Nat.strongRecOn with
  | _ m ih =>
    intro acc ha
    refine Ev.round ?_
    simp only [Zb3.l0]
    by_cases h0 : m = 0
    · subst h0
      refine Ev.yes rfl ?_
      rw [show memN 0 = [] from by decide, List.map_nil, List.append_nil]
      exact Ev.now _
    · obtain ⟨h1, h2, h3, h4⟩ := mem_step ⟨m, hm⟩ h0
      simp only at h1 h2 h3 h4
      refine Ev.no (by omega) (Ev.here h1 (Ev.yes (by omega) ?_))
      rw [h2, h4, List.map_cons]
      have := ih _ h3 (by omega) (acc ++ [((Lib.ctz 64 m : Nat) : Int)]) (by rw [List.length_append, List.length_singleton]; omega)
      rw [List.append_assoc] at this
      exact this
theorem members_ev {m : Nat} (hm : m < 256) : Ev (fun k => Zb3.f k (m : Int)) ((memN m).map Int.ofNat) := by
  unfold Zb3.f
  have := members_loop m hm [] (by have : ([] : List Int).length = 0 := rfl; omega)
  simpa using this
theorem mem_memN {m k : Nat} (hm : m < 256) : k ∈ memN m ↔ m.testBit k = true := by
  unfold memN
  rw [List.mem_filter, List.mem_range]
  refine ⟨fun h => h.2, fun h => ⟨?_, h⟩⟩
  rcases Nat.lt_or_ge k 8 with h8 | h8
  · exact h8
  · rw [Nat.testBit_lt_two_pow (Nat.lt_of_lt_of_le hm (show 2 ^ 8 ≤ 2 ^ k from Nat.pow_le_pow_right (by decide) h8))] at h
    cases h
/-- The converse's row k from the first i rows. -/
def cvN (d : List Int) (i k : Nat) : Nat := orN (fun j => bt d j k) i 0
theorem cvN_lt (d : List Int) {i k : Nat} (hi : i ≤ 8) : cvN d i k < 256 := orN_lt _ i 0 8 hi (by decide)
def cvTo (d : List Int) (i : Nat) : List Int := (List.range d.length).map fun k => ((cvN d i k : Nat) : Int)
theorem converse_ev (d : List Int) (h : Sets d) : Ev (fun k => Za2.f k d) (cvTo d d.length) := by
  have hn := h.1
  have key := Ev.up (fun k (s : List Int) i => Za2.l0 k s d (d.length : Int) i) d.length (fun _ _ => cvTo d d.length) (fun i s => s = cvTo d i)
    (fun s hs => by
      refine Ev.round ?_
      simp only [Za2.l0]
      refine Ev.no (by omega) ?_
      rw [hs]
      exact Ev.now _)
    (fun i s hi hs ih => by
      refine Ev.round ?_
      simp only [Za2.l0]
      refine Ev.yes (by omega) (Ev.yes (by omega) (Ev.yes (by omega) ?_))
      rw [h.rdE hi]
      have hm := h.small hi
      refine Ev.bind (members_ev hm) ?_
      generalize hM : (d.getD i 0).toNat = m at hm
      have hbt : ∀ k, bt d i k = m.testBit k := fun k => by unfold bt; rw [hM]
      have hlt : ∀ k, k ∈ memN m → k < d.length := fun k hk => by
        rw [mem_memN hm] at hk
        rcases Nat.lt_or_ge k d.length with h8 | h8
        · exact h8
        · have := (h.2 i hi).2
          rw [hM] at this
          rw [Nat.testBit_lt_two_pow (Nat.lt_of_lt_of_le this (Nat.pow_le_pow_right (by decide) h8))] at hk
          cases hk
      have hlen : (memN m).length ≤ 8 := by unfold memN; exact Nat.le_trans (List.length_filter_le _ _) (by simp)
      have hgl : ((memN m).map Int.ofNat).length = (memN m).length := List.length_map _
      have inner := Ev.up (fun k (s : List Int) j => Za2.l1 k s (i : Int) d (d.length : Int) (i : Int) ((memN m).map Int.ofNat) (((memN m).map Int.ofNat).length : Int) j) (memN m).length (fun _ _ => cvTo d d.length)
        (fun j s => s = (List.range d.length).map fun k => ((cvN d i k ||| (if k ∈ (memN m).take j then 2 ^ i else 0) : Nat) : Int))
        (fun s hs => by
          refine Ev.round ?_
          simp only [Za2.l1]
          refine Ev.no (by omega) ?_
          rw [w64s (by omega)]
          refine ih _ ?_
          rw [hs, List.take_length]
          unfold cvTo
          refine List.map_congr_left fun k _ => ?_
          congr 1
          unfold cvN
          by_cases hk : k ∈ memN m
          · rw [if_pos hk, orN_yes (by show bt d i k = true; rw [hbt]; exact (mem_memN hm).1 hk)]
          · rw [if_neg hk, orN_no (by
              show bt d i k = false
              rw [hbt]
              cases hq : m.testBit k
              · rfl
              · exact absurd ((mem_memN hm).2 hq) hk), Nat.or_zero])
        (fun j s hj hs ihj => by
          refine Ev.round ?_
          simp only [Za2.l1]
          have hg : rd ((memN m).map Int.ofNat) (j : Int) = (((memN m)[j] : Nat) : Int) := by
            rw [rd_lt (by omega), List.getElem_map]; rfl
          rw [hg]
          have htl := hlt _ (List.getElem_mem hj)
          have htk : ∀ k, k ∈ (memN m).take (j + 1) ↔ k ∈ (memN m).take j ∨ k = (memN m)[j] := fun k => by
            rw [List.take_add_one, List.getElem?_eq_getElem hj, List.mem_append]
            simp
          generalize (memN m)[j] = t at htl htk
          have hsl : s.length = d.length := by rw [hs]; simp
          refine Ev.yes (by omega) (Ev.yes (by omega) (Ev.yes (by omega) (Ev.yes (by omega) (Ev.yes (by omega) (Ev.here (imOneI (by omega)) ?_)))))
          rw [w64s (by omega)]
          refine ihj _ ?_
          rw [Int.toNat_natCast, rd_lt (by omega : t < s.length)]
          have hx : (if t ∈ (memN m).take j then 2 ^ i else 0) < 2 ^ 8 := by
            split
            · exact Nat.pow_lt_pow_right (by decide) (by omega)
            · decide
          have hst : s[t]'(by omega) = ((cvN d i t ||| (if t ∈ (memN m).take j then 2 ^ i else 0) : Nat) : Int) := by simp only [hs, List.getElem_map, List.getElem_range]
          rw [hst, bor (Nat.lt_of_lt_of_le (Nat.or_lt_two_pow (cvN_lt d (by omega)) hx) (by decide)) (Nat.pow_lt_pow_right (by decide) (by omega)), hs]
          apply List.ext_getElem?
          intro k
          by_cases hk : k < d.length
          · by_cases e : k = t
            · subst e
              rw [List.getElem?_set_self (by simpa using hk)]
              simp only [List.getElem?_map, List.getElem?_range hk, Option.map_some]
              rw [if_pos ((htk k).2 (Or.inr rfl)), Nat.or_assoc]
              congr 3
              split
              · exact Nat.or_self _
              · exact Nat.zero_or _
            · rw [List.getElem?_set_ne (by omega)]
              simp only [List.getElem?_map, List.getElem?_range hk, Option.map_some]
              congr 4
              exact propext ((htk k).trans (or_iff_left e)).symm
          · rw [List.getElem?_eq_none (by simp; omega), List.getElem?_eq_none (by simp; omega)])
      have := inner 0 s (by omega) (by rw [hs]; unfold cvTo; refine List.map_congr_left fun k _ => ?_; simp)
      simpa using this)
  unfold Za2.f
  refine Ev.yes (by omega) (Ev.yes (by omega) ?_)
  have := key 0 (List.replicate d.length 0) (by omega) (by
    apply List.ext_getElem?
    intro k
    unfold cvTo
    by_cases hk : k < d.length
    · simp [hk, cvN, orN]
    · rw [List.getElem?_eq_none (by simp; omega), List.getElem?_eq_none (by simp; omega)])
  simpa using this
theorem cv_bit (d : List Int) (k j : Nat) : (cvN d d.length k).testBit j = (decide (j < d.length) && bt d j k) := by
  unfold cvN
  rw [testBit_orN]
  simp
theorem cv_row {d : List Int} (h : Sets d) {k : Nat} (hk : k < d.length) : (cvN d d.length k = (d.getD k 0).toNat ∧ (cvN d d.length k).testBit k = true) ↔ okRow d k := by
  have hb : ∀ b, ¬ b < d.length → bt d k b = false := fun b hb => by
    unfold bt
    exact Nat.testBit_lt_two_pow (Nat.lt_of_lt_of_le (h.2 k hk).2 (Nat.pow_le_pow_right (by decide) (by omega)))
  constructor
  · rintro ⟨h1, h2⟩
    have h3 : ∀ b, b < d.length → bt d b k = bt d k b := fun b hb => by
      have := cv_bit d k b
      rw [h1, decide_eq_true hb, Bool.true_and] at this
      exact this.symm
    refine ⟨?_, fun b hb => (h3 b hb).symm⟩
    rw [h1] at h2
    exact h2
  · rintro ⟨h1, h2⟩
    have e : cvN d d.length k = (d.getD k 0).toNat := by
      apply Nat.eq_of_testBit_eq
      intro j
      rw [cv_bit]
      by_cases hj : j < d.length
      · rw [decide_eq_true hj, Bool.true_and]
        exact (h2 j hj).symm
      · rw [decide_eq_false hj, Bool.false_and]
        exact (hb j hj).symm
    exact ⟨e, by rw [e]; exact h1⟩
theorem isAl_loop (d : List Int) (h : Sets d) : Ev (fun k => Zay.l0 k (cvTo d d.length) (d.length : Int) 0 (d.length : Int) d) (symB d) := by
  have hn := h.1
  have hcl : (cvTo d d.length).length = d.length := by simp [cvTo]
  have key := Ev.up (fun k (_ : Unit) i => Zay.l0 k (cvTo d d.length) (d.length : Int) i (d.length : Int) d) d.length (fun _ _ => symB d) (fun i _ => ∀ a, a < i → okRow d a)
    (fun _ hI => by
      refine Ev.round ?_
      simp only [Zay.l0]
      refine Ev.no (by omega) ?_
      rw [show symB d = true from decide_eq_true hI]
      exact Ev.now _)
    (fun i _ hi hI ih => by
      refine Ev.round ?_
      simp only [Zay.l0]
      have hg : rd (cvTo d d.length) (i : Int) = ((cvN d d.length i : Nat) : Int) := by
        rw [rd_lt (by omega)]; unfold cvTo; rw [List.getElem_map, List.getElem_range]
      have hl := cvN_lt d (k := i) hn
      refine Ev.yes (by omega) (Ev.yes (by omega) (Ev.yes (by omega) (Ev.yes (by omega) ?_)))
      rw [hg, h.rdE hi, w64s (by omega)]
      have hc := cv_row h hi
      by_cases e : cvN d d.length i = (d.getD i 0).toNat
      · refine Ev.yes (by rw [e]) (Ev.here (imHasI (by omega) (by omega)) ?_)
        cases hb : (cvN d d.length i).testBit i
        · refine Ev.no (by simp) ?_
          rw [symB_no hi (fun hh => by have := (hc.2 hh).2; rw [hb] at this; cases this)]
          exact Ev.now _
        · refine Ev.yes rfl (ih () fun a ha => ?_)
          by_cases e' : a = i
          · subst e'; exact hc.1 ⟨e, hb⟩
          · exact hI a (by omega)
      · refine Ev.no (by omega) ?_
        rw [symB_no hi (fun hh => e (hc.2 hh).1)]
        exact Ev.now _)
  have := key 0 () (by omega) (fun b hb => absurd hb (by omega))
  simpa using this
theorem isAl_ev (n : Int) (d : List Int) : Ev (fun k => Zay.f k n d) (alB n d) := by
  unfold Zay.f alB
  have hno : Ev (fun k => Zay.j0 k true n d) false := Ev.round (by simp only [Zay.j0]; exact Ev.yes (by trivial) (Ev.now _))
  refine Ev.here (imInI _ _ _) ?_
  cases h1 : inI n 0 8
  · exact Ev.no (by simp) hno
  rw [inI_iff] at h1
  refine Ev.yes rfl (Ev.here (show Zbw.f d = some (d.length : Int) from rfl) ?_)
  by_cases h2 : (d.length : Int) = n
  · subst h2
    refine Ev.yes rfl ?_
    have hr : Zdc.f d = some (d.all fun t => inI t 0 ((2 ^ d.length - 1 : Nat) : Int)) := by
      unfold Zdc.f
      rw [if_pos (by omega)]
      refine (congrArg (fun o => Option.bind o _) (show Zbw.f d = some (d.length : Int) from rfl)).trans ?_
      simp only [Option.bind_some]
      rw [imOneI (by omega)]
      simp only [Option.bind_some]
      rw [fullW (by omega)]
      rfl
    refine Ev.here hr (Ev.round ?_)
    simp only [Zay.j0]
    rw [decide_true]
    cases h3 : d.all fun t => inI t 0 ((2 ^ d.length - 1 : Nat) : Int)
    · exact Ev.yes rfl (Ev.now _)
    · refine Ev.no (by simp) (Ev.bind (converse_ev d (sets_of (by omega) h3)) ?_)
      have hcl : (cvTo d d.length).length = d.length := by simp [cvTo]
      rw [hcl]
      simpa using isAl_loop d (sets_of (by omega) h3)
  · refine Ev.no h2 ?_
    rw [decide_eq_false h2]
    exact hno
end Go.Proofs.YtjdkedmdeajmgaaDoor.U
end M5
section M6
namespace Go.Proofs.YtjdkedmdeajmgaaDoor.U
open Go.RowKit Go.Proofs.YtjdkedmdeajmgaaDoor.P Go.Proofs.YtjdkedmdeajmgaaDoorW.PrintWords Go.Proofs.YtjdkedmdeajmgaaDoorW.PrintLast Go.Proofs.YtjdkedmdeajmgaaDoorW.PrintMore
set_option linter.unusedVariables false
/-! Diamonds: the first fault, both ways. -/
def f2 (ok : Nat → Nat → Nat → Bool) (L s a b : Nat) : Option (List Int) := (List.range' b (L - b)).findSome? fun b => if ok s a b then none else some [(s : Int), (a : Int), (b : Int)]
def f1 (ok : Nat → Nat → Nat → Bool) (L s a : Nat) : Option (List Int) := (List.range' a (L - a)).findSome? fun a => f2 ok L s a (a + 1)
theorem alB_ok {n : Int} {d : List Int} (h : alB n d = true) : 0 ≤ n ∧ n ≤ 8 ∧ (d.length : Int) = n ∧ Sets d := by
  unfold alB inI at h
  simp only [Bool.and_eq_true, decide_eq_true_eq] at h
  obtain ⟨⟨h0, h1⟩, h2, h3, _⟩ := h
  refine ⟨h0, h1, h2, sets_of (by omega) ?_⟩
  unfold inI
  exact h3
theorem l02Dep_eq {n : Int} {d : List Int} (h : Sets d) {a b : Nat} (ha : a < d.length) (hb : b ≤ 64) : Zdf.f n d (a : Int) (b : Int) = some (bt d a b) := by
  unfold Zdf.f
  rw [if_pos (by omega), if_pos (by omega), spBitR h ha hb]
  rfl
theorem szAlX (n : Int) (d : List Int) (hd : d.length ≤ maxLen) : Zc4.f n d 1048576 = some (if d.length ≤ 1048576 then ((1048576 - d.length : Nat) : Int) else -1) := by
  unfold maxLen at hd
  unfold Zc4.f Zdi.f
  rw [w64 (by omega) (by omega)]
  by_cases h : d.length ≤ 1048576
  · rw [if_neg (by omega), if_pos h]
    simp only [Option.bind_some]
    rw [if_neg (by omega)]
    congr 1; omega
  · rw [if_pos (by omega), if_neg h]
    rfl
theorem toAlX (n : Int) (d : List Int) (hd : d.length ≤ 35184372088832) : Ev (fun k => Zb1.f k n d) (n, d) := by
  unfold Zb1.f
  exact Ev.bind (toS d hd) (Ev.now _)
theorem eqAlX (n : Int) (d : List Int) (hd : d.length ≤ 35184372088832) : Ev (fun k => Zdb.f k n d n d) true := by
  have h1 : Ev (fun k => Zbf.f k d d) true := by
    have := eqS d d (by omega)
    rw [decide_eq_true rfl] at this
    exact this
  unfold Zdb.f
  exact Ev.yes rfl (Ev.bind h1 (Ev.yes rfl (Ev.now _)))
end Go.Proofs.YtjdkedmdeajmgaaDoor.U
end M6
section M7
namespace Go.Proofs.YtjdkedmdeajmgaaDoor.U
open Go.RowKit Go.Proofs.YtjdkedmdeajmgaaDoor.P Go.Proofs.YtjdkedmdeajmgaaDoorW.PrintWords Go.Proofs.YtjdkedmdeajmgaaDoorW.PrintLast
set_option linter.unusedVariables false
/-! The least automaton of a machine, as the program hands it out. -/
def AutR (L : Int) (qs : List Lang) (rows : List (List Int)) : Int × Int × Int × List (List Int) × Int := if qs.length ≤ 16 then (L, 0, maskQ qs, rows, 0) else (0, 0, 0, [], 3)
theorem autoMask_ev {L : Int} {rows : List (List Int)} (qs : List Lang) (b : qs.length ≤ 16) :
    Ev (fun k => Za3.l0 k (qs.map fun q => q []) ((qs.map fun q => q []).length : Int) 0 L 0 0 rows) (L, 0, maskQ qs, rows, 0) := by
  have hl : (qs.map fun q => q []).length = qs.length := by simp
  have key := Ev.up (fun k (m : Int) i => Za3.l0 k (qs.map fun q => q []) ((qs.map fun q => q []).length : Int) i L 0 m rows) qs.length (fun _ _ => (L, 0, maskQ qs, rows, 0))
    (fun i m => m = ((orN (fun j => ((qs[j]?).map fun q => q []).getD false) i 0 : Nat) : Int))
    (fun m hm => by
      refine Ev.round ?_
      simp only [Za3.l0]
      refine Ev.no (by omega) ?_
      rw [hm]
      exact Ev.now _)
    (fun i m hi hm ih => by
      refine Ev.round ?_
      simp only [Za3.l0]
      have e := List.getElem?_eq_getElem hi
      have a : rdOf false (qs.map fun q => q []) (i : Int) = qs[i] [] := by rw [rdOf_lt (by omega)]; simp
      rw [a]
      refine Ev.yes (by omega) (Ev.yes (by omega) (Ev.yes (by omega) ?_))
      rw [w64s (by omega)]
      have hlt : orN (fun j => ((qs[j]?).map fun q => q []).getD false) i 0 < 2 ^ 63 := orN_lt _ _ _ 63 (by omega) (by decide)
      have hp : (2 : Nat) ^ i < 2 ^ 63 := Nat.pow_lt_pow_right (by decide) (by omega)
      cases hv : qs[i] []
      · refine Ev.no (by simp) (ih m ?_)
        rw [hm, orN_succ, if_neg (by rw [e]; simp [hv])]
      · refine Ev.yes rfl (Ev.here (show Zc2.f (i : Int) = some ((2 ^ i : Nat) : Int) by unfold Zc2.f; rw [if_pos (by omega), shl1 (by omega)]) (ih _ ?_))
        rw [hm, bor hlt hp, orN_succ, if_pos (by rw [e]; simp [hv])])
  have := key 0 0 (by omega) rfl
  simpa using this
theorem auto_of {L S : Int} {N : List (List Int)} {fin : List Bool} {qs : List Lang} {rows : List (List Int)} (h : Ev (fun k => Zal.f k L S fin N) (L, 0, qs.map (fun q => q []), rows)) (hl : rows.length = qs.length) :
    Ev (fun k => Za3.f k L S fin N) (AutR L qs rows) := by
  unfold Za3.f AutR
  refine Ev.bind h ?_
  by_cases a : qs.length ≤ 16
  · rw [if_pos a]
    exact Ev.no (by dsimp only; omega) (autoMask_ev qs a)
  · rw [if_neg a]
    exact Ev.yes (by dsimp only; omega) (Ev.now _)
theorem auto_ev {L S : Int} {N : List (List Int)} {fin : List Bool} (hN : Rows' L N) (hn : N.length ≤ 65535) (hf : fin.length = N.length) (hL : 0 ≤ L) (a : L ≤ 8) (hS : 0 ≤ S) (hSn : S < N.length) :
    ∃ qs rows, Zdj L.toNat (accM L N fin S.toNat) (qs, rows) ∧ qs.length ≤ N.length ∧ Ev (fun k => Za3.f k L S fin N) (AutR L qs rows) := by
  obtain ⟨r, h1, qs, rows, h2, rfl, h4⟩ := minimal_ev (fin := fin) hN hn hf hL a hS hSn
  exact ⟨qs, rows, h2, h4, auto_of h1 h2.facts.len⟩
/-- A least machine's rows are few and short. -/
theorem least_sz {L : Int} {q : Lang} {qs : List Lang} {rows : List (List Int)} (hL : 0 ≤ L) (a : L ≤ 8) (h : Zdj L.toNat q (qs, rows)) (b : qs.length ≤ 16) : sz2 rows ≤ 1048576 := by
  have I := h.facts
  have hl := I.len
  have key : ∀ l : List (List Int), (∀ x ∈ l, x.length ≤ 8) → sz2 l ≤ 9 * l.length := by
    intro l
    induction l with
    | nil => intro _; simp [sz2]
    | cons x l ih =>
      intro hx
      have h1 := ih (fun y hy => hx y (by simp [hy]))
      have h2 := hx x (by simp)
      simp only [sz2, List.map_cons, List.sum_cons, List.length_cons] at h1 ⊢
      omega
  have := key rows (fun x hx => by have := I.wid x hx; omega)
  omega
theorem autR_sz {L : Int} {q : Lang} {qs : List Lang} {rows : List (List Int)} (hL : 0 ≤ L) (a : L ≤ 8) (h : Zdj L.toNat q (qs, rows)) : sz2 (AutR L qs rows).2.2.2.1 ≤ 1048576 := by
  unfold AutR
  split
  · exact least_sz hL a h (by assumption)
  · simp [sz2]
end Go.Proofs.YtjdkedmdeajmgaaDoor.U
end M7
section M8
namespace Go.Proofs.YtjdkedmdeajmgaaDoor.U
open Go.RowKit Go.Proofs.YtjdkedmdeajmgaaDoor.P Go.Proofs.YtjdkedmdeajmgaaDoorW.PrintWords Go.Proofs.YtjdkedmdeajmgaaDoorW.PrintLast
set_option linter.unusedVariables false
/-! The machine of the normal forms: its states are the letters that may not follow. -/
def aft (d : List Int) (s a : Nat) : Nat := orN (fun b => !bt d b a && (decide (b < a) || s.testBit b)) d.length 0
def nfN (d : List Int) (s a : Nat) : Option Nat := if s.testBit a then none else some (aft d s a)
theorem aft_lt (d : List Int) (s a : Nat) : aft d s a < 2 ^ d.length := orN_lt _ _ _ _ (Nat.le_refl _) (Nat.pow_pos (by decide))
theorem pow8 {d : List Int} (h : Sets d) : 2 ^ d.length ≤ 256 := Nat.pow_le_pow_right (n := 2) (by decide) h.1
theorem bandNot {a b : Nat} (ha : a < 2 ^ 63) (hb : b < 2 ^ 63) : ∃ c : Nat, Go.bits .andNot .i64 (a : Int) (b : Int) = (c : Int) ∧ ∀ j, c.testBit j = (a.testBit j && !b.testBit j) := by
  have hle : (BitVec.ofNat 64 a &&& ~~~BitVec.ofNat 64 b).toNat < 2 ^ 63 := by
    rw [BitVec.toNat_and, BitVec.toNat_ofNat, Nat.mod_eq_of_lt (by omega)]
    exact Nat.lt_of_le_of_lt Nat.and_le_left ha
  refine ⟨(BitVec.ofNat 64 a &&& ~~~BitVec.ofNat 64 b).toNat, ?_, fun j => ?_⟩
  · show IntKind.i64.wrap (((BitVec.ofInt 64 (a : Int) &&& ~~~BitVec.ofInt 64 (b : Int)).toNat : Nat) : Int) = _
    rw [BitVec.ofInt_natCast, BitVec.ofInt_natCast]
    exact i64_id _ (Int.natCast_nonneg _) (by exact_mod_cast hle)
  · rw [BitVec.testBit_toNat, BitVec.getLsbD_and, BitVec.getLsbD_not, BitVec.getLsbD_ofNat, BitVec.getLsbD_ofNat]
    by_cases hj : j < 64
    · simp [hj]
    · have : a.testBit j = false := Nat.testBit_lt_two_pow (Nat.lt_of_lt_of_le ha (Nat.pow_le_pow_right (by decide) (by omega)))
      simp [this]
theorem forb_eq {d : List Int} (h : Sets d) (hs : symB d = true) {s a : Nat} (ha : a < d.length) (hv : s < 2 ^ d.length) : Zcl.f d (s : Int) (a : Int) = some ((aft d s a : Nat) : Int) := by
  have h8 := pow8 h
  have hl := h.1
  have hp : 2 ^ a < 2 ^ 63 := Nat.pow_lt_pow_right (by decide) (by omega)
  have e : 0 < 2 ^ a := Nat.pow_pos (by decide)
  have hsy := (of_decide_eq_true hs) a ha
  unfold Zcl.f
  rw [imOneI (by omega)]
  simp only [Option.bind_some]
  rw [if_pos (by omega), if_pos (by omega), fullW (by omega), bor (by omega) (by omega), h.rdE ha]
  have hsm := h.small ha
  obtain ⟨c, h1, h2⟩ := bandNot (a := s ||| (2 ^ a - 1)) (b := (d.getD a 0).toNat) (Nat.or_lt_two_pow (by omega) (by omega)) (by omega)
  rw [h1]
  congr 2
  refine Nat.eq_of_testBit_eq fun j => ?_
  rw [h2, aft, testBit_orN, Nat.zero_testBit, Bool.false_or, Nat.testBit_or, Nat.testBit_two_pow_sub_one]
  by_cases hj : j < d.length
  · have hb : (d.getD a 0).toNat.testBit j = bt d j a := hsy.2 j hj
    rw [hb, decide_eq_true hj, Bool.true_and, Bool.and_comm, Bool.or_comm]
  · have hz : s.testBit j = false := Nat.testBit_lt_two_pow (Nat.lt_of_lt_of_le hv (Nat.pow_le_pow_right (by decide) (by omega)))
    rw [hz, decide_eq_false hj, decide_eq_false (by omega)]
    rfl
theorem nmStep_eq {d : List Int} (h : Sets d) (hs : symB d = true) {s a : Nat} (ha : a < d.length) (hv : s < 2 ^ d.length) : nmStep d (s : Int) (a : Int) = some (((aft d s a : Nat) : Int), !s.testBit a) := by
  have h8 := pow8 h
  have hl := h.1
  unfold nmStep
  rw [forb_eq h hs ha hv, imHasI (by omega) (by omega)]
  rfl
theorem nf_fold {d : List Int} {x : Nat} (a : Nat) {l : List Nat} (hn : l.Nodup) (hv : ∀ y ∈ l, y < 2 ^ d.length) :
    ∃ ext, ((List.range a).foldl (eStep (nfN d) x) (l, [])).1 = l ++ ext ∧ ((List.range a).foldl (eStep (nfN d) x) (l, [])).2.length = a ∧ (l ++ ext).Nodup ∧ ∀ y ∈ l ++ ext, y < 2 ^ d.length := by
  obtain ⟨ext, row, h1, h2, _, h4, h5⟩ := eFold_ent (nxt := nfN d) x a l hn
  rw [h1]
  refine ⟨ext, rfl, h2, h4, fun y hy => ?_⟩
  rcases List.mem_append.1 hy with hy | hy
  · exact hv y hy
  · obtain ⟨b, _, e⟩ := h5 y hy
    unfold nfN at e
    split at e
    · cases e
    · rw [← Option.some.inj e]; exact aft_lt d x b
theorem few {d : List Int} (h : Sets d) {l : List Nat} (hn : l.Nodup) (hv : ∀ y ∈ l, y < 2 ^ d.length) : l.length ≤ 256 := by
  have h8 := pow8 h
  have := Zdk (l' := List.range 256) hn (fun x hx => List.mem_range.2 (by have := hv x hx; omega))
  simpa using this
theorem castFind (l : List Nat) (t : Nat) : (l.findIdx? fun (y : Nat) => decide ((y : Int) = (t : Int))) = l.findIdx? fun y => decide (y = t) := by
  congr 1
  funext y
  by_cases e : y = t
  · rw [decide_eq_true e, decide_eq_true (by omega)]
  · rw [decide_eq_false e, decide_eq_false (by omega)]
def cs (x : Nat) : Int := (x : Int)
theorem nmC_f (gb : Nat) (A : Option Addr) (c : Nat) (l : List Int) (k : Nat) (s a : Int) : Zcw.f k (nmC gb A c l) s a = nmStep l s a := rfl
theorem nmG_f (k : Nat) (s : Int) : Zc7.f k nmG s = some true := rfl
theorem rdCast {l : List Nat} {i x : Nat} (h : l[i]? = some x) : rd (l.map fun (x : Nat) => (x : Int)) (i : Int) = (x : Int) := by
  have hg : (l.map fun (x : Nat) => (x : Int))[i]? = some (x : Int) := by rw [List.getElem?_map, h]; rfl
  have hlt := (List.getElem?_eq_some_iff.1 hg).1
  rw [rd_lt hlt]; exact (List.getElem?_eq_some_iff.1 hg).2
set_option maxHeartbeats 1000000 in
theorem explored_run {d : List Int} (h : Sets d) (hs : symB d = true) : ∀ (f i : Nat) (l : List Nat) (rows : List (List Int)) (r : List Nat × List (List Int)), eRun d.length (nfN d) f i l rows = some r → (∀ y ∈ l, y < 2 ^ d.length) → l.Nodup → i ≤ l.length → rows.length = i →
    Ev (fun k => Zar.l0 k (d.length : Int) 1073741824 (nmC 0 none 0 d) nmG (l.map fun (x : Nat) => (x : Int)) (i : Int) (Zcr cs l 0) (d.length : Int) 0 (List.replicate i true) rows) ((d.length : Int), 0, List.replicate r.1.length true, r.2, true)
  | 0, i, l, rows, r, hr, _, _, _, _ => by simp [eRun] at hr
  | f + 1, i, l, rows, r, hr, hv, hn, hi, hw => by
    have h8 := h.1
    have hll := few h hn hv
    unfold eRun at hr
    refine Ev.round ?_
    simp only [Zar.l0]
    cases e : l[i]? with
    | none =>
      rw [e] at hr
      have hr := Option.some.inj hr
      subst hr
      have hge := List.getElem?_eq_none_iff.1 e
      have hil : i = l.length := by omega
      refine Ev.no (by simp; omega) ?_
      rw [hil]
      exact Ev.now _
    | some x =>
      rw [e] at hr
      have hlt := (List.getElem?_eq_some_iff.1 e).1
      have hx := hv x (List.mem_of_getElem? e)
      refine Ev.yes (by simp; omega) ?_
      have letters := Ev.up (fun k (st : List Nat × List Int) a => Zar.l1 k (d.length : Int) 1073741824 (nmC 0 none 0 d) nmG (st.1.map fun (x : Nat) => (x : Int)) (i : Int) st.2 (d.length : Int) a (Zcr cs st.1 0) (d.length : Int) 0 (List.replicate i true) rows) d.length (fun _ _ => ((d.length : Int), 0, List.replicate r.1.length true, r.2, true))
        (fun a st => st = (List.range a).foldl (eStep (nfN d) x) (l, []))
        (fun st hst => by
          obtain ⟨ext, g1, g2, g3, g4⟩ := nf_fold (x := x) d.length hn hv
          rw [← hst] at g1 g2
          rw [← g1] at g3 g4
          have g := few h g3 g4
          have hg : st.1[i]? = some x := by rw [g1, List.getElem?_append_left hlt, e]
          have c := (List.getElem?_eq_some_iff.1 hg).1
          refine Ev.round ?_
          simp only [Zar.l1, nmC_f, nmG_f]
          refine Ev.no (by omega) (Ev.yes (by omega) (Ev.yes (by omega) (Ev.yes (by simp; omega) (Ev.here rfl (Ev.yes (by simp; omega) (Ev.no (by simp; omega) ?_))))))
          rw [w64s (by omega), ← List.replicate_succ']
          have hm : eRow d.length (nfN d) x l = st := hst.symm
          dsimp only at hr
          rw [hm] at hr
          exact explored_run h hs f (i + 1) st.1 (rows ++ [st.2]) r hr g4 g3 (by omega) (by simp [hw]))
        (fun a st ha hst ih => by
          obtain ⟨ext, g1, g2, g3, g4⟩ := nf_fold (x := x) a hn hv
          rw [← hst] at g1 g2
          rw [← g1] at g3 g4
          have g := few h g3 g4
          have hg : st.1[i]? = some x := by rw [g1, List.getElem?_append_left hlt, e]
          have c := (List.getElem?_eq_some_iff.1 hg).1
          have hfold : (List.range (a + 1)).foldl (eStep (nfN d) x) (l, []) = eStep (nfN d) x (st.1, st.2) a := by
            rw [List.range_succ, List.foldl_append, ← hst]; rfl
          refine Ev.round ?_
          simp only [Zar.l1, nmC_f, nmG_f]
          rw [rdCast hg, nmStep_eq h hs ha hx]
          refine Ev.yes (by omega) (Ev.yes (by omega) (Ev.yes (by simp; omega) (Ev.here rfl ?_)))
          rw [w64s (by omega)]
          cases hb : x.testBit a
          · have hnx : nfN d x a = some (aft d x a) := by unfold nfN; rw [hb]; rfl
            refine Ev.yes rfl ?_
            have b := mfind_mapOf cs (cs (aft d x a)) st.1 0 0
            rw [show (fun y => decide (cs y = cs (aft d x a))) = (fun (y : Nat) => decide ((y : Int) = ((aft d x a : Nat) : Int))) from rfl, castFind] at b
            cases hfi : st.1.findIdx? (fun y => decide (y = aft d x a)) with
            | some q =>
              have hes : eStep (nfN d) x (st.1, st.2) a = (st.1, st.2 ++ [(q : Int)]) := by
                unfold eStep; rw [hnx]; dsimp only; rw [hfi]
              rw [hfi] at b
              have hyes : mhas (Zcr cs st.1 0) ((aft d x a : Nat) : Int) = true := by unfold mhas; rw [show ((aft d x a : Nat) : Int) = cs (aft d x a) from rfl, b]; rfl
              have hget : mget 0 (Zcr cs st.1 0) ((aft d x a : Nat) : Int) = (q : Int) := by unfold mget; rw [show ((aft d x a : Nat) : Int) = cs (aft d x a) from rfl, b]; simp
              refine Ev.yes hyes (Ev.yes (by omega) ?_)
              rw [hget]
              exact ih (st.1, st.2 ++ [(q : Int)]) (by rw [hfold, hes])
            | none =>
              have hes : eStep (nfN d) x (st.1, st.2) a = (st.1 ++ [aft d x a], st.2 ++ [(st.1.length : Int)]) := by
                unfold eStep; rw [hnx]; dsimp only; rw [hfi]
              rw [hfi] at b
              have hno : mhas (Zcr cs st.1 0) ((aft d x a : Nat) : Int) = false := by unfold mhas; rw [show ((aft d x a : Nat) : Int) = cs (aft d x a) from rfl, b]; rfl
              refine Ev.no (by rw [hno]; simp) (Ev.yes (by simp; omega) (Ev.yes (by omega) ?_))
              have hset : mset (Zcr cs st.1 0) ((aft d x a : Nat) : Int) (st.1.length : Int) = Zcr cs (st.1 ++ [aft d x a]) 0 := by
                unfold mset
                rw [show ((aft d x a : Nat) : Int) = cs (aft d x a) from rfl, b, mapOf_snoc]
                rfl
              rw [List.length_map, hset]
              have := ih (st.1 ++ [aft d x a], st.2 ++ [(st.1.length : Int)]) (by rw [hfold, hes])
              simpa using this
          · have hes : eStep (nfN d) x (st.1, st.2) a = (st.1, st.2 ++ [-1]) := by
              unfold eStep nfN; rw [hb]; rfl
            refine Ev.no (by simp) (Ev.yes (by omega) ?_)
            exact ih (st.1, st.2 ++ [-1]) (by rw [hfold, hes]))
      have := letters 0 (l, []) (by omega) rfl
      simpa using this
theorem nf_V {d : List Int} : ∀ x a y, x < 2 ^ d.length → a < d.length → nfN d x a = some y → y < 2 ^ d.length := by
  intro x a y _ _ e
  unfold nfN at e
  split at e
  · cases e
  · rw [← Option.some.inj e]; exact aft_lt d x a
/-- All states, found one after another, and their rows. -/
theorem nf_ends {d : List Int} (h : Sets d) : ∃ r, eRun d.length (nfN d) 257 0 [0] [] = some r ∧ ExpI d.length (nfN d) (fun x => x < 2 ^ d.length) r.1 r.2 ∧ 0 < r.1.length ∧ r.1.length ≤ 256 := by
  have h8 := pow8 h
  have hst := exp_start (L := d.length) (nxt := nfN d) (V := fun x => x < 2 ^ d.length) (x := 0) (Nat.pow_pos (by decide))
  obtain ⟨r, hr⟩ := eRun_ends nf_V (u := List.range 256) (fun x hx => List.mem_range.2 (by omega)) 257 0 [0] [] hst (by simp)
  obtain ⟨hI, ext, he⟩ := eRun_I nf_V 257 0 [0] [] r hr hst
  exact ⟨r, hr, hI, by rw [he]; simp, few h hI.nodup hI.v⟩
theorem normalMachine_ev {d : List Int} (h : Sets d) (hs : symB d = true) {r : List Nat × List (List Int)} (hr : eRun d.length (nfN d) 257 0 [0] [] = some r) :
    Ev (fun k => Zc9.f k (d.length : Int) d) ((d.length : Int), 0, List.replicate r.1.length true, r.2) := by
  unfold Zc9.f Zar.f
  refine Ev.bind (a := ((d.length : Int), 0, List.replicate r.1.length true, r.2, true)) ?_ (Ev.now _)
  have := explored_run h hs 257 0 [0] [] r hr (fun y hy => by rw [List.mem_singleton.1 hy]; exact Nat.pow_pos (by decide)) (by simp) (by simp) rfl
  exact this
end Go.Proofs.YtjdkedmdeajmgaaDoor.U
end M8
