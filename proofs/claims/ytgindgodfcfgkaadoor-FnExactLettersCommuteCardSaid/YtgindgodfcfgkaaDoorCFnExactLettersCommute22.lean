/- For every alphabet and every automaton given as numbers and rows, the program's LettersCommute answers what the reference's answers and leaves its arguments as they were. No condition. -/
import Derived.ChangeOld
import Derived.ChangeSame
import Derived.Deep.DeepHandedRow
import Derived.Deep.Strs
import Derived.Lib.LaidTab
import Derived.OpenShut
import Derived.ProofKit
import Derived.ShutString
import Derived.SizedLaws
import Derived.Test.YtgindgodfcfgkaaDoorCards
import Derived.Test.YtgindgodfcfgkaaDoorChecked
import Derived.Test.YtgindgodfcfgkaaDoorTie
import Derived.Test.YtgindgodfcfgkaaDoorCFnExactLettersCommute21
section M0
namespace Go.Proofs.YtgindgodfcfgkaaDoor.U
open Go.RowKit Go.Proofs.YtgindgodfcfgkaaDoor.P Go.Proofs.YtgindgodfcfgkaaDoorW.PrintWords Go.Proofs.YtgindgodfcfgkaaDoorW.PrintLast Go.Proofs.YtgindgodfcfgkaaDoorW.PrintMore
set_option linter.unusedVariables false
theorem get_false {l : List Bool} {i : Nat} (h : i < l.length) (hv : rdOf false l (i : Int) = false) : l[i] = false := by rw [← rdOf_lt (d := false) h]; exact hv
theorem useful_ev {L S : Int} {N : List (List Int)} (fin : List Bool) (hN : Zcu L N) (hn : N.length ≤ 1048576) (hf : fin.length = N.length) (hL : 0 ≤ L) (o : L ≤ 1048576) (hS : 0 ≤ S) (hSn : S < N.length) :
    EvP (fun k => Zak.f k L S fin N) (IsUse L S N fin) := by
  have hrow : ∀ s : Nat, s < N.length → ((Zae N (s : Int)).length : Int) = L := fun s hs => (row_at hN (s := s) (by omega) (by omega)).1
  have hnx : ∀ s a : Nat, rd (Zae N (s : Int)) (a : Int) = nx N s a := fun s a => by unfold nx; rw [if_neg (by omega)]
  -- the last loop
  have l : ∀ re le : List Bool, re.length = N.length → le.length = N.length → (∀ s : Int, 0 ≤ s → s < N.length → (rdOf false re s = true ↔ Rch L N S s) ∧ (rdOf false le s = true ↔ Led L N fin s)) →
      EvP (fun k => Zak.l3 k re le (re.length : Int) 0) (IsUse L S N fin) := by
    intro re le hr hl hfull
    have loop := EvP.up (fun k (st : List Bool) i => Zak.l3 k st le (re.length : Int) i) (IsUse L S N fin) re.length
      (fun i st => st.length = N.length ∧ ∀ s : Int, 0 ≤ s → s < N.length → (rdOf false st s = true ↔ if s < (i : Int) then Rch L N S s ∧ Led L N fin s else Rch L N S s))
      (fun st ⟨h1, h2⟩ => by
        refine EvP.round ?_
        simp only [Zak.l3]
        refine EvP.no (by omega) (EvP.ret ⟨h1, fun s h3 h4 => ?_⟩)
        have := h2 s h3 h4
        rwa [if_pos (by omega)] at this)
      (fun i st hi ⟨h1, h2⟩ ih => by
        refine EvP.round ?_
        simp only [Zak.l3]
        refine EvP.yes (by omega) (EvP.yes (by omega) (EvP.yes (by omega) ?_))
        rw [w64s (by omega), Int.toNat_natCast]
        have g := h2 i (by omega) (by omega)
        rw [if_neg (by omega)] at g
        have hle := (hfull i (by omega) (by omega)).2
        have nxt : ∀ b : Bool, (b = true ↔ Rch L N S i ∧ Led L N fin i) → ∀ s : Int, 0 ≤ s → s < N.length → (rdOf false (st.set i b) s = true ↔ if s < ((i + 1 : Nat) : Int) then Rch L N S s ∧ Led L N fin s else Rch L N S s) := by
          intro b hb s h3 h4
          rw [rdOf_set h3]
          by_cases e : s = (i : Int)
          · subst e
            rw [if_pos ⟨rfl, by omega⟩, if_pos (by omega)]
            exact hb
          · rw [if_neg (by omega)]
            have := h2 s h3 h4
            by_cases h5 : s < (i : Int)
            · rw [if_pos h5] at this; rw [if_pos (by omega)]; exact this
            · rw [if_neg h5] at this; rw [if_neg (by omega)]; exact this
        cases hv : rdOf false st (i : Int)
        · refine EvP.no (by simp) (ih _ ⟨by simp [h1], nxt false ⟨fun h => (by cases h), fun h => ?_⟩⟩)
          rw [g.2 h.1] at hv; cases hv
        · refine EvP.yes rfl (EvP.yes (by omega) (ih _ ⟨by simp [h1], nxt _ ?_⟩))
          rw [hle]
          exact ⟨fun h => ⟨g.1 hv, h⟩, fun h => h.2⟩)
    have := loop 0 re (by omega) ⟨hr, fun s h3 h4 => by rw [if_neg (by omega)]; exact (hfull s h3 h4).1⟩
    simpa using this
  have main : ∀ q (re le : List Bool), Zb3 re + Zb3 le ≤ q → UseI L S N fin re le → EvP (fun k => Zak.l0 k re le true L S fin N) (IsUse L S N fin) := by
    intro q
    induction q using Nat.strongRecOn with
    | _ q ihq =>
    intro c d hm I0
    refine EvP.round ?_
    simp only [Zak.l0]
    refine EvP.yes (by trivial) ?_
    have pass := EvP.up (fun k (st : List Bool × List Bool × Bool) s => Zak.l1 k st.1 st.2.1 st.2.2 N (N.length : Int) s L S fin N) (IsUse L S N fin) N.length
      (fun s st => UseI L S N fin st.1 st.2.1 ∧ (Zb3 st.1 + Zb3 st.2.1 ≤ Zb3 c + Zb3 d ∧ (st.2.2 = true → Zb3 st.1 + Zb3 st.2.1 < Zb3 c + Zb3 d)) ∧ (st.2.2 = false → ∀ t a : Int, 0 ≤ t → t < (s : Int) → 0 ≤ a → a < L → paidU N st.1 st.2.1 t a))
      (fun st ⟨h1, h2, h3⟩ => by
        refine EvP.round ?_
        simp only [Zak.l1]
        refine EvP.no (by omega) ?_
        cases hb : st.2.2
        · refine EvP.round ?_
          simp only [Zak.l0]
          refine EvP.no (by simp) ?_
          exact l st.1 st.2.1 h1.rlen h1.live.len (useful_full hN hS hSn h1 (fun t a h4 h5 h6 h7 => h3 hb t a h4 h5 h6 h7))
        · exact ihq _ (by have := h2.2 hb; omega) st.1 st.2.1 (Nat.le_refl _) h1)
      (fun s st hs ⟨h1, h2, h3⟩ ih => by
        refine EvP.round ?_
        simp only [Zak.l1]
        refine EvP.yes (by omega) (EvP.yes (by omega) (EvP.yes (by omega) ?_))
        have hr := hrow s hs
        rw [hr]
        have letters := EvP.up (fun k (st : List Bool × List Bool × Bool) a => Zak.l2 k st.1 st.2.1 st.2.2 (s : Int) N (N.length : Int) (s : Int) (Zae N (s : Int)) L a L S fin N) (IsUse L S N fin) L.toNat
          (fun b st => UseI L S N fin st.1 st.2.1 ∧ (Zb3 st.1 + Zb3 st.2.1 ≤ Zb3 c + Zb3 d ∧ (st.2.2 = true → Zb3 st.1 + Zb3 st.2.1 < Zb3 c + Zb3 d)) ∧ (st.2.2 = false → (∀ t a : Int, 0 ≤ t → t < (s : Int) → 0 ≤ a → a < L → paidU N st.1 st.2.1 t a) ∧ ∀ a : Int, 0 ≤ a → a < (b : Int) → paidU N st.1 st.2.1 s a))
          (fun st ⟨h1, h2, h3⟩ => by
            refine EvP.round ?_
            simp only [Zak.l2]
            refine EvP.no (by omega) ?_
            rw [w64s (by omega)]
            refine ih st ⟨h1, h2, fun hb t a h4 h5 h6 h7 => ?_⟩
            by_cases e : t = (s : Int)
            · subst e; exact (h3 hb).2 a h6 (by omega)
            · exact (h3 hb).1 t a h4 (by omega) h6 h7)
          (fun b st hb ⟨h1, h2, h3⟩ ihb => by
            have hl := h1.live.len
            have hrl := h1.rlen
            refine EvP.round ?_
            simp only [Zak.l2]
            refine EvP.yes (by omega) (EvP.yes (by omega) (EvP.yes (by omega) ?_))
            rw [hnx, w64s (by omega)]
            have hx := nx_in hN (s := s) (a := b) (by omega) (by omega) (by omega)
            by_cases h4 : nx N s b < 0
            · refine EvP.yes h4 (ihb st ⟨h1, h2, fun hc => ⟨(h3 hc).1, fun a h5 h6 => ?_⟩⟩)
              by_cases e : a = (b : Int)
              · subst e; intro h7; omega
              · exact (h3 hc).2 a h5 (by omega)
            · refine EvP.no h4 (EvP.yes (by omega) (EvP.yes (by omega) ?_))
              obtain ⟨t, et, ht⟩ := nat_of (by omega : 0 ≤ nx N s b) hx.2
              rw [et]
              -- the second half of the round, whatever the first half did
              have half : ∀ (re : List Bool) (ch : Bool), UseI L S N fin re st.2.1 → (Zb3 re + Zb3 st.2.1 ≤ Zb3 c + Zb3 d ∧ (ch = true → Zb3 re + Zb3 st.2.1 < Zb3 c + Zb3 d)) →
                  (ch = false → re = st.1 ∧ st.2.2 = false ∧ (rdOf false re (s : Int) = true → rdOf false re (t : Int) = true)) →
                  EvP (fun k => if (0 : Int) ≤ t then (if (t : Int) < (st.2.1.length : Int) then (if rdOf false st.2.1 (t : Int) = true then (if (0 : Int) ≤ s then (if (s : Int) < (st.2.1.length : Int) then (if rdOf false st.2.1 (s : Int) = true then Zak.l2 k re st.2.1 ch (s : Int) N (N.length : Int) (s : Int) (Zae N (s : Int)) L ((b + 1 : Nat) : Int) L S fin N else Zak.l2 k re (st.2.1.set ((s : Int)).toNat true) true (s : Int) N (N.length : Int) (s : Int) (Zae N (s : Int)) L ((b + 1 : Nat) : Int) L S fin N) else none) else none) else Zak.l2 k re st.2.1 ch (s : Int) N (N.length : Int) (s : Int) (Zae N (s : Int)) L ((b + 1 : Nat) : Int) L S fin N) else none) else none) (IsUse L S N fin) := by
                intro re ch g1 g2 g3
                refine EvP.yes (by omega) (EvP.yes (by omega) ?_)
                have keep : (rdOf false st.2.1 (t : Int) = true → rdOf false st.2.1 (s : Int) = true) → EvP (fun k => Zak.l2 k re st.2.1 ch (s : Int) N (N.length : Int) (s : Int) (Zae N (s : Int)) L ((b + 1 : Nat) : Int) L S fin N) (IsUse L S N fin) := by
                  intro hk
                  refine ihb (re, st.2.1, ch) ⟨g1, g2, fun hc => ?_⟩
                  obtain ⟨e1, e2, e3⟩ := g3 hc
                  subst e1
                  refine ⟨(h3 e2).1, fun a h5 h6 => ?_⟩
                  by_cases e : a = (b : Int)
                  · subst e; intro _; rw [et]; exact ⟨e3, hk⟩
                  · exact (h3 e2).2 a h5 (by omega)
                cases hw : rdOf false st.2.1 (t : Int)
                · exact EvP.no (by simp) (keep (fun h => by rw [hw] at h; cases h))
                · refine EvP.yes rfl (EvP.yes (by omega) (EvP.yes (by omega) ?_))
                  cases hu : rdOf false st.2.1 (s : Int)
                  · refine EvP.no (by simp) ?_
                    have p := falses_set (by omega) (get_false (by omega) hu)
                    rw [Int.toNat_natCast]
                    refine ihb (re, st.2.1.set s true, true) ⟨⟨g1.rlen, g1.rsound, g1.start, live_mark hN g1.live hs (a := (b : Int)) (by omega) (by omega) (by omega) (by rw [et]; exact hw)⟩, ⟨by simp only; omega, fun _ => by simp only; omega⟩, fun hc => by cases hc⟩
                  · exact EvP.yes rfl (keep (fun _ => hu))
              have j : ∀ flag : Bool, (flag = true → rdOf false st.1 (s : Int) = true ∧ rdOf false st.1 (t : Int) = false) → (flag = false → (rdOf false st.1 (s : Int) = true → rdOf false st.1 (t : Int) = true)) →
                  EvP (fun k => Zak.j3 k st.1 st.2.1 st.2.2 (s : Int) (t : Int) N (N.length : Int) (s : Int) (Zae N (s : Int)) L (b : Int) flag L S fin N) (IsUse L S N fin) := by
                intro flag f1 f2
                refine EvP.round ?_
                simp only [Zak.j3]
                rw [w64s (by omega)]
                cases flag
                · refine EvP.no (by simp) ?_
                  exact half st.1 st.2.2 h1 h2 (fun hc => ⟨rfl, hc, f2 rfl⟩)
                · obtain ⟨e1, e2⟩ := f1 rfl
                  refine EvP.yes (by trivial) (EvP.yes (by omega) (EvP.yes (by omega) (EvP.here rfl ?_)))
                  have v := falses_set (by omega) (get_false (by omega) e2)
                  rw [Int.toNat_natCast]
                  have := half (st.1.set t true) true (reach_mark h1 (by omega) (by omega) (by omega) (by omega) et e1) ⟨by omega, fun _ => by omega⟩ (fun hc => by cases hc)
                  refine (show EvP _ _ from ?_)
                  obtain ⟨r, m, n⟩ := this
                  refine ⟨r, ?_, n⟩
                  refine Ev.congr (fun k => ?_) m
                  rw [if_pos (by omega : (0 : Int) ≤ t)]
              cases hv : rdOf false st.1 (s : Int)
              · exact EvP.no (by simp) (j false (fun h => by cases h) (fun _ h => by rw [hv] at h; cases h))
              · refine EvP.yes rfl (EvP.yes (by omega) (EvP.yes (by omega) ?_))
                cases hw : rdOf false st.1 (t : Int)
                · exact j true (fun _ => ⟨hv, hw⟩) (fun h => by cases h)
                · exact j false (fun h => by cases h) (fun _ _ => hw))
        have := letters 0 st (by omega) ⟨h1, h2, fun hc => ⟨fun t a h4 h5 h6 h7 => h3 hc t a h4 h5 h6 h7, fun a h5 h6 => absurd h6 (by omega)⟩⟩
        simpa using this)
    have := pass 0 (c, d, false) (by omega) ⟨I0, ⟨Nat.le_refl _, fun h => by cases h⟩, fun _ t a h4 h5 => absurd h5 (by omega)⟩
    simpa using this
  unfold Zak.f
  obtain ⟨S', rfl, hS'⟩ := nat_of hS hSn
  refine EvP.yes (by omega) (EvP.yes (by omega) (EvP.here rfl (EvP.here (clone_eq (by omega)) (EvP.yes (by omega) (EvP.yes (by simp; omega) ?_)))))
  rw [Int.toNat_natCast, Int.toNat_natCast]
  refine main _ _ _ (Nat.le_refl _) ⟨by simp, fun s h0 h1 h => ?_, ?_, ⟨hf, fun s h0 h1 h => .base h0 h1 h, fun s _ _ h => h⟩⟩
  · rw [rdOf_set h0] at h
    by_cases e : s = (S' : Int)
    · subst e; exact .start
    · rw [if_neg (by omega)] at h
      obtain ⟨u, rfl, hu⟩ := nat_of h0 h1
      rw [rdOf_lt (by simp; exact hu)] at h
      simp at h
  · rw [rdOf_set (by omega), if_pos ⟨rfl, by simp; exact hS'⟩]
end Go.Proofs.YtgindgodfcfgkaaDoor.U
end M0
section M1
namespace Go.Proofs.YtgindgodfcfgkaaDoor.U
open Go.RowKit Go.Proofs.YtgindgodfcfgkaaDoor.P Go.Proofs.YtgindgodfcfgkaaDoorW.PrintWords Go.Proofs.YtgindgodfcfgkaaDoorW.PrintLast
set_option linter.unusedVariables false
/-! The program's least machine. -/
def cl (c : List Int) (s : Nat) : Int := rd c (s : Int)
set_option maxHeartbeats 1000000 in
theorem minimal_run {L S : Int} {N : List (List Int)} {fin : List Bool} {V : Nat → Prop} {c : List Int} (hN : Zcu L N) (hn : N.length ≤ 65535) (hf : fin.length = N.length) (hL : 0 ≤ L) (m : L ≤ 1048576) (hc : c.length = N.length)
    (H : ClsOK L.toNat N.length (nxO N) (Zbh fin) V (cl c)) : ∀ (f i : Nat) (l : List Nat) (rows : List (List Int)) (l' : List Nat) (rows' : List (List Int)), mRun L.toNat (nxO N) (cl c) f i l rows = some (l', rows') → LOK V (cl c) l → i ≤ l.length → rows.length = i →
      EvP (fun k => Zal.l0 k c (l.map fun (x : Nat) => (x : Int)) (i : Int) L S fin N (mapOf (cl c) l 0) L 0 ((l.take i).map (Zbh fin)) rows) (fun r => r = (L, 0, l'.map (Zbh fin), rows'))
  | 0, i, l, rows, l', rows', h, _, _, _ => by simp [mRun] at h
  | f + 1, i, l, rows, l', rows', h, hl, hi, hr => by
    have hrow : ∀ s : Nat, s < N.length → ((Zae N (s : Int)).length : Int) = L := fun s hs => (row_at hN (s := s) (by omega) (by omega)).1
    have hnx : ∀ s a : Nat, rd (Zae N (s : Int)) (a : Int) = nx N s a := fun s a => by unfold nx; rw [if_neg (by omega)]
    have hll := hl.length_le H
    unfold mRun at h
    refine EvP.round ?_
    simp only [Zal.l0]
    cases e : l[i]? with
    | none =>
      rw [e] at h
      have h := Option.some.inj h
      have hge := List.getElem?_eq_none_iff.1 e
      refine EvP.no (by simp; omega) (EvP.ret ?_)
      rw [List.take_of_length_le hge, ← (Prod.mk.inj h).1, ← (Prod.mk.inj h).2]
    | some s =>
      rw [e] at h
      replace h : mRun L.toNat (nxO N) (cl c) f (i + 1) (mRow L.toNat (nxO N) (cl c) s l).1 (rows ++ [(mRow L.toNat (nxO N) (cl c) s l).2]) = some (l', rows') := h
      have hlt := (List.getElem?_eq_some_iff.1 e).1
      have hsv := hl.v s (List.mem_of_getElem? e)
      have hsn := H.lt s hsv
      refine EvP.yes (by simp; omega) ?_
      have letters := EvP.up (fun k (st : List Nat × List Int) a => Zal.l1 k c (st.1.map fun (x : Nat) => (x : Int)) (i : Int) st.2 L a L S fin N (mapOf (cl c) st.1 0) L 0 ((l.take i).map (Zbh fin)) rows) (fun r => r = (L, 0, l'.map (Zbh fin), rows')) L.toNat
        (fun a st => st = (List.range a).foldl (mStep (nxO N) (cl c) s) (l, []) ∧ LOK V (cl c) st.1 ∧ (∃ t, st.1 = l ++ t) ∧ st.2.length = a)
        (fun st ⟨h1, h2, ⟨t, h3⟩, h4⟩ => by
          have hst := h2.length_le H
          have hg : (st.1.map fun (x : Nat) => (x : Int))[i]? = some (s : Int) := by
            rw [List.getElem?_map, h3, List.getElem?_append_left hlt, e]; rfl
          have d : i < (st.1.map fun (x : Nat) => (x : Int)).length := (List.getElem?_eq_some_iff.1 hg).1
          have hrd : rd (st.1.map fun (x : Nat) => (x : Int)) (i : Int) = (s : Int) := by
            rw [rd_lt d]; exact (List.getElem?_eq_some_iff.1 hg).2
          refine EvP.round ?_
          simp only [Zal.l1]
          rw [hrd]
          refine EvP.no (by omega) (EvP.here rfl (EvP.yes (by simp; omega) (EvP.yes (by omega) (EvP.yes (by omega) (EvP.yes (by omega) (EvP.yes (by omega) (EvP.here rfl (EvP.yes (by simp; omega) ?_))))))))
          rw [w64s (by omega)]
          have e2 : (l.take i).map (Zbh fin) ++ [rdOf false fin (s : Int)] = (st.1.take (i + 1)).map (Zbh fin) := by
            have : st.1.take (i + 1) = l.take i ++ [s] := by
              rw [h3, List.take_append_of_le_length (by omega), List.take_add_one, e]
              rfl
            rw [this, List.map_append]
            rfl
          rw [e2]
          have hm : mRow L.toNat (nxO N) (cl c) s l = st := h1.symm
          rw [hm] at h
          exact minimal_run hN hn hf hL m hc H f (i + 1) st.1 (rows ++ [st.2]) l' rows' h h2 (by rw [h3, List.length_append]; omega) (by simp [hr]))
        (fun a st ha ⟨h1, h2, ⟨t, h3⟩, h4⟩ ih => by
          have hst := h2.length_le H
          have hg : (st.1.map fun (x : Nat) => (x : Int))[i]? = some (s : Int) := by
            rw [List.getElem?_map, h3, List.getElem?_append_left hlt, e]; rfl
          have d : i < (st.1.map fun (x : Nat) => (x : Int)).length := (List.getElem?_eq_some_iff.1 hg).1
          have hrd : rd (st.1.map fun (x : Nat) => (x : Int)) (i : Int) = (s : Int) := by
            rw [rd_lt d]; exact (List.getElem?_eq_some_iff.1 hg).2
          have n := hrow s hsn
          have hx := nx_in hN (s := s) (a := a) (by omega) (by omega) (by omega)
          obtain ⟨j, o⟩ := mStep_ok H hsv ha h2 st.2
          have hfold : (List.range (a + 1)).foldl (mStep (nxO N) (cl c) s) (l, []) = mStep (nxO N) (cl c) s (st.1, st.2) a := by
            rw [List.range_succ, List.foldl_append, ← h1]; rfl
          refine EvP.round ?_
          simp only [Zal.l1]
          rw [hrd, hnx]
          refine EvP.yes (by omega) (EvP.yes (by omega) (EvP.yes (by omega) (EvP.yes (by omega) (EvP.yes (by omega) (EvP.yes (by omega) (EvP.yes (by omega) ?_))))))
          -- nothing there
          have g : mStep (nxO N) (cl c) s (st.1, st.2) a = (st.1, st.2 ++ [-1]) → EvP (fun k => Zal.j2 k c (st.1.map fun (x : Nat) => (x : Int)) (i : Int) st.2 (nx N s a) L a true L S fin N (mapOf (cl c) st.1 0) L 0 ((l.take i).map (Zbh fin)) rows) (fun r => r = (L, 0, l'.map (Zbh fin), rows')) := by
            intro hm
            refine EvP.round ?_
            simp only [Zal.j2]
            refine EvP.yes (by trivial) (EvP.here rfl (EvP.yes (by simp; omega) ?_))
            rw [w64s (by omega)]
            exact ih (st.1, st.2 ++ [-1]) ⟨by rw [hfold, hm], h2, ⟨t, h3⟩, by simp [h4]⟩
          by_cases hneg : nx N s a < 0
          · refine EvP.yes hneg (g ?_)
            unfold mStep
            rw [nxO_no hneg]
          · refine EvP.no hneg (EvP.yes (by omega) (EvP.yes (by omega) ?_))
            obtain ⟨x, ex, hxn⟩ := nat_of (by omega : 0 ≤ nx N s a) hx.2
            have hnO : nxO N s a = some x := by rw [nxO_of (by omega), ex]; rfl
            have hxc : rd c (nx N s a) = cl c x := by rw [ex]; rfl
            rw [hxc]
            by_cases hd : cl c x < 0
            · rw [decide_eq_true hd]
              refine g ?_
              unfold mStep
              rw [hnO]
              exact if_pos hd
            · rw [decide_eq_false hd]
              refine EvP.round ?_
              simp only [Zal.j2]
              refine EvP.no (by simp) (EvP.yes (by omega) (EvP.yes (by omega) ?_))
              rw [hxc]
              have b := mfind_mapOf (cl c) (cl c x) st.1 0 0
              have hms : mStep (nxO N) (cl c) s (st.1, st.2) a = match st.1.findIdx? (fun y => decide (cl c y = cl c x)) with
                | some k => (st.1, st.2 ++ [(k : Int)])
                | none => (st.1 ++ [x], st.2 ++ [(st.1.length : Int)]) := by
                unfold mStep
                rw [hnO]
                exact if_neg hd
              cases hfi : st.1.findIdx? (fun y => decide (cl c y = cl c x)) with
              | some q =>
                rw [hfi] at b hms
                have hyes : mhas (mapOf (cl c) st.1 0) (cl c x) = true := by unfold mhas; rw [b]; rfl
                have hget : mget 0 (mapOf (cl c) st.1 0) (cl c x) = (q : Int) := by unfold mget; rw [b]; simp
                refine EvP.yes hyes (EvP.here rfl (EvP.yes (by simp; omega) ?_))
                rw [hget, w64s (by omega)]
                exact ih (st.1, st.2 ++ [(q : Int)]) ⟨by rw [hfold, hms], h2, ⟨t, h3⟩, by simp [h4]⟩
              | none =>
                rw [hfi] at b hms
                have hno : mhas (mapOf (cl c) st.1 0) (cl c x) = false := by unfold mhas; rw [b]; rfl
                refine EvP.no (by rw [hno]; simp) (EvP.here rfl (EvP.yes (by simp; omega) (EvP.here rfl (EvP.yes (by simp; omega) ?_))))
                rw [ex, List.length_map, w64s (by omega)]
                have hset : mset (mapOf (cl c) st.1 0) (cl c x) (st.1.length : Int) = mapOf (cl c) (st.1 ++ [x]) 0 := by
                  unfold mset
                  rw [b, mapOf_snoc]
                  rfl
                rw [hset]
                rw [hms] at j
                have := ih (st.1 ++ [x], st.2 ++ [(st.1.length : Int)]) ⟨by rw [hfold, hms], j, ⟨t ++ [x], by simp [h3]⟩, by simp [h4]⟩
                simpa using this)
      have := letters 0 (l, []) (by omega) ⟨rfl, hl, ⟨[], by simp⟩, rfl⟩
      simpa using this
/-- What is said of a machine that is least. -/
def LeastR (L : Int) (q : Lang) (n : Nat) (r : Int × Int × List Bool × List (List Int)) : Prop := ∃ qs rows, IsLeast L.toNat q (qs, rows) ∧ r = (L, 0, qs.map (fun q => q []), rows) ∧ qs.length ≤ n
theorem minimal_ev {L S : Int} {N : List (List Int)} {fin : List Bool} (hN : Zcu L N) (hn : N.length ≤ 65535) (hf : fin.length = N.length) (hL : 0 ≤ L) (a : L ≤ 8) (hS : 0 ≤ S) (hSn : S < N.length) :
    EvP (fun k => Zal.f k L S fin N) (LeastR L (accM L N fin S.toNat) N.length) := by
  obtain ⟨s, rfl, hs⟩ := nat_of hS hSn
  unfold Zal.f
  refine EvP.bindP (useful_ev fin hN (by omega) hf hL (by omega) hS hSn) fun us ⟨hu, hus⟩ => ?_
  refine EvP.yes (by omega) (EvP.yes (by omega) ?_)
  have hinc : ∀ t : Nat, t < N.length → (rdOf false us (t : Int) = true ↔ incl L.toNat (nxO N) (Zbh fin) (fun x => Rch L N (s : Int) (x : Int)) t) := fun t ht => by
    rw [hus t (by omega) (by omega)]
    exact and_congr Iff.rfl (led_acc hN ht)
  rw [Int.toNat_natCast]
  cases hb : rdOf false us (s : Int)
  · refine EvP.no (by simp) ?_
    have hE : emp (accM L N fin s) := Classical.byContradiction fun hh => by
      have := (hinc s hs).2 ⟨.start, hh⟩
      rw [hb] at this; cases this
    unfold Zds.f Zcj.f
    rw [if_pos ⟨rfl, hL, a⟩]
    refine EvP.here rfl (EvP.ret ⟨_, _, least_empty _ hE, ?_, by simp; omega⟩)
    simp only [List.map_cons, List.map_nil]
    rw [hE []]
    rfl
  · refine EvP.yes rfl (EvP.bindP (classes_ev hN hn hf hL (by omega) hu hinc (vok_rch hN hS hSn)) fun c ⟨hc, H⟩ => EvP.yes (by omega) ?_)
    have hi := (hinc s hs).1 hb
    have hcs : 0 ≤ cl c s := by
      refine Classical.byContradiction fun hh => hi.2 ((H.dead s hi.1).1 ?_)
      exact Int.not_le.1 hh
    obtain ⟨l, rows, h1, h2, h3⟩ := mRun_least (cls := cl c) H hi.1 hcs
    have := minimal_run (S := s) hN hn hf hL (by omega) hc H _ 0 [s] [] l rows h1 ⟨fun x hx => by rw [List.mem_singleton.1 hx]; exact hi.1, fun x hx => by rw [List.mem_singleton.1 hx]; exact hcs, List.pairwise_singleton _ _⟩ (by simp) rfl
    refine EvP.mono this fun r hr => ⟨_, _, h3, ?_, by rw [List.length_map]; exact h2.length_le H⟩
    rw [hr, List.map_map]
    rfl
end Go.Proofs.YtgindgodfcfgkaaDoor.U
end M1
section M2
namespace Go.Proofs.YtgindgodfcfgkaaDoor.U
open Go.RowKit Go.Proofs.YtgindgodfcfgkaaDoor.P Go.Proofs.YtgindgodfcfgkaaDoorW.PrintWords Go.Proofs.YtgindgodfcfgkaaDoorW.PrintLast
set_option linter.unusedVariables false
/-! The reference's classes. -/
theorem alike_ev {L : Int} {N : List (List Int)} (good : List Bool) (c : List Int) (hN : Zcu L N) (hn : N.length ≤ 1048576) (hc : c.length = N.length) (hL : 0 ≤ L) (d : L ≤ 1048576) {s t : Nat} (hs : s < N.length) (ht : t < N.length) :
    Ev (fun k => Zb0.f k L N good c (s : Int) (t : Int)) (decide (rd c (s : Int) = rd c (t : Int) ∧ ∀ a : Nat, a < L.toNat → clsN c (nx N s a) = clsN c (nx N t a))) := by
  have hrow : ∀ s : Nat, s < N.length → ((Zae N (s : Int)).length : Int) = L := fun s hs => (row_at hN (s := s) (by omega) (by omega)).1
  have hnx : ∀ s a : Nat, rd (Zae N (s : Int)) (a : Int) = nx N s a := fun s a => by unfold nx; rw [if_neg (by omega)]
  have hcl : ∀ s a : Nat, s < N.length → a < L.toNat → Zbf.f c (nx N s a) = some (clsN c (nx N s a)) := fun s a hs ha => by
    have hx := nx_in hN (s := s) (a := a) (by omega) (by omega) (by omega)
    unfold Zbf.f clsN
    by_cases h : nx N s a < 0
    · rw [if_pos h, if_neg (by omega)]
    · rw [if_neg h, if_pos (by omega), if_pos (by omega), if_pos (by omega)]
  unfold Zb0.f
  refine Ev.yes (by omega) (Ev.yes (by omega) (Ev.yes (by omega) (Ev.yes (by omega) ?_)))
  by_cases e : rd c (s : Int) = rd c (t : Int)
  · refine Ev.yes e ?_
    have key := Ev.up (fun k (_ : Unit) a => Zb0.l0 k c (s : Int) (t : Int) a L N good) L.toNat (fun _ _ => decide (rd c (s : Int) = rd c (t : Int) ∧ ∀ a : Nat, a < L.toNat → clsN c (nx N s a) = clsN c (nx N t a)))
      (fun b _ => ∀ a : Nat, a < b → clsN c (nx N s a) = clsN c (nx N t a))
      (fun _ h => by
        refine Ev.round ?_
        simp only [Zb0.l0]
        refine Ev.no (by omega) ?_
        rw [decide_eq_true ⟨e, h⟩]
        exact Ev.now _)
      (fun b _ hb h ih => by
        have r1 := hrow s hs
        have r2 := hrow t ht
        refine Ev.round ?_
        simp only [Zb0.l0]
        refine Ev.yes (by omega) (Ev.yes (by omega) (Ev.yes (by omega) (Ev.yes (by omega) (Ev.yes (by omega) ?_))))
        rw [hnx, hnx, w64s (by omega)]
        refine Ev.here (hcl s b hs hb) (Ev.yes (by omega) (Ev.yes (by omega) (Ev.yes (by omega) (Ev.here (hcl t b ht hb) ?_))))
        by_cases e2 : clsN c (nx N s b) = clsN c (nx N t b)
        · refine Ev.yes e2 (ih () fun a ha => ?_)
          by_cases e3 : a = b
          · subst e3; exact e2
          · exact h a (by omega)
        · refine Ev.no e2 ?_
          rw [decide_eq_false (fun hh => e2 (hh.2 b hb))]
          exact Ev.now _)
    have := key 0 () (by omega) (fun a ha => absurd ha (by omega))
    simpa using this
  · refine Ev.no e ?_
    rw [decide_eq_false (fun hh => e hh.1)]
    exact Ev.now _
set_option maxHeartbeats 1000000 in
theorem l11Classes_ev {L : Int} {N : List (List Int)} {good : List Bool} (hN : Zcu L N) (hn : N.length ≤ 1048575) (hg : good.length = N.length) (hL : 0 ≤ L) (o : L ≤ 1048576) :
    EvP (fun k => Zao.f k L N good) (fun r => (r.length = N.length ∧ ∀ s : Nat, s < N.length → rd r (s : Int) < N.length) ∧ ClsOK L.toNat N.length (nxO N) (Zbh good) (fun s => s < N.length) (fun s => rd r (s : Int))) := by
  have hV : VOK L.toNat N.length (nxO N) (fun s => s < N.length) := vok_all hN
  have hinc : ∀ s, s < N.length → (incl L.toNat (nxO N) (Zbh good) (fun s => s < N.length) s ↔ Led L N good s) := fun s hs => by
    rw [led_acc hN hs]
    exact ⟨fun h => h.2, fun h => ⟨hs, h⟩⟩
  have pass : ∀ (d : Nat) (c : List Int) (m : Int), c.length = N.length → RI L.toNat N.length (nxO N) (Zbh good) (fun s => s < N.length) (fun s => rd c (s : Int)) → Many N.length (incl L.toNat (nxO N) (Zbh good) (fun s => s < N.length)) (fun s => rd c (s : Int)) m → -1 ≤ m → (N.length : Int) < m + d →
      EvP (fun k => Zao.l1 k c m L N good) (fun r => (r.length = N.length ∧ ∀ s : Nat, s < N.length → rd r (s : Int) < N.length) ∧ ClsOK L.toNat N.length (nxO N) (Zbh good) (fun s => s < N.length) (fun s => rd r (s : Int))) := by
    intro d
    induction d with
    | zero => intro c m h1 h2 h4 h5 h6; exact absurd h6 (by (rcases h4 with h4 | ⟨k, rfl, C⟩); omega; (have := cnt_le C); omega)
    | succ d ihd =>
    intro c m hc hR hM hm hd
    let sg : Nat → Int × List Int := sigO L.toNat (nxO N) (fun s => rd c (s : Int))
    have sg_iff : ∀ s t : Nat, sg s = sg t ↔ (rd c (s : Int) = rd c (t : Int) ∧ ∀ a : Nat, a < L.toNat → clsN c (nx N s a) = clsN c (nx N t a)) := fun s t => by
      show sigO _ _ _ _ = sigO _ _ _ _ ↔ _
      rw [sigO_iff]
      refine and_congr Iff.rfl ⟨fun h a ha => ?_, fun h a ha => ?_⟩
      · rw [clsN_eq, clsN_eq]; exact h a ha
      · rw [← clsN_eq, ← clsN_eq]; exact h a ha
    have states := EvP.up (fun k (st : List Nat × List Int) i => Zao.l2 k c m st.2 (st.1.map fun (x : Nat) => (x : Int)) i L N good) (fun r => (r.length = N.length ∧ ∀ s : Nat, s < N.length → rd r (s : Int) < N.length) ∧ ClsOK L.toNat N.length (nxO N) (Zbh good) (fun s => s < N.length) (fun s => rd r (s : Int))) N.length
      (fun i st => st.2.length = N.length ∧ PassI (incl L.toNat (nxO N) (Zbh good) (fun s => s < N.length)) sg i st.1 (fun s => rd st.2 (s : Int)))
      (fun st ⟨h1, I⟩ => by
        refine EvP.round ?_
        simp only [Zao.l2]
        refine EvP.no (by omega) ?_
        rw [List.length_map]
        by_cases e : (st.1.length : Int) = m
        · refine EvP.yes e (EvP.ret ⟨⟨h1, fun s hs => ?_⟩, many_done hV hR hM I e⟩)
          by_cases hi : incl L.toNat (nxO N) (Zbh good) (fun s => s < N.length) s
          · have := I.cnt.lt s hs hi
            have := cnt_le I.cnt
            omega
          · have := I.out s hs hi; omega
        · refine EvP.no e ?_
          obtain ⟨g1, g2, g3⟩ := many_more hM I e
          exact ihd st.2 _ h1 (hR.step hV I.ref) g1 (by omega) (by omega))
      (fun i st hi ⟨h1, I⟩ ih => by
        have hkl : st.1.length ≤ N.length := by
          have := cnt_le I.cnt
          omega
        refine EvP.round ?_
        simp only [Zao.l2]
        refine EvP.yes (by omega) (EvP.yes (by omega) (EvP.yes (by omega) (EvP.here rfl ?_)))
        rw [Int.toNat_natCast]
        have keep : ∀ (l : List Int) (v : Int), (∀ s : Nat, s < i → rd l (s : Int) = rd st.2 (s : Int)) → ∀ s : Nat, s < i → rd (l.set i v) (s : Int) = rd st.2 (s : Int) := fun l v hl s hs => by rw [Zdr (by omega)]; exact hl s hs
        have g := keep st.2 (-1) (fun _ _ => rfl)
        by_cases hneg : rd c (i : Int) < 0
        · refine EvP.yes hneg ?_
          rw [w64s (by omega)]
          have hni : ¬ incl L.toNat (nxO N) (Zbh good) (fun s => s < N.length) i := fun hh => by have := hR.nn i hi hh; omega
          exact ih (st.1, st.2.set i (-1)) ⟨by simp [h1], I.skip hni (Zcp (by omega) _) g⟩
        · have hin : incl L.toNat (nxO N) (Zbh good) (fun s => s < N.length) i := Classical.byContradiction fun hh => by have := hR.out i hi hh; omega
          refine EvP.no hneg ?_
          -- the end of the search
          have found : ∀ (q b : Nat) (hq : q < st.1.length), sg st.1[q] = sg i → EvP (fun k => Zao.j4 k c m ((st.2.set i (-1)).set i q) (st.1.map fun (x : Nat) => (x : Int)) (i : Int) b false L N good) (fun r => (r.length = N.length ∧ ∀ s : Nat, s < N.length → rd r (s : Int) < N.length) ∧ ClsOK L.toNat N.length (nxO N) (Zbh good) (fun s => s < N.length) (fun s => rd r (s : Int))) := by
            intro q b hq hsg
            have hv : rd ((st.2.set i (-1)).set i q) (i : Int) = q := Zcp (by simp; omega) _
            refine EvP.round ?_
            simp only [Zao.j4]
            refine EvP.no (by simp) (EvP.yes (by omega) (EvP.yes (by simp; omega) (EvP.no (by omega) ?_)))
            rw [w64s (by omega)]
            exact ih (st.1, _) ⟨by simp [h1], I.known (List.getElem?_eq_getElem hq) hsg hv (keep _ _ g) hin⟩
          have search := EvP.up (fun k (_ : Unit) b => Zao.l3 k c m (st.2.set i (-1)) (st.1.map fun (x : Nat) => (x : Int)) (i : Int) b L N good) (fun r => (r.length = N.length ∧ ∀ s : Nat, s < N.length → rd r (s : Int) < N.length) ∧ ClsOK L.toNat N.length (nxO N) (Zbh good) (fun s => s < N.length) (fun s => rd r (s : Int))) st.1.length
            (fun b _ => ∀ (q : Nat) (hq : q < st.1.length), q < b → sg st.1[q] ≠ sg i)
            (fun _ h => by
              have hv : rd (st.2.set i (-1)) (i : Int) = -1 := Zcp (by omega) _
              refine EvP.round ?_
              simp only [Zao.l3]
              refine EvP.no (by simp) (EvP.round ?_)
              simp only [Zao.j4]
              refine EvP.no (by simp) (EvP.yes (by omega) (EvP.yes (by simp; omega) (EvP.yes (by omega) (EvP.yes (by simp; omega) ?_))))
              rw [w64s (by omega), Int.toNat_natCast, List.length_map]
              have := ih (st.1 ++ [i], (st.2.set i (-1)).set i st.1.length) ⟨by simp [h1], I.new (fun x hx e => ?_) (Zcp (by simp; omega) _) (keep _ _ g) hin⟩
              · simpa using this
              · obtain ⟨q, hq, rfl⟩ := List.mem_iff_getElem.1 hx
                exact h q hq hq e)
            (fun b _ hb h ihb => by
              have hv : rd (st.2.set i (-1)) (i : Int) = -1 := Zcp (by omega) _
              have hkb : rd (st.1.map fun (x : Nat) => (x : Int)) (b : Int) = ((st.1[b] : Nat) : Int) := by rw [rd_lt (by simp; omega)]; simp
              have hbn := (I.first _ (List.getElem_mem hb)).1
              refine EvP.round ?_
              simp only [Zao.l3]
              refine EvP.yes (by simp; omega) (EvP.yes (by omega) (EvP.yes (by simp; omega) (EvP.round ?_)))
              simp only [Zao.j4]
              refine EvP.yes (by rw [hv]; rfl) (EvP.yes (by omega) (EvP.yes (by simp; omega) ?_))
              rw [hkb, w64s (by omega), Int.toNat_natCast]
              refine EvP.bind (alike_ev good c hN (by omega) hc hL o hi (by omega)) ?_
              by_cases e : sg st.1[b] = sg i
              · rw [decide_eq_true ((sg_iff i st.1[b]).1 e.symm)]
                refine EvP.yes (by trivial) (EvP.yes (by omega) (EvP.yes (by simp; omega) (EvP.round ?_)))
                simp only [Zao.l3]
                by_cases h5 : ((b + 1 : Nat) : Int) < ((st.1.map fun (x : Nat) => (x : Int)).length : Int)
                · refine EvP.yes h5 (EvP.yes (by omega) (EvP.yes (by simp; omega) ?_))
                  have u : rd ((st.2.set i (-1)).set i b) (i : Int) = b := Zcp (by simp; omega) _
                  rw [u, decide_eq_false (by omega)]
                  exact found b (b + 1) hb e
                · exact EvP.no h5 (found b (b + 1) hb e)
              · rw [decide_eq_false (fun hh => e ((sg_iff i st.1[b]).2 hh).symm)]
                refine EvP.no (by simp) (ihb () fun q hq hqb => ?_)
                by_cases e2 : q = b
                · subst e2; exact e
                · exact h q hq (by omega))
          have := search 0 () (by omega) (fun q _ hq => absurd hq (by omega))
          simpa using this)
    refine EvP.round ?_
    simp only [Zao.l1]
    refine EvP.yes (by omega) (EvP.yes (by omega) ?_)
    have := states 0 ([], List.replicate c.length 0) (by omega) ⟨by simp [hc], PassI.start⟩
    simpa using this
  unfold Zao.f
  refine EvP.bindP (l11Live_ev good hN (by omega) hg hL o) fun live ⟨hl, hlive⟩ => ?_
  have first := EvP.up (fun k (c : List Int) i => Zao.l0 k live c i L N good) (fun r => (r.length = N.length ∧ ∀ s : Nat, s < N.length → rd r (s : Int) < N.length) ∧ ClsOK L.toNat N.length (nxO N) (Zbh good) (fun s => s < N.length) (fun s => rd r (s : Int))) N.length
    (fun i c => c.length = N.length ∧ (∀ s, s < i → ¬ incl L.toNat (nxO N) (Zbh good) (fun s => s < N.length) s → rd c (s : Int) = -1) ∧ (∀ s, s < i → incl L.toNat (nxO N) (Zbh good) (fun s => s < N.length) s → rd c (s : Int) = if Zbh good s then 1 else 0) ∧ ∀ s, i ≤ s → rd c (s : Int) = 0)
    (fun c ⟨h1, h2, h3, _⟩ => by
      refine EvP.round ?_
      simp only [Zao.l0]
      refine EvP.no (by omega) ?_
      exact pass (N.length + 2) c (-1) h1 (ri_first h2 h3) (.inl (by omega)) (by omega) (by omega))
    (fun i c hi ⟨h1, h2, h3, h4⟩ ih => by
      refine EvP.round ?_
      simp only [Zao.l0]
      refine EvP.yes (by omega) (EvP.yes (by omega) (EvP.yes (by omega) ?_))
      rw [w64s (by omega), Int.toNat_natCast]
      have n : ∀ v : Int, (¬ incl L.toNat (nxO N) (Zbh good) (fun s => s < N.length) i → v = -1) → (incl L.toNat (nxO N) (Zbh good) (fun s => s < N.length) i → v = if Zbh good i then 1 else 0) → (c.set i v).length = N.length ∧ (∀ s, s < i + 1 → ¬ incl L.toNat (nxO N) (Zbh good) (fun s => s < N.length) s → rd (c.set i v) (s : Int) = -1) ∧ (∀ s, s < i + 1 → incl L.toNat (nxO N) (Zbh good) (fun s => s < N.length) s → rd (c.set i v) (s : Int) = if Zbh good s then 1 else 0) ∧ ∀ s, i + 1 ≤ s → rd (c.set i v) (s : Int) = 0 := by
        intro v g1 g2
        refine ⟨by simp [h1], fun s hs hn => ?_, fun s hs hn => ?_, fun s hs => ?_⟩
        · by_cases e : s = i
          · subst e; rw [Zcp (by omega)]; exact g1 hn
          · rw [Zdr (by omega)]; exact h2 s (by omega) hn
        · by_cases e : s = i
          · subst e; rw [Zcp (by omega)]; exact g2 hn
          · rw [Zdr (by omega)]; exact h3 s (by omega) hn
        · rw [Zdr (by omega)]; exact h4 s (by omega)
      have p := (hlive i (by omega) (by omega)).trans (hinc i hi).symm
      cases hui : rdOf false live (i : Int)
      · refine EvP.no (by simp) (ih _ (n (-1) (fun _ => rfl) (fun hh => ?_)))
        rw [p.2 hh] at hui; cases hui
      · refine EvP.yes rfl (EvP.yes (by omega) ?_)
        have hin := p.1 hui
        cases hg : rdOf false good (i : Int)
        · refine EvP.no (by simp) (ih c ?_)
          have hz := h4 i (by omega)
          have hcs : c.set i 0 = c := by
            apply List.ext_getElem?
            intro j
            rw [List.getElem?_set]
            by_cases e : i = j
            · subst e
              rw [rd_lt (by omega : i < c.length)] at hz
              rw [if_pos rfl, if_pos (by omega), List.getElem?_eq_getElem (by omega), hz]
            · rw [if_neg e]
          have := n 0 (fun hh => absurd hin hh) (fun _ => by show (0 : Int) = if rdOf false good (i : Int) then 1 else 0; rw [hg]; rfl)
          rw [hcs] at this
          exact this
        · refine EvP.yes rfl (ih _ (n 1 (fun hh => absurd hin hh) (fun _ => ?_)))
          show (1 : Int) = if rdOf false good (i : Int) then 1 else 0
          rw [hg]; rfl)
  refine EvP.yes (by omega) (EvP.yes (by omega) ?_)
  have := first 0 (List.replicate N.length 0) (by omega) ⟨by simp, fun s hs => absurd hs (by omega), fun s hs => absurd hs (by omega), fun s _ => by
    show (List.replicate N.length (0 : Int)).getD s 0 = 0
    rw [List.getD_eq_getElem?_getD, List.getElem?_replicate]
    split <;> rfl⟩
  simpa using this
end Go.Proofs.YtgindgodfcfgkaaDoor.U
end M2
section M3
namespace Go.Proofs.YtgindgodfcfgkaaDoor.U
open Go.RowKit Go.Proofs.YtgindgodfcfgkaaDoor.P Go.Proofs.YtgindgodfcfgkaaDoorW.PrintWords Go.Proofs.YtgindgodfcfgkaaDoorW.PrintLast
set_option linter.unusedVariables false
/-! The reference's least machine. -/
/-- The set of the states that are final, as a number. -/
def maskQ (qs : List Lang) : Int := ((orN (fun j => ((qs[j]?).map fun q => q []).getD false) qs.length 0 : Nat) : Int)
def MinR (L : Int) (qs : List Lang) (rows : List (List Int)) : Int × Int × Int × List (List Int) × Int := if qs.length ≤ 16 then (L, 0, maskQ qs, rows, (qs.length : Int)) else (0, 0, 0, [], (qs.length : Int))
theorem orN_succ (p : Nat → Bool) (n : Nat) : orN p (n + 1) 0 = if p n then orN p n 0 ||| 2 ^ n else orN p n 0 := rfl
def clS (c : List Int) (s : Nat) : Int := rd c (s : Int)
/-- The numbers given so far: for each class the place of its state in the list. -/
structure NumI (n : Nat) (c : List Int) (l : List Nat) (x : List Int) : Prop where
  len : x.length = n + 1
  at_ : ∀ k : Nat, k < n + 1 → rd x (k : Int) = match l.findIdx? (fun y => decide (clS c y = (k : Int))) with
    | some q => (q : Int)
    | none => -1
theorem NumI.new {n : Nat} {c : List Int} {l : List Nat} {x : List Int} (I : NumI n c l x) {y k : Nat} (hk : k < n + 1) (hy : clS c y = (k : Int)) (h : l.findIdx? (fun y => decide (clS c y = (k : Int))) = none) : NumI n c (l ++ [y]) (x.set k (l.length : Int)) := by
  refine ⟨by simp [I.len], fun j hj => ?_⟩
  rw [List.findIdx?_append]
  by_cases e : j = k
  · subst e
    rw [Zcp (by rw [I.len]; omega), h]
    simp [List.findIdx?_cons, hy]
  · rw [Zdr (fun h => e h.symm), I.at_ j hj]
    have : [y].findIdx? (fun y => decide (clS c y = (j : Int))) = none := by
      simp [List.findIdx?_cons, hy]; omega
    rw [this]
    simp
theorem rd_cast {l : List Nat} {i s : Nat} (h : l[i]? = some s) : rd (l.map fun (x : Nat) => (x : Int)) (i : Int) = (s : Int) := by
  have hl := (List.getElem?_eq_some_iff.1 h).1
  rw [rd_lt (by simp; exact hl)]
  simp [(List.getElem?_eq_some_iff.1 h).2]
theorem l11Mask_ev {L : Int} {N : List (List Int)} {good : List Bool} (hg : good.length = N.length) (l : List Nat) (hl : ∀ x ∈ l, x < N.length) (a : l.length ≤ 16) (rows : List (List Int)) :
    EvP (fun k => Zah.l3 k (l.map fun (x : Nat) => (x : Int)) (l.length : Int) 0 L N good L 0 0 rows) (fun r => r = (L, 0, ((orN (fun j => ((l[j]?).map (Zbh good)).getD false) l.length 0 : Nat) : Int), rows, (l.length : Int))) := by
  have key := EvP.up (fun k (m : Int) i => Zah.l3 k (l.map fun (x : Nat) => (x : Int)) (l.length : Int) i L N good L 0 m rows) (fun r => r = (L, 0, ((orN (fun j => ((l[j]?).map (Zbh good)).getD false) l.length 0 : Nat) : Int), rows, (l.length : Int))) l.length
    (fun i m => m = ((orN (fun j => ((l[j]?).map (Zbh good)).getD false) i 0 : Nat) : Int))
    (fun m hm => by
      refine EvP.round ?_
      simp only [Zah.l3]
      refine EvP.no (by omega) ?_
      rw [hm]
      exact EvP.ret rfl)
    (fun i m hi hm ih => by
      refine EvP.round ?_
      simp only [Zah.l3]
      have e := List.getElem?_eq_getElem hi
      rw [rd_cast e]
      have hs := hl _ (List.getElem_mem hi)
      refine EvP.yes (by omega) (EvP.yes (by omega) (EvP.yes (by simp; omega) (EvP.yes (by omega) (EvP.yes (by omega) ?_))))
      rw [w64s (by omega)]
      have hlt : orN (fun j => ((l[j]?).map (Zbh good)).getD false) i 0 < 2 ^ 63 := orN_lt _ _ _ 63 (by omega) (by decide)
      have hp : (2 : Nat) ^ i < 2 ^ 63 := Nat.pow_lt_pow_right (by decide) (by omega)
      cases hv : rdOf false good ((l[i] : Nat) : Int)
      · refine EvP.no (by simp) (ih m ?_)
        rw [hm, orN_succ, if_neg (by rw [e]; show ¬ (Zbh good l[i] = true); unfold Zbh; rw [hv]; simp)]
      · refine EvP.yes rfl (EvP.here (spOne (by omega) (by omega)) (ih _ ?_))
        rw [hm, shl1 (by omega), bor hlt hp, orN_succ, if_pos (by rw [e]; exact hv)])
  have := key 0 0 (by omega) rfl
  simpa using this
theorem least_mask {L : Int} {l : List Nat} {good : List Bool} {N : List (List Int)} : ((orN (fun j => ((l[j]?).map (Zbh good)).getD false) l.length 0 : Nat) : Int) = maskQ (l.map (accM L N good)) := by
  unfold maskQ
  rw [List.length_map]
  refine congrArg _ (orN_congr fun j hj => ?_)
  rw [List.getElem?_map, Option.map_map]
  rfl
theorem l11ClassOf_at {L : Int} {N : List (List Int)} (hN : Zcu L N) {c : List Int} (hc : c.length = N.length) {s a : Nat} (hs : s < N.length) (ha : a < L.toNat) : Zbf.f c (nx N s a) = some (clsN c (nx N s a)) := by
  have hx := nx_in hN (s := s) (a := a) (by omega) (by omega) (by omega)
  unfold Zbf.f clsN
  by_cases h : nx N s a < 0
  · rw [if_pos h, if_neg (by omega)]
  · rw [if_neg h, if_pos (by omega), if_pos (by omega), if_pos (by omega)]
set_option maxHeartbeats 1000000 in
theorem l11Minimal_run {L : Int} {N : List (List Int)} {good : List Bool} {c : List Int} (hN : Zcu L N) (hn : N.length ≤ 1048575) (hg : good.length = N.length) (hL : 0 ≤ L) (j : L ≤ 1048576) (hc : c.length = N.length) (hcb : ∀ s : Nat, s < N.length → rd c (s : Int) < N.length)
    (H : ClsOK L.toNat N.length (nxO N) (Zbh good) (fun s => s < N.length) (clS c)) (h0 : 0 ≤ rd c 0) (m : 0 < N.length) : ∀ (f i : Nat) (l : List Nat) (rows : List (List Int)) (x : List Int) (l' : List Nat) (rows' : List (List Int)), mRun L.toNat (nxO N) (clS c) f i l rows = some (l', rows') → LOK (fun s => s < N.length) (clS c) l → i ≤ l.length → rows.length = i → NumI N.length c l x →
      EvP (fun k => Zah.l1 k c (l.map fun (x : Nat) => (x : Int)) x (i : Int) L N good L 0 0 rows) (fun r => r = MinR L (l'.map (accM L N good)) rows')
  | 0, i, l, rows, x, l', rows', h, _, _, _, _ => by simp [mRun] at h
  | f + 1, i, l, rows, x, l', rows', h, hl, hi, hr, hx => by
    have hrow : ∀ s : Nat, s < N.length → ((Zae N (s : Int)).length : Int) = L := fun s hs => (row_at hN (s := s) (by omega) (by omega)).1
    have hnx : ∀ s a : Nat, rd (Zae N (s : Int)) (a : Int) = nx N s a := fun s a => by unfold nx; rw [if_neg (by omega)]
    have hll := hl.length_le H
    unfold mRun at h
    refine EvP.round ?_
    simp only [Zah.l1]
    cases e : l[i]? with
    | none =>
      rw [e] at h
      have h := Option.some.inj h
      have hge := List.getElem?_eq_none_iff.1 e
      refine EvP.no (by simp; omega) ?_
      rw [← (Prod.mk.inj h).1, ← (Prod.mk.inj h).2]
      unfold MinR
      by_cases d : l.length ≤ 16
      · refine EvP.no (by simp; omega) ?_
        rw [if_pos (by simpa using d), ← least_mask]
        have := l11Mask_ev (L := L) hg l hl.v d rows
        simpa using this
      · refine EvP.yes (by simp; omega) ?_
        rw [if_neg (by simpa using d)]
        refine EvP.ret ?_
        simp
    | some s =>
      rw [e] at h
      replace h : mRun L.toNat (nxO N) (clS c) f (i + 1) (mRow L.toNat (nxO N) (clS c) s l).1 (rows ++ [(mRow L.toNat (nxO N) (clS c) s l).2]) = some (l', rows') := h
      have hlt := (List.getElem?_eq_some_iff.1 e).1
      have hsn : s < N.length := hl.v s (List.mem_of_getElem? e)
      refine EvP.yes (by simp; omega) ?_
      have letters := EvP.up (fun k (st : (List Nat × List Int) × List Int) a => Zah.l2 k c (st.1.1.map fun (x : Nat) => (x : Int)) st.2 (i : Int) st.1.2 a L N good L 0 0 rows) (fun r => r = MinR L (l'.map (accM L N good)) rows') L.toNat
        (fun a st => st.1 = (List.range a).foldl (mStep (nxO N) (clS c) s) (l, []) ∧ LOK (fun s => s < N.length) (clS c) st.1.1 ∧ (∃ t, st.1.1 = l ++ t) ∧ st.1.2.length = a ∧ NumI N.length c st.1.1 st.2)
        (fun st ⟨h1, h2, ⟨t, h3⟩, h4, h5⟩ => by
          refine EvP.round ?_
          simp only [Zah.l2]
          refine EvP.no (by omega) (EvP.yes (by omega) ?_)
          rw [w64s (by omega)]
          have hm : mRow L.toNat (nxO N) (clS c) s l = st.1 := h1.symm
          rw [hm] at h
          exact l11Minimal_run hN hn hg hL j hc hcb H h0 m f (i + 1) st.1.1 (rows ++ [st.1.2]) st.2 l' rows' h h2 (by rw [h3, List.length_append]; omega) (by simp [hr]) h5)
        (fun a st ha ⟨h1, h2, ⟨t, h3⟩, h4, h5⟩ ih => by
          have hst := h2.length_le H
          have hg : st.1.1[i]? = some s := by rw [h3, List.getElem?_append_left hlt, e]
          have o := (List.getElem?_eq_some_iff.1 hg).1
          have hrd := rd_cast hg
          have p := hrow s hsn
          have hx := nx_in hN (s := s) (a := a) (by omega) (by omega) (by omega)
          obtain ⟨g, w⟩ := mStep_ok H hsn ha h2 st.1.2
          have hfold : (List.range (a + 1)).foldl (mStep (nxO N) (clS c) s) (l, []) = mStep (nxO N) (clS c) s (st.1.1, st.1.2) a := by
            rw [List.range_succ, List.foldl_append, ← h1]; rfl
          refine EvP.round ?_
          simp only [Zah.l2]
          rw [hrd, hnx]
          refine EvP.yes (by omega) (EvP.yes (by omega) (EvP.yes (by simp; omega) (EvP.yes (by omega) (EvP.yes (by omega) (EvP.yes (by omega) (EvP.yes (by omega) (EvP.here (l11ClassOf_at hN hc hsn ha) (EvP.yes (by omega) (EvP.no (by omega) ?_)))))))))
          -- nothing there
          have b : mStep (nxO N) (clS c) s (st.1.1, st.1.2) a = (st.1.1, st.1.2 ++ [-1]) → EvP (fun k => Zah.j4 k c (st.1.1.map fun (x : Nat) => (x : Int)) st.2 (i : Int) st.1.2 a (clsN c (nx N s a)) true L N good L 0 0 rows) (fun r => r = MinR L (l'.map (accM L N good)) rows') := by
            intro hm
            refine EvP.round ?_
            simp only [Zah.j4]
            refine EvP.yes (by trivial) (EvP.yes (by omega) ?_)
            rw [w64s (by omega)]
            exact ih ((st.1.1, st.1.2 ++ [-1]), st.2) ⟨by rw [hfold, hm], h2, ⟨t, h3⟩, by simp [h4], h5⟩
          by_cases hneg : nx N s a < 0
          · have : clsN c (nx N s a) < 0 := by unfold clsN; rw [if_neg (by omega)]; omega
            rw [decide_eq_true this]
            refine b ?_
            unfold mStep
            rw [nxO_no hneg]
          · obtain ⟨y, ey, hyn⟩ := nat_of (by omega : 0 ≤ nx N s a) hx.2
            have hnO : nxO N s a = some y := by rw [nxO_of (by omega), ey]; rfl
            have hxc : clsN c (nx N s a) = clS c y := by rw [ey]; unfold clsN; rw [if_pos (by omega)]; rfl
            by_cases hd : clS c y < 0
            · rw [decide_eq_true (by rw [hxc]; exact hd)]
              refine b ?_
              unfold mStep
              rw [hnO]
              exact if_pos hd
            · rw [hxc, decide_eq_false hd]
              have hyb : clS c y < N.length := hcb y hyn
              obtain ⟨q, hq, hqn⟩ := nat_of (n := N.length) (by omega : 0 ≤ clS c y) hyb
              refine EvP.round ?_
              simp only [Zah.j4]
              have hlen := h5.len
              refine EvP.no (by simp) (EvP.yes (by omega) (EvP.yes (by omega) ?_))
              have hat := h5.at_ q (by omega)
              have hms : mStep (nxO N) (clS c) s (st.1.1, st.1.2) a = match st.1.1.findIdx? (fun z => decide (clS c z = (q : Int))) with
                | some k => (st.1.1, st.1.2 ++ [(k : Int)])
                | none => (st.1.1 ++ [y], st.1.2 ++ [(st.1.1.length : Int)]) := by
                unfold mStep
                rw [hnO, ← hq]
                exact if_neg hd
              rw [hq]
              cases hfi : st.1.1.findIdx? (fun z => decide (clS c z = (q : Int))) with
              | some u =>
                rw [hfi] at hat hms
                replace hat : rd st.2 (q : Int) = (u : Int) := hat
                refine EvP.no (by omega) (EvP.yes (by omega) ?_)
                rw [hat, w64s (by omega)]
                exact ih ((st.1.1, st.1.2 ++ [(u : Int)]), st.2) ⟨by rw [hfold, hms], h2, ⟨t, h3⟩, by simp [h4], h5⟩
              | none =>
                rw [hfi] at hat hms
                replace hat : rd st.2 (q : Int) = -1 := hat
                refine EvP.yes (by omega) (EvP.here rfl (EvP.yes (by omega) (EvP.yes (by simp; omega) (EvP.yes (by rw [hrd]; omega) (EvP.yes (by rw [hrd]; omega) (EvP.yes (by omega) (EvP.yes (by rw [hrd]; omega) (EvP.yes (by simp; omega) (EvP.yes (by omega) ?_)))))))))
                rw [Int.toNat_natCast, List.length_map, Zcp (by omega), w64s (by omega), hrd, hnx, ey]
                rw [hms] at g
                have := ih ((st.1.1 ++ [y], st.1.2 ++ [(st.1.1.length : Int)]), st.2.set q (st.1.1.length : Int)) ⟨by rw [hfold, hms], g, ⟨t ++ [y], by simp [h3]⟩, by simp [h4], h5.new (by omega) hq hfi⟩
                simpa using this)
      have := letters 0 ((l, []), x) (by omega) ⟨rfl, hl, ⟨[], by simp⟩, rfl, hx⟩
      simpa using this
/-- The reference's least machine of no words. -/
theorem l11Minimal_dead {L : Int} {N : List (List Int)} {good : List Bool} {c : List Int} (hN : Zcu L N) (hn : N.length ≤ 1048575) (hg : good.length = N.length) (hL : 0 ≤ L) (d : L ≤ 1048576) (hc : c.length = N.length) (h0 : rd c 0 < 0) (b : 0 < N.length) (hgd : Zbh good 0 = false) (x : List Int) :
    EvP (fun k => Zah.l1 k c [0] x 0 L N good L 0 0 []) (fun r => r = (L, 0, 0, [List.replicate L.toNat (-1)], 1)) := by
  have hrow : ∀ s : Nat, s < N.length → ((Zae N (s : Int)).length : Int) = L := fun s hs => (row_at hN (s := s) (by omega) (by omega)).1
  have hnx : ∀ s a : Nat, rd (Zae N (s : Int)) (a : Int) = nx N s a := fun s a => by unfold nx; rw [if_neg (by omega)]
  have g := hrow 0 b
  refine EvP.round ?_
  simp only [Zah.l1]
  refine EvP.yes (by decide) ?_
  have letters := EvP.up (fun k (row : List Int) a => Zah.l2 k c [0] x 0 row a L N good L 0 0 []) (fun r => r = (L, 0, 0, [List.replicate L.toNat (-1)], 1)) L.toNat (fun a row => row = List.replicate a (-1))
    (fun row hrw => by
      refine EvP.round ?_
      simp only [Zah.l2]
      refine EvP.no (by omega) (EvP.yes (by decide) ?_)
      refine EvP.round ?_
      simp only [Zah.l1]
      refine EvP.no (by rw [w64 (n := 0 + 1) (by omega) (by omega)]; decide) (EvP.no (by decide) ?_)
      have := l11Mask_ev (L := L) (N := N) hg [0] (fun y hy => by rw [List.mem_singleton.1 hy]; exact b) (by decide) [row]
      have e : orN (fun j => ((([0] : List Nat)[j]?).map (Zbh good)).getD false) ([0] : List Nat).length 0 = 0 := by
        show orN _ (0 + 1) 0 = 0
        rw [orN_succ]
        rw [if_neg (by show ¬ Zbh good 0 = true; rw [hgd]; simp)]
        rfl
      rw [e] at this
      rw [hrw] at this ⊢
      exact this)
    (fun a row ha hrw ih => by
      have hrd : rd ([0] : List Int) 0 = ((0 : Nat) : Int) := rfl
      have hx := nx_in hN (s := ((0 : Nat) : Int)) (a := a) (by omega) (by omega) (by omega)
      refine EvP.round ?_
      simp only [Zah.l2]
      rw [hrd, hnx]
      have hrl : row.length = a := by rw [hrw]; simp
      refine EvP.yes (by omega) (EvP.yes (by omega) (EvP.yes (by simp) (EvP.yes (by omega) (EvP.yes (by omega) (EvP.yes (by omega) (EvP.yes (by omega) (EvP.here (l11ClassOf_at hN hc b ha) (EvP.yes (by omega) (EvP.yes h0 (EvP.round ?_))))))))))
      simp only [Zah.j4]
      refine EvP.yes (by trivial) (EvP.yes (by omega) ?_)
      rw [w64s (by omega)]
      exact ih _ (by rw [hrw, ← List.replicate_succ'])  )
  have := letters 0 [] (by omega) rfl
  simpa using this
set_option maxHeartbeats 1000000 in
theorem l11Minimal_ev {L : Int} {N : List (List Int)} {good : List Bool} (hN : Zcu L N) (hn : N.length ≤ 1048575) (hg : good.length = N.length) (hL : 0 ≤ L) (b : L ≤ 1048576) (a : 0 < N.length) :
    EvP (fun k => Zah.f k L N good) (fun r => ∃ qs rows, IsLeast L.toNat (accM L N good 0) (qs, rows) ∧ qs.length ≤ N.length ∧ r = MinR L qs rows) := by
  unfold Zah.f
  refine EvP.bindP (l11Classes_ev hN hn hg hL b) fun c ⟨⟨hc, hcb⟩, H⟩ => ?_
  try dsimp only at H
  rw [w64s (by omega)]
  refine EvP.yes (by omega) (EvP.yes (by omega) ?_)
  have loop := EvP.up (fun k (x : List Int) i => Zah.l0 k c [0] x i L N good L 0 0) (fun r => ∃ qs rows, IsLeast L.toNat (accM L N good 0) (qs, rows) ∧ qs.length ≤ N.length ∧ r = MinR L qs rows) (N.length + 1)
    (fun i x => x.length = N.length + 1 ∧ ∀ j : Nat, j < i → rd x (j : Int) = -1)
    (fun x ⟨h1, h2⟩ => by
      refine EvP.round ?_
      simp only [Zah.l0]
      refine EvP.no (by omega) (EvP.yes (by omega) ?_)
      by_cases h0 : rd c 0 ≥ 0
      · have hb := hcb 0 a
        replace hb : rd c 0 < N.length := hb
        obtain ⟨q, hq, hqn⟩ := nat_of (n := N.length) h0 hb
        refine EvP.yes h0 (EvP.yes h0 (EvP.yes (by omega) (EvP.round ?_)))
        simp only [Zah.j1]
        have d : (0 : Int) ≤ clS c 0 := h0
        obtain ⟨l, rows, g1, g2, g3⟩ := mRun_least (cls := clS c) (s := 0) H a d
        have e0 : NumI N.length c [] x := ⟨h1, fun k hk => h2 k hk⟩
        have e1 := e0.new (y := 0) (k := q) (by omega) hq rfl
        have := l11Minimal_run hN hn hg hL b hc hcb H h0 a _ 0 [0] [] (x.set q 0) l rows g1 ⟨fun x hx => by rw [List.mem_singleton.1 hx]; exact a, fun x hx => by rw [List.mem_singleton.1 hx]; exact d, List.pairwise_singleton _ _⟩ (by simp) rfl e1
        rw [hq, Int.toNat_natCast]
        exact EvP.mono this fun r hr => ⟨_, _, g3, by rw [List.length_map]; exact g2.length_le H, hr⟩
      · refine EvP.no h0 (EvP.round ?_)
        simp only [Zah.j1]
        have hE : emp (accM L N good 0) := (H.dead 0 a).1 (by show rd c ((0 : Nat) : Int) < 0; simpa using h0)
        have hgd : Zbh good 0 = false := hE []
        have := l11Minimal_dead hN hn hg hL b hc (by omega) a hgd x
        refine EvP.mono this fun r hr => ⟨_, _, least_empty _ hE, by simp; omega, ?_⟩
        rw [hr]
        unfold MinR
        rw [if_pos (by simp)]
        unfold maskQ
        simp only [List.length_cons, List.length_nil]
        rw [orN_succ, if_neg (by show ¬ (Zbh good 0 = true); rw [hgd]; simp)]
        rfl)
    (fun i x hi ⟨h1, h2⟩ ih => by
      refine EvP.round ?_
      simp only [Zah.l0]
      refine EvP.yes (by omega) (EvP.yes (by omega) ?_)
      rw [w64s (by omega), Int.toNat_natCast]
      refine ih _ ⟨by simp [h1], fun j hj => ?_⟩
      by_cases e : j = i
      · subst e; exact Zcp (by omega) _
      · rw [Zdr (fun h => e h.symm)]; exact h2 j (by omega))
  have := loop 0 (List.replicate (N.length + 1) 0) (by omega) ⟨by simp, fun j hj => absurd hj (by omega)⟩
  simpa using this
end Go.Proofs.YtgindgodfcfgkaaDoor.U
end M3
section M4
namespace Go.Proofs.YtgindgodfcfgkaaDoor.U
/-! What holds of every least machine. -/
/-- What stands in a row for a language: -1 for no word, or the language's number. -/
def Ent (qs : List Lang) (p : Lang) (t : Int) : Prop := (t = -1 ∧ emp p) ∨ ∃ k : Nat, t = k ∧ qs[k]? = some p ∧ ¬ emp p
theorem Ent.more {qs ext : List Lang} {p : Lang} {t : Int} (h : Ent qs p t) : Ent (qs ++ ext) p t := by
  rcases h with h | ⟨k, h1, h2, h3⟩
  · exact .inl h
  · exact .inr ⟨k, h1, by rw [List.getElem?_append_left (List.getElem?_eq_some_iff.1 h2).1]; exact h2, h3⟩
theorem Ent.bounds {qs : List Lang} {p : Lang} {t : Int} (h : Ent qs p t) : -1 ≤ t ∧ t < qs.length := by
  rcases h with h | ⟨k, h1, h2, _⟩
  · omega
  · have := (List.getElem?_eq_some_iff.1 h2).1; omega
theorem posOf_some {q : Lang} {l : List Lang} {k : Nat} (h : posOf q l = some k) : l[k]? = some q := by
  unfold posOf at h
  rw [List.findIdx?_eq_some_iff_getElem] at h
  obtain ⟨hk, h1, _⟩ := h
  have h2 : l[k] = q := by simpa using h1
  rw [List.getElem?_eq_getElem hk, h2]
theorem posOf_none {q : Lang} {l : List Lang} (h : posOf q l = none) : q ∉ l := by
  unfold posOf at h
  rw [List.findIdx?_eq_none_iff] at h
  intro hm
  have := h q hm
  simp at this
theorem cStep_ent (q : Lang) (qs : List Lang) (row : List Int) (a : Nat) (hn : qs.Nodup) : ∃ ext t, cStep q (qs, row) a = (qs ++ ext, row ++ [t]) ∧ Ent (qs ++ ext) (der q a) t ∧ (qs ++ ext).Nodup ∧ ∀ p ∈ ext, ¬ emp p := by
  unfold cStep
  by_cases he : emp (der q a)
  · rw [if_pos he]
    exact ⟨[], -1, by simp, .inl ⟨rfl, he⟩, by simpa using hn, by simp⟩
  · rw [if_neg he]
    cases e : posOf (der q a) qs with
    | some k => exact ⟨[], k, by simp, .inr ⟨k, rfl, by simpa using posOf_some e, he⟩, by simpa using hn, by simp⟩
    | none =>
      refine ⟨[der q a], (qs.length : Int), rfl, .inr ⟨qs.length, rfl, by simp, he⟩, ?_, fun p hp => by rw [List.mem_singleton.1 hp]; exact he⟩
      rw [List.nodup_append]
      refine ⟨hn, by simp, fun x hx y hy hxy => ?_⟩
      rw [List.mem_singleton.1 hy] at hxy
      exact posOf_none e (hxy ▸ hx)
theorem cFold_ent (q : Lang) : ∀ (n : Nat) (qs : List Lang), qs.Nodup → ∃ ext row, (List.range n).foldl (cStep q) (qs, []) = (qs ++ ext, row) ∧ row.length = n ∧ (∀ b, b < n → Ent (qs ++ ext) (der q b) (row.getD b 0)) ∧ (qs ++ ext).Nodup ∧ ∀ p ∈ ext, ¬ emp p
  | 0, qs, hn => ⟨[], [], by simp, rfl, fun b hb => absurd hb (by omega), by simpa using hn, by simp⟩
  | n + 1, qs, hn => by
    obtain ⟨ext, row, h1, h2, h3, h4, h5⟩ := cFold_ent q n qs hn
    obtain ⟨a, t, g1, g2, g3, g4⟩ := cStep_ent q (qs ++ ext) row n h4
    refine ⟨ext ++ a, row ++ [t], ?_, by simp [h2], fun b hb => ?_, by rw [← List.append_assoc]; exact g3, fun p hp => ?_⟩
    · rw [List.range_succ, List.foldl_append, h1]
      show cStep q (qs ++ ext, row) n = _
      rw [g1, List.append_assoc]
    · rw [← List.append_assoc]
      by_cases e : b = n
      · subst e
        have : (row ++ [t]).getD b 0 = t := by rw [List.getD_eq_getElem?_getD, List.getElem?_append_right (by omega), h2]; simp
        rw [this]; exact g2
      · have : (row ++ [t]).getD b 0 = row.getD b 0 := by rw [List.getD_eq_getElem?_getD, List.getElem?_append_left (by omega), List.getD_eq_getElem?_getD]
        rw [this]; exact (h3 b (by omega)).more
    · rcases List.mem_append.1 hp with hp | hp
      · exact h5 p hp
      · exact g4 p hp
structure LeastI (L : Nat) (q : Lang) (qs : List Lang) (rows : List (List Int)) : Prop where
  len : rows.length = qs.length
  wid : ∀ row ∈ rows, row.length = L
  ent : ∀ (j : Nat) (p : Lang) (row : List Int), qs[j]? = some p → rows[j]? = some row → ∀ b, b < L → Ent qs (der p b) (row.getD b 0)
  first : qs[0]? = some q
  nodup : qs.Nodup
  alive : ¬ emp q → ∀ p ∈ qs, ¬ emp p
theorem cRun_I {L : Nat} {q : Lang} : ∀ (f i : Nat) (qs : List Lang) (rows : List (List Int)) (r : List Lang × List (List Int)), cRun L f i qs rows = some r → i ≤ qs.length → rows.length = i → (∀ row ∈ rows, row.length = L) →
    (∀ (j : Nat) (p : Lang) (row : List Int), qs[j]? = some p → rows[j]? = some row → ∀ b, b < L → Ent qs (der p b) (row.getD b 0)) → qs[0]? = some q → qs.Nodup → (¬ emp q → ∀ p ∈ qs, ¬ emp p) → LeastI L q r.1 r.2
  | 0, i, qs, rows, r, h, _, _, _, _, _, _, _ => by simp [cRun] at h
  | f + 1, i, qs, rows, r, h, hi, hr, hw, he, hf, hn, hA => by
    unfold cRun at h
    cases e : qs[i]? with
    | none =>
      rw [e] at h
      have h := Option.some.inj h
      subst h
      have := List.getElem?_eq_none_iff.1 e
      exact ⟨by show rows.length = qs.length; omega, hw, he, hf, hn, hA⟩
    | some p =>
      rw [e] at h
      obtain ⟨ext, row, h1, h2, h3, h4, h5⟩ := cFold_ent p L qs hn
      have hc : cRow L p qs = (qs ++ ext, row) := h1
      replace h : cRun L f (i + 1) (cRow L p qs).1 (rows ++ [(cRow L p qs).2]) = some r := h
      rw [hc] at h
      have hlt := (List.getElem?_eq_some_iff.1 e).1
      refine cRun_I f (i + 1) _ _ r h (by simp; omega) (by simp [hr]) (fun x hx => ?_) (fun j p' row' hj hrow b hb => ?_) ?_ h4 (fun hq x hx => ?_)
      · rcases List.mem_append.1 hx with hx | hx
        · exact hw x hx
        · rw [List.mem_singleton.1 hx]; exact h2
      · by_cases hji : j < i
        · rw [List.getElem?_append_left (by omega)] at hrow
          rw [List.getElem?_append_left (by omega)] at hj
          exact (he j p' row' hj hrow b hb).more
        · have hl := (List.getElem?_eq_some_iff.1 hrow).1
          simp only [List.length_append, List.length_cons, List.length_nil] at hl
          have : j = i := by omega
          subst this
          rw [List.getElem?_append_right (by omega), hr] at hrow
          simp only [Nat.sub_self, List.getElem?_cons_zero, Option.some.injEq] at hrow
          rw [List.getElem?_append_left hlt, e] at hj
          have hj := Option.some.inj hj
          subst hj; subst hrow
          exact h3 b hb
      · rw [List.getElem?_append_left (by have := (List.getElem?_eq_some_iff.1 hf).1; omega)]; exact hf
      · rcases List.mem_append.1 hx with hx | hx
        · exact hA hq x hx
        · exact h5 x hx
theorem IsLeast.facts {L : Nat} {q : Lang} {qs : List Lang} {rows : List (List Int)} (h : IsLeast L q (qs, rows)) : LeastI L q qs rows := by
  obtain ⟨f, h⟩ := h
  exact cRun_I f 0 [q] [] _ h (by simp) rfl (by simp) (fun j p row _ hr => by simp at hr) rfl (by simp) (fun hq p hp => by rw [List.mem_singleton.1 hp]; exact hq)
end Go.Proofs.YtgindgodfcfgkaaDoor.U
end M4
section M5
namespace Go.Proofs.YtgindgodfcfgkaaDoor.U
open Go.RowKit Go.Proofs.YtgindgodfcfgkaaDoor.P Go.Proofs.YtgindgodfcfgkaaDoorW.PrintWords Go.Proofs.YtgindgodfcfgkaaDoorW.PrintLast
set_option linter.unusedVariables false
/-! Both least machines are one. -/
theorem free_acc {L S F : Int} {N : List (List Int)} (hN : Zcu L N) (hL : 0 ≤ L) (hS : 0 ≤ S) (hSn : S < N.length) : ∀ (w : List Nat) (s : Nat), s < N.length → accM L (freeN L S N) (freeG S F N) (turn S s).toNat w = accM L N (finL F N.length) s w
  | [], s, hs => by
    have ht := turn_in (n := N.length) (s := (s : Int)) hS hSn (by omega) (by omega)
    show rdOf false (freeG S F N) (((turn S s).toNat : Nat) : Int) = rdOf false (finL F N.length) (s : Int)
    rw [Int.toNat_of_nonneg ht.1, freeG_at ht.1 ht.2, turn_turn, finL_at (by omega) (by omega)]
  | a :: w, s, hs => by
    have ht := turn_in (n := N.length) (s := (s : Int)) hS hSn (by omega) (by omega)
    unfold accM accW
    by_cases ha : a < L.toNat
    · rw [decide_eq_true ha]
      simp only [Bool.true_and]
      have hx := nx_in hN (s := s) (a := a) (by omega) (by omega) (by omega)
      have e : nx (freeN L S N) (((turn S s).toNat : Nat) : Int) (a : Int) = turn S (nx N s a) := by
        rw [Int.toNat_of_nonneg ht.1, freeN_nx ht.1 ht.2 (by omega) (by omega), turn_turn]
      by_cases hneg : nx N s a < 0
      · rw [nxO_no hneg, nxO_no (by rw [e, turn_neg hS hneg]; exact hneg)]
      · have b := turn_in (n := N.length) (s := nx N s a) hS hSn (by omega) hx.2
        obtain ⟨t, et, htn⟩ := nat_of (by omega : 0 ≤ nx N s a) hx.2
        rw [nxO_of (by omega : 0 ≤ nx N s a), nxO_of (by rw [e]; exact b.1), e, et]
        exact free_acc hN hL hS hSn w t htn
    · rw [decide_eq_false ha]
      simp
theorem free_start {L S F : Int} {N : List (List Int)} (hN : Zcu L N) (hL : 0 ≤ L) (hS : 0 ≤ S) (hSn : S < N.length) : accM L (freeN L S N) (freeG S F N) 0 = accM L N (finL F N.length) S.toNat := by
  funext w
  obtain ⟨s, rfl, hs⟩ := nat_of hS hSn
  rw [Int.toNat_natCast, ← free_acc hN hL (by omega) (by omega) w s hs]
  have : (turn (s : Int) (s : Int)).toNat = 0 := by unfold turn; split <;> omega
  rw [this]
theorem least_rows {L : Int} {q : Lang} {qs : List Lang} {rows : List (List Int)} (hL : 0 ≤ L) (h : IsLeast L.toNat q (qs, rows)) : Zcu L rows := by
  have I := h.facts
  intro row hr
  refine ⟨by have := I.wid row hr; omega, fun t ht => ?_⟩
  obtain ⟨j, hj, rfl⟩ := List.mem_iff_getElem.1 hr
  obtain ⟨b, hb, rfl⟩ := List.mem_iff_getElem.1 ht
  have hl := I.len
  have h1 := I.ent j _ _ (List.getElem?_eq_getElem (by omega)) (List.getElem?_eq_getElem hj) b (by rw [← I.wid _ (List.getElem_mem hj)]; exact hb)
  have h2 := h1.bounds
  rw [List.getD_eq_getElem?_getD, List.getElem?_eq_getElem hb] at h2
  simp only [Option.getD_some] at h2
  omega
theorem freeG_length (S F : Int) (N : List (List Int)) : (freeG S F N).length = N.length := by simp [freeG]
theorem small_both {L S F : Int} {N : List (List Int)} (h : isAut L S F N = true) :
    ∃ qs rows, IsLeast L.toNat (accM L N (finL F N.length) S.toNat) (qs, rows) ∧ qs.length ≤ N.length ∧ Ev (fun k => Zal.f k L S (finL F N.length) N) (L, 0, qs.map (fun q => q []), rows) ∧ Ev (fun k => Zdm.f k L S F N) (L, 0, maskQ qs, rows) := by
  have ok := isAut_ok h
  have hN := ok.rows; have hL := ok.l0; have a := ok.l8; have b := ok.n16; have hS := ok.s0; have hSn := ok.sn; have c := ok.n1
  obtain ⟨r, h1, qs, rows, h2, h3, h4⟩ := minimal_ev (fin := finL F N.length) hN (by omega) (by simp [finL]) hL a hS hSn
  subst h3
  have hfr := free_rows hN hL hS hSn
  obtain ⟨r', g1, qs', rows', g2, g3, g4⟩ := l11Minimal_ev (good := freeG S F N) hfr (by rw [Zdu]; omega) (by rw [freeG_length, Zdu]) hL (by omega) (by rw [Zdu]; omega)
  rw [free_start hN hL hS hSn] at g2
  have e := g2.unique h2
  obtain ⟨rfl, rfl⟩ := Prod.mk.inj e
  subst g4
  refine ⟨qs', rows', h2, h4, h1, ?_⟩
  unfold Zdm.f
  refine Ev.bind (l11Free_ev hN (by omega) hL (by omega) hS hSn) (Ev.bind g1 ?_)
  unfold MinR
  rw [if_pos (by omega)]
  exact Ev.now _
end Go.Proofs.YtgindgodfcfgkaaDoor.U
end M5
section M6
namespace Go.Proofs.YtgindgodfcfgkaaDoor.U
open Go.RowKit Go.Proofs.YtgindgodfcfgkaaDoor.P Go.Proofs.YtgindgodfcfgkaaDoorW.PrintWords Go.Proofs.YtgindgodfcfgkaaDoorW.PrintLast Go.Proofs.YtgindgodfcfgkaaDoorW.PrintMore
set_option linter.unusedVariables false
/-! What the letters do to the states: lists of states, both ways. -/
/-- The letter a done to each state of a list. -/
def Zcy (N : List (List Int)) (l : List Int) (a : Int) : List Int := l.map fun x => nx N x a
def idL (n : Nat) : List Int := (List.range n).map fun (s : Nat) => (s : Int)
theorem sameIds_ev (L S F : Int) (N : List (List Int)) (hn : N.length ≤ 1048576) : Ev (fun k => Zb8.f k L S F N) (idL N.length) := by
  have key := Ev.up (fun k (x : List Int) i => Zb8.l0 k x i L S F N) N.length (fun _ _ => idL N.length) (fun i x => x = idL i)
    (fun x hx => by
      refine Ev.round ?_
      simp only [Zb8.l0]
      refine Ev.here (show Zbr.f L S F N = some (N.length : Int) from rfl) (Ev.no (by omega) ?_)
      rw [hx]
      exact Ev.now _)
    (fun i x hi hx ih => by
      have hl : x.length = i := by rw [hx]; simp [idL]
      refine Ev.round ?_
      simp only [Zb8.l0]
      refine Ev.here (show Zbr.f L S F N = some (N.length : Int) from rfl) (Ev.yes (by omega) (Ev.yes (by omega) ?_))
      rw [w64s (by omega)]
      refine ih _ ?_
      rw [hx]
      simp [idL, List.range_succ])
  have := key 0 [] (by omega) (by simp [idL])
  unfold Zb8.f
  simpa using this
theorem then_ev {L : Int} {N : List (List Int)} (S F : Int) (hN : Zcu L N) (l : List Int) (hl : ∀ x ∈ l, -1 ≤ x ∧ x < N.length) (hln : l.length ≤ 1048576) {a : Nat} (ha : (a : Int) < L) :
    Ev (fun k => Zbg.f k L S F N l (a : Int)) (Zcy N l a) := by
  have key := Ev.up (fun k (y : List Int) i => Zbg.l0 k l (a : Int) y i L S F N) l.length (fun _ _ => Zcy N l a) (fun i y => y = Zcy N (l.take i) a)
    (fun y hy => by
      refine Ev.round ?_
      simp only [Zbg.l0]
      refine Ev.no (by omega) ?_
      rw [hy, List.take_length]
      exact Ev.now _)
    (fun i y hi hy ih => by
      have hyl : y.length ≤ i := by rw [hy]; simp [Zcy]; omega
      have hx := hl _ (List.getElem_mem hi)
      have nxt : y ++ [nx N l[i] a] = Zcy N (l.take (i + 1)) a := by
        rw [hy]
        unfold Zcy
        rw [List.take_add_one, List.getElem?_eq_getElem hi, List.map_append]
        rfl
      refine Ev.round ?_
      simp only [Zbg.l0]
      rw [rd_lt hi, w64s (by omega)]
      refine Ev.yes (by omega) (Ev.yes (by omega) ?_)
      by_cases h : l[i] ≥ 0
      · have hr := row_at hN (s := l[i]) h hx.2
        refine Ev.yes h (Ev.yes h (Ev.yes hx.2 (Ev.yes (by omega) (Ev.yes (by omega) (Ev.yes (by omega) (ih _ ?_))))))
        rw [← nxt]
        unfold nx
        rw [if_neg (by omega)]
      · refine Ev.no h (Ev.yes (by omega) (ih _ ?_))
        rw [← nxt]
        unfold nx
        rw [if_pos (by omega), show l[i] = -1 by omega])
  have := key 0 [] (by omega) (by simp [Zcy])
  unfold Zbg.f
  simpa using this
theorem thenL_in {L : Int} {N : List (List Int)} (hN : Zcu L N) {l : List Int} (hl : ∀ x ∈ l, -1 ≤ x ∧ x < N.length) {a : Nat} (ha : (a : Int) < L) : ∀ x ∈ Zcy N l a, -1 ≤ x ∧ x < N.length := by
  intro x hx
  obtain ⟨y, hy, rfl⟩ := List.mem_map.1 hx
  exact nx_in hN (hl y hy).2 (by omega) ha
theorem idL_in (n : Nat) : ∀ x ∈ idL n, -1 ≤ x ∧ x < (n : Int) := by
  intro x hx
  obtain ⟨y, hy, rfl⟩ := List.mem_map.1 hx
  have := List.mem_range.1 hy
  omega
theorem sameS_ev (a b : List Int) (ha : a.length ≤ 1048576) : Ev (fun k => Zb9.f k a b) (decide (a = b)) := by
  unfold Zb9.f
  by_cases h : a.length = b.length
  · refine Ev.yes (by omega) ?_
    have key := Ev.up (fun k (_ : Unit) i => Zb9.l0 k a b i) a.length (fun _ _ => decide (a = b)) (fun i _ => ∀ j, j < i → a[j]? = b[j]?)
      (fun _ hh => by
        refine Ev.round ?_
        simp only [Zb9.l0]
        refine Ev.no (by omega) ?_
        have : a = b := List.ext_getElem? fun j => by
          by_cases hj : j < a.length
          · exact hh j hj
          · rw [List.getElem?_eq_none (by omega), List.getElem?_eq_none (by omega)]
        rw [decide_eq_true this]
        exact Ev.now _)
      (fun i _ hi hh ih => by
        refine Ev.round ?_
        simp only [Zb9.l0]
        refine Ev.yes (by omega) (Ev.yes (by omega) (Ev.yes (by omega) ?_))
        rw [rd_lt hi, rd_lt (by omega : i < b.length), w64s (by omega)]
        by_cases e : a[i] = b[i]
        · refine Ev.yes e (ih () fun j hj => ?_)
          by_cases e2 : j = i
          · subst e2; rw [List.getElem?_eq_getElem hi, List.getElem?_eq_getElem (by omega), e]
          · exact hh j (by omega)
        · refine Ev.no e ?_
          rw [decide_eq_false (fun hh => e (by subst hh; rfl))]
          exact Ev.now _)
    have := key 0 () (by omega) (fun j hj => absurd hj (by omega))
    simpa using this
  · refine Ev.no (by omega) ?_
    rw [decide_eq_false (fun hh => h (by rw [hh]))]
    exact Ev.now _
theorem slEq_ev (a b : List Int) (ha : a.length ≤ 1048576) : Ev (fun k => Za6.f k a b) (decide (a = b)) := by
  unfold Za6.f
  by_cases h : a.length = b.length
  · refine Ev.yes (by omega) ?_
    have key := Ev.up (fun k (_ : Unit) i => Za6.l0 k a b (a.length : Int) i) a.length (fun _ _ => decide (a = b)) (fun i _ => ∀ j, j < i → a[j]? = b[j]?)
      (fun _ hh => by
        refine Ev.round ?_
        simp only [Za6.l0]
        refine Ev.no (by omega) ?_
        have : a = b := List.ext_getElem? fun j => by
          by_cases hj : j < a.length
          · exact hh j hj
          · rw [List.getElem?_eq_none (by omega), List.getElem?_eq_none (by omega)]
        rw [decide_eq_true this]
        exact Ev.now _)
      (fun i _ hi hh ih => by
        refine Ev.round ?_
        simp only [Za6.l0]
        refine Ev.yes (by omega) (Ev.yes (by omega) (Ev.yes (by omega) (Ev.yes (by omega) ?_)))
        rw [rd_lt hi, rd_lt (by omega : i < b.length), w64s (by omega)]
        by_cases e : a[i] = b[i]
        · refine Ev.yes e (ih () fun j hj => ?_)
          by_cases e2 : j = i
          · subst e2; rw [List.getElem?_eq_getElem hi, List.getElem?_eq_getElem (by omega), e]
          · exact hh j (by omega)
        · refine Ev.no e ?_
          rw [decide_eq_false (fun hh => e (by subst hh; rfl))]
          exact Ev.now _)
    have := key 0 () (by omega) (fun j hj => absurd hj (by omega))
    simpa using this
  · refine Ev.no (by omega) ?_
    rw [decide_eq_false (fun hh => h (by rw [hh]))]
    exact Ev.now _
/-- The columns of a machine: what each letter does to each state. -/
def colL (N : List (List Int)) (a : Nat) : List Int := Zcy N (idL N.length) a
def colsL (L : Nat) (N : List (List Int)) : List (List Int) := (List.range L).map (colL N)
theorem colL_length (N : List (List Int)) (a : Nat) : (colL N a).length = N.length := by simp [colL, Zcy, idL]
theorem functions_ev {L S : Int} {fin : List Bool} {N : List (List Int)} (hN : Zcu L N) (hn : N.length ≤ 1048576) (hL : 0 ≤ L) (b : L ≤ 1048576) : Ev (fun k => Zaw.f k L S fin N) (colsL L.toNat N) := by
  have key := Ev.up (fun k (x : List (List Int)) a => Zaw.l0 k x L a L S fin N) L.toNat (fun _ _ => colsL L.toNat N) (fun a x => x = colsL a N)
    (fun x hx => by
      refine Ev.round ?_
      simp only [Zaw.l0]
      refine Ev.no (by omega) ?_
      rw [hx]
      exact Ev.now _)
    (fun a x ha hx ih => by
      have hxl : x.length = a := by rw [hx]; simp [colsL]
      refine Ev.round ?_
      simp only [Zaw.l0]
      refine Ev.yes (by omega) (Ev.here (show _ = some (N.length : Int) from rfl) ?_)
      have inner := Ev.up (fun k (y : List Int) s => Zaw.l1 k x (a : Int) y L (a : Int) (N.length : Int) s L S fin N) N.length (fun _ _ => colsL L.toNat N) (fun s y => y = Zcy N (idL s) a)
        (fun y hy => by
          refine Ev.round ?_
          simp only [Zaw.l1]
          refine Ev.no (by omega) (Ev.yes (by omega) ?_)
          rw [w64s (by omega)]
          refine ih _ ?_
          rw [hx, hy]
          simp [colsL, colL, List.range_succ])
        (fun s y hs hy ihs => by
          have hyl : y.length = s := by rw [hy]; simp [Zcy, idL]
          refine Ev.round ?_
          simp only [Zaw.l1]
          refine Ev.yes (by omega) (Ev.here (step_eq hN S fin (s := (s : Int)) (a := (a : Int)) (by omega) (by omega) (by omega)) (Ev.yes (by omega) ?_))
          rw [w64s (by omega)]
          refine ihs _ ?_
          rw [hy]
          simp [Zcy, idL, List.range_succ])
      have := inner 0 [] (by omega) (by simp [Zcy, idL])
      simpa using this)
  have := key 0 [] (by omega) (by simp [colsL])
  unfold Zaw.f
  simpa using this
theorem followed_ev {L : Int} {N : List (List Int)} (hN : Zcu L N) (hn : N.length ≤ 1048576) {a : Nat} (l : List Int) (hl : ∀ x ∈ l, -1 ≤ x ∧ x < N.length) (hln : l.length ≤ 1048576) : Ev (fun k => Zbm.f k l (colL N a)) (Zcy N l a) := by
  have key := Ev.up (fun k (y : List Int) i => Zbm.l0 k (colL N a) y l (l.length : Int) i) l.length (fun _ _ => Zcy N l a) (fun i y => y = Zcy N (l.take i) a)
    (fun y hy => by
      refine Ev.round ?_
      simp only [Zbm.l0]
      refine Ev.no (by omega) ?_
      rw [hy, List.take_length]
      exact Ev.now _)
    (fun i y hi hy ih => by
      have hyl : y.length ≤ i := by rw [hy]; simp [Zcy]; omega
      have hx := hl _ (List.getElem_mem hi)
      have nxt : y ++ [nx N l[i] a] = Zcy N (l.take (i + 1)) a := by
        rw [hy]
        unfold Zcy
        rw [List.take_add_one, List.getElem?_eq_getElem hi, List.map_append]
        rfl
      refine Ev.round ?_
      simp only [Zbm.l0]
      rw [rd_lt hi, w64s (by omega)]
      refine Ev.yes (by omega) (Ev.yes (by omega) (Ev.yes (by omega) ?_))
      by_cases h : l[i] < 0
      · refine Ev.yes h (Ev.yes (by omega) (ih _ ?_))
        rw [← nxt]
        unfold nx
        rw [if_pos h]
      · have hcl := colL_length N a
        obtain ⟨s, es, hs⟩ := nat_of (by omega : 0 ≤ l[i]) hx.2
        refine Ev.no h (Ev.yes (by omega) (Ev.yes (by omega) (Ev.yes (by omega) (ih _ ?_))))
        rw [← nxt, es, rd_lt (by omega : s < (colL N a).length)]
        simp [colL, Zcy, idL])
  have := key 0 [] (by omega) (by simp [Zcy])
  unfold Zbm.f
  simpa using this
end Go.Proofs.YtgindgodfcfgkaaDoor.U
end M6
section M7
namespace Go.Proofs.YtgindgodfcfgkaaDoor.U
open Go.RowKit Go.Proofs.YtgindgodfcfgkaaDoor.P Go.Proofs.YtgindgodfcfgkaaDoorW.PrintWords Go.Proofs.YtgindgodfcfgkaaDoorW.PrintLast Go.Proofs.YtgindgodfcfgkaaDoorW.PrintMore
set_option linter.unusedVariables false
/-! Do the letters commute? -/
/-- Two letters are dependent, or they may change places everywhere. -/
def ComC (d : List Int) (N : List (List Int)) (a b : Nat) : Prop := bt d a b = true ∨ Zcy N (colL N a) (b : Int) = Zcy N (colL N b) (a : Int)
def ComA (d : List Int) (N : List (List Int)) (L : Nat) : Prop := ∀ a b, a < b → b < L → ComC d N a b
theorem ComC.symm {d : List Int} {N : List (List Int)} {a b : Nat} (hs : bt d a b = bt d b a) (h : ComC d N a b) : ComC d N b a := by
  rcases h with h | h
  · exact .inl (hs ▸ h)
  · exact .inr h.symm
open Classical in
noncomputable def comB (d : List Int) (N : List (List Int)) (L : Nat) : Bool := decide (ComA d N L)
open Classical in
theorem com_no {d : List Int} {N : List (List Int)} {L a b : Nat} (ha : a < b) (hb : b < L) (h : ¬ ComC d N a b) : comB d N L = false := decide_eq_false fun hh => h (hh a b ha hb)
open Classical in
theorem com_yes {d : List Int} {N : List (List Int)} {L : Nat} (h : ComA d N L) : comB d N L = true := decide_eq_true h
theorem colL_in {L : Int} {N : List (List Int)} (hN : Zcu L N) {a : Nat} (ha : (a : Int) < L) : ∀ x ∈ colL N a, -1 ≤ x ∧ x < N.length := thenL_in hN (idL_in N.length) ha
theorem comS_ev {n L S F S1 F1 : Int} {d : List Int} {N N1 : List (List Int)} (hd : Sets d) (hN : Zcu L N) (hL : L = d.length) (hn : N.length ≤ 1048576) :
    Ev (fun k => Zat.l0 k (idL N.length) 0 n d L S1 F1 N1 L S F N) (comB d N d.length, 0) := by
  have h8 := hd.1
  have hid : (idL N.length).length = N.length := by simp [idL]
  have outer := Ev.up (fun k (_ : Unit) a => Zat.l0 k (idL N.length) a n d L S1 F1 N1 L S F N) d.length (fun _ _ => (comB d N d.length, (0 : Int)))
    (fun a _ => ∀ x y, x < a → x < y → y < d.length → ComC d N x y)
    (fun _ h => by
      refine Ev.round ?_
      simp only [Zat.l0]
      refine Ev.no (by omega) ?_
      rw [com_yes (fun a b hab hb => h a b (by omega) hab hb)]
      exact Ev.now _)
    (fun a _ ha h ih => by
      refine Ev.round ?_
      simp only [Zat.l0]
      refine Ev.yes (by omega) ?_
      rw [w64s (by omega)]
      have inner := Ev.up (fun k (_ : Unit) b => Zat.l1 k (idL N.length) (a : Int) b n d L S1 F1 N1 L S F N) d.length (fun _ _ => (comB d N d.length, (0 : Int)))
        (fun b _ => a < b ∧ ∀ y, a < y → y < b → ComC d N a y)
        (fun _ ⟨_, h2⟩ => by
          refine Ev.round ?_
          simp only [Zat.l1]
          refine Ev.no (by omega) ?_
          rw [w64s (by omega)]
          refine ih () fun x y hx hxy hy => ?_
          by_cases e : x = a
          · subst e; exact h2 y hxy hy
          · exact h x y (by omega) hxy hy)
        (fun b _ hb ⟨hab, h2⟩ ihb => by
          refine Ev.round ?_
          simp only [Zat.l1]
          refine Ev.yes (by omega) (Ev.here (l02Dep_eq hd ha (by omega)) ?_)
          rw [w64s (by omega)]
          have go : ComC d N a b → Ev (fun k => Zat.l1 k (idL N.length) (a : Int) ((b + 1 : Nat) : Int) n d L S1 F1 N1 L S F N) (comB d N d.length, 0) := fun hc =>
            ihb () ⟨by omega, fun y h3 h4 => by
              by_cases e : y = b
              · subst e; exact hc
              · exact h2 y h3 (by omega)⟩
          cases hbt : bt d a b
          · refine Ev.no (by simp) ?_
            have la := colL_length N a
            have lb := colL_length N b
            refine Ev.bind (then_ev S F hN (idL N.length) (idL_in _) (by omega) (by omega)) (Ev.bind (then_ev S F hN (colL N a) (colL_in hN (by omega)) (by omega) (by omega)) (Ev.bind (then_ev S F hN (idL N.length) (idL_in _) (by omega) (by omega)) (Ev.bind (then_ev S F hN (colL N b) (colL_in hN (by omega)) (by omega) (by omega)) (Ev.bind (sameS_ev _ _ (by simp [Zcy, la]; omega)) ?_))))
            by_cases e : Zcy N (colL N a) (b : Int) = Zcy N (colL N b) (a : Int)
            · rw [decide_eq_true e]
              exact Ev.yes rfl (go (.inr e))
            · rw [decide_eq_false e]
              refine Ev.no (by simp) ?_
              rw [com_no hab hb (fun hh => hh.elim (fun hh => by rw [hbt] at hh; cases hh) e)]
              exact Ev.now _
          · exact Ev.yes rfl (go (.inl hbt)))
      exact inner (a + 1) () (by omega) ⟨by omega, fun y h3 h4 => absurd h4 (by omega)⟩)
  have := outer 0 () (by omega) (fun x y hx => absurd hx (by omega))
  simpa using this
theorem colsL_at {L a : Nat} {N : List (List Int)} (ha : a < L) : Zae (colsL L N) (a : Int) = colL N a := by
  have : Zae (colsL L N) (a : Int) = (colsL L N)[a]'(by simp [colsL]; exact ha) := rdOf_lt (d := []) (by simp [colsL]; exact ha)
  rw [this]; simp [colsL]
theorem comI_ev {n : Int} {d : List Int} {L : Int} {N : List (List Int)} (hd : Sets d) (hs : symB d = true) (hN : Zcu L N) (hL : L = d.length) (hnd : n = d.length) (hn : N.length ≤ 1048576) :
    Ev (fun k => Zas.l0 k (colsL L.toNat N) n 0 n d) (comB d N d.length, 0) := by
  have h8 := hd.1
  have hlen : (colsL L.toNat N).length = d.length := by simp [colsL]; omega
  have sym : ∀ a b, a < d.length → b < d.length → bt d a b = bt d b a := fun a b ha hb => ((of_decide_eq_true hs) a ha).2 b hb
  have outer := Ev.up (fun k (_ : Unit) a => Zas.l0 k (colsL L.toNat N) n a n d) d.length (fun _ _ => (comB d N d.length, (0 : Int)))
    (fun a _ => ∀ x y, x < a → y < x → ComC d N x y)
    (fun _ h => by
      refine Ev.round ?_
      simp only [Zas.l0]
      refine Ev.no (by omega) ?_
      rw [com_yes (fun a b hab hb => (h b a hb hab).symm (sym b a hb (by omega)))]
      exact Ev.now _)
    (fun a _ ha h ih => by
      refine Ev.round ?_
      simp only [Zas.l0]
      refine Ev.yes (by omega) ?_
      have inner := Ev.up (fun k (_ : Unit) b => Zas.l1 k (colsL L.toNat N) (a : Int) n (a : Int) (a : Int) b n d) a (fun _ _ => (comB d N d.length, (0 : Int)))
        (fun b _ => ∀ y, y < b → ComC d N a y)
        (fun _ h2 => by
          refine Ev.round ?_
          simp only [Zas.l1]
          refine Ev.no (by omega) ?_
          rw [w64s (by omega)]
          refine ih () fun x y hx hxy => ?_
          by_cases e : x = a
          · subst e; exact h2 y hxy
          · exact h x y (by omega) hxy)
        (fun b _ hb h2 ihb => by
          refine Ev.round ?_
          simp only [Zas.l1]
          refine Ev.yes (by omega) (Ev.here (depend_eq hd ha (by omega)) ?_)
          rw [w64s (by omega)]
          have go : ComC d N a b → Ev (fun k => Zas.l1 k (colsL L.toNat N) (a : Int) n (a : Int) (a : Int) ((b + 1 : Nat) : Int) n d) (comB d N d.length, 0) := fun hc =>
            ihb () fun y h4 => by
              by_cases e : y = b
              · subst e; exact hc
              · exact h2 y (by omega)
          cases hbt : bt d a b
          · refine Ev.no (by simp) (Ev.yes (by omega) (Ev.yes (by omega) (Ev.yes (by omega) (Ev.yes (by omega) ?_))))
            rw [colsL_at (by omega), colsL_at (by omega)]
            have la := colL_length N a
            have lb := colL_length N b
            refine Ev.bind (followed_ev hN hn (colL N a) (colL_in hN (by omega)) (by omega)) (Ev.bind (followed_ev hN hn (colL N b) (colL_in hN (by omega)) (by omega)) (Ev.bind (slEq_ev _ _ (by simp [Zcy, la]; omega)) ?_))
            by_cases e : Zcy N (colL N a) (b : Int) = Zcy N (colL N b) (a : Int)
            · rw [decide_eq_true e]
              exact Ev.yes rfl (go (.inr e))
            · rw [decide_eq_false e]
              refine Ev.no (by simp) ?_
              have hno : ¬ ComC d N b a := fun hh => hh.elim (fun hh => by rw [sym b a (by omega) ha, hbt] at hh; cases hh) (fun hh => e hh.symm)
              rw [com_no hb ha hno]
              exact Ev.now _
          · exact Ev.yes rfl (go (.inl hbt)))
      have := inner 0 () (by omega) (fun y h4 => absurd h4 (by omega))
      simpa using this)
  have := outer 0 () (by omega) (fun x y hx => absurd hx (by omega))
  simpa using this
end Go.Proofs.YtgindgodfcfgkaaDoor.U
end M7
section M8
namespace Go.Proofs.YtgindgodfcfgkaaDoor.Pure
open Go.RowKit Go.Proofs.YtgindgodfcfgkaaDoor.P Go.Proofs.YtgindgodfcfgkaaDoor.U Go.Proofs.YtgindgodfcfgkaaDoorW.PrintWords Go.Proofs.YtgindgodfcfgkaaDoorW.PrintLast Go.Proofs.YtgindgodfcfgkaaDoorW.PrintMore
set_option linter.unusedVariables false
theorem commute_both (n : Int) (d : List Int) (L S F : Int) (N : List (List Int)) (hN : N.length ≤ 1048576) : ∃ r, Ev (fun k => Zat.f k n d L S F N) r ∧ Ev (fun k => Zas.f k n d L S F N) r := by
  unfold Zat.f Zas.f
  by_cases h : codeX n d L S F N = 0
  · obtain ⟨h1, h2, h3⟩ := codeX_0 h
    have ok := isAut_ok h2
    have hn := ok.n16
    have a := ok.l0
    have b := ok.l8
    obtain ⟨_, _, h4, hd⟩ := alB_ok h1
    have hs : symB d = true := by
      unfold alB at h1
      simp only [Bool.and_eq_true] at h1
      exact h1.2.2.2
    obtain ⟨qs, rows, g1, g2, g3, g4⟩ := small_both h2
    have hr := least_rows ok.l0 g1
    have hl := g1.facts.len
    have hrn : rows.length ≤ 1048576 := by omega
    have e1 := overS_ev n d L S F N (by omega)
    have e2 := overI_ev n d L S F N
    rw [h] at e1 e2
    refine ⟨(comB d rows d.length, 0), Ev.bind e1 (Ev.yes rfl (Ev.bind g4 (Ev.bind (sameIds_ev L 0 (maskQ qs) rows hrn) ?_))), Ev.bind e2 (Ev.yes rfl (Ev.bind (machineOf_ev L S F N (by omega)) (Ev.bind g3 (Ev.bind (functions_ev hr hrn a (by omega)) ?_))))⟩
    · exact comS_ev hd hr (by omega) hrn
    · exact comI_ev hd hs hr (by omega) (by omega) hrn
  · exact ⟨(false, codeX n d L S F N), Ev.bind (overS_ev n d L S F N (by omega)) (Ev.no h (Ev.now _)), Ev.bind (overI_ev n d L S F N) (Ev.no h (Ev.now _))⟩
theorem FnExactLettersCommute : ∀ (c : Int) (a : List Int) (e : Int) (g : Int) (h : Int) (b : List (List Int)), ((Lit.int .i64 c).wf = true) → (a.length ≤ maxLen ∧ ∀ x0 ∈ a, (Lit.int .i64 x0).wf = true) → ((Lit.int .i64 e).wf = true) → ((Lit.int .i64 g).wf = true) → ((Lit.int .i64 h).wf = true) → (b.length ≤ maxLen ∧ ∀ x1 ∈ b, x1.length ≤ maxLen ∧ ∀ x2 ∈ x1, (Lit.int .i64 x2).wf = true) → ∃ k, Zay.f k c a e g h b = some true := by
  intro n d L S F N _ hd _ _ _ ⟨hn, hr⟩
  apply Ev.rounds
  unfold Zay.f
  refine Ev.here (szAlX n d hd.1) ?_
  rcases Nat.lt_or_ge 1048576 d.length with h1 | h1
  · rw [if_neg (by omega)]; exact Ev.yes (by omega) (Ev.now _)
  rw [if_pos h1]
  refine Ev.no (by omega) (Ev.bind (szAny L S F N hn (fun x hx => (hr x hx).1) (1048576 - d.length) (by omega)) ?_)
  by_cases h2 : sz2 N ≤ 1048576 - d.length
  · rw [if_pos h2]
    have hz : sz2 N ≤ 1048576 := by omega
    have hl : N.length ≤ 1048576 := by unfold sz2 at hz; omega
    obtain ⟨r, hs, hi⟩ := commute_both n d L S F N hl
    refine Ev.no (by omega) (Ev.bind (toAlX n d (by omega)) (Ev.bind (toA L S F N hz) (Ev.bind hs (Ev.bind (toAlX n d (by omega)) (Ev.bind (toA L S F N hz) (Ev.bind hi (Ev.no (by simp) (Ev.round ?_))))))))
    simp only [Zay.j0]
    exact Ev.no (by simp) (Ev.bind (toAlX n d (by omega)) (Ev.bind (eqAlX n d (by omega)) (Ev.yes rfl (Ev.bind (toA L S F N hz) (Ev.bind (eqA L S F N hz) (Ev.yes rfl (Ev.now _)))))))
  · rw [if_neg h2]
    exact Ev.yes (by omega) (Ev.now _)
end Go.Proofs.YtgindgodfcfgkaaDoor.Pure
end M8
section M9
namespace Go.Proofs.YtgindgodfcfgkaaDoor.fnExactLettersCommute
open Go.ChangeShapes Go.WideShapes Go.ChangeAt Go.RowKit Go.Lib Go.Joins Go.Proofs.YtgindgodfcfgkaaDoor.P Go.Proofs.YtgindgodfcfgkaaDoor.Op Go.Proofs.YtgindgodfcfgkaaDoor.Sh Go.Proofs.YtgindgodfcfgkaaDoorW.PrintWords Go.Proofs.YtgindgodfcfgkaaDoorW.PrintLast
open Go.ChangeMaps (open_string shut_string)
set_option linter.unusedVariables false
set_option linter.unusedSimpArgs false
theorem own : ownKnob Tryd.prog.godebug = none := by kernel_rfl
theorem laidOut : laidOutB Tryd.prog = true := by kernel_rfl
theorem gTab : Tryd.prog.globalNamed "math/bits.deBruijn64tab" = some 0 := by kernel_rfl
theorem gTabType : (Tryd.prog.globals[0]?).map (·.type) = some 113 := by kernel_rfl
theorem cellsT : Tryd.prog.cellsOf 113 = 64 := by kernel_rfl
theorem cellsE : Tryd.prog.cellsOf 5 = 1 := by kernel_rfl
def tabL : List Int := [0, 1, 56, 2, 57, 49, 28, 3, 61, 58, 42, 50, 38, 29, 17, 4, 62, 47, 59, 36, 45, 43, 51, 22, 53, 39, 33, 30, 24, 18, 12, 5, 63, 55, 48, 27, 60, 41, 37, 16, 46, 35, 44, 21, 52, 32, 23, 11, 54, 26, 40, 15, 34, 20, 31, 10, 25, 14, 19, 9, 13, 8, 7, 6]
theorem tabL_eq : tabL = Lib.deBruijn64tab.map (fun (n : Nat) => (n : Int)) := rfl
theorem table {W : World} (h : laidMetH Tryd.prog Rows.fnExactLettersCommuteRow.laid W) : Lib.TabIs Tryd.prog W "math/bits.deBruijn64tab" .u8 tabL :=
  Lib.tabIs_of_head (rest := []) gTab gTabType Tryd.underlying113 Tryd.underlying5 cellsE cellsT h
theorem tab {W : World} (h : laidMetH Tryd.prog Rows.fnExactLettersCommuteRow.laid W) : Tab W := fun j hj => by
  have h1 := (table h).cell gTab j (by rw [tabL_eq, List.length_map]; exact hj)
  rw [h1, tabL_eq]
  congr 2
  simp only [List.getD_eq_getElem?_getD, List.getElem?_map, List.getElem?_eq_getElem hj, Option.map_some, Option.getD_some, List.getElem_map]
set_option maxRecDepth 100000 in
theorem contract (H : Type) (enc : TypeId × Value → H) (W : World) (base : Nat) (args : Array Value) (ds gs : List (DataW H)) (before : List MemPlace)
    (g : ∀ (j : Nat) t v, Tryd.f4.params[j]? = some t → args[j]? = some v → Value.okWide Tryd.prog W .any base t v)
    (hW : DataW.Whole enc Tryd.prog Tryd.f4.params.toList Rows.fnExactLettersCommuteSpec.vars false W args.toList ds gs before) (hL : laidMetH Tryd.prog Rows.fnExactLettersCommuteRow.laid W) :
    Calls Tryd.prog 4 args W fun e W' => ∃ v, e = .returned v ∧ Rows.fnExactLettersCommuteSpec.post enc Tryd.prog Tryd.f4 false true false false W args v W' := by
  have hTab := tab hL
  clear hL
  have hval : ∀ (j : Nat) t v, Tryd.f4.params[j]? = some t → args[j]? = some v → Value.okWide Tryd.prog W .any base t v := g
  have hW' := hW
  obtain ⟨p, q, u, hV, rfl, hfz, hnd⟩ := hW
  have hA : DataW.TrodAll enc Tryd.prog W 0 (fun _ => true) true Tryd.f4.params.toList args.toList ds p := u
  rw [Tryd.params4] at hA hval
  obtain ⟨v0, ah, d0, ai, p0, q0, hargs, rfl, rfl, h0, r0⟩ := trodAll_cons hA
  obtain ⟨v1, aj, d1, ak, p1, q1, rfl, rfl, rfl, h1, r1⟩ := trodAll_cons r0
  obtain ⟨rfl, rfl, rfl⟩ := trodAll_nil r1
  obtain rfl : args = #[v0, v1] := by cases args; simp_all
  obtain ⟨rfl, rfl⟩ := trodVars_none hV
  have k0 := h0
  have T : ∀ x ∈ p0, x.block < W.heap.size := by obtain ⟨m, hm⟩ := k0; exact DataW.trod_lt m _ _ _ hm
  obtain ⟨U, al, am, an, m0, rfl, _, _, X, Y⟩ := open_agg2 Tryd.underlying24 (by kernel_rfl) (by kernel_rfl) (hval 0 24 v0 rfl rfl) h0
  obtain ⟨a, w, _, y⟩ := DataW.trod_int Tryd.underlying2 X
  obtain rfl : U = .int .i64 a := by simpa using w
  obtain ⟨z, A, i, rfl, n, o, B⟩ := open_row Y (opens_slice Tryd.underlying22 (by kernel_rfl) (opens_int Tryd.underlying2))
  have k1 := h1
  have aa : ∀ x ∈ p1, x.block < W.heap.size := by obtain ⟨m, hm⟩ := k1; exact DataW.trod_lt m _ _ _ hm
  obtain ⟨c10, ab, ac, ao, ap, aq, ar, au, m1, rfl, _, _, ad, ae, af, ag⟩ := open_agg4 Tryd.underlying27 (by kernel_rfl) (by kernel_rfl) (hval 1 27 v1 rfl rfl) h1
  obtain ⟨b, D, _, E⟩ := DataW.trod_int Tryd.underlying2 ad
  obtain rfl : c10 = .int .i64 b := by simpa using D
  obtain ⟨c, G, _, I⟩ := DataW.trod_int Tryd.underlying2 ae
  obtain rfl : ab = .int .i64 c := by simpa using G
  obtain ⟨d, J, _, K⟩ := DataW.trod_int Tryd.underlying2 af
  obtain rfl : ac = .int .i64 d := by simpa using J
  obtain ⟨L, M, l, rfl, r, s, O⟩ := open_row ag (opens_slice Tryd.underlying25 (by kernel_rfl) (opens_slice Tryd.underlying22 (by kernel_rfl) (opens_int Tryd.underlying2)))
  clear u g
  obtain ⟨k, hk⟩ := Pure.FnExactLettersCommute a i b c d l y B E I K O
  refine (Zay.calls k a z A i b c d L M l true W o n s r hk rfl hTab).mono fun e W' ⟨he, P⟩ => ?_
  have bel : Below W.heap.size W W' := P
  subst he
  exact ⟨_, rfl, _, _, _, [], _, [], hW', trodAll_mk1 (shut_bool Tryd.underlying4 _), (trodAll_cons_mk (Below.trod laidOut (by kernel_rfl) (of_decide_eq_true (by kernel_rfl)) k0 bel T) (trodAll_cons_mk (Below.trod laidOut (by kernel_rfl) (of_decide_eq_true (by kernel_rfl)) k1 bel aa) trodAll_mk0)), rfl, bel.frame _, fun h => by cases h⟩
noncomputable def laidWorld (os : Os) : World :=
  { World.holding Tryd.prog os ⟨#[], #[], []⟩ with heap := (World.holding Tryd.prog os ⟨#[], #[], []⟩).heap.modify 0 fun
      | .cells _ t frozen => .cells #[.int .u8 0, .int .u8 1, .int .u8 56, .int .u8 2, .int .u8 57, .int .u8 49, .int .u8 28, .int .u8 3, .int .u8 61, .int .u8 58, .int .u8 42, .int .u8 50, .int .u8 38, .int .u8 29, .int .u8 17, .int .u8 4, .int .u8 62, .int .u8 47, .int .u8 59, .int .u8 36, .int .u8 45, .int .u8 43, .int .u8 51, .int .u8 22, .int .u8 53, .int .u8 39, .int .u8 33, .int .u8 30, .int .u8 24, .int .u8 18, .int .u8 12, .int .u8 5, .int .u8 63, .int .u8 55, .int .u8 48, .int .u8 27, .int .u8 60, .int .u8 41, .int .u8 37, .int .u8 16, .int .u8 46, .int .u8 35, .int .u8 44, .int .u8 21, .int .u8 52, .int .u8 32, .int .u8 23, .int .u8 11, .int .u8 54, .int .u8 26, .int .u8 40, .int .u8 15, .int .u8 34, .int .u8 20, .int .u8 31, .int .u8 10, .int .u8 25, .int .u8 14, .int .u8 19, .int .u8 9, .int .u8 13, .int .u8 8, .int .u8 7, .int .u8 6] t frozen
      | o => o }
theorem laid_met (os : Os) : laidMet Tryd.prog Rows.fnExactLettersCommuteRow.laid ((laidWorld os).forCall (fun _ _ => 0) ⟨#[], #[.agg #[.int .i64 0, .slice none 0 0], .agg #[.int .i64 0, .int .i64 0, .int .i64 0, .slice none 0 0]], []⟩).memory :=
  laidMet_of_run' 8 (by kernel_rfl) (by kernel_rfl)
theorem reads (os : Os) {H : Type} (enc : TypeId × Value → H) : ∃ places, DataW.whole enc Tryd.prog ((laidWorld os).forCall (fun _ _ => 0) ⟨#[], #[.agg #[.int .i64 0, .slice none 0 0], .agg #[.int .i64 0, .int .i64 0, .int .i64 0, .slice none 0 0]], []⟩).memory Tryd.f4.params.toList Rows.fnExactLettersCommuteSpec.vars false (#[.agg #[.int .i64 0, .slice none 0 0], .agg #[.int .i64 0, .int .i64 0, .int .i64 0, .slice none 0 0]] : Array Value).toList 8 = some ([.agg [.lit (.int .i64 0), .nil], .agg [.lit (.int .i64 0), .lit (.int .i64 0), .lit (.int .i64 0), .nil]], [], places) :=
  ⟨[], by kernel_rfl⟩
set_option maxRecDepth 100000 in
theorem lifted (os : Os) (started : os.Started) (H : Type) (enc : TypeId × Value → H) (F : Stop.Interp) :
    ReturnsInHanded {} Tryd.checked os 4 .any ((OpenSpec.ofChange Rows.fnExactLettersCommuteSpec).preRow enc Tryd.prog Tryd.f4 Rows.fnExactLettersCommuteRow.domain false Rows.fnExactLettersCommuteRow.laid) (((OpenSpec.ofChange Rows.fnExactLettersCommuteSpec).at F).post enc Tryd.prog Tryd.f4 false true false false) := by
  obtain ⟨places, hx⟩ := reads os enc
  refine returnsInHanded_of_row (C := Tryd.checked) (s := OpenSpec.ofChange Rows.fnExactLettersCommuteSpec) own started (by kernel_rfl) Tryd.func4
    (witness_row_at (enc := enc) (C := Tryd.checked) false (laidWorld os) #[.agg #[.int .i64 0, .slice none 0 0], .agg #[.int .i64 0, .int .i64 0, .int .i64 0, .slice none 0 0]] rfl (by kernel_rfl) (by kernel_rfl) (by kernel_rfl)
      (OpenSpec.preRow_of_cond 8 hx (by kernel_rfl) (fun k hk => by cases hk) (by kernel_rfl) (laid_met os))) ?_
  intro W base args ds gs before hval hW _ _ _ hL _ _
  exact contract H enc W base args ds gs before hval hW hL
theorem said : Rows.FnExactLettersCommuteSaid :=
  OpenClaim.holds_of_cond 4 Tryd.f4 rfl rfl rfl rfl rfl rfl rfl ⟨rfl, rfl, rfl, rfl, rfl⟩ rfl rfl rfl rfl rfl (by kernel_rfl) Tryd.func4 (by kernel_rfl)
    (of_decide_eq_true (by kernel_rfl)) (by unfold Func.isWrapper; first | (rw [if_pos (by decide +kernel)]; kernel_rfl) | (rw [if_neg (by decide +kernel)]; exact ⟨rfl, rfl⟩))
    (fun os started H enc _ F => by rw [OpenClaim.pre_eq_preRow]; exact lifted os started H enc F)
theorem plain (f : FuncId) (fn : Func) (hf : Tryd.pinned.checked.prog.funcNamed "loop.example/g01094/laws.FnExactLettersCommute" = some f) (hfn : Tryd.pinned.checked.prog.funcs[f]? = some fn) :
    false = Tryd.pinned.checked.prog.looks [] ∧ ∀ (j : Nat) t, fn.params[j]? = some t → Tryd.pinned.checked.prog.wantsStandIn t = false := by
  obtain rfl : f = 4 := Option.some.inj ((show Tryd.prog.funcNamed "loop.example/g01094/laws.FnExactLettersCommute" = some 4 by kernel_rfl).symm.trans hf) |>.symm
  obtain rfl : fn = Tryd.f4 := (Option.some.inj (Tryd.func4.symm.trans hfn)).symm
  refine ⟨by kernel_rfl, fun j t ht => ?_⟩
  rw [Tryd.params4] at ht
  have hm := Array.mem_of_getElem? ht
  simp only [List.mem_toArray, List.mem_cons, List.not_mem_nil, or_false] at hm
  rcases hm with rfl | rfl
  · exact (show Tryd.prog.wantsStandIn 24 = false by kernel_rfl)
  · exact (show Tryd.prog.wantsStandIn 27 = false by kernel_rfl)
theorem card : Rows.FnExactLettersCommuteCardSaid :=
  Claim7.holds_tied_plain_at .later [] _ _ _ _ said (fun _ h => by cases h) (by kernel_rfl) (fun _ h => by cases h) fnExactLettersCommute_row_tie rfl ⟨rfl, rfl⟩ (by kernel_rfl) rfl plain (by kernel_rfl)
#print axioms card
end Go.Proofs.YtgindgodfcfgkaaDoor.fnExactLettersCommute
namespace Go.Proofs.YtgindgodfcfgkaaDoor
/-- The card, under a short name, for the claim. -/
theorem fnExactLettersCommute_holds : Rows.FnExactLettersCommuteCardSaid := fnExactLettersCommute.card
end Go.Proofs.YtgindgodfcfgkaaDoor
end M9
