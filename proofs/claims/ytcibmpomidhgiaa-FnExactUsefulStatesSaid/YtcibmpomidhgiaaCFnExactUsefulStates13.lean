/- For every automaton given as numbers and rows, the program's UsefulStates answers what the reference's answers, and leaves its argument as it was. No condition. -/
import Derived.ArgAppend
import Derived.Below
import Derived.BigQuiet
import Derived.ChangeOld
import Derived.ChangeShapes
import Derived.Deep.AppendLies
import Derived.Deep.CutBlock
import Derived.Deep.DeepCutAuto
import Derived.Deep.Draws
import Derived.Deep.LoopGhost
import Derived.Deep.OwnRows
import Derived.Deep.QuietTactic
import Derived.Deep.RegionHeld3
import Derived.Deep.Slices
import Derived.KernelRfl
import Derived.Laws.BitsLemmas
import Derived.Laws.BytesArg
import Derived.Laws.IdiomCopy
import Derived.Laws.MakeOwn
import Derived.Laws.OwnMore
import Derived.Laws.Rows
import Derived.Laws.Slices
import Derived.Laws.StructEq
import Derived.Lib.AppendStr
import Derived.Lib.ConvBytes
import Derived.Lib.SliceRun
import Derived.Lib.SmallJoins
import Derived.Maps.AppendAt
import Derived.OpenShut
import Derived.OrdersHeld
import Derived.OwnWalk
import Derived.ProofKit
import Derived.RowKit
import Derived.RowKit3
import Derived.Shelf.Abstract
import Derived.ShutString
import Derived.SizedLaws
import Derived.Tactics
import Derived.Test.YtcibmpomidhgiaaProg
import Derived.Test.YtcibmpomidhgiaaRows
import Derived.WalkKit
import Derived.WideLaws
import Derived.Test.YtcibmpomidhgiaaCFnExactUsefulStates2
import Derived.Test.YtcibmpomidhgiaaCFnExactUsefulStates5
import Derived.Test.YtcibmpomidhgiaaCFnExactUsefulStates6
import Derived.Test.YtcibmpomidhgiaaCFnExactUsefulStates7
import Derived.Test.YtcibmpomidhgiaaCFnExactUsefulStates10
import Derived.Test.YtcibmpomidhgiaaCFnExactUsefulStates11
import Derived.Test.YtcibmpomidhgiaaCFnExactUsefulStates12
section M0
namespace Go.Proofs.Ytcibmpomidhgiaa.U
open Go.RowKit Go.Proofs.Ytcibmpomidhgiaa.P Go.Proofs.YtcibmpomidhgiaaW.PrintWords Go.Proofs.YtcibmpomidhgiaaW.PrintLast Go.Proofs.YtcibmpomidhgiaaW.PrintMore
set_option linter.unusedVariables false
/-! The useful states, both ways. -/
open Classical in
/-- The set of the useful states. -/
noncomputable def useM (L S F : Int) (N : List (List Int)) : Int := ((orN (fun s => decide (Rch L N S s ∧ Led L N (finL F N.length) s)) N.length 0 : Nat) : Int)
structure RchI (L S : Int) (N : List (List Int)) (m : Nat) : Prop where
  lt : m < 2 ^ N.length
  sound : ∀ t : Nat, t < N.length → m.testBit t = true → Rch L N S t
  start : m.testBit S.toNat = true
def paidR (N : List (List Int)) (m : Nat) (s a : Int) : Prop := m.testBit s.toNat = true → 0 ≤ nx N s a → m.testBit (nx N s a).toNat = true
theorem rch_full {L S : Int} {N : List (List Int)} {m : Nat} (hN : Rows' L N) (hS : 0 ≤ S) (hSn : S < N.length) (I : RchI L S N m) (h : ∀ s a : Int, 0 ≤ s → s < N.length → 0 ≤ a → a < L → paidR N m s a) :
    ∀ s : Int, 0 ≤ s → s < N.length → (m.testBit s.toNat = true ↔ Rch L N S s) := by
  intro s h0 h1
  refine ⟨fun hb => by have := I.sound s.toNat (by omega) hb; rwa [Int.toNat_of_nonneg h0] at this, fun hr => ?_⟩
  have main : ∀ s, Rch L N S s → 0 ≤ s ∧ s < N.length ∧ m.testBit s.toNat = true := by
    intro s hr
    induction hr with
    | start => exact ⟨hS, hSn, I.start⟩
    | @step s a _ ha hb hn ih =>
      have hx := nx_in hN ih.2.1 ha hb
      exact ⟨hn, hx.2, h s a ih.1 ih.2.1 ha hb ih.2.2 hn⟩
  exact (main s hr).2.2
theorem bit_nat {m s : Nat} (hm : m < 2 ^ 63) (hs : s ≤ 64) : spec_l01Bit.f (m : Int) (s : Int) = some (m.testBit s) := by
  rw [bit_eq (by omega) (by omega)]
  exact congrArg some (hasN hm hs)
theorem useful_spec_ev {L S F : Int} {N : List (List Int)} (h : isAut L S F N = true) : EvP (fun k => spec_UsefulStates.f k L S F N) (fun r => r = (useM L S F N, 0)) := by
  have ok := isAut_ok h
  have hN := ok.rows; have hL := ok.l0; have hL8 := ok.l8; have hn16 := ok.n16; have hS := ok.s0; have hSn := ok.sn
  have hp : (2 : Nat) ^ N.length ≤ 2 ^ 63 := Nat.pow_le_pow_right (by decide) (by omega)
  have hrow : ∀ s : Nat, s < N.length → ((rd_L1 N (s : Int)).length : Int) = L := fun s hs => (row_at hN (s := s) (by omega) (by omega)).1
  have hnx : ∀ s a : Nat, rd (rd_L1 N (s : Int)) (a : Int) = nx N s a := fun s a => by unfold nx; rw [if_neg (by omega)]
  have hst : spec_l11States.f L S F N = some (N.length : Int) := rfl
  -- the end: the marks are full
  have fin : ∀ m : Nat, RchI L S N m → (∀ s : Int, 0 ≤ s → s < N.length → (m.testBit s.toNat = true ↔ Rch L N S s)) → EvP (fun k => spec_UsefulStates.l0 k (m : Int) false L S F N) (fun r => r = (useM L S F N, 0)) := by
    intro m I hfull
    refine EvP.round ?_
    simp only [spec_UsefulStates.l0]
    refine EvP.no (by simp) (EvP.bind (l11Free_ev hN (by omega) hL (by omega) hS hSn) ?_)
    refine EvP.bindP (l11Live_ev (freeG S F N) (free_rows hN hL hS hSn) (by rw [freeN_length]; omega) (by simp [freeG, freeN]) hL (by omega)) (fun live ⟨hl, hv⟩ => ?_)
    rw [freeN_length] at hl hv
    have loop := Ev.up (fun k (out : Nat) s => spec_UsefulStates.l3 k (m : Int) live (out : Int) s L S F N) N.length (fun _ _ => (useM L S F N, (0 : Int))) (fun s out => out = orN (fun s => m.testBit s && rdOf false live (turn S s)) s 0)
      (fun out ho => by
        refine Ev.round ?_
        simp only [spec_UsefulStates.l3]
        refine Ev.here hst (Ev.no (by omega) ?_)
        have : (out : Int) = useM L S F N := by
          unfold useM
          rw [ho]
          congr 1
          apply orN_congr
          intro j hj
          have h1 := hfull j (by omega) (by omega)
          rw [Int.toNat_natCast] at h1
          have ht := turn_in (n := N.length) (s := (j : Int)) hS hSn (by omega) (by omega)
          have h2 := hv (turn S j) ht.1 ht.2
          have h3 : Led L (freeN L S N) (freeG S F N) (turn S j) ↔ Led L N (finL F N.length) j := ⟨fun h => by have := free_led hN hS hSn h; rwa [turn_turn] at this, fun h => led_free hN hS hSn h⟩
          rw [Bool.eq_iff_iff]
          simp only [Bool.and_eq_true, decide_eq_true_eq]
          rw [h1, h2, h3]
        rw [this]
        exact Ev.now _)
      (fun s out hs ho ih => by
        refine Ev.round ?_
        simp only [spec_UsefulStates.l3]
        refine Ev.here hst (Ev.yes (by omega) (Ev.here (bit_nat (by have := I.lt; omega) (by omega)) ?_))
        rw [w64s (by omega)]
        have hol : out < 2 ^ N.length := by rw [ho]; exact orN_lt _ _ _ _ (by omega) (Nat.two_pow_pos _)
        cases hb : m.testBit s
        · refine Ev.no (by simp) (ih _ ?_)
          rw [orN_no (by simp [hb])]; exact ho
        · have ht := turn_in (n := N.length) (s := (s : Int)) hS hSn (by omega) (by omega)
          refine Ev.yes rfl (Ev.here (turn_eq L S F N s) (Ev.yes ht.1 (Ev.yes (by omega) ?_)))
          cases hw : rdOf false live (turn S s)
          · refine Ev.no (by simp) (ih _ ?_)
            rw [orN_no (by simp [hb, hw])]; exact ho
          · refine Ev.yes rfl (Ev.here (spOne (by omega) (by omega)) ?_)
            rw [shl1 (by omega), bor (by omega) (Nat.lt_of_lt_of_le (Nat.pow_lt_pow_right (by decide) hs) hp)]
            refine ih _ ?_
            rw [orN_yes (by simp [hb, hw]), ← ho])
    exact EvP.of (by simpa using loop 0 0 (by omega) rfl) rfl
  have main : ∀ q (m : Nat), falses (bitsL N.length m) ≤ q → RchI L S N m → EvP (fun k => spec_UsefulStates.l0 k (m : Int) true L S F N) (fun r => r = (useM L S F N, 0)) := by
    intro q
    induction q using Nat.strongRecOn with
    | _ q ihq =>
    intro m0 hm I0
    refine EvP.round ?_
    simp only [spec_UsefulStates.l0]
    refine EvP.yes (by trivial) ?_
    have pass := EvP.up (fun k (st : Nat × Bool) s => spec_UsefulStates.l1 k (st.1 : Int) st.2 s L S F N) (fun r => r = (useM L S F N, 0)) N.length
      (fun s st => RchI L S N st.1 ∧ (falses (bitsL N.length st.1) ≤ falses (bitsL N.length m0) ∧ (st.2 = true → falses (bitsL N.length st.1) < falses (bitsL N.length m0))) ∧ (st.2 = false → ∀ t a : Int, 0 ≤ t → t < (s : Int) → 0 ≤ a → a < L → paidR N st.1 t a))
      (fun st ⟨h1, h2, h3⟩ => by
        refine EvP.round ?_
        simp only [spec_UsefulStates.l1]
        refine EvP.here hst (EvP.no (by omega) ?_)
        cases hb : st.2
        · exact fin st.1 h1 (rch_full hN hS hSn h1 (fun t a h4 h5 h6 h7 => h3 hb t a h4 h5 h6 h7))
        · exact ihq _ (by have := h2.2 hb; omega) st.1 (Nat.le_refl _) h1)
      (fun s st hs ⟨h1, h2, h3⟩ ih => by
        refine EvP.round ?_
        simp only [spec_UsefulStates.l1]
        refine EvP.here hst (EvP.yes (by omega) ?_)
        have letters := EvP.up (fun k (st : Nat × Bool) a => spec_UsefulStates.l2 k (st.1 : Int) st.2 (s : Int) a L S F N) (fun r => r = (useM L S F N, 0)) L.toNat
          (fun b st => RchI L S N st.1 ∧ (falses (bitsL N.length st.1) ≤ falses (bitsL N.length m0) ∧ (st.2 = true → falses (bitsL N.length st.1) < falses (bitsL N.length m0))) ∧ (st.2 = false → (∀ t a : Int, 0 ≤ t → t < (s : Int) → 0 ≤ a → a < L → paidR N st.1 t a) ∧ ∀ a : Int, 0 ≤ a → a < (b : Int) → paidR N st.1 s a))
          (fun st ⟨h1, h2, h3⟩ => by
            refine EvP.round ?_
            simp only [spec_UsefulStates.l2]
            refine EvP.no (by omega) (EvP.round ?_)
            simp only [spec_UsefulStates.j3]
            refine EvP.no (by simp) ?_
            rw [w64s (by omega)]
            refine ih st ⟨h1, h2, fun hb t a h4 h5 h6 h7 => ?_⟩
            by_cases e : t = (s : Int)
            · subst e; exact (h3 hb).2 a h6 (by omega)
            · exact (h3 hb).1 t a h4 (by omega) h6 h7)
          (fun b st hb ⟨h1, h2, h3⟩ ihb => by
            have hr := hrow s hs
            have hlt : st.1 < 2 ^ 63 := Nat.lt_of_lt_of_le h1.lt hp
            refine EvP.round ?_
            simp only [spec_UsefulStates.l2]
            refine EvP.yes (by omega) (EvP.here (bit_nat hlt (by omega)) (EvP.round ?_))
            simp only [spec_UsefulStates.j3]
            cases hv : st.1.testBit s
            · refine EvP.no (by simp) ?_
              rw [w64s (by omega)]
              refine ih st ⟨h1, h2, fun hc t a h4 h5 h6 h7 => ?_⟩
              by_cases e : t = (s : Int)
              · subst e; intro h8; rw [Int.toNat_natCast, hv] at h8; cases h8
              · exact (h3 hc).1 t a h4 (by omega) h6 h7
            · refine EvP.yes rfl (EvP.yes (by omega) (EvP.yes (by omega) (EvP.yes (by omega) (EvP.yes (by omega) ?_))))
              rw [hnx, w64s (by omega)]
              have hx := nx_in hN (s := s) (a := b) (by omega) (by omega) (by omega)
              by_cases h4 : nx N s b ≥ 0
              · obtain ⟨t, et, ht⟩ := nat_of h4 hx.2
                rw [et]
                refine EvP.yes (by omega) (EvP.here (bit_nat hlt (by omega)) ?_)
                cases hw : st.1.testBit t
                · refine EvP.no (by simp) (EvP.here (spOne (by omega) (by omega)) ?_)
                  rw [shl1 (by omega), bor hlt (Nat.lt_of_lt_of_le (Nat.pow_lt_pow_right (by decide) ht) hp)]
                  have hf := bits_less ht hw
                  have h21 := h2.1
                  refine ihb (st.1 ||| 2 ^ t, true) ⟨⟨or_lt h1.lt ht, fun u hu hub => ?_, ?_⟩, ⟨by simp only; omega, fun _ => by simp only; omega⟩, fun hc => by cases hc⟩
                  · simp only [Nat.testBit_or, Nat.testBit_two_pow, Bool.or_eq_true, decide_eq_true_eq] at hub
                    rcases hub with hub | hub
                    · exact h1.sound u hu hub
                    · subst hub
                      rw [← et]
                      exact .step (h1.sound s hs hv) (by omega) (by omega) h4
                  · simp only [Nat.testBit_or, h1.start, Bool.true_or]
                · refine EvP.yes rfl (ihb st ⟨h1, h2, fun hc => ⟨(h3 hc).1, fun a h5 h6 => ?_⟩⟩)
                  by_cases e : a = (b : Int)
                  · subst e; intro _ _; rw [et, Int.toNat_natCast]; exact hw
                  · exact (h3 hc).2 a h5 (by omega)
              · refine EvP.no h4 (ihb st ⟨h1, h2, fun hc => ⟨(h3 hc).1, fun a h5 h6 => ?_⟩⟩)
                by_cases e : a = (b : Int)
                · subst e; intro _ h7; omega
                · exact (h3 hc).2 a h5 (by omega))
        have := letters 0 st (by omega) ⟨h1, h2, fun hc => ⟨fun t a h4 h5 h6 h7 => h3 hc t a h4 h5 h6 h7, fun a h5 h6 => absurd h6 (by omega)⟩⟩
        simpa using this)
    have := pass 0 (m0, false) (by omega) ⟨I0, ⟨Nat.le_refl _, fun h => by cases h⟩, fun _ t a h4 h5 => absurd h5 (by omega)⟩
    simpa using this
  unfold spec_UsefulStates.f
  refine EvP.bind (l11Is_ev L S F N (by omega)) ?_
  rw [h]
  obtain ⟨S', rfl, hS'⟩ := nat_of hS hSn
  refine EvP.yes rfl (EvP.here (spOne hS (by omega)) ?_)
  rw [shl1 (by omega)]
  refine main _ _ (Nat.le_refl _) ⟨Nat.pow_lt_pow_right (by decide) hS', fun t ht hb => ?_, ?_⟩
  · rw [Nat.testBit_two_pow, decide_eq_true_eq] at hb
    subst hb
    exact .start
  · rw [Int.toNat_natCast, Nat.testBit_two_pow]; simp
/-! The program's way: two lists of marks at once. -/
structure UseI (L S : Int) (N : List (List Int)) (fin re le : List Bool) : Prop where
  rlen : re.length = N.length
  rsound : ∀ s : Int, 0 ≤ s → s < N.length → rdOf false re s = true → Rch L N S s
  start : rdOf false re S = true
  live : LiveI L N fin le
def paidU (N : List (List Int)) (re le : List Bool) (s a : Int) : Prop := 0 ≤ nx N s a → (rdOf false re s = true → rdOf false re (nx N s a) = true) ∧ (rdOf false le (nx N s a) = true → rdOf false le s = true)
theorem useful_full {L S : Int} {N : List (List Int)} {fin re le : List Bool} (hN : Rows' L N) (hS : 0 ≤ S) (hSn : S < N.length) (I : UseI L S N fin re le) (h : ∀ s a : Int, 0 ≤ s → s < N.length → 0 ≤ a → a < L → paidU N re le s a) :
    ∀ s : Int, 0 ≤ s → s < N.length → (rdOf false re s = true ↔ Rch L N S s) ∧ (rdOf false le s = true ↔ Led L N fin s) := by
  intro s h0 h1
  refine ⟨⟨fun hb => I.rsound s h0 h1 hb, fun hr => ?_⟩, live_full hN I.live (fun s a a1 a2 a3 a4 a5 a6 => (h s a a1 a2 a3 a4 a5).2 a6) s h0 h1⟩
  have main : ∀ s, Rch L N S s → 0 ≤ s ∧ s < N.length ∧ rdOf false re s = true := by
    intro s hr
    induction hr with
    | start => exact ⟨hS, hSn, I.start⟩
    | @step s a _ ha hb hn ih =>
      have hx := nx_in hN ih.2.1 ha hb
      exact ⟨hn, hx.2, (h s a ih.1 ih.2.1 ha hb hn).1 ih.2.2⟩
  exact (main s hr).2.2
theorem clone_eq {l : List Bool} (h : l.length < 140737488355328) : slices_Clone_bool_bool.f l = some l := if_pos h
/-- The useful states of a machine, as a list of marks. -/
def IsUse (L S : Int) (N : List (List Int)) (fin r : List Bool) : Prop := r.length = N.length ∧ ∀ s : Int, 0 ≤ s → s < N.length → (rdOf false r s = true ↔ Rch L N S s ∧ Led L N fin s)
theorem reach_mark {L S : Int} {N : List (List Int)} {fin re le : List Bool} (I : UseI L S N fin re le) {s a : Int} {t : Nat} (h0 : 0 ≤ s) (h1 : s < N.length) (ha : 0 ≤ a) (hb : a < L) (hn : nx N s a = t) (hr : rdOf false re s = true) : UseI L S N fin (re.set t true) le := by
  refine ⟨by simp [I.rlen], fun u h2 h3 hu => ?_, ?_, I.live⟩
  · rw [rdOf_set h2] at hu
    by_cases e : u = (t : Int)
    · subst e
      rw [← hn]
      exact .step (I.rsound s h0 h1 hr) ha hb (by omega)
    · rw [if_neg (by omega)] at hu
      exact I.rsound u h2 h3 hu
  · by_cases hS : 0 ≤ S
    · rw [rdOf_set hS]
      split
      · rfl
      · exact I.start
    · have := I.start
      have e : S.toNat = 0 := by omega
      show (re.set t true).getD S.toNat false = true
      have h' : re.getD S.toNat false = true := this
      rw [e] at h' ⊢
      rw [List.getD_eq_getElem?_getD, List.getElem?_set]
      by_cases ht : t = 0
      · subst ht
        by_cases hl : 0 < re.length
        · simp [hl]
        · simp at hl; subst hl; simp at h'
      · rw [if_neg ht, ← List.getD_eq_getElem?_getD]; exact h'
end Go.Proofs.Ytcibmpomidhgiaa.U
end M0
section M1
namespace Go.Proofs.Ytcibmpomidhgiaa.U
open Go.RowKit Go.Proofs.Ytcibmpomidhgiaa.P Go.Proofs.YtcibmpomidhgiaaW.PrintWords Go.Proofs.YtcibmpomidhgiaaW.PrintLast Go.Proofs.YtcibmpomidhgiaaW.PrintMore
set_option linter.unusedVariables false
theorem get_false {l : List Bool} {i : Nat} (h : i < l.length) (hv : rdOf false l (i : Int) = false) : l[i] = false := by rw [← rdOf_lt (d := false) h]; exact hv
theorem useful_ev {L S : Int} {N : List (List Int)} (fin : List Bool) (hN : Rows' L N) (hn : N.length ≤ 1048576) (hf : fin.length = N.length) (hL : 0 ≤ L) (hL2 : L ≤ 1048576) (hS : 0 ≤ S) (hSn : S < N.length) :
    EvP (fun k => impl_machine_useful.f k L S fin N) (IsUse L S N fin) := by
  have hrow : ∀ s : Nat, s < N.length → ((rd_L1 N (s : Int)).length : Int) = L := fun s hs => (row_at hN (s := s) (by omega) (by omega)).1
  have hnx : ∀ s a : Nat, rd (rd_L1 N (s : Int)) (a : Int) = nx N s a := fun s a => by unfold nx; rw [if_neg (by omega)]
  -- the last loop
  have fin3 : ∀ re le : List Bool, re.length = N.length → le.length = N.length → (∀ s : Int, 0 ≤ s → s < N.length → (rdOf false re s = true ↔ Rch L N S s) ∧ (rdOf false le s = true ↔ Led L N fin s)) →
      EvP (fun k => impl_machine_useful.l3 k re le (re.length : Int) 0) (IsUse L S N fin) := by
    intro re le hr hl hfull
    have loop := EvP.up (fun k (st : List Bool) i => impl_machine_useful.l3 k st le (re.length : Int) i) (IsUse L S N fin) re.length
      (fun i st => st.length = N.length ∧ ∀ s : Int, 0 ≤ s → s < N.length → (rdOf false st s = true ↔ if s < (i : Int) then Rch L N S s ∧ Led L N fin s else Rch L N S s))
      (fun st ⟨h1, h2⟩ => by
        refine EvP.round ?_
        simp only [impl_machine_useful.l3]
        refine EvP.no (by omega) (EvP.ret ⟨h1, fun s h3 h4 => ?_⟩)
        have := h2 s h3 h4
        rwa [if_pos (by omega)] at this)
      (fun i st hi ⟨h1, h2⟩ ih => by
        refine EvP.round ?_
        simp only [impl_machine_useful.l3]
        refine EvP.yes (by omega) (EvP.yes (by omega) (EvP.yes (by omega) ?_))
        rw [w64s (by omega), Int.toNat_natCast]
        have hi2 := h2 i (by omega) (by omega)
        rw [if_neg (by omega)] at hi2
        have hle := (hfull i (by omega) (by omega)).2
        have nxt : ∀ b : Bool, (b = true ↔ Rch L N S i ∧ Led L N fin i) → ∀ s : Int, 0 ≤ s → s < N.length → (rdOf false (st.set i b) s = true ↔ if s < ((i + 1 : Nat) : Int) then Rch L N S s ∧ Led L N fin s else Rch L N S s) := by
          intro b hb s h3 h4
          rw [rdOf_set h3]
          by_cases e : s = (i : Int)
          · subst e
            rw [if_pos ⟨rfl, by omega⟩, if_pos (by omega)]
            exact hb
          · rw [if_neg (by omega)]
            have := h2 s h3 h4
            by_cases h5 : s < (i : Int)
            · rw [if_pos h5] at this; rw [if_pos (by omega)]; exact this
            · rw [if_neg h5] at this; rw [if_neg (by omega)]; exact this
        cases hv : rdOf false st (i : Int)
        · refine EvP.no (by simp) (ih _ ⟨by simp [h1], nxt false ⟨fun h => (by cases h), fun h => ?_⟩⟩)
          rw [hi2.2 h.1] at hv; cases hv
        · refine EvP.yes rfl (EvP.yes (by omega) (ih _ ⟨by simp [h1], nxt _ ?_⟩))
          rw [hle]
          exact ⟨fun h => ⟨hi2.1 hv, h⟩, fun h => h.2⟩)
    have := loop 0 re (by omega) ⟨hr, fun s h3 h4 => by rw [if_neg (by omega)]; exact (hfull s h3 h4).1⟩
    simpa using this
  have main : ∀ q (re le : List Bool), falses re + falses le ≤ q → UseI L S N fin re le → EvP (fun k => impl_machine_useful.l0 k re le true L S fin N) (IsUse L S N fin) := by
    intro q
    induction q using Nat.strongRecOn with
    | _ q ihq =>
    intro re0 le0 hm I0
    refine EvP.round ?_
    simp only [impl_machine_useful.l0]
    refine EvP.yes (by trivial) ?_
    have pass := EvP.up (fun k (st : List Bool × List Bool × Bool) s => impl_machine_useful.l1 k st.1 st.2.1 st.2.2 N (N.length : Int) s L S fin N) (IsUse L S N fin) N.length
      (fun s st => UseI L S N fin st.1 st.2.1 ∧ (falses st.1 + falses st.2.1 ≤ falses re0 + falses le0 ∧ (st.2.2 = true → falses st.1 + falses st.2.1 < falses re0 + falses le0)) ∧ (st.2.2 = false → ∀ t a : Int, 0 ≤ t → t < (s : Int) → 0 ≤ a → a < L → paidU N st.1 st.2.1 t a))
      (fun st ⟨h1, h2, h3⟩ => by
        refine EvP.round ?_
        simp only [impl_machine_useful.l1]
        refine EvP.no (by omega) ?_
        cases hb : st.2.2
        · refine EvP.round ?_
          simp only [impl_machine_useful.l0]
          refine EvP.no (by simp) ?_
          exact fin3 st.1 st.2.1 h1.rlen h1.live.len (useful_full hN hS hSn h1 (fun t a h4 h5 h6 h7 => h3 hb t a h4 h5 h6 h7))
        · exact ihq _ (by have := h2.2 hb; omega) st.1 st.2.1 (Nat.le_refl _) h1)
      (fun s st hs ⟨h1, h2, h3⟩ ih => by
        refine EvP.round ?_
        simp only [impl_machine_useful.l1]
        refine EvP.yes (by omega) (EvP.yes (by omega) (EvP.yes (by omega) ?_))
        have hr := hrow s hs
        rw [hr]
        have letters := EvP.up (fun k (st : List Bool × List Bool × Bool) a => impl_machine_useful.l2 k st.1 st.2.1 st.2.2 (s : Int) N (N.length : Int) (s : Int) (rd_L1 N (s : Int)) L a L S fin N) (IsUse L S N fin) L.toNat
          (fun b st => UseI L S N fin st.1 st.2.1 ∧ (falses st.1 + falses st.2.1 ≤ falses re0 + falses le0 ∧ (st.2.2 = true → falses st.1 + falses st.2.1 < falses re0 + falses le0)) ∧ (st.2.2 = false → (∀ t a : Int, 0 ≤ t → t < (s : Int) → 0 ≤ a → a < L → paidU N st.1 st.2.1 t a) ∧ ∀ a : Int, 0 ≤ a → a < (b : Int) → paidU N st.1 st.2.1 s a))
          (fun st ⟨h1, h2, h3⟩ => by
            refine EvP.round ?_
            simp only [impl_machine_useful.l2]
            refine EvP.no (by omega) ?_
            rw [w64s (by omega)]
            refine ih st ⟨h1, h2, fun hb t a h4 h5 h6 h7 => ?_⟩
            by_cases e : t = (s : Int)
            · subst e; exact (h3 hb).2 a h6 (by omega)
            · exact (h3 hb).1 t a h4 (by omega) h6 h7)
          (fun b st hb ⟨h1, h2, h3⟩ ihb => by
            have hl := h1.live.len
            have hrl := h1.rlen
            refine EvP.round ?_
            simp only [impl_machine_useful.l2]
            refine EvP.yes (by omega) (EvP.yes (by omega) (EvP.yes (by omega) ?_))
            rw [hnx, w64s (by omega)]
            have hx := nx_in hN (s := s) (a := b) (by omega) (by omega) (by omega)
            by_cases h4 : nx N s b < 0
            · refine EvP.yes h4 (ihb st ⟨h1, h2, fun hc => ⟨(h3 hc).1, fun a h5 h6 => ?_⟩⟩)
              by_cases e : a = (b : Int)
              · subst e; intro h7; omega
              · exact (h3 hc).2 a h5 (by omega)
            · refine EvP.no h4 (EvP.yes (by omega) (EvP.yes (by omega) ?_))
              obtain ⟨t, et, ht⟩ := nat_of (by omega : 0 ≤ nx N s b) hx.2
              rw [et]
              -- the second half of the round, whatever the first half did
              have half : ∀ (re : List Bool) (ch : Bool), UseI L S N fin re st.2.1 → (falses re + falses st.2.1 ≤ falses re0 + falses le0 ∧ (ch = true → falses re + falses st.2.1 < falses re0 + falses le0)) →
                  (ch = false → re = st.1 ∧ st.2.2 = false ∧ (rdOf false re (s : Int) = true → rdOf false re (t : Int) = true)) →
                  EvP (fun k => if (0 : Int) ≤ t then (if (t : Int) < (st.2.1.length : Int) then (if rdOf false st.2.1 (t : Int) = true then (if (0 : Int) ≤ s then (if (s : Int) < (st.2.1.length : Int) then (if rdOf false st.2.1 (s : Int) = true then impl_machine_useful.l2 k re st.2.1 ch (s : Int) N (N.length : Int) (s : Int) (rd_L1 N (s : Int)) L ((b + 1 : Nat) : Int) L S fin N else impl_machine_useful.l2 k re (st.2.1.set ((s : Int)).toNat true) true (s : Int) N (N.length : Int) (s : Int) (rd_L1 N (s : Int)) L ((b + 1 : Nat) : Int) L S fin N) else none) else none) else impl_machine_useful.l2 k re st.2.1 ch (s : Int) N (N.length : Int) (s : Int) (rd_L1 N (s : Int)) L ((b + 1 : Nat) : Int) L S fin N) else none) else none) (IsUse L S N fin) := by
                intro re ch g1 g2 g3
                refine EvP.yes (by omega) (EvP.yes (by omega) ?_)
                have keep : (rdOf false st.2.1 (t : Int) = true → rdOf false st.2.1 (s : Int) = true) → EvP (fun k => impl_machine_useful.l2 k re st.2.1 ch (s : Int) N (N.length : Int) (s : Int) (rd_L1 N (s : Int)) L ((b + 1 : Nat) : Int) L S fin N) (IsUse L S N fin) := by
                  intro hk
                  refine ihb (re, st.2.1, ch) ⟨g1, g2, fun hc => ?_⟩
                  obtain ⟨e1, e2, e3⟩ := g3 hc
                  subst e1
                  refine ⟨(h3 e2).1, fun a h5 h6 => ?_⟩
                  by_cases e : a = (b : Int)
                  · subst e; intro _; rw [et]; exact ⟨e3, hk⟩
                  · exact (h3 e2).2 a h5 (by omega)
                cases hw : rdOf false st.2.1 (t : Int)
                · exact EvP.no (by simp) (keep (fun h => by rw [hw] at h; cases h))
                · refine EvP.yes rfl (EvP.yes (by omega) (EvP.yes (by omega) ?_))
                  cases hu : rdOf false st.2.1 (s : Int)
                  · refine EvP.no (by simp) ?_
                    have hf2 := falses_set (by omega) (get_false (by omega) hu)
                    rw [Int.toNat_natCast]
                    refine ihb (re, st.2.1.set s true, true) ⟨⟨g1.rlen, g1.rsound, g1.start, live_mark hN g1.live hs (a := (b : Int)) (by omega) (by omega) (by omega) (by rw [et]; exact hw)⟩, ⟨by simp only; omega, fun _ => by simp only; omega⟩, fun hc => by cases hc⟩
                  · exact EvP.yes rfl (keep (fun _ => hu))
              have go3 : ∀ flag : Bool, (flag = true → rdOf false st.1 (s : Int) = true ∧ rdOf false st.1 (t : Int) = false) → (flag = false → (rdOf false st.1 (s : Int) = true → rdOf false st.1 (t : Int) = true)) →
                  EvP (fun k => impl_machine_useful.j3 k st.1 st.2.1 st.2.2 (s : Int) (t : Int) N (N.length : Int) (s : Int) (rd_L1 N (s : Int)) L (b : Int) flag L S fin N) (IsUse L S N fin) := by
                intro flag f1 f2
                refine EvP.round ?_
                simp only [impl_machine_useful.j3]
                rw [w64s (by omega)]
                cases flag
                · refine EvP.no (by simp) ?_
                  exact half st.1 st.2.2 h1 h2 (fun hc => ⟨rfl, hc, f2 rfl⟩)
                · obtain ⟨e1, e2⟩ := f1 rfl
                  refine EvP.yes (by trivial) (EvP.yes (by omega) (EvP.yes (by omega) (EvP.here rfl ?_)))
                  have hf1 := falses_set (by omega) (get_false (by omega) e2)
                  rw [Int.toNat_natCast]
                  have := half (st.1.set t true) true (reach_mark h1 (by omega) (by omega) (by omega) (by omega) et e1) ⟨by omega, fun _ => by omega⟩ (fun hc => by cases hc)
                  refine (show EvP _ _ from ?_)
                  obtain ⟨r, hr1, hr2⟩ := this
                  refine ⟨r, ?_, hr2⟩
                  refine Ev.congr (fun k => ?_) hr1
                  rw [if_pos (by omega : (0 : Int) ≤ t)]
              cases hv : rdOf false st.1 (s : Int)
              · exact EvP.no (by simp) (go3 false (fun h => by cases h) (fun _ h => by rw [hv] at h; cases h))
              · refine EvP.yes rfl (EvP.yes (by omega) (EvP.yes (by omega) ?_))
                cases hw : rdOf false st.1 (t : Int)
                · exact go3 true (fun _ => ⟨hv, hw⟩) (fun h => by cases h)
                · exact go3 false (fun h => by cases h) (fun _ _ => hw))
        have := letters 0 st (by omega) ⟨h1, h2, fun hc => ⟨fun t a h4 h5 h6 h7 => h3 hc t a h4 h5 h6 h7, fun a h5 h6 => absurd h6 (by omega)⟩⟩
        simpa using this)
    have := pass 0 (re0, le0, false) (by omega) ⟨I0, ⟨Nat.le_refl _, fun h => by cases h⟩, fun _ t a h4 h5 => absurd h5 (by omega)⟩
    simpa using this
  unfold impl_machine_useful.f
  obtain ⟨S', rfl, hS'⟩ := nat_of hS hSn
  refine EvP.yes (by omega) (EvP.yes (by omega) (EvP.here rfl (EvP.here (clone_eq (by omega)) (EvP.yes (by omega) (EvP.yes (by simp; omega) ?_)))))
  rw [Int.toNat_natCast, Int.toNat_natCast]
  refine main _ _ _ (Nat.le_refl _) ⟨by simp, fun s h0 h1 h => ?_, ?_, ⟨hf, fun s h0 h1 h => .base h0 h1 h, fun s _ _ h => h⟩⟩
  · rw [rdOf_set h0] at h
    by_cases e : s = (S' : Int)
    · subst e; exact .start
    · rw [if_neg (by omega)] at h
      obtain ⟨u, rfl, hu⟩ := nat_of h0 h1
      rw [rdOf_lt (by simp; exact hu)] at h
      simp at h
  · rw [rdOf_set (by omega), if_pos ⟨rfl, by simp; exact hS'⟩]
end Go.Proofs.Ytcibmpomidhgiaa.U
end M1
section M2
namespace Go.Proofs.Ytcibmpomidhgiaa.Pure
open Go.RowKit Go.Proofs.Ytcibmpomidhgiaa.P Go.Proofs.Ytcibmpomidhgiaa.U Go.Proofs.YtcibmpomidhgiaaW.PrintWords Go.Proofs.YtcibmpomidhgiaaW.PrintLast Go.Proofs.YtcibmpomidhgiaaW.PrintMore
set_option linter.unusedVariables false
theorem impl_useful_ev {L S F : Int} {N : List (List Int)} (h : isAut L S F N = true) : EvP (fun k => impl_UsefulStates.f k L S F N) (fun r => r = (useM L S F N, 0)) := by
  have ok := isAut_ok h
  have hn16 := ok.n16; have hL := ok.l0; have hL8 := ok.l8
  have hp : (2 : Nat) ^ N.length ≤ 2 ^ 63 := Nat.pow_le_pow_right (by decide) (by omega)
  unfold impl_UsefulStates.f
  refine EvP.here (show impl_IsAutomaton.f L S F N = some (isAut L S F N) from rfl) ?_
  rw [h]
  refine EvP.yes rfl (EvP.bind (machineOf_ev L S F N (by omega)) ?_)
  dsimp only
  refine EvP.bindP (useful_ev (finL F N.length) ok.rows (by omega) (by simp [finL]) hL (by omega) ok.s0 ok.sn) (fun u ⟨hu, hv⟩ => ?_)
  have loop := Ev.up (fun k (out : Nat) i => impl_UsefulStates.l0 k (out : Int) u (u.length : Int) i) u.length (fun _ _ => (useM L S F N, (0 : Int))) (fun i out => out = orN (fun s => rdOf false u s) i 0)
    (fun out ho => by
      refine Ev.round ?_
      simp only [impl_UsefulStates.l0]
      refine Ev.no (by omega) ?_
      have : (out : Int) = useM L S F N := by
        unfold useM
        rw [ho, hu]
        congr 1
        apply orN_congr
        intro j hj
        have h1 := hv j (by omega) (by omega)
        rw [Bool.eq_iff_iff]
        simp only [decide_eq_true_eq]
        exact h1
      rw [this]
      exact Ev.now _)
    (fun i out hi ho ih => by
      refine Ev.round ?_
      simp only [impl_UsefulStates.l0]
      refine Ev.yes (by omega) (Ev.yes (by omega) (Ev.yes (by omega) ?_))
      rw [w64s (by omega)]
      have hol : out < 2 ^ N.length := by rw [ho]; exact orN_lt _ _ _ _ (by omega) (Nat.two_pow_pos _)
      cases hb : rdOf false u (i : Int)
      · refine Ev.no (by simp) (ih _ ?_)
        rw [orN_no hb]; exact ho
      · refine Ev.yes rfl (Ev.here (show impl_one.f (i : Int) = some (((2 ^ i : Nat) : Int)) by unfold impl_one.f; rw [if_pos (by omega), shl1 (by omega)]) ?_)
        rw [bor (by omega) (Nat.lt_of_lt_of_le (Nat.pow_lt_pow_right (by decide) (by omega : i < N.length)) hp)]
        refine ih _ ?_
        rw [orN_yes hb, ← ho])
  exact EvP.of (by simpa using loop 0 0 (by omega) rfl) rfl
/-- What UsefulStates answers. -/
noncomputable def useA (L S F : Int) (N : List (List Int)) : Int × Int := if isAut L S F N = true then (useM L S F N, 0) else (0, 1)
theorem specU_ev (L S F : Int) (N : List (List Int)) (hN : N.length ≤ 1048576) : Ev (fun k => spec_UsefulStates.f k L S F N) (useA L S F N) := by
  unfold useA
  cases h : isAut L S F N
  · unfold spec_UsefulStates.f
    refine Ev.bind (l11Is_ev L S F N (by omega)) ?_
    rw [h]
    exact Ev.no (by simp) (Ev.now _)
  · obtain ⟨r, hr, e⟩ := useful_spec_ev h
    subst e
    exact hr
theorem implU_ev (L S F : Int) (N : List (List Int)) : Ev (fun k => impl_UsefulStates.f k L S F N) (useA L S F N) := by
  unfold useA
  cases h : isAut L S F N
  · unfold impl_UsefulStates.f
    refine Ev.here (show impl_IsAutomaton.f L S F N = some (isAut L S F N) from rfl) ?_
    rw [h]
    exact Ev.no (by simp) (Ev.now _)
  · obtain ⟨r, hr, e⟩ := impl_useful_ev h
    subst e
    exact hr
theorem FnExactUsefulStates : ∀ (a0_0 : Int) (a0_1 : Int) (a0_2 : Int) (l0_3 : List (List Int)), ((Lit.int .i64 a0_0).wf = true) → ((Lit.int .i64 a0_1).wf = true) → ((Lit.int .i64 a0_2).wf = true) → (l0_3.length ≤ maxLen ∧ ∀ x0 ∈ l0_3, x0.length ≤ maxLen ∧ ∀ x1 ∈ x0, (Lit.int .i64 x1).wf = true) → ∃ k, laws_FnExactUsefulStates.f k a0_0 a0_1 a0_2 l0_3 = some true := by
  intro a b c l _ _ _ ⟨hn, hr⟩
  apply Ev.rounds
  unfold laws_FnExactUsefulStates.f
  refine Ev.bind (szA a b c l hn (fun x hx => (hr x hx).1)) ?_
  by_cases h : sz2 l ≤ 1048576
  · rw [if_pos h]
    refine Ev.no (by omega) ?_
    have hl : l.length ≤ 1048576 := by unfold sz2 at h; omega
    refine Ev.bind (toA a b c l h) (Ev.bind (specU_ev a b c l hl) (Ev.bind (toA a b c l h) (Ev.bind (implU_ev a b c l) (Ev.yes rfl (Ev.round ?_)))))
    simp only [laws_FnExactUsefulStates.j0]
    exact Ev.no (by simp) (Ev.bind (toA a b c l h) (Ev.bind (eqA a b c l h) (Ev.yes rfl (Ev.now _))))
  · rw [if_neg h]
    exact Ev.yes (by omega) (Ev.now _)
end Go.Proofs.Ytcibmpomidhgiaa.Pure
end M2
section M3
namespace Go.Proofs.Ytcibmpomidhgiaa.fnExactUsefulStates
open Go.ChangeShapes Go.WideShapes Go.ChangeAt Go.RowKit Go.Lib Go.Joins Go.Proofs.Ytcibmpomidhgiaa.P Go.Proofs.Ytcibmpomidhgiaa.Op Go.Proofs.YtcibmpomidhgiaaW.PrintWords Go.Proofs.YtcibmpomidhgiaaW.PrintLast
open Go.ChangeMaps (open_string shut_string)
set_option linter.unusedVariables false
theorem own : ownKnob Try.prog.godebug = none := by kernel_rfl
theorem laidOut : laidOutB Try.prog = true := by kernel_rfl
set_option maxRecDepth 100000 in
theorem lifted (os : Os) (started : os.Started) (H : Type) (enc : TypeId × Value → H) :
    ReturnsInHanded {} Try.checked os 7 .any (Rows.fnExactUsefulStatesSpec.pre6 enc Try.prog Try.f7 Rows.fnExactUsefulStatesRow.domain false) (Rows.fnExactUsefulStatesSpec.post enc Try.prog Try.f7 false true false false) := by
  refine returnsInHanded_of_change_sized (C := Try.checked) own started (by kernel_rfl) Try.func7
    (ChangeSpec.witness6 (enc := enc) (C := Try.checked) false ⟨#[], #[.agg #[.int .i64 0, .int .i64 0, .int .i64 0, .slice none 0 0]], []⟩ 8 (by kernel_rfl) (by kernel_rfl) (by kernel_rfl) (by kernel_rfl)) ?_
  intro W base args ds gs before hval0 hW hcnd hsz0 _
  have hval : ∀ (j : Nat) t v, Try.f7.params[j]? = some t → args[j]? = some v → Value.okWide Try.prog W .any base t v := hval0
  have hW' := hW
  obtain ⟨p, q, hA0, hV, rfl, hfz, hnd⟩ := hW
  have hA : DataW.TrodAll enc Try.prog W 0 (fun _ => true) true Try.f7.params.toList args.toList ds p := hA0
  rw [Try.params7] at hA hval
  obtain ⟨v0, vs0, d0, ds0, p0, q0, hargs, rfl, rfl, h0, r0⟩ := trodAll_cons hA
  obtain ⟨rfl, rfl, rfl⟩ := trodAll_nil r0
  obtain rfl : args = #[v0] := by cases args; simp_all
  obtain ⟨rfl, rfl⟩ := trodVars_none hV
  have k0 := h0
  have lt0 : ∀ x ∈ p0, x.block < W.heap.size := by obtain ⟨m, hm⟩ := k0; exact DataW.trod_lt m _ _ _ hm
  obtain ⟨c00, c01, c02, c03, y00, y01, y02, y03, m0, rfl, _, _, t00, t01, t02, t03⟩ := open_agg4 Try.underlying35 (by kernel_rfl) (by kernel_rfl) (hval 0 35 v0 rfl rfl) h0
  obtain ⟨a0_0, e0_0, _, w0_0⟩ := DataW.trod_int Try.underlying2 t00
  obtain rfl : c00 = .int .i64 a0_0 := by simpa using e0_0
  obtain ⟨a0_1, e0_1, _, w0_1⟩ := DataW.trod_int Try.underlying2 t01
  obtain rfl : c01 = .int .i64 a0_1 := by simpa using e0_1
  obtain ⟨a0_2, e0_2, _, w0_2⟩ := DataW.trod_int Try.underlying2 t02
  obtain rfl : c02 = .int .i64 a0_2 := by simpa using e0_2
  obtain ⟨A0_3, c0_3, l0_3, rfl, hc0_3, hr0_3, w0_3⟩ := open_row t03 (opens_slice Try.underlying33 (by kernel_rfl) (opens_slice Try.underlying22 (by kernel_rfl) (opens_int Try.underlying2)))
  clear hA0 hval0 hsz0
  obtain ⟨k, hk⟩ := Pure.FnExactUsefulStates a0_0 a0_1 a0_2 l0_3 w0_0 w0_1 w0_2 w0_3
  refine (laws_FnExactUsefulStates.calls k a0_0 a0_1 a0_2 A0_3 c0_3 l0_3 true W hr0_3 hc0_3 hk rfl).mono fun e W' ⟨he, bel0⟩ => ?_
  have bel : Below W.heap.size W W' := bel0
  subst he
  exact ⟨_, rfl, _, _, _, [], _, [], hW', trodAll_mk1 (shut_bool Try.underlying4 _), (trodAll_cons_mk (Below.trod laidOut (by kernel_rfl) (of_decide_eq_true (by kernel_rfl)) k0 bel lt0) trodAll_mk0), rfl, bel.frame _, fun h => by cases h⟩
theorem over : Rows.fnExactUsefulStatesRow.holds Try.pinned (OpenSpec.ofChange Rows.fnExactUsefulStatesSpec) :=
  OpenClaim.holds_of_wide 7 Try.f7 rfl rfl rfl rfl rfl rfl rfl ⟨rfl, rfl, rfl, rfl, rfl⟩ rfl rfl rfl rfl rfl (by kernel_rfl) Try.func7 (by kernel_rfl)
    (of_decide_eq_true (by kernel_rfl)) (by unfold Func.isWrapper; first | (rw [if_pos (by decide +kernel)]; kernel_rfl) | (rw [if_neg (by decide +kernel)]; exact ⟨rfl, rfl⟩))
    (fun os started H enc _ => lifted os started H enc)
theorem proved : Rows.FnExactUsefulStatesSaid := over
#print axioms proved
end Go.Proofs.Ytcibmpomidhgiaa.fnExactUsefulStates
namespace Go.Proofs.Ytcibmpomidhgiaa
/-- The row, under a short name, for the claim. -/
theorem fnExactUsefulStates_holds : Rows.FnExactUsefulStatesSaid := fnExactUsefulStates.proved
end Go.Proofs.Ytcibmpomidhgiaa
end M3
