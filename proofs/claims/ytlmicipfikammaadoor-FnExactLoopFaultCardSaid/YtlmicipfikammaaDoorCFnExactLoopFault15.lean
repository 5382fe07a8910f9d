/- For every alphabet and every automaton given as numbers and rows, the program's LoopFault answers what the reference's answers and leaves its arguments as they were. No condition. -/
import Derived.ChangeOld
import Derived.ChangeSame
import Derived.Deep.DeepHandedRow
import Derived.Deep.Strs
import Derived.Lib.LaidTab
import Derived.OpenShut
import Derived.ProofKit
import Derived.ShutString
import Derived.SizedLaws
import Derived.Test.YtlmicipfikammaaDoorCards
import Derived.Test.YtlmicipfikammaaDoorChecked
import Derived.Test.YtlmicipfikammaaDoorTie
import Derived.Test.YtlmicipfikammaaDoorCFnExactLoopFault14
section
namespace Go.Proofs.YtlmicipfikammaaDoor.U
open Go.RowKit Go.Proofs.YtlmicipfikammaaDoor.P Go.Proofs.YtlmicipfikammaaDoorW.PrintWords Go.Proofs.YtlmicipfikammaaDoorW.PrintLast Go.Proofs.YtlmicipfikammaaDoorW.PrintMore
set_option linter.unusedVariables false
/-! A set of letters is connected: both tell it. -/
theorem or256C {a b : Nat} (ha : a < 256) (hb : b < 256) : a ||| b < 256 := Nat.or_lt_two_pow (n := 8) ha hb
theorem borC {a b : Nat} (ha : a < 256) (hb : b < 256) : Go.bits .or .i64 (a : Int) (b : Int) = ((a ||| b : Nat) : Int) := bor (by omega) (by omega)
/-- What is reached from r inside m. -/
inductive RchC (d : List Int) (m r : Nat) : Nat → Prop where
  | root : RchC d m r r
  | step {a b : Nat} : RchC d m r a → bt d a b = true → m.testBit b = true → RchC d m r b
/-- r is m's least member. -/
def Lst (m r : Nat) : Prop := m.testBit r = true ∧ ∀ j, j < r → m.testBit j = false
theorem Lst.uniq {m r r' : Nat} (h : Lst m r) (h' : Lst m r') : r = r' := by
  rcases Nat.lt_trichotomy r r' with h1 | h1 | h1
  · have := h'.2 r h1
    rw [h.1] at this
    cases this
  · exact h1
  · have := h.2 r' h1
    rw [h'.1] at this
    cases this
theorem ctz_Lst {m : Nat} (hm : m < 256) (h0 : m ≠ 0) : Lst m (Lib.ctz 64 m) ∧ Zc1.f (m : Int) = some ((Lib.ctz 64 m : Nat) : Int) := by
  obtain ⟨h1, _, _, h4⟩ := mem_step ⟨m, hm⟩ h0
  refine ⟨⟨(mem_memN hm).1 (by simp only at h4; rw [h4]; simp), fun j hj => ?_⟩, h1⟩
  cases h : m.testBit j with
  | false => rfl
  | true =>
    have hp : (memN m).Pairwise (· < ·) := List.Pairwise.filter _ List.pairwise_lt_range
    have hmem := (mem_memN hm).2 h
    simp only at h4
    rw [h4] at hp hmem
    rcases List.mem_cons.1 hmem with e | hmem
    · omega
    · have := (List.pairwise_cons.1 hp).1 j hmem
      omega
/-- A closed set inside what is reached, with the root in it, is what is reached. -/
theorem Rch_closed {d : List Int} {m r s : Nat} (hr : s.testBit r = true) (hc : ∀ a b, s.testBit a = true → bt d a b = true → m.testBit b = true → s.testBit b = true) {b : Nat} (h : RchC d m r b) : s.testBit b = true := by
  induction h with
  | root => exact hr
  | step _ h1 h2 ih => exact hc _ _ ih h1 h2
theorem Rch_in {d : List Int} {m r : Nat} (hr : m.testBit r = true) {b : Nat} (h : RchC d m r b) : m.testBit b = true := by
  cases h with
  | root => exact hr
  | step _ _ h2 => exact h2
/-- Both come to a set s that is what is reached from m's least member (or 0, if there is none). -/
def Comp (d : List Int) (m s : Nat) : Prop := (m = 0 ∧ s = 0) ∨ ∃ r, Lst m r ∧ ∀ b, s.testBit b = true ↔ RchC d m r b
theorem Comp.uniq {d : List Int} {m s s' : Nat} (h : Comp d m s) (h' : Comp d m s') : s = s' := by
  rcases h with ⟨h0, h1⟩ | ⟨r, hr, h⟩
  · rcases h' with ⟨_, h2⟩ | ⟨r, hr, _⟩
    · rw [h1, h2]
    · rw [h0] at hr
      have := hr.1
      simp at this
  · rcases h' with ⟨h0, _⟩ | ⟨r', hr', h'⟩
    · rw [h0] at hr
      have := hr.1
      simp at this
    · have e := hr.uniq hr'
      subst e
      apply Nat.eq_of_testBit_eq
      intro i
      have h3 := h i
      have h4 := h' i
      cases hs : s.testBit i <;> cases hs' : s'.testBit i <;> simp_all
theorem alB_set {n : Int} {d : List Int} (h : alB n d = true) : 0 ≤ n ∧ n ≤ 8 ∧ (d.length : Int) = n ∧ Sets d := by
  unfold alB inI at h
  simp only [Bool.and_eq_true, decide_eq_true_eq] at h
  obtain ⟨⟨h0, h1⟩, h2, h3, _⟩ := h
  refine ⟨h0, h1, h2, sets_of (by omega) ?_⟩
  unfold inI
  exact h3
/-- Symmetric rows. -/
def Sym (d : List Int) : Prop := ∀ a b, a < d.length → b < d.length → bt d a b = bt d b a
theorem alB_sym {n : Int} {d : List Int} (h : alB n d = true) : Sym d := by
  unfold alB at h
  have h1 : symB d = true := by
    simp only [Bool.and_eq_true] at h
    exact h.2.2.2
  exact fun a b ha hb => (of_decide_eq_true h1 a ha).2 b hb
/-- A row cut down to m. -/
theorem row_and {d : List Int} (h : Sets d) {a m : Nat} (ha : a < d.length) (hm : m < 256) : Go.bits .and .i64 (rd d (a : Int)) (m : Int) = (((d.getD a 0).toNat &&& m : Nat) : Int) := by
  rw [h.rdE ha, band (by have := h.small ha; omega) (by omega)]
/-- One round of the program's: the union of the rows of s's members. -/
theorem isc_in {d : List Int} (h : Sets d) {m s : Nat} (hm : m < 256) (n : Int) (Q : Bool → Prop) (T : List Int) (A : Nat → Prop) (hT : ∀ x ∈ T, ∃ a : Nat, x = a ∧ A a ∧ a < d.length) (hl : T.length ≤ 8) (s0 : Nat) (e : s0 < 256)
    (k0 : ∀ s' : Nat, s' < 256 → (∀ b, s'.testBit b = true ↔ s0.testBit b = true ∨ ∃ a : Nat, (a : Int) ∈ T ∧ bt d a b = true ∧ m.testBit b = true) → EvP (fun k => if (s' : Int) = (s : Int) then some ((s : Int) == (m : Int)) else Zaz.l0 k (m : Int) (s' : Int) n d) Q) :
    EvP (fun k => Zaz.l1 k (m : Int) (s : Int) (s0 : Int) T (T.length : Int) ((0 : Nat) : Int) n d) Q := by
  refine EvP.up (fun k (x : Nat) i => Zaz.l1 k (m : Int) (s : Int) (x : Int) T (T.length : Int) i n d) Q T.length (fun i x => x < 256 ∧ ∀ b, x.testBit b = true ↔ s0.testBit b = true ∨ ∃ a : Nat, (a : Int) ∈ T.take i ∧ bt d a b = true ∧ m.testBit b = true) (fun x hI => ?_) (fun i x hi hI next => ?_) 0 s0 (by omega) ⟨e, by simp⟩
  · refine EvP.round ?_
    simp only [Zaz.l1]
    refine EvP.no (by omega) (k0 x hI.1 ?_)
    have := hI.2
    rwa [List.take_length] at this
  · obtain ⟨a, ea, _, ha⟩ := hT T[i] (List.getElem_mem hi)
    have hra : (d.getD a 0).toNat &&& m < 256 := Nat.lt_of_le_of_lt Nat.and_le_right hm
    refine EvP.round ?_
    simp only [Zaz.l1]
    rw [rd_lt hi, ea, row_and h ha hm, borC hI.1 hra, w64s (by omega)]
    refine EvP.yes (by omega) (EvP.yes (by omega) (EvP.yes (by omega) (EvP.yes (by omega) (EvP.yes (by omega) (next _ ⟨or256C hI.1 hra, fun b => ?_⟩)))))
    rw [Nat.testBit_or, Nat.testBit_and, Bool.or_eq_true, Bool.and_eq_true, hI.2 b, List.take_succ_eq_append_getElem hi, ea]
    constructor
    · rintro ((h1 | ⟨c, hc, h2⟩) | h1)
      · exact .inl h1
      · exact .inr ⟨c, List.mem_append_left _ hc, h2⟩
      · exact .inr ⟨a, List.mem_append_right _ (by simp), h1⟩
    · rintro (h1 | ⟨c, hc, h2⟩)
      · exact .inl (.inl h1)
      · rcases List.mem_append.1 hc with hc | hc
        · exact .inl (.inr ⟨c, hc, h2⟩)
        · have : (c : Int) = (a : Int) := by simpa using hc
          have : c = a := by omega
          subst this
          exact .inr h2
theorem isc_loop {d : List Int} (h : Sets d) {m r : Nat} (hm : m < 2 ^ d.length) (hr : Lst m r) (n : Int) : ∀ (q s : Nat), 256 - s ≤ q → s < 256 → s.testBit r = true → (∀ b, s.testBit b = true → RchC d m r b) →
    EvP (fun k => Zaz.l0 k (m : Int) (s : Int) n d) (fun b => ∃ s', Comp d m s' ∧ b = decide (s' = m)) := by
  have g : m < 256 := Nat.lt_of_lt_of_le hm (Nat.pow_le_pow_right (n := 2) (by decide) h.1)
  have hbit : ∀ b, m.testBit b = true → b < d.length := fun b hb => by
    rcases Nat.lt_or_ge b d.length with h1 | h1
    · exact h1
    · rw [Nat.testBit_lt_two_pow (Nat.lt_of_lt_of_le hm (Nat.pow_le_pow_right (by decide) h1))] at hb
      cases hb
  intro q
  induction q with
  | zero => intro s h1 h2; omega
  | succ q ih =>
    intro s hq hs hsr hsub
    refine EvP.round ?_
    simp only [Zaz.l0]
    refine EvP.bind (members_ev hs) ?_
    have hml : ((memN s).map Int.ofNat).length ≤ 8 := by
      rw [List.length_map]
      exact Nat.le_trans (List.length_filter_le _ _) (by simp)
    refine isc_in h g n _ _ (fun a => RchC d m r a) (fun x hx => ?_) hml s hs (fun s' hs' hb' => ?_)
    · obtain ⟨a, ha, rfl⟩ := List.mem_map.1 hx
      have h2 := hsub a ((mem_memN hs).1 ha)
      exact ⟨a, rfl, h2, hbit a (Rch_in hr.1 h2)⟩
    · have hmem : ∀ a : Nat, (a : Int) ∈ (memN s).map Int.ofNat ↔ s.testBit a = true := by
        intro a
        rw [List.mem_map, ← mem_memN hs]
        constructor
        · rintro ⟨c, hc, e⟩
          have : c = a := by have : (c : Int) = (a : Int) := e; omega
          exact this ▸ hc
        · exact fun hc => ⟨a, hc, rfl⟩
      by_cases e : s' = s
      · subst e
        refine EvP.yes rfl (EvP.ret ⟨s', .inr ⟨r, hr, fun b => ⟨hsub b, fun hb => ?_⟩⟩, ?_⟩)
        · exact Rch_closed hsr (fun a b ha h1 h2 => (hb' b).2 (.inr ⟨a, (hmem a).2 ha, h1, h2⟩)) hb
        · rw [show ((s' : Int) == (m : Int)) = decide ((s' : Int) = (m : Int)) from rfl]
          exact decide_eq_decide.2 (by omega)
      · refine EvP.no (by omega) ?_
        have hle : s ≤ s' := by
          have e2 : s' = s ||| s' := by
            apply Nat.eq_of_testBit_eq
            intro i
            rw [Nat.testBit_or]
            cases h1 : s.testBit i with
            | false => rfl
            | true => rw [(hb' i).2 (.inl h1)]; rfl
          rw [e2]
          exact Nat.left_le_or
        refine ih s' (by omega) hs' ((hb' r).2 (.inl hsr)) (fun b hb => ?_)
        rcases (hb' b).1 hb with h1 | ⟨a, ha, h1, h2⟩
        · exact hsub b h1
        · exact .step (hsub a ((hmem a).1 ha)) h1 h2
theorem isc_ev {d : List Int} (h : Sets d) {m : Nat} (hm : m < 2 ^ d.length) (n : Int) : EvP (fun k => Zaz.f k n d (m : Int)) (fun b => ∃ s', Comp d m s' ∧ b = decide (s' = m)) := by
  have a : m < 256 := Nat.lt_of_lt_of_le hm (Nat.pow_le_pow_right (n := 2) (by decide) h.1)
  unfold Zaz.f
  by_cases h0 : m = 0
  · subst h0
    exact EvP.yes rfl (EvP.ret ⟨0, .inl ⟨rfl, rfl⟩, rfl⟩)
  · obtain ⟨hr, hl⟩ := ctz_Lst a h0
    have c : Lib.ctz 64 m < 8 := by
      rcases Nat.lt_or_ge (Lib.ctz 64 m) 8 with h1 | h1
      · exact h1
      · have := hr.1
        rw [Nat.testBit_lt_two_pow (Nat.lt_of_lt_of_le a (show 2 ^ 8 ≤ 2 ^ _ from Nat.pow_le_pow_right (by decide) h1))] at this
        cases this
    refine EvP.no (by omega) (EvP.here hl (EvP.here (imOneI (by omega)) ?_))
    refine isc_loop h hm hr n 256 _ (Nat.sub_le _ _) (Nat.pow_lt_pow_right (n := 8) (by decide) c) (by rw [Nat.testBit_two_pow_self]) (fun b hb => ?_)
    have : Lib.ctz 64 m = b := by simpa [Nat.testBit_two_pow] using hb
    subst this
    exact .root
/-- One round of the reference's. -/
theorem spc_in {d : List Int} (h : Sets d) (hy : Sym d) {m r : Nat} (hm : m < 2 ^ d.length) (hr : m = 0 ∨ Lst m r) (s0 : Nat) (Q : Bool → Prop)
    (k0 : ∀ (s : Nat) (g : Bool), s < 256 → (m = 0 → s = 0) → (m ≠ 0 → s.testBit r = true) → (∀ b, s.testBit b = true → RchC d m r b) → (if g then s0 < s else s = s0 ∧ ∀ b, b < d.length → m.testBit b = true → s.testBit b = false → ∀ a, s.testBit a = true → bt d b a = false) →
      EvP (fun k => Zak.l1 k (m : Int) (s : Int) g (d.length : Int) d) Q)
    (hs : s0 < 256) (h1 : m = 0 → s0 = 0) (h2 : m ≠ 0 → s0.testBit r = true) (h3 : ∀ b, s0.testBit b = true → RchC d m r b) :
    EvP (fun k => Zak.l2 k (m : Int) (s0 : Int) false ((0 : Nat) : Int) (d.length : Int) d) Q := by
  have j : m < 256 := Nat.lt_of_lt_of_le hm (Nat.pow_le_pow_right (n := 2) (by decide) h.1)
  have l := h.1
  refine EvP.up (fun k (x : Nat × Bool) i => Zak.l2 k (m : Int) (x.1 : Int) x.2 i (d.length : Int) d) Q d.length (fun i x => x.1 < 256 ∧ (m = 0 → x.1 = 0) ∧ (m ≠ 0 → x.1.testBit r = true) ∧ (∀ b, x.1.testBit b = true → RchC d m r b) ∧ (if x.2 then s0 < x.1 else x.1 = s0 ∧ ∀ b, b < i → m.testBit b = true → x.1.testBit b = false → ∀ a, x.1.testBit a = true → bt d b a = false)) (fun x hI => ?_) (fun i x hi hI next => ?_) 0 (s0, false) (by omega) ⟨hs, h1, h2, h3, by simp⟩
  · obtain ⟨s, g⟩ := x
    obtain ⟨a1, a2, a3, a4, a5⟩ := hI
    refine EvP.round ?_
    simp only [Zak.l2]
    exact EvP.no (by omega) (k0 s g a1 a2 a3 a4 a5)
  · obtain ⟨s, g⟩ := x
    obtain ⟨a1, a2, a3, a4, a5⟩ := hI
    have same : (m.testBit i = true → s.testBit i = false → ∀ a, s.testBit a = true → bt d i a = false) → (if g then s0 < s else s = s0 ∧ ∀ b, b < i + 1 → m.testBit b = true → s.testBit b = false → ∀ a, s.testBit a = true → bt d b a = false) := by
      intro hc
      cases g
      · simp only [Bool.false_eq_true, if_false] at a5 ⊢
        refine ⟨a5.1, fun b hb => ?_⟩
        rcases Nat.lt_or_ge b i with h4 | h4
        · exact a5.2 b h4
        · have : b = i := by omega
          subst this
          exact hc
      · simpa using a5
    refine EvP.round ?_
    simp only [Zak.l2]
    rw [w64s (by omega)]
    refine EvP.yes (by omega) (EvP.here (spBitI (by omega) (by omega)) ?_)
    by_cases b1 : m.testBit i = true
    · refine EvP.yes b1 (EvP.here (spBitI (by omega) (by omega)) ?_)
      by_cases b2 : s.testBit i = true
      · exact EvP.yes b2 (next (s, g) ⟨a1, a2, a3, a4, same fun _ h => absurd b2 (by rw [h]; simp)⟩)
      · refine EvP.no b2 (EvP.yes (by omega) (EvP.yes (by omega) ?_))
        rw [row_and h hi (by omega)]
        by_cases b3 : (d.getD i 0).toNat &&& s = 0
        · refine EvP.yes (by omega) (next (s, g) ⟨a1, a2, a3, a4, same fun _ _ a ha => ?_⟩)
          have h5 : ((d.getD i 0).toNat &&& s).testBit a = false := by rw [b3]; simp
          rw [Nat.testBit_and, ha, Bool.and_true] at h5
          exact h5
        · refine EvP.no (by omega) (EvP.here (spOneI (by omega)) ?_)
          have hp : 2 ^ i < 256 := Nat.pow_lt_pow_right (n := 8) (by decide) (by omega)
          rw [borC a1 hp]
          have c : m ≠ 0 := fun e => by rw [e] at b1; simp at b1
          obtain ⟨a, ha⟩ : ∃ a, ((d.getD i 0).toNat &&& s).testBit a = true := Nat.exists_testBit_of_ne_zero b3
          rw [Nat.testBit_and, Bool.and_eq_true] at ha
          have hal : a < d.length := by
            rcases Nat.lt_or_ge a d.length with h6 | h6
            · exact h6
            · have h7 := (h.2 i hi).2
              have h8 := ha.1
              rw [Nat.testBit_lt_two_pow (Nat.lt_of_lt_of_le h7 (Nat.pow_le_pow_right (by decide) h6))] at h8
              cases h8
          have hnew : RchC d m r i := .step (a4 a ha.2) (by rw [hy a i hal hi]; exact ha.1) b1
          have hlt : s < s ||| 2 ^ i := by
            have h6 : s ≤ s ||| 2 ^ i := Nat.left_le_or
            have h7 : s ≠ s ||| 2 ^ i := fun e => b2 (by rw [e, Nat.testBit_or, Nat.testBit_two_pow_self, Bool.or_true])
            omega
          refine next (s ||| 2 ^ i, true) ⟨or256C a1 hp, fun e => absurd e c, fun e => by rw [Nat.testBit_or, a3 e, Bool.true_or], fun b hb => ?_, ?_⟩
          · rw [Nat.testBit_or, Bool.or_eq_true] at hb
            rcases hb with hb | hb
            · exact a4 b hb
            · have : i = b := by simpa [Nat.testBit_two_pow] using hb
              exact this ▸ hnew
          · simp only [if_true]
            cases g
            · simp only [Bool.false_eq_true, if_false] at a5
              omega
            · simp only [if_true] at a5
              omega
    · exact EvP.no b1 (next (s, g) ⟨a1, a2, a3, a4, same fun h => absurd h b1⟩)
theorem spc_loop {d : List Int} (h : Sets d) (hy : Sym d) {m r : Nat} (hm : m < 2 ^ d.length) (hr : m = 0 ∨ Lst m r) : ∀ (q s : Nat), 256 - s ≤ q → s < 256 → (m = 0 → s = 0) → (m ≠ 0 → s.testBit r = true) → (∀ b, s.testBit b = true → RchC d m r b) →
    EvP (fun k => Zak.l1 k (m : Int) (s : Int) true (d.length : Int) d) (fun b => ∃ s', Comp d m s' ∧ b = decide (s' = m)) := by
  intro q
  induction q with
  | zero => intro s h1 h2; omega
  | succ q ih =>
    intro s hq hs h1 h2 h3
    refine EvP.round ?_
    simp only [Zak.l1]
    refine EvP.yes trivial (spc_in h hy hm hr s _ (fun s' g a1 a2 a3 a4 a5 => ?_) hs h1 h2 h3)
    cases g
    · simp only [Bool.false_eq_true, if_false] at a5
      obtain ⟨rfl, hc⟩ := a5
      refine EvP.round ?_
      simp only [Zak.l1]
      refine EvP.no (by decide) (EvP.ret ⟨s', ?_, ?_⟩)
      · rcases Nat.eq_zero_or_pos m with h0 | h0
        · exact .inl ⟨h0, a2 h0⟩
        · have hr' : Lst m r := hr.resolve_left (by omega)
          refine .inr ⟨r, hr', fun b => ⟨a4 b, fun hb => Rch_closed (a3 (by omega)) (fun a c ha hac hmc => ?_) hb⟩⟩
          have hbit : ∀ b, m.testBit b = true → b < d.length := fun b hb => by
            rcases Nat.lt_or_ge b d.length with h1 | h1
            · exact h1
            · rw [Nat.testBit_lt_two_pow (Nat.lt_of_lt_of_le hm (Nat.pow_le_pow_right (by decide) h1))] at hb
              cases hb
          cases hsc : s'.testBit c with
          | true => rfl
          | false =>
            have h4 := hc c (hbit c hmc) hmc hsc a ha
            rw [hy a c (hbit a (Rch_in hr'.1 (a4 a ha))) (hbit c hmc), h4] at hac
            cases hac
      · rw [show ((s' : Int) == (m : Int)) = decide ((s' : Int) = (m : Int)) from rfl]
        exact decide_eq_decide.2 (by omega)
    · simp only [if_true] at a5
      exact ih s' (by omega) a1 a2 a3 a4
theorem spc_ev {d : List Int} (h : Sets d) (hy : Sym d) {m : Nat} (hm : m < 2 ^ d.length) : EvP (fun k => Zak.f k (d.length : Int) d (m : Int)) (fun b => ∃ s', Comp d m s' ∧ b = decide (s' = m)) := by
  have a : m < 256 := Nat.lt_of_lt_of_le hm (Nat.pow_le_pow_right (n := 2) (by decide) h.1)
  have c := h.1
  unfold Zak.f
  refine EvP.up (fun k (x : Unit) i => Zak.l0 k (m : Int) 0 i (d.length : Int) d) _ d.length (fun i _ => ∀ j, j < i → m.testBit j = false) (fun _ hI => ?_) (fun i _ hi hI next => ?_) 0 () (by omega) (by intro j hj; omega)
  · have h0 : m = 0 := by
      apply Nat.eq_of_testBit_eq
      intro j
      rw [Nat.zero_testBit]
      rcases Nat.lt_or_ge j d.length with h1 | h1
      · exact hI j h1
      · exact Nat.testBit_lt_two_pow (Nat.lt_of_lt_of_le hm (Nat.pow_le_pow_right (by decide) h1))
    refine EvP.round ?_
    simp only [Zak.l0]
    refine EvP.no (by omega) (EvP.round ?_)
    simp only [Zak.j1]
    refine EvP.no (by decide) ?_
    exact spc_loop h hy (r := 0) hm (.inl h0) 256 0 (by omega) (by omega) (fun _ => rfl) (fun h => absurd h0 h) (by simp)
  · refine EvP.round ?_
    simp only [Zak.l0]
    refine EvP.yes (by omega) (EvP.round ?_)
    simp only [Zak.j1]
    rw [w64s (by omega)]
    refine EvP.yes (by decide) (EvP.here (spBitI (by omega) (by omega)) ?_)
    by_cases b1 : m.testBit i = true
    · refine EvP.yes b1 (EvP.here (spOneI (by omega)) ?_)
      have hp : 2 ^ i < 256 := Nat.pow_lt_pow_right (n := 8) (by decide) (by omega)
      have g : 0 < 2 ^ i := Nat.pow_pos (by decide)
      have hr : Lst m i := ⟨b1, hI⟩
      have fin := spc_loop h hy hm (.inr hr) 256 (2 ^ i) (Nat.sub_le _ _) hp (fun e => by rw [e] at b1; simp at b1) (fun _ => Nat.testBit_two_pow_self) (fun b hb => by
        have : i = b := by simpa [Nat.testBit_two_pow] using hb
        subst this
        exact .root)
      refine EvP.round ?_
      simp only [Zak.l0]
      by_cases hlt : i + 1 < d.length
      · refine EvP.yes (by omega) (EvP.round ?_)
        simp only [Zak.j1]
        exact EvP.no (by rw [beq_iff_eq]; exact fun e => by have := Int.ofNat_inj.1 (e : ((2 ^ i : Nat) : Int) = ((0 : Nat) : Int)); omega) fin
      · refine EvP.no (by omega) (EvP.round ?_)
        simp only [Zak.j1]
        exact EvP.no (by decide) fin
    · exact EvP.no b1 (next () (fun j hj => by
        rcases Nat.lt_or_ge j i with h1 | h1
        · exact hI j h1
        · have : j = i := by omega
          subst this
          simpa using b1))
/-- The same answer. -/
theorem conn_both {n : Int} {d : List Int} (h : alB n d = true) {m : Nat} (hm : m < 2 ^ d.length) : ∃ b, Ev (fun k => Zaz.f k n d (m : Int)) b ∧ Ev (fun k => Zak.f k n d (m : Int)) b := by
  obtain ⟨_, _, hn, hs⟩ := alB_set h
  obtain ⟨b, h1, s, a, e1⟩ := isc_ev hs hm n
  obtain ⟨b', h2, s', c, e2⟩ := spc_ev hs (alB_sym h) hm
  rw [hn] at h2
  rw [a.uniq c] at e1
  exact ⟨b, h1, by rw [e1, ← e2]; exact h2⟩
/-! Diamonds: the first fault, both ways. -/
def f2 (ok : Nat → Nat → Nat → Bool) (L s a b : Nat) : Option (List Int) := (List.range' b (L - b)).findSome? fun b => if ok s a b then none else some [(s : Int), (a : Int), (b : Int)]
def f1 (ok : Nat → Nat → Nat → Bool) (L s a : Nat) : Option (List Int) := (List.range' a (L - a)).findSome? fun a => f2 ok L s a (a + 1)
def f0 (ok : Nat → Nat → Nat → Bool) (n L s : Nat) : Option (List Int) := (List.range' s (n - s)).findSome? fun s => f1 ok L s 0
/-- The code for an alphabet and an automaton over it. -/
def codeX (n : Int) (d : List Int) (L S F : Int) (N : List (List Int)) : Int := if alB n d = true ∧ isAut L S F N = true then (if L = n then 0 else 2) else 1
theorem codeX_0 {n : Int} {d : List Int} {L S F : Int} {N : List (List Int)} (h : codeX n d L S F N = 0) : alB n d = true ∧ isAut L S F N = true ∧ L = n := by
  unfold codeX at h
  split at h
  · rename_i h1
    split at h
    · rename_i h2; exact ⟨h1.1, h1.2, h2⟩
    · simp at h
  · simp at h
theorem overS_ev (n : Int) (d : List Int) (L S F : Int) (N : List (List Int)) (hN : N.length ≤ 9223372036854775807) : Ev (fun k => Zby.f k n d L S F N) (codeX n d L S F N) := by
  unfold Zby.f
  refine Ev.bind (l02Is_ev n d) ?_
  cases h1 : alB n d
  · have e : codeX n d L S F N = 1 := by unfold codeX; rw [if_neg (by rw [h1]; simp)]
    rw [e]
    refine Ev.no (by simp) (Ev.round ?_)
    simp only [Zby.j0]
    first | exact Ev.yes rfl (Ev.now _) | exact Ev.yes trivial (Ev.now _)
  · refine Ev.yes rfl (Ev.bind (l11Is_ev L S F N hN) (Ev.round ?_))
    simp only [Zby.j0]
    cases h2 : isAut L S F N
    · have e : codeX n d L S F N = 1 := by unfold codeX; rw [if_neg (by rw [h2]; simp)]
      rw [e]
      first | exact Ev.yes rfl (Ev.now _) | exact Ev.yes trivial (Ev.now _)
    · have e : codeX n d L S F N = if L = n then 0 else 2 := by unfold codeX; rw [if_pos ⟨h1, h2⟩]
      rw [e]
      refine Ev.no (by decide) ?_
      by_cases h3 : L = n
      · refine Ev.yes h3 ?_; rw [if_pos h3]; exact Ev.now _
      · refine Ev.no h3 ?_; rw [if_neg h3]; exact Ev.now _
theorem overI_ev (n : Int) (d : List Int) (L S F : Int) (N : List (List Int)) : Ev (fun k => Zcr.f k n d [⟨L, S, F, N⟩]) (codeX n d L S F N) := by
  unfold Zcr.f
  refine Ev.bind (isAl_ev n d) ?_
  refine Ev.now' (fun _ => ?_)
  unfold codeX
  cases h1 : alB n d
  · simp
  · cases h2 : isAut L S F N
    · simp [h2]
    · by_cases h3 : L = n
      · subst h3; simp [h2]
      · simp [h2, h3]
theorem szAny (a b c : Int) (l : List (List Int)) (hn : l.length ≤ maxLen) (hr : ∀ x ∈ l, x.length ≤ maxLen) (m : Nat) (hm : m ≤ 1048576) :
    Ev (fun k => Zcf.f k a b c l (m : Int)) (if sz2 l ≤ m then ((m - sz2 l : Nat) : Int) else -1) := by
  unfold Zcf.f
  refine Ev.bind (szSS l hn hr m hm) ?_
  by_cases h : sz2 l ≤ m
  · rw [if_pos h]
    refine Ev.no (by omega) (Ev.now _)
  · rw [if_neg h]
    refine Ev.yes (by omega) (Ev.now _)
theorem szAlX (n : Int) (d : List Int) (hd : d.length ≤ maxLen) : Zce.f n d 1048576 = some (if d.length ≤ 1048576 then ((1048576 - d.length : Nat) : Int) else -1) := by
  unfold maxLen at hd
  unfold Zce.f Zb6.f
  rw [w64 (by omega) (by omega)]
  by_cases h : d.length ≤ 1048576
  · rw [if_neg (by omega), if_pos h]
    simp only [Option.bind_some]
    rw [if_neg (by omega)]
    congr 1; omega
  · rw [if_pos (by omega), if_neg h]
    rfl
theorem toAlX (n : Int) (d : List Int) (hd : d.length ≤ 35184372088832) : Ev (fun k => Zb2.f k n d) (n, d) := by
  unfold Zb2.f
  exact Ev.bind (toS d hd) (Ev.now _)
theorem eqAlX (n : Int) (d : List Int) (hd : d.length ≤ 35184372088832) : Ev (fun k => Zcw.f k n d n d) true := by
  have h1 : Ev (fun k => Zbg.f k d d) true := by
    have := eqS d d (by omega)
    rw [decide_eq_true rfl] at this
    exact this
  unfold Zcw.f
  exact Ev.yes rfl (Ev.bind h1 (Ev.yes rfl (Ev.now _)))
end Go.Proofs.YtlmicipfikammaaDoor.U
end
section
namespace Go.Proofs.YtlmicipfikammaaDoor.U
open Go.RowKit Go.Proofs.YtlmicipfikammaaDoor.P Go.Proofs.YtlmicipfikammaaDoorW.PrintWords Go.Proofs.YtlmicipfikammaaDoorW.PrintLast
set_option linter.unusedVariables false
/-! The contents of loops at a state: both find the same. -/
def toW (x : Wk) : S106 := ⟨(x.1 : Int), (x.2 : Int)⟩
theorem rdW1 {l : List Wk} {i : Nat} {x : Wk} (h : l[i]? = some x) : Zam (l.map toW) (i : Int) = toW x := by
  show (l.map toW).getD i z106 = toW x
  rw [List.getD_eq_getElem?_getD, List.getElem?_map, h]; rfl
def lpC (x : Wk) : Int := ((x.1 * 256 + x.2 : Nat) : Int)
theorem rdC1 {l : List Wk} {i : Nat} {x : Wk} (h : l[i]? = some x) : rd (l.map lpC) (i : Int) = lpC x := by
  show (l.map lpC).getD i 0 = lpC x
  rw [List.getD_eq_getElem?_getD, List.getElem?_map, h]; rfl
theorem nx_nxO {N : List (List Int)} {L : Int} (hN : Rows' L N) {s a : Nat} (hs : s < N.length) (ha : a < L.toNat) : rd (Zae N (s : Int)) (a : Int) = nx N s a ∧ ((Zae N (s : Int)).length : Int) = L := ⟨by unfold nx; rw [if_neg (by omega)], (row_at hN (s := s) (by omega) (by omega)).1⟩
theorem head_of {l ext : List Wk} {s : Nat} (h : l.head? = some (s, 0)) : (l ++ ext).head? = some (s, 0) := by
  cases l with
  | nil => simp at h
  | cons x t => exact h
theorem ne_of_head {l : List Wk} {s : Nat} (h : l.head? = some (s, 0)) : l ≠ [] := by rintro rfl; simp at h
set_option maxHeartbeats 1000000 in
theorem loopI_run {L : Int} {N : List (List Int)} {fin : List Bool} {S : Int} (hN : Rows' L N) (c : 0 ≤ L) (hL : L ≤ 8) (hn : N.length ≤ 16) (s : Nat) :
    ∀ (f i : Nat) (l : List Wk) (rows : List (List Int)) (r : List Wk × List (List Int)), eRun L.toNat (lpN N) f i l rows = some r → (∀ y ∈ l, lpV N.length L.toNat y) → l.Nodup → i ≤ l.length → l.head? = some (s, 0) →
    Ev (fun k => Zaf.l0 k (s : Int) (l.map toW) (outL (2 ^ L.toNat) s l) (i : Int) L S fin N (mapB l.tail)) (outL (2 ^ L.toNat) s r.1)
  | 0, i, l, rows, r, hr, _, _, _, _ => by simp [eRun] at hr
  | f + 1, i, l, rows, r, hr, hv, hd, hi, hh => by
    have b : L.toNat ≤ 8 := by omega
    have hll := lp_few hn b hd hv
    unfold eRun at hr
    refine Ev.round ?_
    simp only [Zaf.l0]
    cases e : l[i]? with
    | none =>
      rw [e] at hr
      have hr := Option.some.inj hr
      subst hr
      have hge := List.getElem?_eq_none_iff.1 e
      exact Ev.no (by simp; omega) (Ev.now _)
    | some x =>
      rw [e] at hr
      have hlt := (List.getElem?_eq_some_iff.1 e).1
      have hx := hv x (List.mem_of_getElem? e)
      refine Ev.yes (by simp; omega) ?_
      have letters := Ev.up (fun k (st : List Wk × List Int) a => Zaf.l1 k (s : Int) (st.1.map toW) (outL (2 ^ L.toNat) s st.1) (i : Int) L a L S fin N (mapB st.1.tail)) L.toNat (fun _ _ => outL (2 ^ L.toNat) s r.1)
        (fun a st => st = (List.range a).foldl (eStep (lpN N) x) (l, []))
        (fun st hst => by
          obtain ⟨ext, g1, g3, g4⟩ := lp_fold hN hx L.toNat (Nat.le_refl _) hd hv
          rw [← hst] at g1
          rw [← g1] at g3 g4
          refine Ev.round ?_
          simp only [Zaf.l1]
          refine Ev.no (by omega) ?_
          rw [w64s (by omega)]
          have hm : eRow L.toNat (lpN N) x l = st := hst.symm
          dsimp only at hr
          rw [hm] at hr
          exact loopI_run hN c hL hn s f (i + 1) st.1 (rows ++ [st.2]) r hr g4 g3 (by rw [g1]; simp; omega) (by rw [g1]; exact head_of hh))
        (fun a st ha hst ih => by
          obtain ⟨ext, g1, g3, g4⟩ := lp_fold hN hx a (by omega) hd hv
          rw [← hst] at g1
          rw [← g1] at g3 g4
          have h := lp_few hn b g3 g4
          have hg : st.1[i]? = some x := by rw [g1, List.getElem?_append_left hlt, e]
          have g := (List.getElem?_eq_some_iff.1 hg).1
          have hhd : st.1.head? = some (s, 0) := by rw [g1]; exact head_of hh
          have hne := ne_of_head hhd
          have hfold : (List.range (a + 1)).foldl (eStep (lpN N) x) (l, []) = eStep (lpN N) x (st.1, st.2) a := by
            rw [List.range_succ, List.foldl_append, ← hst]; rfl
          obtain ⟨q1, q2⟩ := nx_nxO hN hx.1 ha
          have hp : (2 : Nat) ^ a < 2 ^ 63 := Nat.pow_lt_pow_right (by decide) (by omega)
          have d : x.2 < 2 ^ 63 := Nat.lt_of_lt_of_le hx.2 (Nat.pow_le_pow_right (by decide) (by omega))
          have hb := bor d hp
          have hml : x.2 ||| 2 ^ a < 2 ^ L.toNat := or_lt hx.2 ha
          have hpre : ∀ (v : List Bool), Ev (fun k => if nx N x.1 a < 0 then Zaf.j2 k (s : Int) (st.1.map toW) (outL (2 ^ L.toNat) s st.1) (i : Int) L (a : Int) true L S fin N (mapB st.1.tail) (nx N x.1 a) ((x.2 ||| 2 ^ a : Nat) : Int) else Zaf.j2 k (s : Int) (st.1.map toW) (outL (2 ^ L.toNat) s st.1) (i : Int) L (a : Int) (mget false (mapB st.1.tail) (nx N x.1 a, ((x.2 ||| 2 ^ a : Nat) : Int))) L S fin N (mapB st.1.tail) (nx N x.1 a) ((x.2 ||| 2 ^ a : Nat) : Int)) v →
              Ev (fun k => Zaf.l1 k (s : Int) (st.1.map toW) (outL (2 ^ L.toNat) s st.1) (i : Int) L (a : Int) L S fin N (mapB st.1.tail)) v := fun v hv' => by
            refine Ev.round ?_
            simp only [Zaf.l1]
            rw [rdW1 hg]
            simp only [toW, q1]
            refine Ev.yes (by omega) (Ev.yes (by omega) (Ev.yes (by simp; omega) (Ev.yes (by omega) (Ev.yes (by have := hx.1; omega) (Ev.yes (by omega) (Ev.yes (by rw [q2]; omega) (Ev.here (imOneI (by omega)) ?_)))))))
            rw [hb]
            exact hv'
          refine hpre _ ?_
          have hskip : (eStep (lpN N) x (st.1, st.2) a).1 = st.1 → Ev (fun k => Zaf.j2 k (s : Int) (st.1.map toW) (outL (2 ^ L.toNat) s st.1) (i : Int) L (a : Int) true L S fin N (mapB st.1.tail) (nx N x.1 a) ((x.2 ||| 2 ^ a : Nat) : Int)) (outL (2 ^ L.toNat) s r.1) := fun h2 => by
            refine Ev.round ?_
            simp only [Zaf.j2]
            rw [w64s (by omega)]
            have := ih _ hfold.symm
            rw [h2] at this
            exact Ev.yes (by trivial) this
          rcases lp_step (N := N) (x := x) (l := st.1) (row := st.2) (a := a) ⟨s, hhd⟩ with ⟨h1, h2⟩ | ⟨y, h1, h2, h3⟩ | ⟨y, h1, h2, h3⟩
          · have hneg : nx N x.1 a < 0 := nxO_none (by unfold lpN at h1; exact Option.map_eq_none_iff.1 h1)
            exact Ev.yes hneg (hskip h2)
          · obtain ⟨t, ht, rfl⟩ := Option.map_eq_some_iff.1 h1
            have hnx := nxO_some ht
            have hmg := mget_mapB st.1.tail (t, x.2 ||| 2 ^ a)
            rw [decide_eq_true h2] at hmg
            refine Ev.no (by omega) ?_
            rw [hnx] at hskip ⊢
            rw [hmg]
            exact hskip h3
          · obtain ⟨t, ht, rfl⟩ := Option.map_eq_some_iff.1 h1
            have hnx := nxO_some ht
            have hmg := mget_mapB st.1.tail (t, x.2 ||| 2 ^ a)
            rw [decide_eq_false h2] at hmg
            refine Ev.no (by omega) ?_
            rw [hnx, hmg]
            refine Ev.round ?_
            simp only [Zaf.j2]
            rw [w64s (by omega), mset_mapB h2]
            have hnew := ih _ hfold.symm
            rw [h3, List.tail_append_of_ne_nil hne, List.map_append] at hnew
            refine Ev.no (by simp) (Ev.yes (by simp; omega) (Ev.here rfl ?_))
            by_cases hts : t = s
            · subst hts
              rw [outL_new hne] at hnew
              refine Ev.yes rfl (Ev.yes (by omega) (Ev.yes (by rw [Zc3]; exact_mod_cast hml) ?_))
              simpa [toW] using hnew
            · rw [outL_other hne hts] at hnew
              refine Ev.no (by omega) ?_
              simpa [toW] using hnew)
      have := letters 0 (l, []) (by omega) rfl
      simpa using this
theorem loopI_ev {L : Int} {N : List (List Int)} {fin : List Bool} {S : Int} (hN : Rows' L N) (a : 0 ≤ L) (hL : L ≤ 8) (hn : N.length ≤ 16) {s : Nat} (hs : s < N.length) {f : Nat} {r : List Wk × List (List Int)} (hr : eRun L.toNat (lpN N) f 0 [(s, 0)] [] = some r) :
    Ev (fun k => Zaf.f k L S fin N (s : Int)) (outL (2 ^ L.toNat) s r.1) := by
  have hp : (2 : Nat) ^ L.toNat ≤ 2 ^ 8 := Nat.pow_le_pow_right (by decide) (by omega)
  unfold Zaf.f
  have e : Zb5.f L = some ((2 ^ L.toNat : Nat) : Int) := by
    have := imOneI (i := L.toNat) (by omega)
    rw [Int.toNat_of_nonneg a] at this
    exact this
  refine Ev.here e (Ev.yes (Int.natCast_nonneg _) (Ev.yes (by rw [Int.toNat_natCast]; omega) ?_))
  rw [Int.toNat_natCast, ← outL_start _ s]
  exact loopI_run hN a hL hn s f 0 [(s, 0)] [] r hr (fun y hy => by rw [List.mem_singleton.1 hy]; exact ⟨hs, Nat.pow_pos (by decide)⟩) (by simp) (by simp) rfl
def metL (l : List Wk) : List Bool := (List.range 4096).map fun v => decide ((v / 256, v % 256) ∈ l.tail)
theorem metL_length (l : List Wk) : (metL l).length = 4096 := by simp [metL]
theorem metL_at {l : List Wk} {y : Wk} (h1 : y.1 < 16) (h2 : y.2 < 256) : rdOf false (metL l) (lpC y) = decide (y ∈ l.tail) := by
  unfold lpC
  rw [Zc0 (by rw [metL_length]; omega)]
  simp only [metL, List.getElem_map, List.getElem_range]
  rw [show (y.1 * 256 + y.2) / 256 = y.1 by omega, show (y.1 * 256 + y.2) % 256 = y.2 by omega]
theorem metL_snoc {l : List Wk} (hl : l ≠ []) {y : Wk} (h1 : y.1 < 16) (h2 : y.2 < 256) : metL (l ++ [y]) = (metL l).set (lpC y).toNat true := by
  unfold lpC
  rw [Int.toNat_natCast]
  refine List.ext_getElem (by simp [metL]) fun i g1 g2 => ?_
  rw [List.getElem_set]
  simp only [metL, List.getElem_map, List.getElem_range, List.tail_append_of_ne_nil hl]
  by_cases e : y.1 * 256 + y.2 = i
  · subst e
    rw [if_pos rfl, show (y.1 * 256 + y.2) / 256 = y.1 by omega, show (y.1 * 256 + y.2) % 256 = y.2 by omega]
    simp
  · rw [if_neg e]
    refine decide_eq_decide.2 ⟨fun h => ?_, fun h => List.mem_append_left _ h⟩
    rcases List.mem_append.1 h with h | h
    · exact h
    · have h3 := List.mem_singleton.1 h
      have h4 := congrArg Prod.fst h3
      have h5 := congrArg Prod.snd h3
      dsimp only at h4 h5
      omega
theorem metL_start (s : Nat) : metL [(s, 0)] = List.replicate 4096 false := by
  unfold metL
  refine List.ext_getElem (by rw [List.length_map, List.length_range, List.length_replicate]) fun i h1 h2 => ?_
  rw [List.getElem_map, List.getElem_replicate]
  exact decide_eq_false (by simp only [List.tail_cons, List.not_mem_nil, not_false_eq_true])
set_option maxHeartbeats 2000000 in
theorem loopS_run {L : Int} {N : List (List Int)} {S F : Int} (hN : Rows' L N) (g : 0 ≤ L) (hL : L ≤ 8) (hn : N.length ≤ 16) {s : Nat} (hs : s < N.length) :
    ∀ (f i : Nat) (l : List Wk) (rows : List (List Int)) (r : List Wk × List (List Int)), eRun L.toNat (lpN N) f i l rows = some r → (∀ y ∈ l, lpV N.length L.toNat y) → l.Nodup → i ≤ l.length → l.head? = some (s, 0) →
    Ev (fun k => Zaw.l0 k (s : Int) (outL 256 s l) (metL l) (l.map lpC) (i : Int) L S F N) (outL 256 s r.1)
  | 0, i, l, rows, r, hr, _, _, _, _ => by simp [eRun] at hr
  | f + 1, i, l, rows, r, hr, hv, hd, hi, hh => by
    have d : L.toNat ≤ 8 := by omega
    have hpow : (2 : Nat) ^ L.toNat ≤ 2 ^ 8 := Nat.pow_le_pow_right (by decide) d
    have hll := lp_few hn d hd hv
    unfold eRun at hr
    refine Ev.round ?_
    simp only [Zaw.l0]
    cases e : l[i]? with
    | none =>
      rw [e] at hr
      have hr := Option.some.inj hr
      subst hr
      have hge := List.getElem?_eq_none_iff.1 e
      exact Ev.no (by simp; omega) (Ev.now _)
    | some x =>
      rw [e] at hr
      have hlt := (List.getElem?_eq_some_iff.1 e).1
      have hx := hv x (List.mem_of_getElem? e)
      have m := hx.1
      have j : x.2 < 256 := by have := hx.2; omega
      refine Ev.yes (by simp; omega) (Ev.yes (by omega) ?_)
      rw [rdC1 e]
      have hdiv : wrap64 (Int.tdiv (lpC x) 256) = (x.1 : Int) := by
        unfold lpC
        rw [Int.tdiv_eq_ediv_of_nonneg (by omega), w64 (by omega) (by omega)]
        omega
      have hmod : Int.tmod (lpC x) 256 = (x.2 : Int) := by
        unfold lpC
        rw [Int.tmod_eq_emod_of_nonneg (by omega)]
        omega
      rw [hdiv, hmod]
      have letters := Ev.up (fun k (st : List Wk × List Int) a => Zaw.l1 k (s : Int) (outL 256 s st.1) (metL st.1) (st.1.map lpC) (i : Int) (x.1 : Int) (x.2 : Int) a L S F N) L.toNat (fun _ _ => outL 256 s r.1)
        (fun a st => st = (List.range a).foldl (eStep (lpN N) x) (l, []))
        (fun st hst => by
          obtain ⟨ext, g1, g3, g4⟩ := lp_fold hN hx L.toNat (Nat.le_refl _) hd hv
          rw [← hst] at g1
          rw [← g1] at g3 g4
          refine Ev.round ?_
          simp only [Zaw.l1]
          refine Ev.no (by omega) ?_
          rw [w64s (by omega)]
          have hm : eRow L.toNat (lpN N) x l = st := hst.symm
          dsimp only at hr
          rw [hm] at hr
          exact loopS_run hN g hL hn hs f (i + 1) st.1 (rows ++ [st.2]) r hr g4 g3 (by rw [g1]; simp; omega) (by rw [g1]; exact head_of hh))
        (fun a st ha hst ih => by
          obtain ⟨ext, g1, g3, g4⟩ := lp_fold hN hx a (by omega) hd hv
          rw [← hst] at g1
          rw [← g1] at g3 g4
          have n := lp_few hn d g3 g4
          have hhd : st.1.head? = some (s, 0) := by rw [g1]; exact head_of hh
          have hne := ne_of_head hhd
          have hfold : (List.range (a + 1)).foldl (eStep (lpN N) x) (l, []) = eStep (lpN N) x (st.1, st.2) a := by
            rw [List.range_succ, List.foldl_append, ← hst]; rfl
          obtain ⟨q1, q2⟩ := nx_nxO hN hx.1 ha
          have hp : (2 : Nat) ^ a < 2 ^ 63 := Nat.pow_lt_pow_right (by decide) (by omega)
          have h : x.2 < 2 ^ 63 := Nat.lt_of_lt_of_le hx.2 (Nat.pow_le_pow_right (by decide) (by omega))
          have hb := bor h hp
          have hml : x.2 ||| 2 ^ a < 2 ^ L.toNat := or_lt hx.2 ha
          have b : x.2 ||| 2 ^ a < 256 := by omega
          refine Ev.round ?_
          simp only [Zaw.l1]
          rw [q1]
          refine Ev.yes (by omega) (Ev.yes (by omega) (Ev.yes (by omega) (Ev.yes (by omega) (Ev.yes (by rw [q2]; omega) ?_))))
          rw [w64s (by omega : a < 9223372036854775807)]
          have hnext := ih _ hfold.symm
          rcases lp_step (N := N) (x := x) (l := st.1) (row := st.2) (a := a) ⟨s, hhd⟩ with ⟨h1, h2⟩ | ⟨y, h1, h2, h3⟩ | ⟨y, h1, h2, h3⟩
          · have hneg : nx N x.1 a < 0 := nxO_none (by unfold lpN at h1; exact Option.map_eq_none_iff.1 h1)
            rw [h2] at hnext
            exact Ev.yes hneg hnext
          · have hV := lpN_V hN x a y hx ha h1
            obtain ⟨t, ht, rfl⟩ := Option.map_eq_some_iff.1 h1
            have hnx := nxO_some ht
            have c : t < 16 := by have := hV.1; dsimp only at this; omega
            have hC : wrap64 (wrap64 ((t : Int) * 256) + ((x.2 ||| 2 ^ a : Nat) : Int)) = lpC (t, x.2 ||| 2 ^ a) := by
              unfold lpC
              have e0 : wrap64 ((t : Int) * 256) = (t : Int) * 256 := w64 (by omega) (by omega)
              rw [e0, w64 (by omega) (by omega)]
              dsimp only; omega
            have hCb : 0 ≤ lpC (t, x.2 ||| 2 ^ a) ∧ lpC (t, x.2 ||| 2 ^ a) < 4096 := by unfold lpC; dsimp only; omega
            rw [h3] at hnext
            rw [hnx]
            refine Ev.no (by omega) (Ev.here (spOneI (by omega)) ?_)
            rw [hb, hC, metL_at (l := st.1) (y := (t, x.2 ||| 2 ^ a)) c b, decide_eq_true h2]
            by_cases hts : t = s
            · subst hts
              refine Ev.yes rfl (Ev.yes (by omega) (Ev.yes (by rw [Zc3]; omega) (Ev.here rfl (Ev.yes hCb.1 (Ev.yes (by rw [metL_length]; exact hCb.2) (Ev.yes rfl ?_))))))
              rw [Int.toNat_natCast, outL_met h2]
              exact hnext
            · exact Ev.no (by omega) (Ev.yes hCb.1 (Ev.yes (by rw [metL_length]; exact hCb.2) (Ev.yes rfl hnext)))
          · have hV := lpN_V hN x a y hx ha h1
            obtain ⟨t, ht, rfl⟩ := Option.map_eq_some_iff.1 h1
            have hnx := nxO_some ht
            have c : t < 16 := by have := hV.1; dsimp only at this; omega
            have hC : wrap64 (wrap64 ((t : Int) * 256) + ((x.2 ||| 2 ^ a : Nat) : Int)) = lpC (t, x.2 ||| 2 ^ a) := by
              unfold lpC
              have e0 : wrap64 ((t : Int) * 256) = (t : Int) * 256 := w64 (by omega) (by omega)
              rw [e0, w64 (by omega) (by omega)]
              dsimp only; omega
            have hCb : 0 ≤ lpC (t, x.2 ||| 2 ^ a) ∧ lpC (t, x.2 ||| 2 ^ a) < 4096 := by unfold lpC; dsimp only; omega
            rw [h3, List.map_append, metL_snoc (y := (t, x.2 ||| 2 ^ a)) hne c b] at hnext
            rw [hnx]
            refine Ev.no (by omega) (Ev.here (spOneI (by omega)) ?_)
            rw [hb, hC, metL_at (l := st.1) (y := (t, x.2 ||| 2 ^ a)) c b, decide_eq_false h2]
            by_cases hts : t = s
            · subst hts
              rw [outL_new hne] at hnext
              refine Ev.yes rfl (Ev.yes (by omega) (Ev.yes (by rw [Zc3]; omega) (Ev.here rfl (Ev.yes hCb.1 (Ev.yes (by rw [metL_length]; exact hCb.2) (Ev.no (by simp) (Ev.yes (by simp; omega) ?_)))))))
              rw [Int.toNat_natCast]
              exact hnext
            · rw [outL_other hne hts] at hnext
              exact Ev.no (by omega) (Ev.yes hCb.1 (Ev.yes (by rw [metL_length]; exact hCb.2) (Ev.no (by simp) (Ev.yes (by simp; omega) hnext)))))
      have := letters 0 (l, []) (by omega) rfl
      simpa using this
theorem loopS_ev {L : Int} {N : List (List Int)} {S F : Int} (hN : Rows' L N) (a : 0 ≤ L) (hL : L ≤ 8) (hn : N.length ≤ 16) {s : Nat} (hs : s < N.length) {f : Nat} {r : List Wk × List (List Int)} (hr : eRun L.toNat (lpN N) f 0 [(s, 0)] [] = some r) :
    Ev (fun k => Zaw.f k L S F N (s : Int)) (outL 256 s r.1) := by
  unfold Zaw.f
  refine Ev.yes (by decide) (Ev.yes (by decide) ?_)
  have h := loopS_run (S := S) (F := F) hN a hL hn hs f 0 [(s, 0)] [] r hr (fun y hy => by rw [List.mem_singleton.1 hy]; exact ⟨hs, Nat.pow_pos (by decide)⟩) (by simp) (by simp) rfl
  rw [outL_start, metL_start] at h
  have e : wrap64 ((s : Int) * 256) = lpC (s, 0) := by
    unfold lpC
    rw [w64 (by omega) (by omega)]
    dsimp only; omega
  rw [e]
  exact h
theorem lp_last {L : Int} {N : List (List Int)} (hN : Rows' L N) {s f : Nat} (hs : s < N.length) {r : List Wk × List (List Int)} (hr : eRun L.toNat (lpN N) f 0 [(s, 0)] [] = some r) : ∀ y ∈ r.1, lpV N.length L.toNat y := by
  have hst := exp_start (L := L.toNat) (nxt := lpN N) (V := lpV N.length L.toNat) (x := (s, 0)) ⟨hs, Nat.pow_pos (by decide)⟩
  exact (eRun_I (lpN_V hN) f 0 [(s, 0)] [] r hr hst).1.v
theorem fault_loops {n : Int} {d : List Int} {L S F : Int} {N : List (List Int)} (ha : alB n d = true) (hN : Rows' L N) (a : 0 ≤ L) (hL : L ≤ 8) (hLn : L = n) (hn : N.length ≤ 16) {m : Nat} (hm : m < 2 ^ 63) {u : List Bool} (hu : u.length = N.length) (hum : ∀ s : Nat, s < N.length → rdOf false u (s : Int) = m.testBit s) (fin : List Bool) :
    ∀ (j i : Nat), i + j = N.length → ∃ r, Ev (fun k => Za0.l0 k (m : Int) (i : Int) n d L S F N) r ∧ Ev (fun k => Za2.l0 k u (u.length : Int) (i : Int) n d L S fin N) r
  | 0, i, h => ⟨(0, 0, 4), by
      refine Ev.round ?_
      simp only [Za0.l0]
      exact Ev.here (show Za4.f L S F N = some (N.length : Int) from rfl) (Ev.no (by omega) (Ev.now _)), by
      refine Ev.round ?_
      simp only [Za2.l0]
      exact Ev.no (by omega) (Ev.now _)⟩
  | j + 1, i, h => by
    obtain ⟨r0, o, p⟩ := fault_loops (S := S) (F := F) ha hN a hL hLn hn hm hu hum fin j (i + 1) (by omega)
    obtain ⟨_, _, hdl, hd⟩ := alB_set ha
    have hi : i < N.length := by omega
    have hpow : (2 : Nat) ^ L.toNat ≤ 2 ^ 8 := Nat.pow_le_pow_right (by decide) (by omega)
    cases hb : m.testBit i with
    | false =>
      refine ⟨r0, ?_, ?_⟩
      · refine Ev.round ?_
        simp only [Za0.l0]
        rw [w64s (by omega)]
        refine Ev.here (show Za4.f L S F N = some (N.length : Int) from rfl) (Ev.yes (by omega) (Ev.here (spBitI hm (by omega)) ?_))
        rw [hb]
        exact Ev.no (by simp) o
      · refine Ev.round ?_
        simp only [Za2.l0]
        rw [w64s (by omega), hum i hi, hb]
        exact Ev.yes (by omega) (Ev.yes (by omega) (Ev.yes (by omega) (Ev.no (by simp) p)))
    | true =>
      obtain ⟨r, hr⟩ := lp_ends hN hi
      have hlast := lp_last hN hi hr
      have hI := loopI_ev (fin := fin) (S := S) hN a hL hn hi hr
      have hS := loopS_ev (S := S) (F := F) hN a hL hn hi hr
      have tail : ∀ (g c : Nat), c + g = 256 → 2 ^ L.toNat ≤ c → Ev (fun k => Za0.l1 k (m : Int) (i : Int) (outL 256 i r.1) (c : Int) n d L S F N) r0 := by
        intro g
        induction g with
        | zero =>
          intro c hc _
          refine Ev.round ?_
          simp only [Za0.l1]
          rw [w64s (by omega : i < 9223372036854775807)]
          exact Ev.no (by omega) o
        | succ g ih =>
          intro c hc hge
          have hno : rdOf false (outL 256 i r.1) (c : Int) = false := by
            rw [outL_at (by omega)]
            refine decide_eq_false fun hmem => ?_
            have := (hlast _ (List.mem_of_mem_tail hmem)).2
            dsimp only at this
            omega
          refine Ev.round ?_
          simp only [Za0.l1]
          rw [hno, w64s (by omega : c < 9223372036854775807)]
          exact Ev.yes (by omega) (Ev.yes (by omega) (Ev.yes (by rw [Zc3]; omega) (Ev.no (by simp) (ih (c + 1) (by omega) (by omega)))))
      have main : ∀ (g c : Nat), c + g = 2 ^ L.toNat → ∃ r1, Ev (fun k => Za0.l1 k (m : Int) (i : Int) (outL 256 i r.1) (c : Int) n d L S F N) r1 ∧ Ev (fun k => Za2.l1 k (i : Int) u (u.length : Int) (i : Int) (outL (2 ^ L.toNat) i r.1) ((outL (2 ^ L.toNat) i r.1).length : Int) (c : Int) n d L S fin N) r1 := by
        intro g
        induction g with
        | zero =>
          intro c hc
          refine ⟨r0, tail (256 - c) c (by omega) (by omega), ?_⟩
          refine Ev.round ?_
          simp only [Za2.l1]
          rw [w64s (by omega : i < 9223372036854775807)]
          exact Ev.no (by rw [Zc3]; omega) p
        | succ g ih =>
          intro c hc
          obtain ⟨r1, g1, g2⟩ := ih (c + 1) (by omega)
          have l : c < 2 ^ L.toNat := by omega
          have hcd : c < 2 ^ d.length := by
            have e : L.toNat = d.length := by omega
            rw [e] at l
            exact l
          have o1 : rdOf false (outL 256 i r.1) (c : Int) = decide ((i, c) ∈ r.1.tail) := outL_at (by omega)
          have o2 : rdOf false (outL (2 ^ L.toNat) i r.1) (c : Int) = decide ((i, c) ∈ r.1.tail) := outL_at l
          have pre : ∀ (v : Int × Int × Int), Ev (fun k => if decide ((i, c) ∈ r.1.tail) = true then ((Zak.f k n d (c : Int)).bind fun t => if t = true then Za0.l1 k (m : Int) (i : Int) (outL 256 i r.1) ((c + 1 : Nat) : Int) n d L S F N else some ((i : Int), (c : Int), 0)) else Za0.l1 k (m : Int) (i : Int) (outL 256 i r.1) ((c + 1 : Nat) : Int) n d L S F N) v → Ev (fun k => Za0.l1 k (m : Int) (i : Int) (outL 256 i r.1) (c : Int) n d L S F N) v := fun v hv => by
            refine Ev.round ?_
            simp only [Za0.l1]
            rw [o1, w64s (by omega : c < 9223372036854775807)]
            exact Ev.yes (by omega) (Ev.yes (by omega) (Ev.yes (by rw [Zc3]; omega) hv))
          have pri : ∀ (v : Int × Int × Int), Ev (fun k => if decide ((i, c) ∈ r.1.tail) = true then ((Zaz.f k n d (c : Int)).bind fun t => if t = true then Za2.l1 k (i : Int) u (u.length : Int) (i : Int) (outL (2 ^ L.toNat) i r.1) ((outL (2 ^ L.toNat) i r.1).length : Int) ((c + 1 : Nat) : Int) n d L S fin N else some ((i : Int), (c : Int), 0)) else Za2.l1 k (i : Int) u (u.length : Int) (i : Int) (outL (2 ^ L.toNat) i r.1) ((outL (2 ^ L.toNat) i r.1).length : Int) ((c + 1 : Nat) : Int) n d L S fin N) v → Ev (fun k => Za2.l1 k (i : Int) u (u.length : Int) (i : Int) (outL (2 ^ L.toNat) i r.1) ((outL (2 ^ L.toNat) i r.1).length : Int) (c : Int) n d L S fin N) v := fun v hv => by
            refine Ev.round ?_
            simp only [Za2.l1]
            rw [o2, w64s (by omega : c < 9223372036854775807)]
            exact Ev.yes (by rw [Zc3]; omega) (Ev.yes (by omega) (Ev.yes (by rw [Zc3]; omega) hv))
          by_cases hmem : (i, c) ∈ r.1.tail
          · obtain ⟨b, c2, c1⟩ := conn_both ha hcd
            cases b with
            | true => exact ⟨r1, pre _ (Ev.yes (decide_eq_true hmem) (Ev.bind c1 (Ev.yes rfl g1))), pri _ (Ev.yes (decide_eq_true hmem) (Ev.bind c2 (Ev.yes rfl g2)))⟩
            | false => exact ⟨((i : Int), (c : Int), 0), pre _ (Ev.yes (decide_eq_true hmem) (Ev.bind c1 (Ev.no (by simp) (Ev.now _)))), pri _ (Ev.yes (decide_eq_true hmem) (Ev.bind c2 (Ev.no (by simp) (Ev.now _))))⟩
          · exact ⟨r1, pre _ (Ev.no (by simpa using hmem) g1), pri _ (Ev.no (by simpa using hmem) g2)⟩
      obtain ⟨r1, g1, g2⟩ := main (2 ^ L.toNat) 0 (by omega)
      refine ⟨r1, ?_, ?_⟩
      · refine Ev.round ?_
        simp only [Za0.l0]
        refine Ev.here (show Za4.f L S F N = some (N.length : Int) from rfl) (Ev.yes (by omega) (Ev.here (spBitI hm (by omega)) ?_))
        rw [hb]
        exact Ev.yes rfl (Ev.bind hS g1)
      · refine Ev.round ?_
        simp only [Za2.l0]
        rw [hum i hi, hb]
        exact Ev.yes (by omega) (Ev.yes (by omega) (Ev.yes (by omega) (Ev.yes rfl (Ev.bind hI g2))))
open Classical in
theorem loopFault_both (n : Int) (d : List Int) (L S F : Int) (N : List (List Int)) (hN : N.length ≤ 1048576) : ∃ r, Ev (fun k => Za0.f k n d L S F N) r ∧ Ev (fun k => Za2.f k n d L S F N) r := by
  unfold Za0.f Za2.f
  by_cases h : codeX n d L S F N = 0
  · obtain ⟨h1, h2, h3⟩ := codeX_0 h
    have ok := isAut_ok h2
    have a := ok.n16
    have e1 := overS_ev n d L S F N (by omega)
    have e2 := overI_ev n d L S F N
    rw [h] at e1 e2
    obtain ⟨r, hr, er⟩ := useful_spec_ev h2
    subst er
    obtain ⟨u, hu, huse⟩ := useful_ev (finL F N.length) ok.rows (by omega) (by simp [finL]) ok.l0 (by have := ok.l8; omega) ok.s0 ok.sn
    have hml : orN (fun s => decide (Rch L N S s ∧ Led L N (finL F N.length) s)) N.length 0 < 2 ^ 63 := orN_lt _ _ _ 63 (by omega) (by decide)
    obtain ⟨r0, g1, g2⟩ := fault_loops (n := n) (d := d) (S := S) (F := F) h1 ok.rows ok.l0 ok.l8 h3 a hml huse.1 (fun s hs => by
      rw [testBit_orN, Nat.zero_testBit, Bool.false_or, decide_eq_true hs, Bool.true_and, Bool.eq_iff_iff]
      have := huse.2 s (by omega) (by omega)
      simpa using this) (finL F N.length) N.length 0 (by omega)
    refine ⟨r0, Ev.bind e1 (Ev.yes rfl (Ev.bind hr g1)), Ev.bind e2 (Ev.yes rfl (Ev.bind (machineOf_ev L S F N (by omega)) (Ev.bind hu ?_)))⟩
    exact g2
  · exact ⟨(0, 0, codeX n d L S F N), Ev.bind (overS_ev n d L S F N (by omega)) (Ev.no h (Ev.now _)), Ev.bind (overI_ev n d L S F N) (Ev.no h (Ev.now _))⟩
end Go.Proofs.YtlmicipfikammaaDoor.U
end
section
namespace Go.Proofs.YtlmicipfikammaaDoor.Pure
open Go.RowKit Go.Proofs.YtlmicipfikammaaDoor.P Go.Proofs.YtlmicipfikammaaDoor.U Go.Proofs.YtlmicipfikammaaDoorW.PrintWords Go.Proofs.YtlmicipfikammaaDoorW.PrintLast Go.Proofs.YtlmicipfikammaaDoorW.PrintMore
set_option linter.unusedVariables false
theorem FnExactLoopFault : ∀ (c : Int) (a : List Int) (e : Int) (g : Int) (h : Int) (b : List (List Int)), ((Lit.int .i64 c).wf = true) → (a.length ≤ maxLen ∧ ∀ x0 ∈ a, (Lit.int .i64 x0).wf = true) → ((Lit.int .i64 e).wf = true) → ((Lit.int .i64 g).wf = true) → ((Lit.int .i64 h).wf = true) → (b.length ≤ maxLen ∧ ∀ x1 ∈ b, x1.length ≤ maxLen ∧ ∀ x2 ∈ x1, (Lit.int .i64 x2).wf = true) → ∃ k, Zax.f k c a e g h b = some true := by
  intro n d L S F N _ hd _ _ _ ⟨hn, hr⟩
  apply Ev.rounds
  unfold Zax.f
  refine Ev.here (szAlX n d hd.1) ?_
  rcases Nat.lt_or_ge 1048576 d.length with h1 | h1
  · rw [if_neg (by omega)]; exact Ev.yes (by omega) (Ev.now _)
  rw [if_pos h1]
  refine Ev.no (by omega) (Ev.bind (szAny L S F N hn (fun x hx => (hr x hx).1) (1048576 - d.length) (by omega)) ?_)
  by_cases h2 : sz2 N ≤ 1048576 - d.length
  · rw [if_pos h2]
    have hz : sz2 N ≤ 1048576 := by omega
    have hl : N.length ≤ 1048576 := by unfold sz2 at hz; omega
    obtain ⟨r, hs, hi⟩ := loopFault_both n d L S F N hl
    refine Ev.no (by omega) (Ev.bind (toAlX n d (by omega)) (Ev.bind (toA L S F N hz) (Ev.bind hs (Ev.bind (toAlX n d (by omega)) (Ev.bind (toA L S F N hz) (Ev.bind hi (Ev.yes rfl (Ev.yes rfl (Ev.round ?_)))))))))
    simp only [Zax.j0]
    exact Ev.no (by simp) (Ev.bind (toAlX n d (by omega)) (Ev.bind (eqAlX n d (by omega)) (Ev.yes rfl (Ev.bind (toA L S F N hz) (Ev.bind (eqA L S F N hz) (Ev.yes rfl (Ev.now _)))))))
  · rw [if_neg h2]
    exact Ev.yes (by omega) (Ev.now _)
end Go.Proofs.YtlmicipfikammaaDoor.Pure
end
section
namespace Go.Proofs.YtlmicipfikammaaDoor.fnExactLoopFault
open Go.ChangeShapes Go.WideShapes Go.ChangeAt Go.RowKit Go.Lib Go.Joins Go.Proofs.YtlmicipfikammaaDoor.P Go.Proofs.YtlmicipfikammaaDoor.Op Go.Proofs.YtlmicipfikammaaDoor.Sh Go.Proofs.YtlmicipfikammaaDoorW.PrintWords Go.Proofs.YtlmicipfikammaaDoorW.PrintLast
open Go.ChangeMaps (open_string shut_string)
set_option linter.unusedVariables false
set_option linter.unusedSimpArgs false
theorem own : ownKnob Tryd.prog.godebug = none := by kernel_rfl
theorem laidOut : laidOutB Tryd.prog = true := by kernel_rfl
theorem gTab : Tryd.prog.globalNamed "math/bits.deBruijn64tab" = some 0 := by kernel_rfl
theorem gTabType : (Tryd.prog.globals[0]?).map (·.type) = some 140 := by kernel_rfl
theorem cellsT : Tryd.prog.cellsOf 140 = 64 := by kernel_rfl
theorem cellsE : Tryd.prog.cellsOf 5 = 1 := by kernel_rfl
def tabL : List Int := [0, 1, 56, 2, 57, 49, 28, 3, 61, 58, 42, 50, 38, 29, 17, 4, 62, 47, 59, 36, 45, 43, 51, 22, 53, 39, 33, 30, 24, 18, 12, 5, 63, 55, 48, 27, 60, 41, 37, 16, 46, 35, 44, 21, 52, 32, 23, 11, 54, 26, 40, 15, 34, 20, 31, 10, 25, 14, 19, 9, 13, 8, 7, 6]
theorem tabL_eq : tabL = Lib.deBruijn64tab.map (fun (n : Nat) => (n : Int)) := rfl
theorem table {W : World} (h : laidMetH Tryd.prog Rows.fnExactLoopFaultRow.laid W) : Lib.TabIs Tryd.prog W "math/bits.deBruijn64tab" .u8 tabL :=
  Lib.tabIs_of_head (rest := []) gTab gTabType Tryd.underlying140 Tryd.underlying5 cellsE cellsT h
theorem tab {W : World} (h : laidMetH Tryd.prog Rows.fnExactLoopFaultRow.laid W) : Tab W := fun j hj => by
  have h1 := (table h).cell gTab j (by rw [tabL_eq, List.length_map]; exact hj)
  rw [h1, tabL_eq]
  congr 2
  simp only [List.getD_eq_getElem?_getD, List.getElem?_map, List.getElem?_eq_getElem hj, Option.map_some, Option.getD_some, List.getElem_map]
set_option maxRecDepth 100000 in
theorem contract (H : Type) (enc : TypeId × Value → H) (W : World) (base : Nat) (args : Array Value) (ds gs : List (DataW H)) (before : List MemPlace)
    (g : ∀ (j : Nat) t v, Tryd.f4.params[j]? = some t → args[j]? = some v → Value.okWide Tryd.prog W .any base t v)
    (hW : DataW.Whole enc Tryd.prog Tryd.f4.params.toList Rows.fnExactLoopFaultSpec.vars false W args.toList ds gs before) (hL : laidMetH Tryd.prog Rows.fnExactLoopFaultRow.laid W) :
    Calls Tryd.prog 4 args W fun e W' => ∃ v, e = .returned v ∧ Rows.fnExactLoopFaultSpec.post enc Tryd.prog Tryd.f4 false true false false W args v W' := by
  have hTab := tab hL
  clear hL
  have hval : ∀ (j : Nat) t v, Tryd.f4.params[j]? = some t → args[j]? = some v → Value.okWide Tryd.prog W .any base t v := g
  have hW' := hW
  obtain ⟨p, q, u, hV, rfl, hfz, hnd⟩ := hW
  have hA : DataW.TrodAll enc Tryd.prog W 0 (fun _ => true) true Tryd.f4.params.toList args.toList ds p := u
  rw [Tryd.params4] at hA hval
  obtain ⟨v0, ag, d0, ah, p0, q0, hargs, rfl, rfl, h0, r0⟩ := trodAll_cons hA
  obtain ⟨v1, ai, d1, aj, p1, q1, rfl, rfl, rfl, h1, r1⟩ := trodAll_cons r0
  obtain ⟨rfl, rfl, rfl⟩ := trodAll_nil r1
  obtain rfl : args = #[v0, v1] := by cases args; simp_all
  obtain ⟨rfl, rfl⟩ := trodVars_none hV
  have k0 := h0
  have T : ∀ x ∈ p0, x.block < W.heap.size := by obtain ⟨m, hm⟩ := k0; exact DataW.trod_lt m _ _ _ hm
  obtain ⟨U, ak, al, am, m0, rfl, _, _, X, Y⟩ := open_agg2 Tryd.underlying24 (by kernel_rfl) (by kernel_rfl) (hval 0 24 v0 rfl rfl) h0
  obtain ⟨a, w, _, y⟩ := DataW.trod_int Tryd.underlying2 X
  obtain rfl : U = .int .i64 a := by simpa using w
  obtain ⟨z, A, i, rfl, n, o, B⟩ := open_row Y (opens_slice Tryd.underlying22 (by kernel_rfl) (opens_int Tryd.underlying2))
  have k1 := h1
  have Z : ∀ x ∈ p1, x.block < W.heap.size := by obtain ⟨m, hm⟩ := k1; exact DataW.trod_lt m _ _ _ hm
  obtain ⟨c10, aa, ab, an, ao, ap, aq, ar, m1, rfl, _, _, ac, ad, ae, af⟩ := open_agg4 Tryd.underlying27 (by kernel_rfl) (by kernel_rfl) (hval 1 27 v1 rfl rfl) h1
  obtain ⟨b, D, _, E⟩ := DataW.trod_int Tryd.underlying2 ac
  obtain rfl : c10 = .int .i64 b := by simpa using D
  obtain ⟨c, G, _, I⟩ := DataW.trod_int Tryd.underlying2 ad
  obtain rfl : aa = .int .i64 c := by simpa using G
  obtain ⟨d, J, _, K⟩ := DataW.trod_int Tryd.underlying2 ae
  obtain rfl : ab = .int .i64 d := by simpa using J
  obtain ⟨L, M, l, rfl, r, s, O⟩ := open_row af (opens_slice Tryd.underlying25 (by kernel_rfl) (opens_slice Tryd.underlying22 (by kernel_rfl) (opens_int Tryd.underlying2)))
  clear u g
  obtain ⟨k, hk⟩ := Pure.FnExactLoopFault a i b c d l y B E I K O
  refine (Zax.calls k a z A i b c d L M l true W o n s r hk rfl hTab).mono fun e W' ⟨he, P⟩ => ?_
  have bel : Below W.heap.size W W' := P
  subst he
  exact ⟨_, rfl, _, _, _, [], _, [], hW', trodAll_mk1 (shut_bool Tryd.underlying4 _), (trodAll_cons_mk (Below.trod laidOut (by kernel_rfl) (of_decide_eq_true (by kernel_rfl)) k0 bel T) (trodAll_cons_mk (Below.trod laidOut (by kernel_rfl) (of_decide_eq_true (by kernel_rfl)) k1 bel Z) trodAll_mk0)), rfl, bel.frame _, fun h => by cases h⟩
noncomputable def laidWorld (os : Os) : World :=
  { World.holding Tryd.prog os ⟨#[], #[], []⟩ with heap := (World.holding Tryd.prog os ⟨#[], #[], []⟩).heap.modify 0 fun
      | .cells _ t frozen => .cells #[.int .u8 0, .int .u8 1, .int .u8 56, .int .u8 2, .int .u8 57, .int .u8 49, .int .u8 28, .int .u8 3, .int .u8 61, .int .u8 58, .int .u8 42, .int .u8 50, .int .u8 38, .int .u8 29, .int .u8 17, .int .u8 4, .int .u8 62, .int .u8 47, .int .u8 59, .int .u8 36, .int .u8 45, .int .u8 43, .int .u8 51, .int .u8 22, .int .u8 53, .int .u8 39, .int .u8 33, .int .u8 30, .int .u8 24, .int .u8 18, .int .u8 12, .int .u8 5, .int .u8 63, .int .u8 55, .int .u8 48, .int .u8 27, .int .u8 60, .int .u8 41, .int .u8 37, .int .u8 16, .int .u8 46, .int .u8 35, .int .u8 44, .int .u8 21, .int .u8 52, .int .u8 32, .int .u8 23, .int .u8 11, .int .u8 54, .int .u8 26, .int .u8 40, .int .u8 15, .int .u8 34, .int .u8 20, .int .u8 31, .int .u8 10, .int .u8 25, .int .u8 14, .int .u8 19, .int .u8 9, .int .u8 13, .int .u8 8, .int .u8 7, .int .u8 6] t frozen
      | o => o }
theorem laid_met (os : Os) : laidMet Tryd.prog Rows.fnExactLoopFaultRow.laid ((laidWorld os).forCall (fun _ _ => 0) ⟨#[], #[.agg #[.int .i64 0, .slice none 0 0], .agg #[.int .i64 0, .int .i64 0, .int .i64 0, .slice none 0 0]], []⟩).memory :=
  laidMet_of_run' 8 (by kernel_rfl) (by kernel_rfl)
theorem reads (os : Os) {H : Type} (enc : TypeId × Value → H) : ∃ places, DataW.whole enc Tryd.prog ((laidWorld os).forCall (fun _ _ => 0) ⟨#[], #[.agg #[.int .i64 0, .slice none 0 0], .agg #[.int .i64 0, .int .i64 0, .int .i64 0, .slice none 0 0]], []⟩).memory Tryd.f4.params.toList Rows.fnExactLoopFaultSpec.vars false (#[.agg #[.int .i64 0, .slice none 0 0], .agg #[.int .i64 0, .int .i64 0, .int .i64 0, .slice none 0 0]] : Array Value).toList 8 = some ([.agg [.lit (.int .i64 0), .nil], .agg [.lit (.int .i64 0), .lit (.int .i64 0), .lit (.int .i64 0), .nil]], [], places) :=
  ⟨[], by kernel_rfl⟩
set_option maxRecDepth 100000 in
theorem lifted (os : Os) (started : os.Started) (H : Type) (enc : TypeId × Value → H) (F : Stop.Interp) :
    ReturnsInHanded {} Tryd.checked os 4 .any ((OpenSpec.ofChange Rows.fnExactLoopFaultSpec).preRow enc Tryd.prog Tryd.f4 Rows.fnExactLoopFaultRow.domain false Rows.fnExactLoopFaultRow.laid) (((OpenSpec.ofChange Rows.fnExactLoopFaultSpec).at F).post enc Tryd.prog Tryd.f4 false true false false) := by
  obtain ⟨places, hx⟩ := reads os enc
  refine returnsInHanded_of_row (C := Tryd.checked) (s := OpenSpec.ofChange Rows.fnExactLoopFaultSpec) own started (by kernel_rfl) Tryd.func4
    (witness_row_at (enc := enc) (C := Tryd.checked) false (laidWorld os) #[.agg #[.int .i64 0, .slice none 0 0], .agg #[.int .i64 0, .int .i64 0, .int .i64 0, .slice none 0 0]] rfl (by kernel_rfl) (by kernel_rfl) (by kernel_rfl)
      (OpenSpec.preRow_of_cond 8 hx (by kernel_rfl) (fun k hk => by cases hk) (by kernel_rfl) (laid_met os))) ?_
  intro W base args ds gs before hval hW _ _ _ hL _ _
  exact contract H enc W base args ds gs before hval hW hL
theorem said : Rows.FnExactLoopFaultSaid :=
  OpenClaim.holds_of_cond 4 Tryd.f4 rfl rfl rfl rfl rfl rfl rfl ⟨rfl, rfl, rfl, rfl, rfl⟩ rfl rfl rfl rfl rfl (by kernel_rfl) Tryd.func4 (by kernel_rfl)
    (of_decide_eq_true (by kernel_rfl)) (by unfold Func.isWrapper; first | (rw [if_pos (by decide +kernel)]; kernel_rfl) | (rw [if_neg (by decide +kernel)]; exact ⟨rfl, rfl⟩))
    (fun os started H enc _ F => by rw [OpenClaim.pre_eq_preRow]; exact lifted os started H enc F)
theorem plain (f : FuncId) (fn : Func) (hf : Tryd.pinned.checked.prog.funcNamed "loop.example/g01094/laws.FnExactLoopFault" = some f) (hfn : Tryd.pinned.checked.prog.funcs[f]? = some fn) :
    false = Tryd.pinned.checked.prog.looks [] ∧ ∀ (j : Nat) t, fn.params[j]? = some t → Tryd.pinned.checked.prog.wantsStandIn t = false := by
  obtain rfl : f = 4 := Option.some.inj ((show Tryd.prog.funcNamed "loop.example/g01094/laws.FnExactLoopFault" = some 4 by kernel_rfl).symm.trans hf) |>.symm
  obtain rfl : fn = Tryd.f4 := (Option.some.inj (Tryd.func4.symm.trans hfn)).symm
  refine ⟨by kernel_rfl, fun j t ht => ?_⟩
  rw [Tryd.params4] at ht
  have hm := Array.mem_of_getElem? ht
  simp only [List.mem_toArray, List.mem_cons, List.not_mem_nil, or_false] at hm
  rcases hm with rfl | rfl
  · exact (show Tryd.prog.wantsStandIn 24 = false by kernel_rfl)
  · exact (show Tryd.prog.wantsStandIn 27 = false by kernel_rfl)
theorem card : Rows.FnExactLoopFaultCardSaid :=
  Claim7.holds_tied_plain_at .later [] _ _ _ _ said (fun _ h => by cases h) (by kernel_rfl) (fun _ h => by cases h) fnExactLoopFault_row_tie rfl ⟨rfl, rfl⟩ (by kernel_rfl) rfl plain (by kernel_rfl)
#print axioms card
end Go.Proofs.YtlmicipfikammaaDoor.fnExactLoopFault
namespace Go.Proofs.YtlmicipfikammaaDoor
/-- The card, under a short name, for the claim. -/
theorem fnExactLoopFault_holds : Rows.FnExactLoopFaultCardSaid := fnExactLoopFault.card
end Go.Proofs.YtlmicipfikammaaDoor
end
