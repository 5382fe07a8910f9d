import Derived.ArgAppend
import Derived.Below
import Derived.BigQuiet
import Derived.Deep.AppendLies
import Derived.Deep.CutBlock
import Derived.Deep.DeepCutAuto
import Derived.Deep.Draws
import Derived.Deep.LoopGhost
import Derived.Deep.OwnRows
import Derived.Deep.QuietTactic
import Derived.Deep.RegionHeld3
import Derived.KernelRfl
import Derived.Laws.BitsLemmas
import Derived.Laws.BytesArg
import Derived.Laws.IdiomCopy
import Derived.Laws.MakeOwn
import Derived.Laws.OwnMore
import Derived.Laws.Rows
import Derived.Laws.Slices
import Derived.Laws.StructEq
import Derived.Lib.AppendStr
import Derived.Lib.ConvBytes
import Derived.Lib.SliceRun
import Derived.Maps.AppendAt
import Derived.OrdersHeld
import Derived.OwnWalk
import Derived.RowKit
import Derived.RowKit3
import Derived.Shelf.Abstract
import Derived.Shelf.SlicesG.CompactI
import Derived.Shelf.SortM.Plain
import Derived.Shelf.SortM.SortNone
import Derived.Shelf.Spec.TrailingZeros
import Derived.Sort.Grow
import Derived.Tactics
import Derived.Test.YtcbcfkmeemenkaaDoorProg
import Derived.WalkKit
import Derived.WideLaws
import Derived.Test.YtcbcfkmeemenkaaDoorCFnExactContentsOf2
import Derived.Test.YtcbcfkmeemenkaaDoorCFnExactContentsOf4
import Derived.Test.YtcbcfkmeemenkaaDoorCFnExactContentsOf5
import Derived.Test.YtcbcfkmeemenkaaDoorCFnExactContentsOf6
import Derived.Test.YtcbcfkmeemenkaaDoorCFnExactContentsOf7
import Derived.Test.YtcbcfkmeemenkaaDoorCFnExactContentsOf8
import Derived.Test.YtcbcfkmeemenkaaDoorCFnExactContentsOf9
section M0
namespace Go.Proofs.YtcbcfkmeemenkaaDoor.U
open Go.RowKit Go.Proofs.YtcbcfkmeemenkaaDoor.P Go.Proofs.YtcbcfkmeemenkaaDoorW.PrintWords Go.Proofs.YtcbcfkmeemenkaaDoorW.PrintLast Go.Proofs.YtcbcfkmeemenkaaDoorW.PrintMore
set_option linter.unusedVariables false
/-! Alphabets: both tests answer alike. -/
def inI (a lo hi : Int) : Bool := decide (lo ≤ a) && decide (a ≤ hi)
theorem inI_iff {a lo hi : Int} : inI a lo hi = true ↔ lo ≤ a ∧ a ≤ hi := by unfold inI; simp
theorem spInI (a lo hi : Int) : spec_l01In.f a lo hi = some (inI a lo hi) := by
  unfold spec_l01In.f inI
  by_cases h : lo ≤ a
  · rw [if_pos h, decide_eq_true h, Bool.true_and]
  · rw [if_neg h, decide_eq_false h, Bool.false_and]
theorem imInI (a lo hi : Int) : impl_inRange.f a lo hi = some (inI a lo hi) := by
  unfold impl_inRange.f inI
  by_cases h : lo ≤ a
  · rw [if_pos h, decide_eq_true h, Bool.true_and]
  · rw [if_neg h, decide_eq_false h, Bool.false_and]
theorem u64i {n : Nat} (h : n < 18446744073709551616) : IntKind.u64.wrap (n : Int) = (n : Int) := by
  show (n : Int) % 18446744073709551616 = n
  omega
theorem spOneI {i : Nat} (h : i < 63) : spec_l01One.f (i : Int) = some ((2 ^ i : Nat) : Int) := by
  unfold spec_l01One.f
  rw [u64i (by omega), if_pos (by omega), shl1 h]
theorem imOneI {i : Nat} (h : i < 63) : impl_one.f (i : Int) = some ((2 ^ i : Nat) : Int) := by
  unfold impl_one.f
  rw [if_pos (by omega), shl1 h]
theorem fullW {n : Nat} (h : n < 63) : wrap64 (((2 ^ n : Nat) : Int) - 1) = ((2 ^ n - 1 : Nat) : Int) := by
  have h1 := Nat.pow_lt_pow_right (a := 2) (by decide) h
  have h2 : 0 < 2 ^ n := Nat.pow_pos (by decide)
  generalize 2 ^ n = p at h1 h2
  have h3 : (2 : Nat) ^ 63 = 9223372036854775808 := by decide
  rw [h3] at h1
  rw [w64 (by omega) (by omega)]
  omega
theorem spFullI {n : Nat} (h : n < 63) : spec_l01Full.f (n : Int) = some ((2 ^ n - 1 : Nat) : Int) := by
  unfold spec_l01Full.f
  rw [spOneI h]
  simp only [Option.bind_some]
  rw [fullW h]
theorem spBitI {m s : Nat} (hm : m < 2 ^ 63) (hs : s ≤ 64) : spec_l01Bit.f (m : Int) (s : Int) = some (m.testBit s) := by
  unfold spec_l01Bit.f
  rw [u64i (by omega), if_pos (by omega), hasN hm hs]
theorem imHasI {m s : Nat} (hm : m < 2 ^ 63) (hs : s ≤ 64) : impl_has.f (m : Int) (s : Int) = some (m.testBit s) := by
  unfold impl_has.f
  rw [if_pos (by omega), hasN hm hs]
/-- Does row a of a relation have b? -/
def bt (d : List Int) (a b : Nat) : Bool := (d.getD a 0).toNat.testBit b
def okRow (d : List Int) (a : Nat) : Prop := bt d a a = true ∧ ∀ b, b < d.length → bt d a b = bt d b a
instance (d : List Int) (a : Nat) : Decidable (okRow d a) := by unfold okRow; exact inferInstance
def symB (d : List Int) : Bool := decide (∀ a, a < d.length → okRow d a)
/-- Is it an alphabet? -/
def alB (n : Int) (d : List Int) : Bool := inI n 0 8 && (decide ((d.length : Int) = n) && ((d.all fun t => inI t 0 ((2 ^ d.length - 1 : Nat) : Int)) && symB d))
theorem symB_no {d : List Int} {a : Nat} (ha : a < d.length) (h : ¬ okRow d a) : symB d = false := decide_eq_false fun hh => h (hh a ha)
theorem masks_ev (d : List Int) (hn : d.length ≤ 8) : Ev (fun k => spec_l01Masks.f k (d.length : Int) d) (d.all fun t => inI t 0 ((2 ^ d.length - 1 : Nat) : Int)) := by
  have key := Ev.up (fun k (_ : Unit) i => spec_l01Masks.l0 k (d.length : Int) d i) d.length (fun i _ => (d.drop i).all fun t => inI t 0 ((2 ^ d.length - 1 : Nat) : Int)) (fun _ _ => True)
    (fun _ _ => by
      refine Ev.round ?_
      simp only [spec_l01Masks.l0]
      refine Ev.no (by omega) ?_
      rw [List.drop_length]
      exact Ev.now _)
    (fun i _ hi _ ih => by
      refine Ev.round ?_
      simp only [spec_l01Masks.l0]
      refine Ev.yes (by omega) (Ev.yes (by omega) (Ev.here (spFullI (by omega)) (Ev.here (spInI _ _ _) ?_)))
      rw [rd_lt hi, w64s (by omega), List.drop_eq_getElem_cons hi, List.all_cons]
      cases inI d[i] 0 ((2 ^ d.length - 1 : Nat) : Int)
      · exact Ev.no (by simp) (Ev.now _)
      · exact Ev.yes rfl (ih () trivial))
  have := key 0 () (by omega) trivial
  unfold spec_l01Masks.f
  simpa using this
/-- The rows are sets of letters. -/
def Sets (d : List Int) : Prop := d.length ≤ 8 ∧ ∀ a, a < d.length → 0 ≤ d.getD a 0 ∧ (d.getD a 0).toNat < 2 ^ d.length
theorem Sets.small {d : List Int} (h : Sets d) {a : Nat} (ha : a < d.length) : (d.getD a 0).toNat < 256 :=
  Nat.lt_of_lt_of_le (h.2 a ha).2 (show 2 ^ d.length ≤ 2 ^ 8 from Nat.pow_le_pow_right (by decide) h.1)
theorem Sets.rdE {d : List Int} (h : Sets d) {a : Nat} (ha : a < d.length) : rd d (a : Int) = ((d.getD a 0).toNat : Int) := by
  rw [rdn]; exact (Int.toNat_of_nonneg (h.2 a ha).1).symm
theorem sets_of {d : List Int} (hn : d.length ≤ 8) (h : (d.all fun t => inI t 0 ((2 ^ d.length - 1 : Nat) : Int)) = true) : Sets d := by
  refine ⟨hn, fun a ha => ?_⟩
  have := List.all_eq_true.1 h _ (List.getElem_mem ha)
  rw [inI_iff] at this
  rw [List.getD_eq_getElem?_getD, List.getElem?_eq_getElem ha]
  simp only [Option.getD_some]
  have h2 : 0 < 2 ^ d.length := Nat.pow_pos (by decide)
  generalize 2 ^ d.length = p at this h2
  omega
theorem spBitR {d : List Int} (h : Sets d) {a b : Nat} (ha : a < d.length) (hb : b ≤ 64) : spec_l01Bit.f (rd d (a : Int)) (b : Int) = some (bt d a b) := by
  rw [h.rdE ha, spBitI (Nat.lt_of_lt_of_le (h.small ha) (by decide)) hb]
  rfl
theorem l02Loop (d : List Int) (h : Sets d) : Ev (fun k => spec_l02Is.l0 k 0 (d.length : Int) d) (symB d) := by
  have hn := h.1
  have key := Ev.up (fun k (_ : Unit) i => spec_l02Is.l0 k i (d.length : Int) d) d.length (fun _ _ => symB d) (fun i _ => ∀ a, a < i → okRow d a)
    (fun _ hI => by
      refine Ev.round ?_
      simp only [spec_l02Is.l0]
      refine Ev.no (by omega) ?_
      rw [show symB d = true from decide_eq_true hI]
      exact Ev.now _)
    (fun i _ hi hI ih => by
      refine Ev.round ?_
      simp only [spec_l02Is.l0]
      refine Ev.yes (by omega) (Ev.yes (by omega) (Ev.yes (by omega) (Ev.here (spBitR h hi (by omega)) ?_)))
      cases hb : bt d i i
      · refine Ev.no (by simp) ?_
        rw [symB_no hi (fun hh => by rw [hh.1] at hb; cases hb)]
        exact Ev.now _
      refine Ev.yes rfl ?_
      have inner := Ev.up (fun k (_ : Unit) j => spec_l02Is.l1 k (i : Int) j (d.length : Int) d) d.length (fun _ _ => symB d) (fun j _ => ∀ b, b < j → bt d i b = bt d b i)
        (fun _ hJ => by
          refine Ev.round ?_
          simp only [spec_l02Is.l1]
          refine Ev.no (by omega) ?_
          rw [w64s (by omega)]
          refine ih () fun a ha => ?_
          by_cases e : a = i
          · subst e; exact ⟨hb, hJ⟩
          · exact hI a (by omega))
        (fun j _ hj hJ ihj => by
          refine Ev.round ?_
          simp only [spec_l02Is.l1]
          refine Ev.yes (by omega) (Ev.yes (by omega) (Ev.yes (by omega) (Ev.here (spBitR h hi (by omega)) (Ev.yes (by omega) (Ev.yes (by omega) (Ev.here (spBitR h hj (by omega)) ?_))))))
          rw [w64s (by omega)]
          by_cases e : bt d i j = bt d j i
          · refine Ev.no (by simp [e]) (ihj () fun b hb' => ?_)
            by_cases e' : b = j
            · subst e'; exact e
            · exact hJ b (by omega)
          · refine Ev.yes (by simp [e]) ?_
            rw [symB_no hi (fun hh => e (hh.2 j hj))]
            exact Ev.now _)
      have := inner 0 () (by omega) (fun b hb => absurd hb (by omega))
      simpa using this)
  have := key 0 () (by omega) (fun b hb => absurd hb (by omega))
  simpa using this
theorem l02Is_ev (n : Int) (d : List Int) : Ev (fun k => spec_l02Is.f k n d) (alB n d) := by
  unfold spec_l02Is.f alB
  have hno : Ev (fun k => spec_l02Is.j0 k true n d) false := Ev.round (by simp only [spec_l02Is.j0]; exact Ev.yes (by trivial) (Ev.now _))
  refine Ev.here (spInI _ _ _) ?_
  cases h1 : inI n 0 8
  · exact Ev.no (by simp) hno
  rw [inI_iff] at h1
  refine Ev.yes rfl ?_
  by_cases h2 : (d.length : Int) = n
  · subst h2
    refine Ev.yes rfl (Ev.bind (masks_ev d (by omega)) (Ev.round ?_))
    simp only [spec_l02Is.j0]
    rw [decide_true]
    cases h3 : d.all fun t => inI t 0 ((2 ^ d.length - 1 : Nat) : Int)
    · exact Ev.yes rfl (Ev.now _)
    · exact Ev.no (by simp) (l02Loop d (sets_of (by omega) h3))
  · refine Ev.no h2 ?_
    rw [decide_eq_false h2]
    exact hno
/-- The members of a small set. -/
def memN (m : Nat) : List Nat := (List.range 8).filter (m.testBit ·)
theorem mem_step : ∀ m : Fin 256, m.val ≠ 0 → (impl_least.f (m.val : Int) = some ((Lib.ctz 64 m.val : Nat) : Int) ∧ Go.bits .and .i64 (m.val : Int) (wrap64 ((m.val : Int) - 1)) = ((m.val &&& (m.val - 1) : Nat) : Int)
    ∧ m.val &&& (m.val - 1) < m.val ∧ memN m.val = Lib.ctz 64 m.val :: memN (m.val &&& (m.val - 1))) := by decide +kernel
theorem members_loop (m : Nat) (hm : m < 256) : ∀ acc : List Int, acc.length + m < 17592186044416 → Ev (fun k => impl_members.l0 k (m : Int) acc) (acc ++ (memN m).map Int.ofNat) := by
  induction m using Nat.strongRecOn with
  | _ m ih =>
    intro acc ha
    refine Ev.round ?_
    simp only [impl_members.l0]
    by_cases h0 : m = 0
    · subst h0
      refine Ev.yes rfl ?_
      rw [show memN 0 = [] from by decide, List.map_nil, List.append_nil]
      exact Ev.now _
    · obtain ⟨h1, h2, h3, h4⟩ := mem_step ⟨m, hm⟩ h0
      simp only at h1 h2 h3 h4
      refine Ev.no (by omega) (Ev.here h1 (Ev.yes (by omega) ?_))
      rw [h2, h4, List.map_cons]
      have := ih _ h3 (by omega) (acc ++ [((Lib.ctz 64 m : Nat) : Int)]) (by rw [List.length_append, List.length_singleton]; omega)
      rw [List.append_assoc] at this
      exact this
theorem members_ev {m : Nat} (hm : m < 256) : Ev (fun k => impl_members.f k (m : Int)) ((memN m).map Int.ofNat) := by
  unfold impl_members.f
  have := members_loop m hm [] (by have : ([] : List Int).length = 0 := rfl; omega)
  simpa using this
theorem mem_memN {m k : Nat} (hm : m < 256) : k ∈ memN m ↔ m.testBit k = true := by
  unfold memN
  rw [List.mem_filter, List.mem_range]
  refine ⟨fun h => h.2, fun h => ⟨?_, h⟩⟩
  rcases Nat.lt_or_ge k 8 with h8 | h8
  · exact h8
  · rw [Nat.testBit_lt_two_pow (Nat.lt_of_lt_of_le hm (show 2 ^ 8 ≤ 2 ^ k from Nat.pow_le_pow_right (by decide) h8))] at h
    cases h
/-- The converse's row k from the first i rows. -/
def cvN (d : List Int) (i k : Nat) : Nat := orN (fun j => bt d j k) i 0
theorem cvN_lt (d : List Int) {i k : Nat} (hi : i ≤ 8) : cvN d i k < 256 := orN_lt _ i 0 8 hi (by decide)
def cvTo (d : List Int) (i : Nat) : List Int := (List.range d.length).map fun k => ((cvN d i k : Nat) : Int)
theorem converse_ev (d : List Int) (h : Sets d) : Ev (fun k => impl_converse.f k d) (cvTo d d.length) := by
  have hn := h.1
  have key := Ev.up (fun k (s : List Int) i => impl_converse.l0 k s d (d.length : Int) i) d.length (fun _ _ => cvTo d d.length) (fun i s => s = cvTo d i)
    (fun s hs => by
      refine Ev.round ?_
      simp only [impl_converse.l0]
      refine Ev.no (by omega) ?_
      rw [hs]
      exact Ev.now _)
    (fun i s hi hs ih => by
      refine Ev.round ?_
      simp only [impl_converse.l0]
      refine Ev.yes (by omega) (Ev.yes (by omega) (Ev.yes (by omega) ?_))
      rw [h.rdE hi]
      have hm := h.small hi
      refine Ev.bind (members_ev hm) ?_
      generalize hM : (d.getD i 0).toNat = m at hm
      have hbt : ∀ k, bt d i k = m.testBit k := fun k => by unfold bt; rw [hM]
      have hlt : ∀ k, k ∈ memN m → k < d.length := fun k hk => by
        rw [mem_memN hm] at hk
        rcases Nat.lt_or_ge k d.length with h8 | h8
        · exact h8
        · have := (h.2 i hi).2
          rw [hM] at this
          rw [Nat.testBit_lt_two_pow (Nat.lt_of_lt_of_le this (Nat.pow_le_pow_right (by decide) h8))] at hk
          cases hk
      have hlen : (memN m).length ≤ 8 := by unfold memN; exact Nat.le_trans (List.length_filter_le _ _) (by simp)
      have hgl : ((memN m).map Int.ofNat).length = (memN m).length := List.length_map _
      have inner := Ev.up (fun k (s : List Int) j => impl_converse.l1 k s (i : Int) d (d.length : Int) (i : Int) ((memN m).map Int.ofNat) (((memN m).map Int.ofNat).length : Int) j) (memN m).length (fun _ _ => cvTo d d.length)
        (fun j s => s = (List.range d.length).map fun k => ((cvN d i k ||| (if k ∈ (memN m).take j then 2 ^ i else 0) : Nat) : Int))
        (fun s hs => by
          refine Ev.round ?_
          simp only [impl_converse.l1]
          refine Ev.no (by omega) ?_
          rw [w64s (by omega)]
          refine ih _ ?_
          rw [hs, List.take_length]
          unfold cvTo
          refine List.map_congr_left fun k _ => ?_
          congr 1
          unfold cvN
          by_cases hk : k ∈ memN m
          · rw [if_pos hk, orN_yes (by show bt d i k = true; rw [hbt]; exact (mem_memN hm).1 hk)]
          · rw [if_neg hk, orN_no (by
              show bt d i k = false
              rw [hbt]
              cases hq : m.testBit k
              · rfl
              · exact absurd ((mem_memN hm).2 hq) hk), Nat.or_zero])
        (fun j s hj hs ihj => by
          refine Ev.round ?_
          simp only [impl_converse.l1]
          have hg : rd ((memN m).map Int.ofNat) (j : Int) = (((memN m)[j] : Nat) : Int) := by
            rw [rd_lt (by omega), List.getElem_map]; rfl
          rw [hg]
          have htl := hlt _ (List.getElem_mem hj)
          have htk : ∀ k, k ∈ (memN m).take (j + 1) ↔ k ∈ (memN m).take j ∨ k = (memN m)[j] := fun k => by
            rw [List.take_add_one, List.getElem?_eq_getElem hj, List.mem_append]
            simp
          generalize (memN m)[j] = t at htl htk
          have hsl : s.length = d.length := by rw [hs]; simp
          refine Ev.yes (by omega) (Ev.yes (by omega) (Ev.yes (by omega) (Ev.yes (by omega) (Ev.yes (by omega) (Ev.here (imOneI (by omega)) ?_)))))
          rw [w64s (by omega)]
          refine ihj _ ?_
          rw [Int.toNat_natCast, rd_lt (by omega : t < s.length)]
          have hx : (if t ∈ (memN m).take j then 2 ^ i else 0) < 2 ^ 8 := by
            split
            · exact Nat.pow_lt_pow_right (by decide) (by omega)
            · decide
          have hst : s[t]'(by omega) = ((cvN d i t ||| (if t ∈ (memN m).take j then 2 ^ i else 0) : Nat) : Int) := by simp only [hs, List.getElem_map, List.getElem_range]
          rw [hst, bor (Nat.lt_of_lt_of_le (Nat.or_lt_two_pow (cvN_lt d (by omega)) hx) (by decide)) (Nat.pow_lt_pow_right (by decide) (by omega)), hs]
          apply List.ext_getElem?
          intro k
          by_cases hk : k < d.length
          · by_cases e : k = t
            · subst e
              rw [List.getElem?_set_self (by simpa using hk)]
              simp only [List.getElem?_map, List.getElem?_range hk, Option.map_some]
              rw [if_pos ((htk k).2 (Or.inr rfl)), Nat.or_assoc]
              congr 3
              split
              · exact Nat.or_self _
              · exact Nat.zero_or _
            · rw [List.getElem?_set_ne (by omega)]
              simp only [List.getElem?_map, List.getElem?_range hk, Option.map_some]
              congr 4
              exact propext ((htk k).trans (or_iff_left e)).symm
          · rw [List.getElem?_eq_none (by simp; omega), List.getElem?_eq_none (by simp; omega)])
      have := inner 0 s (by omega) (by rw [hs]; unfold cvTo; refine List.map_congr_left fun k _ => ?_; simp)
      simpa using this)
  unfold impl_converse.f
  refine Ev.yes (by omega) (Ev.yes (by omega) ?_)
  have := key 0 (List.replicate d.length 0) (by omega) (by
    apply List.ext_getElem?
    intro k
    unfold cvTo
    by_cases hk : k < d.length
    · simp [hk, cvN, orN]
    · rw [List.getElem?_eq_none (by simp; omega), List.getElem?_eq_none (by simp; omega)])
  simpa using this
theorem cv_bit (d : List Int) (k j : Nat) : (cvN d d.length k).testBit j = (decide (j < d.length) && bt d j k) := by
  unfold cvN
  rw [testBit_orN]
  simp
theorem cv_row {d : List Int} (h : Sets d) {k : Nat} (hk : k < d.length) : (cvN d d.length k = (d.getD k 0).toNat ∧ (cvN d d.length k).testBit k = true) ↔ okRow d k := by
  have hb : ∀ b, ¬ b < d.length → bt d k b = false := fun b hb => by
    unfold bt
    exact Nat.testBit_lt_two_pow (Nat.lt_of_lt_of_le (h.2 k hk).2 (Nat.pow_le_pow_right (by decide) (by omega)))
  constructor
  · rintro ⟨h1, h2⟩
    have h3 : ∀ b, b < d.length → bt d b k = bt d k b := fun b hb => by
      have := cv_bit d k b
      rw [h1, decide_eq_true hb, Bool.true_and] at this
      exact this.symm
    refine ⟨?_, fun b hb => (h3 b hb).symm⟩
    rw [h1] at h2
    exact h2
  · rintro ⟨h1, h2⟩
    have e : cvN d d.length k = (d.getD k 0).toNat := by
      apply Nat.eq_of_testBit_eq
      intro j
      rw [cv_bit]
      by_cases hj : j < d.length
      · rw [decide_eq_true hj, Bool.true_and]
        exact (h2 j hj).symm
      · rw [decide_eq_false hj, Bool.false_and]
        exact (hb j hj).symm
    exact ⟨e, by rw [e]; exact h1⟩
theorem isAl_loop (d : List Int) (h : Sets d) : Ev (fun k => impl_IsAlphabet.l0 k (cvTo d d.length) (d.length : Int) 0 (d.length : Int) d) (symB d) := by
  have hn := h.1
  have hcl : (cvTo d d.length).length = d.length := by simp [cvTo]
  have key := Ev.up (fun k (_ : Unit) i => impl_IsAlphabet.l0 k (cvTo d d.length) (d.length : Int) i (d.length : Int) d) d.length (fun _ _ => symB d) (fun i _ => ∀ a, a < i → okRow d a)
    (fun _ hI => by
      refine Ev.round ?_
      simp only [impl_IsAlphabet.l0]
      refine Ev.no (by omega) ?_
      rw [show symB d = true from decide_eq_true hI]
      exact Ev.now _)
    (fun i _ hi hI ih => by
      refine Ev.round ?_
      simp only [impl_IsAlphabet.l0]
      have hg : rd (cvTo d d.length) (i : Int) = ((cvN d d.length i : Nat) : Int) := by
        rw [rd_lt (by omega)]; unfold cvTo; rw [List.getElem_map, List.getElem_range]
      have hl := cvN_lt d (k := i) hn
      refine Ev.yes (by omega) (Ev.yes (by omega) (Ev.yes (by omega) (Ev.yes (by omega) ?_)))
      rw [hg, h.rdE hi, w64s (by omega)]
      have hc := cv_row h hi
      by_cases e : cvN d d.length i = (d.getD i 0).toNat
      · refine Ev.yes (by rw [e]) (Ev.here (imHasI (by omega) (by omega)) ?_)
        cases hb : (cvN d d.length i).testBit i
        · refine Ev.no (by simp) ?_
          rw [symB_no hi (fun hh => by have := (hc.2 hh).2; rw [hb] at this; cases this)]
          exact Ev.now _
        · refine Ev.yes rfl (ih () fun a ha => ?_)
          by_cases e' : a = i
          · subst e'; exact hc.1 ⟨e, hb⟩
          · exact hI a (by omega)
      · refine Ev.no (by omega) ?_
        rw [symB_no hi (fun hh => e (hc.2 hh).1)]
        exact Ev.now _)
  have := key 0 () (by omega) (fun b hb => absurd hb (by omega))
  simpa using this
theorem isAl_ev (n : Int) (d : List Int) : Ev (fun k => impl_IsAlphabet.f k n d) (alB n d) := by
  unfold impl_IsAlphabet.f alB
  have hno : Ev (fun k => impl_IsAlphabet.j0 k true n d) false := Ev.round (by simp only [impl_IsAlphabet.j0]; exact Ev.yes (by trivial) (Ev.now _))
  refine Ev.here (imInI _ _ _) ?_
  cases h1 : inI n 0 8
  · exact Ev.no (by simp) hno
  rw [inI_iff] at h1
  refine Ev.yes rfl (Ev.here (show impl_length_int64.f d = some (d.length : Int) from rfl) ?_)
  by_cases h2 : (d.length : Int) = n
  · subst h2
    refine Ev.yes rfl ?_
    have hr : impl_IsRelation.f d = some (d.all fun t => inI t 0 ((2 ^ d.length - 1 : Nat) : Int)) := by
      unfold impl_IsRelation.f
      rw [if_pos (by omega)]
      refine (congrArg (fun o => Option.bind o _) (show impl_length_int64.f d = some (d.length : Int) from rfl)).trans ?_
      simp only [Option.bind_some]
      rw [imOneI (by omega)]
      simp only [Option.bind_some]
      rw [fullW (by omega)]
      rfl
    refine Ev.here hr (Ev.round ?_)
    simp only [impl_IsAlphabet.j0]
    rw [decide_true]
    cases h3 : d.all fun t => inI t 0 ((2 ^ d.length - 1 : Nat) : Int)
    · exact Ev.yes rfl (Ev.now _)
    · refine Ev.no (by simp) (Ev.bind (converse_ev d (sets_of (by omega) h3)) ?_)
      have hcl : (cvTo d d.length).length = d.length := by simp [cvTo]
      rw [hcl]
      simpa using isAl_loop d (sets_of (by omega) h3)
  · refine Ev.no h2 ?_
    rw [decide_eq_false h2]
    exact hno
end Go.Proofs.YtcbcfkmeemenkaaDoor.U
end M0
section M1
namespace Go.Proofs.YtcbcfkmeemenkaaDoor.U
open Go.RowKit Go.Proofs.YtcbcfkmeemenkaaDoor.P Go.Proofs.YtcbcfkmeemenkaaDoorW.PrintWords Go.Proofs.YtcbcfkmeemenkaaDoorW.PrintLast Go.Proofs.YtcbcfkmeemenkaaDoorW.PrintMore
set_option linter.unusedVariables false
/-! Expressions: both tests answer alike. -/
abbrev TmT := S50
abbrev TmL := S52
def tD (e : List TmT) (i : Nat) : TmT := e.getD i z50
theorem rdTm (e : List TmT) (i : Nat) : rd_T50 e (i : Int) = tD e i := rfl
/-- Is this a term over n letters? -/
def tOk (n : Int) (t : TmT) : Bool := inI t.f0 0 5 && (if t.f0 = 2 then inI t.f1 0 (wrap64 (n - 1)) else decide (t.f1 = 0))
theorem inI00 (a : Int) : inI a 0 0 = decide (a = 0) := by
  unfold inI
  rw [← Bool.decide_and, decide_eq_decide]
  omega
theorem endNeg (e : List TmT) (a : Int) (h : a < 0) : Ev (fun k => spec_l13End.f k e a) (-1) := by
  refine Ev.round ?_
  simp only [spec_l13End.f]
  refine Ev.yes h (Ev.round ?_)
  simp only [spec_l13End.j0]
  exact Ev.yes (by trivial) (Ev.now _)
theorem ends (n : Int) (d : List Int) (e : List TmT) (he : e.length ≤ 1048576) : ∀ (m i : Nat), e.length + 1 ≤ i + m → i ≤ e.length →
    ∃ r s : Int, Ev (fun k => spec_l13End.f k e (i : Int)) r ∧ Ev (fun k => impl_termEnd.f k n d e (i : Int)) s ∧ (r = -1 ∨ ((i : Int) < r ∧ r ≤ e.length)) ∧
      (s = -1 ∨ (s = r ∧ ∀ j : Nat, i ≤ j → (j : Int) < r → tOk n (tD e j) = true)) ∧ (r ≠ -1 → (∀ j : Nat, i ≤ j → (j : Int) < r → tOk n (tD e j) = true) → s = r) := by
  intro m
  induction m with
  | zero => intro i h1 h2; omega
  | succ m ih =>
    intro i h1 h2
    by_cases hi : i < e.length
    · -- what the reference says
      have hK : ∀ r, Ev (fun k => spec_l13End.j1 k e (i : Int) (tD e i).f0 (decide ((tD e i).f0 = 3 ∨ (tD e i).f0 = 4))) r → Ev (fun k => spec_l13End.f k e (i : Int)) r := fun r hr => by
        refine Ev.round ?_
        simp only [spec_l13End.f]
        refine Ev.no (by omega) (Ev.round ?_)
        simp only [spec_l13End.j0]
        refine Ev.no (by simp; omega) (Ev.yes (by omega) (Ev.yes (by omega) ?_))
        rw [rdTm]
        by_cases h3 : (tD e i).f0 = 3
        · refine Ev.yes h3 ?_
          rw [show ((tD e i).f0 == 3) = decide ((tD e i).f0 = 3 ∨ (tD e i).f0 = 4) from by rw [decide_eq_true (Or.inl h3), h3]; rfl]
          exact hr
        · refine Ev.no h3 ?_
          rw [show ((tD e i).f0 == 4) = decide ((tD e i).f0 = 3 ∨ (tD e i).f0 = 4) from by
            by_cases h4 : (tD e i).f0 = 4
            · rw [decide_eq_true (Or.inr h4), h4]; rfl
            · rw [decide_eq_false (by omega)]; simpa using h4]
          exact hr
      -- the program's test of the term itself
      have hS : ∀ s, (tOk n (tD e i) = true → Ev (fun k => impl_termEnd.j1 k e (i : Int) false n d) s) → (tOk n (tD e i) = false → s = -1) → Ev (fun k => impl_termEnd.f k n d e (i : Int)) s := fun s hs hn => by
        refine Ev.round ?_
        simp only [impl_termEnd.f]
        refine Ev.no (by omega) (Ev.yes (by omega) (Ev.yes (by omega) (Ev.here (imInI _ _ _) (Ev.round ?_))))
        simp only [impl_termEnd.j0]
        rw [rdTm]
        unfold tOk at hs hn
        cases h5 : inI (tD e i).f0 0 5
        · rw [h5, Bool.false_and] at hn
          rw [hn rfl]
          exact Ev.yes rfl (Ev.now _)
        rw [h5, Bool.true_and] at hs hn
        refine Ev.no (by simp) (Ev.yes (by omega) (Ev.yes (by omega) ?_))
        have hyes : Ev (fun k => impl_termEnd.j1 k e (i : Int) true n d) (-1) := by
          refine Ev.round ?_
          simp only [impl_termEnd.j1]
          exact Ev.yes (by trivial) (Ev.now _)
        by_cases h2 : (tD e i).f0 = 2
        · rw [if_pos h2] at hs hn
          refine Ev.yes h2 (Ev.here (show impl_isLetter.f n d (tD e i).f1 = some (inI (tD e i).f1 0 (wrap64 (n - 1))) from by unfold impl_isLetter.f; rw [imInI]; rfl) ?_)
          cases h6 : inI (tD e i).f1 0 (wrap64 (n - 1))
          · rw [hn h6]
            exact Ev.no (by simp) hyes
          · exact Ev.yes rfl (hs h6)
        · rw [if_neg h2] at hs hn
          refine Ev.no h2 ?_
          by_cases h7 : (tD e i).f1 = 0
          · rw [show ((tD e i).f1 != 0) = false from by rw [h7]; rfl]
            exact hs (decide_eq_true h7)
          · rw [show ((tD e i).f1 != 0) = true from by simpa using h7, hn (decide_eq_false h7)]
            exact hyes
      have hone : ∀ (t : Int) (s : Int), impl_partsIn.f (tD e i).f0 = some t → Ev (fun k => impl_termEnd.l0 k e ((i + 1 : Nat) : Int) t 0 n d) s → Ev (fun k => impl_termEnd.j1 k e (i : Int) false n d) s := fun t s ht hs => by
        refine Ev.round ?_
        simp only [impl_termEnd.j1]
        refine Ev.no (by simp) (Ev.yes (by omega) (Ev.yes (by omega) ?_))
        rw [rdTm, w64s (by omega)]
        exact Ev.here ht hs
      -- a part: from an end to the next end, or to -1
      have part : ∀ (t q : Nat) (at_ : Nat), q < t → t ≤ 2 → i < at_ → at_ ≤ e.length → ∀ s', (∃ r s : Int, Ev (fun k => spec_l13End.f k e (at_ : Int)) r ∧ Ev (fun k => impl_termEnd.f k n d e (at_ : Int)) s ∧
          ((s < 0 ∧ s' = -1) ∨ (0 ≤ s ∧ Ev (fun k => impl_termEnd.l0 k e s t ((q + 1 : Nat) : Int) n d) s'))) → Ev (fun k => impl_termEnd.l0 k e (at_ : Int) t (q : Int) n d) s' := fun t q at_ hq ht _ _ s' ⟨r, s, _, hs, h⟩ => by
        refine Ev.round ?_
        simp only [impl_termEnd.l0]
        refine Ev.yes (by omega) (Ev.bind hs ?_)
        rw [w64s (by omega)]
        rcases h with ⟨h, rfl⟩ | ⟨h, h'⟩
        · exact Ev.yes h (Ev.now _)
        · exact Ev.no (by omega) h'
      have fin : ∀ (t : Nat) (a : Int), Ev (fun k => impl_termEnd.l0 k e a (t : Int) (t : Int) n d) a := fun t a => by
        refine Ev.round ?_
        simp only [impl_termEnd.l0]
        exact Ev.no (by omega) (Ev.now _)
      obtain ⟨r1, s1, R1, S1, b1, c1, d1⟩ := ih (i + 1) (by omega) (by omega)
      by_cases h34 : (tD e i).f0 = 3 ∨ (tD e i).f0 = 4
      · have hp : impl_partsIn.f (tD e i).f0 = some ((2 : Nat) : Int) := by
          unfold impl_partsIn.f
          rw [if_neg (by omega)]
          rcases h34 with h | h
          · rw [if_pos h]; rfl
          · rw [if_neg (by omega), if_pos h]; rfl
        rcases b1 with b1 | b1
        · -- the first part is missing
          have R : Ev (fun k => spec_l13End.f k e (i : Int)) (-1) := by
            refine hK _ ?_
            rw [decide_eq_true h34]
            refine Ev.round ?_
            simp only [spec_l13End.j1]
            rw [w64s (by omega)]
            refine Ev.yes (by trivial) (Ev.bind R1 (Ev.bind (endNeg e r1 (by omega)) (Ev.now _)))
          have hs1 : s1 = -1 := by rcases c1 with h | h <;> omega
          refine ⟨-1, -1, R, hS _ (fun _ => hone _ _ hp (part 2 0 (i + 1) (by omega) (by omega) (by omega) (by omega) _ ⟨r1, s1, R1, S1, Or.inl ⟨by omega, rfl⟩⟩)) (fun _ => rfl), Or.inl rfl, Or.inl rfl, fun h => absurd rfl h⟩
        · obtain ⟨a, ha⟩ := Int.eq_ofNat_of_zero_le (by omega : 0 ≤ r1)
          subst ha
          obtain ⟨r2, s2, R2, S2, b2, c2, d2⟩ := ih a (by omega) (by omega)
          have R : Ev (fun k => spec_l13End.f k e (i : Int)) r2 := by
            refine hK _ ?_
            rw [decide_eq_true h34]
            refine Ev.round ?_
            simp only [spec_l13End.j1]
            rw [w64s (by omega)]
            exact Ev.yes (by trivial) (Ev.bind R1 (Ev.bind R2 (Ev.now _)))
          by_cases hok : tOk n (tD e i) = true
          · by_cases hs1 : s1 = -1
            · refine ⟨r2, -1, R, hS _ (fun _ => hone _ _ hp (part 2 0 (i + 1) (by omega) (by omega) (by omega) (by omega) _ ⟨_, s1, R1, S1, Or.inl ⟨by omega, rfl⟩⟩)) (fun _ => rfl), by rcases b2 with h | h; exact Or.inl h; exact Or.inr ⟨by omega, h.2⟩, Or.inl rfl, fun h hall => ?_⟩
              have : (a : Int) < r2 := by rcases b2 with h' | h' <;> omega
              have := d1 (by omega) (fun j hj hj' => hall j (by omega) (by omega))
              omega
            · have hs1' : s1 = (a : Int) := by rcases c1 with h | h; exact absurd h hs1; exact h.1
              have ok1 : ∀ j : Nat, i + 1 ≤ j → (j : Int) < (a : Int) → tOk n (tD e j) = true := by rcases c1 with h | h; exact absurd h hs1; exact h.2
              rw [hs1'] at S1
              have S : Ev (fun k => impl_termEnd.f k n d e (i : Int)) (if s2 < 0 then -1 else s2) := by
                refine hS _ (fun _ => hone _ _ hp (part 2 0 (i + 1) (by omega) (by omega) (by omega) (by omega) _ ⟨_, _, R1, S1, Or.inr ⟨by omega, part 2 1 a (by omega) (by omega) (by omega) (by omega) _ ⟨_, s2, R2, S2, ?_⟩⟩⟩)) (fun h => by rw [hok] at h; cases h)
                by_cases h : s2 < 0
                · exact Or.inl ⟨h, if_pos h⟩
                · rw [if_neg h]
                  exact Or.inr ⟨by omega, fin 2 s2⟩
              refine ⟨r2, _, R, S, by rcases b2 with h | h; exact Or.inl h; exact Or.inr ⟨by omega, h.2⟩, ?_, fun h hall => ?_⟩
              · rcases c2 with h | h
                · left; rw [if_pos (by omega)]
                · by_cases hn : s2 < 0
                  · left; rw [if_pos hn]
                  · right
                    rw [if_neg hn]
                    refine ⟨h.1, fun j hj hj' => ?_⟩
                    by_cases e1 : j = i
                    · subst e1; exact hok
                    · by_cases e2 : j < a
                      · exact ok1 j (by omega) (by omega)
                      · exact h.2 j (by omega) hj'
              · have h0 : (a : Int) < r2 := by rcases b2 with h' | h' <;> omega
                have := d2 h (fun j hj hj' => hall j (by omega) hj')
                rw [if_neg (by omega), this]
          · refine ⟨r2, -1, R, hS _ (fun h => absurd h hok) (fun _ => rfl), by rcases b2 with h | h; exact Or.inl h; exact Or.inr ⟨by omega, h.2⟩, Or.inl rfl, fun h hall => ?_⟩
            exact absurd (hall i (by omega) (by rcases b2 with h' | h' <;> omega)) hok
      · by_cases h5 : (tD e i).f0 = 5
        · have hp : impl_partsIn.f (tD e i).f0 = some ((1 : Nat) : Int) := by
            unfold impl_partsIn.f
            rw [if_pos h5]; rfl
          have R : Ev (fun k => spec_l13End.f k e (i : Int)) r1 := by
            refine hK _ ?_
            rw [decide_eq_false h34]
            refine Ev.round ?_
            simp only [spec_l13End.j1]
            rw [w64s (by omega)]
            exact Ev.no (by simp) (Ev.yes h5 (Ev.bind R1 (Ev.now _)))
          by_cases hok : tOk n (tD e i) = true
          · have S : Ev (fun k => impl_termEnd.f k n d e (i : Int)) (if s1 < 0 then -1 else s1) := by
              refine hS _ (fun _ => hone _ _ hp (part 1 0 (i + 1) (by omega) (by omega) (by omega) (by omega) _ ⟨_, s1, R1, S1, ?_⟩)) (fun h => by rw [hok] at h; cases h)
              by_cases h : s1 < 0
              · exact Or.inl ⟨h, if_pos h⟩
              · rw [if_neg h]
                exact Or.inr ⟨by omega, fin 1 s1⟩
            refine ⟨r1, _, R, S, by rcases b1 with h | h; exact Or.inl h; exact Or.inr ⟨by omega, h.2⟩, ?_, fun h hall => ?_⟩
            · rcases c1 with h | h
              · left; rw [if_pos (by omega)]
              · by_cases hn : s1 < 0
                · left; rw [if_pos hn]
                · right
                  rw [if_neg hn]
                  refine ⟨h.1, fun j hj hj' => ?_⟩
                  by_cases e1 : j = i
                  · subst e1; exact hok
                  · exact h.2 j (by omega) hj'
            · have h0 : (i : Int) < r1 := by rcases b1 with h' | h' <;> omega
              have := d1 h (fun j hj hj' => hall j (by omega) hj')
              rw [if_neg (by omega), this]
          · refine ⟨r1, -1, R, hS _ (fun h => absurd h hok) (fun _ => rfl), by rcases b1 with h | h; exact Or.inl h; exact Or.inr ⟨by omega, h.2⟩, Or.inl rfl, fun h hall => ?_⟩
            exact absurd (hall i (by omega) (by rcases b1 with h' | h' <;> omega)) hok
        · have hp : impl_partsIn.f (tD e i).f0 = some ((0 : Nat) : Int) := by
            unfold impl_partsIn.f
            rw [if_neg h5, if_neg (by omega), if_neg (by omega)]; rfl
          have R : Ev (fun k => spec_l13End.f k e (i : Int)) ((i + 1 : Nat) : Int) := by
            refine hK _ ?_
            rw [decide_eq_false h34]
            refine Ev.round ?_
            simp only [spec_l13End.j1]
            rw [w64s (by omega)]
            exact Ev.no (by simp) (Ev.no h5 (Ev.now _))
          by_cases hok : tOk n (tD e i) = true
          · refine ⟨_, _, R, hS _ (fun _ => hone _ _ hp (fin 0 _)) (fun h => by rw [hok] at h; cases h), Or.inr ⟨by omega, by omega⟩, Or.inr ⟨rfl, fun j hj hj' => ?_⟩, fun _ _ => rfl⟩
            have : j = i := by omega
            subst this; exact hok
          · refine ⟨_, -1, R, hS _ (fun h => absurd h hok) (fun _ => rfl), Or.inr ⟨by omega, by omega⟩, Or.inl rfl, fun h hall => ?_⟩
            exact absurd (hall i (by omega) (by omega)) hok
    · -- behind the end
      refine ⟨-1, -1, ?_, ?_, Or.inl rfl, Or.inl rfl, fun h => absurd rfl h⟩
      · refine Ev.round ?_
        simp only [spec_l13End.f]
        refine Ev.no (by omega) (Ev.round ?_)
        simp only [spec_l13End.j0]
        exact Ev.yes (decide_eq_true (by omega)) (Ev.now _)
      · refine Ev.round ?_
        simp only [impl_termEnd.f]
        refine Ev.yes (by omega) (Ev.round ?_)
        simp only [impl_termEnd.j0]
        exact Ev.yes (by trivial) (Ev.now _)
theorem tOk_ev (n : Int) (t : TmT) : (inI t.f0 0 5 && inI t.f1 0 (if t.f0 = 2 then wrap64 (n - 1) else 0)) = tOk n t := by
  unfold tOk
  by_cases h : t.f0 = 2
  · rw [if_pos h, if_pos h]
  · rw [if_neg h, if_neg h, inI00]
/-- Both tests of an expression come to the same. -/
theorem isExpr_ev' (n : Int) (d : List Int) (e : List TmT) (he : e.length ≤ 1048576) : ∃ b, Ev (fun k => spec_IsExpression.f k n d e) b ∧ Ev (fun k => impl_IsExpression.f k n d e) b ∧
    (b = true → alB n d = true ∧ 1 ≤ e.length ∧ e.length ≤ 24 ∧ (∀ j : Nat, j < e.length → tOk n (tD e j) = true) ∧ Ev (fun k => spec_l13End.f k e ((0 : Nat) : Int)) (e.length : Int)) := by
  obtain ⟨r, s, R, S, _, c, dd⟩ := ends n d e he (e.length + 1) 0 (by omega) (by omega)
  have hno : Ev (fun k => spec_IsExpression.j0 k e true n d) false := Ev.round (by simp only [spec_IsExpression.j0]; exact Ev.yes (by trivial) (Ev.now _))
  have key := Ev.up (fun k (_ : Unit) i => spec_IsExpression.l0 k e i n d) e.length (fun i _ => (e.drop i).all (tOk n) && (r == (e.length : Int))) (fun _ _ => True)
    (fun _ _ => by
      refine Ev.round ?_
      simp only [spec_IsExpression.l0]
      refine Ev.no (by omega) (Ev.bind R ?_)
      rw [List.drop_length, List.all_nil, Bool.true_and]
      exact Ev.now _)
    (fun i _ hi _ ih => by
      have hg : tD e i = e[i] := by unfold tD; rw [List.getD_eq_getElem?_getD, List.getElem?_eq_getElem hi]; rfl
      have hj : ∀ q, q = (if (tD e i).f0 = 2 then wrap64 (n - 1) else 0) → Ev (fun k => spec_IsExpression.j2 k e (i : Int) q n d) ((e.drop i).all (tOk n) && (r == (e.length : Int))) := fun q hq => by
        refine Ev.round ?_
        simp only [spec_IsExpression.j2]
        rw [rdTm, w64s (by omega)]
        rw [List.drop_eq_getElem_cons hi, List.all_cons, ← hg, ← tOk_ev, ← hq]
        refine Ev.yes (by omega) (Ev.yes (by omega) (Ev.here (spInI _ _ _) ?_))
        cases inI (tD e i).f0 0 5
        · exact Ev.no (by simp) (Ev.now _)
        refine Ev.yes rfl (Ev.here (spInI _ _ _) ?_)
        cases inI (tD e i).f1 0 q
        · exact Ev.no (by simp) (Ev.now _)
        refine Ev.yes rfl ?_
        rw [Bool.true_and, Bool.true_and]
        exact ih () trivial
      refine Ev.round ?_
      simp only [spec_IsExpression.l0]
      rw [rdTm]
      refine Ev.yes (by omega) (Ev.yes (by omega) ?_)
      by_cases h : (tD e i).f0 = 2
      · exact Ev.yes h (hj _ (by rw [if_pos h]))
      · exact Ev.no h (hj _ (by rw [if_neg h])))
  have hloop := key 0 () (by omega) trivial
  rw [List.drop_zero] at hloop
  have hall : e.all (tOk n) = true ↔ ∀ j : Nat, 0 ≤ j → j < e.length → tOk n (tD e j) = true := by
    rw [List.all_eq_true]
    constructor
    · intro h j _ hj
      unfold tD; rw [List.getD_eq_getElem?_getD, List.getElem?_eq_getElem hj]
      exact h _ (List.getElem_mem hj)
    · intro h x hx
      obtain ⟨j, hj, rfl⟩ := List.getElem_of_mem hx
      have := h j (by omega) hj
      unfold tD at this; rw [List.getD_eq_getElem?_getD, List.getElem?_eq_getElem hj] at this
      exact this
  have same : 1 ≤ e.length → (e.all (tOk n) && (r == (e.length : Int))) = (s == (e.length : Int)) := fun h1 => by
    by_cases hr : r = (e.length : Int)
    · rw [show (r == (e.length : Int)) = true from by rw [hr]; exact beq_self_eq_true _, Bool.and_true]
      cases ha : e.all (tOk n)
      · symm
        rw [beq_eq_false_iff_ne]
        intro hs
        have : s = r ∧ ∀ j : Nat, 0 ≤ j → (j : Int) < r → tOk n (tD e j) = true := by rcases c with h | h; omega; exact h
        have := hall.2 (fun j hj hj' => this.2 j hj (by omega))
        rw [ha] at this; cases this
      · symm
        have := dd (by omega) (fun j hj hj' => hall.1 ha j hj (by omega))
        rw [this, hr]; exact beq_self_eq_true _
    · rw [show (r == (e.length : Int)) = false from by rw [beq_eq_false_iff_ne]; exact hr, Bool.and_false]
      symm
      rw [beq_eq_false_iff_ne]
      intro hs
      rcases c with h | h
      · omega
      · exact hr (by rw [← h.1, hs])
  refine ⟨alB n d && (decide (1 ≤ e.length) && (decide (e.length ≤ 24) && (s == (e.length : Int)))), ?_, ?_, ?_⟩
  rotate_left 2
  · intro hb
    simp only [Bool.and_eq_true, decide_eq_true_eq, beq_iff_eq] at hb
    obtain ⟨h1, h2, h3, h4⟩ := hb
    rcases c with h | h
    · omega
    · have hr : r = (e.length : Int) := h.1.symm.trans h4
      rw [hr] at R
      exact ⟨h1, h2, h3, fun j hj => h.2 j (by omega) (by omega), R⟩
  · unfold spec_IsExpression.f
    refine Ev.bind (l02Is_ev n d) ?_
    cases alB n d
    · exact Ev.no (by simp) hno
    refine Ev.yes rfl ?_
    by_cases h1 : 1 ≤ e.length
    · refine Ev.no (by omega) (Ev.round ?_)
      simp only [spec_IsExpression.j0]
      rw [decide_eq_true h1, Bool.true_and, Bool.true_and]
      by_cases h2 : e.length ≤ 24
      · rw [decide_eq_true h2, Bool.true_and, decide_eq_false (show ¬ (e.length : Int) > 24 by omega), ← same h1]
        exact Ev.no (by simp) (by simpa using hloop)
      · rw [decide_eq_false h2, decide_eq_true (show (e.length : Int) > 24 by omega)]
        exact Ev.yes rfl (Ev.now _)
    · refine Ev.yes (by omega) ?_
      rw [decide_eq_false h1]
      exact hno
  · unfold impl_IsExpression.f
    refine Ev.bind (isAl_ev n d) ?_
    cases alB n d
    · exact Ev.no (by simp) (Ev.now _)
    refine Ev.yes rfl ?_
    by_cases h1 : 1 ≤ e.length
    · rw [decide_eq_true h1, Bool.true_and, Bool.true_and]
      refine Ev.yes (by omega) ?_
      by_cases h2 : e.length ≤ 24
      · rw [decide_eq_true h2, Bool.true_and]
        exact Ev.yes (by omega) (Ev.bind S (Ev.now _))
      · rw [decide_eq_false h2]
        exact Ev.no (by omega) (Ev.now _)
    · rw [decide_eq_false h1]
      exact Ev.no (by omega) (Ev.now _)
/-- A term as the program has it. -/
def toTm (x : TmL) : TmT := ⟨x.f0, x.f1⟩
theorem toTmS (J : List TmL) (hn : J.length ≤ 1048576) : Ev (fun k => laws_toTermS.f k J) (J.map toTm) := by
  have key := Ev.up (fun k s i => laws_toTermS.l0 k J s i) J.length (fun _ _ => J.map toTm) (fun i s => s.length = J.length ∧ ∀ j, j < i → s[j]? = (J.map toTm)[j]?)
    (fun s ⟨h1, h2⟩ => by
      refine Ev.round ?_
      simp only [laws_toTermS.l0]
      refine Ev.no (by omega) ?_
      have : s = J.map toTm := List.ext_getElem? fun j => by
        by_cases hj : j < J.length
        · exact h2 j hj
        · rw [List.getElem?_eq_none (by omega), List.getElem?_eq_none (by rw [List.length_map]; omega)]
      rw [this]
      exact Ev.now _)
    (fun i s hi ⟨hl, hp⟩ ih => by
      refine Ev.round ?_
      simp only [laws_toTermS.l0]
      have hg : rd_T52 J (i : Int) = J[i] := by
        show J.getD i _ = _
        rw [List.getD_eq_getElem?_getD, List.getElem?_eq_getElem hi]; rfl
      rw [hg]
      refine Ev.yes (by omega) (Ev.yes (by omega) (Ev.here (show laws_toTerm.f J[i].f0 J[i].f1 = some (J[i].f0, J[i].f1) from rfl) (Ev.yes (by omega) ?_)))
      rw [w64s (by omega)]
      refine ih _ ⟨by simp [hl], fun j hj => ?_⟩
      rw [Int.toNat_natCast]
      by_cases e : j = i
      · subst e
        rw [List.getElem?_set_self (by omega), List.getElem?_map, List.getElem?_eq_getElem hi]
        rfl
      · rw [List.getElem?_set_ne (by omega)]
        exact hp j (by omega))
  unfold laws_toTermS.f
  refine Ev.yes (by omega) (Ev.yes (by omega) ?_)
  have := key 0 (List.replicate J.length z50) (by omega) ⟨by simp, fun j hj => absurd hj (by omega)⟩
  simpa using this
theorem eqTmS (J : List TmT) (hn : J.length ≤ 1048576) : Ev (fun k => laws_eqTermS.f k J J) true := by
  have key := Ev.up (fun k (_ : Unit) i => laws_eqTermS.l0 k J J i) J.length (fun _ _ => true) (fun _ _ => True)
    (fun _ _ => by
      refine Ev.round ?_
      simp only [laws_eqTermS.l0]
      exact Ev.no (by omega) (Ev.now _))
    (fun i _ hi _ ih => by
      refine Ev.round ?_
      simp only [laws_eqTermS.l0]
      rw [rdTm, w64s (by omega)]
      refine Ev.yes (by omega) (Ev.yes (by omega) (Ev.yes (by omega) ?_))
      refine Ev.here (a := true) ?_ (Ev.yes rfl (ih () trivial))
      unfold laws_eqTerm.f
      rw [if_pos rfl, if_pos rfl])
  unfold laws_eqTermS.f
  refine Ev.yes rfl ?_
  have := key 0 () (by omega) trivial
  simpa using this
theorem szTm_eq (l : List TmL) (a : Nat) (hl : l.length ≤ maxLen) (ha : a ≤ 1048576) : laws_szTermS.f l (a : Int) = some (if l.length ≤ a then ((a - l.length : Nat) : Int) else -1) := by
  unfold maxLen at hl
  unfold laws_szTermS.f
  rw [w64 (by omega) (by omega)]
  by_cases h : l.length ≤ a
  · rw [if_neg (by omega), if_pos h]; congr 1; omega
  · rw [if_pos (by omega), if_neg h]
theorem szAl (n : Int) (d : List Int) (hd : d.length ≤ maxLen) : laws_szAlphabet.f n d 1048576 = some (if d.length ≤ 1048576 then ((1048576 - d.length : Nat) : Int) else -1) := by
  unfold maxLen at hd
  unfold laws_szAlphabet.f laws_szInt64S.f
  rw [w64 (by omega) (by omega)]
  by_cases h : d.length ≤ 1048576
  · rw [if_neg (by omega), if_pos h]
    simp only [Option.bind_some]
    rw [if_neg (by omega)]
    congr 1; omega
  · rw [if_pos (by omega), if_neg h]
    rfl
theorem toAl (n : Int) (d : List Int) (hd : d.length ≤ 35184372088832) : Ev (fun k => laws_toAlphabet.f k n d) (n, d) := by
  unfold laws_toAlphabet.f
  exact Ev.bind (toS d hd) (Ev.now _)
theorem eqAl1 (n : Int) (d : List Int) (hd : d.length ≤ 35184372088832) : Ev (fun k => laws_eqAlphabet.f k n d n d) true := by
  have h1 : Ev (fun k => laws_eqInt64S.f k d d) true := by
    have := eqS d d (by omega)
    rw [decide_eq_true rfl] at this
    exact this
  unfold laws_eqAlphabet.f
  exact Ev.yes rfl (Ev.bind h1 (Ev.yes rfl (Ev.now _)))
end Go.Proofs.YtcbcfkmeemenkaaDoor.U
end M1
section M2
namespace Go.Proofs.YtcbcfkmeemenkaaDoor.U
open Go.RowKit Go.Proofs.YtcbcfkmeemenkaaDoor.P Go.Proofs.YtcbcfkmeemenkaaDoorW.PrintWords Go.Proofs.YtcbcfkmeemenkaaDoorW.PrintLast Go.Proofs.YtcbcfkmeemenkaaDoorW.PrintMore
set_option linter.unusedVariables false
/-! Expressions as trees. -/
inductive Tr where
  | nothing | empty | letter (a : Nat) | sum (x y : Tr) | prod (x y : Tr) | star (x : Tr)
def Tr.enc : Tr → List TmT
  | .nothing => [⟨0, 0⟩]
  | .empty => [⟨1, 0⟩]
  | .letter a => [⟨2, a⟩]
  | .sum x y => ⟨3, 0⟩ :: (x.enc ++ y.enc)
  | .prod x y => ⟨4, 0⟩ :: (x.enc ++ y.enc)
  | .star x => ⟨5, 0⟩ :: x.enc
/-- The letters are below n. -/
def Tr.ok (n : Int) : Tr → Prop
  | .letter a => (a : Int) < n
  | .sum x y | .prod x y => x.ok n ∧ y.ok n
  | .star x => x.ok n
  | _ => True
theorem Tr.enc_pos (t : Tr) : 0 < t.enc.length := by cases t <;> simp [Tr.enc]
theorem tD_drop {e rest : List TmT} {i : Nat} {x : TmT} (h : e.drop i = x :: rest) : tD e i = x ∧ i < e.length ∧ e.drop (i + 1) = rest := by
  have hi : i < e.length := by
    rcases Nat.lt_or_ge i e.length with h' | h'
    · exact h'
    · rw [List.drop_eq_nil_of_le h'] at h; cases h
  rw [List.drop_eq_getElem_cons hi] at h
  injection h with h1 h2
  exact ⟨by unfold tD; rw [List.getD_eq_getElem?_getD, List.getElem?_eq_getElem hi]; exact h1, hi, h2⟩
theorem drop_skip {e rest : List TmT} {i : Nat} {l : List TmT} (h : e.drop i = l ++ rest) : e.drop (i + l.length) = rest := by
  rw [← List.drop_drop, h, List.drop_left]
/-- How the reference finds a term's end: one step. -/
theorem end_step {e : List TmT} {i : Nat} (hi : i < e.length) (he : e.length ≤ 1048576) {r : Int} (h : Ev (fun k => spec_l13End.j1 k e (i : Int) (tD e i).f0 (decide ((tD e i).f0 = 3 ∨ (tD e i).f0 = 4))) r) : Ev (fun k => spec_l13End.f k e (i : Int)) r := by
  refine Ev.round ?_
  simp only [spec_l13End.f]
  refine Ev.no (by omega) (Ev.round ?_)
  simp only [spec_l13End.j0]
  refine Ev.no (by simp; omega) (Ev.yes (by omega) (Ev.yes (by omega) ?_))
  rw [rdTm]
  by_cases h3 : (tD e i).f0 = 3
  · refine Ev.yes h3 ?_
    rw [show ((tD e i).f0 == 3) = decide ((tD e i).f0 = 3 ∨ (tD e i).f0 = 4) from by rw [decide_eq_true (Or.inl h3), h3]; rfl]
    exact h
  · refine Ev.no h3 ?_
    rw [show ((tD e i).f0 == 4) = decide ((tD e i).f0 = 3 ∨ (tD e i).f0 = 4) from by
      by_cases h4 : (tD e i).f0 = 4
      · rw [decide_eq_true (Or.inr h4), h4]; rfl
      · rw [decide_eq_false (by omega)]; simpa using h4]
    exact h
theorem end_two {e : List TmT} {i : Nat} (hi : i < e.length) (he : e.length ≤ 1048576) (hk : (tD e i).f0 = 3 ∨ (tD e i).f0 = 4) {r1 r2 : Int} (h1 : Ev (fun k => spec_l13End.f k e ((i + 1 : Nat) : Int)) r1) (h2 : Ev (fun k => spec_l13End.f k e r1) r2) : Ev (fun k => spec_l13End.f k e (i : Int)) r2 := by
  refine end_step hi he (Ev.round ?_)
  simp only [spec_l13End.j1]
  rw [decide_eq_true hk, w64s (by omega)]
  exact Ev.yes rfl (Ev.bind h1 (Ev.bind h2 (Ev.now _)))
theorem end_one {e : List TmT} {i : Nat} (hi : i < e.length) (he : e.length ≤ 1048576) (hk : (tD e i).f0 = 5) {r1 : Int} (h1 : Ev (fun k => spec_l13End.f k e ((i + 1 : Nat) : Int)) r1) : Ev (fun k => spec_l13End.f k e (i : Int)) r1 := by
  refine end_step hi he (Ev.round ?_)
  simp only [spec_l13End.j1]
  rw [decide_eq_false (by omega), w64s (by omega)]
  exact Ev.no (by simp) (Ev.yes hk (Ev.bind h1 (Ev.now _)))
theorem end_none {e : List TmT} {i : Nat} (hi : i < e.length) (he : e.length ≤ 1048576) (hk : (tD e i).f0 < 3) : Ev (fun k => spec_l13End.f k e (i : Int)) ((i + 1 : Nat) : Int) := by
  refine end_step hi he (Ev.round ?_)
  simp only [spec_l13End.j1]
  rw [decide_eq_false (by omega), w64s (by omega)]
  exact Ev.no (by simp) (Ev.no (by omega) (Ev.now _))
theorem end_out {e : List TmT} {i : Nat} (hi : e.length ≤ i) : Ev (fun k => spec_l13End.f k e (i : Int)) (-1) := by
  refine Ev.round ?_
  simp only [spec_l13End.f]
  refine Ev.no (by omega) (Ev.round ?_)
  simp only [spec_l13End.j0]
  exact Ev.yes (by simp; omega) (Ev.now _)
theorem endTree (n : Int) (hn : 0 ≤ n ∧ n ≤ 8) (e : List TmT) (he : e.length ≤ 1048576) : ∀ (m i : Nat), e.length + 1 ≤ i + m → i ≤ e.length →
    ∃ r : Int, Ev (fun k => spec_l13End.f k e (i : Int)) r ∧ (r = -1 ∨ ((i : Int) < r ∧ r ≤ e.length ∧ ((∀ j : Nat, i ≤ j → (j : Int) < r → tOk n (tD e j) = true) → ∃ t : Tr, t.ok n ∧ e.drop i = t.enc ++ e.drop r.toNat))) := by
  intro m
  induction m with
  | zero => intro i h1 h2; omega
  | succ m ih =>
    intro i h1 h2
    by_cases hi : i < e.length
    · have hcons : e.drop i = tD e i :: e.drop (i + 1) := by
        rw [List.drop_eq_getElem_cons hi]; unfold tD; rw [List.getD_eq_getElem?_getD, List.getElem?_eq_getElem hi]; rfl
      have kinds : tOk n (tD e i) = true → (0 ≤ (tD e i).f0 ∧ (tD e i).f0 ≤ 5) ∧ ((tD e i).f0 ≠ 2 → (tD e i).f1 = 0) ∧ ((tD e i).f0 = 2 → 0 ≤ (tD e i).f1 ∧ (tD e i).f1 < n) := by
        intro h
        unfold tOk at h
        rw [Bool.and_eq_true, inI_iff] at h
        refine ⟨h.1, fun h2 => ?_, fun h2 => ?_⟩
        · rw [if_neg h2] at h; simpa using h.2
        · rw [if_pos h2, inI_iff, w64 (by omega) (by omega)] at h; omega
      have eta : ∀ x : TmT, x = ⟨x.f0, x.f1⟩ := fun x => by cases x; rfl
      obtain ⟨r1, R1, q1⟩ := ih (i + 1) (by omega) (by omega)
      by_cases h5 : (tD e i).f0 = 5
      · refine ⟨r1, end_one hi he h5 R1, q1.imp id fun ⟨a, b, c⟩ => ⟨by omega, b, fun hj => ?_⟩⟩
        obtain ⟨t, ht, ht2⟩ := c (fun j h3 h4 => hj j (by omega) h4)
        obtain ⟨_, k2, _⟩ := kinds (hj i (by omega) (by omega))
        refine ⟨.star t, ht, ?_⟩
        rw [hcons, ht2, eta (tD e i), h5, k2 (by omega)]
        rfl
      by_cases h34 : (tD e i).f0 = 3 ∨ (tD e i).f0 = 4
      · rcases q1 with q1 | ⟨a, b, c⟩
        · subst q1
          exact ⟨-1, end_two hi he h34 R1 (endNeg e (-1) (by omega)), Or.inl rfl⟩
        · obtain ⟨j1, rfl⟩ : ∃ j1 : Nat, r1 = j1 := ⟨r1.toNat, by omega⟩
          obtain ⟨r2, R2, q2⟩ := ih j1 (by omega) (by omega)
          refine ⟨r2, end_two hi he h34 R1 R2, q2.imp id fun ⟨a', b', c'⟩ => ⟨by omega, b', fun hj => ?_⟩⟩
          obtain ⟨t, ht, ht2⟩ := c (fun j h3 h4 => hj j (by omega) (by omega))
          obtain ⟨t', ht', ht2'⟩ := c' (fun j h3 h4 => hj j (by omega) (by omega))
          obtain ⟨_, k2, _⟩ := kinds (hj i (by omega) (by omega))
          rw [Int.toNat_natCast] at ht2
          rcases h34 with h3 | h4
          · refine ⟨.sum t t', ⟨ht, ht'⟩, ?_⟩
            rw [hcons, ht2, ht2', eta (tD e i), h3, k2 (by omega)]
            simp [Tr.enc]
          · refine ⟨.prod t t', ⟨ht, ht'⟩, ?_⟩
            rw [hcons, ht2, ht2', eta (tD e i), h4, k2 (by omega)]
            simp [Tr.enc]
      · by_cases h6 : (tD e i).f0 < 3
        · refine ⟨((i + 1 : Nat) : Int), end_none hi he h6, Or.inr ⟨by omega, by omega, fun hj => ?_⟩⟩
          obtain ⟨k1, k2, k3⟩ := kinds (hj i (by omega) (by omega))
          rw [Int.toNat_natCast]
          by_cases h2 : (tD e i).f0 = 2
          · obtain ⟨k4, k5⟩ := k3 h2
            refine ⟨.letter (tD e i).f1.toNat, by show (((tD e i).f1.toNat : Nat) : Int) < n; omega, ?_⟩
            rw [hcons]
            show _ = (⟨2, ((tD e i).f1.toNat : Int)⟩ : TmT) :: _
            rw [Int.toNat_of_nonneg k4, ← h2]
            rfl
          · have k4 := k2 h2
            rcases (show (tD e i).f0 = 0 ∨ (tD e i).f0 = 1 by omega) with h0 | h0
            · refine ⟨.nothing, trivial, ?_⟩
              rw [hcons, eta (tD e i), h0, k4]
              rfl
            · refine ⟨.empty, trivial, ?_⟩
              rw [hcons, eta (tD e i), h0, k4]
              rfl
        · -- another kind: the reference steps over it; it is none that is allowed
          have hE : Ev (fun k => spec_l13End.f k e (i : Int)) ((i + 1 : Nat) : Int) := by
            refine end_step hi he (Ev.round ?_)
            simp only [spec_l13End.j1]
            rw [decide_eq_false h34, w64s (by omega)]
            exact Ev.no (by simp) (Ev.no h5 (Ev.now _))
          refine ⟨((i + 1 : Nat) : Int), hE, Or.inr ⟨by omega, by omega, fun hj => ?_⟩⟩
          obtain ⟨k1, _, _⟩ := kinds (hj i (by omega) (by omega))
          omega
    · exact ⟨-1, end_out (by omega), Or.inl rfl⟩
theorem isExpr_tree {n : Int} {d : List Int} {e : List TmT} (hn : 0 ≤ n ∧ n ≤ 8) (he : e.length ≤ 24) (h : ∀ j : Nat, j < e.length → tOk n (tD e j) = true) (hE : Ev (fun k => spec_l13End.f k e ((0 : Nat) : Int)) (e.length : Int)) : ∃ t : Tr, t.ok n ∧ e = t.enc := by
  obtain ⟨r, R, q⟩ := endTree n hn e (by omega) (e.length + 1) 0 (by omega) (by omega)
  have := Ev.det R hE
  subst this
  rcases q with q | ⟨_, _, c⟩
  · omega
  · obtain ⟨t, h1, h2⟩ := c (fun j _ hj => h j (by omega))
    refine ⟨t, h1, ?_⟩
    simpa using h2
/-- The reference finds the end of a tree. -/
theorem end_tree (e : List TmT) (he : e.length ≤ 1048576) : ∀ (t : Tr) (i : Nat) (rest : List TmT), e.drop i = t.enc ++ rest → Ev (fun k => spec_l13End.f k e (i : Int)) ((i + t.enc.length : Nat) : Int) := by
  intro t
  induction t with
  | nothing => intro i rest h; obtain ⟨h1, h2, _⟩ := tD_drop h; exact end_none h2 he (by rw [h1]; decide)
  | empty => intro i rest h; obtain ⟨h1, h2, _⟩ := tD_drop h; exact end_none h2 he (by rw [h1]; decide)
  | letter a => intro i rest h; obtain ⟨h1, h2, _⟩ := tD_drop h; exact end_none h2 he (by rw [h1]; show (2 : Int) < 3; decide)
  | sum x y ihx ihy =>
    intro i rest h
    obtain ⟨h1, h2, h3⟩ := tD_drop h
    replace h3 : e.drop (i + 1) = x.enc ++ (y.enc ++ rest) := h3.trans (List.append_assoc _ _ _)
    have := end_two h2 he (by rw [h1]; exact Or.inl rfl) (ihx (i + 1) _ h3) (ihy _ _ (drop_skip h3))
    rw [show i + (Tr.sum x y).enc.length = i + 1 + x.enc.length + y.enc.length by simp [Tr.enc]; omega]
    exact this
  | prod x y ihx ihy =>
    intro i rest h
    obtain ⟨h1, h2, h3⟩ := tD_drop h
    replace h3 : e.drop (i + 1) = x.enc ++ (y.enc ++ rest) := h3.trans (List.append_assoc _ _ _)
    have := end_two h2 he (by rw [h1]; exact Or.inr rfl) (ihx (i + 1) _ h3) (ihy _ _ (drop_skip h3))
    rw [show i + (Tr.prod x y).enc.length = i + 1 + x.enc.length + y.enc.length by simp [Tr.enc]; omega]
    exact this
  | star x ihx =>
    intro i rest h
    obtain ⟨h1, h2, h3⟩ := tD_drop h
    have := end_one h2 he (by rw [h1]) (ihx (i + 1) _ h3)
    rw [show i + (Tr.star x).enc.length = i + 1 + x.enc.length by simp [Tr.enc]; omega]
    exact this
/-- The program's count of open parts runs over a tree. -/
theorem parts_run (e : List TmT) (he : e.length ≤ 1048576) (x3 : List (List TmT)) (x4 x12 x13 : Int) (R : List (List TmT)) : ∀ (t : Tr) (i op : Nat) (rest : List TmT), e.drop i = t.enc ++ rest → op + t.enc.length ≤ 1048576 →
    Ev (fun k => impl_parts.l1 k e x3 x4 (op : Int) ((i + t.enc.length : Nat) : Int) x12 x13) R → Ev (fun k => impl_parts.l1 k e x3 x4 ((op + 1 : Nat) : Int) (i : Int) x12 x13) R := by
  have one : ∀ (i op : Nat) (p : Int), i < e.length → op ≤ 1048577 → impl_partsIn.f (tD e i).f0 = some p → 0 ≤ p → p ≤ 2 → Ev (fun k => impl_parts.l1 k e x3 x4 ((op : Int) + p) ((i + 1 : Nat) : Int) x12 x13) R → Ev (fun k => impl_parts.l1 k e x3 x4 ((op + 1 : Nat) : Int) (i : Int) x12 x13) R := by
    intro i op p hi hop hp h0 h1 h
    refine Ev.round ?_
    simp only [impl_parts.l1]
    refine Ev.yes (by omega) (Ev.yes (by omega) (Ev.yes (by omega) ?_))
    rw [rdTm]
    refine Ev.here hp ?_
    rw [w64 (n := p - 1) (by omega) (by omega), w64s (by omega), w64 (by omega) (by omega), show ((op + 1 : Nat) : Int) + (p - 1) = (op : Int) + p by omega]
    exact h
  have leaf : ∀ (t : Tr) (i op : Nat) (rest : List TmT) (x : TmT), t.enc = [x] → impl_partsIn.f x.f0 = some 0 → e.drop i = t.enc ++ rest → op + t.enc.length ≤ 1048576 →
      Ev (fun k => impl_parts.l1 k e x3 x4 (op : Int) ((i + t.enc.length : Nat) : Int) x12 x13) R → Ev (fun k => impl_parts.l1 k e x3 x4 ((op + 1 : Nat) : Int) (i : Int) x12 x13) R := by
    intro t i op rest x ht hp h hop k
    rw [ht] at h k
    obtain ⟨h1, h2, _⟩ := tD_drop h
    exact one i op 0 h2 (by omega) (by rw [h1]; exact hp) (by omega) (by omega) (by simpa using k)
  have two : ∀ (x y : Tr) (i op : Nat) (rest : List TmT) (z : TmT) (l : Nat), l = 1 + x.enc.length + y.enc.length → impl_partsIn.f z.f0 = some 2 → e.drop i = z :: (x.enc ++ y.enc) ++ rest → op + l ≤ 1048576 →
      (∀ (i op : Nat) (rest : List TmT), e.drop i = x.enc ++ rest → op + x.enc.length ≤ 1048576 → Ev (fun k => impl_parts.l1 k e x3 x4 (op : Int) ((i + x.enc.length : Nat) : Int) x12 x13) R → Ev (fun k => impl_parts.l1 k e x3 x4 ((op + 1 : Nat) : Int) (i : Int) x12 x13) R) →
      (∀ (i op : Nat) (rest : List TmT), e.drop i = y.enc ++ rest → op + y.enc.length ≤ 1048576 → Ev (fun k => impl_parts.l1 k e x3 x4 (op : Int) ((i + y.enc.length : Nat) : Int) x12 x13) R → Ev (fun k => impl_parts.l1 k e x3 x4 ((op + 1 : Nat) : Int) (i : Int) x12 x13) R) →
      Ev (fun k => impl_parts.l1 k e x3 x4 (op : Int) ((i + l : Nat) : Int) x12 x13) R → Ev (fun k => impl_parts.l1 k e x3 x4 ((op + 1 : Nat) : Int) (i : Int) x12 x13) R := by
    intro x y i op rest z l hl hp h hop ihx ihy k
    have hx := x.enc_pos
    have hy := y.enc_pos
    obtain ⟨h1, h2, h3⟩ := tD_drop h
    replace h3 : e.drop (i + 1) = x.enc ++ (y.enc ++ rest) := h3.trans (List.append_assoc _ _ _)
    refine one i op 2 h2 (by omega) (by rw [h1]; exact hp) (by omega) (by omega) ?_
    have k2 := ihy (i + 1 + x.enc.length) op rest (drop_skip h3) (by omega) (by rw [show i + 1 + x.enc.length + y.enc.length = i + l by omega]; exact k)
    exact ihx (i + 1) (op + 1) _ h3 (by omega) k2
  intro t
  induction t with
  | nothing => intro i op rest h hop k; exact leaf .nothing i op rest _ rfl rfl h hop k
  | empty => intro i op rest h hop k; exact leaf .empty i op rest _ rfl rfl h hop k
  | letter a => intro i op rest h hop k; exact leaf (.letter a) i op rest _ rfl rfl h hop k
  | sum x y ihx ihy => intro i op rest h hop k; exact two x y i op rest _ _ (by simp [Tr.enc]; omega) rfl h hop ihx ihy k
  | prod x y ihx ihy => intro i op rest h hop k; exact two x y i op rest _ _ (by simp [Tr.enc]; omega) rfl h hop ihx ihy k
  | star x ihx =>
    intro i op rest h hop k
    have hl : (Tr.star x).enc.length = 1 + x.enc.length := by simp [Tr.enc]; omega
    rw [hl] at hop k
    obtain ⟨h1, h2, h3⟩ := tD_drop h
    refine one i op 1 h2 (by omega) (by rw [h1]; rfl) (by omega) (by omega) ?_
    exact ihx (i + 1) op rest h3 (by omega) (by rw [show i + 1 + x.enc.length = i + (1 + x.enc.length) by omega]; exact k)
/-- The parts of a tree. -/
def Tr.parts : Tr → List (List TmT)
  | .sum x y | .prod x y => [x.enc, y.enc]
  | .star x => [x.enc]
  | _ => []
theorem slice_eq {e rest l : List TmT} {i : Nat} (h : e.drop i = l ++ rest) : (e.take (i + l.length)).drop i = l := by
  rw [List.drop_take, h]
  simp
theorem parts_ev (t : Tr) (ht : t.enc.length ≤ 24) : Ev (fun k => impl_parts.f k t.enc) t.parts := by
  have hp := t.enc_pos
  -- one part more
  have part : ∀ (x : Tr) (i : Nat) (rest : List TmT) (x3 : List (List TmT)) (j m : Nat) (R : List (List TmT)), t.enc.drop i = x.enc ++ rest → j < m → m ≤ 2 → x3.length ≤ 2 →
      Ev (fun k => impl_parts.l0 k t.enc (x3 ++ [x.enc]) ((i + x.enc.length : Nat) : Int) (m : Int) ((j + 1 : Nat) : Int)) R → Ev (fun k => impl_parts.l0 k t.enc x3 (i : Int) (m : Int) (j : Int)) R := by
    intro x i rest x3 j m R h hj hm hx3 k
    have hlen : i + x.enc.length ≤ t.enc.length := by
      have := congrArg List.length h
      rw [List.length_drop, List.length_append] at this
      have := x.enc_pos
      omega
    refine Ev.round ?_
    simp only [impl_parts.l0]
    refine Ev.yes (by omega) (parts_run t.enc (by omega) x3 i m j R x i 0 rest h (by omega) ?_)
    refine Ev.round ?_
    simp only [impl_parts.l1]
    refine Ev.no (by omega) (Ev.yes (by omega) (Ev.yes (by omega) (Ev.yes (by omega) (Ev.yes (by omega) ?_))))
    rw [Int.toNat_natCast, Int.toNat_natCast, slice_eq h, w64s (by omega)]
    exact k
  have fin : ∀ (x3 : List (List TmT)) (i : Nat) (m : Nat), Ev (fun k => impl_parts.l0 k t.enc x3 (i : Int) (m : Int) (m : Int)) x3 := by
    intro x3 i m
    refine Ev.round ?_
    simp only [impl_parts.l0]
    exact Ev.no (by omega) (Ev.now _)
  unfold impl_parts.f
  refine Ev.yes (by omega) ?_
  rw [show (0 : Int) = ((0 : Nat) : Int) from rfl, rdTm]
  cases t with
  | nothing => exact Ev.here (show impl_partsIn.f _ = some 0 from rfl) (fin [] 1 0)
  | empty => exact Ev.here (show impl_partsIn.f _ = some 0 from rfl) (fin [] 1 0)
  | letter a => exact Ev.here (show impl_partsIn.f _ = some 0 from rfl) (fin [] 1 0)
  | sum x y =>
    refine Ev.here (show impl_partsIn.f _ = some 2 from rfl) ?_
    have h1 : (Tr.sum x y).enc.drop 1 = x.enc ++ y.enc := rfl
    have h2 := drop_skip h1
    refine part x 1 y.enc [] 0 2 _ h1 (by omega) (by omega) (by simp) (part y (1 + x.enc.length) [] [x.enc] 1 2 _ (by rw [h2]; simp) (by omega) (by omega) (by simp) (fin _ _ 2))
  | prod x y =>
    refine Ev.here (show impl_partsIn.f _ = some 2 from rfl) ?_
    have h1 : (Tr.prod x y).enc.drop 1 = x.enc ++ y.enc := rfl
    have h2 := drop_skip h1
    refine part x 1 y.enc [] 0 2 _ h1 (by omega) (by omega) (by simp) (part y (1 + x.enc.length) [] [x.enc] 1 2 _ (by rw [h2]; simp) (by omega) (by omega) (by simp) (fin _ _ 2))
  | star x =>
    refine Ev.here (show impl_partsIn.f _ = some 1 from rfl) ?_
    have h1 : (Tr.star x).enc.drop 1 = x.enc ++ [] := by simp [Tr.enc]
    exact part x 1 [] [] 0 1 _ h1 (by omega) (by omega) (by simp) (fin _ _ 1)
end Go.Proofs.YtcbcfkmeemenkaaDoor.U
end M2
section M3
namespace Go.Proofs.YtcbcfkmeemenkaaDoor.U
open Go.RowKit Go.Proofs.YtcbcfkmeemenkaaDoor.P Go.Proofs.YtcbcfkmeemenkaaDoorW.PrintWords Go.Proofs.YtcbcfkmeemenkaaDoorW.PrintLast Go.Proofs.YtcbcfkmeemenkaaDoorW.PrintMore
set_option linter.unusedVariables false
/-! Sorted and compacted lists; the contents of a tree. -/
theorem nodup_len {α : Type} [DecidableEq α] : ∀ {l l' : List α}, l.Nodup → (∀ x ∈ l, x ∈ l') → l.length ≤ l'.length
  | [], _, _, _ => Nat.zero_le _
  | x :: l, l', hn, h => by
    have hn' := List.nodup_cons.1 hn
    have hx : x ∈ l' := h x (by simp)
    have h2 : ∀ y ∈ l, y ∈ l'.erase x := fun y hy => (List.mem_erase_of_ne (fun e => hn'.1 (by rw [← e]; exact hy))).2 (h y (by simp [hy]))
    have h3 := nodup_len hn'.2 h2
    have h4 := List.length_erase_of_mem hx
    have h5 : 0 < l'.length := List.length_pos_of_mem hx
    simp only [List.length_cons]
    omega
/-- A list of masks below 256, none twice, is short. -/
theorem masks_len {l : List Int} (hn : l.Nodup) (hl : ∀ x ∈ l, 0 ≤ x ∧ x < 256) : l.length ≤ 256 := by
  have h := nodup_len (l' := (List.range 256).map Int.ofNat) hn (fun x hx => by
    obtain ⟨h0, h1⟩ := hl x hx
    exact List.mem_map.2 ⟨x.toNat, List.mem_range.2 (by omega), (by omega : ((x.toNat : Nat) : Int) = x)⟩)
  simpa using h
theorem sorted_ext : ∀ {l l' : List Int}, l.Pairwise (· < ·) → l'.Pairwise (· < ·) → (∀ x, x ∈ l ↔ x ∈ l') → l = l'
  | [], [], _, _, _ => rfl
  | [], y :: l', _, _, h => absurd ((h y).2 (by simp)) (by simp)
  | x :: l, [], _, _, h => absurd ((h x).1 (by simp)) (by simp)
  | x :: l, y :: l', h1, h2, h => by
    obtain ⟨a1, b1⟩ := List.pairwise_cons.1 h1
    obtain ⟨a2, b2⟩ := List.pairwise_cons.1 h2
    have e : x = y := by
      rcases List.mem_cons.1 ((h x).1 (by simp)) with e | hx
      · exact e
      · rcases List.mem_cons.1 ((h y).2 (by simp)) with e | hy
        · exact e.symm
        · have := a1 y hy
          have := a2 x hx
          omega
    subst e
    rw [sorted_ext b1 b2 (fun z => ?_)]
    constructor
    · intro hz
      rcases List.mem_cons.1 ((h z).1 (by simp [hz])) with e | hz'
      · have := a1 z hz
        omega
      · exact hz'
    · intro hz
      rcases List.mem_cons.1 ((h z).2 (by simp [hz])) with e | hz'
      · have := a2 z hz
        omega
      · exact hz'
theorem compact_up (d : Array Int) (hs : ∀ i j, i < j → j < d.size → d[i]! ≤ d[j]!) : ∀ m, m ≤ d.size → (Lib.compactUpTo d m).Pairwise (· < ·) ∧ ∀ x, x ∈ Lib.compactUpTo d m ↔ ∃ j, j < m ∧ d[j]! = x
  | 0, _ => ⟨by simp [Lib.compactUpTo], by simp [Lib.compactUpTo]⟩
  | m + 1, hm => by
    obtain ⟨h1, h2⟩ := compact_up d hs m (by omega)
    rw [Lib.compactUpTo_succ]
    by_cases hk : Lib.keeps d m = true
    · rw [if_pos hk]
      refine ⟨List.pairwise_append.2 ⟨h1, by simp, fun a ha b hb => ?_⟩, fun x => ?_⟩
      · obtain ⟨j, hj, rfl⟩ := (h2 a).1 ha
        have hb' : b = d[m]! := by simpa using hb
        subst hb'
        have hne : d[m]! ≠ d[m - 1]! := by
          have := of_decide_eq_true hk
          rcases this with h | h
          · omega
          · exact h
        have h3 := hs (m - 1) m (by omega) (by omega)
        rcases Nat.lt_or_ge j (m - 1) with h4 | h4
        · have := hs j (m - 1) h4 (by omega)
          omega
        · have : j = m - 1 := by omega
          subst this
          omega
      · rw [List.mem_append, h2]
        constructor
        · rintro (⟨j, hj, e⟩ | h)
          · exact ⟨j, by omega, e⟩
          · exact ⟨m, by omega, (by simpa using h : x = d[m]!).symm⟩
        · rintro ⟨j, hj, e⟩
          rcases Nat.lt_or_ge j m with h | h
          · exact .inl ⟨j, h, e⟩
          · have : j = m := by omega
            subst this
            exact .inr (by simp [e])
    · rw [if_neg hk, List.append_nil]
      refine ⟨h1, fun x => (h2 x).trans ⟨fun ⟨j, hj, e⟩ => ⟨j, by omega, e⟩, fun ⟨j, hj, e⟩ => ?_⟩⟩
      rcases Nat.lt_or_ge j m with h | h
      · exact ⟨j, h, e⟩
      · have hj' : j = m := by omega
        subst hj'
        have hk' : ¬ (j = 0 ∨ d[j]! ≠ d[j - 1]!) := fun h => hk (decide_eq_true h)
        have h0 : j ≠ 0 := fun h => hk' (.inl h)
        have h1 : d[j]! = d[j - 1]! := Classical.byContradiction fun h => hk' (.inr h)
        exact ⟨j - 1, by omega, by rw [← h1]; exact e⟩
/-- Sorted, then compacted: rising, with the same members. -/
theorem sort_compact (l : List Int) : (Lib.compact (l.mergeSort fun x y => decide (x ≤ y))).Pairwise (· < ·) ∧ ∀ x, x ∈ Lib.compact (l.mergeSort fun x y => decide (x ≤ y)) ↔ x ∈ l := by
  have hp : (l.mergeSort fun x y => decide (x ≤ y)).Pairwise (fun x y => decide (x ≤ y) = true) := List.pairwise_mergeSort (fun a b c h1 h2 => by simp at *; omega) (fun a b => by simp; omega) l
  have hm := List.mergeSort_perm l (fun x y => decide (x ≤ y))
  generalize (l.mergeSort fun x y => decide (x ≤ y)) = s at hp hm
  have h := compact_up s.toArray (fun i j hij hj => by
    have hj' : j < s.length := by simpa using hj
    have := List.pairwise_iff_getElem.1 hp i j (by omega) hj' hij
    rw [getElem!_pos s.toArray i (by simp; omega), getElem!_pos s.toArray j hj]
    simpa using this) s.length (by simp)
  refine ⟨h.1, fun x => (h.2 x).trans ?_⟩
  rw [← hm.mem_iff]
  constructor
  · rintro ⟨j, hj, e⟩
    rw [← e, getElem!_pos s.toArray j (by simpa using hj)]
    simp
  · intro hx
    obtain ⟨j, hj, e⟩ := List.mem_iff_getElem.1 hx
    exact ⟨j, hj, by rw [getElem!_pos s.toArray j (by simpa using hj)]; simpa using e⟩
/-- c is the set of letters of a word of the tree's language. -/
def Cn : Tr → Nat → Prop
  | .nothing, _ => False
  | .empty, c => c = 0
  | .letter a, c => c = 2 ^ a
  | .sum x y, c => Cn x c ∨ Cn y c
  | .prod x y, c => ∃ a b, Cn x a ∧ Cn y b ∧ c = a ||| b
  | .star x, c => ∃ l : List Nat, (∀ a ∈ l, Cn x a) ∧ c = l.foldr (fun a b => a ||| b) 0
theorem or256 {a b : Nat} (ha : a < 256) (hb : b < 256) : a ||| b < 256 := Nat.or_lt_two_pow (n := 8) ha hb
theorem foldr256 {l : List Nat} (h : ∀ a ∈ l, a < 256) : l.foldr (fun a b => a ||| b) 0 < 256 := by
  induction l with
  | nil => decide
  | cons a l ih => exact or256 (h a (by simp)) (ih fun b hb => h b (by simp [hb]))
theorem Cn_lt {n : Int} (hn : n ≤ 8) : ∀ {t : Tr} {c : Nat}, t.ok n → Cn t c → c < 256
  | .nothing, _, _, h => h.elim
  | .empty, _, _, h => by rw [show _ = 0 from h]; decide
  | .letter a, _, ho, h => by
    have ha : (a : Int) < n := ho
    rw [show _ = 2 ^ a from h]
    exact Nat.pow_lt_pow_right (n := 8) (by decide) (by omega)
  | .sum x y, _, ho, h => by
    rcases h with h | h
    · exact Cn_lt hn ho.1 h
    · exact Cn_lt hn ho.2 h
  | .prod x y, _, ho, h => by
    obtain ⟨a, b, h1, h2, rfl⟩ := h
    exact or256 (Cn_lt hn ho.1 h1) (Cn_lt hn ho.2 h2)
  | .star x, _, ho, h => by
    obtain ⟨l, h1, rfl⟩ := h
    exact foldr256 fun a ha => Cn_lt hn (t := x) ho (h1 a ha)
/-- The rising list of what P holds of. -/
def IsL (P : Nat → Prop) (L : List Int) : Prop := L.Pairwise (· < ·) ∧ ∀ x, x ∈ L ↔ ∃ c : Nat, x = c ∧ P c
theorem IsL.eq {P : Nat → Prop} {L L' : List Int} (h : IsL P L) (h' : IsL P L') : L = L' := sorted_ext h.1 h'.1 fun x => (h.2 x).trans (h'.2 x).symm
theorem IsL.small {P : Nat → Prop} {L : List Int} (h : IsL P L) (hP : ∀ c, P c → c < 256) : (∀ x ∈ L, 0 ≤ x ∧ x < 256) ∧ L.length ≤ 256 := by
  have h1 : ∀ x ∈ L, 0 ≤ x ∧ x < 256 := fun x hx => by
    obtain ⟨c, rfl, hc⟩ := (h.2 x).1 hx
    have := hP c hc
    omega
  exact ⟨h1, masks_len (h.1.imp fun hab => by omega) h1⟩
theorem finish {out : List Int} {P : Nat → Prop} (hl : out.length ≤ 1048576) (hm : ∀ x, x ∈ out ↔ ∃ c : Nat, x = c ∧ P c) :
    EvP (fun _ => (slices_Sort_int64_int64.f out).bind fun t298 => ((slices_Compact_int64_int64.f t298).bind fun t299 => (some t299))) (IsL P) := by
  refine EvP.here (a := out.mergeSort fun x y => decide (x ≤ y)) ?_ (EvP.here (a := Lib.compact (out.mergeSort fun x y => decide (x ≤ y))) ?_ (EvP.ret ?_))
  · unfold slices_Sort_int64_int64.f
    rw [if_pos (by omega)]
  · unfold slices_Compact_int64_int64.f
    rw [if_pos (by rw [List.length_mergeSort]; omega)]
  · obtain ⟨h1, h2⟩ := sort_compact out
    exact ⟨h1, fun x => (h2 x).trans (hm x)⟩
theorem concat2 (a b : List Int) (h : a.length + b.length ≤ 1000) : Ev (fun k => slices_Concat_int64_int64.f k [a, b]) (a ++ b) := by
  have r0 : rd_L4 [a, b] ((0 : Nat) : Int) = a := rfl
  have r1 : rd_L4 [a, b] ((1 : Nat) : Int) = b := rfl
  have app : ∀ (i : Nat) (x l R : List Int), i < 2 → rd_L4 [a, b] (i : Int) = x → l.length + x.length ≤ 1000 →
      Ev (fun k => slices_Concat_int64_int64.l1 k (l ++ x) [a, b] 2 ((i + 1 : Nat) : Int)) R → Ev (fun k => slices_Concat_int64_int64.l1 k l [a, b] 2 (i : Int)) R := by
    intro i x l R hi hx hl k
    refine Ev.round ?_
    simp only [slices_Concat_int64_int64.l1]
    rw [hx, w64s (by omega)]
    exact Ev.yes (by omega) (Ev.yes (by omega) (Ev.yes (by simp; omega) (Ev.yes (by omega) k)))
  have cnt : ∀ (i : Nat) (x : List Int) (n : Nat) (R : List Int), i < 2 → rd_L4 [a, b] (i : Int) = x → n + x.length ≤ 1000 →
      Ev (fun k => slices_Concat_int64_int64.l0 k [a, b] ((n + x.length : Nat) : Int) [a, b] 2 ((i + 1 : Nat) : Int)) R → Ev (fun k => slices_Concat_int64_int64.l0 k [a, b] (n : Int) [a, b] 2 (i : Int)) R := by
    intro i x n R hi hx hl k
    refine Ev.round ?_
    simp only [slices_Concat_int64_int64.l0]
    rw [hx, w64s (by omega), w64 (n := (n : Int) + x.length) (by omega) (by omega)]
    exact Ev.yes (by omega) (Ev.yes (by omega) (Ev.yes (by simp; omega) (Ev.no (by omega) (by rw [show ((n : Int) + (x.length : Int)) = ((n + x.length : Nat) : Int) by omega]; exact k))))
  unfold slices_Concat_int64_int64.f
  refine cnt 0 a 0 _ (by omega) r0 (by omega) (cnt 1 b _ _ (by omega) r1 (by omega) ?_)
  refine Ev.round ?_
  simp only [slices_Concat_int64_int64.l0]
  refine Ev.no (by omega) (Ev.here (show slices_Grow_int64_int64.f _ _ = some [] from ?_) ?_)
  · unfold slices_Grow_int64_int64.f
    rw [if_pos ⟨rfl, by omega, by omega⟩]
  · refine app 0 a [] _ (by omega) r0 (by simp; omega) (app 1 b _ _ (by omega) r1 (by simp; omega) ?_)
    refine Ev.round ?_
    simp only [slices_Concat_int64_int64.l1]
    exact Ev.no (by omega) (Ev.now _)
theorem contains_ev (l : List Int) (v : Int) (hl : l.length ≤ 1048576) : Ev (fun k => slices_Contains_int64_int64.f k l v) (decide (v ∈ l)) := by
  unfold slices_Contains_int64_int64.f slices_Index_int64_int64.f
  have key : ∀ (d i : Nat), l.length - i = d → i ≤ l.length → ∃ r : Int, Ev (fun k => slices_Index_int64_int64.l0 k l v (l.length : Int) (i : Int)) r ∧ (0 ≤ r ↔ v ∈ l.drop i) := by
    intro d
    induction d with
    | zero =>
      intro i hd hi
      have : i = l.length := by omega
      subst this
      refine ⟨-1, Ev.round ?_, by simp⟩
      simp only [slices_Index_int64_int64.l0]
      exact Ev.no (by omega) (Ev.now _)
    | succ d ih =>
      intro i hd hi
      have hlt : i < l.length := by omega
      obtain ⟨r, hr, hm⟩ := ih (i + 1) (by omega) (by omega)
      rw [List.drop_eq_getElem_cons hlt]
      by_cases hv : v = l[i]
      · refine ⟨(i : Int), Ev.round ?_, ⟨fun _ => by rw [hv]; exact List.mem_cons_self, fun _ => by omega⟩⟩
        simp only [slices_Index_int64_int64.l0]
        refine Ev.yes (by omega) (Ev.yes (by omega) (Ev.yes (by omega) (Ev.yes ?_ (Ev.now _))))
        rw [rd_lt hlt]; exact hv
      · refine ⟨r, Ev.round ?_, ?_⟩
        · simp only [slices_Index_int64_int64.l0]
          refine Ev.yes (by omega) (Ev.yes (by omega) (Ev.yes (by omega) (Ev.no ?_ ?_)))
          · rw [rd_lt hlt]; exact hv
          · rw [w64s (by omega)]; exact hr
        · rw [hm, List.mem_cons]
          constructor
          · exact fun h => .inr h
          · rintro (h | h)
            · exact absurd h hv
            · exact h
  obtain ⟨r, hr, hm⟩ := key l.length 0 (by omega) (by omega)
  refine Ev.bind hr (Ev.now' fun _ => ?_)
  have : decide (r ≥ 0) = decide (v ∈ l) := decide_eq_decide.2 (by rw [ge_iff_le, hm]; simp)
  rw [this]
theorem bor' {a b : Nat} (ha : a < 256) (hb : b < 256) : Go.bits .or .i64 (a : Int) (b : Int) = ((a ||| b : Nat) : Int) := bor (by omega) (by omega)
/-- The inner loop of a product. -/
theorem prod_in (x3 : List (List TmT)) (x81 L2 : List Int) (x82 x83 : Int) (c : Nat) (hc : c < 256) (h2 : ∀ y ∈ L2, 0 ≤ y ∧ y < 256) (hl2 : L2.length ≤ 256) (Q : List Int → Prop) (o : List Int) (ho : o.length ≤ 65536)
    (k0 : EvP (fun k => impl_contents.l0 k x3 (o ++ L2.map fun y => ((c ||| y.toNat : Nat) : Int)) x81 x82 (wrap64 (x83 + 1))) Q) :
    EvP (fun k => impl_contents.l1 k x3 o (c : Int) x81 x82 x83 L2 (L2.length : Int) ((0 : Nat) : Int)) Q := by
  refine EvP.up (fun k o i => impl_contents.l1 k x3 o (c : Int) x81 x82 x83 L2 (L2.length : Int) i) Q L2.length (fun i o' => o' = o ++ (L2.take i).map fun y => ((c ||| y.toNat : Nat) : Int)) (fun o' hI => ?_) (fun i o' hi hI next => ?_) 0 o (by omega) (by simp)
  · subst hI
    refine EvP.round ?_
    simp only [impl_contents.l1]
    rw [List.take_length]
    exact EvP.no (by omega) k0
  · subst hI
    refine EvP.round ?_
    simp only [impl_contents.l1]
    refine EvP.yes (by omega) (EvP.yes (by omega) (EvP.yes (by omega) (EvP.yes ?_ ?_)))
    · rw [List.length_append, List.length_map, List.length_take]; omega
    · obtain ⟨h0, h1⟩ := h2 L2[i] (List.getElem_mem hi)
      rw [rd_lt hi, w64s (by omega), show L2[i] = ((L2[i].toNat : Nat) : Int) by omega, bor' hc (by omega)]
      refine next _ ?_
      rw [List.take_succ_eq_append_getElem hi, List.map_append, List.append_assoc]
      simp
/-- The outer loop of a product. -/
theorem prod_out (s : Tr) (x3 : List (List TmT)) (hx3 : 1 < x3.length) (hs : rd_L6 x3 (1 : Int) = s.enc) (P1 : Nat → Prop) (L1 : List Int) (hL1 : IsL P1 L1) (hP1 : ∀ c, P1 c → c < 256) (hP2 : ∀ c, Cn s c → c < 256)
    (hE : EvP (fun k => impl_contents.f k s.enc) (IsL (Cn s))) :
    EvP (fun k => impl_contents.l0 k x3 [] L1 (L1.length : Int) ((0 : Nat) : Int)) (IsL fun c => ∃ a b, P1 a ∧ Cn s b ∧ c = a ||| b) := by
  obtain ⟨L2, hE2, hL2⟩ := hE
  obtain ⟨h1, h1l⟩ := hL1.small hP1
  obtain ⟨h2, h2l⟩ := hL2.small hP2
  refine EvP.up (fun k o i => impl_contents.l0 k x3 o L1 (L1.length : Int) i) _ L1.length (fun i o => o = ((L1.take i).map fun a => L2.map fun y => ((a.toNat ||| y.toNat : Nat) : Int)).flatten) (fun o hI => ?_) (fun i o hi hI next => ?_) 0 [] (by omega) (by simp)
  · refine EvP.round ?_
    simp only [impl_contents.l0]
    refine EvP.no (by omega) (finish ?_ ?_)
    · subst hI
      rw [List.length_flatten, List.map_map]
      have : ∀ l : List Int, l.length ≤ 256 → (l.map (List.length ∘ fun a => L2.map fun y => ((a.toNat ||| y.toNat : Nat) : Int))).sum ≤ l.length * 256 := by
        intro l _
        induction l with
        | nil => simp
        | cons a l ih =>
          have ih := ih (by simp at *; omega)
          simp only [List.map_cons, List.sum_cons, Function.comp, List.length_map, List.length_cons] at *
          omega
      have := this (L1.take L1.length) (by rw [List.length_take]; omega)
      rw [List.length_take] at this
      omega
    · intro x
      subst hI
      rw [List.take_length, List.mem_flatten]
      constructor
      · rintro ⟨l, hl, hx⟩
        obtain ⟨a, ha, rfl⟩ := List.mem_map.1 hl
        obtain ⟨y, hy, rfl⟩ := List.mem_map.1 hx
        obtain ⟨c, rfl, hc⟩ := (hL1.2 a).1 ha
        obtain ⟨d, rfl, hd⟩ := (hL2.2 y).1 hy
        exact ⟨_, rfl, c, d, hc, hd, by simp⟩
      · rintro ⟨c, rfl, a, b, ha, hb, rfl⟩
        exact ⟨_, List.mem_map.2 ⟨(a : Int), (hL1.2 _).2 ⟨a, rfl, ha⟩, rfl⟩, List.mem_map.2 ⟨(b : Int), (hL2.2 _).2 ⟨b, rfl, hb⟩, by simp⟩⟩
  · refine EvP.round ?_
    simp only [impl_contents.l0]
    refine EvP.yes (by omega) (EvP.yes (by omega) (EvP.yes (by omega) (EvP.yes (by omega) ?_)))
    rw [hs]
    refine EvP.bind hE2 ?_
    obtain ⟨h0, h3⟩ := h1 L1[i] (List.getElem_mem hi)
    rw [rd_lt hi, show L1[i] = ((L1[i].toNat : Nat) : Int) by omega]
    have hlo : o.length ≤ 65536 := by
      subst hI
      rw [List.length_flatten, List.map_map]
      have : ∀ l : List Int, (l.map (List.length ∘ fun a => L2.map fun y => ((a.toNat ||| y.toNat : Nat) : Int))).sum ≤ l.length * 256 := by
        intro l
        induction l with
        | nil => simp
        | cons a l ih =>
          simp only [List.map_cons, List.sum_cons, Function.comp, List.length_map, List.length_cons] at *
          omega
      have := this (L1.take i)
      rw [List.length_take] at this
      omega
    refine prod_in x3 L1 L2 _ _ L1[i].toNat (by omega) h2 h2l _ o hlo ?_
    rw [w64s (by omega)]
    refine next _ ?_
    subst hI
    rw [List.take_succ_eq_append_getElem hi, List.map_append, List.flatten_append]
    simp
/-- What lists of a set's members come to. -/
def Ors (A : Nat → Prop) (c : Nat) : Prop := ∃ l : List Nat, (∀ a ∈ l, A a) ∧ c = l.foldr (fun a b => a ||| b) 0
theorem Ors_zero (A : Nat → Prop) : Ors A 0 := ⟨[], by simp, rfl⟩
theorem Ors_cons {A : Nat → Prop} {a c : Nat} (ha : A a) (h : Ors A c) : Ors A (a ||| c) := by
  obtain ⟨l, h1, rfl⟩ := h
  exact ⟨a :: l, fun b hb => by
    rcases List.mem_cons.1 hb with rfl | hb
    · exact ha
    · exact h1 b hb, rfl⟩
theorem Ors_mono {A B : Nat → Prop} (h : ∀ a, A a → B a) {c : Nat} (hc : Ors A c) : Ors B c := by
  obtain ⟨l, h1, rfl⟩ := hc
  exact ⟨l, fun a ha => h a (h1 a ha), rfl⟩
/-- One member more. -/
theorem Ors_more {A : Nat → Prop} {b c : Nat} : Ors (fun a => A a ∨ a = b) c ↔ Ors A c ∨ ∃ d, Ors A d ∧ c = b ||| d := by
  constructor
  · rintro ⟨l, h1, rfl⟩
    induction l with
    | nil => exact .inl (Ors_zero A)
    | cons a l ih =>
      have ih := ih fun x hx => h1 x (by simp [hx])
      rcases h1 a (by simp) with ha | rfl
      · rcases ih with h | ⟨d, hd, e⟩
        · exact .inl (Ors_cons ha h)
        · refine .inr ⟨a ||| d, Ors_cons ha hd, ?_⟩
          simp only [List.foldr_cons]
          rw [e, ← Nat.or_assoc, Nat.or_comm a b, Nat.or_assoc]
      · rcases ih with h | ⟨d, hd, e⟩
        · exact .inr ⟨_, h, rfl⟩
        · refine .inr ⟨d, hd, ?_⟩
          simp only [List.foldr_cons]
          rw [e, ← Nat.or_assoc, Nat.or_self]
  · rintro (h | ⟨d, hd, rfl⟩)
    · exact Ors_mono (fun a ha => .inl ha) h
    · exact Ors_cons (.inr rfl) (Ors_mono (fun a ha => .inl ha) hd)
theorem Ors_256 {A : Nat → Prop} (h : ∀ a, A a → a < 256) {c : Nat} (hc : Ors A c) : c < 256 := by
  obtain ⟨l, h1, rfl⟩ := hc
  exact foldr256 fun a ha => h a (h1 a ha)
/-- What the list of a star is while it grows: none twice, masks. -/
structure StL (P : Nat → Prop) (o : List Int) : Prop where
  nodup : o.Nodup
  mem : ∀ x, x ∈ o ↔ ∃ c : Nat, x = c ∧ P c
theorem StL.small {P : Nat → Prop} {o : List Int} (h : StL P o) (hP : ∀ c, P c → c < 256) : (∀ x ∈ o, 0 ≤ x ∧ x < 256) ∧ o.length ≤ 256 := by
  have h1 : ∀ x ∈ o, 0 ≤ x ∧ x < 256 := fun x hx => by
    obtain ⟨c, rfl, hc⟩ := (h.mem x).1 hx
    have := hP c hc
    omega
  exact ⟨h1, masks_len h.nodup h1⟩
theorem star_in (x43 : List Int) (x44 x45 : Int) (b : Nat) (hb : b < 256) (A : Nat → Prop) (hA : ∀ a, A a → a < 256) (S : List Int) (hS : StL A S) (Q : List Int → Prop)
    (k0 : ∀ o, StL (fun c => A c ∨ ∃ d, A d ∧ c = b ||| d) o → EvP (fun k => impl_contents.l2 k o x43 x44 (wrap64 (x45 + 1))) Q) :
    EvP (fun k => impl_contents.l3 k S (b : Int) x43 x44 x45 S (S.length : Int) ((0 : Nat) : Int)) Q := by
  obtain ⟨hs, hsl⟩ := hS.small hA
  have hB : ∀ (i : Nat) (c : Nat), (A c ∨ ∃ d : Nat, (d : Int) ∈ S.take i ∧ c = b ||| d) → c < 256 := by
    rintro i c (h | ⟨d, hd, rfl⟩)
    · exact hA c h
    · have := hs _ (List.mem_of_mem_take hd)
      exact or256 hb (by omega)
  refine EvP.up (fun k o i => impl_contents.l3 k o (b : Int) x43 x44 x45 S (S.length : Int) i) Q S.length (fun i o => StL (fun c => A c ∨ ∃ d : Nat, (d : Int) ∈ S.take i ∧ c = b ||| d) o) (fun o hI => ?_) (fun i o hi hI next => ?_) 0 S (by omega) ?_
  · refine EvP.round ?_
    simp only [impl_contents.l3]
    refine EvP.no (by omega) (k0 o ⟨hI.nodup, fun x => (hI.mem x).trans ?_⟩)
    rw [List.take_length]
    constructor
    · rintro ⟨c, e, h | ⟨d, hd, e2⟩⟩
      · exact ⟨c, e, .inl h⟩
      · obtain ⟨d', e3, hd'⟩ := (hS.mem _).1 hd
        have : d = d' := by omega
        subst this
        exact ⟨c, e, .inr ⟨d, hd', e2⟩⟩
    · rintro ⟨c, e, h | ⟨d, hd, e2⟩⟩
      · exact ⟨c, e, .inl h⟩
      · exact ⟨c, e, .inr ⟨d, (hS.mem _).2 ⟨d, rfl, hd⟩, e2⟩⟩
  · obtain ⟨ho, hol⟩ := hI.small (hB i)
    obtain ⟨h0, h1⟩ := hs S[i] (List.getElem_mem hi)
    refine EvP.round ?_
    simp only [impl_contents.l3]
    rw [rd_lt hi, w64s (by omega), show S[i] = ((S[i].toNat : Nat) : Int) by omega, bor' hb (by omega)]
    have hmore : ∀ c : Nat, (A c ∨ ∃ d : Nat, (d : Int) ∈ S.take (i + 1) ∧ c = b ||| d) ↔ ((A c ∨ ∃ d : Nat, (d : Int) ∈ S.take i ∧ c = b ||| d) ∨ c = b ||| S[i].toNat) := by
      intro c
      rw [List.take_succ_eq_append_getElem hi]
      constructor
      · rintro (h | ⟨d, hd, e⟩)
        · exact .inl (.inl h)
        · rcases List.mem_append.1 hd with hd | hd
          · exact .inl (.inr ⟨d, hd, e⟩)
          · have : (d : Int) = S[i] := by simpa using hd
            exact .inr (by rw [e, show d = S[i].toNat by omega])
      · rintro ((h | ⟨d, hd, e⟩) | e)
        · exact .inl h
        · exact .inr ⟨d, List.mem_append_left _ hd, e⟩
        · exact .inr ⟨S[i].toNat, List.mem_append_right _ (by simp; omega), e⟩
    refine EvP.yes (by omega) (EvP.yes (by omega) (EvP.yes (by omega) (EvP.bind (contains_ev o _ (by omega)) ?_)))
    by_cases hin : ((b ||| S[i].toNat : Nat) : Int) ∈ o
    · rw [decide_eq_true hin]
      refine EvP.yes rfl (next o ⟨hI.nodup, fun x => (hI.mem x).trans ?_⟩)
      constructor
      · rintro ⟨c, e, h⟩
        exact ⟨c, e, (hmore c).2 (.inl h)⟩
      · rintro ⟨c, e, h⟩
        rcases (hmore c).1 h with h | rfl
        · exact ⟨c, e, h⟩
        · exact e ▸ (hI.mem _).1 hin
    · rw [decide_eq_false hin]
      refine EvP.no (by simp) (EvP.yes (by omega) (next _ ⟨?_, fun x => ?_⟩))
      · rw [List.nodup_append]
        refine ⟨hI.nodup, by simp, fun a ha c hc => ?_⟩
        have : c = ((b ||| S[i].toNat : Nat) : Int) := by simpa using hc
        subst this
        exact fun e => hin (e ▸ ha)
      · rw [List.mem_append, hI.mem]
        constructor
        · rintro (⟨c, e, h⟩ | h)
          · exact ⟨c, e, (hmore c).2 (.inl h)⟩
          · exact ⟨b ||| S[i].toNat, by simpa using h, (hmore _).2 (.inr rfl)⟩
        · rintro ⟨c, e, h⟩
          rcases (hmore c).1 h with h | rfl
          · exact .inl ⟨c, e, h⟩
          · exact .inr (by simp [e])
  · exact ⟨hS.nodup, fun x => (hS.mem x).trans ⟨fun ⟨c, e, h⟩ => ⟨c, e, .inl h⟩, fun ⟨c, e, h⟩ => ⟨c, e, h.elim id fun ⟨d, hd, _⟩ => absurd hd (by simp)⟩⟩⟩
theorem star_out (P1 : Nat → Prop) (L1 : List Int) (hL1 : IsL P1 L1) (hP1 : ∀ c, P1 c → c < 256) :
    EvP (fun k => impl_contents.l2 k [0] L1 (L1.length : Int) ((0 : Nat) : Int)) (IsL (Ors P1)) := by
  obtain ⟨h1, h1l⟩ := hL1.small hP1
  have hT : ∀ (i : Nat) (a : Nat), (a : Int) ∈ L1.take i → a < 256 := fun i a ha => by
    have := h1 _ (List.mem_of_mem_take ha)
    omega
  refine EvP.up (fun k o i => impl_contents.l2 k o L1 (L1.length : Int) i) _ L1.length (fun i o => StL (Ors fun a => (a : Int) ∈ L1.take i) o) (fun o hI => ?_) (fun i o hi hI next => ?_) 0 [0] (by omega) ?_
  · refine EvP.round ?_
    simp only [impl_contents.l2]
    obtain ⟨ho, hol⟩ := hI.small (fun c hc => Ors_256 (hT L1.length) hc)
    refine EvP.no (by omega) (finish (by omega) fun x => (hI.mem x).trans ?_)
    rw [List.take_length]
    have e : ∀ a : Nat, (a : Int) ∈ L1 ↔ P1 a := fun a => (hL1.2 _).trans ⟨fun ⟨c, h, hc⟩ => by rw [show a = c by omega]; exact hc, fun h => ⟨a, rfl, h⟩⟩
    constructor
    · rintro ⟨c, e1, h⟩
      exact ⟨c, e1, Ors_mono (fun a ha => (e a).1 ha) h⟩
    · rintro ⟨c, e1, h⟩
      exact ⟨c, e1, Ors_mono (fun a ha => (e a).2 ha) h⟩
  · obtain ⟨ho, hol⟩ := hI.small (fun c hc => Ors_256 (hT i) hc)
    obtain ⟨h0, h3⟩ := h1 L1[i] (List.getElem_mem hi)
    refine EvP.round ?_
    simp only [impl_contents.l2]
    refine EvP.yes (by omega) (EvP.yes (by omega) (EvP.yes (by omega) (EvP.here (show slices_Clone_int64_int64.f o = some o from ?_) ?_)))
    · unfold slices_Clone_int64_int64.f
      rw [if_pos (by omega)]
    · rw [rd_lt hi, show L1[i] = ((L1[i].toNat : Nat) : Int) by omega]
      refine star_in L1 _ _ L1[i].toNat (by omega) _ (fun c hc => Ors_256 (hT i) hc) o hI _ (fun o' ho' => ?_)
      rw [w64s (by omega)]
      refine next o' ⟨ho'.nodup, fun x => (ho'.mem x).trans ?_⟩
      have e : ∀ c, Ors (fun a => (a : Int) ∈ L1.take (i + 1)) c ↔ Ors (fun a => ((a : Int) ∈ L1.take i) ∨ a = L1[i].toNat) c := by
        intro c
        rw [List.take_succ_eq_append_getElem hi]
        constructor <;> refine fun h => Ors_mono (fun a ha => ?_) h
        · rcases List.mem_append.1 ha with h | h
          · exact .inl h
          · have : (a : Int) = L1[i] := by simpa using h
            exact .inr (by omega)
        · rcases ha with h | h
          · exact List.mem_append_left _ h
          · exact List.mem_append_right _ (by simp; omega)
      constructor
      · rintro ⟨c, e1, h⟩
        exact ⟨c, e1, (e c).2 (Ors_more.2 h)⟩
      · rintro ⟨c, e1, h⟩
        exact ⟨c, e1, Ors_more.1 ((e c).1 h)⟩
  · refine ⟨by simp, fun x => ?_⟩
    rw [List.mem_singleton]
    constructor
    · rintro rfl
      exact ⟨0, rfl, Ors_zero _⟩
    · rintro ⟨c, rfl, l, hl, rfl⟩
      cases l with
      | nil => rfl
      | cons a l => exact absurd (hl a (by simp)) (by simp)
theorem cont_impl {n : Int} (hn : n ≤ 8) : ∀ (t : Tr), t.ok n → t.enc.length ≤ 24 → EvP (fun k => impl_contents.f k t.enc) (IsL (Cn t))
  | .nothing, _, _ => by
    refine EvP.round ?_
    simp only [impl_contents.f]
    refine EvP.yes (by simp [Tr.enc]) (EvP.yes rfl (EvP.ret ⟨by simp, by simp [Cn]⟩))
  | .empty, _, _ => by
    refine EvP.round ?_
    simp only [impl_contents.f]
    refine EvP.yes (by simp [Tr.enc]) (EvP.no (by decide) (EvP.yes rfl (EvP.ret ⟨by simp, fun x => ?_⟩)))
    simp only [List.mem_singleton, Cn]
    exact ⟨fun h => ⟨0, h, rfl⟩, fun ⟨c, h, e⟩ => by rw [h, e]; rfl⟩
  | .letter a, ho, _ => by
    have ha : (a : Int) < n := ho
    refine EvP.round ?_
    simp only [impl_contents.f]
    refine EvP.yes (by simp [Tr.enc]) (EvP.no (by exact (by decide : ¬ (2 : Int) = 0)) (EvP.no (by exact (by decide : ¬ (2 : Int) = 1)) (EvP.yes rfl (EvP.here (show impl_one.f (a : Int) = some (((2 ^ a : Nat) : Int)) from ?_) (EvP.ret ⟨by simp, fun x => ?_⟩)))))
    · unfold impl_one.f
      rw [if_pos (by omega), shl1 (by omega)]
    · simp only [List.mem_singleton, Cn]
      exact ⟨fun h => ⟨2 ^ a, h, rfl⟩, fun ⟨c, h, e⟩ => by rw [h, e]⟩
  | .sum x y, ho, hl => by
    have hx : x.enc.length ≤ 24 := by simp [Tr.enc] at hl; omega
    have hy : y.enc.length ≤ 24 := by simp [Tr.enc] at hl; omega
    refine EvP.round ?_
    simp only [impl_contents.f]
    refine EvP.yes (by first | (simp [Tr.enc]; done) | (simp [Tr.enc]; omega)) (EvP.no (by exact (by decide : ¬ (3 : Int) = 0)) (EvP.no (by exact (by decide : ¬ (3 : Int) = 1)) (EvP.no (by exact (by decide : ¬ (3 : Int) = 2)) (EvP.bind (parts_ev _ hl) (EvP.yes (by simp [Tr.parts]) (EvP.bindP (cont_impl hn x ho.1 hx) fun L1 hL1 => EvP.yes rfl (EvP.yes (by simp [Tr.parts]) (EvP.bindP (cont_impl hn y ho.2 hy) fun L2 hL2 => ?_))))))))
    obtain ⟨h1, h1l⟩ := hL1.small fun c hc => Cn_lt hn ho.1 hc
    obtain ⟨h2, h2l⟩ := hL2.small fun c hc => Cn_lt hn ho.2 hc
    refine EvP.bind (concat2 L1 L2 (by omega)) (finish (by rw [List.length_append]; omega) fun z => ?_)
    rw [List.mem_append, hL1.2, hL2.2]
    constructor
    · rintro (⟨c, e, h⟩ | ⟨c, e, h⟩)
      · exact ⟨c, e, .inl h⟩
      · exact ⟨c, e, .inr h⟩
    · rintro ⟨c, e, h | h⟩
      · exact .inl ⟨c, e, h⟩
      · exact .inr ⟨c, e, h⟩
  | .prod x y, ho, hl => by
    have hx : x.enc.length ≤ 24 := by simp [Tr.enc] at hl; omega
    have hy : y.enc.length ≤ 24 := by simp [Tr.enc] at hl; omega
    refine EvP.round ?_
    simp only [impl_contents.f]
    refine EvP.yes (by first | (simp [Tr.enc]; done) | (simp [Tr.enc]; omega)) (EvP.no (by exact (by decide : ¬ (4 : Int) = 0)) (EvP.no (by exact (by decide : ¬ (4 : Int) = 1)) (EvP.no (by exact (by decide : ¬ (4 : Int) = 2)) (EvP.bind (parts_ev _ hl) (EvP.yes (by simp [Tr.parts]) (EvP.bindP (cont_impl hn x ho.1 hx) fun L1 hL1 => EvP.no (by exact (by decide : ¬ (4 : Int) = 3)) (EvP.yes rfl ?_)))))))
    exact prod_out y _ (by simp [Tr.parts]) rfl (Cn x) L1 hL1 (fun c hc => Cn_lt hn ho.1 hc) (fun c hc => Cn_lt hn ho.2 hc) (cont_impl hn y ho.2 hy)
  | .star x, ho, hl => by
    have hx : x.enc.length ≤ 24 := by simp [Tr.enc] at hl; omega
    refine EvP.round ?_
    simp only [impl_contents.f]
    refine EvP.yes (by first | (simp [Tr.enc]; done) | (simp [Tr.enc]; omega)) (EvP.no (by exact (by decide : ¬ (5 : Int) = 0)) (EvP.no (by exact (by decide : ¬ (5 : Int) = 1)) (EvP.no (by exact (by decide : ¬ (5 : Int) = 2)) (EvP.bind (parts_ev _ hl) (EvP.yes (by simp [Tr.parts]) (EvP.bindP (cont_impl hn x ho hx) fun L1 hL1 => EvP.no (by exact (by decide : ¬ (5 : Int) = 3)) (EvP.no (by exact (by decide : ¬ (5 : Int) = 4)) ?_)))))))
    exact star_out (Cn x) L1 hL1 fun c hc => Cn_lt (t := x) hn ho hc
end Go.Proofs.YtcbcfkmeemenkaaDoor.U
end M3
