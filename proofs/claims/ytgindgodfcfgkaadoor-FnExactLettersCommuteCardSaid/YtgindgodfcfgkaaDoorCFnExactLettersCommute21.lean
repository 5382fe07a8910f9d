import Derived.Test.YtgindgodfcfgkaaDoorCFnExactLettersCommute20
section M0
namespace Go.Proofs.YtgindgodfcfgkaaDoor.U
open Go.RowKit Go.Proofs.YtgindgodfcfgkaaDoor.P Go.Proofs.YtgindgodfcfgkaaDoorW.PrintWords Go.Proofs.YtgindgodfcfgkaaDoorW.PrintLast Go.Proofs.YtgindgodfcfgkaaDoorW.PrintMore
set_option linter.unusedVariables false
/-! Alphabets: both tests answer alike. -/
def inI (a lo hi : Int) : Bool := decide (lo ≤ a) && decide (a ≤ hi)
theorem inI_iff {a lo hi : Int} : inI a lo hi = true ↔ lo ≤ a ∧ a ≤ hi := by unfold inI; simp
theorem spInI (a lo hi : Int) : Zau.f a lo hi = some (inI a lo hi) := by
  unfold Zau.f inI
  by_cases h : lo ≤ a
  · rw [if_pos h, decide_eq_true h, Bool.true_and]
  · rw [if_neg h, decide_eq_false h, Bool.false_and]
theorem imInI (a lo hi : Int) : Zbv.f a lo hi = some (inI a lo hi) := by
  unfold Zbv.f inI
  by_cases h : lo ≤ a
  · rw [if_pos h, decide_eq_true h, Bool.true_and]
  · rw [if_neg h, decide_eq_false h, Bool.false_and]
theorem u64i {n : Nat} (h : n < 18446744073709551616) : IntKind.u64.wrap (n : Int) = (n : Int) := by
  show (n : Int) % 18446744073709551616 = n
  omega
theorem spOneI {i : Nat} (h : i < 63) : Zda.f (i : Int) = some ((2 ^ i : Nat) : Int) := by
  unfold Zda.f
  rw [u64i (by omega), if_pos (by omega), shl1 h]
theorem imOneI {i : Nat} (h : i < 63) : Zdl.f (i : Int) = some ((2 ^ i : Nat) : Int) := by
  unfold Zdl.f
  rw [if_pos (by omega), shl1 h]
theorem fullW {n : Nat} (h : n < 63) : wrap64 (((2 ^ n : Nat) : Int) - 1) = ((2 ^ n - 1 : Nat) : Int) := by
  have h1 := Nat.pow_lt_pow_right (a := 2) (by decide) h
  have h2 : 0 < 2 ^ n := Nat.pow_pos (by decide)
  generalize 2 ^ n = p at h1 h2
  have h3 : (2 : Nat) ^ 63 = 9223372036854775808 := by decide
  rw [h3] at h1
  rw [w64 (by omega) (by omega)]
  omega
theorem spFullI {n : Nat} (h : n < 63) : Zb4.f (n : Int) = some ((2 ^ n - 1 : Nat) : Int) := by
  unfold Zb4.f
  rw [spOneI h]
  simp only [Option.bind_some]
  rw [fullW h]
theorem spBitI {m s : Nat} (hm : m < 2 ^ 63) (hs : s ≤ 64) : Zbc.f (m : Int) (s : Int) = some (m.testBit s) := by
  unfold Zbc.f
  rw [u64i (by omega), if_pos (by omega), hasN hm hs]
theorem imHasI {m s : Nat} (hm : m < 2 ^ 63) (hs : s ≤ 64) : Zde.f (m : Int) (s : Int) = some (m.testBit s) := by
  unfold Zde.f
  rw [if_pos (by omega), hasN hm hs]
/-- Does row a of a relation have b? -/
def bt (d : List Int) (a b : Nat) : Bool := (d.getD a 0).toNat.testBit b
def okRow (d : List Int) (a : Nat) : Prop := bt d a a = true ∧ ∀ b, b < d.length → bt d a b = bt d b a
instance (d : List Int) (a : Nat) : Decidable (okRow d a) := by unfold okRow; exact inferInstance
def symB (d : List Int) : Bool := decide (∀ a, a < d.length → okRow d a)
/-- Is it an alphabet? -/
def alB (n : Int) (d : List Int) : Bool := inI n 0 8 && (decide ((d.length : Int) = n) && ((d.all fun t => inI t 0 ((2 ^ d.length - 1 : Nat) : Int)) && symB d))
theorem symB_no {d : List Int} {a : Nat} (ha : a < d.length) (h : ¬ okRow d a) : symB d = false := decide_eq_false fun hh => h (hh a ha)
theorem masks_ev (d : List Int) (hn : d.length ≤ 8) : Ev (fun k => Zbw.f k (d.length : Int) d) (d.all fun t => inI t 0 ((2 ^ d.length - 1 : Nat) : Int)) := by
  have key := Ev.up (fun k (_ : Unit) i => Zbw.l0 k (d.length : Int) d i) d.length (fun i _ => (d.drop i).all fun t => inI t 0 ((2 ^ d.length - 1 : Nat) : Int)) (fun _ _ => True)
    (fun _ _ => by
      refine Ev.round ?_
      simp only [Zbw.l0]
      refine Ev.no (by omega) ?_
      rw [List.drop_length]
      exact Ev.now _)
    (fun i _ hi _ ih => by
      refine Ev.round ?_
      simp only [Zbw.l0]
      refine Ev.yes (by omega) (Ev.yes (by omega) (Ev.here (spFullI (by omega)) (Ev.here (spInI _ _ _) ?_)))
      rw [rd_lt hi, w64s (by omega), List.drop_eq_getElem_cons hi, List.all_cons]
      cases inI d[i] 0 ((2 ^ d.length - 1 : Nat) : Int)
      · exact Ev.no (by simp) (Ev.now _)
      · exact Ev.yes rfl (ih () trivial))
  have := key 0 () (by omega) trivial
  unfold Zbw.f
  simpa using this
/-- The rows are sets of letters. -/
def Sets (d : List Int) : Prop := d.length ≤ 8 ∧ ∀ a, a < d.length → 0 ≤ d.getD a 0 ∧ (d.getD a 0).toNat < 2 ^ d.length
theorem Sets.small {d : List Int} (h : Sets d) {a : Nat} (ha : a < d.length) : (d.getD a 0).toNat < 256 :=
  Nat.lt_of_lt_of_le (h.2 a ha).2 (show 2 ^ d.length ≤ 2 ^ 8 from Nat.pow_le_pow_right (by decide) h.1)
theorem Sets.rdE {d : List Int} (h : Sets d) {a : Nat} (ha : a < d.length) : rd d (a : Int) = ((d.getD a 0).toNat : Int) := by
  rw [rdn]; exact (Int.toNat_of_nonneg (h.2 a ha).1).symm
theorem sets_of {d : List Int} (hn : d.length ≤ 8) (h : (d.all fun t => inI t 0 ((2 ^ d.length - 1 : Nat) : Int)) = true) : Sets d := by
  refine ⟨hn, fun a ha => ?_⟩
  have := List.all_eq_true.1 h _ (List.getElem_mem ha)
  rw [inI_iff] at this
  rw [List.getD_eq_getElem?_getD, List.getElem?_eq_getElem ha]
  simp only [Option.getD_some]
  have h2 : 0 < 2 ^ d.length := Nat.pow_pos (by decide)
  generalize 2 ^ d.length = p at this h2
  omega
theorem spBitR {d : List Int} (h : Sets d) {a b : Nat} (ha : a < d.length) (hb : b ≤ 64) : Zbc.f (rd d (a : Int)) (b : Int) = some (bt d a b) := by
  rw [h.rdE ha, spBitI (Nat.lt_of_lt_of_le (h.small ha) (by decide)) hb]
  rfl
theorem l02Loop (d : List Int) (h : Sets d) : Ev (fun k => Zba.l0 k 0 (d.length : Int) d) (symB d) := by
  have hn := h.1
  have key := Ev.up (fun k (_ : Unit) i => Zba.l0 k i (d.length : Int) d) d.length (fun _ _ => symB d) (fun i _ => ∀ a, a < i → okRow d a)
    (fun _ hI => by
      refine Ev.round ?_
      simp only [Zba.l0]
      refine Ev.no (by omega) ?_
      rw [show symB d = true from decide_eq_true hI]
      exact Ev.now _)
    (fun i _ hi hI ih => by
      refine Ev.round ?_
      simp only [Zba.l0]
      refine Ev.yes (by omega) (Ev.yes (by omega) (Ev.yes (by omega) (Ev.here (spBitR h hi (by omega)) ?_)))
      cases hb : bt d i i
      · refine Ev.no (by simp) ?_
        rw [symB_no hi (fun hh => by rw [hh.1] at hb; cases hb)]
        exact Ev.now _
      refine Ev.yes rfl ?_
      have inner := Ev.up (fun k (_ : Unit) j => Zba.l1 k (i : Int) j (d.length : Int) d) d.length (fun _ _ => symB d) (fun j _ => ∀ b, b < j → bt d i b = bt d b i)
        (fun _ hJ => by
          refine Ev.round ?_
          simp only [Zba.l1]
          refine Ev.no (by omega) ?_
          rw [w64s (by omega)]
          refine ih () fun a ha => ?_
          by_cases e : a = i
          · subst e; exact ⟨hb, hJ⟩
          · exact hI a (by omega))
        (fun j _ hj hJ ihj => by
          refine Ev.round ?_
          simp only [Zba.l1]
          refine Ev.yes (by omega) (Ev.yes (by omega) (Ev.yes (by omega) (Ev.here (spBitR h hi (by omega)) (Ev.yes (by omega) (Ev.yes (by omega) (Ev.here (spBitR h hj (by omega)) ?_))))))
          rw [w64s (by omega)]
          by_cases e : bt d i j = bt d j i
          · refine Ev.no (by simp [e]) (ihj () fun b hb' => ?_)
            by_cases e' : b = j
            · subst e'; exact e
            · exact hJ b (by omega)
          · refine Ev.yes (by simp [e]) ?_
            rw [symB_no hi (fun hh => e (hh.2 j hj))]
            exact Ev.now _)
      have := inner 0 () (by omega) (fun b hb => absurd hb (by omega))
      simpa using this)
  have := key 0 () (by omega) (fun b hb => absurd hb (by omega))
  simpa using this
theorem l02Is_ev (n : Int) (d : List Int) : Ev (fun k => Zba.f k n d) (alB n d) := by
  unfold Zba.f alB
  have hno : Ev (fun k => Zba.j0 k true n d) false := Ev.round (by simp only [Zba.j0]; exact Ev.yes (by trivial) (Ev.now _))
  refine Ev.here (spInI _ _ _) ?_
  cases h1 : inI n 0 8
  · exact Ev.no (by simp) hno
  rw [inI_iff] at h1
  refine Ev.yes rfl ?_
  by_cases h2 : (d.length : Int) = n
  · subst h2
    refine Ev.yes rfl (Ev.bind (masks_ev d (by omega)) (Ev.round ?_))
    simp only [Zba.j0]
    rw [decide_true]
    cases h3 : d.all fun t => inI t 0 ((2 ^ d.length - 1 : Nat) : Int)
    · exact Ev.yes rfl (Ev.now _)
    · exact Ev.no (by simp) (l02Loop d (sets_of (by omega) h3))
  · refine Ev.no h2 ?_
    rw [decide_eq_false h2]
    exact hno
/-- The members of a small set. -/
def memN (m : Nat) : List Nat := (List.range 8).filter (m.testBit ·)
theorem mem_step : ∀ m : Fin 256, m.val ≠ 0 → (impl_least.f (m.val : Int) = some ((Lib.ctz 64 m.val : Nat) : Int) ∧ Go.bits .and .i64 (m.val : Int) (wrap64 ((m.val : Int) - 1)) = ((m.val &&& (m.val - 1) : Nat) : Int)
    ∧ m.val &&& (m.val - 1) < m.val ∧ memN m.val = Lib.ctz 64 m.val :: memN (m.val &&& (m.val - 1))) := by decide +kernel
theorem members_loop (m : Nat) (hm : m < 256) : ∀ acc : List Int, acc.length + m < 17592186044416 → Ev (fun k => Zcg.l0 k (m : Int) acc) (acc ++ (memN m).map Int.ofNat) := by
  induction m using Nat.strongRecOn with
  | _ m ih =>
    intro acc ha
    refine Ev.round ?_
    simp only [Zcg.l0]
    by_cases h0 : m = 0
    · subst h0
      refine Ev.yes rfl ?_
      rw [show memN 0 = [] from by decide, List.map_nil, List.append_nil]
      exact Ev.now _
    · obtain ⟨h1, h2, h3, h4⟩ := mem_step ⟨m, hm⟩ h0
      simp only at h1 h2 h3 h4
      refine Ev.no (by omega) (Ev.here h1 (Ev.yes (by omega) ?_))
      rw [h2, h4, List.map_cons]
      have := ih _ h3 (by omega) (acc ++ [((Lib.ctz 64 m : Nat) : Int)]) (by rw [List.length_append, List.length_singleton]; omega)
      rw [List.append_assoc] at this
      exact this
theorem members_ev {m : Nat} (hm : m < 256) : Ev (fun k => Zcg.f k (m : Int)) ((memN m).map Int.ofNat) := by
  unfold Zcg.f
  have := members_loop m hm [] (by have : ([] : List Int).length = 0 := rfl; omega)
  simpa using this
theorem mem_memN {m k : Nat} (hm : m < 256) : k ∈ memN m ↔ m.testBit k = true := by
  unfold memN
  rw [List.mem_filter, List.mem_range]
  refine ⟨fun h => h.2, fun h => ⟨?_, h⟩⟩
  rcases Nat.lt_or_ge k 8 with h8 | h8
  · exact h8
  · rw [Nat.testBit_lt_two_pow (Nat.lt_of_lt_of_le hm (show 2 ^ 8 ≤ 2 ^ k from Nat.pow_le_pow_right (by decide) h8))] at h
    cases h
/-- The converse's row k from the first i rows. -/
def cvN (d : List Int) (i k : Nat) : Nat := orN (fun j => bt d j k) i 0
theorem cvN_lt (d : List Int) {i k : Nat} (hi : i ≤ 8) : cvN d i k < 256 := orN_lt _ i 0 8 hi (by decide)
def cvTo (d : List Int) (i : Nat) : List Int := (List.range d.length).map fun k => ((cvN d i k : Nat) : Int)
theorem converse_ev (d : List Int) (h : Sets d) : Ev (fun k => Za5.f k d) (cvTo d d.length) := by
  have hn := h.1
  have key := Ev.up (fun k (s : List Int) i => Za5.l0 k s d (d.length : Int) i) d.length (fun _ _ => cvTo d d.length) (fun i s => s = cvTo d i)
    (fun s hs => by
      refine Ev.round ?_
      simp only [Za5.l0]
      refine Ev.no (by omega) ?_
      rw [hs]
      exact Ev.now _)
    (fun i s hi hs ih => by
      refine Ev.round ?_
      simp only [Za5.l0]
      refine Ev.yes (by omega) (Ev.yes (by omega) (Ev.yes (by omega) ?_))
      rw [h.rdE hi]
      have hm := h.small hi
      refine Ev.bind (members_ev hm) ?_
      generalize hM : (d.getD i 0).toNat = m at hm
      have hbt : ∀ k, bt d i k = m.testBit k := fun k => by unfold bt; rw [hM]
      have hlt : ∀ k, k ∈ memN m → k < d.length := fun k hk => by
        rw [mem_memN hm] at hk
        rcases Nat.lt_or_ge k d.length with h8 | h8
        · exact h8
        · have := (h.2 i hi).2
          rw [hM] at this
          rw [Nat.testBit_lt_two_pow (Nat.lt_of_lt_of_le this (Nat.pow_le_pow_right (by decide) h8))] at hk
          cases hk
      have hlen : (memN m).length ≤ 8 := by unfold memN; exact Nat.le_trans (List.length_filter_le _ _) (by simp)
      have hgl : ((memN m).map Int.ofNat).length = (memN m).length := List.length_map _
      have inner := Ev.up (fun k (s : List Int) j => Za5.l1 k s (i : Int) d (d.length : Int) (i : Int) ((memN m).map Int.ofNat) (((memN m).map Int.ofNat).length : Int) j) (memN m).length (fun _ _ => cvTo d d.length)
        (fun j s => s = (List.range d.length).map fun k => ((cvN d i k ||| (if k ∈ (memN m).take j then 2 ^ i else 0) : Nat) : Int))
        (fun s hs => by
          refine Ev.round ?_
          simp only [Za5.l1]
          refine Ev.no (by omega) ?_
          rw [w64s (by omega)]
          refine ih _ ?_
          rw [hs, List.take_length]
          unfold cvTo
          refine List.map_congr_left fun k _ => ?_
          congr 1
          unfold cvN
          by_cases hk : k ∈ memN m
          · rw [if_pos hk, orN_yes (by show bt d i k = true; rw [hbt]; exact (mem_memN hm).1 hk)]
          · rw [if_neg hk, orN_no (by
              show bt d i k = false
              rw [hbt]
              cases hq : m.testBit k
              · rfl
              · exact absurd ((mem_memN hm).2 hq) hk), Nat.or_zero])
        (fun j s hj hs ihj => by
          refine Ev.round ?_
          simp only [Za5.l1]
          have hg : rd ((memN m).map Int.ofNat) (j : Int) = (((memN m)[j] : Nat) : Int) := by
            rw [rd_lt (by omega), List.getElem_map]; rfl
          rw [hg]
          have htl := hlt _ (List.getElem_mem hj)
          have htk : ∀ k, k ∈ (memN m).take (j + 1) ↔ k ∈ (memN m).take j ∨ k = (memN m)[j] := fun k => by
            rw [List.take_add_one, List.getElem?_eq_getElem hj, List.mem_append]
            simp
          generalize (memN m)[j] = t at htl htk
          have hsl : s.length = d.length := by rw [hs]; simp
          refine Ev.yes (by omega) (Ev.yes (by omega) (Ev.yes (by omega) (Ev.yes (by omega) (Ev.yes (by omega) (Ev.here (imOneI (by omega)) ?_)))))
          rw [w64s (by omega)]
          refine ihj _ ?_
          rw [Int.toNat_natCast, rd_lt (by omega : t < s.length)]
          have hx : (if t ∈ (memN m).take j then 2 ^ i else 0) < 2 ^ 8 := by
            split
            · exact Nat.pow_lt_pow_right (by decide) (by omega)
            · decide
          have hst : s[t]'(by omega) = ((cvN d i t ||| (if t ∈ (memN m).take j then 2 ^ i else 0) : Nat) : Int) := by simp only [hs, List.getElem_map, List.getElem_range]
          rw [hst, bor (Nat.lt_of_lt_of_le (Nat.or_lt_two_pow (cvN_lt d (by omega)) hx) (by decide)) (Nat.pow_lt_pow_right (by decide) (by omega)), hs]
          apply List.ext_getElem?
          intro k
          by_cases hk : k < d.length
          · by_cases e : k = t
            · subst e
              rw [List.getElem?_set_self (by simpa using hk)]
              simp only [List.getElem?_map, List.getElem?_range hk, Option.map_some]
              rw [if_pos ((htk k).2 (Or.inr rfl)), Nat.or_assoc]
              congr 3
              split
              · exact Nat.or_self _
              · exact Nat.zero_or _
            · rw [List.getElem?_set_ne (by omega)]
              simp only [List.getElem?_map, List.getElem?_range hk, Option.map_some]
              congr 4
              exact propext ((htk k).trans (or_iff_left e)).symm
          · rw [List.getElem?_eq_none (by simp; omega), List.getElem?_eq_none (by simp; omega)])
      have := inner 0 s (by omega) (by rw [hs]; unfold cvTo; refine List.map_congr_left fun k _ => ?_; simp)
      simpa using this)
  unfold Za5.f
  refine Ev.yes (by omega) (Ev.yes (by omega) ?_)
  have := key 0 (List.replicate d.length 0) (by omega) (by
    apply List.ext_getElem?
    intro k
    unfold cvTo
    by_cases hk : k < d.length
    · simp [hk, cvN, orN]
    · rw [List.getElem?_eq_none (by simp; omega), List.getElem?_eq_none (by simp; omega)])
  simpa using this
theorem cv_bit (d : List Int) (k j : Nat) : (cvN d d.length k).testBit j = (decide (j < d.length) && bt d j k) := by
  unfold cvN
  rw [testBit_orN]
  simp
theorem cv_row {d : List Int} (h : Sets d) {k : Nat} (hk : k < d.length) : (cvN d d.length k = (d.getD k 0).toNat ∧ (cvN d d.length k).testBit k = true) ↔ okRow d k := by
  have hb : ∀ b, ¬ b < d.length → bt d k b = false := fun b hb => by
    unfold bt
    exact Nat.testBit_lt_two_pow (Nat.lt_of_lt_of_le (h.2 k hk).2 (Nat.pow_le_pow_right (by decide) (by omega)))
  constructor
  · rintro ⟨h1, h2⟩
    have h3 : ∀ b, b < d.length → bt d b k = bt d k b := fun b hb => by
      have := cv_bit d k b
      rw [h1, decide_eq_true hb, Bool.true_and] at this
      exact this.symm
    refine ⟨?_, fun b hb => (h3 b hb).symm⟩
    rw [h1] at h2
    exact h2
  · rintro ⟨h1, h2⟩
    have e : cvN d d.length k = (d.getD k 0).toNat := by
      apply Nat.eq_of_testBit_eq
      intro j
      rw [cv_bit]
      by_cases hj : j < d.length
      · rw [decide_eq_true hj, Bool.true_and]
        exact (h2 j hj).symm
      · rw [decide_eq_false hj, Bool.false_and]
        exact (hb j hj).symm
    exact ⟨e, by rw [e]; exact h1⟩
theorem isAl_loop (d : List Int) (h : Sets d) : Ev (fun k => Zax.l0 k (cvTo d d.length) (d.length : Int) 0 (d.length : Int) d) (symB d) := by
  have hn := h.1
  have hcl : (cvTo d d.length).length = d.length := by simp [cvTo]
  have key := Ev.up (fun k (_ : Unit) i => Zax.l0 k (cvTo d d.length) (d.length : Int) i (d.length : Int) d) d.length (fun _ _ => symB d) (fun i _ => ∀ a, a < i → okRow d a)
    (fun _ hI => by
      refine Ev.round ?_
      simp only [Zax.l0]
      refine Ev.no (by omega) ?_
      rw [show symB d = true from decide_eq_true hI]
      exact Ev.now _)
    (fun i _ hi hI ih => by
      refine Ev.round ?_
      simp only [Zax.l0]
      have hg : rd (cvTo d d.length) (i : Int) = ((cvN d d.length i : Nat) : Int) := by
        rw [rd_lt (by omega)]; unfold cvTo; rw [List.getElem_map, List.getElem_range]
      have hl := cvN_lt d (k := i) hn
      refine Ev.yes (by omega) (Ev.yes (by omega) (Ev.yes (by omega) (Ev.yes (by omega) ?_)))
      rw [hg, h.rdE hi, w64s (by omega)]
      have hc := cv_row h hi
      by_cases e : cvN d d.length i = (d.getD i 0).toNat
      · refine Ev.yes (by rw [e]) (Ev.here (imHasI (by omega) (by omega)) ?_)
        cases hb : (cvN d d.length i).testBit i
        · refine Ev.no (by simp) ?_
          rw [symB_no hi (fun hh => by have := (hc.2 hh).2; rw [hb] at this; cases this)]
          exact Ev.now _
        · refine Ev.yes rfl (ih () fun a ha => ?_)
          by_cases e' : a = i
          · subst e'; exact hc.1 ⟨e, hb⟩
          · exact hI a (by omega)
      · refine Ev.no (by omega) ?_
        rw [symB_no hi (fun hh => e (hc.2 hh).1)]
        exact Ev.now _)
  have := key 0 () (by omega) (fun b hb => absurd hb (by omega))
  simpa using this
theorem isAl_ev (n : Int) (d : List Int) : Ev (fun k => Zax.f k n d) (alB n d) := by
  unfold Zax.f alB
  have hno : Ev (fun k => Zax.j0 k true n d) false := Ev.round (by simp only [Zax.j0]; exact Ev.yes (by trivial) (Ev.now _))
  refine Ev.here (imInI _ _ _) ?_
  cases h1 : inI n 0 8
  · exact Ev.no (by simp) hno
  rw [inI_iff] at h1
  refine Ev.yes rfl (Ev.here (show Zbn.f d = some (d.length : Int) from rfl) ?_)
  by_cases h2 : (d.length : Int) = n
  · subst h2
    refine Ev.yes rfl ?_
    have hr : Zdg.f d = some (d.all fun t => inI t 0 ((2 ^ d.length - 1 : Nat) : Int)) := by
      unfold Zdg.f
      rw [if_pos (by omega)]
      refine (congrArg (fun o => Option.bind o _) (show Zbn.f d = some (d.length : Int) from rfl)).trans ?_
      simp only [Option.bind_some]
      rw [imOneI (by omega)]
      simp only [Option.bind_some]
      rw [fullW (by omega)]
      rfl
    refine Ev.here hr (Ev.round ?_)
    simp only [Zax.j0]
    rw [decide_true]
    cases h3 : d.all fun t => inI t 0 ((2 ^ d.length - 1 : Nat) : Int)
    · exact Ev.yes rfl (Ev.now _)
    · refine Ev.no (by simp) (Ev.bind (converse_ev d (sets_of (by omega) h3)) ?_)
      have hcl : (cvTo d d.length).length = d.length := by simp [cvTo]
      rw [hcl]
      simpa using isAl_loop d (sets_of (by omega) h3)
  · refine Ev.no h2 ?_
    rw [decide_eq_false h2]
    exact hno
end Go.Proofs.YtgindgodfcfgkaaDoor.U
end M0
section M1
namespace Go.Proofs.YtgindgodfcfgkaaDoor.U
open Go.RowKit Go.Proofs.YtgindgodfcfgkaaDoor.P Go.Proofs.YtgindgodfcfgkaaDoorW.PrintWords Go.Proofs.YtgindgodfcfgkaaDoorW.PrintLast Go.Proofs.YtgindgodfcfgkaaDoorW.PrintMore
set_option linter.unusedVariables false
/-! Diamonds: the first fault, both ways. -/
def f2 (ok : Nat → Nat → Nat → Bool) (L s a b : Nat) : Option (List Int) := (List.range' b (L - b)).findSome? fun b => if ok s a b then none else some [(s : Int), (a : Int), (b : Int)]
def f1 (ok : Nat → Nat → Nat → Bool) (L s a : Nat) : Option (List Int) := (List.range' a (L - a)).findSome? fun a => f2 ok L s a (a + 1)
def f0 (ok : Nat → Nat → Nat → Bool) (n L s : Nat) : Option (List Int) := (List.range' s (n - s)).findSome? fun s => f1 ok L s 0
theorem alB_ok {n : Int} {d : List Int} (h : alB n d = true) : 0 ≤ n ∧ n ≤ 8 ∧ (d.length : Int) = n ∧ Sets d := by
  unfold alB inI at h
  simp only [Bool.and_eq_true, decide_eq_true_eq] at h
  obtain ⟨⟨h0, h1⟩, h2, h3, _⟩ := h
  refine ⟨h0, h1, h2, sets_of (by omega) ?_⟩
  unfold inI
  exact h3
theorem imHasR {d : List Int} (h : Sets d) {a b : Nat} (ha : a < d.length) (hb : b ≤ 64) : Zde.f (rd d (a : Int)) (b : Int) = some (bt d a b) := by
  rw [h.rdE ha, imHasI (Nat.lt_of_lt_of_le (h.small ha) (by decide)) hb]
  rfl
theorem l02Dep_eq {n : Int} {d : List Int} (h : Sets d) {a b : Nat} (ha : a < d.length) (hb : b ≤ 64) : Zdk.f n d (a : Int) (b : Int) = some (bt d a b) := by
  unfold Zdk.f
  rw [if_pos (by omega), if_pos (by omega), spBitR h ha hb]
  rfl
theorem depend_eq {n : Int} {d : List Int} (h : Sets d) {a b : Nat} (ha : a < d.length) (hb : b ≤ 64) : Zdj.f n d (a : Int) (b : Int) = some (bt d a b) := by
  unfold Zdj.f
  rw [if_pos (by omega), if_pos (by omega), imHasR h ha hb]
  rfl
/-- The code for an alphabet and an automaton over it. -/
def codeX (n : Int) (d : List Int) (L S F : Int) (N : List (List Int)) : Int := if alB n d = true ∧ isAut L S F N = true then (if L = n then 0 else 2) else 1
theorem codeX_0 {n : Int} {d : List Int} {L S F : Int} {N : List (List Int)} (h : codeX n d L S F N = 0) : alB n d = true ∧ isAut L S F N = true ∧ L = n := by
  unfold codeX at h
  split at h
  · rename_i h1
    split at h
    · rename_i h2; exact ⟨h1.1, h1.2, h2⟩
    · simp at h
  · simp at h
theorem overS_ev (n : Int) (d : List Int) (L S F : Int) (N : List (List Int)) (hN : N.length ≤ 9223372036854775807) : Ev (fun k => Zcf.f k n d L S F N) (codeX n d L S F N) := by
  unfold Zcf.f
  refine Ev.bind (l02Is_ev n d) ?_
  cases h1 : alB n d
  · have e : codeX n d L S F N = 1 := by unfold codeX; rw [if_neg (by rw [h1]; simp)]
    rw [e]
    refine Ev.no (by simp) (Ev.round ?_)
    simp only [Zcf.j0]
    first | exact Ev.yes rfl (Ev.now _) | exact Ev.yes trivial (Ev.now _)
  · refine Ev.yes rfl (Ev.bind (l11Is_ev L S F N hN) (Ev.round ?_))
    simp only [Zcf.j0]
    cases h2 : isAut L S F N
    · have e : codeX n d L S F N = 1 := by unfold codeX; rw [if_neg (by rw [h2]; simp)]
      rw [e]
      first | exact Ev.yes rfl (Ev.now _) | exact Ev.yes trivial (Ev.now _)
    · have e : codeX n d L S F N = if L = n then 0 else 2 := by unfold codeX; rw [if_pos ⟨h1, h2⟩]
      rw [e]
      refine Ev.no (by decide) ?_
      by_cases h3 : L = n
      · refine Ev.yes h3 ?_; rw [if_pos h3]; exact Ev.now _
      · refine Ev.no h3 ?_; rw [if_neg h3]; exact Ev.now _
theorem overI_ev (n : Int) (d : List Int) (L S F : Int) (N : List (List Int)) : Ev (fun k => Zdb.f k n d [⟨L, S, F, N⟩]) (codeX n d L S F N) := by
  unfold Zdb.f
  refine Ev.bind (isAl_ev n d) ?_
  refine Ev.now' (fun _ => ?_)
  unfold codeX
  cases h1 : alB n d
  · simp
  · cases h2 : isAut L S F N
    · simp [h2]
    · by_cases h3 : L = n
      · subst h3; simp [h2]
      · simp [h2, h3]
theorem szAny (a b c : Int) (l : List (List Int)) (hn : l.length ≤ maxLen) (hr : ∀ x ∈ l, x.length ≤ maxLen) (m : Nat) (hm : m ≤ 1048576) :
    Ev (fun k => Zcx.f k a b c l (m : Int)) (if sz2 l ≤ m then ((m - sz2 l : Nat) : Int) else -1) := by
  unfold Zcx.f
  refine Ev.bind (szSS l hn hr m hm) ?_
  by_cases h : sz2 l ≤ m
  · rw [if_pos h]
    refine Ev.no (by omega) (Ev.now _)
  · rw [if_neg h]
    refine Ev.yes (by omega) (Ev.now _)
theorem szAlX (n : Int) (d : List Int) (hd : d.length ≤ maxLen) : Zcv.f n d 1048576 = some (if d.length ≤ 1048576 then ((1048576 - d.length : Nat) : Int) else -1) := by
  unfold maxLen at hd
  unfold Zcv.f Zcs.f
  rw [w64 (by omega) (by omega)]
  by_cases h : d.length ≤ 1048576
  · rw [if_neg (by omega), if_pos h]
    simp only [Option.bind_some]
    rw [if_neg (by omega)]
    congr 1; omega
  · rw [if_pos (by omega), if_neg h]
    rfl
theorem toAlX (n : Int) (d : List Int) (hd : d.length ≤ 35184372088832) : Ev (fun k => Zcl.f k n d) (n, d) := by
  unfold Zcl.f
  exact Ev.bind (toS d hd) (Ev.now _)
theorem eqAlX (n : Int) (d : List Int) (hd : d.length ≤ 35184372088832) : Ev (fun k => Zdf.f k n d n d) true := by
  have h1 : Ev (fun k => Zbj.f k d d) true := by
    have := eqS d d (by omega)
    rw [decide_eq_true rfl] at this
    exact this
  unfold Zdf.f
  exact Ev.yes rfl (Ev.bind h1 (Ev.yes rfl (Ev.now _)))
end Go.Proofs.YtgindgodfcfgkaaDoor.U
end M1
section M2
namespace Go.Proofs.YtgindgodfcfgkaaDoor.U
open Go.RowKit Go.Proofs.YtgindgodfcfgkaaDoor.P Go.Proofs.YtgindgodfcfgkaaDoorW.PrintWords Go.Proofs.YtgindgodfcfgkaaDoorW.PrintLast
set_option linter.unusedVariables false
/-! Which states are reached, and which lead to a final one. -/
inductive Led (L : Int) (N : List (List Int)) (good : List Bool) : Int → Prop
  | base {s : Int} (h0 : 0 ≤ s) (h1 : s < N.length) (h : rdOf false good s = true) : Led L N good s
  | step {s a : Int} (h0 : 0 ≤ s) (h1 : s < N.length) (ha : 0 ≤ a) (hb : a < L) (hn : 0 ≤ nx N s a) (h : Led L N good (nx N s a)) : Led L N good s
inductive Rch (L : Int) (N : List (List Int)) (S : Int) : Int → Prop
  | start : Rch L N S S
  | step {s a : Int} (h : Rch L N S s) (ha : 0 ≤ a) (hb : a < L) (hn : 0 ≤ nx N s a) : Rch L N S (nx N s a)
theorem rdOf_set {l : List Bool} {i : Nat} {b : Bool} {j : Int} (hj : 0 ≤ j) : rdOf false (l.set i b) j = if j = i ∧ i < l.length then b else rdOf false l j := by
  obtain ⟨k, rfl⟩ := Int.eq_ofNat_of_zero_le hj
  show (l.set i b).getD k false = _
  rw [List.getD_eq_getElem?_getD, List.getElem?_set]
  by_cases h : i = k
  · subst h
    by_cases h2 : i < l.length
    · simp [h2]
    · rw [if_pos rfl, if_neg h2, if_neg (by simp; omega)]
      show false = l.getD i false
      rw [List.getD_eq_getElem?_getD, List.getElem?_eq_none (by omega)]
      rfl
  · rw [if_neg h, if_neg (by omega)]
    show _ = l.getD k false
    rw [List.getD_eq_getElem?_getD]
theorem Led.in {L : Int} {N : List (List Int)} {good : List Bool} {s : Int} (h : Led L N good s) : 0 ≤ s ∧ s < N.length := by
  cases h with
  | base a b _ => exact ⟨a, b⟩
  | step a b _ _ _ _ => exact ⟨a, b⟩
/-- What is marked while the marks spread back: sound, and all good ones. -/
structure LiveI (L : Int) (N : List (List Int)) (good live : List Bool) : Prop where
  len : live.length = N.length
  sound : ∀ s : Int, 0 ≤ s → s < N.length → rdOf false live s = true → Led L N good s
  base : ∀ s : Int, 0 ≤ s → s < N.length → rdOf false good s = true → rdOf false live s = true
/-- No mark is owed at the letter a of state s. -/
def paid (N : List (List Int)) (live : List Bool) (s a : Int) : Prop := 0 ≤ nx N s a → rdOf false live (nx N s a) = true → rdOf false live s = true
theorem live_full {L : Int} {N : List (List Int)} {good live : List Bool} (hN : Zcu L N) (I : LiveI L N good live) (h : ∀ s a : Int, 0 ≤ s → s < N.length → 0 ≤ a → a < L → paid N live s a) :
    ∀ s : Int, 0 ≤ s → s < N.length → (rdOf false live s = true ↔ Led L N good s) := by
  intro s h0 h1
  refine ⟨I.sound s h0 h1, fun hl => ?_⟩
  induction hl with
  | base a b c => exact I.base _ a b c
  | step a b c d e f ih =>
    have := nx_in hN b c d
    exact h _ _ a b c d e (ih e this.2)
theorem live_mark {L : Int} {N : List (List Int)} {good live : List Bool} (hN : Zcu L N) (I : LiveI L N good live) {s : Nat} {a : Int} (hs : s < N.length) (ha : 0 ≤ a) (hb : a < L) (h0 : 0 ≤ nx N s a) (hl : rdOf false live (nx N s a) = true) :
    LiveI L N good (live.set s true) := by
  have hx := nx_in hN (s := s) (by omega) ha hb
  refine ⟨by simp [I.len], fun t h2 h3 ht => ?_, fun t h2 h3 ht => ?_⟩
  · rw [rdOf_set h2] at ht
    by_cases e : t = (s : Int)
    · subst e
      exact .step h2 h3 ha hb h0 (I.sound _ h0 hx.2 hl)
    · rw [if_neg (by omega)] at ht
      exact I.sound t h2 h3 ht
  · rw [rdOf_set h2]
    split
    · rfl
    · exact I.base t h2 h3 ht
theorem l11Live_ev {L : Int} {N : List (List Int)} (good : List Bool) (hN : Zcu L N) (hn : N.length ≤ 1048576) (hg : good.length = N.length) (hL : 0 ≤ L) (g : L ≤ 1048576) :
    EvP (fun k => Za1.f k L N good) (fun live => live.length = N.length ∧ ∀ s : Int, 0 ≤ s → s < N.length → (rdOf false live s = true ↔ Led L N good s)) := by
  have hrow : ∀ s : Nat, s < N.length → ((Zae N (s : Int)).length : Int) = L := fun s hs => (row_at hN (s := s) (by omega) (by omega)).1
  have hnx : ∀ s a : Nat, rd (Zae N (s : Int)) (a : Int) = nx N s a := fun s a => by unfold nx; rw [if_neg (by omega)]
  have main : ∀ m live, Zb3 live ≤ m → LiveI L N good live → EvP (fun k => Za1.l0 k live true L N good) (fun live => live.length = N.length ∧ ∀ s : Int, 0 ≤ s → s < N.length → (rdOf false live s = true ↔ Led L N good s)) := by
    intro m
    induction m using Nat.strongRecOn with
    | _ m ihm =>
    intro c hm I0
    refine EvP.round ?_
    simp only [Za1.l0]
    refine EvP.yes (by trivial) ?_
    -- a pass over the states
    have pass := EvP.up (fun k (st : List Bool × Bool) s => Za1.l1 k st.1 st.2 s L N good) (fun live => live.length = N.length ∧ ∀ s : Int, 0 ≤ s → s < N.length → (rdOf false live s = true ↔ Led L N good s)) N.length
      (fun s st => LiveI L N good st.1 ∧ (Zb3 st.1 ≤ Zb3 c ∧ (st.2 = true → Zb3 st.1 < Zb3 c)) ∧ (st.2 = false → ∀ t a : Int, 0 ≤ t → t < (s : Int) → 0 ≤ a → a < L → paid N st.1 t a))
      (fun st ⟨h1, h2, h3⟩ => by
        refine EvP.round ?_
        simp only [Za1.l1]
        refine EvP.no (by omega) ?_
        cases hb : st.2
        · refine EvP.round ?_
          simp only [Za1.l0]
          refine EvP.no (by simp) (EvP.ret ⟨h1.len, live_full hN h1 (fun t a h4 h5 h6 h7 => h3 hb t a h4 h5 h6 h7)⟩)
        · have h4 := h2.2 hb
          exact ihm _ (by omega) st.1 (Nat.le_refl _) h1)
      (fun s st hs ⟨h1, h2, h3⟩ ih => by
        refine EvP.round ?_
        simp only [Za1.l1]
        refine EvP.yes (by omega) ?_
        have letters := EvP.up (fun k (st : List Bool × Bool) a => Za1.l2 k st.1 st.2 (s : Int) a L N good) (fun live => live.length = N.length ∧ ∀ s : Int, 0 ≤ s → s < N.length → (rdOf false live s = true ↔ Led L N good s)) L.toNat
          (fun b st => LiveI L N good st.1 ∧ (Zb3 st.1 ≤ Zb3 c ∧ (st.2 = true → Zb3 st.1 < Zb3 c)) ∧ (st.2 = false → (∀ t a : Int, 0 ≤ t → t < (s : Int) → 0 ≤ a → a < L → paid N st.1 t a) ∧ ∀ a : Int, 0 ≤ a → a < (b : Int) → paid N st.1 s a))
          (fun st ⟨h1, h2, h3⟩ => by
            have hr := hrow s hs
            refine EvP.round ?_
            simp only [Za1.l2]
            refine EvP.yes (by omega) (EvP.yes (by omega) (EvP.no (by omega) (EvP.round ?_)))
            simp only [Za1.j3]
            refine EvP.no (by simp) ?_
            rw [w64s (by omega)]
            refine ih st ⟨h1, h2, fun hb t a h4 h5 h6 h7 => ?_⟩
            by_cases e : t = (s : Int)
            · subst e; exact (h3 hb).2 a h6 (by omega)
            · exact (h3 hb).1 t a h4 (by omega) h6 h7)
          (fun b st hb ⟨h1, h2, h3⟩ ihb => by
            have hr := hrow s hs
            have hl := h1.len
            refine EvP.round ?_
            simp only [Za1.l2]
            refine EvP.yes (by omega) (EvP.yes (by omega) (EvP.yes (by omega) (EvP.yes (by omega) (EvP.round ?_))))
            simp only [Za1.j3]
            cases hv : rdOf false st.1 (s : Int)
            · refine EvP.yes rfl (EvP.yes (by omega) (EvP.yes (by omega) (EvP.yes (by omega) (EvP.yes (by omega) ?_))))
              rw [hnx, w64s (by omega)]
              have hx := nx_in hN (s := s) (a := b) (by omega) (by omega) (by omega)
              by_cases h4 : nx N s b ≥ 0
              · refine EvP.yes h4 (EvP.yes h4 (EvP.yes (by omega) ?_))
                cases hw : rdOf false st.1 (nx N s b)
                · refine EvP.no (by simp) (ihb st ⟨h1, h2, fun hc => ⟨(h3 hc).1, fun a h5 h6 => ?_⟩⟩)
                  by_cases e : a = (b : Int)
                  · subst e; intro _ h7; rw [hw] at h7; cases h7
                  · exact (h3 hc).2 a h5 (by omega)
                · refine EvP.yes rfl (EvP.yes (by omega) ?_)
                  have hv' : st.1[s]'(by omega) = false := by rw [← rdOf_lt (d := false) (by omega : s < st.1.length)]; exact hv
                  have hf := falses_set (by omega) hv'
                  have i := h2.1
                  rw [Int.toNat_natCast]
                  exact ihb (st.1.set s true, true) ⟨live_mark hN h1 hs (by omega) (by omega) h4 hw, ⟨by simp only; omega, fun _ => by simp only; omega⟩, fun hc => by cases hc⟩
              · refine EvP.no h4 (ihb st ⟨h1, h2, fun hc => ⟨(h3 hc).1, fun a h5 h6 => ?_⟩⟩)
                by_cases e : a = (b : Int)
                · subst e; intro h7; omega
                · exact (h3 hc).2 a h5 (by omega)
            · refine EvP.no (by simp) ?_
              rw [w64s (by omega)]
              refine ih st ⟨h1, h2, fun hc t a h4 h5 h6 h7 => ?_⟩
              by_cases e : t = (s : Int)
              · subst e; intro _ _; exact hv
              · exact (h3 hc).1 t a h4 (by omega) h6 h7)
        have := letters 0 st (by omega) ⟨h1, h2, fun hc => ⟨fun t a h4 h5 h6 h7 => h3 hc t a h4 h5 h6 h7, fun a h5 h6 => absurd h6 (by omega)⟩⟩
        simpa using this)
    have := pass 0 (c, false) (by omega) ⟨I0, ⟨Nat.le_refl _, fun h => by cases h⟩, fun _ t a h4 h5 => absurd h5 (by omega)⟩
    simpa using this
  unfold Za1.f
  refine EvP.here rfl (EvP.yes (by simp; omega) ?_)
  rw [List.nil_append]
  exact main _ good (Nat.le_refl _) ⟨hg, fun s h0 h1 h => .base h0 h1 h, fun s _ _ h => h⟩
end Go.Proofs.YtgindgodfcfgkaaDoor.U
end M2
section M3
namespace Go.Proofs.YtgindgodfcfgkaaDoor.U
open Go.RowKit Go.Proofs.YtgindgodfcfgkaaDoor.P Go.Proofs.YtgindgodfcfgkaaDoorW.PrintWords Go.Proofs.YtgindgodfcfgkaaDoorW.PrintLast Go.Proofs.YtgindgodfcfgkaaDoorW.PrintMore
set_option linter.unusedVariables false
/-! The machine whose state 0 is the start. -/
def turn (S s : Int) : Int := if s = 0 then S else if s = S then 0 else s
theorem turn_turn (S s : Int) : turn S (turn S s) = s := by unfold turn; split <;> split <;> (try split) <;> omega
theorem turn_in {S s : Int} {n : Nat} (hS : 0 ≤ S) (hn : S < n) (h0 : 0 ≤ s) (h1 : s < n) : 0 ≤ turn S s ∧ turn S s < n := by unfold turn; split <;> (try split) <;> omega
theorem turn_neg {S s : Int} (hS : 0 ≤ S) (h : s < 0) : turn S s = s := by unfold turn; rw [if_neg (by omega), if_neg (by omega)]
theorem turn_eq (L S F : Int) (N : List (List Int)) (s : Int) : Zdh.f L S F N s = some (turn S s) := by
  unfold Zdh.f turn
  by_cases h : s = 0
  · rw [if_pos h, if_pos h]
  · rw [if_neg h, if_neg h]
    by_cases h2 : s = S
    · rw [if_pos h2, if_pos h2]
    · rw [if_neg h2, if_neg h2]
def freeRow (L S : Int) (N : List (List Int)) (s : Nat) : List Int := (List.range L.toNat).map fun (a : Nat) => turn S (nx N (turn S s) a)
def freeN (L S : Int) (N : List (List Int)) : List (List Int) := (List.range N.length).map (freeRow L S N)
def freeG (S F : Int) (N : List (List Int)) : List Bool := (List.range N.length).map fun (s : Nat) => hasB F (turn S s)
theorem l11Free_ev {L S F : Int} {N : List (List Int)} (hN : Zcu L N) (hn : N.length ≤ 1048576) (hL : 0 ≤ L) (b : L ≤ 1048576) (hS : 0 ≤ S) (hSn : S < N.length) :
    Ev (fun k => Za2.f k L S F N) (L, freeN L S N, freeG S F N) := by
  have key := Ev.up (fun k (st : List (List Int) × List Bool) s => Za2.l0 k s L S F N L st.1 st.2) N.length (fun _ _ => (L, freeN L S N, freeG S F N))
    (fun s st => st.1 = (List.range s).map (freeRow L S N) ∧ st.2 = (List.range s).map fun (s : Nat) => hasB F (turn S s))
    (fun st ⟨h1, h2⟩ => by
      refine Ev.round ?_
      simp only [Za2.l0]
      refine Ev.here (show Zbr.f L S F N = some (N.length : Int) from rfl) (Ev.no (by omega) ?_)
      rw [h1, h2]
      exact Ev.now _)
    (fun s st hs ⟨h1, h2⟩ ih => by
      refine Ev.round ?_
      simp only [Za2.l0]
      refine Ev.here (show Zbr.f L S F N = some (N.length : Int) from rfl) (Ev.yes (by omega) (Ev.here (turn_eq L S F N s) ?_))
      have ht := turn_in (n := N.length) (s := (s : Int)) hS hSn (by omega) (by omega)
      have hr := row_at hN ht.1 ht.2
      have inner := Ev.up (fun k (row : List Int) a => Za2.l1 k (s : Int) (turn S s) row a L S F N L st.1 st.2) L.toNat (fun _ _ => (L, freeN L S N, freeG S F N)) (fun a row => row = (List.range a).map fun (a : Nat) => turn S (nx N (turn S s) a))
        (fun row hrow => by
          refine Ev.round ?_
          simp only [Za2.l1]
          have l1 : st.1.length = s := by rw [h1]; simp
          have l2 : st.2.length = s := by rw [h2]; simp
          refine Ev.no (by omega) (Ev.yes (by omega) (Ev.here (bit_eq ht.1 (by omega)) (Ev.yes (by omega) ?_)))
          rw [w64s (by omega)]
          refine ih (_, _) ⟨?_, ?_⟩
          · rw [h1, hrow, List.range_succ, List.map_append]; rfl
          · rw [h2, List.range_succ, List.map_append]; rfl)
        (fun a row ha hrow iha => by
          refine Ev.round ?_
          simp only [Za2.l1]
          have l1 : row.length = a := by rw [hrow]; simp
          refine Ev.yes (by omega) (Ev.yes ht.1 (Ev.yes ht.2 (Ev.yes (by omega) (Ev.yes (by omega) (Ev.here (turn_eq L S F N _) (Ev.yes (by omega) ?_))))))
          rw [w64s (by omega)]
          refine iha _ ?_
          have e : nx N (turn S s) a = rd (Zae N (turn S s)) a := by unfold nx; rw [if_neg (by omega)]
          rw [hrow, List.range_succ, List.map_append, ← e]; rfl)
      have := inner 0 [] (by omega) rfl
      simpa using this)
  have := key 0 ([], []) (by omega) ⟨rfl, rfl⟩
  unfold Za2.f
  simpa using this
theorem Zdu (L S : Int) (N : List (List Int)) : (freeN L S N).length = N.length := by simp [freeN]
theorem freeN_row {L S : Int} {N : List (List Int)} {s : Nat} (hs : s < N.length) : Zae (freeN L S N) (s : Int) = freeRow L S N s := by
  have : Zae (freeN L S N) (s : Int) = (freeN L S N)[s]'(by rw [Zdu]; exact hs) := rdOf_lt (d := []) (by rw [Zdu]; exact hs)
  rw [this]; simp [freeN]
theorem freeN_nx {L S : Int} {N : List (List Int)} {s a : Int} (h0 : 0 ≤ s) (h1 : s < N.length) (ha : 0 ≤ a) (hb : a < L) : nx (freeN L S N) s a = turn S (nx N (turn S s) a) := by
  obtain ⟨k, rfl, hk⟩ := nat_of h0 h1
  obtain ⟨b, rfl⟩ := Int.eq_ofNat_of_zero_le ha
  have e : nx (freeN L S N) (k : Int) (b : Int) = rd (Zae (freeN L S N) (k : Int)) (b : Int) := by unfold nx; rw [if_neg (by omega)]
  rw [e, freeN_row hk, rd_lt (by simp [freeRow]; omega)]
  simp [freeRow]
theorem free_rows {L S : Int} {N : List (List Int)} (hN : Zcu L N) (hL : 0 ≤ L) (hS : 0 ≤ S) (hSn : S < N.length) : Zcu L (freeN L S N) := by
  intro row hr
  simp only [freeN, List.mem_map, List.mem_range] at hr
  obtain ⟨s, hs, rfl⟩ := hr
  refine ⟨by simp [freeRow]; omega, fun t ht => ?_⟩
  simp only [freeRow, List.mem_map, List.mem_range] at ht
  obtain ⟨a, ha, rfl⟩ := ht
  rw [Zdu]
  have ht := turn_in (n := N.length) (s := (s : Int)) hS hSn (by omega) (by omega)
  have hx := nx_in hN ht.2 (a := (a : Int)) (by omega) (by omega)
  by_cases h : 0 ≤ nx N (turn S s) a
  · have := turn_in hS hSn h hx.2; omega
  · rw [turn_neg hS (by omega)]; omega
theorem freeG_at {S F : Int} {N : List (List Int)} {s : Int} (h0 : 0 ≤ s) (h1 : s < N.length) : rdOf false (freeG S F N) s = hasB F (turn S s) := by
  obtain ⟨k, rfl, hk⟩ := nat_of h0 h1
  rw [rdOf_lt (by simp [freeG]; exact hk)]
  simp [freeG]
end Go.Proofs.YtgindgodfcfgkaaDoor.U
end M3
section M4
namespace Go.Proofs.YtgindgodfcfgkaaDoor.U
open Go.RowKit Go.Proofs.YtgindgodfcfgkaaDoor.P Go.Proofs.YtgindgodfcfgkaaDoorW.PrintWords Go.Proofs.YtgindgodfcfgkaaDoorW.PrintLast Go.Proofs.YtgindgodfcfgkaaDoorW.PrintMore
set_option linter.unusedVariables false
/-! The useful states, both ways. -/
structure UseI (L S : Int) (N : List (List Int)) (fin re le : List Bool) : Prop where
  rlen : re.length = N.length
  rsound : ∀ s : Int, 0 ≤ s → s < N.length → rdOf false re s = true → Rch L N S s
  start : rdOf false re S = true
  live : LiveI L N fin le
def paidU (N : List (List Int)) (re le : List Bool) (s a : Int) : Prop := 0 ≤ nx N s a → (rdOf false re s = true → rdOf false re (nx N s a) = true) ∧ (rdOf false le (nx N s a) = true → rdOf false le s = true)
theorem useful_full {L S : Int} {N : List (List Int)} {fin re le : List Bool} (hN : Zcu L N) (hS : 0 ≤ S) (hSn : S < N.length) (I : UseI L S N fin re le) (h : ∀ s a : Int, 0 ≤ s → s < N.length → 0 ≤ a → a < L → paidU N re le s a) :
    ∀ s : Int, 0 ≤ s → s < N.length → (rdOf false re s = true ↔ Rch L N S s) ∧ (rdOf false le s = true ↔ Led L N fin s) := by
  intro s h0 h1
  refine ⟨⟨fun hb => I.rsound s h0 h1 hb, fun hr => ?_⟩, live_full hN I.live (fun s a a1 a2 a3 a4 a5 a6 => (h s a a1 a2 a3 a4 a5).2 a6) s h0 h1⟩
  have main : ∀ s, Rch L N S s → 0 ≤ s ∧ s < N.length ∧ rdOf false re s = true := by
    intro s hr
    induction hr with
    | start => exact ⟨hS, hSn, I.start⟩
    | @step s a _ ha hb hn ih =>
      have hx := nx_in hN ih.2.1 ha hb
      exact ⟨hn, hx.2, (h s a ih.1 ih.2.1 ha hb hn).1 ih.2.2⟩
  exact (main s hr).2.2
theorem clone_eq {l : List Bool} (h : l.length < 140737488355328) : Zck.f l = some l := if_pos h
/-- The useful states of a machine, as a list of marks. -/
def IsUse (L S : Int) (N : List (List Int)) (fin r : List Bool) : Prop := r.length = N.length ∧ ∀ s : Int, 0 ≤ s → s < N.length → (rdOf false r s = true ↔ Rch L N S s ∧ Led L N fin s)
theorem reach_mark {L S : Int} {N : List (List Int)} {fin re le : List Bool} (I : UseI L S N fin re le) {s a : Int} {t : Nat} (h0 : 0 ≤ s) (h1 : s < N.length) (ha : 0 ≤ a) (hb : a < L) (hn : nx N s a = t) (hr : rdOf false re s = true) : UseI L S N fin (re.set t true) le := by
  refine ⟨by simp [I.rlen], fun u h2 h3 hu => ?_, ?_, I.live⟩
  · rw [rdOf_set h2] at hu
    by_cases e : u = (t : Int)
    · subst e
      rw [← hn]
      exact .step (I.rsound s h0 h1 hr) ha hb (by omega)
    · rw [if_neg (by omega)] at hu
      exact I.rsound u h2 h3 hu
  · by_cases hS : 0 ≤ S
    · rw [rdOf_set hS]
      split
      · rfl
      · exact I.start
    · have := I.start
      have e : S.toNat = 0 := by omega
      show (re.set t true).getD S.toNat false = true
      have h' : re.getD S.toNat false = true := this
      rw [e] at h' ⊢
      rw [List.getD_eq_getElem?_getD, List.getElem?_set]
      by_cases ht : t = 0
      · subst ht
        by_cases hl : 0 < re.length
        · simp [hl]
        · simp at hl; subst hl; simp at h'
      · rw [if_neg ht, ← List.getD_eq_getElem?_getD]; exact h'
end Go.Proofs.YtgindgodfcfgkaaDoor.U
end M4
section M5
namespace Go.Proofs.YtgindgodfcfgkaaDoor.U
/-! Machines us functions, their languages, and the least machine of a language, numbered from its start. -/
theorem nodup_sub_len {α : Type} [DecidableEq α] : ∀ {l l' : List α}, l.Nodup → (∀ x ∈ l, x ∈ l') → l.length ≤ l'.length
  | [], l', _, _ => by simp
  | a :: t, l', hn, hs => by
    have hn' := List.nodup_cons.1 hn
    have h1 : a ∈ l' := hs a (by simp)
    have h2 : ∀ x ∈ t, x ∈ l'.erase a := fun x hx => (List.mem_erase_of_ne (fun e => hn'.1 (by rw [← e]; exact hx))).2 (hs x (by simp [hx]))
    have h3 := nodup_sub_len hn'.2 h2
    have h4 := List.length_erase_of_mem h1
    have h5 := List.length_pos_of_mem h1
    simp only [List.length_cons]
    omega
abbrev Lang := List Nat → Bool
/-- The words that a machine accepts from a state; letters are the numbers below L. -/
def accW (L : Nat) (nxt : Nat → Nat → Option Nat) (good : Nat → Bool) : Nat → Lang
  | s, [] => good s
  | s, a :: w => decide (a < L) && match nxt s a with
    | none => false
    | some t => accW L nxt good t w
def der (q : Lang) (a : Nat) : Lang := fun w => q (a :: w)
def emp (q : Lang) : Prop := ∀ w, q w = false
theorem der_none {L : Nat} {nxt : Nat → Nat → Option Nat} {good : Nat → Bool} {s a : Nat} (h : nxt s a = none) : emp (der (accW L nxt good s) a) := by
  intro w
  simp [der, accW, h]
theorem der_some {L : Nat} {nxt : Nat → Nat → Option Nat} {good : Nat → Bool} {s a t : Nat} (ha : a < L) (h : nxt s a = some t) : der (accW L nxt good s) a = accW L nxt good t := by
  funext w
  simp [der, accW, h, ha]
open Classical in
/-- Where a language stands in a list. -/
noncomputable def posOf (q : Lang) (l : List Lang) : Option Nat := l.findIdx? (fun x => decide (x = q))
open Classical in
noncomputable def cStep (q : Lang) (st : List Lang × List Int) (a : Nat) : List Lang × List Int :=
  if emp (der q a) then (st.1, st.2 ++ [-1])
  else match posOf (der q a) st.1 with
    | some k => (st.1, st.2 ++ [(k : Int)])
    | none => (st.1 ++ [der q a], st.2 ++ [(st.1.length : Int)])
noncomputable def cRow (L : Nat) (q : Lang) (qs : List Lang) : List Lang × List Int := (List.range L).foldl (cStep q) (qs, [])
noncomputable def cRun (L : Nat) : Nat → Nat → List Lang → List (List Int) → Option (List Lang × List (List Int))
  | 0, _, _, _ => none
  | f + 1, i, qs, rows => match qs[i]? with
    | some q => cRun L f (i + 1) (cRow L q qs).1 (rows ++ [(cRow L q qs).2])
    | none => some (qs, rows)
theorem cRun_mono (L : Nat) : ∀ f i qs rows r g, cRun L f i qs rows = some r → f ≤ g → cRun L g i qs rows = some r
  | 0, i, qs, rows, r, g, h, _ => by simp [cRun] at h
  | f + 1, i, qs, rows, r, g, h, hg => by
    obtain ⟨g, rfl⟩ : ∃ m, g = m + 1 := ⟨g - 1, by omega⟩
    unfold cRun at h ⊢
    cases e : qs[i]? with
    | none => rw [e] at h; exact h
    | some q =>
      rw [e] at h
      exact cRun_mono L f _ _ _ r g h (by omega)
/-- The least machine of a language: its states' languages, in the order in which they are found, and its rows. -/
def IsLeast (L : Nat) (q : Lang) (r : List Lang × List (List Int)) : Prop := ∃ f, cRun L f 0 [q] [] = some r
theorem IsLeast.unique {L : Nat} {q : Lang} {r r' : List Lang × List (List Int)} (h : IsLeast L q r) (h' : IsLeast L q r') : r = r' := by
  obtain ⟨f, h⟩ := h
  obtain ⟨f', h'⟩ := h'
  have h1 := cRun_mono L f _ _ _ _ (max f f') h (by omega)
  have h2 := cRun_mono L f' _ _ _ _ (max f f') h' (by omega)
  exact Option.some.inj (h1.symm.trans h2)
/-! The run of a machine's own states, numbered by classes. -/
section
variable (L : Nat) (nxt : Nat → Nat → Option Nat) (cls : Nat → Int)
def mStep (s : Nat) (st : List Nat × List Int) (a : Nat) : List Nat × List Int :=
  match nxt s a with
  | none => (st.1, st.2 ++ [-1])
  | some t => if cls t < 0 then (st.1, st.2 ++ [-1])
    else match st.1.findIdx? (fun x => decide (cls x = cls t)) with
      | some k => (st.1, st.2 ++ [(k : Int)])
      | none => (st.1 ++ [t], st.2 ++ [(st.1.length : Int)])
def mRow (s : Nat) (l : List Nat) : List Nat × List Int := (List.range L).foldl (mStep nxt cls s) (l, [])
def mRun : Nat → Nat → List Nat → List (List Int) → Option (List Nat × List (List Int))
  | 0, _, _, _ => none
  | f + 1, i, l, rows => match l[i]? with
    | some s => mRun f (i + 1) (mRow L nxt cls s l).1 (rows ++ [(mRow L nxt cls s l).2])
    | none => some (l, rows)
end
/-- The classes of states tell their languages apart. -/
structure ClsOK (L n : Nat) (nxt : Nat → Nat → Option Nat) (good : Nat → Bool) (V : Nat → Prop) (cls : Nat → Int) : Prop where
  lt : ∀ s, V s → s < n
  closed : ∀ s a t, V s → a < L → nxt s a = some t → V t
  dead : ∀ s, V s → (cls s < 0 ↔ emp (accW L nxt good s))
  same : ∀ s t, V s → V t → 0 ≤ cls s → 0 ≤ cls t → (cls s = cls t ↔ accW L nxt good s = accW L nxt good t)
section
variable {L n : Nat} {nxt : Nat → Nat → Option Nat} {good : Nat → Bool} {V : Nat → Prop} {cls : Nat → Int}
theorem findIdx_map {α β : Type} (f : α → β) (p : β → Bool) (p' : α → Bool) : ∀ l : List α, (∀ x ∈ l, p (f x) = p' x) → (l.map f).findIdx? p = l.findIdx? p'
  | [], _ => rfl
  | x :: l, h => by
    rw [List.map_cons, List.findIdx?_cons, List.findIdx?_cons, h x (by simp), findIdx_map f p p' l (fun y hy => h y (by simp [hy]))]
/-- The states so far: known, alive but the first one perhaps, apart. -/
structure LOK (V : Nat → Prop) (cls : Nat → Int) (l : List Nat) : Prop where
  v : ∀ x ∈ l, V x
  live : ∀ x ∈ l, 0 ≤ cls x
  apart : l.Pairwise (fun x y => cls x ≠ cls y)
theorem mStep_ok (H : ClsOK L n nxt good V cls) {s a : Nat} (hs : V s) (ha : a < L) {l : List Nat} (hl : LOK V cls l) (row : List Int) :
    LOK V cls (mStep nxt cls s (l, row) a).1 ∧ cStep (accW L nxt good s) (l.map (accW L nxt good), row) a = ((mStep nxt cls s (l, row) a).1.map (accW L nxt good), (mStep nxt cls s (l, row) a).2) := by
  unfold mStep cStep
  cases e : nxt s a with
  | none => rw [if_pos (der_none e)]; exact ⟨hl, rfl⟩
  | some t =>
    rw [der_some ha e]
    have ht := H.closed s a t hs ha e
    dsimp only
    by_cases hc : cls t < 0
    · rw [if_pos ((H.dead t ht).1 hc), if_pos hc]; exact ⟨hl, rfl⟩
    · rw [if_neg (fun hh => hc ((H.dead t ht).2 hh)), if_neg hc]
      have hf : posOf (accW L nxt good t) (l.map (accW L nxt good)) = l.findIdx? (fun x => decide (cls x = cls t)) := by
        unfold posOf
        refine findIdx_map _ _ _ l fun x hx => ?_
        rw [decide_eq_decide]
        exact (H.same x t (hl.v x hx) ht (hl.live x hx) (by omega)).symm
      rw [hf]
      cases e2 : l.findIdx? (fun x => decide (cls x = cls t)) with
      | some k => exact ⟨hl, rfl⟩
      | none =>
        rw [List.findIdx?_eq_none_iff] at e2
        refine ⟨⟨fun x hx => ?_, fun x hx => ?_, ?_⟩, by simp⟩
        · rcases List.mem_append.1 hx with hx | hx
          · exact hl.v x hx
          · rw [List.mem_singleton.1 hx]; exact ht
        · rcases List.mem_append.1 hx with hx | hx
          · exact hl.live x hx
          · rw [List.mem_singleton.1 hx]; omega
        · rw [List.pairwise_append]
          refine ⟨hl.apart, List.pairwise_singleton _ _, fun x hx y hy => ?_⟩
          rw [List.mem_singleton.1 hy]
          simpa using e2 x hx
theorem mFold_ok (H : ClsOK L n nxt good V cls) {s : Nat} (hs : V s) : ∀ (us : List Nat), (∀ a ∈ us, a < L) → ∀ (l : List Nat) (row : List Int), LOK V cls l →
    LOK V cls (us.foldl (mStep nxt cls s) (l, row)).1 ∧ us.foldl (cStep (accW L nxt good s)) (l.map (accW L nxt good), row) = ((us.foldl (mStep nxt cls s) (l, row)).1.map (accW L nxt good), (us.foldl (mStep nxt cls s) (l, row)).2)
  | [], _, l, row, hl => ⟨hl, rfl⟩
  | a :: us, ha, l, row, hl => by
    obtain ⟨h1, h2⟩ := mStep_ok H hs (ha a (by simp)) hl row
    rw [List.foldl_cons, List.foldl_cons, h2]
    exact mFold_ok H hs us (fun x hx => ha x (by simp [hx])) _ _ h1
theorem mRow_ok (H : ClsOK L n nxt good V cls) {s : Nat} (hs : V s) {l : List Nat} (hl : LOK V cls l) :
    LOK V cls (mRow L nxt cls s l).1 ∧ cRow L (accW L nxt good s) (l.map (accW L nxt good)) = ((mRow L nxt cls s l).1.map (accW L nxt good), (mRow L nxt cls s l).2) :=
  mFold_ok H hs (List.range L) (fun _ ha => List.mem_range.1 ha) l [] hl
theorem LOK.length_le (H : ClsOK L n nxt good V cls) {l : List Nat} (hl : LOK V cls l) : l.length ≤ n := by
  have h1 : l.Nodup := hl.apart.imp (fun h e => h (by rw [e]))
  have := nodup_sub_len (l' := List.range n) h1 (fun x hx => List.mem_range.2 (H.lt x (hl.v x hx)))
  simpa using this
theorem mRun_ok (H : ClsOK L n nxt good V cls) : ∀ (f i : Nat) (l : List Nat) (rows : List (List Int)), LOK V cls l → n < i + f → i ≤ n → ∃ l' rows', mRun L nxt cls f i l rows = some (l', rows') ∧ LOK V cls l' ∧ cRun L f i (l.map (accW L nxt good)) rows = some (l'.map (accW L nxt good), rows')
  | 0, i, l, rows, hl, hf, hi => by omega
  | f + 1, i, l, rows, hl, hf, hi => by
    unfold mRun cRun
    rw [List.getElem?_map]
    cases e : l[i]? with
    | none => exact ⟨l, rows, rfl, hl, rfl⟩
    | some s =>
      obtain ⟨h1, h2⟩ := mRow_ok H (hl.v s (List.mem_of_getElem? e)) hl
      have h3 := (List.getElem?_eq_some_iff.1 e).1
      have h4 := hl.length_le H
      simp only [Option.map_some]
      rw [h2]
      exact mRun_ok H f (i + 1) _ _ h1 (by omega) (by omega)
/-- The run from a living start comes to the least machine of the start's language. -/
theorem mRun_least (H : ClsOK L n nxt good V cls) {s : Nat} (hs : V s) (hc : 0 ≤ cls s) :
    ∃ l rows, mRun L nxt cls (n + 1) 0 [s] [] = some (l, rows) ∧ LOK V cls l ∧ IsLeast L (accW L nxt good s) (l.map (accW L nxt good), rows) := by
  obtain ⟨l, rows, h1, h2, h3⟩ := mRun_ok H (n + 1) 0 [s] [] ⟨fun x hx => by rw [List.mem_singleton.1 hx]; exact hs, fun x hx => by rw [List.mem_singleton.1 hx]; exact hc, List.pairwise_singleton _ _⟩ (by omega) (by omega)
  exact ⟨l, rows, h1, h2, n + 1, h3⟩
end
/-- The least machine of no words. -/
theorem least_empty (L : Nat) {q : Lang} (h : emp q) : IsLeast L q ([q], [List.replicate L (-1)]) := by
  have hrow : ∀ (us : List Nat) (row : List Int), us.foldl (cStep q) ([q], row) = ([q], row ++ List.replicate us.length (-1)) := by
    intro us
    induction us with
    | nil => intro row; simp
    | cons a us ih =>
      intro row
      have hst : cStep q ([q], row) a = ([q], row ++ [-1]) := by
        unfold cStep
        rw [if_pos (show emp (der q a) from fun w => h (a :: w))]
      rw [List.foldl_cons, hst]
      rw [ih (row ++ [-1])]
      simp [List.replicate_succ]
  refine ⟨2, ?_⟩
  have := hrow (List.range L) []
  simp only [List.nil_append, List.length_range] at this
  simp [cRun, cRow, this]
end Go.Proofs.YtgindgodfcfgkaaDoor.U
end M5
section M6
namespace Go.Proofs.YtgindgodfcfgkaaDoor.U
/-! Classes that are refined until they stay: they tell the languages apart. -/
def clsO (c : Nat → Int) : Option Nat → Int
  | none => -1
  | some t => c t
structure Ref (L n : Nat) (nxt : Nat → Nat → Option Nat) (inc : Nat → Prop) (c c' : Nat → Int) : Prop where
  out : ∀ s, s < n → ¬ inc s → c' s = -1
  nn : ∀ s, s < n → inc s → 0 ≤ c' s
  iff : ∀ s t, s < n → t < n → inc s → inc t → (c' s = c' t ↔ c s = c t ∧ ∀ a, a < L → clsO c (nxt s a) = clsO c (nxt t a))
/-- The classes are the numbers below m. -/
structure Cnt (n : Nat) (inc : Nat → Prop) (c : Nat → Int) (m : Nat) : Prop where
  lt : ∀ s, s < n → inc s → 0 ≤ c s ∧ c s < m
  onto : ∀ k, k < m → ∃ s, s < n ∧ inc s ∧ c s = k
theorem cnt_stable {n m : Nat} {inc : Nat → Prop} {c c' : Nat → Int} (h : Cnt n inc c m) (h' : Cnt n inc c' m) (hr : ∀ s t, s < n → t < n → inc s → inc t → c' s = c' t → c s = c t)
    {s t : Nat} (hs : s < n) (ht : t < n) (is : inc s) (it : inc t) (e : c s = c t) : c' s = c' t := by
  refine Classical.byContradiction fun hne => ?_
  have hx : ∀ k : Nat, ∃ x, k < m → x < n ∧ inc x ∧ c' x = k := fun k => by
    by_cases hk : k < m
    · obtain ⟨x, hx⟩ := h'.onto k hk; exact ⟨x, fun _ => hx⟩
    · exact ⟨0, fun hh => absurd hh hk⟩
  have a : ∃ r : Nat → Nat, ∀ k, k < m → r k < n ∧ inc (r k) ∧ c' (r k) = k := ⟨fun k => Classical.choose (hx k), fun k hk => Classical.choose_spec (hx k) hk⟩
  obtain ⟨r, hr'⟩ := a
  have k1 := h'.lt s hs is
  have k2 := h'.lt t ht it
  have main : ∀ j ∈ List.range m, j ∈ ((List.range m).erase (c' t).toNat).map (fun k => (c (r k)).toNat) := by
    intro j hj
    obtain ⟨x, hxn, hxi, hxc⟩ := h.onto j (List.mem_range.1 hj)
    have k3 := h'.lt x hxn hxi
    rw [List.mem_map]
    by_cases hxt : c' x = c' t
    · refine ⟨(c' s).toNat, (List.mem_erase_of_ne (by omega)).2 (List.mem_range.2 (by omega)), ?_⟩
      obtain ⟨q1, q2, q3⟩ := hr' (c' s).toNat (by omega)
      have q4 := hr _ _ q1 hs q2 is (by omega)
      have q5 := hr _ _ hxn ht hxi it hxt
      omega
    · refine ⟨(c' x).toNat, (List.mem_erase_of_ne (by omega)).2 (List.mem_range.2 (by omega)), ?_⟩
      obtain ⟨q1, q2, q3⟩ := hr' (c' x).toNat (by omega)
      have q4 := hr _ _ q1 hxn q2 hxi (by omega)
      omega
  have hl := nodup_sub_len List.nodup_range main
  rw [List.length_map, List.length_erase_of_mem (List.mem_range.2 (by omega)), List.length_range] at hl
  omega
section
variable {L n : Nat} {nxt : Nat → Nat → Option Nat} {good : Nat → Bool} {V : Nat → Prop}
/-- Which states have a class: the known ones that lead to a good one. -/
def incl (L : Nat) (nxt : Nat → Nat → Option Nat) (good : Nat → Bool) (V : Nat → Prop) (s : Nat) : Prop := V s ∧ ¬ emp (accW L nxt good s)
structure VOK (L n : Nat) (nxt : Nat → Nat → Option Nat) (V : Nat → Prop) : Prop where
  lt : ∀ s, V s → s < n
  closed : ∀ s a t, V s → a < L → nxt s a = some t → V t
  inn : ∀ s a t, s < n → a < L → nxt s a = some t → t < n
structure RI (L n : Nat) (nxt : Nat → Nat → Option Nat) (good : Nat → Bool) (V : Nat → Prop) (c : Nat → Int) : Prop where
  out : ∀ s, s < n → ¬ incl L nxt good V s → c s = -1
  nn : ∀ s, s < n → incl L nxt good V s → 0 ≤ c s
  lang : ∀ s t, s < n → t < n → incl L nxt good V s → incl L nxt good V t → accW L nxt good s = accW L nxt good t → c s = c t
  good : ∀ s t, s < n → t < n → incl L nxt good V s → incl L nxt good V t → c s = c t → good s = good t
theorem RI.step {c c' : Nat → Int} (hV : VOK L n nxt V) (h : RI L n nxt good V c) (R : Ref L n nxt (incl L nxt good V) c c') : RI L n nxt good V c' := by
  refine ⟨R.out, R.nn, fun s t hs ht is it e => ?_, fun s t hs ht is it e => h.good s t hs ht is it ((R.iff s t hs ht is it).1 e).1⟩
  rw [R.iff s t hs ht is it]
  refine ⟨h.lang s t hs ht is it e, fun a ha => ?_⟩
  have hd : der (accW L nxt good s) a = der (accW L nxt good t) a := by rw [e]
  have one : ∀ x y z, x < n → y < n → incl L nxt good V y → nxt x a = none → nxt y a = some z → der (accW L nxt good x) a = der (accW L nxt good y) a → c z = -1 := by
    intro x y z hx hy iy h1 h2 h3
    rw [der_some ha h2] at h3
    exact h.out z (hV.inn y a z hy ha h2) (fun hz => hz.2 (h3 ▸ der_none h1))
  cases e1 : nxt s a with
  | none =>
    cases e2 : nxt t a with
    | none => rfl
    | some t' => exact (one s t t' hs ht it e1 e2 hd).symm
  | some s' =>
    cases e2 : nxt t a with
    | none => exact one t s s' ht hs is e2 e1 hd.symm
    | some t' =>
      rw [der_some ha e1, der_some ha e2] at hd
      have v1 := hV.closed s a s' is.1 ha e1
      have v2 := hV.closed t a t' it.1 ha e2
      show c s' = c t'
      by_cases hE : emp (accW L nxt good s')
      · rw [h.out s' (hV.lt _ v1) (fun hz => hz.2 hE), h.out t' (hV.lt _ v2) (fun hz => hz.2 (hd ▸ hE))]
      · exact h.lang s' t' (hV.lt _ v1) (hV.lt _ v2) ⟨v1, hE⟩ ⟨v2, hd ▸ hE⟩ hd
theorem RI.final {c c' : Nat → Int} {m : Nat} (hV : VOK L n nxt V) (h : RI L n nxt good V c) (R : Ref L n nxt (incl L nxt good V) c c') (C : Cnt n (incl L nxt good V) c m) (C' : Cnt n (incl L nxt good V) c' m) : ClsOK L n nxt good V c' := by
  have h' := h.step hV R
  have st : ∀ s t, s < n → t < n → incl L nxt good V s → incl L nxt good V t → c s = c t → c' s = c' t := fun s t hs ht is it e =>
    cnt_stable C C' (fun s t hs ht is it e => ((R.iff s t hs ht is it).1 e).1) hs ht is it e
  have main : ∀ (w : List Nat) (s t : Nat), s < n → t < n → incl L nxt good V s → incl L nxt good V t → c' s = c' t → accW L nxt good s w = accW L nxt good t w := by
    intro w
    induction w with
    | nil => intro s t hs ht is it e; exact h'.good s t hs ht is it e
    | cons a w ih =>
      intro s t hs ht is it e
      by_cases ha : a < L
      · have hq := ((R.iff s t hs ht is it).1 e).2 a ha
        have dead : ∀ x y z, x < n → incl L nxt good V x → nxt x a = some z → c z < 0 → accW L nxt good z y = false := by
          intro x y z hx ix h1 h2
          have vz := hV.closed x a z ix.1 ha h1
          refine Classical.byContradiction fun hh => ?_
          have := h.nn z (hV.lt _ vz) ⟨vz, fun hE => hh (hE y)⟩
          omega
        have hh : der (accW L nxt good s) a w = der (accW L nxt good t) a w := by
          cases e1 : nxt s a with
          | none =>
            rw [der_none e1 w]
            cases e2 : nxt t a with
            | none => rw [der_none e2 w]
            | some t' =>
              rw [der_some ha e2, dead t w t' ht it e2]
              rw [e1, e2] at hq
              have : c t' = -1 := hq.symm
              omega
          | some s' =>
            cases e2 : nxt t a with
            | none =>
              rw [der_none e2 w, der_some ha e1, dead s w s' hs is e1]
              rw [e1, e2] at hq
              have : c s' = -1 := hq
              omega
            | some t' =>
              rw [der_some ha e1, der_some ha e2]
              rw [e1, e2] at hq
              have hq : c s' = c t' := hq
              have v1 := hV.closed s a s' is.1 ha e1
              have v2 := hV.closed t a t' it.1 ha e2
              by_cases hn : c s' < 0
              · rw [dead s w s' hs is e1 hn, dead t w t' ht it e2 (by omega)]
              · have i1 : incl L nxt good V s' := Classical.byContradiction fun hz => by have := h.out s' (hV.lt _ v1) hz; omega
                have i2 : incl L nxt good V t' := Classical.byContradiction fun hz => by have := h.out t' (hV.lt _ v2) hz; omega
                exact ih s' t' (hV.lt _ v1) (hV.lt _ v2) i1 i2 (st s' t' (hV.lt _ v1) (hV.lt _ v2) i1 i2 hq)
        exact hh
      · simp [accW, ha]
  refine ⟨hV.lt, hV.closed, fun s vs => ⟨fun hc => ?_, fun hE => ?_⟩, fun s t vs vt cs ct => ⟨fun e => ?_, fun e => ?_⟩⟩
  · refine Classical.byContradiction fun hE => ?_
    have := h'.nn s (hV.lt s vs) ⟨vs, hE⟩
    omega
  · have := h'.out s (hV.lt s vs) (fun hz => hz.2 hE)
    omega
  · have i1 : incl L nxt good V s := Classical.byContradiction fun hz => by have := h'.out s (hV.lt _ vs) hz; omega
    have i2 : incl L nxt good V t := Classical.byContradiction fun hz => by have := h'.out t (hV.lt _ vt) hz; omega
    exact funext fun w => main w s t (hV.lt _ vs) (hV.lt _ vt) i1 i2 e
  · have i1 : incl L nxt good V s := Classical.byContradiction fun hz => by have := h'.out s (hV.lt _ vs) hz; omega
    have i2 : incl L nxt good V t := Classical.byContradiction fun hz => by have := h'.out t (hV.lt _ vt) hz; omega
    exact h'.lang s t (hV.lt _ vs) (hV.lt _ vt) i1 i2 e
end
end Go.Proofs.YtgindgodfcfgkaaDoor.U
end M6
section M7
namespace Go.Proofs.YtgindgodfcfgkaaDoor.U
open Go.RowKit Go.Proofs.YtgindgodfcfgkaaDoor.P Go.Proofs.YtgindgodfcfgkaaDoorW.PrintWords Go.Proofs.YtgindgodfcfgkaaDoorW.PrintLast
set_option linter.unusedVariables false
/-! The machines of rows as machines of functions; one pass over the states. -/
def nxO (N : List (List Int)) (s a : Nat) : Option Nat := if 0 ≤ nx N s a then some (nx N s a).toNat else none
def Zbh (g : List Bool) (s : Nat) : Bool := rdOf false g (s : Int)
abbrev accM (L : Int) (N : List (List Int)) (g : List Bool) (s : Nat) : Lang := accW L.toNat (nxO N) (Zbh g) s
theorem nxO_some {N : List (List Int)} {s a t : Nat} (h : nxO N s a = some t) : nx N s a = t := by
  unfold nxO at h
  split at h
  · have := Option.some.inj h; omega
  · cases h
theorem nxO_of {N : List (List Int)} {s a : Nat} (h : 0 ≤ nx N s a) : nxO N s a = some (nx N s a).toNat := if_pos h
theorem nxO_no {N : List (List Int)} {s a : Nat} (h : nx N s a < 0) : nxO N s a = none := if_neg (by omega)
theorem led_acc {L : Int} {N : List (List Int)} {g : List Bool} (hN : Zcu L N) {s : Nat} (hs : s < N.length) : Led L N g s ↔ ¬ emp (accM L N g s) := by
  constructor
  · intro h
    have main : ∀ x : Int, Led L N g x → ∃ w, accM L N g x.toNat w = true := by
      intro x hx
      induction hx with
      | @base x h0 h1 h => exact ⟨[], by unfold accM accW Zbh; rw [Int.toNat_of_nonneg h0]; exact h⟩
      | @step x a h0 h1 ha hb hn _ ih =>
        obtain ⟨w, hw⟩ := ih
        obtain ⟨y, rfl⟩ := Int.eq_ofNat_of_zero_le h0
        obtain ⟨b, rfl⟩ := Int.eq_ofNat_of_zero_le ha
        refine ⟨b :: w, ?_⟩
        unfold accM accW
        rw [Int.toNat_natCast, nxO_of hn]
        simp only [Bool.and_eq_true, decide_eq_true_eq]
        exact ⟨by omega, hw⟩
    obtain ⟨w, hw⟩ := main _ h
    intro he
    have := he w
    rw [Int.toNat_natCast] at hw
    rw [hw] at this
    cases this
  · intro h
    have main : ∀ (w : List Nat) (s : Nat), s < N.length → accM L N g s w = true → Led L N g s := by
      intro w
      induction w with
      | nil => intro s hs hw; exact .base (by omega) (by omega) hw
      | cons a w ih =>
        intro s hs hw
        unfold accM accW at hw
        simp only [Bool.and_eq_true, decide_eq_true_eq] at hw
        cases e : nxO N s a with
        | none => rw [e] at hw; simp at hw
        | some t =>
          rw [e] at hw
          have h1 := nxO_some e
          have hx := nx_in hN (s := s) (a := a) (by omega) (by omega) (by omega)
          refine .step (a := (a : Int)) (by omega) (by omega) (by omega) (by omega) (by omega) ?_
          rw [h1]
          exact ih t (by omega) hw.2
    obtain ⟨w, hw⟩ := Classical.not_forall.1 h
    exact main w s hs (by simpa using hw)
theorem vok_rch {L S : Int} {N : List (List Int)} (hN : Zcu L N) (hS : 0 ≤ S) (hSn : S < N.length) : VOK L.toNat N.length (nxO N) (fun s => Rch L N S s) := by
  have main : ∀ x : Int, Rch L N S x → 0 ≤ x ∧ x < N.length := by
    intro x hx
    induction hx with
    | start => exact ⟨hS, hSn⟩
    | step h ha hb hn ih => exact ⟨hn, (nx_in hN ih.2 ha hb).2⟩
  refine ⟨fun s hs => by have := main _ hs; omega, fun s a t hs ha e => ?_, fun s a t hs ha e => ?_⟩
  · have h1 := nxO_some e
    rw [← h1]
    exact .step hs (by omega) (by omega) (by omega)
  · have h1 := nxO_some e
    have := nx_in hN (s := s) (a := a) (by omega) (by omega) (by omega)
    omega
theorem vok_all {L : Int} {N : List (List Int)} (hN : Zcu L N) : VOK L.toNat N.length (nxO N) (fun s => s < N.length) := by
  refine ⟨fun s hs => hs, fun s a t hs ha e => ?_, fun s a t hs ha e => ?_⟩
  all_goals
    have h1 := nxO_some e
    have := nx_in hN (s := s) (a := a) (by omega) (by omega) (by omega)
    omega
theorem cnt_rep {n m : Nat} {inc : Nat → Prop} {c : Nat → Int} (h : Cnt n inc c m) : ∃ r : Nat → Nat, ∀ k, k < m → r k < n ∧ inc (r k) ∧ c (r k) = k := by
  have hx : ∀ k : Nat, ∃ x, k < m → x < n ∧ inc x ∧ c x = k := fun k => by
    by_cases hk : k < m
    · obtain ⟨x, hx⟩ := h.onto k hk; exact ⟨x, fun _ => hx⟩
    · exact ⟨0, fun hh => absurd hh hk⟩
  exact ⟨fun k => Classical.choose (hx k), fun k hk => Classical.choose_spec (hx k) hk⟩
theorem nodup_map_range {m : Nat} {f : Nat → Nat} (h : ∀ i j, i < m → j < m → f i = f j → i = j) : ((List.range m).map f).Nodup := by
  refine List.Pairwise.map f (R := fun i j => i < m ∧ j < m ∧ i ≠ j) (fun i j hij e => hij.2.2 (h i j hij.1 hij.2.1 e)) ?_
  have h1 : (List.range m).Nodup := List.nodup_range
  exact List.Pairwise.imp_of_mem (fun ha hb hne => ⟨List.mem_range.1 ha, List.mem_range.1 hb, hne⟩) h1
theorem cnt_le {n m : Nat} {inc : Nat → Prop} {c : Nat → Int} (h : Cnt n inc c m) : m ≤ n := by
  obtain ⟨r, hr⟩ := cnt_rep h
  have h1 := nodup_map_range (m := m) (f := r) (fun i j hi hj e => by
    have a := (hr i hi).2.2
    have b := (hr j hj).2.2
    rw [e] at a
    omega)
  have := nodup_sub_len (l' := List.range n) h1 (fun x hx => by
    obtain ⟨k, hk, rfl⟩ := List.mem_map.1 hx
    exact List.mem_range.2 (hr k (List.mem_range.1 hk)).1)
  simpa using this
theorem cnt_mono {n m m' : Nat} {inc : Nat → Prop} {c c' : Nat → Int} (h : Cnt n inc c m) (h' : Cnt n inc c' m') (hr : ∀ s t, s < n → t < n → inc s → inc t → c' s = c' t → c s = c t) : m ≤ m' := by
  obtain ⟨r, d⟩ := cnt_rep h
  have hin : ∀ k, k < m → 0 ≤ c' (r k) ∧ c' (r k) < m' := fun k hk => h'.lt _ (d k hk).1 (d k hk).2.1
  have h1 := nodup_map_range (m := m) (f := fun k => (c' (r k)).toNat) (fun i j hi hj e => by
    have a := hin i hi
    have b := hin j hj
    have := hr _ _ (d i hi).1 (d j hj).1 (d i hi).2.1 (d j hj).2.1 (by have e' : (c' (r i)).toNat = (c' (r j)).toNat := e; omega)
    have q1 := (d i hi).2.2
    have q2 := (d j hj).2.2
    omega)
  have := nodup_sub_len (l' := List.range m') h1 (fun x hx => by
    obtain ⟨k, hk, rfl⟩ := List.mem_map.1 hx
    have := hin k (List.mem_range.1 hk)
    exact List.mem_range.2 (by omega))
  simpa using this
/-- One pass over the states up to i: the first state of each class found, and the new classes. -/
structure PassI {κ : Type} (inc : Nat → Prop) (sig : Nat → κ) (i : Nat) (ks : List Nat) (c' : Nat → Int) : Prop where
  first : ∀ x ∈ ks, x < i ∧ inc x
  apart : ks.Pairwise (fun x y => sig x ≠ sig y)
  out : ∀ s, s < i → ¬ inc s → c' s = -1
  num : ∀ s, s < i → inc s → ∃ j, j < ks.length ∧ c' s = j ∧ ∀ x, ks[j]? = some x → sig x = sig s
section
variable {κ : Type} {inc : Nat → Prop} {sig : Nat → κ} {i : Nat} {ks : List Nat} {c' c'' : Nat → Int}
theorem PassI.start : PassI inc sig 0 [] c' := ⟨fun x hx => by simp at hx, List.Pairwise.nil, fun s hs => absurd hs (by omega), fun s hs => absurd hs (by omega)⟩
theorem PassI.skip (I : PassI inc sig i ks c') (hi : ¬ inc i) (h1 : c'' i = -1) (h2 : ∀ s, s < i → c'' s = c' s) : PassI inc sig (i + 1) ks c'' := by
  refine ⟨fun x hx => ⟨by have := (I.first x hx).1; omega, (I.first x hx).2⟩, I.apart, fun s hs hn => ?_, fun s hs hn => ?_⟩
  · by_cases e : s = i
    · subst e; exact h1
    · rw [h2 s (by omega)]; exact I.out s (by omega) hn
  · by_cases e : s = i
    · subst e; exact absurd hn hi
    · rw [h2 s (by omega)]; exact I.num s (by omega) hn
theorem PassI.known (I : PassI inc sig i ks c') {j x : Nat} (hj : ks[j]? = some x) (hx : sig x = sig i) (h1 : c'' i = j) (h2 : ∀ s, s < i → c'' s = c' s) (hi : inc i) : PassI inc sig (i + 1) ks c'' := by
  refine ⟨fun x hx => ⟨by have := (I.first x hx).1; omega, (I.first x hx).2⟩, I.apart, fun s hs hn => ?_, fun s hs hn => ?_⟩
  · by_cases e : s = i
    · subst e; exact absurd hi hn
    · rw [h2 s (by omega)]; exact I.out s (by omega) hn
  · by_cases e : s = i
    · subst e
      refine ⟨j, (List.getElem?_eq_some_iff.1 hj).1, h1, fun y hy => ?_⟩
      rw [hj] at hy
      rw [← Option.some.inj hy]
      exact hx
    · rw [h2 s (by omega)]; exact I.num s (by omega) hn
theorem PassI.new (I : PassI inc sig i ks c') (hne : ∀ x ∈ ks, sig x ≠ sig i) (h1 : c'' i = ks.length) (h2 : ∀ s, s < i → c'' s = c' s) (hi : inc i) : PassI inc sig (i + 1) (ks ++ [i]) c'' := by
  refine ⟨fun x hx => ?_, ?_, fun s hs hn => ?_, fun s hs hn => ?_⟩
  · rcases List.mem_append.1 hx with hx | hx
    · exact ⟨by have := (I.first x hx).1; omega, (I.first x hx).2⟩
    · rw [List.mem_singleton.1 hx]; exact ⟨by omega, hi⟩
  · rw [List.pairwise_append]
    exact ⟨I.apart, List.pairwise_singleton _ _, fun x hx y hy => by rw [List.mem_singleton.1 hy]; exact hne x hx⟩
  · by_cases e : s = i
    · subst e; exact absurd hi hn
    · rw [h2 s (by omega)]; exact I.out s (by omega) hn
  · by_cases e : s = i
    · subst e
      refine ⟨ks.length, by simp, h1, fun y hy => ?_⟩
      simp at hy
      rw [hy]
    · rw [h2 s (by omega)]
      obtain ⟨j, hj, h3, h4⟩ := I.num s (by omega) hn
      refine ⟨j, by simp; omega, h3, fun y hy => h4 y ?_⟩
      rwa [List.getElem?_append_left hj] at hy
theorem PassI.same (I : PassI inc sig i ks c') {s t : Nat} (hs : s < i) (ht : t < i) (is : inc s) (it : inc t) : c' s = c' t ↔ sig s = sig t := by
  obtain ⟨j, hj, h1, h2⟩ := I.num s hs is
  obtain ⟨l, hl, h3, h4⟩ := I.num t ht it
  have q1 := h2 _ (List.getElem?_eq_getElem hj)
  have q2 := h4 _ (List.getElem?_eq_getElem hl)
  constructor
  · intro e
    have : j = l := by omega
    subst this
    rw [← q1, ← q2]
  · intro e
    have : j = l := by
      refine Classical.byContradiction fun hne => ?_
      have hp := List.pairwise_iff_getElem.1 I.apart
      rcases Nat.lt_or_gt_of_ne hne with hlt | hlt
      · exact hp j l hj hl hlt (by rw [q1, q2, e])
      · exact hp l j hl hj hlt (by rw [q1, q2, e])
    omega
theorem PassI.cnt (I : PassI inc sig i ks c') : Cnt i inc c' ks.length := by
  refine ⟨fun s hs is => ?_, fun k hk => ?_⟩
  · obtain ⟨j, hj, h1, _⟩ := I.num s hs is
    omega
  · obtain ⟨h1, h2⟩ := I.first ks[k] (List.getElem_mem hk)
    refine ⟨ks[k], h1, h2, ?_⟩
    obtain ⟨j, hj, h3, h4⟩ := I.num _ h1 h2
    have q := h4 _ (List.getElem?_eq_getElem hj)
    have : j = k := by
      refine Classical.byContradiction fun hne => ?_
      have hp := List.pairwise_iff_getElem.1 I.apart
      rcases Nat.lt_or_gt_of_ne hne with hlt | hlt
      · exact hp j k hj hk hlt q
      · exact hp k j hk hj hlt q.symm
    omega
end
/-- What tells the states apart in one pass. -/
def sigO (L : Nat) (nxt : Nat → Nat → Option Nat) (c : Nat → Int) (s : Nat) : Int × List Int := (c s, (List.range L).map fun a => clsO c (nxt s a))
theorem sigO_iff {L : Nat} {nxt : Nat → Nat → Option Nat} {c : Nat → Int} {s t : Nat} : sigO L nxt c s = sigO L nxt c t ↔ c s = c t ∧ ∀ a, a < L → clsO c (nxt s a) = clsO c (nxt t a) := by
  unfold sigO
  rw [Prod.mk.injEq]
  refine and_congr Iff.rfl ?_
  rw [List.map_inj_left]
  exact ⟨fun h a ha => h a (List.mem_range.2 ha), fun h a ha => h a (List.mem_range.1 ha)⟩
theorem PassI.ref {L n : Nat} {nxt : Nat → Nat → Option Nat} {inc : Nat → Prop} {c c' : Nat → Int} {ks : List Nat} (I : PassI inc (sigO L nxt c) n ks c') : Ref L n nxt inc c c' :=
  ⟨I.out, fun s hs is => by obtain ⟨j, _, h, _⟩ := I.num s hs is; omega, fun s t hs ht is it => (I.same hs ht is it).trans sigO_iff⟩
/-- The number of classes before a pass: none was counted yet, or it is right. -/
def Many (n : Nat) (inc : Nat → Prop) (c : Nat → Int) (m : Int) : Prop := m ≤ 0 ∨ ∃ k : Nat, m = k ∧ Cnt n inc c k
theorem many_done {L n : Nat} {nxt : Nat → Nat → Option Nat} {good : Nat → Bool} {V : Nat → Prop} {c c' : Nat → Int} {ks : List Nat} {m : Int} (hV : VOK L n nxt V) (h : RI L n nxt good V c)
    (hm : Many n (incl L nxt good V) c m) (I : PassI (incl L nxt good V) (sigO L nxt c) n ks c') (e : (ks.length : Int) = m) : ClsOK L n nxt good V c' := by
  have C' := I.cnt
  refine RI.final (m := ks.length) hV h I.ref ?_ C'
  rcases hm with h0 | ⟨k, rfl, C⟩
  · have hz : ks.length = 0 := by omega
    refine ⟨fun s hs is => ?_, fun k hk => absurd hk (by omega)⟩
    have := C'.lt s hs is
    omega
  · have : ks.length = k := by omega
    rw [this]; exact C
theorem many_more {L n : Nat} {nxt : Nat → Nat → Option Nat} {inc : Nat → Prop} {c c' : Nat → Int} {ks : List Nat} {m : Int}
    (hm : Many n inc c m) (I : PassI inc (sigO L nxt c) n ks c') (e : (ks.length : Int) ≠ m) : Many n inc c' ks.length ∧ m < ks.length ∧ ks.length ≤ n := by
  have C' := I.cnt
  refine ⟨.inr ⟨_, rfl, C'⟩, ?_, cnt_le C'⟩
  rcases hm with h0 | ⟨k, rfl, C⟩
  · omega
  · have := cnt_mono C C' (fun s t hs ht is it e => (sigO_iff.1 ((I.same hs ht is it).1 e)).1)
    omega
/-- The classes before the first pass. -/
theorem ri_first {L n : Nat} {nxt : Nat → Nat → Option Nat} {good : Nat → Bool} {V : Nat → Prop} {c : Nat → Int}
    (h1 : ∀ s, s < n → ¬ incl L nxt good V s → c s = -1) (h2 : ∀ s, s < n → incl L nxt good V s → c s = if good s then 1 else 0) : RI L n nxt good V c := by
  refine ⟨h1, fun s hs is => ?_, fun s t hs ht is it e => ?_, fun s t hs ht is it e => ?_⟩
  · rw [h2 s hs is]; split <;> omega
  · have : good s = good t := by have := congrFun e []; simpa [accW] using this
    rw [h2 s hs is, h2 t ht it, this]
  · rw [h2 s hs is, h2 t ht it] at e
    cases hg : good s <;> cases hg' : good t <;> rw [hg, hg'] at e <;> first | rfl | (simp at e)
theorem Zcp {l : List Int} {i : Nat} (h : i < l.length) (v : Int) : rd (l.set i v) (i : Int) = v := by
  rw [rd_lt (by simp; exact h)]; simp
theorem Zdr {l : List Int} {i j : Nat} (h : i ≠ j) (v : Int) : rd (l.set i v) (j : Int) = rd l (j : Int) := by
  show (l.set i v).getD j 0 = l.getD j 0
  rw [List.getD_eq_getElem?_getD, List.getElem?_set_ne h, List.getD_eq_getElem?_getD]
/-- The class of a target as the code reads it. -/
def clsN (l : List Int) (x : Int) : Int := if 0 ≤ x then rd l x else -1
theorem clsN_eq {N : List (List Int)} {l : List Int} (s a : Nat) : clsN l (nx N s a) = clsO (fun t => rd l (t : Int)) (nxO N s a) := by
  unfold clsN nxO
  by_cases h : 0 ≤ nx N s a
  · rw [if_pos h, if_pos h]
    show rd l (nx N s a) = rd l (((nx N s a).toNat : Nat) : Int)
    rw [Int.toNat_of_nonneg h]
  · rw [if_neg h, if_neg h]; rfl
end Go.Proofs.YtgindgodfcfgkaaDoor.U
end M7
section M8
namespace Go.Proofs.YtgindgodfcfgkaaDoor.U
open Go.RowKit Go.Proofs.YtgindgodfcfgkaaDoor.P Go.Proofs.YtgindgodfcfgkaaDoorW.PrintWords Go.Proofs.YtgindgodfcfgkaaDoorW.PrintLast
set_option linter.unusedVariables false
/-! The program's classes: a map from what tells a state apart to its class. -/
def two (q : Int) : List Int := [(q / 256) % 256, q % 256]
def Byte (l : List Int) : Prop := ∀ x ∈ l, 0 ≤ x ∧ x < 256
theorem two_byte (q : Int) : Byte (two q) := by
  intro x hx
  simp only [two, List.mem_cons, List.not_mem_nil, or_false] at hx
  rcases hx with rfl | rfl <;> omega
theorem two_inj {p q : Int} (hp : -1 ≤ p ∧ p < 65535) (hq : -1 ≤ q ∧ q < 65535) (h : two p = two q) : p = q := by
  simp only [two, List.cons.injEq, and_true] at h
  omega
theorem bytes_str {l : List Int} (h : Byte l) : bytesOf (strOfNums l) = l := by
  unfold bytesOf
  rw [strOfNums_data, List.map_map]
  conv => rhs; rw [← List.map_id l]
  refine List.map_congr_left fun x hx => ?_
  have := h x hx
  simp only [Function.comp_apply, id_eq, UInt8.toNat_ofNat']
  omega
theorem str_inj {l l' : List Int} (h : Byte l) (h' : Byte l') (e : strOfNums l = strOfNums l') : l = l' := by
  rw [← bytes_str h, ← bytes_str h', e]
def keyL (p : Int × List Int) : List Int := two p.1 ++ p.2.flatMap two
theorem flat_byte (l : List Int) : Byte (l.flatMap two) := by
  intro x hx
  obtain ⟨y, _, hy⟩ := List.mem_flatMap.1 hx
  exact two_byte y x hy
theorem keyL_byte (p : Int × List Int) : Byte (keyL p) := by
  intro x hx
  rcases List.mem_append.1 hx with hx | hx
  · exact two_byte _ x hx
  · exact flat_byte _ x hx
theorem flat_inj : ∀ {l l' : List Int}, l.length = l'.length → (∀ x ∈ l, -1 ≤ x ∧ x < 65535) → (∀ x ∈ l', -1 ≤ x ∧ x < 65535) → l.flatMap two = l'.flatMap two → l = l'
  | [], [], _, _, _, _ => rfl
  | [], b :: l', h, _, _, _ => by simp at h
  | a :: l, [], h, _, _, _ => by simp at h
  | a :: l, b :: l', h, h1, h2, e => by
    rw [List.flatMap_cons, List.flatMap_cons] at e
    obtain ⟨e1, e2⟩ := List.append_inj e rfl
    rw [two_inj (h1 a (by simp)) (h2 b (by simp)) e1, flat_inj (by simpa using h) (fun x hx => h1 x (by simp [hx])) (fun x hx => h2 x (by simp [hx])) e2]
theorem key_inj {p q : Int × List Int} (hl : p.2.length = q.2.length) (hp : -1 ≤ p.1 ∧ p.1 < 65535) (hq : -1 ≤ q.1 ∧ q.1 < 65535) (h1 : ∀ x ∈ p.2, -1 ≤ x ∧ x < 65535) (h2 : ∀ x ∈ q.2, -1 ≤ x ∧ x < 65535)
    (e : strOfNums (keyL p) = strOfNums (keyL q)) : p = q := by
  have e := str_inj (keyL_byte p) (keyL_byte q) e
  obtain ⟨e1, e2⟩ := List.append_inj e rfl
  obtain ⟨a, l⟩ := p
  obtain ⟨b, l'⟩ := q
  have q1 : a = b := two_inj hp hq e1
  have q2 : l = l' := flat_inj hl h1 h2 e2
  rw [q1, q2]
theorem wordKey_ev (l : List Int) (hl : l.length ≤ 1048576) : Ev (fun k => Zcb.f k l) (strOfNums (l.map (· % 256))) := by
  have key := Ev.up (fun k (s : List Int) i => Zcb.l0 k s l (l.length : Int) i) l.length (fun _ _ => strOfNums (l.map (· % 256))) (fun i s => s.length = l.length ∧ ∀ j, j < i → s[j]? = (l.map (· % 256))[j]?)
    (fun s ⟨h1, h2⟩ => by
      refine Ev.round ?_
      simp only [Zcb.l0]
      refine Ev.no (by omega) ?_
      have : s = l.map (· % 256) := List.ext_getElem? fun j => by
        by_cases hj : j < l.length
        · exact h2 j hj
        · rw [List.getElem?_eq_none (by omega), List.getElem?_eq_none (by simp; omega)]
      rw [this]
      exact Ev.now _)
    (fun i s hi ⟨h1, h2⟩ ih => by
      refine Ev.round ?_
      simp only [Zcb.l0]
      refine Ev.yes (by omega) (Ev.yes (by omega) (Ev.yes (by omega) (Ev.yes (by omega) ?_)))
      rw [w64s (by omega), Int.toNat_natCast, rd_lt hi]
      refine ih _ ⟨by simp [h1], fun j hj => ?_⟩
      by_cases e : j = i
      · subst e
        rw [List.getElem?_set_self (by omega)]
        simp [hi]
      · rw [List.getElem?_set_ne (by omega)]
        exact h2 j (by omega))
  unfold Zcb.f
  refine Ev.yes (by omega) (Ev.yes (by omega) ?_)
  have := key 0 (List.replicate l.length 0) (by omega) ⟨by simp, fun j hj => absurd hj (by omega)⟩
  simpa using this
theorem and255 {c : Int} (h0 : 0 ≤ c) (h1 : c < 65536) : bits .and .i64 c 255 = c % 256 := by
  obtain ⟨n, rfl⟩ := Int.eq_ofNat_of_zero_le h0
  rw [show (255 : Int) = ((255 : Nat) : Int) from rfl, band (by omega) (by omega)]
  have : n &&& 255 = n % 256 := Nat.and_two_pow_sub_one_eq_mod n 8
  omega
/-- The map as it stands when the states ks were the first of their classes. -/
def mapOf {K : Type} (key : Nat → K) (ks : List Nat) (m : Nat) : List (K × Int) := (ks.zipIdx m).map fun p => (key p.1, (p.2 : Int))
theorem mfind_mapOf {K : Type} [DecidableEq K] (key : Nat → K) (x : K) : ∀ (ks : List Nat) (m j : Nat), mfind (mapOf key ks m) x j = (ks.findIdx? (fun y => decide (key y = x))).map fun q => (j + q, ((m + q : Nat) : Int))
  | [], m, j => rfl
  | y :: ks, m, j => by
    have e : mapOf key (y :: ks) m = (key y, (m : Int)) :: mapOf key ks (m + 1) := rfl
    rw [e, mfind, List.findIdx?_cons]
    by_cases h : x = key y
    · rw [if_pos h, decide_eq_true h.symm]
      simp
    · rw [if_neg h, decide_eq_false (fun hh => h hh.symm), mfind_mapOf key x ks (m + 1) (j + 1)]
      simp only [Bool.false_eq_true, if_false, Option.map_map]
      refine congrArg (fun f => Option.map f _) (funext fun q => ?_)
      simp only [Function.comp_apply, Prod.mk.injEq]
      omega
theorem mapOf_length {K : Type} (key : Nat → K) (ks : List Nat) : (mapOf key ks 0).length = ks.length := by simp [mapOf]
theorem mapOf_snoc {K : Type} (key : Nat → K) (ks : List Nat) (i : Nat) : mapOf key (ks ++ [i]) 0 = mapOf key ks 0 ++ [(key i, (ks.length : Int))] := by
  simp [mapOf, List.zipIdx_append]
set_option maxHeartbeats 1000000 in
theorem classes_ev {L S : Int} {N : List (List Int)} {fin us : List Bool} {V : Nat → Prop} (hN : Zcu L N) (hn : N.length ≤ 65535) (hf : fin.length = N.length) (hL : 0 ≤ L) (o : L ≤ 1048576) (hu : us.length = N.length)
    (hus : ∀ s : Nat, s < N.length → (rdOf false us (s : Int) = true ↔ incl L.toNat (nxO N) (Zbh fin) V s)) (hV : VOK L.toNat N.length (nxO N) V) :
    EvP (fun k => Zam.f k L S fin N us) (fun r => r.length = N.length ∧ ClsOK L.toNat N.length (nxO N) (Zbh fin) V (fun s => rd r (s : Int))) := by
  have hrow : ∀ s : Nat, s < N.length → ((Zae N (s : Int)).length : Int) = L := fun s hs => (row_at hN (s := s) (by omega) (by omega)).1
  have hnx : ∀ s a : Nat, rd (Zae N (s : Int)) (a : Int) = nx N s a := fun s a => by unfold nx; rw [if_neg (by omega)]
  -- the passes
  have pass : ∀ (d : Nat) (c : List Int) (m : Int), c.length = N.length → RI L.toNat N.length (nxO N) (Zbh fin) V (fun s => rd c (s : Int)) → (∀ s, s < N.length → rd c (s : Int) < 65535) → Many N.length (incl L.toNat (nxO N) (Zbh fin) V) (fun s => rd c (s : Int)) m → -1 ≤ m → (N.length : Int) < m + d →
      EvP (fun k => Zam.l1 k c m L S fin N) (fun r => r.length = N.length ∧ ClsOK L.toNat N.length (nxO N) (Zbh fin) V (fun s => rd r (s : Int))) := by
    intro d
    induction d with
    | zero => intro c m h1 h2 h3 h4 h5 h6; exact absurd h6 (by (rcases h4 with h4 | ⟨k, rfl, C⟩); omega; (have := cnt_le C); omega)
    | succ d ihd =>
    intro c m hc hR hB hM hm hd
    have hlo : ∀ s, s < N.length → -1 ≤ rd c (s : Int) := fun s hs => by
      by_cases hi : incl L.toNat (nxO N) (Zbh fin) V s
      · have := hR.nn s hs hi; omega
      · have := hR.out s hs hi; omega
    have hcl : ∀ s a : Nat, s < N.length → a < L.toNat → -1 ≤ clsN c (nx N s a) ∧ clsN c (nx N s a) < 65535 := fun s a hs ha => by
      have hx := nx_in hN (s := s) (a := a) (by omega) (by omega) (by omega)
      unfold clsN
      split
      · rename_i h
        obtain ⟨t, et, ht⟩ := nat_of h hx.2
        rw [et]
        exact ⟨hlo t ht, hB t ht⟩
      · omega
    let sg : Nat → Int × List Int := sigO L.toNat (nxO N) (fun s => rd c (s : Int))
    have sg_eq : ∀ s, sg s = (rd c (s : Int), (List.range L.toNat).map fun (a : Nat) => clsN c (nx N s a)) := fun s => by
      show sigO _ _ _ _ = _
      unfold sigO
      simp only [Prod.mk.injEq, true_and]
      exact List.map_congr_left fun a _ => (clsN_eq s a).symm
    let key : Nat → ByteArray := fun s => strOfNums (keyL (sg s))
    have kinj : ∀ s t, s < N.length → t < N.length → key s = key t → sg s = sg t := by
      intro s t hs ht e
      have q : ∀ s, s < N.length → ∀ x ∈ (sg s).2, -1 ≤ x ∧ x < 65535 := fun s hs x hx => by
        rw [sg_eq] at hx
        obtain ⟨a, ha, rfl⟩ := List.mem_map.1 hx
        exact hcl s a hs (List.mem_range.1 ha)
      refine key_inj ?_ ?_ ?_ (q s hs) (q t ht) e
      · rw [sg_eq, sg_eq]; simp
      · rw [sg_eq]; exact ⟨hlo s hs, hB s hs⟩
      · rw [sg_eq]; exact ⟨hlo t ht, hB t ht⟩
    have states := EvP.up (fun k (st : List Nat × List Int) i => Zam.l2 k c m st.2 (c.length : Int) i L S fin N (mapOf key st.1 0)) (fun r => r.length = N.length ∧ ClsOK L.toNat N.length (nxO N) (Zbh fin) V (fun s => rd r (s : Int))) N.length
      (fun i st => st.2.length = N.length ∧ PassI (incl L.toNat (nxO N) (Zbh fin) V) sg i st.1 (fun s => rd st.2 (s : Int)))
      (fun st ⟨h1, I⟩ => by
        refine EvP.round ?_
        simp only [Zam.l2]
        refine EvP.no (by omega) ?_
        rw [mapOf_length]
        by_cases e : (st.1.length : Int) = m
        · exact EvP.yes e (EvP.ret ⟨h1, many_done hV hR hM I e⟩)
        · refine EvP.no e ?_
          obtain ⟨g1, g2, g3⟩ := many_more hM I e
          refine ihd st.2 _ h1 (hR.step hV I.ref) (fun s hs => ?_) g1 (by omega) (by omega)
          by_cases hi : incl L.toNat (nxO N) (Zbh fin) V s
          · have := I.cnt.lt s hs hi; omega
          · have := I.out s hs hi; omega)
      (fun i st hi ⟨h1, I⟩ ih => by
        refine EvP.round ?_
        simp only [Zam.l2]
        refine EvP.yes (by omega) (EvP.yes (by omega) (EvP.yes (by omega) ?_))
        have keep : ∀ (v : Int) (s : Nat), s < i → rd (st.2.set i v) (s : Int) = rd st.2 (s : Int) := fun v s hs => Zdr (by omega) v
        by_cases hneg : rd c (i : Int) < 0
        · refine EvP.yes hneg (EvP.yes (by omega) ?_)
          rw [w64s (by omega), Int.toNat_natCast]
          have hni : ¬ incl L.toNat (nxO N) (Zbh fin) V i := fun hh => by have := hR.nn i hi hh; omega
          exact ih (st.1, st.2.set i (-1)) ⟨by simp [h1], I.skip hni (Zcp (by omega) _) (keep _)⟩
        · have hin : incl L.toNat (nxO N) (Zbh fin) V i := Classical.byContradiction fun hh => by have := hR.out i hi hh; omega
          have hb := hB i hi
          refine EvP.no hneg (EvP.bind (wordKey_ev _ (by simp)) (EvP.yes (by rw [strOfNums_size]; simp) ?_))
          have eb : bytesOf (strOfNums ([rd c (i : Int) / 256, bits .and .i64 (rd c (i : Int)) 255].map (· % 256))) = two (rd c (i : Int)) := by
            have e0 : [rd c (i : Int) / 256, bits .and .i64 (rd c (i : Int)) 255].map (· % 256) = two (rd c (i : Int)) := by
              rw [and255 (by omega) (by omega)]
              simp [two]
            rw [e0]
            exact bytes_str (two_byte _)
          rw [eb]
          have letters := EvP.up (fun k (x : List Int) a => Zam.l3 k c m st.2 (i : Int) x (c.length : Int) (i : Int) L a L S fin N (mapOf key st.1 0)) (fun r => r.length = N.length ∧ ClsOK L.toNat N.length (nxO N) (Zbh fin) V (fun s => rd r (s : Int))) L.toNat
            (fun a x => x = two (rd c (i : Int)) ++ ((List.range a).map fun (a : Nat) => clsN c (nx N i a)).flatMap two)
            (fun x hx => by
              refine EvP.round ?_
              simp only [Zam.l3]
              refine EvP.no (by omega) ?_
              have ek : strOfNums x = key i := by
                show _ = strOfNums (keyL (sg i))
                rw [hx, sg_eq]
                rfl
              rw [ek]
              have b := mfind_mapOf key (key i) st.1 0 0
              cases hfi : st.1.findIdx? (fun y => decide (key y = key i)) with
              | none =>
                rw [hfi] at b
                have hno : mhas (mapOf key st.1 0) (key i) = false := by unfold mhas; rw [b]; rfl
                refine EvP.no (by rw [hno]; simp) (EvP.yes (by omega) (EvP.yes (by omega) ?_))
                have hset : mset (mapOf key st.1 0) (key i) ((mapOf key st.1 0).length : Int) = mapOf key (st.1 ++ [i]) 0 := by
                  unfold mset
                  rw [b, mapOf_snoc, mapOf_length]
                  rfl
                rw [hset, mapOf_length, w64s (by omega), Int.toNat_natCast]
                refine ih (st.1 ++ [i], st.2.set i _) ⟨by simp [h1], I.new (fun y hy e => ?_) (Zcp (by omega) _) (keep _) hin⟩
                rw [List.findIdx?_eq_none_iff] at hfi
                have := hfi y hy
                simp only [decide_eq_false_iff_not] at this
                exact this (by show strOfNums (keyL (sg y)) = strOfNums (keyL (sg i)); rw [e])
              | some q =>
                rw [hfi] at b
                have hyes : mhas (mapOf key st.1 0) (key i) = true := by unfold mhas; rw [b]; rfl
                refine EvP.yes hyes (EvP.yes (by omega) (EvP.yes (by omega) ?_))
                have hget : mget 0 (mapOf key st.1 0) (key i) = (q : Int) := by unfold mget; rw [b]; simp
                rw [hget, w64s (by omega), Int.toNat_natCast]
                rw [List.findIdx?_eq_some_iff_getElem] at hfi
                obtain ⟨hq, hk, _⟩ := hfi
                have hk := of_decide_eq_true hk
                have hy := (I.first _ (List.getElem_mem hq)).1
                exact ih (st.1, st.2.set i q) ⟨by simp [h1], I.known (List.getElem?_eq_getElem hq) (kinj _ _ (by omega) hi hk) (Zcp (by omega) _) (keep _) hin⟩)
            (fun a x ha hx iha => by
              have hr := hrow i hi
              have hxl : x.length ≤ 2 + 2 * a := by
                rw [hx]
                have : ∀ l : List Int, (l.flatMap two).length = 2 * l.length := fun l => by
                  induction l with
                  | nil => rfl
                  | cons y l ihl => rw [List.flatMap_cons, List.length_append, ihl, List.length_cons]; simp [two]; omega
                rw [List.length_append, this, List.length_map, List.length_range]
                simp [two]
              refine EvP.round ?_
              simp only [Zam.l3]
              refine EvP.yes (by omega) (EvP.yes (by omega) (EvP.yes (by omega) (EvP.yes (by omega) (EvP.yes (by omega) ?_))))
              rw [hnx, w64s (by omega)]
              have p := nx_in hN (s := i) (a := a) (by omega) (by omega) (by omega)
              have next : ∀ y, y = two (clsN c (nx N i a)) → x ++ y = two (rd c (i : Int)) ++ ((List.range (a + 1)).map fun (a : Nat) => clsN c (nx N i a)).flatMap two := fun y hy => by
                rw [hy, hx, List.range_succ, List.map_append, List.flatMap_append, List.append_assoc]
                simp
              by_cases h4 : nx N i a ≥ 0
              · refine EvP.yes h4 (EvP.yes h4 (EvP.yes (by omega) (EvP.here rfl (EvP.yes (by simp; omega) ?_))))
                refine iha _ (next _ ?_)
                unfold clsN
                rw [if_pos h4]
                rfl
              · refine EvP.no h4 (EvP.here rfl (EvP.yes (by simp; omega) ?_))
                refine iha _ (next _ ?_)
                unfold clsN
                rw [if_neg h4]
                rfl)
          have := letters 0 (two (rd c (i : Int))) (by omega) (by simp)
          simpa using this)
    refine EvP.round ?_
    simp only [Zam.l1]
    refine EvP.yes (by omega) (EvP.yes (by omega) ?_)
    have := states 0 ([], List.replicate c.length 0) (by omega) ⟨by simp [hc], PassI.start⟩
    simpa [mapOf] using this
  -- the first classes
  have first := EvP.up (fun k (c : List Int) i => Zam.l0 k us c (N.length : Int) i L S fin N) (fun r => r.length = N.length ∧ ClsOK L.toNat N.length (nxO N) (Zbh fin) V (fun s => rd r (s : Int))) N.length
    (fun i c => c.length = N.length ∧ (∀ s, s < i → ¬ incl L.toNat (nxO N) (Zbh fin) V s → rd c (s : Int) = -1) ∧ (∀ s, s < i → incl L.toNat (nxO N) (Zbh fin) V s → rd c (s : Int) = if Zbh fin s then 1 else 0) ∧ ∀ s, i ≤ s → rd c (s : Int) = 0)
    (fun c ⟨h1, h2, h3, _⟩ => by
      refine EvP.round ?_
      simp only [Zam.l0]
      refine EvP.no (by omega) ?_
      refine pass (N.length + 1) c 0 h1 (ri_first h2 h3) (fun s hs => ?_) (.inl (by omega)) (by omega) (by omega)
      by_cases hi : incl L.toNat (nxO N) (Zbh fin) V s
      · rw [h3 s hs hi]; split <;> omega
      · rw [h2 s hs hi]; omega)
    (fun i c hi ⟨h1, h2, h3, h4⟩ ih => by
      refine EvP.round ?_
      simp only [Zam.l0]
      refine EvP.yes (by omega) (EvP.yes (by omega) (EvP.yes (by omega) ?_))
      rw [w64s (by omega), Int.toNat_natCast]
      have g : ∀ v : Int, (¬ incl L.toNat (nxO N) (Zbh fin) V i → v = -1) → (incl L.toNat (nxO N) (Zbh fin) V i → v = if Zbh fin i then 1 else 0) → (c.set i v).length = N.length ∧ (∀ s, s < i + 1 → ¬ incl L.toNat (nxO N) (Zbh fin) V s → rd (c.set i v) (s : Int) = -1) ∧ (∀ s, s < i + 1 → incl L.toNat (nxO N) (Zbh fin) V s → rd (c.set i v) (s : Int) = if Zbh fin s then 1 else 0) ∧ ∀ s, i + 1 ≤ s → rd (c.set i v) (s : Int) = 0 := by
        intro v g1 g2
        refine ⟨by simp [h1], fun s hs hn => ?_, fun s hs hn => ?_, fun s hs => ?_⟩
        · by_cases e : s = i
          · subst e; rw [Zcp (by omega)]; exact g1 hn
          · rw [Zdr (by omega)]; exact h2 s (by omega) hn
        · by_cases e : s = i
          · subst e; rw [Zcp (by omega)]; exact g2 hn
          · rw [Zdr (by omega)]; exact h3 s (by omega) hn
        · rw [Zdr (by omega)]; exact h4 s (by omega)
      have n := hus i hi
      cases hui : rdOf false us (i : Int)
      · refine EvP.no (by simp) (EvP.yes (by omega) (ih _ (g (-1) (fun _ => rfl) (fun hh => ?_))))
        rw [n.2 hh] at hui; cases hui
      · refine EvP.yes rfl (EvP.yes (by omega) ?_)
        have hin := n.1 hui
        cases hg : rdOf false fin (i : Int)
        · refine EvP.no (by simp) (ih c ?_)
          have hz := h4 i (by omega)
          have hcs : c.set i 0 = c := by
            apply List.ext_getElem?
            intro j
            rw [List.getElem?_set]
            by_cases e : i = j
            · subst e
              rw [rd_lt (by omega : i < c.length)] at hz
              rw [if_pos rfl, if_pos (by omega), List.getElem?_eq_getElem (by omega), hz]
            · rw [if_neg e]
          have := g 0 (fun hh => absurd hin hh) (fun _ => by show (0 : Int) = if rdOf false fin (i : Int) then 1 else 0; rw [hg]; rfl)
          rw [hcs] at this
          exact this
        · refine EvP.yes rfl (EvP.yes (by omega) (ih _ (g 1 (fun hh => absurd hin hh) (fun _ => ?_))))
          show (1 : Int) = if rdOf false fin (i : Int) then 1 else 0
          rw [hg]; rfl)
  unfold Zam.f
  refine EvP.yes (by omega) (EvP.yes (by omega) (EvP.here rfl ?_))
  have := first 0 (List.replicate N.length 0) (by omega) ⟨by simp, fun s hs => absurd hs (by omega), fun s hs => absurd hs (by omega), fun s _ => by
    show (List.replicate N.length (0 : Int)).getD s 0 = 0
    rw [List.getD_eq_getElem?_getD, List.getElem?_replicate]
    split <;> rfl⟩
  simpa using this
end Go.Proofs.YtgindgodfcfgkaaDoor.U
end M8
