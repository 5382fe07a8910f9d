import Derived.Test.YtlmicipfikammaaDoorCFnExactLoopFault13
section
namespace Go.Proofs.YtlmicipfikammaaDoor.U
open Go.RowKit Go.Proofs.YtlmicipfikammaaDoor.P Go.Proofs.YtlmicipfikammaaDoorW.PrintWords Go.Proofs.YtlmicipfikammaaDoorW.PrintLast
set_option linter.unusedVariables false
/-! Which states are reached, and which lead to a final one. -/
inductive Led (L : Int) (N : List (List Int)) (good : List Bool) : Int → Prop
  | base {s : Int} (h0 : 0 ≤ s) (h1 : s < N.length) (h : rdOf false good s = true) : Led L N good s
  | step {s a : Int} (h0 : 0 ≤ s) (h1 : s < N.length) (ha : 0 ≤ a) (hb : a < L) (hn : 0 ≤ nx N s a) (h : Led L N good (nx N s a)) : Led L N good s
inductive Rch (L : Int) (N : List (List Int)) (S : Int) : Int → Prop
  | start : Rch L N S S
  | step {s a : Int} (h : Rch L N S s) (ha : 0 ≤ a) (hb : a < L) (hn : 0 ≤ nx N s a) : Rch L N S (nx N s a)
theorem rdOf_set {l : List Bool} {i : Nat} {b : Bool} {j : Int} (hj : 0 ≤ j) : rdOf false (l.set i b) j = if j = i ∧ i < l.length then b else rdOf false l j := by
  obtain ⟨k, rfl⟩ := Int.eq_ofNat_of_zero_le hj
  show (l.set i b).getD k false = _
  rw [List.getD_eq_getElem?_getD, List.getElem?_set]
  by_cases h : i = k
  · subst h
    by_cases h2 : i < l.length
    · simp [h2]
    · rw [if_pos rfl, if_neg h2, if_neg (by simp; omega)]
      show false = l.getD i false
      rw [List.getD_eq_getElem?_getD, List.getElem?_eq_none (by omega)]
      rfl
  · rw [if_neg h, if_neg (by omega)]
    show _ = l.getD k false
    rw [List.getD_eq_getElem?_getD]
theorem Led.in {L : Int} {N : List (List Int)} {good : List Bool} {s : Int} (h : Led L N good s) : 0 ≤ s ∧ s < N.length := by
  cases h with
  | base a b _ => exact ⟨a, b⟩
  | step a b _ _ _ _ => exact ⟨a, b⟩
/-- What is marked while the marks spread back: sound, and all good ones. -/
structure LiveI (L : Int) (N : List (List Int)) (good live : List Bool) : Prop where
  len : live.length = N.length
  sound : ∀ s : Int, 0 ≤ s → s < N.length → rdOf false live s = true → Led L N good s
  base : ∀ s : Int, 0 ≤ s → s < N.length → rdOf false good s = true → rdOf false live s = true
/-- No mark is owed at the letter a of state s. -/
def paid (N : List (List Int)) (live : List Bool) (s a : Int) : Prop := 0 ≤ nx N s a → rdOf false live (nx N s a) = true → rdOf false live s = true
theorem live_full {L : Int} {N : List (List Int)} {good live : List Bool} (hN : Rows' L N) (I : LiveI L N good live) (h : ∀ s a : Int, 0 ≤ s → s < N.length → 0 ≤ a → a < L → paid N live s a) :
    ∀ s : Int, 0 ≤ s → s < N.length → (rdOf false live s = true ↔ Led L N good s) := by
  intro s h0 h1
  refine ⟨I.sound s h0 h1, fun hl => ?_⟩
  induction hl with
  | base a b c => exact I.base _ a b c
  | step a b c d e f ih =>
    have := nx_in hN b c d
    exact h _ _ a b c d e (ih e this.2)
theorem live_mark {L : Int} {N : List (List Int)} {good live : List Bool} (hN : Rows' L N) (I : LiveI L N good live) {s : Nat} {a : Int} (hs : s < N.length) (ha : 0 ≤ a) (hb : a < L) (h0 : 0 ≤ nx N s a) (hl : rdOf false live (nx N s a) = true) :
    LiveI L N good (live.set s true) := by
  have hx := nx_in hN (s := s) (by omega) ha hb
  refine ⟨by simp [I.len], fun t h2 h3 ht => ?_, fun t h2 h3 ht => ?_⟩
  · rw [rdOf_set h2] at ht
    by_cases e : t = (s : Int)
    · subst e
      exact .step h2 h3 ha hb h0 (I.sound _ h0 hx.2 hl)
    · rw [if_neg (by omega)] at ht
      exact I.sound t h2 h3 ht
  · rw [rdOf_set h2]
    split
    · rfl
    · exact I.base t h2 h3 ht
theorem l11Live_ev {L : Int} {N : List (List Int)} (good : List Bool) (hN : Rows' L N) (hn : N.length ≤ 1048576) (hg : good.length = N.length) (hL : 0 ≤ L) (g : L ≤ 1048576) :
    EvP (fun k => Zat.f k L N good) (fun live => live.length = N.length ∧ ∀ s : Int, 0 ≤ s → s < N.length → (rdOf false live s = true ↔ Led L N good s)) := by
  have hrow : ∀ s : Nat, s < N.length → ((Zae N (s : Int)).length : Int) = L := fun s hs => (row_at hN (s := s) (by omega) (by omega)).1
  have hnx : ∀ s a : Nat, rd (Zae N (s : Int)) (a : Int) = nx N s a := fun s a => by unfold nx; rw [if_neg (by omega)]
  have main : ∀ m live, Zbh live ≤ m → LiveI L N good live → EvP (fun k => Zat.l0 k live true L N good) (fun live => live.length = N.length ∧ ∀ s : Int, 0 ≤ s → s < N.length → (rdOf false live s = true ↔ Led L N good s)) := by
    intro m
    induction m using Nat.strongRecOn with
    | _ m ihm =>
    intro c hm I0
    refine EvP.round ?_
    simp only [Zat.l0]
    refine EvP.yes (by trivial) ?_
    -- a pass over the states
    have pass := EvP.up (fun k (st : List Bool × Bool) s => Zat.l1 k st.1 st.2 s L N good) (fun live => live.length = N.length ∧ ∀ s : Int, 0 ≤ s → s < N.length → (rdOf false live s = true ↔ Led L N good s)) N.length
      (fun s st => LiveI L N good st.1 ∧ (Zbh st.1 ≤ Zbh c ∧ (st.2 = true → Zbh st.1 < Zbh c)) ∧ (st.2 = false → ∀ t a : Int, 0 ≤ t → t < (s : Int) → 0 ≤ a → a < L → paid N st.1 t a))
      (fun st ⟨h1, h2, h3⟩ => by
        refine EvP.round ?_
        simp only [Zat.l1]
        refine EvP.no (by omega) ?_
        cases hb : st.2
        · refine EvP.round ?_
          simp only [Zat.l0]
          refine EvP.no (by simp) (EvP.ret ⟨h1.len, live_full hN h1 (fun t a h4 h5 h6 h7 => h3 hb t a h4 h5 h6 h7)⟩)
        · have h4 := h2.2 hb
          exact ihm _ (by omega) st.1 (Nat.le_refl _) h1)
      (fun s st hs ⟨h1, h2, h3⟩ ih => by
        refine EvP.round ?_
        simp only [Zat.l1]
        refine EvP.yes (by omega) ?_
        have letters := EvP.up (fun k (st : List Bool × Bool) a => Zat.l2 k st.1 st.2 (s : Int) a L N good) (fun live => live.length = N.length ∧ ∀ s : Int, 0 ≤ s → s < N.length → (rdOf false live s = true ↔ Led L N good s)) L.toNat
          (fun b st => LiveI L N good st.1 ∧ (Zbh st.1 ≤ Zbh c ∧ (st.2 = true → Zbh st.1 < Zbh c)) ∧ (st.2 = false → (∀ t a : Int, 0 ≤ t → t < (s : Int) → 0 ≤ a → a < L → paid N st.1 t a) ∧ ∀ a : Int, 0 ≤ a → a < (b : Int) → paid N st.1 s a))
          (fun st ⟨h1, h2, h3⟩ => by
            have hr := hrow s hs
            refine EvP.round ?_
            simp only [Zat.l2]
            refine EvP.yes (by omega) (EvP.yes (by omega) (EvP.no (by omega) (EvP.round ?_)))
            simp only [Zat.j3]
            refine EvP.no (by simp) ?_
            rw [w64s (by omega)]
            refine ih st ⟨h1, h2, fun hb t a h4 h5 h6 h7 => ?_⟩
            by_cases e : t = (s : Int)
            · subst e; exact (h3 hb).2 a h6 (by omega)
            · exact (h3 hb).1 t a h4 (by omega) h6 h7)
          (fun b st hb ⟨h1, h2, h3⟩ ihb => by
            have hr := hrow s hs
            have hl := h1.len
            refine EvP.round ?_
            simp only [Zat.l2]
            refine EvP.yes (by omega) (EvP.yes (by omega) (EvP.yes (by omega) (EvP.yes (by omega) (EvP.round ?_))))
            simp only [Zat.j3]
            cases hv : rdOf false st.1 (s : Int)
            · refine EvP.yes rfl (EvP.yes (by omega) (EvP.yes (by omega) (EvP.yes (by omega) (EvP.yes (by omega) ?_))))
              rw [hnx, w64s (by omega)]
              have hx := nx_in hN (s := s) (a := b) (by omega) (by omega) (by omega)
              by_cases h4 : nx N s b ≥ 0
              · refine EvP.yes h4 (EvP.yes h4 (EvP.yes (by omega) ?_))
                cases hw : rdOf false st.1 (nx N s b)
                · refine EvP.no (by simp) (ihb st ⟨h1, h2, fun hc => ⟨(h3 hc).1, fun a h5 h6 => ?_⟩⟩)
                  by_cases e : a = (b : Int)
                  · subst e; intro _ h7; rw [hw] at h7; cases h7
                  · exact (h3 hc).2 a h5 (by omega)
                · refine EvP.yes rfl (EvP.yes (by omega) ?_)
                  have hv' : st.1[s]'(by omega) = false := by rw [← Zc0 (d := false) (by omega : s < st.1.length)]; exact hv
                  have hf := falses_set (by omega) hv'
                  have i := h2.1
                  rw [Int.toNat_natCast]
                  exact ihb (st.1.set s true, true) ⟨live_mark hN h1 hs (by omega) (by omega) h4 hw, ⟨by simp only; omega, fun _ => by simp only; omega⟩, fun hc => by cases hc⟩
              · refine EvP.no h4 (ihb st ⟨h1, h2, fun hc => ⟨(h3 hc).1, fun a h5 h6 => ?_⟩⟩)
                by_cases e : a = (b : Int)
                · subst e; intro h7; omega
                · exact (h3 hc).2 a h5 (by omega)
            · refine EvP.no (by simp) ?_
              rw [w64s (by omega)]
              refine ih st ⟨h1, h2, fun hc t a h4 h5 h6 h7 => ?_⟩
              by_cases e : t = (s : Int)
              · subst e; intro _ _; exact hv
              · exact (h3 hc).1 t a h4 (by omega) h6 h7)
        have := letters 0 st (by omega) ⟨h1, h2, fun hc => ⟨fun t a h4 h5 h6 h7 => h3 hc t a h4 h5 h6 h7, fun a h5 h6 => absurd h6 (by omega)⟩⟩
        simpa using this)
    have := pass 0 (c, false) (by omega) ⟨I0, ⟨Nat.le_refl _, fun h => by cases h⟩, fun _ t a h4 h5 => absurd h5 (by omega)⟩
    simpa using this
  unfold Zat.f
  refine EvP.here rfl (EvP.yes (by simp; omega) ?_)
  rw [List.nil_append]
  exact main _ good (Nat.le_refl _) ⟨hg, fun s h0 h1 h => .base h0 h1 h, fun s _ _ h => h⟩
end Go.Proofs.YtlmicipfikammaaDoor.U
end
section
namespace Go.Proofs.YtlmicipfikammaaDoor.U
open Go.RowKit Go.Proofs.YtlmicipfikammaaDoorW.PrintWords Go.Proofs.YtlmicipfikammaaDoorW.PrintLast Go.Proofs.YtlmicipfikammaaDoorW.PrintMore
set_option linter.unusedVariables false
/-! Sets as numbers. -/
theorem i64_id (n : Int) (h0 : 0 ≤ n) (h1 : n < 2 ^ 63) : IntKind.i64.wrap n = n := by rw [IntKind.wrap_i64]; omega
theorem bor {a b : Nat} (ha : a < 2 ^ 63) (hb : b < 2 ^ 63) : bits .or .i64 (a : Int) (b : Int) = ((a ||| b : Nat) : Int) := (bits_nat .i64 63 (by decide) i64_id a b ha hb).2
theorem band {a b : Nat} (ha : a < 2 ^ 63) (hb : b < 2 ^ 63) : bits .and .i64 (a : Int) (b : Int) = ((a &&& b : Nat) : Int) := (bits_nat .i64 63 (by decide) i64_id a b ha hb).1
theorem shl1 {i : Nat} (hi : i < 63) : shl .i64 1 (i : Int) = ((2 ^ i : Nat) : Int) := by
  unfold shl
  rw [Int.toNat_natCast]
  have : min i IntKind.i64.bits = i := Nat.min_eq_left (by show i ≤ 64; omega)
  rw [this, Int.one_mul]
  have h := Nat.pow_lt_pow_right (a := 2) (by decide) hi
  rw [show ((2 : Int) ^ i) = ((2 ^ i : Nat) : Int) from by simp]
  exact i64_id _ (Int.natCast_nonneg _) (by exact_mod_cast h)
/-- The members k < n with p k, joined to s. -/
def orN (p : Nat → Bool) : Nat → Nat → Nat
  | 0, s => s
  | n + 1, s => if p n then orN p n s ||| 2 ^ n else orN p n s
theorem orN_yes {p : Nat → Bool} {n s : Nat} (h : p n = true) : orN p (n + 1) s = orN p n s ||| 2 ^ n := if_pos h
theorem orN_no {p : Nat → Bool} {n s : Nat} (h : p n = false) : orN p (n + 1) s = orN p n s := if_neg (by rw [h]; simp)
theorem testBit_orN (p : Nat → Bool) (n s j : Nat) : (orN p n s).testBit j = (s.testBit j || (decide (j < n) && p j)) := by
  induction n with
  | zero => simp [orN]
  | succ n ih =>
    unfold orN
    by_cases h : p n
    · rw [if_pos h, Nat.testBit_or, ih, Nat.testBit_two_pow]
      by_cases e : n = j
      · subst e; simp [h]
      · have e2 : decide (j < n + 1) = decide (j < n) := by rw [decide_eq_decide]; omega
        rw [e2]; simp [e]
    · rw [if_neg h, ih]
      by_cases e : n = j
      · subst e; simp [h]
      · have e2 : decide (j < n + 1) = decide (j < n) := by rw [decide_eq_decide]; omega
        rw [e2]
theorem orN_lt (p : Nat → Bool) (n s m : Nat) (hn : n ≤ m) (hs : s < 2 ^ m) : orN p n s < 2 ^ m := by
  induction n with
  | zero => exact hs
  | succ n ih =>
    unfold orN
    split
    · exact Nat.or_lt_two_pow (ih (by omega)) (Nat.pow_lt_pow_right (by decide) (by omega))
    · exact ih (by omega)
theorem orN_congr {p q : Nat → Bool} {n s : Nat} (h : ∀ j, j < n → p j = q j) : orN p n s = orN q n s := by
  induction n with
  | zero => rfl
  | succ n ih =>
    unfold orN
    rw [h n (by omega), ih (fun j hj => h j (by omega))]
theorem hasN {m s : Nat} (hm : m < 2 ^ 63) (hs : s ≤ 64) : ((bits .and .i64 (shr .i64 (m : Int) (s : Int)) 1) == 1) = m.testBit s := by
  have hsh : shr .i64 (m : Int) (s : Int) = ((m / 2 ^ s : Nat) : Int) := by
    unfold shr
    rw [Int.toNat_natCast, Nat.min_eq_left (show s ≤ IntKind.i64.bits from hs)]
    rw [show ((2 : Int) ^ s) = ((2 ^ s : Nat) : Int) from by simp]
    exact (Int.natCast_ediv _ _).symm
  have hq : m / 2 ^ s < 2 ^ 63 := Nat.lt_of_le_of_lt (Nat.div_le_self _ _) hm
  rw [hsh, show (1 : Int) = ((1 : Nat) : Int) from rfl, band hq (by decide), Nat.and_one_is_mod, Nat.testBit_eq_decide_div_mod_eq]
  generalize m / 2 ^ s % 2 = r
  by_cases h : r = 1
  · subst h; rfl
  · rw [decide_eq_false h]
    simp; omega
/-- The first n bits. -/
def bitsL (n m : Nat) : List Bool := (List.range n).map fun s => m.testBit s
theorem bitsL_length (n m : Nat) : (bitsL n m).length = n := by simp [bitsL]
theorem bitsL_set {n m t : Nat} (ht : t < n) : bitsL n (m ||| 2 ^ t) = (bitsL n m).set t true := by
  apply List.ext_getElem?
  intro j
  by_cases hj : j < n
  · by_cases e : j = t
    · subst e
      rw [List.getElem?_set_self (by rw [bitsL_length]; exact hj)]
      simp [bitsL, hj]
    · rw [List.getElem?_set_ne (by omega)]
      simp only [bitsL, List.getElem?_map, List.getElem?_range hj, Option.map_some, Nat.testBit_or, Nat.testBit_two_pow]
      simp; omega
  · rw [List.getElem?_eq_none (by rw [bitsL_length]; omega), List.getElem?_eq_none (by simp [bitsL]; omega)]
theorem bits_less {n m t : Nat} (ht : t < n) (h : m.testBit t = false) : Zbh (bitsL n (m ||| 2 ^ t)) + 1 = Zbh (bitsL n m) := by
  rw [bitsL_set ht]
  exact falses_set (by rw [bitsL_length]; exact ht) (by simp [bitsL, h])
theorem or_lt {m t n : Nat} (hm : m < 2 ^ n) (ht : t < n) : m ||| 2 ^ t < 2 ^ n := Nat.or_lt_two_pow hm (Nat.pow_lt_pow_right (by decide) ht)
end Go.Proofs.YtlmicipfikammaaDoor.U
end
section
namespace Go.Proofs.YtlmicipfikammaaDoor.U
open Go.RowKit Go.Proofs.YtlmicipfikammaaDoor.P Go.Proofs.YtlmicipfikammaaDoorW.PrintWords Go.Proofs.YtlmicipfikammaaDoorW.PrintLast Go.Proofs.YtlmicipfikammaaDoorW.PrintMore
set_option linter.unusedVariables false
/-! The machine whose state 0 is the start. -/
def turn (S s : Int) : Int := if s = 0 then S else if s = S then 0 else s
theorem turn_turn (S s : Int) : turn S (turn S s) = s := by unfold turn; split <;> split <;> (try split) <;> omega
theorem turn_in {S s : Int} {n : Nat} (hS : 0 ≤ S) (hn : S < n) (h0 : 0 ≤ s) (h1 : s < n) : 0 ≤ turn S s ∧ turn S s < n := by unfold turn; split <;> (try split) <;> omega
theorem turn_neg {S s : Int} (hS : 0 ≤ S) (h : s < 0) : turn S s = s := by unfold turn; rw [if_neg (by omega), if_neg (by omega)]
theorem turn_nonneg {S s : Int} (hS : 0 ≤ S) : 0 ≤ turn S s ↔ 0 ≤ s := by unfold turn; split <;> (try split) <;> omega
theorem turn_eq (L S F : Int) (N : List (List Int)) (s : Int) : Zb9.f L S F N s = some (turn S s) := by
  unfold Zb9.f turn
  by_cases h : s = 0
  · rw [if_pos h, if_pos h]
  · rw [if_neg h, if_neg h]
    by_cases h2 : s = S
    · rw [if_pos h2, if_pos h2]
    · rw [if_neg h2, if_neg h2]
def freeRow (L S : Int) (N : List (List Int)) (s : Nat) : List Int := (List.range L.toNat).map fun (a : Nat) => turn S (nx N (turn S s) a)
def freeN (L S : Int) (N : List (List Int)) : List (List Int) := (List.range N.length).map (freeRow L S N)
def freeG (S F : Int) (N : List (List Int)) : List Bool := (List.range N.length).map fun (s : Nat) => hasB F (turn S s)
theorem l11Free_ev {L S F : Int} {N : List (List Int)} (hN : Rows' L N) (hn : N.length ≤ 1048576) (hL : 0 ≤ L) (b : L ≤ 1048576) (hS : 0 ≤ S) (hSn : S < N.length) :
    Ev (fun k => Zav.f k L S F N) (L, freeN L S N, freeG S F N) := by
  have key := Ev.up (fun k (st : List (List Int) × List Bool) s => Zav.l0 k s L S F N L st.1 st.2) N.length (fun _ _ => (L, freeN L S N, freeG S F N))
    (fun s st => st.1 = (List.range s).map (freeRow L S N) ∧ st.2 = (List.range s).map fun (s : Nat) => hasB F (turn S s))
    (fun st ⟨h1, h2⟩ => by
      refine Ev.round ?_
      simp only [Zav.l0]
      refine Ev.here (show Za4.f L S F N = some (N.length : Int) from rfl) (Ev.no (by omega) ?_)
      rw [h1, h2]
      exact Ev.now _)
    (fun s st hs ⟨h1, h2⟩ ih => by
      refine Ev.round ?_
      simp only [Zav.l0]
      refine Ev.here (show Za4.f L S F N = some (N.length : Int) from rfl) (Ev.yes (by omega) (Ev.here (turn_eq L S F N s) ?_))
      have ht := turn_in (n := N.length) (s := (s : Int)) hS hSn (by omega) (by omega)
      have hr := row_at hN ht.1 ht.2
      have inner := Ev.up (fun k (row : List Int) a => Zav.l1 k (s : Int) (turn S s) row a L S F N L st.1 st.2) L.toNat (fun _ _ => (L, freeN L S N, freeG S F N)) (fun a row => row = (List.range a).map fun (a : Nat) => turn S (nx N (turn S s) a))
        (fun row hrow => by
          refine Ev.round ?_
          simp only [Zav.l1]
          have l1 : st.1.length = s := by rw [h1]; simp
          have l2 : st.2.length = s := by rw [h2]; simp
          refine Ev.no (by omega) (Ev.yes (by omega) (Ev.here (bit_eq ht.1 (by omega)) (Ev.yes (by omega) ?_)))
          rw [w64s (by omega)]
          refine ih (_, _) ⟨?_, ?_⟩
          · rw [h1, hrow, List.range_succ, List.map_append]; rfl
          · rw [h2, List.range_succ, List.map_append]; rfl)
        (fun a row ha hrow iha => by
          refine Ev.round ?_
          simp only [Zav.l1]
          have l1 : row.length = a := by rw [hrow]; simp
          refine Ev.yes (by omega) (Ev.yes ht.1 (Ev.yes ht.2 (Ev.yes (by omega) (Ev.yes (by omega) (Ev.here (turn_eq L S F N _) (Ev.yes (by omega) ?_))))))
          rw [w64s (by omega)]
          refine iha _ ?_
          have e : nx N (turn S s) a = rd (Zae N (turn S s)) a := by unfold nx; rw [if_neg (by omega)]
          rw [hrow, List.range_succ, List.map_append, ← e]; rfl)
      have := inner 0 [] (by omega) rfl
      simpa using this)
  have := key 0 ([], []) (by omega) ⟨rfl, rfl⟩
  unfold Zav.f
  simpa using this
theorem Zcy (L S : Int) (N : List (List Int)) : (freeN L S N).length = N.length := by simp [freeN]
theorem freeN_row {L S : Int} {N : List (List Int)} {s : Nat} (hs : s < N.length) : Zae (freeN L S N) (s : Int) = freeRow L S N s := by
  have : Zae (freeN L S N) (s : Int) = (freeN L S N)[s]'(by rw [Zcy]; exact hs) := Zc0 (d := []) (by rw [Zcy]; exact hs)
  rw [this]; simp [freeN]
theorem freeN_nx {L S : Int} {N : List (List Int)} {s a : Int} (h0 : 0 ≤ s) (h1 : s < N.length) (ha : 0 ≤ a) (hb : a < L) : nx (freeN L S N) s a = turn S (nx N (turn S s) a) := by
  obtain ⟨k, rfl, hk⟩ := nat_of h0 h1
  obtain ⟨b, rfl⟩ := Int.eq_ofNat_of_zero_le ha
  have e : nx (freeN L S N) (k : Int) (b : Int) = rd (Zae (freeN L S N) (k : Int)) (b : Int) := by unfold nx; rw [if_neg (by omega)]
  rw [e, freeN_row hk, rd_lt (by simp [freeRow]; omega)]
  simp [freeRow]
theorem free_rows {L S : Int} {N : List (List Int)} (hN : Rows' L N) (hL : 0 ≤ L) (hS : 0 ≤ S) (hSn : S < N.length) : Rows' L (freeN L S N) := by
  intro row hr
  simp only [freeN, List.mem_map, List.mem_range] at hr
  obtain ⟨s, hs, rfl⟩ := hr
  refine ⟨by simp [freeRow]; omega, fun t ht => ?_⟩
  simp only [freeRow, List.mem_map, List.mem_range] at ht
  obtain ⟨a, ha, rfl⟩ := ht
  rw [Zcy]
  have ht := turn_in (n := N.length) (s := (s : Int)) hS hSn (by omega) (by omega)
  have hx := nx_in hN ht.2 (a := (a : Int)) (by omega) (by omega)
  by_cases h : 0 ≤ nx N (turn S s) a
  · have := turn_in hS hSn h hx.2; omega
  · rw [turn_neg hS (by omega)]; omega
theorem freeG_at {S F : Int} {N : List (List Int)} {s : Int} (h0 : 0 ≤ s) (h1 : s < N.length) : rdOf false (freeG S F N) s = hasB F (turn S s) := by
  obtain ⟨k, rfl, hk⟩ := nat_of h0 h1
  rw [Zc0 (by simp [freeG]; exact hk)]
  simp [freeG]
theorem led_free {L S F : Int} {N : List (List Int)} (hN : Rows' L N) (hS : 0 ≤ S) (hSn : S < N.length) {s : Int} (h : Led L N (finL F N.length) s) : Led L (freeN L S N) (freeG S F N) (turn S s) := by
  induction h with
  | base h0 h1 h =>
    have ht := turn_in hS hSn h0 h1
    refine .base ht.1 (by rw [Zcy]; exact ht.2) ?_
    rw [freeG_at ht.1 ht.2, turn_turn, ← finL_at h0 h1]
    exact h
  | @step s a h0 h1 ha hb hn _ ih =>
    have ht := turn_in hS hSn h0 h1
    have e : nx (freeN L S N) (turn S s) a = turn S (nx N s a) := by rw [freeN_nx ht.1 ht.2 ha hb, turn_turn]
    refine .step ht.1 (by rw [Zcy]; exact ht.2) ha hb (by rw [e, turn_nonneg hS]; exact hn) ?_
    rw [e]
    exact ih
theorem free_led {L S F : Int} {N : List (List Int)} (hN : Rows' L N) (hS : 0 ≤ S) (hSn : S < N.length) {s : Int} (h : Led L (freeN L S N) (freeG S F N) s) : Led L N (finL F N.length) (turn S s) := by
  induction h with
  | base h0 h1 h =>
    rw [Zcy] at h1
    have ht := turn_in hS hSn h0 h1
    refine .base ht.1 ht.2 ?_
    rw [finL_at ht.1 ht.2, ← freeG_at h0 h1]
    exact h
  | @step s a h0 h1 ha hb hn _ ih =>
    rw [Zcy] at h1
    have ht := turn_in hS hSn h0 h1
    have e := freeN_nx (S := S) h0 h1 ha hb
    rw [e, turn_turn] at ih
    rw [e, turn_nonneg hS] at hn
    exact .step ht.1 ht.2 ha hb hn ih
/-! The useful states, both ways. -/
open Classical in
/-- The set of the useful states. -/
noncomputable def useM (L S F : Int) (N : List (List Int)) : Int := ((orN (fun s => decide (Rch L N S s ∧ Led L N (finL F N.length) s)) N.length 0 : Nat) : Int)
structure RchI (L S : Int) (N : List (List Int)) (m : Nat) : Prop where
  lt : m < 2 ^ N.length
  sound : ∀ t : Nat, t < N.length → m.testBit t = true → Rch L N S t
  start : m.testBit S.toNat = true
def paidR (N : List (List Int)) (m : Nat) (s a : Int) : Prop := m.testBit s.toNat = true → 0 ≤ nx N s a → m.testBit (nx N s a).toNat = true
theorem rch_full {L S : Int} {N : List (List Int)} {m : Nat} (hN : Rows' L N) (hS : 0 ≤ S) (hSn : S < N.length) (I : RchI L S N m) (h : ∀ s a : Int, 0 ≤ s → s < N.length → 0 ≤ a → a < L → paidR N m s a) :
    ∀ s : Int, 0 ≤ s → s < N.length → (m.testBit s.toNat = true ↔ Rch L N S s) := by
  intro s h0 h1
  refine ⟨fun hb => by have := I.sound s.toNat (by omega) hb; rwa [Int.toNat_of_nonneg h0] at this, fun hr => ?_⟩
  have main : ∀ s, Rch L N S s → 0 ≤ s ∧ s < N.length ∧ m.testBit s.toNat = true := by
    intro s hr
    induction hr with
    | start => exact ⟨hS, hSn, I.start⟩
    | @step s a _ ha hb hn ih =>
      have hx := nx_in hN ih.2.1 ha hb
      exact ⟨hn, hx.2, h s a ih.1 ih.2.1 ha hb ih.2.2 hn⟩
  exact (main s hr).2.2
theorem bit_nat {m s : Nat} (hm : m < 2 ^ 63) (hs : s ≤ 64) : Zaq.f (m : Int) (s : Int) = some (m.testBit s) := by
  rw [bit_eq (by omega) (by omega)]
  exact congrArg some (hasN hm hs)
theorem useful_spec_ev {L S F : Int} {N : List (List Int)} (h : isAut L S F N = true) : EvP (fun k => Zaj.f k L S F N) (fun r => r = (useM L S F N, 0)) := by
  have ok := isAut_ok h
  have hN := ok.rows; have hL := ok.l0; have d := ok.l8; have c := ok.n16; have hS := ok.s0; have hSn := ok.sn
  have hp : (2 : Nat) ^ N.length ≤ 2 ^ 63 := Nat.pow_le_pow_right (by decide) (by omega)
  have hrow : ∀ s : Nat, s < N.length → ((Zae N (s : Int)).length : Int) = L := fun s hs => (row_at hN (s := s) (by omega) (by omega)).1
  have hnx : ∀ s a : Nat, rd (Zae N (s : Int)) (a : Int) = nx N s a := fun s a => by unfold nx; rw [if_neg (by omega)]
  have hst : Za4.f L S F N = some (N.length : Int) := rfl
  -- the end: the marks are full
  have fin : ∀ m : Nat, RchI L S N m → (∀ s : Int, 0 ≤ s → s < N.length → (m.testBit s.toNat = true ↔ Rch L N S s)) → EvP (fun k => Zaj.l0 k (m : Int) false L S F N) (fun r => r = (useM L S F N, 0)) := by
    intro m I hfull
    refine EvP.round ?_
    simp only [Zaj.l0]
    refine EvP.no (by simp) (EvP.bind (l11Free_ev hN (by omega) hL (by omega) hS hSn) ?_)
    refine EvP.bindP (l11Live_ev (freeG S F N) (free_rows hN hL hS hSn) (by rw [Zcy]; omega) (by simp [freeG, freeN]) hL (by omega)) (fun live ⟨hl, hv⟩ => ?_)
    rw [Zcy] at hl hv
    have loop := Ev.up (fun k (out : Nat) s => Zaj.l3 k (m : Int) live (out : Int) s L S F N) N.length (fun _ _ => (useM L S F N, (0 : Int))) (fun s out => out = orN (fun s => m.testBit s && rdOf false live (turn S s)) s 0)
      (fun out ho => by
        refine Ev.round ?_
        simp only [Zaj.l3]
        refine Ev.here hst (Ev.no (by omega) ?_)
        have : (out : Int) = useM L S F N := by
          unfold useM
          rw [ho]
          congr 1
          apply orN_congr
          intro j hj
          have h1 := hfull j (by omega) (by omega)
          rw [Int.toNat_natCast] at h1
          have ht := turn_in (n := N.length) (s := (j : Int)) hS hSn (by omega) (by omega)
          have h2 := hv (turn S j) ht.1 ht.2
          have h3 : Led L (freeN L S N) (freeG S F N) (turn S j) ↔ Led L N (finL F N.length) j := ⟨fun h => by have := free_led hN hS hSn h; rwa [turn_turn] at this, fun h => led_free hN hS hSn h⟩
          rw [Bool.eq_iff_iff]
          simp only [Bool.and_eq_true, decide_eq_true_eq]
          rw [h1, h2, h3]
        rw [this]
        exact Ev.now _)
      (fun s out hs ho ih => by
        refine Ev.round ?_
        simp only [Zaj.l3]
        refine Ev.here hst (Ev.yes (by omega) (Ev.here (bit_nat (by have := I.lt; omega) (by omega)) ?_))
        rw [w64s (by omega)]
        have hol : out < 2 ^ N.length := by rw [ho]; exact orN_lt _ _ _ _ (by omega) (Nat.two_pow_pos _)
        cases hb : m.testBit s
        · refine Ev.no (by simp) (ih _ ?_)
          rw [orN_no (by simp [hb])]; exact ho
        · have ht := turn_in (n := N.length) (s := (s : Int)) hS hSn (by omega) (by omega)
          refine Ev.yes rfl (Ev.here (turn_eq L S F N s) (Ev.yes ht.1 (Ev.yes (by omega) ?_)))
          cases hw : rdOf false live (turn S s)
          · refine Ev.no (by simp) (ih _ ?_)
            rw [orN_no (by simp [hb, hw])]; exact ho
          · refine Ev.yes rfl (Ev.here (spOne (by omega) (by omega)) ?_)
            rw [shl1 (by omega), bor (by omega) (Nat.lt_of_lt_of_le (Nat.pow_lt_pow_right (by decide) hs) hp)]
            refine ih _ ?_
            rw [orN_yes (by simp [hb, hw]), ← ho])
    exact EvP.of (by simpa using loop 0 0 (by omega) rfl) rfl
  have main : ∀ q (m : Nat), Zbh (bitsL N.length m) ≤ q → RchI L S N m → EvP (fun k => Zaj.l0 k (m : Int) true L S F N) (fun r => r = (useM L S F N, 0)) := by
    intro q
    induction q using Nat.strongRecOn with
    | _ q ihq =>
    intro m0 hm I0
    refine EvP.round ?_
    simp only [Zaj.l0]
    refine EvP.yes (by trivial) ?_
    have pass := EvP.up (fun k (st : Nat × Bool) s => Zaj.l1 k (st.1 : Int) st.2 s L S F N) (fun r => r = (useM L S F N, 0)) N.length
      (fun s st => RchI L S N st.1 ∧ (Zbh (bitsL N.length st.1) ≤ Zbh (bitsL N.length m0) ∧ (st.2 = true → Zbh (bitsL N.length st.1) < Zbh (bitsL N.length m0))) ∧ (st.2 = false → ∀ t a : Int, 0 ≤ t → t < (s : Int) → 0 ≤ a → a < L → paidR N st.1 t a))
      (fun st ⟨h1, h2, h3⟩ => by
        refine EvP.round ?_
        simp only [Zaj.l1]
        refine EvP.here hst (EvP.no (by omega) ?_)
        cases hb : st.2
        · exact fin st.1 h1 (rch_full hN hS hSn h1 (fun t a h4 h5 h6 h7 => h3 hb t a h4 h5 h6 h7))
        · exact ihq _ (by have := h2.2 hb; omega) st.1 (Nat.le_refl _) h1)
      (fun s st hs ⟨h1, h2, h3⟩ ih => by
        refine EvP.round ?_
        simp only [Zaj.l1]
        refine EvP.here hst (EvP.yes (by omega) ?_)
        have letters := EvP.up (fun k (st : Nat × Bool) a => Zaj.l2 k (st.1 : Int) st.2 (s : Int) a L S F N) (fun r => r = (useM L S F N, 0)) L.toNat
          (fun b st => RchI L S N st.1 ∧ (Zbh (bitsL N.length st.1) ≤ Zbh (bitsL N.length m0) ∧ (st.2 = true → Zbh (bitsL N.length st.1) < Zbh (bitsL N.length m0))) ∧ (st.2 = false → (∀ t a : Int, 0 ≤ t → t < (s : Int) → 0 ≤ a → a < L → paidR N st.1 t a) ∧ ∀ a : Int, 0 ≤ a → a < (b : Int) → paidR N st.1 s a))
          (fun st ⟨h1, h2, h3⟩ => by
            refine EvP.round ?_
            simp only [Zaj.l2]
            refine EvP.no (by omega) (EvP.round ?_)
            simp only [Zaj.j3]
            refine EvP.no (by simp) ?_
            rw [w64s (by omega)]
            refine ih st ⟨h1, h2, fun hb t a h4 h5 h6 h7 => ?_⟩
            by_cases e : t = (s : Int)
            · subst e; exact (h3 hb).2 a h6 (by omega)
            · exact (h3 hb).1 t a h4 (by omega) h6 h7)
          (fun b st hb ⟨h1, h2, h3⟩ ihb => by
            have hr := hrow s hs
            have hlt : st.1 < 2 ^ 63 := Nat.lt_of_lt_of_le h1.lt hp
            refine EvP.round ?_
            simp only [Zaj.l2]
            refine EvP.yes (by omega) (EvP.here (bit_nat hlt (by omega)) (EvP.round ?_))
            simp only [Zaj.j3]
            cases hv : st.1.testBit s
            · refine EvP.no (by simp) ?_
              rw [w64s (by omega)]
              refine ih st ⟨h1, h2, fun hc t a h4 h5 h6 h7 => ?_⟩
              by_cases e : t = (s : Int)
              · subst e; intro h8; rw [Int.toNat_natCast, hv] at h8; cases h8
              · exact (h3 hc).1 t a h4 (by omega) h6 h7
            · refine EvP.yes rfl (EvP.yes (by omega) (EvP.yes (by omega) (EvP.yes (by omega) (EvP.yes (by omega) ?_))))
              rw [hnx, w64s (by omega)]
              have hx := nx_in hN (s := s) (a := b) (by omega) (by omega) (by omega)
              by_cases h4 : nx N s b ≥ 0
              · obtain ⟨t, et, ht⟩ := nat_of h4 hx.2
                rw [et]
                refine EvP.yes (by omega) (EvP.here (bit_nat hlt (by omega)) ?_)
                cases hw : st.1.testBit t
                · refine EvP.no (by simp) (EvP.here (spOne (by omega) (by omega)) ?_)
                  rw [shl1 (by omega), bor hlt (Nat.lt_of_lt_of_le (Nat.pow_lt_pow_right (by decide) ht) hp)]
                  have hf := bits_less ht hw
                  have g := h2.1
                  refine ihb (st.1 ||| 2 ^ t, true) ⟨⟨or_lt h1.lt ht, fun u hu hub => ?_, ?_⟩, ⟨by simp only; omega, fun _ => by simp only; omega⟩, fun hc => by cases hc⟩
                  · simp only [Nat.testBit_or, Nat.testBit_two_pow, Bool.or_eq_true, decide_eq_true_eq] at hub
                    rcases hub with hub | hub
                    · exact h1.sound u hu hub
                    · subst hub
                      rw [← et]
                      exact .step (h1.sound s hs hv) (by omega) (by omega) h4
                  · simp only [Nat.testBit_or, h1.start, Bool.true_or]
                · refine EvP.yes rfl (ihb st ⟨h1, h2, fun hc => ⟨(h3 hc).1, fun a h5 h6 => ?_⟩⟩)
                  by_cases e : a = (b : Int)
                  · subst e; intro _ _; rw [et, Int.toNat_natCast]; exact hw
                  · exact (h3 hc).2 a h5 (by omega)
              · refine EvP.no h4 (ihb st ⟨h1, h2, fun hc => ⟨(h3 hc).1, fun a h5 h6 => ?_⟩⟩)
                by_cases e : a = (b : Int)
                · subst e; intro _ h7; omega
                · exact (h3 hc).2 a h5 (by omega))
        have := letters 0 st (by omega) ⟨h1, h2, fun hc => ⟨fun t a h4 h5 h6 h7 => h3 hc t a h4 h5 h6 h7, fun a h5 h6 => absurd h6 (by omega)⟩⟩
        simpa using this)
    have := pass 0 (m0, false) (by omega) ⟨I0, ⟨Nat.le_refl _, fun h => by cases h⟩, fun _ t a h4 h5 => absurd h5 (by omega)⟩
    simpa using this
  unfold Zaj.f
  refine EvP.bind (l11Is_ev L S F N (by omega)) ?_
  rw [h]
  obtain ⟨S', rfl, hS'⟩ := nat_of hS hSn
  refine EvP.yes rfl (EvP.here (spOne hS (by omega)) ?_)
  rw [shl1 (by omega)]
  refine main _ _ (Nat.le_refl _) ⟨Nat.pow_lt_pow_right (by decide) hS', fun t ht hb => ?_, ?_⟩
  · rw [Nat.testBit_two_pow, decide_eq_true_eq] at hb
    subst hb
    exact .start
  · rw [Int.toNat_natCast, Nat.testBit_two_pow]; simp
/-! The program's way: two lists of marks at once. -/
structure UseI (L S : Int) (N : List (List Int)) (fin re le : List Bool) : Prop where
  rlen : re.length = N.length
  rsound : ∀ s : Int, 0 ≤ s → s < N.length → rdOf false re s = true → Rch L N S s
  start : rdOf false re S = true
  live : LiveI L N fin le
def paidU (N : List (List Int)) (re le : List Bool) (s a : Int) : Prop := 0 ≤ nx N s a → (rdOf false re s = true → rdOf false re (nx N s a) = true) ∧ (rdOf false le (nx N s a) = true → rdOf false le s = true)
theorem useful_full {L S : Int} {N : List (List Int)} {fin re le : List Bool} (hN : Rows' L N) (hS : 0 ≤ S) (hSn : S < N.length) (I : UseI L S N fin re le) (h : ∀ s a : Int, 0 ≤ s → s < N.length → 0 ≤ a → a < L → paidU N re le s a) :
    ∀ s : Int, 0 ≤ s → s < N.length → (rdOf false re s = true ↔ Rch L N S s) ∧ (rdOf false le s = true ↔ Led L N fin s) := by
  intro s h0 h1
  refine ⟨⟨fun hb => I.rsound s h0 h1 hb, fun hr => ?_⟩, live_full hN I.live (fun s a a1 a2 a3 a4 a5 a6 => (h s a a1 a2 a3 a4 a5).2 a6) s h0 h1⟩
  have main : ∀ s, Rch L N S s → 0 ≤ s ∧ s < N.length ∧ rdOf false re s = true := by
    intro s hr
    induction hr with
    | start => exact ⟨hS, hSn, I.start⟩
    | @step s a _ ha hb hn ih =>
      have hx := nx_in hN ih.2.1 ha hb
      exact ⟨hn, hx.2, (h s a ih.1 ih.2.1 ha hb hn).1 ih.2.2⟩
  exact (main s hr).2.2
theorem clone_eq {l : List Bool} (h : l.length < 140737488355328) : Zb0.f l = some l := if_pos h
/-- The useful states of a machine, as a list of marks. -/
def IsUse (L S : Int) (N : List (List Int)) (fin r : List Bool) : Prop := r.length = N.length ∧ ∀ s : Int, 0 ≤ s → s < N.length → (rdOf false r s = true ↔ Rch L N S s ∧ Led L N fin s)
theorem reach_mark {L S : Int} {N : List (List Int)} {fin re le : List Bool} (I : UseI L S N fin re le) {s a : Int} {t : Nat} (h0 : 0 ≤ s) (h1 : s < N.length) (ha : 0 ≤ a) (hb : a < L) (hn : nx N s a = t) (hr : rdOf false re s = true) : UseI L S N fin (re.set t true) le := by
  refine ⟨by simp [I.rlen], fun u h2 h3 hu => ?_, ?_, I.live⟩
  · rw [rdOf_set h2] at hu
    by_cases e : u = (t : Int)
    · subst e
      rw [← hn]
      exact .step (I.rsound s h0 h1 hr) ha hb (by omega)
    · rw [if_neg (by omega)] at hu
      exact I.rsound u h2 h3 hu
  · by_cases hS : 0 ≤ S
    · rw [rdOf_set hS]
      split
      · rfl
      · exact I.start
    · have := I.start
      have e : S.toNat = 0 := by omega
      show (re.set t true).getD S.toNat false = true
      have h' : re.getD S.toNat false = true := this
      rw [e] at h' ⊢
      rw [List.getD_eq_getElem?_getD, List.getElem?_set]
      by_cases ht : t = 0
      · subst ht
        by_cases hl : 0 < re.length
        · simp [hl]
        · simp at hl; subst hl; simp at h'
      · rw [if_neg ht, ← List.getD_eq_getElem?_getD]; exact h'
end Go.Proofs.YtlmicipfikammaaDoor.U
end
section
namespace Go.Proofs.YtlmicipfikammaaDoor.U
/-! Classes that are refined until they stay: they tell the languages apart. -/
def clsO (c : Nat → Int) : Option Nat → Int
  | none => -1
  | some t => c t
structure Ref (L n : Nat) (nxt : Nat → Nat → Option Nat) (inc : Nat → Prop) (c c' : Nat → Int) : Prop where
  out : ∀ s, s < n → ¬ inc s → c' s = -1
  nn : ∀ s, s < n → inc s → 0 ≤ c' s
  iff : ∀ s t, s < n → t < n → inc s → inc t → (c' s = c' t ↔ c s = c t ∧ ∀ a, a < L → clsO c (nxt s a) = clsO c (nxt t a))
section
variable {L n : Nat} {nxt : Nat → Nat → Option Nat} {good : Nat → Bool} {V : Nat → Prop}
/-- Which states have a class: the known ones that lead to a good one. -/
def incl (L : Nat) (nxt : Nat → Nat → Option Nat) (good : Nat → Bool) (V : Nat → Prop) (s : Nat) : Prop := V s ∧ ¬ emp (accW L nxt good s)
structure VOK (L n : Nat) (nxt : Nat → Nat → Option Nat) (V : Nat → Prop) : Prop where
  lt : ∀ s, V s → s < n
  closed : ∀ s a t, V s → a < L → nxt s a = some t → V t
  inn : ∀ s a t, s < n → a < L → nxt s a = some t → t < n
structure RI (L n : Nat) (nxt : Nat → Nat → Option Nat) (good : Nat → Bool) (V : Nat → Prop) (c : Nat → Int) : Prop where
  out : ∀ s, s < n → ¬ incl L nxt good V s → c s = -1
  nn : ∀ s, s < n → incl L nxt good V s → 0 ≤ c s
  lang : ∀ s t, s < n → t < n → incl L nxt good V s → incl L nxt good V t → accW L nxt good s = accW L nxt good t → c s = c t
  good : ∀ s t, s < n → t < n → incl L nxt good V s → incl L nxt good V t → c s = c t → good s = good t
theorem RI.step {c c' : Nat → Int} (hV : VOK L n nxt V) (h : RI L n nxt good V c) (R : Ref L n nxt (incl L nxt good V) c c') : RI L n nxt good V c' := by
  refine ⟨R.out, R.nn, fun s t hs ht is it e => ?_, fun s t hs ht is it e => h.good s t hs ht is it ((R.iff s t hs ht is it).1 e).1⟩
  rw [R.iff s t hs ht is it]
  refine ⟨h.lang s t hs ht is it e, fun a ha => ?_⟩
  have hd : der (accW L nxt good s) a = der (accW L nxt good t) a := by rw [e]
  have one : ∀ x y z, x < n → y < n → incl L nxt good V y → nxt x a = none → nxt y a = some z → der (accW L nxt good x) a = der (accW L nxt good y) a → c z = -1 := by
    intro x y z hx hy iy h1 h2 h3
    rw [der_some ha h2] at h3
    exact h.out z (hV.inn y a z hy ha h2) (fun hz => hz.2 (h3 ▸ der_none h1))
  cases e1 : nxt s a with
  | none =>
    cases e2 : nxt t a with
    | none => rfl
    | some t' => exact (one s t t' hs ht it e1 e2 hd).symm
  | some s' =>
    cases e2 : nxt t a with
    | none => exact one t s s' ht hs is e2 e1 hd.symm
    | some t' =>
      rw [der_some ha e1, der_some ha e2] at hd
      have v1 := hV.closed s a s' is.1 ha e1
      have v2 := hV.closed t a t' it.1 ha e2
      show c s' = c t'
      by_cases hE : emp (accW L nxt good s')
      · rw [h.out s' (hV.lt _ v1) (fun hz => hz.2 hE), h.out t' (hV.lt _ v2) (fun hz => hz.2 (hd ▸ hE))]
      · exact h.lang s' t' (hV.lt _ v1) (hV.lt _ v2) ⟨v1, hE⟩ ⟨v2, hd ▸ hE⟩ hd
end
end Go.Proofs.YtlmicipfikammaaDoor.U
end
section
namespace Go.Proofs.YtlmicipfikammaaDoor.U
open Go.RowKit Go.Proofs.YtlmicipfikammaaDoor.P Go.Proofs.YtlmicipfikammaaDoorW.PrintWords Go.Proofs.YtlmicipfikammaaDoorW.PrintLast
set_option linter.unusedVariables false
/-! The machines of rows as machines of functions; one pass over the states. -/
def nxO (N : List (List Int)) (s a : Nat) : Option Nat := if 0 ≤ nx N s a then some (nx N s a).toNat else none
def goodO (g : List Bool) (s : Nat) : Bool := rdOf false g (s : Int)
theorem nxO_some {N : List (List Int)} {s a t : Nat} (h : nxO N s a = some t) : nx N s a = t := by
  unfold nxO at h
  split at h
  · have := Option.some.inj h; omega
  · cases h
theorem nxO_none {N : List (List Int)} {s a : Nat} (h : nxO N s a = none) : nx N s a < 0 := by
  unfold nxO at h
  split at h
  · cases h
  · omega
/-- One pass over the states up to i: the first state of each class found, and the new classes. -/
structure PassI {κ : Type} (inc : Nat → Prop) (sig : Nat → κ) (i : Nat) (ks : List Nat) (c' : Nat → Int) : Prop where
  first : ∀ x ∈ ks, x < i ∧ inc x
  apart : ks.Pairwise (fun x y => sig x ≠ sig y)
  out : ∀ s, s < i → ¬ inc s → c' s = -1
  num : ∀ s, s < i → inc s → ∃ j, j < ks.length ∧ c' s = j ∧ ∀ x, ks[j]? = some x → sig x = sig s
section
variable {κ : Type} {inc : Nat → Prop} {sig : Nat → κ} {i : Nat} {ks : List Nat} {c' c'' : Nat → Int}
theorem PassI.start : PassI inc sig 0 [] c' := ⟨fun x hx => by simp at hx, List.Pairwise.nil, fun s hs => absurd hs (by omega), fun s hs => absurd hs (by omega)⟩
theorem PassI.skip (I : PassI inc sig i ks c') (hi : ¬ inc i) (h1 : c'' i = -1) (h2 : ∀ s, s < i → c'' s = c' s) : PassI inc sig (i + 1) ks c'' := by
  refine ⟨fun x hx => ⟨by have := (I.first x hx).1; omega, (I.first x hx).2⟩, I.apart, fun s hs hn => ?_, fun s hs hn => ?_⟩
  · by_cases e : s = i
    · subst e; exact h1
    · rw [h2 s (by omega)]; exact I.out s (by omega) hn
  · by_cases e : s = i
    · subst e; exact absurd hn hi
    · rw [h2 s (by omega)]; exact I.num s (by omega) hn
theorem PassI.same (I : PassI inc sig i ks c') {s t : Nat} (hs : s < i) (ht : t < i) (is : inc s) (it : inc t) : c' s = c' t ↔ sig s = sig t := by
  obtain ⟨j, hj, h1, h2⟩ := I.num s hs is
  obtain ⟨l, hl, h3, h4⟩ := I.num t ht it
  have q1 := h2 _ (List.getElem?_eq_getElem hj)
  have q2 := h4 _ (List.getElem?_eq_getElem hl)
  constructor
  · intro e
    have : j = l := by omega
    subst this
    rw [← q1, ← q2]
  · intro e
    have : j = l := by
      refine Classical.byContradiction fun hne => ?_
      have hp := List.pairwise_iff_getElem.1 I.apart
      rcases Nat.lt_or_gt_of_ne hne with hlt | hlt
      · exact hp j l hj hl hlt (by rw [q1, q2, e])
      · exact hp l j hl hj hlt (by rw [q1, q2, e])
    omega
end
end Go.Proofs.YtlmicipfikammaaDoor.U
end
section
namespace Go.Proofs.YtlmicipfikammaaDoor.U
open Go.RowKit Go.Proofs.YtlmicipfikammaaDoor.P Go.Proofs.YtlmicipfikammaaDoorW.PrintWords Go.Proofs.YtlmicipfikammaaDoorW.PrintLast Go.Proofs.YtlmicipfikammaaDoorW.PrintMore
set_option linter.unusedVariables false
theorem get_false {l : List Bool} {i : Nat} (h : i < l.length) (hv : rdOf false l (i : Int) = false) : l[i] = false := by rw [← Zc0 (d := false) h]; exact hv
theorem useful_ev {L S : Int} {N : List (List Int)} (fin : List Bool) (hN : Rows' L N) (hn : N.length ≤ 1048576) (hf : fin.length = N.length) (hL : 0 ≤ L) (o : L ≤ 1048576) (hS : 0 ≤ S) (hSn : S < N.length) :
    EvP (fun k => Zad.f k L S fin N) (IsUse L S N fin) := by
  have hrow : ∀ s : Nat, s < N.length → ((Zae N (s : Int)).length : Int) = L := fun s hs => (row_at hN (s := s) (by omega) (by omega)).1
  have hnx : ∀ s a : Nat, rd (Zae N (s : Int)) (a : Int) = nx N s a := fun s a => by unfold nx; rw [if_neg (by omega)]
  -- the last loop
  have l : ∀ re le : List Bool, re.length = N.length → le.length = N.length → (∀ s : Int, 0 ≤ s → s < N.length → (rdOf false re s = true ↔ Rch L N S s) ∧ (rdOf false le s = true ↔ Led L N fin s)) →
      EvP (fun k => Zad.l3 k re le (re.length : Int) 0) (IsUse L S N fin) := by
    intro re le hr hl hfull
    have loop := EvP.up (fun k (st : List Bool) i => Zad.l3 k st le (re.length : Int) i) (IsUse L S N fin) re.length
      (fun i st => st.length = N.length ∧ ∀ s : Int, 0 ≤ s → s < N.length → (rdOf false st s = true ↔ if s < (i : Int) then Rch L N S s ∧ Led L N fin s else Rch L N S s))
      (fun st ⟨h1, h2⟩ => by
        refine EvP.round ?_
        simp only [Zad.l3]
        refine EvP.no (by omega) (EvP.ret ⟨h1, fun s h3 h4 => ?_⟩)
        have := h2 s h3 h4
        rwa [if_pos (by omega)] at this)
      (fun i st hi ⟨h1, h2⟩ ih => by
        refine EvP.round ?_
        simp only [Zad.l3]
        refine EvP.yes (by omega) (EvP.yes (by omega) (EvP.yes (by omega) ?_))
        rw [w64s (by omega), Int.toNat_natCast]
        have g := h2 i (by omega) (by omega)
        rw [if_neg (by omega)] at g
        have hle := (hfull i (by omega) (by omega)).2
        have nxt : ∀ b : Bool, (b = true ↔ Rch L N S i ∧ Led L N fin i) → ∀ s : Int, 0 ≤ s → s < N.length → (rdOf false (st.set i b) s = true ↔ if s < ((i + 1 : Nat) : Int) then Rch L N S s ∧ Led L N fin s else Rch L N S s) := by
          intro b hb s h3 h4
          rw [rdOf_set h3]
          by_cases e : s = (i : Int)
          · subst e
            rw [if_pos ⟨rfl, by omega⟩, if_pos (by omega)]
            exact hb
          · rw [if_neg (by omega)]
            have := h2 s h3 h4
            by_cases h5 : s < (i : Int)
            · rw [if_pos h5] at this; rw [if_pos (by omega)]; exact this
            · rw [if_neg h5] at this; rw [if_neg (by omega)]; exact this
        cases hv : rdOf false st (i : Int)
        · refine EvP.no (by simp) (ih _ ⟨by simp [h1], nxt false ⟨fun h => (by cases h), fun h => ?_⟩⟩)
          rw [g.2 h.1] at hv; cases hv
        · refine EvP.yes rfl (EvP.yes (by omega) (ih _ ⟨by simp [h1], nxt _ ?_⟩))
          rw [hle]
          exact ⟨fun h => ⟨g.1 hv, h⟩, fun h => h.2⟩)
    have := loop 0 re (by omega) ⟨hr, fun s h3 h4 => by rw [if_neg (by omega)]; exact (hfull s h3 h4).1⟩
    simpa using this
  have main : ∀ q (re le : List Bool), Zbh re + Zbh le ≤ q → UseI L S N fin re le → EvP (fun k => Zad.l0 k re le true L S fin N) (IsUse L S N fin) := by
    intro q
    induction q using Nat.strongRecOn with
    | _ q ihq =>
    intro c d hm I0
    refine EvP.round ?_
    simp only [Zad.l0]
    refine EvP.yes (by trivial) ?_
    have pass := EvP.up (fun k (st : List Bool × List Bool × Bool) s => Zad.l1 k st.1 st.2.1 st.2.2 N (N.length : Int) s L S fin N) (IsUse L S N fin) N.length
      (fun s st => UseI L S N fin st.1 st.2.1 ∧ (Zbh st.1 + Zbh st.2.1 ≤ Zbh c + Zbh d ∧ (st.2.2 = true → Zbh st.1 + Zbh st.2.1 < Zbh c + Zbh d)) ∧ (st.2.2 = false → ∀ t a : Int, 0 ≤ t → t < (s : Int) → 0 ≤ a → a < L → paidU N st.1 st.2.1 t a))
      (fun st ⟨h1, h2, h3⟩ => by
        refine EvP.round ?_
        simp only [Zad.l1]
        refine EvP.no (by omega) ?_
        cases hb : st.2.2
        · refine EvP.round ?_
          simp only [Zad.l0]
          refine EvP.no (by simp) ?_
          exact l st.1 st.2.1 h1.rlen h1.live.len (useful_full hN hS hSn h1 (fun t a h4 h5 h6 h7 => h3 hb t a h4 h5 h6 h7))
        · exact ihq _ (by have := h2.2 hb; omega) st.1 st.2.1 (Nat.le_refl _) h1)
      (fun s st hs ⟨h1, h2, h3⟩ ih => by
        refine EvP.round ?_
        simp only [Zad.l1]
        refine EvP.yes (by omega) (EvP.yes (by omega) (EvP.yes (by omega) ?_))
        have hr := hrow s hs
        rw [hr]
        have letters := EvP.up (fun k (st : List Bool × List Bool × Bool) a => Zad.l2 k st.1 st.2.1 st.2.2 (s : Int) N (N.length : Int) (s : Int) (Zae N (s : Int)) L a L S fin N) (IsUse L S N fin) L.toNat
          (fun b st => UseI L S N fin st.1 st.2.1 ∧ (Zbh st.1 + Zbh st.2.1 ≤ Zbh c + Zbh d ∧ (st.2.2 = true → Zbh st.1 + Zbh st.2.1 < Zbh c + Zbh d)) ∧ (st.2.2 = false → (∀ t a : Int, 0 ≤ t → t < (s : Int) → 0 ≤ a → a < L → paidU N st.1 st.2.1 t a) ∧ ∀ a : Int, 0 ≤ a → a < (b : Int) → paidU N st.1 st.2.1 s a))
          (fun st ⟨h1, h2, h3⟩ => by
            refine EvP.round ?_
            simp only [Zad.l2]
            refine EvP.no (by omega) ?_
            rw [w64s (by omega)]
            refine ih st ⟨h1, h2, fun hb t a h4 h5 h6 h7 => ?_⟩
            by_cases e : t = (s : Int)
            · subst e; exact (h3 hb).2 a h6 (by omega)
            · exact (h3 hb).1 t a h4 (by omega) h6 h7)
          (fun b st hb ⟨h1, h2, h3⟩ ihb => by
            have hl := h1.live.len
            have hrl := h1.rlen
            refine EvP.round ?_
            simp only [Zad.l2]
            refine EvP.yes (by omega) (EvP.yes (by omega) (EvP.yes (by omega) ?_))
            rw [hnx, w64s (by omega)]
            have hx := nx_in hN (s := s) (a := b) (by omega) (by omega) (by omega)
            by_cases h4 : nx N s b < 0
            · refine EvP.yes h4 (ihb st ⟨h1, h2, fun hc => ⟨(h3 hc).1, fun a h5 h6 => ?_⟩⟩)
              by_cases e : a = (b : Int)
              · subst e; intro h7; omega
              · exact (h3 hc).2 a h5 (by omega)
            · refine EvP.no h4 (EvP.yes (by omega) (EvP.yes (by omega) ?_))
              obtain ⟨t, et, ht⟩ := nat_of (by omega : 0 ≤ nx N s b) hx.2
              rw [et]
              -- the second half of the round, whatever the first half did
              have half : ∀ (re : List Bool) (ch : Bool), UseI L S N fin re st.2.1 → (Zbh re + Zbh st.2.1 ≤ Zbh c + Zbh d ∧ (ch = true → Zbh re + Zbh st.2.1 < Zbh c + Zbh d)) →
                  (ch = false → re = st.1 ∧ st.2.2 = false ∧ (rdOf false re (s : Int) = true → rdOf false re (t : Int) = true)) →
                  EvP (fun k => if (0 : Int) ≤ t then (if (t : Int) < (st.2.1.length : Int) then (if rdOf false st.2.1 (t : Int) = true then (if (0 : Int) ≤ s then (if (s : Int) < (st.2.1.length : Int) then (if rdOf false st.2.1 (s : Int) = true then Zad.l2 k re st.2.1 ch (s : Int) N (N.length : Int) (s : Int) (Zae N (s : Int)) L ((b + 1 : Nat) : Int) L S fin N else Zad.l2 k re (st.2.1.set ((s : Int)).toNat true) true (s : Int) N (N.length : Int) (s : Int) (Zae N (s : Int)) L ((b + 1 : Nat) : Int) L S fin N) else none) else none) else Zad.l2 k re st.2.1 ch (s : Int) N (N.length : Int) (s : Int) (Zae N (s : Int)) L ((b + 1 : Nat) : Int) L S fin N) else none) else none) (IsUse L S N fin) := by
                intro re ch g1 g2 g3
                refine EvP.yes (by omega) (EvP.yes (by omega) ?_)
                have keep : (rdOf false st.2.1 (t : Int) = true → rdOf false st.2.1 (s : Int) = true) → EvP (fun k => Zad.l2 k re st.2.1 ch (s : Int) N (N.length : Int) (s : Int) (Zae N (s : Int)) L ((b + 1 : Nat) : Int) L S fin N) (IsUse L S N fin) := by
                  intro hk
                  refine ihb (re, st.2.1, ch) ⟨g1, g2, fun hc => ?_⟩
                  obtain ⟨e1, e2, e3⟩ := g3 hc
                  subst e1
                  refine ⟨(h3 e2).1, fun a h5 h6 => ?_⟩
                  by_cases e : a = (b : Int)
                  · subst e; intro _; rw [et]; exact ⟨e3, hk⟩
                  · exact (h3 e2).2 a h5 (by omega)
                cases hw : rdOf false st.2.1 (t : Int)
                · exact EvP.no (by simp) (keep (fun h => by rw [hw] at h; cases h))
                · refine EvP.yes rfl (EvP.yes (by omega) (EvP.yes (by omega) ?_))
                  cases hu : rdOf false st.2.1 (s : Int)
                  · refine EvP.no (by simp) ?_
                    have p := falses_set (by omega) (get_false (by omega) hu)
                    rw [Int.toNat_natCast]
                    refine ihb (re, st.2.1.set s true, true) ⟨⟨g1.rlen, g1.rsound, g1.start, live_mark hN g1.live hs (a := (b : Int)) (by omega) (by omega) (by omega) (by rw [et]; exact hw)⟩, ⟨by simp only; omega, fun _ => by simp only; omega⟩, fun hc => by cases hc⟩
                  · exact EvP.yes rfl (keep (fun _ => hu))
              have j : ∀ flag : Bool, (flag = true → rdOf false st.1 (s : Int) = true ∧ rdOf false st.1 (t : Int) = false) → (flag = false → (rdOf false st.1 (s : Int) = true → rdOf false st.1 (t : Int) = true)) →
                  EvP (fun k => Zad.j3 k st.1 st.2.1 st.2.2 (s : Int) (t : Int) N (N.length : Int) (s : Int) (Zae N (s : Int)) L (b : Int) flag L S fin N) (IsUse L S N fin) := by
                intro flag f1 f2
                refine EvP.round ?_
                simp only [Zad.j3]
                rw [w64s (by omega)]
                cases flag
                · refine EvP.no (by simp) ?_
                  exact half st.1 st.2.2 h1 h2 (fun hc => ⟨rfl, hc, f2 rfl⟩)
                · obtain ⟨e1, e2⟩ := f1 rfl
                  refine EvP.yes (by trivial) (EvP.yes (by omega) (EvP.yes (by omega) (EvP.here rfl ?_)))
                  have v := falses_set (by omega) (get_false (by omega) e2)
                  rw [Int.toNat_natCast]
                  have := half (st.1.set t true) true (reach_mark h1 (by omega) (by omega) (by omega) (by omega) et e1) ⟨by omega, fun _ => by omega⟩ (fun hc => by cases hc)
                  refine (show EvP _ _ from ?_)
                  obtain ⟨r, m, n⟩ := this
                  refine ⟨r, ?_, n⟩
                  refine Ev.congr (fun k => ?_) m
                  rw [if_pos (by omega : (0 : Int) ≤ t)]
              cases hv : rdOf false st.1 (s : Int)
              · exact EvP.no (by simp) (j false (fun h => by cases h) (fun _ h => by rw [hv] at h; cases h))
              · refine EvP.yes rfl (EvP.yes (by omega) (EvP.yes (by omega) ?_))
                cases hw : rdOf false st.1 (t : Int)
                · exact j true (fun _ => ⟨hv, hw⟩) (fun h => by cases h)
                · exact j false (fun h => by cases h) (fun _ _ => hw))
        have := letters 0 st (by omega) ⟨h1, h2, fun hc => ⟨fun t a h4 h5 h6 h7 => h3 hc t a h4 h5 h6 h7, fun a h5 h6 => absurd h6 (by omega)⟩⟩
        simpa using this)
    have := pass 0 (c, d, false) (by omega) ⟨I0, ⟨Nat.le_refl _, fun h => by cases h⟩, fun _ t a h4 h5 => absurd h5 (by omega)⟩
    simpa using this
  unfold Zad.f
  obtain ⟨S', rfl, hS'⟩ := nat_of hS hSn
  refine EvP.yes (by omega) (EvP.yes (by omega) (EvP.here rfl (EvP.here (clone_eq (by omega)) (EvP.yes (by omega) (EvP.yes (by simp; omega) ?_)))))
  rw [Int.toNat_natCast, Int.toNat_natCast]
  refine main _ _ _ (Nat.le_refl _) ⟨by simp, fun s h0 h1 h => ?_, ?_, ⟨hf, fun s h0 h1 h => .base h0 h1 h, fun s _ _ h => h⟩⟩
  · rw [rdOf_set h0] at h
    by_cases e : s = (S' : Int)
    · subst e; exact .start
    · rw [if_neg (by omega)] at h
      obtain ⟨u, rfl, hu⟩ := nat_of h0 h1
      rw [Zc0 (by simp; exact hu)] at h
      simp at h
  · rw [rdOf_set (by omega), if_pos ⟨rfl, by simp; exact hS'⟩]
end Go.Proofs.YtlmicipfikammaaDoor.U
end
section
namespace Go.Proofs.YtlmicipfikammaaDoor.U
open Go.RowKit Go.Proofs.YtlmicipfikammaaDoor.P Go.Proofs.YtlmicipfikammaaDoorW.PrintWords Go.Proofs.YtlmicipfikammaaDoorW.PrintLast
set_option linter.unusedVariables false
/-! The least machine's own languages. -/
theorem cStep_all {P : Lang → Prop} (hP : ∀ p b, P p → P (der p b)) {q : Lang} (hq : P q) (qs : List Lang) (row : List Int) (a : Nat) (h : ∀ p ∈ qs, P p) : ∀ p ∈ (cStep q (qs, row) a).1, P p := by
  unfold cStep
  split
  · exact h
  · split
    · exact h
    · intro p hp
      rcases List.mem_append.1 hp with hp | hp
      · exact h p hp
      · rw [List.mem_singleton.1 hp]; exact hP q a hq
theorem cFold_all {P : Lang → Prop} (hP : ∀ p b, P p → P (der p b)) {q : Lang} (hq : P q) : ∀ (us : List Nat) (st : List Lang × List Int), (∀ p ∈ st.1, P p) → ∀ p ∈ (us.foldl (cStep q) st).1, P p
  | [], _, h => h
  | a :: us, st, h => cFold_all hP hq us _ (cStep_all hP hq st.1 st.2 a h)
theorem cRun_all {L : Nat} {P : Lang → Prop} (hP : ∀ p b, P p → P (der p b)) : ∀ (f i : Nat) (qs : List Lang) (rows : List (List Int)) (r : List Lang × List (List Int)), cRun L f i qs rows = some r → (∀ p ∈ qs, P p) → ∀ p ∈ r.1, P p
  | 0, i, qs, rows, r, h, _ => by simp [cRun] at h
  | f + 1, i, qs, rows, r, h, hq => by
    unfold cRun at h
    cases e : qs[i]? with
    | none =>
      rw [e] at h
      have h := Option.some.inj h
      subst h
      exact hq
    | some p =>
      rw [e] at h
      exact cRun_all hP f _ _ _ r h (cFold_all hP (hq p (List.mem_of_getElem? e)) _ _ hq)
/-- No word with another letter. -/
def Lt (L : Nat) (q : Lang) : Prop := ∀ w, (∃ a ∈ w, L ≤ a) → q w = false
theorem Lt.der {L : Nat} {q : Lang} (h : Lt L q) (b : Nat) : Lt L (der q b) := fun w ⟨a, ha, hl⟩ => h (b :: w) ⟨a, by simp [ha], hl⟩
theorem IsLeast.lt {L : Nat} {q : Lang} {qs : List Lang} {rows : List (List Int)} (h : IsLeast L q (qs, rows)) (hq : Lt L q) : ∀ p ∈ qs, Lt L p := by
  obtain ⟨f, h⟩ := h
  exact cRun_all (P := Lt L) (fun p b hp => hp.der b) f 0 [q] [] _ h (fun p hp => by rw [List.mem_singleton.1 hp]; exact hq)
theorem nx_row {rows : List (List Int)} {j : Nat} {row : List Int} (h : rows[j]? = some row) (b : Nat) : nx rows (j : Int) (b : Int) = row.getD b 0 := by
  unfold nx
  rw [if_neg (by omega)]
  have e : Zae rows (j : Int) = row := by
    show rows.getD j [] = row
    rw [List.getD_eq_getElem?_getD, h]; rfl
  rw [e]
  rfl
end Go.Proofs.YtlmicipfikammaaDoor.U
end
section
namespace Go.Proofs.YtlmicipfikammaaDoor.U
open Go.RowKit Go.Proofs.YtlmicipfikammaaDoor.P Go.Proofs.YtlmicipfikammaaDoorW.PrintWords Go.Proofs.YtlmicipfikammaaDoorW.PrintLast
set_option linter.unusedVariables false
set_option linter.unusedSectionVars false
/-! Machines over states of any kind, and machines of rows whose states follow a list of such states. -/
def aAcc {σ : Type} (L : Nat) (nxt : σ → Nat → Option σ) (good : σ → Bool) : σ → Lang
  | s, [] => good s
  | s, a :: w => decide (a < L) && match nxt s a with
    | none => false
    | some t => aAcc L nxt good t w
/-- The rows' states are those of the list: each entry is -1 for no state (or for one from which nothing is accepted), or the place of the state to which the letter leads. -/
structure Follows {σ : Type} (L : Nat) (nxt : σ → Nat → Option σ) (good : σ → Bool) (l : List σ) (rows : List (List Int)) (g : List Bool) : Prop where
  len : rows.length = l.length
  gl : ∀ (j : Nat) (x : σ), l[j]? = some x → goodO g j = good x
  ent : ∀ (j : Nat) (x : σ) (a : Nat), l[j]? = some x → a < L → (nx rows j a < 0 ∧ ∀ y, nxt x a = some y → emp (aAcc L nxt good y)) ∨ ∃ (k : Nat) (y : σ), nx rows j a = k ∧ nxt x a = some y ∧ l[k]? = some y
/-! The run that finds all states. -/
section
variable {σ : Type} [DecidableEq σ] (L : Nat) (nxt : σ → Nat → Option σ)
def eStep (x : σ) (st : List σ × List Int) (a : Nat) : List σ × List Int :=
  match nxt x a with
  | none => (st.1, st.2 ++ [-1])
  | some t => match st.1.findIdx? (fun y => decide (y = t)) with
    | some k => (st.1, st.2 ++ [(k : Int)])
    | none => (st.1 ++ [t], st.2 ++ [(st.1.length : Int)])
def eRow (x : σ) (l : List σ) : List σ × List Int := (List.range L).foldl (eStep nxt x) (l, [])
def eRun : Nat → Nat → List σ → List (List Int) → Option (List σ × List (List Int))
  | 0, _, _, _ => none
  | f + 1, i, l, rows => match l[i]? with
    | some x => eRun f (i + 1) (eRow L nxt x l).1 (rows ++ [(eRow L nxt x l).2])
    | none => some (l, rows)
end
section
variable {σ : Type} {nxt : σ → Nat → Option σ}
def EntA (nxt : σ → Nat → Option σ) (l : List σ) (x : σ) (a : Nat) (t : Int) : Prop := (t = -1 ∧ nxt x a = none) ∨ ∃ (k : Nat) (y : σ), t = k ∧ nxt x a = some y ∧ l[k]? = some y
theorem EntA.more {l ext : List σ} {x : σ} {a : Nat} {t : Int} (h : EntA nxt l x a t) : EntA nxt (l ++ ext) x a t := by
  rcases h with h | ⟨k, y, h1, h2, h3⟩
  · exact .inl h
  · exact .inr ⟨k, y, h1, h2, by rw [List.getElem?_append_left (List.getElem?_eq_some_iff.1 h3).1]; exact h3⟩
end
section
variable {σ : Type} [DecidableEq σ] {L : Nat} {nxt : σ → Nat → Option σ}
theorem find_some {l : List σ} {t : σ} {k : Nat} (h : l.findIdx? (fun y => decide (y = t)) = some k) : l[k]? = some t := by
  rw [List.findIdx?_eq_some_iff_getElem] at h
  obtain ⟨hk, h1, _⟩ := h
  have h2 : l[k] = t := by simpa using h1
  rw [List.getElem?_eq_getElem hk, h2]
theorem find_none {l : List σ} {t : σ} (h : l.findIdx? (fun y => decide (y = t)) = none) : t ∉ l := by
  rw [List.findIdx?_eq_none_iff] at h
  intro hm
  have := h t hm
  simp at this
theorem eStep_ent (x : σ) (l : List σ) (row : List Int) (a : Nat) (hn : l.Nodup) : ∃ ext t, eStep nxt x (l, row) a = (l ++ ext, row ++ [t]) ∧ EntA nxt (l ++ ext) x a t ∧ (l ++ ext).Nodup ∧ ∀ y ∈ ext, nxt x a = some y := by
  unfold eStep
  cases e : nxt x a with
  | none => exact ⟨[], -1, by simp, .inl ⟨rfl, e⟩, by simpa using hn, by simp⟩
  | some t =>
    dsimp only
    cases e2 : l.findIdx? (fun y => decide (y = t)) with
    | some k => exact ⟨[], k, by simp, .inr ⟨k, t, rfl, e, by simpa using find_some e2⟩, by simpa using hn, by simp⟩
    | none =>
      refine ⟨[t], (l.length : Int), rfl, .inr ⟨l.length, t, rfl, e, by simp⟩, ?_, fun y hy => by rw [List.mem_singleton.1 hy]⟩
      rw [List.nodup_append]
      refine ⟨hn, by simp, fun y hy z hz hyz => ?_⟩
      rw [List.mem_singleton.1 hz] at hyz
      exact find_none e2 (hyz ▸ hy)
theorem eFold_ent (x : σ) : ∀ (n : Nat) (l : List σ), l.Nodup → ∃ ext row, (List.range n).foldl (eStep nxt x) (l, []) = (l ++ ext, row) ∧ row.length = n ∧ (∀ b, b < n → EntA nxt (l ++ ext) x b (row.getD b 0)) ∧ (l ++ ext).Nodup ∧ ∀ y ∈ ext, ∃ b, b < n ∧ nxt x b = some y
  | 0, l, hn => ⟨[], [], by simp, rfl, fun b hb => absurd hb (by omega), by simpa using hn, by simp⟩
  | n + 1, l, hn => by
    obtain ⟨ext, row, h1, h2, h3, h4, h5⟩ := eFold_ent x n l hn
    obtain ⟨a, t, g1, g2, g3, g4⟩ := eStep_ent x (l ++ ext) row n h4
    refine ⟨ext ++ a, row ++ [t], ?_, by simp [h2], fun b hb => ?_, by rw [← List.append_assoc]; exact g3, fun p hp => ?_⟩
    · rw [List.range_succ, List.foldl_append, h1]
      show eStep nxt x (l ++ ext, row) n = _
      rw [g1, List.append_assoc]
    · rw [← List.append_assoc]
      by_cases e : b = n
      · subst e
        have : (row ++ [t]).getD b 0 = t := by rw [List.getD_eq_getElem?_getD, List.getElem?_append_right (by omega), h2]; simp
        rw [this]; exact g2
      · have : (row ++ [t]).getD b 0 = row.getD b 0 := by rw [List.getD_eq_getElem?_getD, List.getElem?_append_left (by omega), List.getD_eq_getElem?_getD]
        rw [this]; exact (h3 b (by omega)).more
    · rcases List.mem_append.1 hp with hp | hp
      · obtain ⟨b, hb, e⟩ := h5 p hp; exact ⟨b, by omega, e⟩
      · exact ⟨n, by omega, g4 p hp⟩
structure ExpI (L : Nat) (nxt : σ → Nat → Option σ) (V : σ → Prop) (l : List σ) (rows : List (List Int)) : Prop where
  len : rows.length = l.length
  wid : ∀ row ∈ rows, row.length = L
  ent : ∀ (j : Nat) (x : σ) (row : List Int), l[j]? = some x → rows[j]? = some row → ∀ b, b < L → EntA nxt l x b (row.getD b 0)
  nodup : l.Nodup
  v : ∀ x ∈ l, V x
/-- What holds on the way, i rows being made. -/
structure ExpW (L : Nat) (nxt : σ → Nat → Option σ) (V : σ → Prop) (i : Nat) (l : List σ) (rows : List (List Int)) : Prop where
  len : rows.length = i
  le : i ≤ l.length
  wid : ∀ row ∈ rows, row.length = L
  ent : ∀ (j : Nat) (x : σ) (row : List Int), l[j]? = some x → rows[j]? = some row → ∀ b, b < L → EntA nxt l x b (row.getD b 0)
  nodup : l.Nodup
  v : ∀ x ∈ l, V x
theorem ExpW.next {V : σ → Prop} (hV : ∀ x a y, V x → a < L → nxt x a = some y → V y) {i : Nat} {l : List σ} {rows : List (List Int)} (h : ExpW L nxt V i l rows) {x : σ} (hx : l[i]? = some x) :
    ExpW L nxt V (i + 1) (eRow L nxt x l).1 (rows ++ [(eRow L nxt x l).2]) ∧ ∃ ext, (eRow L nxt x l).1 = l ++ ext := by
  obtain ⟨ext, row, h1, h2, h3, h4, h5⟩ := eFold_ent (nxt := nxt) x L l h.nodup
  have hc : eRow L nxt x l = (l ++ ext, row) := h1
  rw [hc]
  have hlt := (List.getElem?_eq_some_iff.1 hx).1
  have hr := h.len
  refine ⟨⟨by simp [hr], by simp; omega, fun y hy => ?_, fun j p row' hj hrow b hb => ?_, h4, fun y hy => ?_⟩, ext, rfl⟩
  · rcases List.mem_append.1 hy with hy | hy
    · exact h.wid y hy
    · rw [List.mem_singleton.1 hy]; exact h2
  · dsimp only at hj hrow ⊢
    by_cases hji : j < i
    · rw [List.getElem?_append_left (by omega)] at hrow
      rw [List.getElem?_append_left (by omega)] at hj
      exact (h.ent j p row' hj hrow b hb).more
    · have hl := (List.getElem?_eq_some_iff.1 hrow).1
      simp only [List.length_append, List.length_cons, List.length_nil] at hl
      have : j = i := by omega
      subst this
      rw [List.getElem?_append_right (by omega), hr] at hrow
      simp only [Nat.sub_self, List.getElem?_cons_zero, Option.some.injEq] at hrow
      rw [List.getElem?_append_left hlt, hx] at hj
      have hj := Option.some.inj hj
      subst hj; subst hrow
      exact h3 b hb
  · rcases List.mem_append.1 hy with hy | hy
    · exact h.v y hy
    · obtain ⟨b, hb, e⟩ := h5 y hy
      exact hV x b y (h.v x (List.mem_of_getElem? hx)) hb e
theorem eRun_I {V : σ → Prop} (hV : ∀ x a y, V x → a < L → nxt x a = some y → V y) : ∀ (f i : Nat) (l : List σ) (rows : List (List Int)) (r : List σ × List (List Int)), eRun L nxt f i l rows = some r → ExpW L nxt V i l rows → ExpI L nxt V r.1 r.2 ∧ ∃ ext, r.1 = l ++ ext
  | 0, i, l, rows, r, h, _ => by simp [eRun] at h
  | f + 1, i, l, rows, r, h, hw => by
    unfold eRun at h
    cases e : l[i]? with
    | none =>
      rw [e] at h
      have h := Option.some.inj h
      subst h
      have h1 := List.getElem?_eq_none_iff.1 e
      have h2 := hw.le
      exact ⟨⟨by show rows.length = l.length; have := hw.len; omega, hw.wid, hw.ent, hw.nodup, hw.v⟩, [], by simp⟩
    | some x =>
      rw [e] at h
      obtain ⟨h1, ext, h2⟩ := hw.next hV e
      obtain ⟨h3, b, h4⟩ := eRun_I hV f (i + 1) _ _ r h h1
      exact ⟨h3, ext ++ b, by rw [h4, h2, List.append_assoc]⟩
/-- The run comes to an end, if the states are among so many. -/
theorem eRun_ends {V : σ → Prop} (hV : ∀ x a y, V x → a < L → nxt x a = some y → V y) {u : List σ} (hu : ∀ x, V x → x ∈ u) : ∀ (f i : Nat) (l : List σ) (rows : List (List Int)), ExpW L nxt V i l rows → u.length < i + f → ∃ r, eRun L nxt f i l rows = some r
  | 0, i, l, rows, hw, hf => by
    have h1 := nodup_sub_len (l' := u) hw.nodup (fun x hx => hu x (hw.v x hx))
    have h2 := hw.le
    omega
  | f + 1, i, l, rows, hw, hf => by
    unfold eRun
    cases e : l[i]? with
    | none => exact ⟨_, rfl⟩
    | some x => exact eRun_ends hV hu f (i + 1) _ _ (hw.next hV e).1 (by omega)
theorem exp_start {V : σ → Prop} {x : σ} (hx : V x) : ExpW L nxt V 0 [x] [] := ⟨rfl, by simp, by simp, fun j p row _ hr => by simp at hr, by simp, fun y hy => by rw [List.mem_singleton.1 hy]; exact hx⟩
theorem ExpI.follows {V : σ → Prop} {l : List σ} {rows : List (List Int)} (h : ExpI L nxt V l rows) {good : σ → Bool} {g : List Bool} (hg : g = l.map good) : Follows L nxt good l rows g := by
  refine ⟨h.len, fun j x hj => ?_, fun j x a hj ha => ?_⟩
  · rw [hg]
    unfold goodO
    have hjl := (List.getElem?_eq_some_iff.1 hj).1
    rw [Zc0 (by simpa using hjl)]
    simp [(List.getElem?_eq_some_iff.1 hj).2]
  · have hjl := (List.getElem?_eq_some_iff.1 hj).1
    have hl := h.len
    have hr := List.getElem?_eq_getElem (l := rows) (i := j) (by omega)
    have e := h.ent j x _ hj hr a ha
    have hn := nx_row hr a
    rcases e with ⟨h1, h2⟩ | ⟨k, y, h1, h2, h3⟩
    · exact .inl ⟨by rw [hn, h1]; decide, fun y hy => by rw [h2] at hy; cases hy⟩
    · exact .inr ⟨k, y, by rw [hn, h1], h2, h3⟩
end
/-! Ways from a state, with the letters on them. -/
abbrev Wk := Nat × Nat
def lpN (N : List (List Int)) (x : Wk) (a : Nat) : Option Wk := (nxO N x.1 a).map fun t => (t, x.2 ||| 2 ^ a)
def lpV (n L : Nat) (x : Wk) : Prop := x.1 < n ∧ x.2 < 2 ^ L
theorem lpN_V {L : Int} {N : List (List Int)} (hN : Rows' L N) : ∀ x a y, lpV N.length L.toNat x → a < L.toNat → lpN N x a = some y → lpV N.length L.toNat y := by
  intro x a y hx ha e
  unfold lpN at e
  obtain ⟨t, h1, rfl⟩ := Option.map_eq_some_iff.1 e
  have h2 := nxO_some h1
  have h3 := nx_in hN (s := x.1) (a := a) (by have := hx.1; omega) (by omega) (by omega)
  exact ⟨by show t < N.length; omega, or_lt hx.2 ha⟩
theorem lpN_pos {N : List (List Int)} {x y : Wk} {a : Nat} (e : lpN N x a = some y) : y.2 ≠ 0 := by
  unfold lpN at e
  obtain ⟨t, h1, rfl⟩ := Option.map_eq_some_iff.1 e
  intro h
  have h2 : (x.2 ||| 2 ^ a).testBit a = true := by rw [Nat.testBit_or, Nat.testBit_two_pow_self, Bool.or_true]
  have h3 : x.2 ||| 2 ^ a = 0 := h
  rw [h3, Nat.zero_testBit] at h2
  cases h2
def lpU (n m : Nat) : List Wk := (List.range n).flatMap fun i => (List.range m).map fun j => (i, j)
theorem lpU_in {n L : Nat} {x : Wk} (h : lpV n L x) : x ∈ lpU n (2 ^ L) := List.mem_flatMap.2 ⟨x.1, List.mem_range.2 h.1, List.mem_map.2 ⟨x.2, List.mem_range.2 h.2, rfl⟩⟩
theorem lpU_length (n m : Nat) : (lpU n m).length = n * m := by
  unfold lpU
  rw [List.length_flatMap]
  have key : ∀ k : Nat, (List.map (fun _ => m) (List.range k)).sum = k * m := fun k => by
    induction k with
    | zero => simp
    | succ k ih => rw [List.range_succ, List.map_append, List.sum_append, ih, Nat.succ_mul]; simp
  simpa using key n
theorem lp_few {n L : Nat} (hn : n ≤ 16) (hL : L ≤ 8) {l : List Wk} (hd : l.Nodup) (hv : ∀ y ∈ l, lpV n L y) : l.length ≤ 4096 := by
  have h1 := nodup_sub_len hd (fun y hy => lpU_in (hv y hy))
  rw [lpU_length] at h1
  have h2 : 2 ^ L ≤ 2 ^ 8 := Nat.pow_le_pow_right (by decide) hL
  have h3 : n * 2 ^ L ≤ 16 * 2 ^ 8 := Nat.mul_le_mul hn h2
  omega
theorem lp_ends {L : Int} {N : List (List Int)} (hN : Rows' L N) {s : Nat} (hs : s < N.length) :
    ∃ r, eRun L.toNat (lpN N) (N.length * 2 ^ L.toNat + 1) 0 [(s, 0)] [] = some r := by
  have hst := exp_start (L := L.toNat) (nxt := lpN N) (V := lpV N.length L.toNat) (x := (s, 0)) ⟨hs, Nat.pow_pos (by decide)⟩
  exact eRun_ends (lpN_V hN) (u := lpU N.length (2 ^ L.toNat)) (fun x hx => lpU_in hx) _ 0 [(s, 0)] [] hst (by rw [lpU_length]; omega)
/-- Which masks have been met at the state. -/
def outL (m s : Nat) (l : List Wk) : List Bool := (List.range m).map fun d => decide ((s, d) ∈ l.tail)
theorem Zc3 (m s : Nat) (l : List Wk) : (outL m s l).length = m := by simp [outL]
theorem outL_other {m s : Nat} {l : List Wk} (hl : l ≠ []) {y : Wk} (hy : y.1 ≠ s) : outL m s (l ++ [y]) = outL m s l := by
  unfold outL
  refine List.map_congr_left fun d _ => ?_
  rw [List.tail_append_of_ne_nil hl]
  refine decide_eq_decide.2 ⟨fun h => ?_, fun h => List.mem_append_left _ h⟩
  rcases List.mem_append.1 h with h | h
  · exact h
  · exact absurd (congrArg Prod.fst (List.mem_singleton.1 h)).symm hy
theorem outL_new {m s : Nat} {l : List Wk} (hl : l ≠ []) {d : Nat} : outL m s (l ++ [(s, d)]) = (outL m s l).set d true := by
  refine List.ext_getElem (by simp [outL]) fun i h1 h2 => ?_
  rw [List.getElem_set]
  simp only [outL, List.getElem_map, List.getElem_range, List.tail_append_of_ne_nil hl]
  by_cases e : d = i
  · subst e; simp
  · rw [if_neg e]
    refine decide_eq_decide.2 ⟨fun h => ?_, fun h => List.mem_append_left _ h⟩
    rcases List.mem_append.1 h with h | h
    · exact h
    · exact absurd (congrArg Prod.snd (List.mem_singleton.1 h)).symm e
theorem outL_met {m s d : Nat} {l : List Wk} (h : (s, d) ∈ l.tail) : (outL m s l).set d true = outL m s l := by
  refine List.ext_getElem (by simp) fun i h1 h2 => ?_
  rw [List.getElem_set]
  by_cases e : d = i
  · subst e
    rw [if_pos rfl]
    simp [outL, h]
  · rw [if_neg e]
theorem outL_start (m s : Nat) : outL m s [(s, 0)] = List.replicate m false := by
  refine List.ext_getElem (by simp [outL]) fun i h1 h2 => ?_
  simp [outL]
theorem outL_at {m s d : Nat} {l : List Wk} (h : d < m) : rdOf false (outL m s l) (d : Int) = decide ((s, d) ∈ l.tail) := by
  rw [Zc0 (by rw [Zc3]; exact h)]
  simp [outL]
/-- One letter: what it does to the list. -/
theorem lp_step {N : List (List Int)} {x : Wk} {l : List Wk} {row : List Int} {a : Nat} (h0 : ∃ s, l.head? = some (s, 0)) :
    (lpN N x a = none ∧ (eStep (lpN N) x (l, row) a).1 = l) ∨ (∃ y, lpN N x a = some y ∧ y ∈ l.tail ∧ (eStep (lpN N) x (l, row) a).1 = l) ∨ (∃ y, lpN N x a = some y ∧ y ∉ l.tail ∧ (eStep (lpN N) x (l, row) a).1 = l ++ [y]) := by
  unfold eStep
  cases e : lpN N x a with
  | none => exact .inl ⟨rfl, rfl⟩
  | some y =>
    obtain ⟨s, h0⟩ := h0
    have hp := lpN_pos e
    obtain ⟨l', rfl⟩ : ∃ l', l = (s, 0) :: l' := by
      cases l with
      | nil => simp at h0
      | cons z t => exact ⟨t, by rw [Option.some.inj h0]⟩
    dsimp only
    cases f : List.findIdx? (fun z => decide (z = y)) ((s, 0) :: l') with
    | some k =>
      refine .inr (.inl ⟨y, rfl, ?_, rfl⟩)
      have hm := List.mem_of_getElem? (find_some f)
      rcases List.mem_cons.1 hm with h | h
      · exact absurd (by rw [h]) hp
      · exact h
    | none => exact .inr (.inr ⟨y, rfl, fun h => find_none f (List.mem_cons_of_mem _ h), rfl⟩)
theorem lp_fold {L : Int} {N : List (List Int)} (hN : Rows' L N) {x : Wk} (hx : lpV N.length L.toNat x) (a : Nat) (ha : a ≤ L.toNat) {l : List Wk} (hn : l.Nodup) (hv : ∀ y ∈ l, lpV N.length L.toNat y) :
    ∃ ext, ((List.range a).foldl (eStep (lpN N) x) (l, [])).1 = l ++ ext ∧ (l ++ ext).Nodup ∧ ∀ y ∈ l ++ ext, lpV N.length L.toNat y := by
  obtain ⟨ext, row, h1, h2, _, h4, h5⟩ := eFold_ent (nxt := lpN N) x a l hn
  rw [h1]
  refine ⟨ext, rfl, h4, fun y hy => ?_⟩
  rcases List.mem_append.1 hy with hy | hy
  · exact hv y hy
  · obtain ⟨b, hb, e⟩ := h5 y hy
    exact lpN_V hN x b y hx (by omega) e
/-- The map of the walks that have been met. -/
def mapB (t : List Wk) : List ((Int × Int) × Bool) := t.map fun x => (((x.1 : Int), (x.2 : Int)), true)
theorem mfind_mapB (x : Wk) : ∀ (t : List Wk) (j : Nat), mfind (mapB t) ((x.1 : Int), (x.2 : Int)) j = (t.findIdx? (fun y => decide (y = x))).map fun q => (j + q, true)
  | [], j => rfl
  | y :: ks, j => by
    have e : mapB (y :: ks) = (((y.1 : Int), (y.2 : Int)), true) :: mapB ks := rfl
    rw [e, mfind, List.findIdx?_cons]
    by_cases h : y = x
    · rw [if_pos (by rw [h]), decide_eq_true h]
      simp
    · rw [if_neg (fun hh => h (by have h1 := (Prod.mk.inj hh).1; have h2 := (Prod.mk.inj hh).2; exact Prod.ext (by omega) (by omega))), decide_eq_false h, mfind_mapB x ks (j + 1)]
      simp only [Bool.false_eq_true, if_false, Option.map_map]
      refine congrArg (fun f => Option.map f _) (funext fun q => ?_)
      show (j + 1 + q, true) = (j + (q + 1), true)
      rw [show j + 1 + q = j + (q + 1) from by omega]
theorem mget_mapB (t : List Wk) (x : Wk) : mget false (mapB t) ((x.1 : Int), (x.2 : Int)) = decide (x ∈ t) := by
  unfold mget
  rw [mfind_mapB]
  cases h : t.findIdx? (fun y => decide (y = x)) with
  | none => rw [decide_eq_false (find_none h)]; rfl
  | some k => rw [decide_eq_true (List.mem_of_getElem? (find_some h))]; rfl
theorem mset_mapB {t : List Wk} {x : Wk} (h : x ∉ t) : mset (mapB t) ((x.1 : Int), (x.2 : Int)) true = mapB (t ++ [x]) := by
  unfold mset
  rw [mfind_mapB]
  cases e : t.findIdx? (fun y => decide (y = x)) with
  | none => simp [mapB]
  | some k => exact absurd (List.mem_of_getElem? (find_some e)) h
end Go.Proofs.YtlmicipfikammaaDoor.U
end
section
namespace Go.Proofs.YtlmicipfikammaaDoor.U
open Go.RowKit Go.Proofs.YtlmicipfikammaaDoor.P Go.Proofs.YtlmicipfikammaaDoorW.PrintWords Go.Proofs.YtlmicipfikammaaDoorW.PrintLast Go.Proofs.YtlmicipfikammaaDoorW.PrintMore
set_option linter.unusedVariables false
/-! Alphabets: both tests answer alike. -/
def inI (a lo hi : Int) : Bool := decide (lo ≤ a) && decide (a ≤ hi)
theorem inI_iff {a lo hi : Int} : inI a lo hi = true ↔ lo ≤ a ∧ a ≤ hi := by unfold inI; simp
theorem spInI (a lo hi : Int) : Zap.f a lo hi = some (inI a lo hi) := by
  unfold Zap.f inI
  by_cases h : lo ≤ a
  · rw [if_pos h, decide_eq_true h, Bool.true_and]
  · rw [if_neg h, decide_eq_false h, Bool.false_and]
theorem imInI (a lo hi : Int) : Zbn.f a lo hi = some (inI a lo hi) := by
  unfold Zbn.f inI
  by_cases h : lo ≤ a
  · rw [if_pos h, decide_eq_true h, Bool.true_and]
  · rw [if_neg h, decide_eq_false h, Bool.false_and]
theorem u64i {n : Nat} (h : n < 18446744073709551616) : IntKind.u64.wrap (n : Int) = (n : Int) := by
  show (n : Int) % 18446744073709551616 = n
  omega
theorem spOneI {i : Nat} (h : i < 63) : Zba.f (i : Int) = some ((2 ^ i : Nat) : Int) := by
  unfold Zba.f
  rw [u64i (by omega), if_pos (by omega), shl1 h]
theorem imOneI {i : Nat} (h : i < 63) : Zb5.f (i : Int) = some ((2 ^ i : Nat) : Int) := by
  unfold Zb5.f
  rw [if_pos (by omega), shl1 h]
theorem fullW {n : Nat} (h : n < 63) : wrap64 (((2 ^ n : Nat) : Int) - 1) = ((2 ^ n - 1 : Nat) : Int) := by
  have h1 := Nat.pow_lt_pow_right (a := 2) (by decide) h
  have h2 : 0 < 2 ^ n := Nat.pow_pos (by decide)
  generalize 2 ^ n = p at h1 h2
  have h3 : (2 : Nat) ^ 63 = 9223372036854775808 := by decide
  rw [h3] at h1
  rw [w64 (by omega) (by omega)]
  omega
theorem spFullI {n : Nat} (h : n < 63) : Zbt.f (n : Int) = some ((2 ^ n - 1 : Nat) : Int) := by
  unfold Zbt.f
  rw [spOneI h]
  simp only [Option.bind_some]
  rw [fullW h]
theorem spBitI {m s : Nat} (hm : m < 2 ^ 63) (hs : s ≤ 64) : Zaq.f (m : Int) (s : Int) = some (m.testBit s) := by
  unfold Zaq.f
  rw [u64i (by omega), if_pos (by omega), hasN hm hs]
theorem imHasI {m s : Nat} (hm : m < 2 ^ 63) (hs : s ≤ 64) : Zcz.f (m : Int) (s : Int) = some (m.testBit s) := by
  unfold Zcz.f
  rw [if_pos (by omega), hasN hm hs]
/-- Does row a of a relation have b? -/
def bt (d : List Int) (a b : Nat) : Bool := (d.getD a 0).toNat.testBit b
def okRow (d : List Int) (a : Nat) : Prop := bt d a a = true ∧ ∀ b, b < d.length → bt d a b = bt d b a
instance (d : List Int) (a : Nat) : Decidable (okRow d a) := by unfold okRow; exact inferInstance
def symB (d : List Int) : Bool := decide (∀ a, a < d.length → okRow d a)
/-- Is it an alphabet? -/
def alB (n : Int) (d : List Int) : Bool := inI n 0 8 && (decide ((d.length : Int) = n) && ((d.all fun t => inI t 0 ((2 ^ d.length - 1 : Nat) : Int)) && symB d))
theorem symB_no {d : List Int} {a : Nat} (ha : a < d.length) (h : ¬ okRow d a) : symB d = false := decide_eq_false fun hh => h (hh a ha)
theorem masks_ev (d : List Int) (hn : d.length ≤ 8) : Ev (fun k => Zbo.f k (d.length : Int) d) (d.all fun t => inI t 0 ((2 ^ d.length - 1 : Nat) : Int)) := by
  have key := Ev.up (fun k (_ : Unit) i => Zbo.l0 k (d.length : Int) d i) d.length (fun i _ => (d.drop i).all fun t => inI t 0 ((2 ^ d.length - 1 : Nat) : Int)) (fun _ _ => True)
    (fun _ _ => by
      refine Ev.round ?_
      simp only [Zbo.l0]
      refine Ev.no (by omega) ?_
      rw [List.drop_length]
      exact Ev.now _)
    (fun i _ hi _ ih => by
      refine Ev.round ?_
      simp only [Zbo.l0]
      refine Ev.yes (by omega) (Ev.yes (by omega) (Ev.here (spFullI (by omega)) (Ev.here (spInI _ _ _) ?_)))
      rw [rd_lt hi, w64s (by omega), List.drop_eq_getElem_cons hi, List.all_cons]
      cases inI d[i] 0 ((2 ^ d.length - 1 : Nat) : Int)
      · exact Ev.no (by simp) (Ev.now _)
      · exact Ev.yes rfl (ih () trivial))
  have := key 0 () (by omega) trivial
  unfold Zbo.f
  simpa using this
/-- The rows are sets of letters. -/
def Sets (d : List Int) : Prop := d.length ≤ 8 ∧ ∀ a, a < d.length → 0 ≤ d.getD a 0 ∧ (d.getD a 0).toNat < 2 ^ d.length
theorem Sets.small {d : List Int} (h : Sets d) {a : Nat} (ha : a < d.length) : (d.getD a 0).toNat < 256 :=
  Nat.lt_of_lt_of_le (h.2 a ha).2 (show 2 ^ d.length ≤ 2 ^ 8 from Nat.pow_le_pow_right (by decide) h.1)
theorem Sets.rdE {d : List Int} (h : Sets d) {a : Nat} (ha : a < d.length) : rd d (a : Int) = ((d.getD a 0).toNat : Int) := by
  rw [rdn]; exact (Int.toNat_of_nonneg (h.2 a ha).1).symm
theorem sets_of {d : List Int} (hn : d.length ≤ 8) (h : (d.all fun t => inI t 0 ((2 ^ d.length - 1 : Nat) : Int)) = true) : Sets d := by
  refine ⟨hn, fun a ha => ?_⟩
  have := List.all_eq_true.1 h _ (List.getElem_mem ha)
  rw [inI_iff] at this
  rw [List.getD_eq_getElem?_getD, List.getElem?_eq_getElem ha]
  simp only [Option.getD_some]
  have h2 : 0 < 2 ^ d.length := Nat.pow_pos (by decide)
  generalize 2 ^ d.length = p at this h2
  omega
theorem spBitR {d : List Int} (h : Sets d) {a b : Nat} (ha : a < d.length) (hb : b ≤ 64) : Zaq.f (rd d (a : Int)) (b : Int) = some (bt d a b) := by
  rw [h.rdE ha, spBitI (Nat.lt_of_lt_of_le (h.small ha) (by decide)) hb]
  rfl
theorem l02Loop (d : List Int) (h : Sets d) : Ev (fun k => Za8.l0 k 0 (d.length : Int) d) (symB d) := by
  have hn := h.1
  have key := Ev.up (fun k (_ : Unit) i => Za8.l0 k i (d.length : Int) d) d.length (fun _ _ => symB d) (fun i _ => ∀ a, a < i → okRow d a)
    (fun _ hI => by
      refine Ev.round ?_
      simp only [Za8.l0]
      refine Ev.no (by omega) ?_
      rw [show symB d = true from decide_eq_true hI]
      exact Ev.now _)
    (fun i _ hi hI ih => by
      refine Ev.round ?_
      simp only [Za8.l0]
      refine Ev.yes (by omega) (Ev.yes (by omega) (Ev.yes (by omega) (Ev.here (spBitR h hi (by omega)) ?_)))
      cases hb : bt d i i
      · refine Ev.no (by simp) ?_
        rw [symB_no hi (fun hh => by rw [hh.1] at hb; cases hb)]
        exact Ev.now _
      refine Ev.yes rfl ?_
      have inner := Ev.up (fun k (_ : Unit) j => Za8.l1 k (i : Int) j (d.length : Int) d) d.length (fun _ _ => symB d) (fun j _ => ∀ b, b < j → bt d i b = bt d b i)
        (fun _ hJ => by
          refine Ev.round ?_
          simp only [Za8.l1]
          refine Ev.no (by omega) ?_
          rw [w64s (by omega)]
          refine ih () fun a ha => ?_
          by_cases e : a = i
          · subst e; exact ⟨hb, hJ⟩
          · exact hI a (by omega))
        (fun j _ hj hJ ihj => by
          refine Ev.round ?_
          simp only [Za8.l1]
          refine Ev.yes (by omega) (Ev.yes (by omega) (Ev.yes (by omega) (Ev.here (spBitR h hi (by omega)) (Ev.yes (by omega) (Ev.yes (by omega) (Ev.here (spBitR h hj (by omega)) ?_))))))
          rw [w64s (by omega)]
          by_cases e : bt d i j = bt d j i
          · refine Ev.no (by simp [e]) (ihj () fun b hb' => ?_)
            by_cases e' : b = j
            · subst e'; exact e
            · exact hJ b (by omega)
          · refine Ev.yes (by simp [e]) ?_
            rw [symB_no hi (fun hh => e (hh.2 j hj))]
            exact Ev.now _)
      have := inner 0 () (by omega) (fun b hb => absurd hb (by omega))
      simpa using this)
  have := key 0 () (by omega) (fun b hb => absurd hb (by omega))
  simpa using this
theorem l02Is_ev (n : Int) (d : List Int) : Ev (fun k => Za8.f k n d) (alB n d) := by
  unfold Za8.f alB
  have hno : Ev (fun k => Za8.j0 k true n d) false := Ev.round (by simp only [Za8.j0]; exact Ev.yes (by trivial) (Ev.now _))
  refine Ev.here (spInI _ _ _) ?_
  cases h1 : inI n 0 8
  · exact Ev.no (by simp) hno
  rw [inI_iff] at h1
  refine Ev.yes rfl ?_
  by_cases h2 : (d.length : Int) = n
  · subst h2
    refine Ev.yes rfl (Ev.bind (masks_ev d (by omega)) (Ev.round ?_))
    simp only [Za8.j0]
    rw [decide_true]
    cases h3 : d.all fun t => inI t 0 ((2 ^ d.length - 1 : Nat) : Int)
    · exact Ev.yes rfl (Ev.now _)
    · exact Ev.no (by simp) (l02Loop d (sets_of (by omega) h3))
  · refine Ev.no h2 ?_
    rw [decide_eq_false h2]
    exact hno
/-- The members of a small set. -/
def memN (m : Nat) : List Nat := (List.range 8).filter (m.testBit ·)
theorem mem_step : ∀ m : Fin 256, m.val ≠ 0 → (Zc1.f (m.val : Int) = some ((Lib.ctz 64 m.val : Nat) : Int) ∧ Go.bits .and .i64 (m.val : Int) (wrap64 ((m.val : Int) - 1)) = ((m.val &&& (m.val - 1) : Nat) : Int)
    ∧ m.val &&& (m.val - 1) < m.val ∧ memN m.val = Lib.ctz 64 m.val :: memN (m.val &&& (m.val - 1))) := by decide +kernel
theorem members_loop (m : Nat) (hm : m < 256) : ∀ acc : List Int, acc.length + m < 17592186044416 → Ev (fun k => Zbv.l0 k (m : Int) acc) (acc ++ (memN m).map Int.ofNat) := by
  induction m using Nat.strongRecOn with
  | _ m ih =>
    intro acc ha
    refine Ev.round ?_
    simp only [Zbv.l0]
    by_cases h0 : m = 0
    · subst h0
      refine Ev.yes rfl ?_
      rw [show memN 0 = [] from by decide, List.map_nil, List.append_nil]
      exact Ev.now _
    · obtain ⟨h1, h2, h3, h4⟩ := mem_step ⟨m, hm⟩ h0
      simp only at h1 h2 h3 h4
      refine Ev.no (by omega) (Ev.here h1 (Ev.yes (by omega) ?_))
      rw [h2, h4, List.map_cons]
      have := ih _ h3 (by omega) (acc ++ [((Lib.ctz 64 m : Nat) : Int)]) (by rw [List.length_append, List.length_singleton]; omega)
      rw [List.append_assoc] at this
      exact this
theorem members_ev {m : Nat} (hm : m < 256) : Ev (fun k => Zbv.f k (m : Int)) ((memN m).map Int.ofNat) := by
  unfold Zbv.f
  have := members_loop m hm [] (by have : ([] : List Int).length = 0 := rfl; omega)
  simpa using this
theorem mem_memN {m k : Nat} (hm : m < 256) : k ∈ memN m ↔ m.testBit k = true := by
  unfold memN
  rw [List.mem_filter, List.mem_range]
  refine ⟨fun h => h.2, fun h => ⟨?_, h⟩⟩
  rcases Nat.lt_or_ge k 8 with h8 | h8
  · exact h8
  · rw [Nat.testBit_lt_two_pow (Nat.lt_of_lt_of_le hm (show 2 ^ 8 ≤ 2 ^ k from Nat.pow_le_pow_right (by decide) h8))] at h
    cases h
/-- The converse's row k from the first i rows. -/
def cvN (d : List Int) (i k : Nat) : Nat := orN (fun j => bt d j k) i 0
theorem cvN_lt (d : List Int) {i k : Nat} (hi : i ≤ 8) : cvN d i k < 256 := orN_lt _ i 0 8 hi (by decide)
def cvTo (d : List Int) (i : Nat) : List Int := (List.range d.length).map fun k => ((cvN d i k : Nat) : Int)
theorem converse_ev (d : List Int) (h : Sets d) : Ev (fun k => Za1.f k d) (cvTo d d.length) := by
  have hn := h.1
  have key := Ev.up (fun k (s : List Int) i => Za1.l0 k s d (d.length : Int) i) d.length (fun _ _ => cvTo d d.length) (fun i s => s = cvTo d i)
    (fun s hs => by
      refine Ev.round ?_
      simp only [Za1.l0]
      refine Ev.no (by omega) ?_
      rw [hs]
      exact Ev.now _)
    (fun i s hi hs ih => by
      refine Ev.round ?_
      simp only [Za1.l0]
      refine Ev.yes (by omega) (Ev.yes (by omega) (Ev.yes (by omega) ?_))
      rw [h.rdE hi]
      have hm := h.small hi
      refine Ev.bind (members_ev hm) ?_
      generalize hM : (d.getD i 0).toNat = m at hm
      have hbt : ∀ k, bt d i k = m.testBit k := fun k => by unfold bt; rw [hM]
      have hlt : ∀ k, k ∈ memN m → k < d.length := fun k hk => by
        rw [mem_memN hm] at hk
        rcases Nat.lt_or_ge k d.length with h8 | h8
        · exact h8
        · have := (h.2 i hi).2
          rw [hM] at this
          rw [Nat.testBit_lt_two_pow (Nat.lt_of_lt_of_le this (Nat.pow_le_pow_right (by decide) h8))] at hk
          cases hk
      have hlen : (memN m).length ≤ 8 := by unfold memN; exact Nat.le_trans (List.length_filter_le _ _) (by simp)
      have hgl : ((memN m).map Int.ofNat).length = (memN m).length := List.length_map _
      have inner := Ev.up (fun k (s : List Int) j => Za1.l1 k s (i : Int) d (d.length : Int) (i : Int) ((memN m).map Int.ofNat) (((memN m).map Int.ofNat).length : Int) j) (memN m).length (fun _ _ => cvTo d d.length)
        (fun j s => s = (List.range d.length).map fun k => ((cvN d i k ||| (if k ∈ (memN m).take j then 2 ^ i else 0) : Nat) : Int))
        (fun s hs => by
          refine Ev.round ?_
          simp only [Za1.l1]
          refine Ev.no (by omega) ?_
          rw [w64s (by omega)]
          refine ih _ ?_
          rw [hs, List.take_length]
          unfold cvTo
          refine List.map_congr_left fun k _ => ?_
          congr 1
          unfold cvN
          by_cases hk : k ∈ memN m
          · rw [if_pos hk, orN_yes (by show bt d i k = true; rw [hbt]; exact (mem_memN hm).1 hk)]
          · rw [if_neg hk, orN_no (by
              show bt d i k = false
              rw [hbt]
              cases hq : m.testBit k
              · rfl
              · exact absurd ((mem_memN hm).2 hq) hk), Nat.or_zero])
        (fun j s hj hs ihj => by
          refine Ev.round ?_
          simp only [Za1.l1]
          have hg : rd ((memN m).map Int.ofNat) (j : Int) = (((memN m)[j] : Nat) : Int) := by
            rw [rd_lt (by omega), List.getElem_map]; rfl
          rw [hg]
          have htl := hlt _ (List.getElem_mem hj)
          have htk : ∀ k, k ∈ (memN m).take (j + 1) ↔ k ∈ (memN m).take j ∨ k = (memN m)[j] := fun k => by
            rw [List.take_add_one, List.getElem?_eq_getElem hj, List.mem_append]
            simp
          generalize (memN m)[j] = t at htl htk
          have hsl : s.length = d.length := by rw [hs]; simp
          refine Ev.yes (by omega) (Ev.yes (by omega) (Ev.yes (by omega) (Ev.yes (by omega) (Ev.yes (by omega) (Ev.here (imOneI (by omega)) ?_)))))
          rw [w64s (by omega)]
          refine ihj _ ?_
          rw [Int.toNat_natCast, rd_lt (by omega : t < s.length)]
          have hx : (if t ∈ (memN m).take j then 2 ^ i else 0) < 2 ^ 8 := by
            split
            · exact Nat.pow_lt_pow_right (by decide) (by omega)
            · decide
          have hst : s[t]'(by omega) = ((cvN d i t ||| (if t ∈ (memN m).take j then 2 ^ i else 0) : Nat) : Int) := by simp only [hs, List.getElem_map, List.getElem_range]
          rw [hst, bor (Nat.lt_of_lt_of_le (Nat.or_lt_two_pow (cvN_lt d (by omega)) hx) (by decide)) (Nat.pow_lt_pow_right (by decide) (by omega)), hs]
          apply List.ext_getElem?
          intro k
          by_cases hk : k < d.length
          · by_cases e : k = t
            · subst e
              rw [List.getElem?_set_self (by simpa using hk)]
              simp only [List.getElem?_map, List.getElem?_range hk, Option.map_some]
              rw [if_pos ((htk k).2 (Or.inr rfl)), Nat.or_assoc]
              congr 3
              split
              · exact Nat.or_self _
              · exact Nat.zero_or _
            · rw [List.getElem?_set_ne (by omega)]
              simp only [List.getElem?_map, List.getElem?_range hk, Option.map_some]
              congr 4
              exact propext ((htk k).trans (or_iff_left e)).symm
          · rw [List.getElem?_eq_none (by simp; omega), List.getElem?_eq_none (by simp; omega)])
      have := inner 0 s (by omega) (by rw [hs]; unfold cvTo; refine List.map_congr_left fun k _ => ?_; simp)
      simpa using this)
  unfold Za1.f
  refine Ev.yes (by omega) (Ev.yes (by omega) ?_)
  have := key 0 (List.replicate d.length 0) (by omega) (by
    apply List.ext_getElem?
    intro k
    unfold cvTo
    by_cases hk : k < d.length
    · simp [hk, cvN, orN]
    · rw [List.getElem?_eq_none (by simp; omega), List.getElem?_eq_none (by simp; omega)])
  simpa using this
theorem cv_bit (d : List Int) (k j : Nat) : (cvN d d.length k).testBit j = (decide (j < d.length) && bt d j k) := by
  unfold cvN
  rw [testBit_orN]
  simp
theorem cv_row {d : List Int} (h : Sets d) {k : Nat} (hk : k < d.length) : (cvN d d.length k = (d.getD k 0).toNat ∧ (cvN d d.length k).testBit k = true) ↔ okRow d k := by
  have hb : ∀ b, ¬ b < d.length → bt d k b = false := fun b hb => by
    unfold bt
    exact Nat.testBit_lt_two_pow (Nat.lt_of_lt_of_le (h.2 k hk).2 (Nat.pow_le_pow_right (by decide) (by omega)))
  constructor
  · rintro ⟨h1, h2⟩
    have h3 : ∀ b, b < d.length → bt d b k = bt d k b := fun b hb => by
      have := cv_bit d k b
      rw [h1, decide_eq_true hb, Bool.true_and] at this
      exact this.symm
    refine ⟨?_, fun b hb => (h3 b hb).symm⟩
    rw [h1] at h2
    exact h2
  · rintro ⟨h1, h2⟩
    have e : cvN d d.length k = (d.getD k 0).toNat := by
      apply Nat.eq_of_testBit_eq
      intro j
      rw [cv_bit]
      by_cases hj : j < d.length
      · rw [decide_eq_true hj, Bool.true_and]
        exact (h2 j hj).symm
      · rw [decide_eq_false hj, Bool.false_and]
        exact (hb j hj).symm
    exact ⟨e, by rw [e]; exact h1⟩
theorem isAl_loop (d : List Int) (h : Sets d) : Ev (fun k => Zar.l0 k (cvTo d d.length) (d.length : Int) 0 (d.length : Int) d) (symB d) := by
  have hn := h.1
  have hcl : (cvTo d d.length).length = d.length := by simp [cvTo]
  have key := Ev.up (fun k (_ : Unit) i => Zar.l0 k (cvTo d d.length) (d.length : Int) i (d.length : Int) d) d.length (fun _ _ => symB d) (fun i _ => ∀ a, a < i → okRow d a)
    (fun _ hI => by
      refine Ev.round ?_
      simp only [Zar.l0]
      refine Ev.no (by omega) ?_
      rw [show symB d = true from decide_eq_true hI]
      exact Ev.now _)
    (fun i _ hi hI ih => by
      refine Ev.round ?_
      simp only [Zar.l0]
      have hg : rd (cvTo d d.length) (i : Int) = ((cvN d d.length i : Nat) : Int) := by
        rw [rd_lt (by omega)]; unfold cvTo; rw [List.getElem_map, List.getElem_range]
      have hl := cvN_lt d (k := i) hn
      refine Ev.yes (by omega) (Ev.yes (by omega) (Ev.yes (by omega) (Ev.yes (by omega) ?_)))
      rw [hg, h.rdE hi, w64s (by omega)]
      have hc := cv_row h hi
      by_cases e : cvN d d.length i = (d.getD i 0).toNat
      · refine Ev.yes (by rw [e]) (Ev.here (imHasI (by omega) (by omega)) ?_)
        cases hb : (cvN d d.length i).testBit i
        · refine Ev.no (by simp) ?_
          rw [symB_no hi (fun hh => by have := (hc.2 hh).2; rw [hb] at this; cases this)]
          exact Ev.now _
        · refine Ev.yes rfl (ih () fun a ha => ?_)
          by_cases e' : a = i
          · subst e'; exact hc.1 ⟨e, hb⟩
          · exact hI a (by omega)
      · refine Ev.no (by omega) ?_
        rw [symB_no hi (fun hh => e (hc.2 hh).1)]
        exact Ev.now _)
  have := key 0 () (by omega) (fun b hb => absurd hb (by omega))
  simpa using this
theorem isAl_ev (n : Int) (d : List Int) : Ev (fun k => Zar.f k n d) (alB n d) := by
  unfold Zar.f alB
  have hno : Ev (fun k => Zar.j0 k true n d) false := Ev.round (by simp only [Zar.j0]; exact Ev.yes (by trivial) (Ev.now _))
  refine Ev.here (imInI _ _ _) ?_
  cases h1 : inI n 0 8
  · exact Ev.no (by simp) hno
  rw [inI_iff] at h1
  refine Ev.yes rfl (Ev.here (show Zbi.f d = some (d.length : Int) from rfl) ?_)
  by_cases h2 : (d.length : Int) = n
  · subst h2
    refine Ev.yes rfl ?_
    have hr : Zcv.f d = some (d.all fun t => inI t 0 ((2 ^ d.length - 1 : Nat) : Int)) := by
      unfold Zcv.f
      rw [if_pos (by omega)]
      refine (congrArg (fun o => Option.bind o _) (show Zbi.f d = some (d.length : Int) from rfl)).trans ?_
      simp only [Option.bind_some]
      rw [imOneI (by omega)]
      simp only [Option.bind_some]
      rw [fullW (by omega)]
      rfl
    refine Ev.here hr (Ev.round ?_)
    simp only [Zar.j0]
    rw [decide_true]
    cases h3 : d.all fun t => inI t 0 ((2 ^ d.length - 1 : Nat) : Int)
    · exact Ev.yes rfl (Ev.now _)
    · refine Ev.no (by simp) (Ev.bind (converse_ev d (sets_of (by omega) h3)) ?_)
      have hcl : (cvTo d d.length).length = d.length := by simp [cvTo]
      rw [hcl]
      simpa using isAl_loop d (sets_of (by omega) h3)
  · refine Ev.no h2 ?_
    rw [decide_eq_false h2]
    exact hno
end Go.Proofs.YtlmicipfikammaaDoor.U
end
