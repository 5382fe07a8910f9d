import Derived.ChangeShapes
import Derived.Deep.Slices
import Derived.Lib.SmallJoins
import Derived.Test.YtjdkedmdeajmgaaDoorCFnExactNormalAutomaton7
import Derived.Test.YtjdkedmdeajmgaaDoorCFnExactNormalAutomaton17
section M0
namespace Go.Proofs.YtjdkedmdeajmgaaDoor.Op
open Go.RowKit Go.Proofs.YtjdkedmdeajmgaaDoorW.PrintWords Go.Proofs.YtjdkedmdeajmgaaDoorW.PrintLast Go.Proofs.YtjdkedmdeajmgaaDoorW.PrintMore
/-- What is read at type t lies in memory as kind d says. -/
def Opens {α : Type} (P : Program) (t : TypeId) (d : Kd α) (ok : α → Prop) : Prop :=
  ∀ (H : Type) (enc : TypeId × Value → H) (w : World) (base : Nat) (held : Bool) (fuel : Nat) (cs : List Value) (x : DataW H × List MemPlace),
    DataW.trod enc P w base (fun _ => true) held fuel t cs = some x → ∃ a, d.K w a cs ∧ ok a
theorem opens_int {P : Program} {t : TypeId} {k : IntKind} (ht : P.underlying t = some (.int k)) : Opens P t (Kd.int k) (fun n => (Lit.int k n).wf = true) := by
  intro H enc w base held fuel cs x h
  obtain ⟨n, rfl, _, hw⟩ := DataW.trod_int ht h
  exact ⟨n, rfl, hw⟩
theorem opens_slice {α : Type} {P : Program} {t e : TypeId} {d : Kd α} {ok : α → Prop} (ht : P.underlying t = some (.slice e)) (hc : P.cellsOf e = d.sz) (he : Opens P e d ok) :
    Opens P t (Kd.slice e d) (fun xs => xs.length ≤ maxLen ∧ ∀ x ∈ xs, ok x) := by
  intro H enc w base held fuel cs x h
  rcases DataW.trod_slice ht h with ⟨rfl, _⟩ | ⟨a, len, cap, elems, rest, n, _, rfl, _, hb, hl, hm, hlen, hel, _, _⟩
  · exact ⟨[], ⟨none, 0, rfl, Nat.le_refl _, rfl, by simp, fun h => absurd h (by simp)⟩, by simp, by simp⟩
  · have each : ∀ i, i < len → ∃ y : α × List Value, y.2.length = d.sz ∧ d.K w y.1 y.2 ∧ ok y.1 ∧ ∀ j u, y.2[j]? = some u → w.cell? (a.add (i * d.sz + j)) = some u := by
      intro i hi
      have h1 := hel i hi
      rw [List.getElem?_eq_getElem (by omega), Option.bind_eq_some_iff] at h1
      obtain ⟨cs', h2, h3⟩ := h1
      obtain ⟨y, hk, ho⟩ := he _ _ _ _ _ _ _ _ h3
      obtain ⟨_, h5, h6⟩ := World.cells?_some h2
      refine ⟨(y, cs'), h5.trans hc, hk, ho, fun j u hj => ?_⟩
      have hjl : j < P.cellsOf e := by rw [← h5]; exact (List.getElem?_eq_some_iff.1 hj).1
      have h7 := h6 j hjl
      rw [hj, hc] at h7
      rw [← Addr.add_add]
      exact h7
    have hy := fun i : Fin len => Classical.choose_spec (each i.1 i.2)
    generalize hY : (fun i : Fin len => Classical.choose (each i.1 i.2)) = y at hy
    have hy' : ∀ i : Fin len, (y i).2.length = d.sz ∧ d.K w (y i).1 (y i).2 ∧ ok (y i).1 ∧ ∀ j u, (y i).2[j]? = some u → w.cell? (a.add (i.1 * d.sz + j)) = some u := by
      intro i; rw [← hY]; exact hy i
    clear hy hY
    have hln : (List.ofFn fun i => (y i).1).length = len := by simp
    refine ⟨List.ofFn fun i => (y i).1, ⟨some a, cap, by rw [hln], by rw [hln]; exact hl, ?_⟩, by rw [hln]; omega, ?_⟩
    · refine ⟨rfl, by rw [hln]; unfold maxLen at hm; omega, fun _ => ⟨a, rfl, fun j p hj => ?_⟩⟩
      have hjl : j < len := by rw [← hln]; exact (List.getElem?_eq_some_iff.1 hj).1
      rw [List.getElem?_ofFn, dif_pos hjl, Option.some.injEq] at hj
      subst hj
      obtain ⟨q1, q2, _, q4⟩ := hy' ⟨j, hjl⟩
      exact ⟨(y ⟨j, hjl⟩).2, q1, q2, fun i u hi => q4 i u hi⟩
    · intro x hx
      rw [List.mem_ofFn] at hx
      obtain ⟨i, rfl⟩ := hx
      exact (hy' i).2.2.1
/-- An argument that is a slice. -/
theorem open_row {α : Type} {P : Program} {t e : TypeId} {d : Kd α} {ok : List α → Prop} {H : Type} {enc : TypeId × Value → H} {w : World} {base fuel : Nat} {held : Bool} {v : Value} {x : DataW H × List MemPlace}
    (h : DataW.trod enc P w base (fun _ => true) held fuel t [v] = some x) (hs : Opens P t (Kd.slice e d) ok) : ∃ A c xs, v = .slice A xs.length c ∧ xs.length ≤ c ∧ d.C w A xs.length xs ∧ ok xs := by
  obtain ⟨xs, ⟨A, c, hv, hl, hr⟩, ho⟩ := hs _ _ _ _ _ _ _ _ h
  exact ⟨A, c, xs, by simpa using hv, hl, hr, ho⟩
end Go.Proofs.YtjdkedmdeajmgaaDoor.Op
end M0
section M1
namespace Go.Proofs.YtjdkedmdeajmgaaDoor.U
open Go.RowKit Go.Proofs.YtjdkedmdeajmgaaDoorW.PrintWords Go.Proofs.YtjdkedmdeajmgaaDoorW.PrintLast
set_option linter.unusedVariables false
/-! Small laws of numbers and lists for the plain part: what a printed loop comes to. -/
theorem w64 {n : Int} (h0 : -9223372036854775808 ≤ n) (h1 : n ≤ 9223372036854775807) : wrap64 n = n := by unfold wrap64; omega
theorem w64s {n : Nat} (h : n < 9223372036854775807) : wrap64 ((n : Int) + 1) = ((n + 1 : Nat) : Int) := by unfold wrap64; omega
theorem rdn (l : List Int) (i : Nat) : rd l (i : Int) = l.getD i 0 := rfl
theorem rd_lt {l : List Int} {i : Nat} (h : i < l.length) : rd l (i : Int) = l[i] := by
  show l.getD i 0 = _; rw [List.getD_eq_getElem?_getD, List.getElem?_eq_getElem h]; rfl
theorem rdOf_lt {α : Type} {d : α} {l : List α} {i : Nat} (h : i < l.length) : rdOf d l (i : Int) = l[i] := by
  show l.getD i d = _; rw [List.getD_eq_getElem?_getD, List.getElem?_eq_getElem h]; rfl
/-- One round more, the loop's own equation still to be unfolded. -/
theorem Ev.round {α : Type} {g : Nat → Option α} {r : α} (h : Ev (fun k => g (k + 1)) r) : Ev g r := by
  obtain ⟨K, h⟩ := h
  refine ⟨K + 1, fun n hn => ?_⟩
  obtain ⟨m, rfl⟩ : ∃ m, n = m + 1 := ⟨n - 1, by omega⟩
  exact h m (by omega)
theorem Ev.here {α β : Type} {g : Option α} {f : Nat → α → Option β} {a : α} {r : β} (h : g = some a) (k : Ev (fun n => f n a) r) : Ev (fun n => g.bind (f n)) r := by
  subst h; exact k
theorem Ev.yes {α : Type} {c : Prop} [Decidable c] {A B : Nat → Option α} {r : α} (h : c) (k : Ev A r) : Ev (fun n => if c then A n else B n) r := Ev.congr (fun _ => if_pos h) k
theorem Ev.no {α : Type} {c : Prop} [Decidable c] {A B : Nat → Option α} {r : α} (h : ¬ c) (k : Ev B r) : Ev (fun n => if c then A n else B n) r := Ev.congr (fun _ => if_neg h) k
/-- An upward loop over an index: what it comes to from i on, if what one round does is known. -/
theorem Ev.up {σ ρ : Type} (L : Nat → σ → Int → Option ρ) (n : Nat) (R : Nat → σ → ρ) (I : Nat → σ → Prop)
    (hend : ∀ s, I n s → Ev (fun k => L k s (n : Int)) (R n s))
    (hstep : ∀ i s, i < n → I i s → (∀ s', I (i + 1) s' → Ev (fun k => L k s' ((i + 1 : Nat) : Int)) (R (i + 1) s')) → Ev (fun k => L k s (i : Int)) (R i s)) :
    ∀ i s, i ≤ n → I i s → Ev (fun k => L k s (i : Int)) (R i s) := by
  intro i s hi hI
  obtain ⟨d, hd⟩ : ∃ d, n - i = d := ⟨_, rfl⟩
  induction d generalizing i s with
  | zero =>
    have : i = n := by omega
    subst this
    exact hend s hI
  | succ d ih => exact hstep i s (by omega) hI (fun s' h' => ih (i + 1) s' (by omega) h' (by omega))
/-- The rounds come to something that Q says. -/
def EvP {α : Type} (g : Nat → Option α) (Q : α → Prop) : Prop := ∃ r, Ev g r ∧ Q r
theorem EvP.ret {α : Type} {Q : α → Prop} {r : α} (q : Q r) : EvP (fun _ => some r) Q := ⟨r, Ev.now r, q⟩
theorem EvP.mono {α : Type} {g : Nat → Option α} {Q Q' : α → Prop} (h : EvP g Q) (k : ∀ r, Q r → Q' r) : EvP g Q' := by
  obtain ⟨r, h, q⟩ := h; exact ⟨r, h, k r q⟩
theorem EvP.round {α : Type} {g : Nat → Option α} {Q : α → Prop} (h : EvP (fun k => g (k + 1)) Q) : EvP g Q := by
  obtain ⟨r, h, q⟩ := h; exact ⟨r, Ev.round h, q⟩
theorem EvP.yes {α : Type} {c : Prop} [Decidable c] {A B : Nat → Option α} {Q : α → Prop} (h : c) (k : EvP A Q) : EvP (fun n => if c then A n else B n) Q := by
  obtain ⟨r, k, q⟩ := k; exact ⟨r, Ev.yes h k, q⟩
theorem EvP.no {α : Type} {c : Prop} [Decidable c] {A B : Nat → Option α} {Q : α → Prop} (h : ¬ c) (k : EvP B Q) : EvP (fun n => if c then A n else B n) Q := by
  obtain ⟨r, k, q⟩ := k; exact ⟨r, Ev.no h k, q⟩
theorem EvP.here {α β : Type} {g : Option α} {f : Nat → α → Option β} {a : α} {Q : β → Prop} (h : g = some a) (k : EvP (fun n => f n a) Q) : EvP (fun n => g.bind (f n)) Q := by
  obtain ⟨r, k, q⟩ := k; exact ⟨r, Ev.here h k, q⟩
theorem EvP.bind {α β : Type} {g : Nat → Option α} {f : Nat → α → Option β} {a : α} {Q : β → Prop} (h : Ev g a) (k : EvP (fun n => f n a) Q) : EvP (fun n => (g n).bind (f n)) Q := by
  obtain ⟨r, k, q⟩ := k; exact ⟨r, Ev.bind h k, q⟩
theorem EvP.bindP {α β : Type} {g : Nat → Option α} {f : Nat → α → Option β} {R : α → Prop} {Q : β → Prop} (h : EvP g R) (k : ∀ a, R a → EvP (fun n => f n a) Q) : EvP (fun n => (g n).bind (f n)) Q := by
  obtain ⟨a, h, q⟩ := h; exact EvP.bind h (k a q)
theorem EvP.up {σ ρ : Type} (L : Nat → σ → Int → Option ρ) (Q : ρ → Prop) (n : Nat) (I : Nat → σ → Prop)
    (hend : ∀ s, I n s → EvP (fun k => L k s (n : Int)) Q)
    (hstep : ∀ i s, i < n → I i s → (∀ s', I (i + 1) s' → EvP (fun k => L k s' ((i + 1 : Nat) : Int)) Q) → EvP (fun k => L k s (i : Int)) Q) :
    ∀ i s, i ≤ n → I i s → EvP (fun k => L k s (i : Int)) Q := by
  intro i s hi hI
  obtain ⟨d, hd⟩ : ∃ d, n - i = d := ⟨_, rfl⟩
  induction d generalizing i s with
  | zero =>
    have : i = n := by omega
    subst this
    exact hend s hI
  | succ d ih => exact hstep i s (by omega) hI (fun s' h' => ih (i + 1) s' (by omega) h' (by omega))
theorem EvP.ex {α : Type} {g : Nat → Option α} {Q : α → Prop} (h : EvP g Q) : ∃ r, Q r ∧ Ev g r := by
  obtain ⟨r, h, q⟩ := h; exact ⟨r, q, h⟩
/-- How many are still false. -/
def Zby (l : List Bool) : Nat := l.count false
theorem falses_set {l : List Bool} {i : Nat} (hi : i < l.length) (h : l[i] = false) : Zby (l.set i true) + 1 = Zby l := by
  induction l generalizing i with
  | nil => simp at hi
  | cons b l ih =>
    cases i with
    | zero =>
      simp only [List.getElem_cons_zero] at h
      subst h
      simp [Zby]
    | succ i =>
      simp only [List.getElem_cons_succ] at h
      have := ih (by simpa using hi) h
      simp only [List.set_cons_succ, Zby, List.count_cons] at this ⊢
      omega
end Go.Proofs.YtjdkedmdeajmgaaDoor.U
end M1
section M2
namespace Go.Proofs.YtjdkedmdeajmgaaDoor.U
/-! Machines us functions, their languages, and the least machine of a language, numbered from its start. -/
theorem Zdk {α : Type} [DecidableEq α] : ∀ {l l' : List α}, l.Nodup → (∀ x ∈ l, x ∈ l') → l.length ≤ l'.length
  | [], l', _, _ => by simp
  | a :: t, l', hn, hs => by
    have hn' := List.nodup_cons.1 hn
    have h1 : a ∈ l' := hs a (by simp)
    have h2 : ∀ x ∈ t, x ∈ l'.erase a := fun x hx => (List.mem_erase_of_ne (fun e => hn'.1 (by rw [← e]; exact hx))).2 (hs x (by simp [hx]))
    have h3 := Zdk hn'.2 h2
    have h4 := List.length_erase_of_mem h1
    have h5 := List.length_pos_of_mem h1
    simp only [List.length_cons]
    omega
abbrev Lang := List Nat → Bool
/-- The words that a machine accepts from a state; letters are the numbers below L. -/
def accW (L : Nat) (nxt : Nat → Nat → Option Nat) (good : Nat → Bool) : Nat → Lang
  | s, [] => good s
  | s, a :: w => decide (a < L) && match nxt s a with
    | none => false
    | some t => accW L nxt good t w
def der (q : Lang) (a : Nat) : Lang := fun w => q (a :: w)
def emp (q : Lang) : Prop := ∀ w, q w = false
theorem der_none {L : Nat} {nxt : Nat → Nat → Option Nat} {good : Nat → Bool} {s a : Nat} (h : nxt s a = none) : emp (der (accW L nxt good s) a) := by
  intro w
  simp [der, accW, h]
theorem der_some {L : Nat} {nxt : Nat → Nat → Option Nat} {good : Nat → Bool} {s a t : Nat} (ha : a < L) (h : nxt s a = some t) : der (accW L nxt good s) a = accW L nxt good t := by
  funext w
  simp [der, accW, h, ha]
open Classical in
/-- Where a language stands in a list. -/
noncomputable def posOf (q : Lang) (l : List Lang) : Option Nat := l.findIdx? (fun x => decide (x = q))
open Classical in
noncomputable def cStep (q : Lang) (st : List Lang × List Int) (a : Nat) : List Lang × List Int :=
  if emp (der q a) then (st.1, st.2 ++ [-1])
  else match posOf (der q a) st.1 with
    | some k => (st.1, st.2 ++ [(k : Int)])
    | none => (st.1 ++ [der q a], st.2 ++ [(st.1.length : Int)])
noncomputable def cRow (L : Nat) (q : Lang) (qs : List Lang) : List Lang × List Int := (List.range L).foldl (cStep q) (qs, [])
noncomputable def cRun (L : Nat) : Nat → Nat → List Lang → List (List Int) → Option (List Lang × List (List Int))
  | 0, _, _, _ => none
  | f + 1, i, qs, rows => match qs[i]? with
    | some q => cRun L f (i + 1) (cRow L q qs).1 (rows ++ [(cRow L q qs).2])
    | none => some (qs, rows)
theorem cRun_mono (L : Nat) : ∀ f i qs rows r g, cRun L f i qs rows = some r → f ≤ g → cRun L g i qs rows = some r
  | 0, i, qs, rows, r, g, h, _ => by simp [cRun] at h
  | f + 1, i, qs, rows, r, g, h, hg => by
    obtain ⟨g, rfl⟩ : ∃ m, g = m + 1 := ⟨g - 1, by omega⟩
    unfold cRun at h ⊢
    cases e : qs[i]? with
    | none => rw [e] at h; exact h
    | some q =>
      rw [e] at h
      exact cRun_mono L f _ _ _ r g h (by omega)
/-- The least machine of a language: its states' languages, in the order in which they are found, and its rows. -/
def Zdj (L : Nat) (q : Lang) (r : List Lang × List (List Int)) : Prop := ∃ f, cRun L f 0 [q] [] = some r
theorem Zdj.unique {L : Nat} {q : Lang} {r r' : List Lang × List (List Int)} (h : Zdj L q r) (h' : Zdj L q r') : r = r' := by
  obtain ⟨f, h⟩ := h
  obtain ⟨f', h'⟩ := h'
  have h1 := cRun_mono L f _ _ _ _ (max f f') h (by omega)
  have h2 := cRun_mono L f' _ _ _ _ (max f f') h' (by omega)
  exact Option.some.inj (h1.symm.trans h2)
/-! The run of a machine's own states, numbered by classes. -/
section
variable (L : Nat) (nxt : Nat → Nat → Option Nat) (cls : Nat → Int)
def mStep (s : Nat) (st : List Nat × List Int) (a : Nat) : List Nat × List Int :=
  match nxt s a with
  | none => (st.1, st.2 ++ [-1])
  | some t => if cls t < 0 then (st.1, st.2 ++ [-1])
    else match st.1.findIdx? (fun x => decide (cls x = cls t)) with
      | some k => (st.1, st.2 ++ [(k : Int)])
      | none => (st.1 ++ [t], st.2 ++ [(st.1.length : Int)])
def mRow (s : Nat) (l : List Nat) : List Nat × List Int := (List.range L).foldl (mStep nxt cls s) (l, [])
def mRun : Nat → Nat → List Nat → List (List Int) → Option (List Nat × List (List Int))
  | 0, _, _, _ => none
  | f + 1, i, l, rows => match l[i]? with
    | some s => mRun f (i + 1) (mRow L nxt cls s l).1 (rows ++ [(mRow L nxt cls s l).2])
    | none => some (l, rows)
end
/-- The classes of states tell their languages apart. -/
structure ClsOK (L n : Nat) (nxt : Nat → Nat → Option Nat) (good : Nat → Bool) (V : Nat → Prop) (cls : Nat → Int) : Prop where
  lt : ∀ s, V s → s < n
  closed : ∀ s a t, V s → a < L → nxt s a = some t → V t
  dead : ∀ s, V s → (cls s < 0 ↔ emp (accW L nxt good s))
  same : ∀ s t, V s → V t → 0 ≤ cls s → 0 ≤ cls t → (cls s = cls t ↔ accW L nxt good s = accW L nxt good t)
section
variable {L n : Nat} {nxt : Nat → Nat → Option Nat} {good : Nat → Bool} {V : Nat → Prop} {cls : Nat → Int}
theorem findIdx_map {α β : Type} (f : α → β) (p : β → Bool) (p' : α → Bool) : ∀ l : List α, (∀ x ∈ l, p (f x) = p' x) → (l.map f).findIdx? p = l.findIdx? p'
  | [], _ => rfl
  | x :: l, h => by
    rw [List.map_cons, List.findIdx?_cons, List.findIdx?_cons, h x (by simp), findIdx_map f p p' l (fun y hy => h y (by simp [hy]))]
/-- The states so far: known, alive but the first one perhaps, apart. -/
structure LOK (V : Nat → Prop) (cls : Nat → Int) (l : List Nat) : Prop where
  v : ∀ x ∈ l, V x
  live : ∀ x ∈ l, 0 ≤ cls x
  apart : l.Pairwise (fun x y => cls x ≠ cls y)
theorem mStep_ok (H : ClsOK L n nxt good V cls) {s a : Nat} (hs : V s) (ha : a < L) {l : List Nat} (hl : LOK V cls l) (row : List Int) :
    LOK V cls (mStep nxt cls s (l, row) a).1 ∧ cStep (accW L nxt good s) (l.map (accW L nxt good), row) a = ((mStep nxt cls s (l, row) a).1.map (accW L nxt good), (mStep nxt cls s (l, row) a).2) := by
  unfold mStep cStep
  cases e : nxt s a with
  | none => rw [if_pos (der_none e)]; exact ⟨hl, rfl⟩
  | some t =>
    rw [der_some ha e]
    have ht := H.closed s a t hs ha e
    dsimp only
    by_cases hc : cls t < 0
    · rw [if_pos ((H.dead t ht).1 hc), if_pos hc]; exact ⟨hl, rfl⟩
    · rw [if_neg (fun hh => hc ((H.dead t ht).2 hh)), if_neg hc]
      have hf : posOf (accW L nxt good t) (l.map (accW L nxt good)) = l.findIdx? (fun x => decide (cls x = cls t)) := by
        unfold posOf
        refine findIdx_map _ _ _ l fun x hx => ?_
        rw [decide_eq_decide]
        exact (H.same x t (hl.v x hx) ht (hl.live x hx) (by omega)).symm
      rw [hf]
      cases e2 : l.findIdx? (fun x => decide (cls x = cls t)) with
      | some k => exact ⟨hl, rfl⟩
      | none =>
        rw [List.findIdx?_eq_none_iff] at e2
        refine ⟨⟨fun x hx => ?_, fun x hx => ?_, ?_⟩, by simp⟩
        · rcases List.mem_append.1 hx with hx | hx
          · exact hl.v x hx
          · rw [List.mem_singleton.1 hx]; exact ht
        · rcases List.mem_append.1 hx with hx | hx
          · exact hl.live x hx
          · rw [List.mem_singleton.1 hx]; omega
        · rw [List.pairwise_append]
          refine ⟨hl.apart, List.pairwise_singleton _ _, fun x hx y hy => ?_⟩
          rw [List.mem_singleton.1 hy]
          simpa using e2 x hx
theorem mFold_ok (H : ClsOK L n nxt good V cls) {s : Nat} (hs : V s) : ∀ (us : List Nat), (∀ a ∈ us, a < L) → ∀ (l : List Nat) (row : List Int), LOK V cls l →
    LOK V cls (us.foldl (mStep nxt cls s) (l, row)).1 ∧ us.foldl (cStep (accW L nxt good s)) (l.map (accW L nxt good), row) = ((us.foldl (mStep nxt cls s) (l, row)).1.map (accW L nxt good), (us.foldl (mStep nxt cls s) (l, row)).2)
  | [], _, l, row, hl => ⟨hl, rfl⟩
  | a :: us, ha, l, row, hl => by
    obtain ⟨h1, h2⟩ := mStep_ok H hs (ha a (by simp)) hl row
    rw [List.foldl_cons, List.foldl_cons, h2]
    exact mFold_ok H hs us (fun x hx => ha x (by simp [hx])) _ _ h1
theorem mRow_ok (H : ClsOK L n nxt good V cls) {s : Nat} (hs : V s) {l : List Nat} (hl : LOK V cls l) :
    LOK V cls (mRow L nxt cls s l).1 ∧ cRow L (accW L nxt good s) (l.map (accW L nxt good)) = ((mRow L nxt cls s l).1.map (accW L nxt good), (mRow L nxt cls s l).2) :=
  mFold_ok H hs (List.range L) (fun _ ha => List.mem_range.1 ha) l [] hl
theorem LOK.length_le (H : ClsOK L n nxt good V cls) {l : List Nat} (hl : LOK V cls l) : l.length ≤ n := by
  have h1 : l.Nodup := hl.apart.imp (fun h e => h (by rw [e]))
  have := Zdk (l' := List.range n) h1 (fun x hx => List.mem_range.2 (H.lt x (hl.v x hx)))
  simpa using this
theorem mRun_ok (H : ClsOK L n nxt good V cls) : ∀ (f i : Nat) (l : List Nat) (rows : List (List Int)), LOK V cls l → n < i + f → i ≤ n → ∃ l' rows', mRun L nxt cls f i l rows = some (l', rows') ∧ LOK V cls l' ∧ cRun L f i (l.map (accW L nxt good)) rows = some (l'.map (accW L nxt good), rows')
  | 0, i, l, rows, hl, hf, hi => by omega
  | f + 1, i, l, rows, hl, hf, hi => by
    unfold mRun cRun
    rw [List.getElem?_map]
    cases e : l[i]? with
    | none => exact ⟨l, rows, rfl, hl, rfl⟩
    | some s =>
      obtain ⟨h1, h2⟩ := mRow_ok H (hl.v s (List.mem_of_getElem? e)) hl
      have h3 := (List.getElem?_eq_some_iff.1 e).1
      have h4 := hl.length_le H
      simp only [Option.map_some]
      rw [h2]
      exact mRun_ok H f (i + 1) _ _ h1 (by omega) (by omega)
/-- The run from a living start comes to the least machine of the start's language. -/
theorem mRun_least (H : ClsOK L n nxt good V cls) {s : Nat} (hs : V s) (hc : 0 ≤ cls s) :
    ∃ l rows, mRun L nxt cls (n + 1) 0 [s] [] = some (l, rows) ∧ LOK V cls l ∧ Zdj L (accW L nxt good s) (l.map (accW L nxt good), rows) := by
  obtain ⟨l, rows, h1, h2, h3⟩ := mRun_ok H (n + 1) 0 [s] [] ⟨fun x hx => by rw [List.mem_singleton.1 hx]; exact hs, fun x hx => by rw [List.mem_singleton.1 hx]; exact hc, List.pairwise_singleton _ _⟩ (by omega) (by omega)
  exact ⟨l, rows, h1, h2, n + 1, h3⟩
end
/-- The least machine of no words. -/
theorem least_empty (L : Nat) {q : Lang} (h : emp q) : Zdj L q ([q], [List.replicate L (-1)]) := by
  have hrow : ∀ (us : List Nat) (row : List Int), us.foldl (cStep q) ([q], row) = ([q], row ++ List.replicate us.length (-1)) := by
    intro us
    induction us with
    | nil => intro row; simp
    | cons a us ih =>
      intro row
      have hst : cStep q ([q], row) a = ([q], row ++ [-1]) := by
        unfold cStep
        rw [if_pos (show emp (der q a) from fun w => h (a :: w))]
      rw [List.foldl_cons, hst]
      rw [ih (row ++ [-1])]
      simp [List.replicate_succ]
  refine ⟨2, ?_⟩
  have := hrow (List.range L) []
  simp only [List.nil_append, List.length_range] at this
  simp [cRun, cRow, this]
end Go.Proofs.YtjdkedmdeajmgaaDoor.U
end M2
section M3
namespace Go.Proofs.YtjdkedmdeajmgaaDoor.U
/-! What holds of every least machine. -/
/-- What stands in a row for a language: -1 for no word, or the language's number. -/
def Ent (qs : List Lang) (p : Lang) (t : Int) : Prop := (t = -1 ∧ emp p) ∨ ∃ k : Nat, t = k ∧ qs[k]? = some p ∧ ¬ emp p
theorem Ent.more {qs ext : List Lang} {p : Lang} {t : Int} (h : Ent qs p t) : Ent (qs ++ ext) p t := by
  rcases h with h | ⟨k, h1, h2, h3⟩
  · exact .inl h
  · exact .inr ⟨k, h1, by rw [List.getElem?_append_left (List.getElem?_eq_some_iff.1 h2).1]; exact h2, h3⟩
theorem Ent.bounds {qs : List Lang} {p : Lang} {t : Int} (h : Ent qs p t) : -1 ≤ t ∧ t < qs.length := by
  rcases h with h | ⟨k, h1, h2, _⟩
  · omega
  · have := (List.getElem?_eq_some_iff.1 h2).1; omega
theorem posOf_some {q : Lang} {l : List Lang} {k : Nat} (h : posOf q l = some k) : l[k]? = some q := by
  unfold posOf at h
  rw [List.findIdx?_eq_some_iff_getElem] at h
  obtain ⟨hk, h1, _⟩ := h
  have h2 : l[k] = q := by simpa using h1
  rw [List.getElem?_eq_getElem hk, h2]
theorem posOf_none {q : Lang} {l : List Lang} (h : posOf q l = none) : q ∉ l := by
  unfold posOf at h
  rw [List.findIdx?_eq_none_iff] at h
  intro hm
  have := h q hm
  simp at this
theorem cStep_ent (q : Lang) (qs : List Lang) (row : List Int) (a : Nat) (hn : qs.Nodup) : ∃ ext t, cStep q (qs, row) a = (qs ++ ext, row ++ [t]) ∧ Ent (qs ++ ext) (der q a) t ∧ (qs ++ ext).Nodup ∧ ∀ p ∈ ext, ¬ emp p := by
  unfold cStep
  by_cases he : emp (der q a)
  · rw [if_pos he]
    exact ⟨[], -1, by simp, .inl ⟨rfl, he⟩, by simpa using hn, by simp⟩
  · rw [if_neg he]
    cases e : posOf (der q a) qs with
    | some k => exact ⟨[], k, by simp, .inr ⟨k, rfl, by simpa using posOf_some e, he⟩, by simpa using hn, by simp⟩
    | none =>
      refine ⟨[der q a], (qs.length : Int), rfl, .inr ⟨qs.length, rfl, by simp, he⟩, ?_, fun p hp => by rw [List.mem_singleton.1 hp]; exact he⟩
      rw [List.nodup_append]
      refine ⟨hn, by simp, fun x hx y hy hxy => ?_⟩
      rw [List.mem_singleton.1 hy] at hxy
      exact posOf_none e (hxy ▸ hx)
theorem cFold_ent (q : Lang) : ∀ (n : Nat) (qs : List Lang), qs.Nodup → ∃ ext row, (List.range n).foldl (cStep q) (qs, []) = (qs ++ ext, row) ∧ row.length = n ∧ (∀ b, b < n → Ent (qs ++ ext) (der q b) (row.getD b 0)) ∧ (qs ++ ext).Nodup ∧ ∀ p ∈ ext, ¬ emp p
  | 0, qs, hn => ⟨[], [], by simp, rfl, fun b hb => absurd hb (by omega), by simpa using hn, by simp⟩
  | n + 1, qs, hn => by
    obtain ⟨ext, row, h1, h2, h3, h4, h5⟩ := cFold_ent q n qs hn
    obtain ⟨a, t, g1, g2, g3, g4⟩ := cStep_ent q (qs ++ ext) row n h4
    refine ⟨ext ++ a, row ++ [t], ?_, by simp [h2], fun b hb => ?_, by rw [← List.append_assoc]; exact g3, fun p hp => ?_⟩
    · rw [List.range_succ, List.foldl_append, h1]
      show cStep q (qs ++ ext, row) n = _
      rw [g1, List.append_assoc]
    · rw [← List.append_assoc]
      by_cases e : b = n
      · subst e
        have : (row ++ [t]).getD b 0 = t := by rw [List.getD_eq_getElem?_getD, List.getElem?_append_right (by omega), h2]; simp
        rw [this]; exact g2
      · have : (row ++ [t]).getD b 0 = row.getD b 0 := by rw [List.getD_eq_getElem?_getD, List.getElem?_append_left (by omega), List.getD_eq_getElem?_getD]
        rw [this]; exact (h3 b (by omega)).more
    · rcases List.mem_append.1 hp with hp | hp
      · exact h5 p hp
      · exact g4 p hp
structure LeastI (L : Nat) (q : Lang) (qs : List Lang) (rows : List (List Int)) : Prop where
  len : rows.length = qs.length
  wid : ∀ row ∈ rows, row.length = L
  ent : ∀ (j : Nat) (p : Lang) (row : List Int), qs[j]? = some p → rows[j]? = some row → ∀ b, b < L → Ent qs (der p b) (row.getD b 0)
  first : qs[0]? = some q
  nodup : qs.Nodup
  alive : ¬ emp q → ∀ p ∈ qs, ¬ emp p
theorem cRun_I {L : Nat} {q : Lang} : ∀ (f i : Nat) (qs : List Lang) (rows : List (List Int)) (r : List Lang × List (List Int)), cRun L f i qs rows = some r → i ≤ qs.length → rows.length = i → (∀ row ∈ rows, row.length = L) →
    (∀ (j : Nat) (p : Lang) (row : List Int), qs[j]? = some p → rows[j]? = some row → ∀ b, b < L → Ent qs (der p b) (row.getD b 0)) → qs[0]? = some q → qs.Nodup → (¬ emp q → ∀ p ∈ qs, ¬ emp p) → LeastI L q r.1 r.2
  | 0, i, qs, rows, r, h, _, _, _, _, _, _, _ => by simp [cRun] at h
  | f + 1, i, qs, rows, r, h, hi, hr, hw, he, hf, hn, hA => by
    unfold cRun at h
    cases e : qs[i]? with
    | none =>
      rw [e] at h
      have h := Option.some.inj h
      subst h
      have := List.getElem?_eq_none_iff.1 e
      exact ⟨by show rows.length = qs.length; omega, hw, he, hf, hn, hA⟩
    | some p =>
      rw [e] at h
      obtain ⟨ext, row, h1, h2, h3, h4, h5⟩ := cFold_ent p L qs hn
      have hc : cRow L p qs = (qs ++ ext, row) := h1
      replace h : cRun L f (i + 1) (cRow L p qs).1 (rows ++ [(cRow L p qs).2]) = some r := h
      rw [hc] at h
      have hlt := (List.getElem?_eq_some_iff.1 e).1
      refine cRun_I f (i + 1) _ _ r h (by simp; omega) (by simp [hr]) (fun x hx => ?_) (fun j p' row' hj hrow b hb => ?_) ?_ h4 (fun hq x hx => ?_)
      · rcases List.mem_append.1 hx with hx | hx
        · exact hw x hx
        · rw [List.mem_singleton.1 hx]; exact h2
      · by_cases hji : j < i
        · rw [List.getElem?_append_left (by omega)] at hrow
          rw [List.getElem?_append_left (by omega)] at hj
          exact (he j p' row' hj hrow b hb).more
        · have hl := (List.getElem?_eq_some_iff.1 hrow).1
          simp only [List.length_append, List.length_cons, List.length_nil] at hl
          have : j = i := by omega
          subst this
          rw [List.getElem?_append_right (by omega), hr] at hrow
          simp only [Nat.sub_self, List.getElem?_cons_zero, Option.some.injEq] at hrow
          rw [List.getElem?_append_left hlt, e] at hj
          have hj := Option.some.inj hj
          subst hj; subst hrow
          exact h3 b hb
      · rw [List.getElem?_append_left (by have := (List.getElem?_eq_some_iff.1 hf).1; omega)]; exact hf
      · rcases List.mem_append.1 hx with hx | hx
        · exact hA hq x hx
        · exact h5 x hx
theorem Zdj.facts {L : Nat} {q : Lang} {qs : List Lang} {rows : List (List Int)} (h : Zdj L q (qs, rows)) : LeastI L q qs rows := by
  obtain ⟨f, h⟩ := h
  exact cRun_I f 0 [q] [] _ h (by simp) rfl (by simp) (fun j p row _ hr => by simp at hr) rfl (by simp) (fun hq p hp => by rw [List.mem_singleton.1 hp]; exact hq)
end Go.Proofs.YtjdkedmdeajmgaaDoor.U
end M3
section M4
namespace Go.Proofs.YtjdkedmdeajmgaaDoor.U
open Go.RowKit Go.Proofs.YtjdkedmdeajmgaaDoor.P Go.Proofs.YtjdkedmdeajmgaaDoorW.PrintWords Go.Proofs.YtjdkedmdeajmgaaDoorW.PrintLast
set_option linter.unusedVariables false
/-! What the law's own helpers come to: copies, equality, sizes. -/
theorem toS (x0 : List Int) (hn : x0.length ≤ 35184372088832) : Ev (fun k => Zb0.f k x0) x0 := by
  have key := Ev.up (fun k s i => Zb0.l0 k x0 s i) x0.length (fun _ _ => x0) (fun i s => s.length = x0.length ∧ ∀ j, j < i → s[j]? = x0[j]?)
    (fun s ⟨h1, h2⟩ => by
      refine Ev.round ?_
      simp only [Zb0.l0]
      refine Ev.no (by omega) ?_
      have : s = x0 := List.ext_getElem? fun j => by
        by_cases hj : j < x0.length
        · exact h2 j hj
        · rw [List.getElem?_eq_none (by omega), List.getElem?_eq_none (by omega)]
      rw [this]
      exact Ev.now _)
    (fun i s hi ⟨h1, h2⟩ ih => by
      refine Ev.round ?_
      simp only [Zb0.l0]
      refine Ev.yes (by omega) (Ev.yes (by omega) (Ev.yes (by omega) ?_))
      rw [w64s (by omega)]
      refine ih _ ⟨by simp [h1], fun j hj => ?_⟩
      rw [Int.toNat_natCast, rd_lt hi]
      by_cases e : j = i
      · subst e
        rw [List.getElem?_set_self (by omega), List.getElem?_eq_getElem hi]
      · rw [List.getElem?_set_ne (by omega)]
        exact h2 j (by omega))
  unfold Zb0.f
  refine Ev.yes (by omega) (Ev.yes (by omega) ?_)
  have := key 0 (List.replicate x0.length 0) (by omega) ⟨by simp, fun j hj => absurd hj (by omega)⟩
  simpa using this
theorem eqS (a b : List Int) (hn : a.length ≤ 9223372036854775806) : Ev (fun k => Zbf.f k a b) (decide (a = b)) := by
  unfold Zbf.f
  by_cases hl : a.length = b.length
  · refine Ev.yes (by omega) ?_
    have key := Ev.up (fun k (_ : Unit) i => Zbf.l0 k a b i) a.length (fun _ _ => decide (a = b)) (fun i _ => ∀ j, j < i → a[j]? = b[j]?)
      (fun _ h2 => by
        refine Ev.round ?_
        simp only [Zbf.l0]
        refine Ev.no (by omega) ?_
        have : a = b := List.ext_getElem? fun j => by
          by_cases hj : j < a.length
          · exact h2 j hj
          · rw [List.getElem?_eq_none (by omega), List.getElem?_eq_none (by omega)]
        rw [decide_eq_true this]
        exact Ev.now _)
      (fun i _ hi h2 ih => by
        refine Ev.round ?_
        simp only [Zbf.l0]
        refine Ev.yes (by omega) (Ev.yes (by omega) (Ev.yes (by omega) ?_))
        rw [rd_lt hi, rd_lt (by omega : i < b.length), w64s (by omega)]
        by_cases e : a[i] = b[i]
        · refine Ev.yes e (ih () fun j hj => ?_)
          by_cases e' : j = i
          · subst e'
            rw [List.getElem?_eq_getElem hi, List.getElem?_eq_getElem (by omega), e]
          · exact h2 j (by omega)
        · refine Ev.no e ?_
          rw [decide_eq_false (fun h => e (by subst h; rfl))]
          exact Ev.now _)
    have := key 0 () (by omega) (fun j hj => absurd hj (by omega))
    simpa using this
  · refine Ev.no (by omega) ?_
    rw [decide_eq_false (fun h => hl (by rw [h]))]
    exact Ev.now _
theorem eqSS (a b : List (List Int)) (hn : a.length ≤ 9223372036854775806) (hr : ∀ x ∈ a, x.length ≤ 9223372036854775806) : Ev (fun k => Zbs.f k a b) (decide (a = b)) := by
  unfold Zbs.f
  by_cases hl : a.length = b.length
  · refine Ev.yes (by omega) ?_
    have key := Ev.up (fun k (_ : Unit) i => Zbs.l0 k a b i) a.length (fun _ _ => decide (a = b)) (fun i _ => ∀ j, j < i → a[j]? = b[j]?)
      (fun _ h2 => by
        refine Ev.round ?_
        simp only [Zbs.l0]
        refine Ev.no (by omega) ?_
        have : a = b := List.ext_getElem? fun j => by
          by_cases hj : j < a.length
          · exact h2 j hj
          · rw [List.getElem?_eq_none (by omega), List.getElem?_eq_none (by omega)]
        rw [decide_eq_true this]
        exact Ev.now _)
      (fun i _ hi h2 ih => by
        refine Ev.round ?_
        simp only [Zbs.l0]
        refine Ev.yes (by omega) (Ev.yes (by omega) (Ev.yes (by omega) ?_))
        have hg : Zam a (i : Int) = a[i] := rdOf_lt (d := []) hi
        have c : Zam b (i : Int) = b[i] := rdOf_lt (d := []) (by omega)
        rw [hg, c, w64s (by omega)]
        refine Ev.bind (eqS a[i] b[i] (hr _ (List.getElem_mem hi))) ?_
        by_cases e : a[i] = b[i]
        · rw [decide_eq_true e]
          refine Ev.yes rfl (ih () fun j hj => ?_)
          by_cases e' : j = i
          · subst e'
            rw [List.getElem?_eq_getElem hi, List.getElem?_eq_getElem (by omega), e]
          · exact h2 j (by omega)
        · rw [decide_eq_false e]
          refine Ev.no (by simp) ?_
          rw [decide_eq_false (fun h => e (by subst h; rfl))]
          exact Ev.now _)
    have := key 0 () (by omega) (fun j hj => absurd hj (by omega))
    simpa using this
  · refine Ev.no (by omega) ?_
    rw [decide_eq_false (fun h => hl (by rw [h]))]
    exact Ev.now _
/-- The size of a list of lists as the laws count it. -/
def sz2 (x : List (List Int)) : Nat := x.length + (x.map List.length).sum
theorem le_sum {l : List Nat} {a : Nat} (h : a ∈ l) : a ≤ l.sum := by
  induction l with
  | nil => cases h
  | cons b l ih =>
    rw [List.sum_cons]
    rcases List.mem_cons.1 h with rfl | h
    · omega
    · have := ih h; omega
theorem le_sz2 {x0 : List (List Int)} {x : List Int} (h : x ∈ x0) : x.length ≤ sz2 x0 := by
  unfold sz2
  have : x.length ∈ x0.map List.length := List.mem_map.2 ⟨x, h, rfl⟩
  have := le_sum this
  omega
end Go.Proofs.YtjdkedmdeajmgaaDoor.U
end M4
section M5
namespace Go.Proofs.YtjdkedmdeajmgaaDoor.U
open Go.RowKit Go.Proofs.YtjdkedmdeajmgaaDoor.P Go.Proofs.YtjdkedmdeajmgaaDoorW.PrintWords Go.Proofs.YtjdkedmdeajmgaaDoorW.PrintLast
set_option linter.unusedVariables false
/-! The reference's test of an automaton. -/
theorem u64w {n : Int} (h0 : 0 ≤ n) (h1 : n < 18446744073709551616) : IntKind.u64.wrap n = n := by
  show n % 18446744073709551616 = n
  omega
theorem spOne {n : Int} (h0 : 0 ≤ n) (h1 : n < 18446744073709551616) : Zcd.f n = some (shl .i64 1 n) := by
  unfold Zcd.f
  rw [u64w h0 h1, if_pos h0]
theorem eqA (a b c : Int) (l : List (List Int)) (h : sz2 l ≤ 1048576) : Ev (fun k => Zbv.f k a b c l a b c l) true := by
  unfold Zbv.f
  refine Ev.yes rfl (Ev.yes rfl (Ev.yes rfl ?_))
  refine Ev.bind (eqSS l l (by unfold sz2 at h; omega) (fun x hx => by have := le_sz2 hx; omega)) ?_
  rw [decide_eq_true rfl]
  exact Ev.yes rfl (Ev.now _)
end Go.Proofs.YtjdkedmdeajmgaaDoor.U
end M5
section M6
namespace Go.Proofs.YtjdkedmdeajmgaaDoor.U
open Go.RowKit Go.Proofs.YtjdkedmdeajmgaaDoor.P Go.Proofs.YtjdkedmdeajmgaaDoorW.PrintWords Go.Proofs.YtjdkedmdeajmgaaDoorW.PrintLast
set_option linter.unusedVariables false
/-! Reading words in an automaton. -/
/-- The rows of a machine: each of as many places as there are letters, each place a state or -1. -/
def Rows' (L : Int) (N : List (List Int)) : Prop := ∀ row ∈ N, (row.length : Int) = L ∧ ∀ t ∈ row, -1 ≤ t ∧ t < N.length
/-- The state to which a letter leads, -1 for no state. -/
def nx (N : List (List Int)) (s a : Int) : Int := if s < 0 then -1 else rd (Zam N s) a
theorem nat_of {i : Int} {n : Nat} (h0 : 0 ≤ i) (h1 : i < n) : ∃ k : Nat, i = k ∧ k < n := ⟨i.toNat, by omega, by omega⟩
theorem row_at {L : Int} {N : List (List Int)} (hN : Rows' L N) {s : Int} (h0 : 0 ≤ s) (h1 : s < N.length) : ((Zam N s).length : Int) = L ∧ ∀ t ∈ Zam N s, -1 ≤ t ∧ t < N.length := by
  obtain ⟨k, rfl, hk⟩ := nat_of h0 h1
  have hg : Zam N (k : Int) = N[k] := rdOf_lt (d := []) hk
  rw [hg]
  exact hN _ (List.getElem_mem hk)
theorem rd_mem {l : List Int} {i : Int} (h0 : 0 ≤ i) (h1 : i < l.length) : rd l i ∈ l := by
  obtain ⟨k, rfl, hk⟩ := nat_of h0 h1
  rw [rd_lt hk]
  exact List.getElem_mem hk
theorem nx_in {L : Int} {N : List (List Int)} (hN : Rows' L N) {s a : Int} (h1 : s < N.length) (ha : 0 ≤ a) (hb : a < L) : -1 ≤ nx N s a ∧ nx N s a < N.length := by
  unfold nx
  by_cases h : s < 0
  · rw [if_pos h]; omega
  · rw [if_neg h]
    have hr := row_at hN (s := s) (by omega) h1
    exact hr.2 _ (rd_mem ha (by omega))
end Go.Proofs.YtjdkedmdeajmgaaDoor.U
end M6
section M7
namespace Go.Proofs.YtjdkedmdeajmgaaDoor.U
open Go.RowKit Go.Proofs.YtjdkedmdeajmgaaDoor.P Go.Proofs.YtjdkedmdeajmgaaDoorW.PrintWords Go.Proofs.YtjdkedmdeajmgaaDoorW.PrintLast
set_option linter.unusedVariables false
/-! Which states are reached, and which lead to a final one. -/
inductive Led (L : Int) (N : List (List Int)) (good : List Bool) : Int → Prop
  | base {s : Int} (h0 : 0 ≤ s) (h1 : s < N.length) (h : rdOf false good s = true) : Led L N good s
  | step {s a : Int} (h0 : 0 ≤ s) (h1 : s < N.length) (ha : 0 ≤ a) (hb : a < L) (hn : 0 ≤ nx N s a) (h : Led L N good (nx N s a)) : Led L N good s
inductive Rch (L : Int) (N : List (List Int)) (S : Int) : Int → Prop
  | start : Rch L N S S
  | step {s a : Int} (h : Rch L N S s) (ha : 0 ≤ a) (hb : a < L) (hn : 0 ≤ nx N s a) : Rch L N S (nx N s a)
theorem rdOf_set {l : List Bool} {i : Nat} {b : Bool} {j : Int} (hj : 0 ≤ j) : rdOf false (l.set i b) j = if j = i ∧ i < l.length then b else rdOf false l j := by
  obtain ⟨k, rfl⟩ := Int.eq_ofNat_of_zero_le hj
  show (l.set i b).getD k false = _
  rw [List.getD_eq_getElem?_getD, List.getElem?_set]
  by_cases h : i = k
  · subst h
    by_cases h2 : i < l.length
    · simp [h2]
    · rw [if_pos rfl, if_neg h2, if_neg (by simp; omega)]
      show false = l.getD i false
      rw [List.getD_eq_getElem?_getD, List.getElem?_eq_none (by omega)]
      rfl
  · rw [if_neg h, if_neg (by omega)]
    show _ = l.getD k false
    rw [List.getD_eq_getElem?_getD]
theorem Led.in {L : Int} {N : List (List Int)} {good : List Bool} {s : Int} (h : Led L N good s) : 0 ≤ s ∧ s < N.length := by
  cases h with
  | base a b _ => exact ⟨a, b⟩
  | step a b _ _ _ _ => exact ⟨a, b⟩
/-- What is marked while the marks spread back: sound, and all good ones. -/
structure LiveI (L : Int) (N : List (List Int)) (good live : List Bool) : Prop where
  len : live.length = N.length
  sound : ∀ s : Int, 0 ≤ s → s < N.length → rdOf false live s = true → Led L N good s
  base : ∀ s : Int, 0 ≤ s → s < N.length → rdOf false good s = true → rdOf false live s = true
/-- No mark is owed at the letter a of state s. -/
def paid (N : List (List Int)) (live : List Bool) (s a : Int) : Prop := 0 ≤ nx N s a → rdOf false live (nx N s a) = true → rdOf false live s = true
theorem live_full {L : Int} {N : List (List Int)} {good live : List Bool} (hN : Rows' L N) (I : LiveI L N good live) (h : ∀ s a : Int, 0 ≤ s → s < N.length → 0 ≤ a → a < L → paid N live s a) :
    ∀ s : Int, 0 ≤ s → s < N.length → (rdOf false live s = true ↔ Led L N good s) := by
  intro s h0 h1
  refine ⟨I.sound s h0 h1, fun hl => ?_⟩
  induction hl with
  | base a b c => exact I.base _ a b c
  | step a b c d e f ih =>
    have := nx_in hN b c d
    exact h _ _ a b c d e (ih e this.2)
theorem live_mark {L : Int} {N : List (List Int)} {good live : List Bool} (hN : Rows' L N) (I : LiveI L N good live) {s : Nat} {a : Int} (hs : s < N.length) (ha : 0 ≤ a) (hb : a < L) (h0 : 0 ≤ nx N s a) (hl : rdOf false live (nx N s a) = true) :
    LiveI L N good (live.set s true) := by
  have hx := nx_in hN (s := s) (by omega) ha hb
  refine ⟨by simp [I.len], fun t h2 h3 ht => ?_, fun t h2 h3 ht => ?_⟩
  · rw [rdOf_set h2] at ht
    by_cases e : t = (s : Int)
    · subst e
      exact .step h2 h3 ha hb h0 (I.sound _ h0 hx.2 hl)
    · rw [if_neg (by omega)] at ht
      exact I.sound t h2 h3 ht
  · rw [rdOf_set h2]
    split
    · rfl
    · exact I.base t h2 h3 ht
theorem l11Live_ev {L : Int} {N : List (List Int)} (good : List Bool) (hN : Rows' L N) (hn : N.length ≤ 1048576) (hg : good.length = N.length) (hL : 0 ≤ L) (g : L ≤ 1048576) :
    EvP (fun k => Zaz.f k L N good) (fun live => live.length = N.length ∧ ∀ s : Int, 0 ≤ s → s < N.length → (rdOf false live s = true ↔ Led L N good s)) := by
  have hrow : ∀ s : Nat, s < N.length → ((Zam N (s : Int)).length : Int) = L := fun s hs => (row_at hN (s := s) (by omega) (by omega)).1
  have hnx : ∀ s a : Nat, rd (Zam N (s : Int)) (a : Int) = nx N s a := fun s a => by unfold nx; rw [if_neg (by omega)]
  have main : ∀ m live, Zby live ≤ m → LiveI L N good live → EvP (fun k => Zaz.l0 k live true L N good) (fun live => live.length = N.length ∧ ∀ s : Int, 0 ≤ s → s < N.length → (rdOf false live s = true ↔ Led L N good s)) := by
    intro m
    induction m using Nat.strongRecOn with
    | _ m ihm =>
    intro c hm I0
    refine EvP.round ?_
    simp only [Zaz.l0]
    refine EvP.yes (by trivial) ?_
    -- a pass over the states
    have pass := EvP.up (fun k (st : List Bool × Bool) s => Zaz.l1 k st.1 st.2 s L N good) (fun live => live.length = N.length ∧ ∀ s : Int, 0 ≤ s → s < N.length → (rdOf false live s = true ↔ Led L N good s)) N.length
      (fun s st => LiveI L N good st.1 ∧ (Zby st.1 ≤ Zby c ∧ (st.2 = true → Zby st.1 < Zby c)) ∧ (st.2 = false → ∀ t a : Int, 0 ≤ t → t < (s : Int) → 0 ≤ a → a < L → paid N st.1 t a))
      (fun st ⟨h1, h2, h3⟩ => by
        refine EvP.round ?_
        simp only [Zaz.l1]
        refine EvP.no (by omega) ?_
        cases hb : st.2
        · refine EvP.round ?_
          simp only [Zaz.l0]
          refine EvP.no (by simp) (EvP.ret ⟨h1.len, live_full hN h1 (fun t a h4 h5 h6 h7 => h3 hb t a h4 h5 h6 h7)⟩)
        · have h4 := h2.2 hb
          exact ihm _ (by omega) st.1 (Nat.le_refl _) h1)
      (fun s st hs ⟨h1, h2, h3⟩ ih => by
        refine EvP.round ?_
        simp only [Zaz.l1]
        refine EvP.yes (by omega) ?_
        have letters := EvP.up (fun k (st : List Bool × Bool) a => Zaz.l2 k st.1 st.2 (s : Int) a L N good) (fun live => live.length = N.length ∧ ∀ s : Int, 0 ≤ s → s < N.length → (rdOf false live s = true ↔ Led L N good s)) L.toNat
          (fun b st => LiveI L N good st.1 ∧ (Zby st.1 ≤ Zby c ∧ (st.2 = true → Zby st.1 < Zby c)) ∧ (st.2 = false → (∀ t a : Int, 0 ≤ t → t < (s : Int) → 0 ≤ a → a < L → paid N st.1 t a) ∧ ∀ a : Int, 0 ≤ a → a < (b : Int) → paid N st.1 s a))
          (fun st ⟨h1, h2, h3⟩ => by
            have hr := hrow s hs
            refine EvP.round ?_
            simp only [Zaz.l2]
            refine EvP.yes (by omega) (EvP.yes (by omega) (EvP.no (by omega) (EvP.round ?_)))
            simp only [Zaz.j3]
            refine EvP.no (by simp) ?_
            rw [w64s (by omega)]
            refine ih st ⟨h1, h2, fun hb t a h4 h5 h6 h7 => ?_⟩
            by_cases e : t = (s : Int)
            · subst e; exact (h3 hb).2 a h6 (by omega)
            · exact (h3 hb).1 t a h4 (by omega) h6 h7)
          (fun b st hb ⟨h1, h2, h3⟩ ihb => by
            have hr := hrow s hs
            have hl := h1.len
            refine EvP.round ?_
            simp only [Zaz.l2]
            refine EvP.yes (by omega) (EvP.yes (by omega) (EvP.yes (by omega) (EvP.yes (by omega) (EvP.round ?_))))
            simp only [Zaz.j3]
            cases hv : rdOf false st.1 (s : Int)
            · refine EvP.yes rfl (EvP.yes (by omega) (EvP.yes (by omega) (EvP.yes (by omega) (EvP.yes (by omega) ?_))))
              rw [hnx, w64s (by omega)]
              have hx := nx_in hN (s := s) (a := b) (by omega) (by omega) (by omega)
              by_cases h4 : nx N s b ≥ 0
              · refine EvP.yes h4 (EvP.yes h4 (EvP.yes (by omega) ?_))
                cases hw : rdOf false st.1 (nx N s b)
                · refine EvP.no (by simp) (ihb st ⟨h1, h2, fun hc => ⟨(h3 hc).1, fun a h5 h6 => ?_⟩⟩)
                  by_cases e : a = (b : Int)
                  · subst e; intro _ h7; rw [hw] at h7; cases h7
                  · exact (h3 hc).2 a h5 (by omega)
                · refine EvP.yes rfl (EvP.yes (by omega) ?_)
                  have hv' : st.1[s]'(by omega) = false := by rw [← rdOf_lt (d := false) (by omega : s < st.1.length)]; exact hv
                  have hf := falses_set (by omega) hv'
                  have i := h2.1
                  rw [Int.toNat_natCast]
                  exact ihb (st.1.set s true, true) ⟨live_mark hN h1 hs (by omega) (by omega) h4 hw, ⟨by simp only; omega, fun _ => by simp only; omega⟩, fun hc => by cases hc⟩
              · refine EvP.no h4 (ihb st ⟨h1, h2, fun hc => ⟨(h3 hc).1, fun a h5 h6 => ?_⟩⟩)
                by_cases e : a = (b : Int)
                · subst e; intro h7; omega
                · exact (h3 hc).2 a h5 (by omega)
            · refine EvP.no (by simp) ?_
              rw [w64s (by omega)]
              refine ih st ⟨h1, h2, fun hc t a h4 h5 h6 h7 => ?_⟩
              by_cases e : t = (s : Int)
              · subst e; intro _ _; exact hv
              · exact (h3 hc).1 t a h4 (by omega) h6 h7)
        have := letters 0 st (by omega) ⟨h1, h2, fun hc => ⟨fun t a h4 h5 h6 h7 => h3 hc t a h4 h5 h6 h7, fun a h5 h6 => absurd h6 (by omega)⟩⟩
        simpa using this)
    have := pass 0 (c, false) (by omega) ⟨I0, ⟨Nat.le_refl _, fun h => by cases h⟩, fun _ t a h4 h5 => absurd h5 (by omega)⟩
    simpa using this
  unfold Zaz.f
  refine EvP.here rfl (EvP.yes (by simp; omega) ?_)
  rw [List.nil_append]
  exact main _ good (Nat.le_refl _) ⟨hg, fun s h0 h1 h => .base h0 h1 h, fun s _ _ h => h⟩
end Go.Proofs.YtjdkedmdeajmgaaDoor.U
end M7
section M8
namespace Go.Proofs.YtjdkedmdeajmgaaDoor.U
open Go.RowKit Go.Proofs.YtjdkedmdeajmgaaDoorW.PrintWords Go.Proofs.YtjdkedmdeajmgaaDoorW.PrintLast Go.Proofs.YtjdkedmdeajmgaaDoorW.PrintMore
set_option linter.unusedVariables false
/-! Sets as numbers. -/
theorem i64_id (n : Int) (h0 : 0 ≤ n) (h1 : n < 2 ^ 63) : IntKind.i64.wrap n = n := by rw [IntKind.wrap_i64]; omega
theorem bor {a b : Nat} (ha : a < 2 ^ 63) (hb : b < 2 ^ 63) : bits .or .i64 (a : Int) (b : Int) = ((a ||| b : Nat) : Int) := (bits_nat .i64 63 (by decide) i64_id a b ha hb).2
theorem band {a b : Nat} (ha : a < 2 ^ 63) (hb : b < 2 ^ 63) : bits .and .i64 (a : Int) (b : Int) = ((a &&& b : Nat) : Int) := (bits_nat .i64 63 (by decide) i64_id a b ha hb).1
theorem shl1 {i : Nat} (hi : i < 63) : shl .i64 1 (i : Int) = ((2 ^ i : Nat) : Int) := by
  unfold shl
  rw [Int.toNat_natCast]
  have : min i IntKind.i64.bits = i := Nat.min_eq_left (by show i ≤ 64; omega)
  rw [this, Int.one_mul]
  have h := Nat.pow_lt_pow_right (a := 2) (by decide) hi
  rw [show ((2 : Int) ^ i) = ((2 ^ i : Nat) : Int) from by simp]
  exact i64_id _ (Int.natCast_nonneg _) (by exact_mod_cast h)
/-- The members k < n with p k, joined to s. -/
def orN (p : Nat → Bool) : Nat → Nat → Nat
  | 0, s => s
  | n + 1, s => if p n then orN p n s ||| 2 ^ n else orN p n s
theorem orN_yes {p : Nat → Bool} {n s : Nat} (h : p n = true) : orN p (n + 1) s = orN p n s ||| 2 ^ n := if_pos h
theorem orN_no {p : Nat → Bool} {n s : Nat} (h : p n = false) : orN p (n + 1) s = orN p n s := if_neg (by rw [h]; simp)
theorem testBit_orN (p : Nat → Bool) (n s j : Nat) : (orN p n s).testBit j = (s.testBit j || (decide (j < n) && p j)) := by
  induction n with
  | zero => simp [orN]
  | succ n ih =>
    unfold orN
    by_cases h : p n
    · rw [if_pos h, Nat.testBit_or, ih, Nat.testBit_two_pow]
      by_cases e : n = j
      · subst e; simp [h]
      · have e2 : decide (j < n + 1) = decide (j < n) := by rw [decide_eq_decide]; omega
        rw [e2]; simp [e]
    · rw [if_neg h, ih]
      by_cases e : n = j
      · subst e; simp [h]
      · have e2 : decide (j < n + 1) = decide (j < n) := by rw [decide_eq_decide]; omega
        rw [e2]
theorem orN_lt (p : Nat → Bool) (n s m : Nat) (hn : n ≤ m) (hs : s < 2 ^ m) : orN p n s < 2 ^ m := by
  induction n with
  | zero => exact hs
  | succ n ih =>
    unfold orN
    split
    · exact Nat.or_lt_two_pow (ih (by omega)) (Nat.pow_lt_pow_right (by decide) (by omega))
    · exact ih (by omega)
theorem orN_congr {p q : Nat → Bool} {n s : Nat} (h : ∀ j, j < n → p j = q j) : orN p n s = orN q n s := by
  induction n with
  | zero => rfl
  | succ n ih =>
    unfold orN
    rw [h n (by omega), ih (fun j hj => h j (by omega))]
theorem hasN {m s : Nat} (hm : m < 2 ^ 63) (hs : s ≤ 64) : ((bits .and .i64 (shr .i64 (m : Int) (s : Int)) 1) == 1) = m.testBit s := by
  have hsh : shr .i64 (m : Int) (s : Int) = ((m / 2 ^ s : Nat) : Int) := by
    unfold shr
    rw [Int.toNat_natCast, Nat.min_eq_left (show s ≤ IntKind.i64.bits from hs)]
    rw [show ((2 : Int) ^ s) = ((2 ^ s : Nat) : Int) from by simp]
    exact (Int.natCast_ediv _ _).symm
  have hq : m / 2 ^ s < 2 ^ 63 := Nat.lt_of_le_of_lt (Nat.div_le_self _ _) hm
  rw [hsh, show (1 : Int) = ((1 : Nat) : Int) from rfl, band hq (by decide), Nat.and_one_is_mod, Nat.testBit_eq_decide_div_mod_eq]
  generalize m / 2 ^ s % 2 = r
  by_cases h : r = 1
  · subst h; rfl
  · rw [decide_eq_false h]
    simp; omega
end Go.Proofs.YtjdkedmdeajmgaaDoor.U
end M8
section M9
namespace Go.Proofs.YtjdkedmdeajmgaaDoor.U
open Go.RowKit Go.Proofs.YtjdkedmdeajmgaaDoor.P Go.Proofs.YtjdkedmdeajmgaaDoorW.PrintWords Go.Proofs.YtjdkedmdeajmgaaDoorW.PrintLast Go.Proofs.YtjdkedmdeajmgaaDoorW.PrintMore
set_option linter.unusedVariables false
/-! The useful states, both ways. -/
structure UseI (L S : Int) (N : List (List Int)) (fin re le : List Bool) : Prop where
  rlen : re.length = N.length
  rsound : ∀ s : Int, 0 ≤ s → s < N.length → rdOf false re s = true → Rch L N S s
  start : rdOf false re S = true
  live : LiveI L N fin le
def paidU (N : List (List Int)) (re le : List Bool) (s a : Int) : Prop := 0 ≤ nx N s a → (rdOf false re s = true → rdOf false re (nx N s a) = true) ∧ (rdOf false le (nx N s a) = true → rdOf false le s = true)
theorem useful_full {L S : Int} {N : List (List Int)} {fin re le : List Bool} (hN : Rows' L N) (hS : 0 ≤ S) (hSn : S < N.length) (I : UseI L S N fin re le) (h : ∀ s a : Int, 0 ≤ s → s < N.length → 0 ≤ a → a < L → paidU N re le s a) :
    ∀ s : Int, 0 ≤ s → s < N.length → (rdOf false re s = true ↔ Rch L N S s) ∧ (rdOf false le s = true ↔ Led L N fin s) := by
  intro s h0 h1
  refine ⟨⟨fun hb => I.rsound s h0 h1 hb, fun hr => ?_⟩, live_full hN I.live (fun s a a1 a2 a3 a4 a5 a6 => (h s a a1 a2 a3 a4 a5).2 a6) s h0 h1⟩
  have main : ∀ s, Rch L N S s → 0 ≤ s ∧ s < N.length ∧ rdOf false re s = true := by
    intro s hr
    induction hr with
    | start => exact ⟨hS, hSn, I.start⟩
    | @step s a _ ha hb hn ih =>
      have hx := nx_in hN ih.2.1 ha hb
      exact ⟨hn, hx.2, (h s a ih.1 ih.2.1 ha hb hn).1 ih.2.2⟩
  exact (main s hr).2.2
theorem clone_eq {l : List Bool} (h : l.length < 140737488355328) : Zb9.f l = some l := if_pos h
/-- The useful states of a machine, as a list of marks. -/
def IsUse (L S : Int) (N : List (List Int)) (fin r : List Bool) : Prop := r.length = N.length ∧ ∀ s : Int, 0 ≤ s → s < N.length → (rdOf false r s = true ↔ Rch L N S s ∧ Led L N fin s)
theorem reach_mark {L S : Int} {N : List (List Int)} {fin re le : List Bool} (I : UseI L S N fin re le) {s a : Int} {t : Nat} (h0 : 0 ≤ s) (h1 : s < N.length) (ha : 0 ≤ a) (hb : a < L) (hn : nx N s a = t) (hr : rdOf false re s = true) : UseI L S N fin (re.set t true) le := by
  refine ⟨by simp [I.rlen], fun u h2 h3 hu => ?_, ?_, I.live⟩
  · rw [rdOf_set h2] at hu
    by_cases e : u = (t : Int)
    · subst e
      rw [← hn]
      exact .step (I.rsound s h0 h1 hr) ha hb (by omega)
    · rw [if_neg (by omega)] at hu
      exact I.rsound u h2 h3 hu
  · by_cases hS : 0 ≤ S
    · rw [rdOf_set hS]
      split
      · rfl
      · exact I.start
    · have := I.start
      have e : S.toNat = 0 := by omega
      show (re.set t true).getD S.toNat false = true
      have h' : re.getD S.toNat false = true := this
      rw [e] at h' ⊢
      rw [List.getD_eq_getElem?_getD, List.getElem?_set]
      by_cases ht : t = 0
      · subst ht
        by_cases hl : 0 < re.length
        · simp [hl]
        · simp at hl; subst hl; simp at h'
      · rw [if_neg ht, ← List.getD_eq_getElem?_getD]; exact h'
end Go.Proofs.YtjdkedmdeajmgaaDoor.U
end M9
section M10
namespace Go.Proofs.YtjdkedmdeajmgaaDoor.U
/-! Classes that are refined until they stay: they tell the languages apart. -/
def clsO (c : Nat → Int) : Option Nat → Int
  | none => -1
  | some t => c t
structure Ref (L n : Nat) (nxt : Nat → Nat → Option Nat) (inc : Nat → Prop) (c c' : Nat → Int) : Prop where
  out : ∀ s, s < n → ¬ inc s → c' s = -1
  nn : ∀ s, s < n → inc s → 0 ≤ c' s
  iff : ∀ s t, s < n → t < n → inc s → inc t → (c' s = c' t ↔ c s = c t ∧ ∀ a, a < L → clsO c (nxt s a) = clsO c (nxt t a))
/-- The classes are the numbers below m. -/
structure Cnt (n : Nat) (inc : Nat → Prop) (c : Nat → Int) (m : Nat) : Prop where
  lt : ∀ s, s < n → inc s → 0 ≤ c s ∧ c s < m
  onto : ∀ k, k < m → ∃ s, s < n ∧ inc s ∧ c s = k
theorem cnt_stable {n m : Nat} {inc : Nat → Prop} {c c' : Nat → Int} (h : Cnt n inc c m) (h' : Cnt n inc c' m) (hr : ∀ s t, s < n → t < n → inc s → inc t → c' s = c' t → c s = c t)
    {s t : Nat} (hs : s < n) (ht : t < n) (is : inc s) (it : inc t) (e : c s = c t) : c' s = c' t := by
  refine Classical.byContradiction fun hne => ?_
  have hx : ∀ k : Nat, ∃ x, k < m → x < n ∧ inc x ∧ c' x = k := fun k => by
    by_cases hk : k < m
    · obtain ⟨x, hx⟩ := h'.onto k hk; exact ⟨x, fun _ => hx⟩
    · exact ⟨0, fun hh => absurd hh hk⟩
  have a : ∃ r : Nat → Nat, ∀ k, k < m → r k < n ∧ inc (r k) ∧ c' (r k) = k := ⟨fun k => Classical.choose (hx k), fun k hk => Classical.choose_spec (hx k) hk⟩
  obtain ⟨r, hr'⟩ := a
  have k1 := h'.lt s hs is
  have k2 := h'.lt t ht it
  have main : ∀ j ∈ List.range m, j ∈ ((List.range m).erase (c' t).toNat).map (fun k => (c (r k)).toNat) := by
    intro j hj
    obtain ⟨x, hxn, hxi, hxc⟩ := h.onto j (List.mem_range.1 hj)
    have k3 := h'.lt x hxn hxi
    rw [List.mem_map]
    by_cases hxt : c' x = c' t
    · refine ⟨(c' s).toNat, (List.mem_erase_of_ne (by omega)).2 (List.mem_range.2 (by omega)), ?_⟩
      obtain ⟨q1, q2, q3⟩ := hr' (c' s).toNat (by omega)
      have q4 := hr _ _ q1 hs q2 is (by omega)
      have q5 := hr _ _ hxn ht hxi it hxt
      omega
    · refine ⟨(c' x).toNat, (List.mem_erase_of_ne (by omega)).2 (List.mem_range.2 (by omega)), ?_⟩
      obtain ⟨q1, q2, q3⟩ := hr' (c' x).toNat (by omega)
      have q4 := hr _ _ q1 hxn q2 hxi (by omega)
      omega
  have hl := Zdk List.nodup_range main
  rw [List.length_map, List.length_erase_of_mem (List.mem_range.2 (by omega)), List.length_range] at hl
  omega
section
variable {L n : Nat} {nxt : Nat → Nat → Option Nat} {good : Nat → Bool} {V : Nat → Prop}
/-- Which states have a class: the known ones that lead to a good one. -/
def incl (L : Nat) (nxt : Nat → Nat → Option Nat) (good : Nat → Bool) (V : Nat → Prop) (s : Nat) : Prop := V s ∧ ¬ emp (accW L nxt good s)
structure VOK (L n : Nat) (nxt : Nat → Nat → Option Nat) (V : Nat → Prop) : Prop where
  lt : ∀ s, V s → s < n
  closed : ∀ s a t, V s → a < L → nxt s a = some t → V t
  inn : ∀ s a t, s < n → a < L → nxt s a = some t → t < n
structure RI (L n : Nat) (nxt : Nat → Nat → Option Nat) (good : Nat → Bool) (V : Nat → Prop) (c : Nat → Int) : Prop where
  out : ∀ s, s < n → ¬ incl L nxt good V s → c s = -1
  nn : ∀ s, s < n → incl L nxt good V s → 0 ≤ c s
  lang : ∀ s t, s < n → t < n → incl L nxt good V s → incl L nxt good V t → accW L nxt good s = accW L nxt good t → c s = c t
  good : ∀ s t, s < n → t < n → incl L nxt good V s → incl L nxt good V t → c s = c t → good s = good t
theorem RI.step {c c' : Nat → Int} (hV : VOK L n nxt V) (h : RI L n nxt good V c) (R : Ref L n nxt (incl L nxt good V) c c') : RI L n nxt good V c' := by
  refine ⟨R.out, R.nn, fun s t hs ht is it e => ?_, fun s t hs ht is it e => h.good s t hs ht is it ((R.iff s t hs ht is it).1 e).1⟩
  rw [R.iff s t hs ht is it]
  refine ⟨h.lang s t hs ht is it e, fun a ha => ?_⟩
  have hd : der (accW L nxt good s) a = der (accW L nxt good t) a := by rw [e]
  have one : ∀ x y z, x < n → y < n → incl L nxt good V y → nxt x a = none → nxt y a = some z → der (accW L nxt good x) a = der (accW L nxt good y) a → c z = -1 := by
    intro x y z hx hy iy h1 h2 h3
    rw [der_some ha h2] at h3
    exact h.out z (hV.inn y a z hy ha h2) (fun hz => hz.2 (h3 ▸ der_none h1))
  cases e1 : nxt s a with
  | none =>
    cases e2 : nxt t a with
    | none => rfl
    | some t' => exact (one s t t' hs ht it e1 e2 hd).symm
  | some s' =>
    cases e2 : nxt t a with
    | none => exact one t s s' ht hs is e2 e1 hd.symm
    | some t' =>
      rw [der_some ha e1, der_some ha e2] at hd
      have v1 := hV.closed s a s' is.1 ha e1
      have v2 := hV.closed t a t' it.1 ha e2
      show c s' = c t'
      by_cases hE : emp (accW L nxt good s')
      · rw [h.out s' (hV.lt _ v1) (fun hz => hz.2 hE), h.out t' (hV.lt _ v2) (fun hz => hz.2 (hd ▸ hE))]
      · exact h.lang s' t' (hV.lt _ v1) (hV.lt _ v2) ⟨v1, hE⟩ ⟨v2, hd ▸ hE⟩ hd
theorem RI.final {c c' : Nat → Int} {m : Nat} (hV : VOK L n nxt V) (h : RI L n nxt good V c) (R : Ref L n nxt (incl L nxt good V) c c') (C : Cnt n (incl L nxt good V) c m) (C' : Cnt n (incl L nxt good V) c' m) : ClsOK L n nxt good V c' := by
  have h' := h.step hV R
  have st : ∀ s t, s < n → t < n → incl L nxt good V s → incl L nxt good V t → c s = c t → c' s = c' t := fun s t hs ht is it e =>
    cnt_stable C C' (fun s t hs ht is it e => ((R.iff s t hs ht is it).1 e).1) hs ht is it e
  have main : ∀ (w : List Nat) (s t : Nat), s < n → t < n → incl L nxt good V s → incl L nxt good V t → c' s = c' t → accW L nxt good s w = accW L nxt good t w := by
    intro w
    induction w with
    | nil => intro s t hs ht is it e; exact h'.good s t hs ht is it e
    | cons a w ih =>
      intro s t hs ht is it e
      by_cases ha : a < L
      · have hq := ((R.iff s t hs ht is it).1 e).2 a ha
        have dead : ∀ x y z, x < n → incl L nxt good V x → nxt x a = some z → c z < 0 → accW L nxt good z y = false := by
          intro x y z hx ix h1 h2
          have vz := hV.closed x a z ix.1 ha h1
          refine Classical.byContradiction fun hh => ?_
          have := h.nn z (hV.lt _ vz) ⟨vz, fun hE => hh (hE y)⟩
          omega
        have hh : der (accW L nxt good s) a w = der (accW L nxt good t) a w := by
          cases e1 : nxt s a with
          | none =>
            rw [der_none e1 w]
            cases e2 : nxt t a with
            | none => rw [der_none e2 w]
            | some t' =>
              rw [der_some ha e2, dead t w t' ht it e2]
              rw [e1, e2] at hq
              have : c t' = -1 := hq.symm
              omega
          | some s' =>
            cases e2 : nxt t a with
            | none =>
              rw [der_none e2 w, der_some ha e1, dead s w s' hs is e1]
              rw [e1, e2] at hq
              have : c s' = -1 := hq
              omega
            | some t' =>
              rw [der_some ha e1, der_some ha e2]
              rw [e1, e2] at hq
              have hq : c s' = c t' := hq
              have v1 := hV.closed s a s' is.1 ha e1
              have v2 := hV.closed t a t' it.1 ha e2
              by_cases hn : c s' < 0
              · rw [dead s w s' hs is e1 hn, dead t w t' ht it e2 (by omega)]
              · have i1 : incl L nxt good V s' := Classical.byContradiction fun hz => by have := h.out s' (hV.lt _ v1) hz; omega
                have i2 : incl L nxt good V t' := Classical.byContradiction fun hz => by have := h.out t' (hV.lt _ v2) hz; omega
                exact ih s' t' (hV.lt _ v1) (hV.lt _ v2) i1 i2 (st s' t' (hV.lt _ v1) (hV.lt _ v2) i1 i2 hq)
        exact hh
      · simp [accW, ha]
  refine ⟨hV.lt, hV.closed, fun s vs => ⟨fun hc => ?_, fun hE => ?_⟩, fun s t vs vt cs ct => ⟨fun e => ?_, fun e => ?_⟩⟩
  · refine Classical.byContradiction fun hE => ?_
    have := h'.nn s (hV.lt s vs) ⟨vs, hE⟩
    omega
  · have := h'.out s (hV.lt s vs) (fun hz => hz.2 hE)
    omega
  · have i1 : incl L nxt good V s := Classical.byContradiction fun hz => by have := h'.out s (hV.lt _ vs) hz; omega
    have i2 : incl L nxt good V t := Classical.byContradiction fun hz => by have := h'.out t (hV.lt _ vt) hz; omega
    exact funext fun w => main w s t (hV.lt _ vs) (hV.lt _ vt) i1 i2 e
  · have i1 : incl L nxt good V s := Classical.byContradiction fun hz => by have := h'.out s (hV.lt _ vs) hz; omega
    have i2 : incl L nxt good V t := Classical.byContradiction fun hz => by have := h'.out t (hV.lt _ vt) hz; omega
    exact h'.lang s t (hV.lt _ vs) (hV.lt _ vt) i1 i2 e
end
end Go.Proofs.YtjdkedmdeajmgaaDoor.U
end M10
section M11
namespace Go.Proofs.YtjdkedmdeajmgaaDoor.U
open Go.RowKit Go.Proofs.YtjdkedmdeajmgaaDoor.P Go.Proofs.YtjdkedmdeajmgaaDoorW.PrintWords Go.Proofs.YtjdkedmdeajmgaaDoorW.PrintLast
set_option linter.unusedVariables false
/-! The machines of rows as machines of functions; one pass over the states. -/
def nxO (N : List (List Int)) (s a : Nat) : Option Nat := if 0 ≤ nx N s a then some (nx N s a).toNat else none
def Zbc (g : List Bool) (s : Nat) : Bool := rdOf false g (s : Int)
abbrev accM (L : Int) (N : List (List Int)) (g : List Bool) (s : Nat) : Lang := accW L.toNat (nxO N) (Zbc g) s
theorem nxO_some {N : List (List Int)} {s a t : Nat} (h : nxO N s a = some t) : nx N s a = t := by
  unfold nxO at h
  split at h
  · have := Option.some.inj h; omega
  · cases h
theorem nxO_of {N : List (List Int)} {s a : Nat} (h : 0 ≤ nx N s a) : nxO N s a = some (nx N s a).toNat := if_pos h
theorem nxO_no {N : List (List Int)} {s a : Nat} (h : nx N s a < 0) : nxO N s a = none := if_neg (by omega)
theorem led_acc {L : Int} {N : List (List Int)} {g : List Bool} (hN : Rows' L N) {s : Nat} (hs : s < N.length) : Led L N g s ↔ ¬ emp (accM L N g s) := by
  constructor
  · intro h
    have main : ∀ x : Int, Led L N g x → ∃ w, accM L N g x.toNat w = true := by
      intro x hx
      induction hx with
      | @base x h0 h1 h => exact ⟨[], by unfold accM accW Zbc; rw [Int.toNat_of_nonneg h0]; exact h⟩
      | @step x a h0 h1 ha hb hn _ ih =>
        obtain ⟨w, hw⟩ := ih
        obtain ⟨y, rfl⟩ := Int.eq_ofNat_of_zero_le h0
        obtain ⟨b, rfl⟩ := Int.eq_ofNat_of_zero_le ha
        refine ⟨b :: w, ?_⟩
        unfold accM accW
        rw [Int.toNat_natCast, nxO_of hn]
        simp only [Bool.and_eq_true, decide_eq_true_eq]
        exact ⟨by omega, hw⟩
    obtain ⟨w, hw⟩ := main _ h
    intro he
    have := he w
    rw [Int.toNat_natCast] at hw
    rw [hw] at this
    cases this
  · intro h
    have main : ∀ (w : List Nat) (s : Nat), s < N.length → accM L N g s w = true → Led L N g s := by
      intro w
      induction w with
      | nil => intro s hs hw; exact .base (by omega) (by omega) hw
      | cons a w ih =>
        intro s hs hw
        unfold accM accW at hw
        simp only [Bool.and_eq_true, decide_eq_true_eq] at hw
        cases e : nxO N s a with
        | none => rw [e] at hw; simp at hw
        | some t =>
          rw [e] at hw
          have h1 := nxO_some e
          have hx := nx_in hN (s := s) (a := a) (by omega) (by omega) (by omega)
          refine .step (a := (a : Int)) (by omega) (by omega) (by omega) (by omega) (by omega) ?_
          rw [h1]
          exact ih t (by omega) hw.2
    obtain ⟨w, hw⟩ := Classical.not_forall.1 h
    exact main w s hs (by simpa using hw)
theorem vok_rch {L S : Int} {N : List (List Int)} (hN : Rows' L N) (hS : 0 ≤ S) (hSn : S < N.length) : VOK L.toNat N.length (nxO N) (fun s => Rch L N S s) := by
  have main : ∀ x : Int, Rch L N S x → 0 ≤ x ∧ x < N.length := by
    intro x hx
    induction hx with
    | start => exact ⟨hS, hSn⟩
    | step h ha hb hn ih => exact ⟨hn, (nx_in hN ih.2 ha hb).2⟩
  refine ⟨fun s hs => by have := main _ hs; omega, fun s a t hs ha e => ?_, fun s a t hs ha e => ?_⟩
  · have h1 := nxO_some e
    rw [← h1]
    exact .step hs (by omega) (by omega) (by omega)
  · have h1 := nxO_some e
    have := nx_in hN (s := s) (a := a) (by omega) (by omega) (by omega)
    omega
theorem vok_all {L : Int} {N : List (List Int)} (hN : Rows' L N) : VOK L.toNat N.length (nxO N) (fun s => s < N.length) := by
  refine ⟨fun s hs => hs, fun s a t hs ha e => ?_, fun s a t hs ha e => ?_⟩
  all_goals
    have h1 := nxO_some e
    have := nx_in hN (s := s) (a := a) (by omega) (by omega) (by omega)
    omega
theorem cnt_rep {n m : Nat} {inc : Nat → Prop} {c : Nat → Int} (h : Cnt n inc c m) : ∃ r : Nat → Nat, ∀ k, k < m → r k < n ∧ inc (r k) ∧ c (r k) = k := by
  have hx : ∀ k : Nat, ∃ x, k < m → x < n ∧ inc x ∧ c x = k := fun k => by
    by_cases hk : k < m
    · obtain ⟨x, hx⟩ := h.onto k hk; exact ⟨x, fun _ => hx⟩
    · exact ⟨0, fun hh => absurd hh hk⟩
  exact ⟨fun k => Classical.choose (hx k), fun k hk => Classical.choose_spec (hx k) hk⟩
theorem nodup_map_range {m : Nat} {f : Nat → Nat} (h : ∀ i j, i < m → j < m → f i = f j → i = j) : ((List.range m).map f).Nodup := by
  refine List.Pairwise.map f (R := fun i j => i < m ∧ j < m ∧ i ≠ j) (fun i j hij e => hij.2.2 (h i j hij.1 hij.2.1 e)) ?_
  have h1 : (List.range m).Nodup := List.nodup_range
  exact List.Pairwise.imp_of_mem (fun ha hb hne => ⟨List.mem_range.1 ha, List.mem_range.1 hb, hne⟩) h1
theorem cnt_le {n m : Nat} {inc : Nat → Prop} {c : Nat → Int} (h : Cnt n inc c m) : m ≤ n := by
  obtain ⟨r, hr⟩ := cnt_rep h
  have h1 := nodup_map_range (m := m) (f := r) (fun i j hi hj e => by
    have a := (hr i hi).2.2
    have b := (hr j hj).2.2
    rw [e] at a
    omega)
  have := Zdk (l' := List.range n) h1 (fun x hx => by
    obtain ⟨k, hk, rfl⟩ := List.mem_map.1 hx
    exact List.mem_range.2 (hr k (List.mem_range.1 hk)).1)
  simpa using this
theorem cnt_mono {n m m' : Nat} {inc : Nat → Prop} {c c' : Nat → Int} (h : Cnt n inc c m) (h' : Cnt n inc c' m') (hr : ∀ s t, s < n → t < n → inc s → inc t → c' s = c' t → c s = c t) : m ≤ m' := by
  obtain ⟨r, d⟩ := cnt_rep h
  have hin : ∀ k, k < m → 0 ≤ c' (r k) ∧ c' (r k) < m' := fun k hk => h'.lt _ (d k hk).1 (d k hk).2.1
  have h1 := nodup_map_range (m := m) (f := fun k => (c' (r k)).toNat) (fun i j hi hj e => by
    have a := hin i hi
    have b := hin j hj
    have := hr _ _ (d i hi).1 (d j hj).1 (d i hi).2.1 (d j hj).2.1 (by have e' : (c' (r i)).toNat = (c' (r j)).toNat := e; omega)
    have q1 := (d i hi).2.2
    have q2 := (d j hj).2.2
    omega)
  have := Zdk (l' := List.range m') h1 (fun x hx => by
    obtain ⟨k, hk, rfl⟩ := List.mem_map.1 hx
    have := hin k (List.mem_range.1 hk)
    exact List.mem_range.2 (by omega))
  simpa using this
/-- One pass over the states up to i: the first state of each class found, and the new classes. -/
structure PassI {κ : Type} (inc : Nat → Prop) (sig : Nat → κ) (i : Nat) (ks : List Nat) (c' : Nat → Int) : Prop where
  first : ∀ x ∈ ks, x < i ∧ inc x
  apart : ks.Pairwise (fun x y => sig x ≠ sig y)
  out : ∀ s, s < i → ¬ inc s → c' s = -1
  num : ∀ s, s < i → inc s → ∃ j, j < ks.length ∧ c' s = j ∧ ∀ x, ks[j]? = some x → sig x = sig s
section
variable {κ : Type} {inc : Nat → Prop} {sig : Nat → κ} {i : Nat} {ks : List Nat} {c' c'' : Nat → Int}
theorem PassI.start : PassI inc sig 0 [] c' := ⟨fun x hx => by simp at hx, List.Pairwise.nil, fun s hs => absurd hs (by omega), fun s hs => absurd hs (by omega)⟩
theorem PassI.skip (I : PassI inc sig i ks c') (hi : ¬ inc i) (h1 : c'' i = -1) (h2 : ∀ s, s < i → c'' s = c' s) : PassI inc sig (i + 1) ks c'' := by
  refine ⟨fun x hx => ⟨by have := (I.first x hx).1; omega, (I.first x hx).2⟩, I.apart, fun s hs hn => ?_, fun s hs hn => ?_⟩
  · by_cases e : s = i
    · subst e; exact h1
    · rw [h2 s (by omega)]; exact I.out s (by omega) hn
  · by_cases e : s = i
    · subst e; exact absurd hn hi
    · rw [h2 s (by omega)]; exact I.num s (by omega) hn
theorem PassI.known (I : PassI inc sig i ks c') {j x : Nat} (hj : ks[j]? = some x) (hx : sig x = sig i) (h1 : c'' i = j) (h2 : ∀ s, s < i → c'' s = c' s) (hi : inc i) : PassI inc sig (i + 1) ks c'' := by
  refine ⟨fun x hx => ⟨by have := (I.first x hx).1; omega, (I.first x hx).2⟩, I.apart, fun s hs hn => ?_, fun s hs hn => ?_⟩
  · by_cases e : s = i
    · subst e; exact absurd hi hn
    · rw [h2 s (by omega)]; exact I.out s (by omega) hn
  · by_cases e : s = i
    · subst e
      refine ⟨j, (List.getElem?_eq_some_iff.1 hj).1, h1, fun y hy => ?_⟩
      rw [hj] at hy
      rw [← Option.some.inj hy]
      exact hx
    · rw [h2 s (by omega)]; exact I.num s (by omega) hn
theorem PassI.new (I : PassI inc sig i ks c') (hne : ∀ x ∈ ks, sig x ≠ sig i) (h1 : c'' i = ks.length) (h2 : ∀ s, s < i → c'' s = c' s) (hi : inc i) : PassI inc sig (i + 1) (ks ++ [i]) c'' := by
  refine ⟨fun x hx => ?_, ?_, fun s hs hn => ?_, fun s hs hn => ?_⟩
  · rcases List.mem_append.1 hx with hx | hx
    · exact ⟨by have := (I.first x hx).1; omega, (I.first x hx).2⟩
    · rw [List.mem_singleton.1 hx]; exact ⟨by omega, hi⟩
  · rw [List.pairwise_append]
    exact ⟨I.apart, List.pairwise_singleton _ _, fun x hx y hy => by rw [List.mem_singleton.1 hy]; exact hne x hx⟩
  · by_cases e : s = i
    · subst e; exact absurd hi hn
    · rw [h2 s (by omega)]; exact I.out s (by omega) hn
  · by_cases e : s = i
    · subst e
      refine ⟨ks.length, by simp, h1, fun y hy => ?_⟩
      simp at hy
      rw [hy]
    · rw [h2 s (by omega)]
      obtain ⟨j, hj, h3, h4⟩ := I.num s (by omega) hn
      refine ⟨j, by simp; omega, h3, fun y hy => h4 y ?_⟩
      rwa [List.getElem?_append_left hj] at hy
theorem PassI.same (I : PassI inc sig i ks c') {s t : Nat} (hs : s < i) (ht : t < i) (is : inc s) (it : inc t) : c' s = c' t ↔ sig s = sig t := by
  obtain ⟨j, hj, h1, h2⟩ := I.num s hs is
  obtain ⟨l, hl, h3, h4⟩ := I.num t ht it
  have q1 := h2 _ (List.getElem?_eq_getElem hj)
  have q2 := h4 _ (List.getElem?_eq_getElem hl)
  constructor
  · intro e
    have : j = l := by omega
    subst this
    rw [← q1, ← q2]
  · intro e
    have : j = l := by
      refine Classical.byContradiction fun hne => ?_
      have hp := List.pairwise_iff_getElem.1 I.apart
      rcases Nat.lt_or_gt_of_ne hne with hlt | hlt
      · exact hp j l hj hl hlt (by rw [q1, q2, e])
      · exact hp l j hl hj hlt (by rw [q1, q2, e])
    omega
theorem PassI.cnt (I : PassI inc sig i ks c') : Cnt i inc c' ks.length := by
  refine ⟨fun s hs is => ?_, fun k hk => ?_⟩
  · obtain ⟨j, hj, h1, _⟩ := I.num s hs is
    omega
  · obtain ⟨h1, h2⟩ := I.first ks[k] (List.getElem_mem hk)
    refine ⟨ks[k], h1, h2, ?_⟩
    obtain ⟨j, hj, h3, h4⟩ := I.num _ h1 h2
    have q := h4 _ (List.getElem?_eq_getElem hj)
    have : j = k := by
      refine Classical.byContradiction fun hne => ?_
      have hp := List.pairwise_iff_getElem.1 I.apart
      rcases Nat.lt_or_gt_of_ne hne with hlt | hlt
      · exact hp j k hj hk hlt q
      · exact hp k j hk hj hlt q.symm
    omega
end
/-- What tells the states apart in one pass. -/
def sigO (L : Nat) (nxt : Nat → Nat → Option Nat) (c : Nat → Int) (s : Nat) : Int × List Int := (c s, (List.range L).map fun a => clsO c (nxt s a))
theorem sigO_iff {L : Nat} {nxt : Nat → Nat → Option Nat} {c : Nat → Int} {s t : Nat} : sigO L nxt c s = sigO L nxt c t ↔ c s = c t ∧ ∀ a, a < L → clsO c (nxt s a) = clsO c (nxt t a) := by
  unfold sigO
  rw [Prod.mk.injEq]
  refine and_congr Iff.rfl ?_
  rw [List.map_inj_left]
  exact ⟨fun h a ha => h a (List.mem_range.2 ha), fun h a ha => h a (List.mem_range.1 ha)⟩
theorem PassI.ref {L n : Nat} {nxt : Nat → Nat → Option Nat} {inc : Nat → Prop} {c c' : Nat → Int} {ks : List Nat} (I : PassI inc (sigO L nxt c) n ks c') : Ref L n nxt inc c c' :=
  ⟨I.out, fun s hs is => by obtain ⟨j, _, h, _⟩ := I.num s hs is; omega, fun s t hs ht is it => (I.same hs ht is it).trans sigO_iff⟩
/-- The number of classes before a pass: none was counted yet, or it is right. -/
def Many (n : Nat) (inc : Nat → Prop) (c : Nat → Int) (m : Int) : Prop := m ≤ 0 ∨ ∃ k : Nat, m = k ∧ Cnt n inc c k
theorem many_done {L n : Nat} {nxt : Nat → Nat → Option Nat} {good : Nat → Bool} {V : Nat → Prop} {c c' : Nat → Int} {ks : List Nat} {m : Int} (hV : VOK L n nxt V) (h : RI L n nxt good V c)
    (hm : Many n (incl L nxt good V) c m) (I : PassI (incl L nxt good V) (sigO L nxt c) n ks c') (e : (ks.length : Int) = m) : ClsOK L n nxt good V c' := by
  have C' := I.cnt
  refine RI.final (m := ks.length) hV h I.ref ?_ C'
  rcases hm with h0 | ⟨k, rfl, C⟩
  · have hz : ks.length = 0 := by omega
    refine ⟨fun s hs is => ?_, fun k hk => absurd hk (by omega)⟩
    have := C'.lt s hs is
    omega
  · have : ks.length = k := by omega
    rw [this]; exact C
theorem many_more {L n : Nat} {nxt : Nat → Nat → Option Nat} {inc : Nat → Prop} {c c' : Nat → Int} {ks : List Nat} {m : Int}
    (hm : Many n inc c m) (I : PassI inc (sigO L nxt c) n ks c') (e : (ks.length : Int) ≠ m) : Many n inc c' ks.length ∧ m < ks.length ∧ ks.length ≤ n := by
  have C' := I.cnt
  refine ⟨.inr ⟨_, rfl, C'⟩, ?_, cnt_le C'⟩
  rcases hm with h0 | ⟨k, rfl, C⟩
  · omega
  · have := cnt_mono C C' (fun s t hs ht is it e => (sigO_iff.1 ((I.same hs ht is it).1 e)).1)
    omega
/-- The classes before the first pass. -/
theorem ri_first {L n : Nat} {nxt : Nat → Nat → Option Nat} {good : Nat → Bool} {V : Nat → Prop} {c : Nat → Int}
    (h1 : ∀ s, s < n → ¬ incl L nxt good V s → c s = -1) (h2 : ∀ s, s < n → incl L nxt good V s → c s = if good s then 1 else 0) : RI L n nxt good V c := by
  refine ⟨h1, fun s hs is => ?_, fun s t hs ht is it e => ?_, fun s t hs ht is it e => ?_⟩
  · rw [h2 s hs is]; split <;> omega
  · have : good s = good t := by have := congrFun e []; simpa [accW] using this
    rw [h2 s hs is, h2 t ht it, this]
  · rw [h2 s hs is, h2 t ht it] at e
    cases hg : good s <;> cases hg' : good t <;> rw [hg, hg'] at e <;> first | rfl | (simp at e)
theorem Zcc {l : List Int} {i : Nat} (h : i < l.length) (v : Int) : rd (l.set i v) (i : Int) = v := by
  rw [rd_lt (by simp; exact h)]; simp
theorem Zdm {l : List Int} {i j : Nat} (h : i ≠ j) (v : Int) : rd (l.set i v) (j : Int) = rd l (j : Int) := by
  show (l.set i v).getD j 0 = l.getD j 0
  rw [List.getD_eq_getElem?_getD, List.getElem?_set_ne h, List.getD_eq_getElem?_getD]
/-- The class of a target as the code reads it. -/
def clsN (l : List Int) (x : Int) : Int := if 0 ≤ x then rd l x else -1
theorem clsN_eq {N : List (List Int)} {l : List Int} (s a : Nat) : clsN l (nx N s a) = clsO (fun t => rd l (t : Int)) (nxO N s a) := by
  unfold clsN nxO
  by_cases h : 0 ≤ nx N s a
  · rw [if_pos h, if_pos h]
    show rd l (nx N s a) = rd l (((nx N s a).toNat : Nat) : Int)
    rw [Int.toNat_of_nonneg h]
  · rw [if_neg h, if_neg h]; rfl
end Go.Proofs.YtjdkedmdeajmgaaDoor.U
end M11
section M12
namespace Go.Proofs.YtjdkedmdeajmgaaDoor.U
open Go.RowKit Go.Proofs.YtjdkedmdeajmgaaDoor.P Go.Proofs.YtjdkedmdeajmgaaDoorW.PrintWords Go.Proofs.YtjdkedmdeajmgaaDoorW.PrintLast
set_option linter.unusedVariables false
/-! The program's classes: a map from what tells a state apart to its class. -/
def two (q : Int) : List Int := [(q / 256) % 256, q % 256]
def Byte (l : List Int) : Prop := ∀ x ∈ l, 0 ≤ x ∧ x < 256
theorem two_byte (q : Int) : Byte (two q) := by
  intro x hx
  simp only [two, List.mem_cons, List.not_mem_nil, or_false] at hx
  rcases hx with rfl | rfl <;> omega
theorem two_inj {p q : Int} (hp : -1 ≤ p ∧ p < 65535) (hq : -1 ≤ q ∧ q < 65535) (h : two p = two q) : p = q := by
  simp only [two, List.cons.injEq, and_true] at h
  omega
theorem bytes_str {l : List Int} (h : Byte l) : bytesOf (strOfNums l) = l := by
  unfold bytesOf
  rw [strOfNums_data, List.map_map]
  conv => rhs; rw [← List.map_id l]
  refine List.map_congr_left fun x hx => ?_
  have := h x hx
  simp only [Function.comp_apply, id_eq, UInt8.toNat_ofNat']
  omega
theorem str_inj {l l' : List Int} (h : Byte l) (h' : Byte l') (e : strOfNums l = strOfNums l') : l = l' := by
  rw [← bytes_str h, ← bytes_str h', e]
def keyL (p : Int × List Int) : List Int := two p.1 ++ p.2.flatMap two
theorem flat_byte (l : List Int) : Byte (l.flatMap two) := by
  intro x hx
  obtain ⟨y, _, hy⟩ := List.mem_flatMap.1 hx
  exact two_byte y x hy
theorem keyL_byte (p : Int × List Int) : Byte (keyL p) := by
  intro x hx
  rcases List.mem_append.1 hx with hx | hx
  · exact two_byte _ x hx
  · exact flat_byte _ x hx
theorem flat_inj : ∀ {l l' : List Int}, l.length = l'.length → (∀ x ∈ l, -1 ≤ x ∧ x < 65535) → (∀ x ∈ l', -1 ≤ x ∧ x < 65535) → l.flatMap two = l'.flatMap two → l = l'
  | [], [], _, _, _, _ => rfl
  | [], b :: l', h, _, _, _ => by simp at h
  | a :: l, [], h, _, _, _ => by simp at h
  | a :: l, b :: l', h, h1, h2, e => by
    rw [List.flatMap_cons, List.flatMap_cons] at e
    obtain ⟨e1, e2⟩ := List.append_inj e rfl
    rw [two_inj (h1 a (by simp)) (h2 b (by simp)) e1, flat_inj (by simpa using h) (fun x hx => h1 x (by simp [hx])) (fun x hx => h2 x (by simp [hx])) e2]
theorem key_inj {p q : Int × List Int} (hl : p.2.length = q.2.length) (hp : -1 ≤ p.1 ∧ p.1 < 65535) (hq : -1 ≤ q.1 ∧ q.1 < 65535) (h1 : ∀ x ∈ p.2, -1 ≤ x ∧ x < 65535) (h2 : ∀ x ∈ q.2, -1 ≤ x ∧ x < 65535)
    (e : strOfNums (keyL p) = strOfNums (keyL q)) : p = q := by
  have e := str_inj (keyL_byte p) (keyL_byte q) e
  obtain ⟨e1, e2⟩ := List.append_inj e rfl
  obtain ⟨a, l⟩ := p
  obtain ⟨b, l'⟩ := q
  have q1 : a = b := two_inj hp hq e1
  have q2 : l = l' := flat_inj hl h1 h2 e2
  rw [q1, q2]
theorem wordKey_ev (l : List Int) (hl : l.length ≤ 1048576) : Ev (fun k => Zb4.f k l) (strOfNums (l.map (· % 256))) := by
  have key := Ev.up (fun k (s : List Int) i => Zb4.l0 k s l (l.length : Int) i) l.length (fun _ _ => strOfNums (l.map (· % 256))) (fun i s => s.length = l.length ∧ ∀ j, j < i → s[j]? = (l.map (· % 256))[j]?)
    (fun s ⟨h1, h2⟩ => by
      refine Ev.round ?_
      simp only [Zb4.l0]
      refine Ev.no (by omega) ?_
      have : s = l.map (· % 256) := List.ext_getElem? fun j => by
        by_cases hj : j < l.length
        · exact h2 j hj
        · rw [List.getElem?_eq_none (by omega), List.getElem?_eq_none (by simp; omega)]
      rw [this]
      exact Ev.now _)
    (fun i s hi ⟨h1, h2⟩ ih => by
      refine Ev.round ?_
      simp only [Zb4.l0]
      refine Ev.yes (by omega) (Ev.yes (by omega) (Ev.yes (by omega) (Ev.yes (by omega) ?_)))
      rw [w64s (by omega), Int.toNat_natCast, rd_lt hi]
      refine ih _ ⟨by simp [h1], fun j hj => ?_⟩
      by_cases e : j = i
      · subst e
        rw [List.getElem?_set_self (by omega)]
        simp [hi]
      · rw [List.getElem?_set_ne (by omega)]
        exact h2 j (by omega))
  unfold Zb4.f
  refine Ev.yes (by omega) (Ev.yes (by omega) ?_)
  have := key 0 (List.replicate l.length 0) (by omega) ⟨by simp, fun j hj => absurd hj (by omega)⟩
  simpa using this
theorem and255 {c : Int} (h0 : 0 ≤ c) (h1 : c < 65536) : bits .and .i64 c 255 = c % 256 := by
  obtain ⟨n, rfl⟩ := Int.eq_ofNat_of_zero_le h0
  rw [show (255 : Int) = ((255 : Nat) : Int) from rfl, band (by omega) (by omega)]
  have : n &&& 255 = n % 256 := Nat.and_two_pow_sub_one_eq_mod n 8
  omega
/-- The map as it stands when the states ks were the first of their classes. -/
def Zcr {K : Type} (key : Nat → K) (ks : List Nat) (m : Nat) : List (K × Int) := (ks.zipIdx m).map fun p => (key p.1, (p.2 : Int))
theorem mfind_mapOf {K : Type} [DecidableEq K] (key : Nat → K) (x : K) : ∀ (ks : List Nat) (m j : Nat), mfind (Zcr key ks m) x j = (ks.findIdx? (fun y => decide (key y = x))).map fun q => (j + q, ((m + q : Nat) : Int))
  | [], m, j => rfl
  | y :: ks, m, j => by
    have e : Zcr key (y :: ks) m = (key y, (m : Int)) :: Zcr key ks (m + 1) := rfl
    rw [e, mfind, List.findIdx?_cons]
    by_cases h : x = key y
    · rw [if_pos h, decide_eq_true h.symm]
      simp
    · rw [if_neg h, decide_eq_false (fun hh => h hh.symm), mfind_mapOf key x ks (m + 1) (j + 1)]
      simp only [Bool.false_eq_true, if_false, Option.map_map]
      refine congrArg (fun f => Option.map f _) (funext fun q => ?_)
      simp only [Function.comp_apply, Prod.mk.injEq]
      omega
theorem mapOf_length {K : Type} (key : Nat → K) (ks : List Nat) : (Zcr key ks 0).length = ks.length := by simp [Zcr]
theorem mapOf_snoc {K : Type} (key : Nat → K) (ks : List Nat) (i : Nat) : Zcr key (ks ++ [i]) 0 = Zcr key ks 0 ++ [(key i, (ks.length : Int))] := by
  simp [Zcr, List.zipIdx_append]
set_option maxHeartbeats 1000000 in
theorem classes_ev {L S : Int} {N : List (List Int)} {fin us : List Bool} {V : Nat → Prop} (hN : Rows' L N) (hn : N.length ≤ 65535) (hf : fin.length = N.length) (hL : 0 ≤ L) (o : L ≤ 1048576) (hu : us.length = N.length)
    (hus : ∀ s : Nat, s < N.length → (rdOf false us (s : Int) = true ↔ incl L.toNat (nxO N) (Zbc fin) V s)) (hV : VOK L.toNat N.length (nxO N) V) :
    EvP (fun k => Zan.f k L S fin N us) (fun r => r.length = N.length ∧ ClsOK L.toNat N.length (nxO N) (Zbc fin) V (fun s => rd r (s : Int))) := by
  have hrow : ∀ s : Nat, s < N.length → ((Zam N (s : Int)).length : Int) = L := fun s hs => (row_at hN (s := s) (by omega) (by omega)).1
  have hnx : ∀ s a : Nat, rd (Zam N (s : Int)) (a : Int) = nx N s a := fun s a => by unfold nx; rw [if_neg (by omega)]
  -- the passes
  have pass : ∀ (d : Nat) (c : List Int) (m : Int), c.length = N.length → RI L.toNat N.length (nxO N) (Zbc fin) V (fun s => rd c (s : Int)) → (∀ s, s < N.length → rd c (s : Int) < 65535) → Many N.length (incl L.toNat (nxO N) (Zbc fin) V) (fun s => rd c (s : Int)) m → -1 ≤ m → (N.length : Int) < m + d →
      EvP (fun k => Zan.l1 k c m L S fin N) (fun r => r.length = N.length ∧ ClsOK L.toNat N.length (nxO N) (Zbc fin) V (fun s => rd r (s : Int))) := by
    intro d
    induction d with
    | zero => intro c m h1 h2 h3 h4 h5 h6; exact absurd h6 (by (rcases h4 with h4 | ⟨k, rfl, C⟩); omega; (have := cnt_le C); omega)
    | succ d ihd =>
    intro c m hc hR hB hM hm hd
    have hlo : ∀ s, s < N.length → -1 ≤ rd c (s : Int) := fun s hs => by
      by_cases hi : incl L.toNat (nxO N) (Zbc fin) V s
      · have := hR.nn s hs hi; omega
      · have := hR.out s hs hi; omega
    have hcl : ∀ s a : Nat, s < N.length → a < L.toNat → -1 ≤ clsN c (nx N s a) ∧ clsN c (nx N s a) < 65535 := fun s a hs ha => by
      have hx := nx_in hN (s := s) (a := a) (by omega) (by omega) (by omega)
      unfold clsN
      split
      · rename_i h
        obtain ⟨t, et, ht⟩ := nat_of h hx.2
        rw [et]
        exact ⟨hlo t ht, hB t ht⟩
      · omega
    let sg : Nat → Int × List Int := sigO L.toNat (nxO N) (fun s => rd c (s : Int))
    have sg_eq : ∀ s, sg s = (rd c (s : Int), (List.range L.toNat).map fun (a : Nat) => clsN c (nx N s a)) := fun s => by
      show sigO _ _ _ _ = _
      unfold sigO
      simp only [Prod.mk.injEq, true_and]
      exact List.map_congr_left fun a _ => (clsN_eq s a).symm
    let key : Nat → ByteArray := fun s => strOfNums (keyL (sg s))
    have kinj : ∀ s t, s < N.length → t < N.length → key s = key t → sg s = sg t := by
      intro s t hs ht e
      have q : ∀ s, s < N.length → ∀ x ∈ (sg s).2, -1 ≤ x ∧ x < 65535 := fun s hs x hx => by
        rw [sg_eq] at hx
        obtain ⟨a, ha, rfl⟩ := List.mem_map.1 hx
        exact hcl s a hs (List.mem_range.1 ha)
      refine key_inj ?_ ?_ ?_ (q s hs) (q t ht) e
      · rw [sg_eq, sg_eq]; simp
      · rw [sg_eq]; exact ⟨hlo s hs, hB s hs⟩
      · rw [sg_eq]; exact ⟨hlo t ht, hB t ht⟩
    have states := EvP.up (fun k (st : List Nat × List Int) i => Zan.l2 k c m st.2 (c.length : Int) i L S fin N (Zcr key st.1 0)) (fun r => r.length = N.length ∧ ClsOK L.toNat N.length (nxO N) (Zbc fin) V (fun s => rd r (s : Int))) N.length
      (fun i st => st.2.length = N.length ∧ PassI (incl L.toNat (nxO N) (Zbc fin) V) sg i st.1 (fun s => rd st.2 (s : Int)))
      (fun st ⟨h1, I⟩ => by
        refine EvP.round ?_
        simp only [Zan.l2]
        refine EvP.no (by omega) ?_
        rw [mapOf_length]
        by_cases e : (st.1.length : Int) = m
        · exact EvP.yes e (EvP.ret ⟨h1, many_done hV hR hM I e⟩)
        · refine EvP.no e ?_
          obtain ⟨g1, g2, g3⟩ := many_more hM I e
          refine ihd st.2 _ h1 (hR.step hV I.ref) (fun s hs => ?_) g1 (by omega) (by omega)
          by_cases hi : incl L.toNat (nxO N) (Zbc fin) V s
          · have := I.cnt.lt s hs hi; omega
          · have := I.out s hs hi; omega)
      (fun i st hi ⟨h1, I⟩ ih => by
        refine EvP.round ?_
        simp only [Zan.l2]
        refine EvP.yes (by omega) (EvP.yes (by omega) (EvP.yes (by omega) ?_))
        have keep : ∀ (v : Int) (s : Nat), s < i → rd (st.2.set i v) (s : Int) = rd st.2 (s : Int) := fun v s hs => Zdm (by omega) v
        by_cases hneg : rd c (i : Int) < 0
        · refine EvP.yes hneg (EvP.yes (by omega) ?_)
          rw [w64s (by omega), Int.toNat_natCast]
          have hni : ¬ incl L.toNat (nxO N) (Zbc fin) V i := fun hh => by have := hR.nn i hi hh; omega
          exact ih (st.1, st.2.set i (-1)) ⟨by simp [h1], I.skip hni (Zcc (by omega) _) (keep _)⟩
        · have hin : incl L.toNat (nxO N) (Zbc fin) V i := Classical.byContradiction fun hh => by have := hR.out i hi hh; omega
          have hb := hB i hi
          refine EvP.no hneg (EvP.bind (wordKey_ev _ (by simp)) (EvP.yes (by rw [strOfNums_size]; simp) ?_))
          have eb : bytesOf (strOfNums ([rd c (i : Int) / 256, bits .and .i64 (rd c (i : Int)) 255].map (· % 256))) = two (rd c (i : Int)) := by
            have e0 : [rd c (i : Int) / 256, bits .and .i64 (rd c (i : Int)) 255].map (· % 256) = two (rd c (i : Int)) := by
              rw [and255 (by omega) (by omega)]
              simp [two]
            rw [e0]
            exact bytes_str (two_byte _)
          rw [eb]
          have letters := EvP.up (fun k (x : List Int) a => Zan.l3 k c m st.2 (i : Int) x (c.length : Int) (i : Int) L a L S fin N (Zcr key st.1 0)) (fun r => r.length = N.length ∧ ClsOK L.toNat N.length (nxO N) (Zbc fin) V (fun s => rd r (s : Int))) L.toNat
            (fun a x => x = two (rd c (i : Int)) ++ ((List.range a).map fun (a : Nat) => clsN c (nx N i a)).flatMap two)
            (fun x hx => by
              refine EvP.round ?_
              simp only [Zan.l3]
              refine EvP.no (by omega) ?_
              have ek : strOfNums x = key i := by
                show _ = strOfNums (keyL (sg i))
                rw [hx, sg_eq]
                rfl
              rw [ek]
              have b := mfind_mapOf key (key i) st.1 0 0
              cases hfi : st.1.findIdx? (fun y => decide (key y = key i)) with
              | none =>
                rw [hfi] at b
                have hno : mhas (Zcr key st.1 0) (key i) = false := by unfold mhas; rw [b]; rfl
                refine EvP.no (by rw [hno]; simp) (EvP.yes (by omega) (EvP.yes (by omega) ?_))
                have hset : mset (Zcr key st.1 0) (key i) ((Zcr key st.1 0).length : Int) = Zcr key (st.1 ++ [i]) 0 := by
                  unfold mset
                  rw [b, mapOf_snoc, mapOf_length]
                  rfl
                rw [hset, mapOf_length, w64s (by omega), Int.toNat_natCast]
                refine ih (st.1 ++ [i], st.2.set i _) ⟨by simp [h1], I.new (fun y hy e => ?_) (Zcc (by omega) _) (keep _) hin⟩
                rw [List.findIdx?_eq_none_iff] at hfi
                have := hfi y hy
                simp only [decide_eq_false_iff_not] at this
                exact this (by show strOfNums (keyL (sg y)) = strOfNums (keyL (sg i)); rw [e])
              | some q =>
                rw [hfi] at b
                have hyes : mhas (Zcr key st.1 0) (key i) = true := by unfold mhas; rw [b]; rfl
                refine EvP.yes hyes (EvP.yes (by omega) (EvP.yes (by omega) ?_))
                have hget : mget 0 (Zcr key st.1 0) (key i) = (q : Int) := by unfold mget; rw [b]; simp
                rw [hget, w64s (by omega), Int.toNat_natCast]
                rw [List.findIdx?_eq_some_iff_getElem] at hfi
                obtain ⟨hq, hk, _⟩ := hfi
                have hk := of_decide_eq_true hk
                have hy := (I.first _ (List.getElem_mem hq)).1
                exact ih (st.1, st.2.set i q) ⟨by simp [h1], I.known (List.getElem?_eq_getElem hq) (kinj _ _ (by omega) hi hk) (Zcc (by omega) _) (keep _) hin⟩)
            (fun a x ha hx iha => by
              have hr := hrow i hi
              have hxl : x.length ≤ 2 + 2 * a := by
                rw [hx]
                have : ∀ l : List Int, (l.flatMap two).length = 2 * l.length := fun l => by
                  induction l with
                  | nil => rfl
                  | cons y l ihl => rw [List.flatMap_cons, List.length_append, ihl, List.length_cons]; simp [two]; omega
                rw [List.length_append, this, List.length_map, List.length_range]
                simp [two]
              refine EvP.round ?_
              simp only [Zan.l3]
              refine EvP.yes (by omega) (EvP.yes (by omega) (EvP.yes (by omega) (EvP.yes (by omega) (EvP.yes (by omega) ?_))))
              rw [hnx, w64s (by omega)]
              have p := nx_in hN (s := i) (a := a) (by omega) (by omega) (by omega)
              have next : ∀ y, y = two (clsN c (nx N i a)) → x ++ y = two (rd c (i : Int)) ++ ((List.range (a + 1)).map fun (a : Nat) => clsN c (nx N i a)).flatMap two := fun y hy => by
                rw [hy, hx, List.range_succ, List.map_append, List.flatMap_append, List.append_assoc]
                simp
              by_cases h4 : nx N i a ≥ 0
              · refine EvP.yes h4 (EvP.yes h4 (EvP.yes (by omega) (EvP.here rfl (EvP.yes (by simp; omega) ?_))))
                refine iha _ (next _ ?_)
                unfold clsN
                rw [if_pos h4]
                rfl
              · refine EvP.no h4 (EvP.here rfl (EvP.yes (by simp; omega) ?_))
                refine iha _ (next _ ?_)
                unfold clsN
                rw [if_neg h4]
                rfl)
          have := letters 0 (two (rd c (i : Int))) (by omega) (by simp)
          simpa using this)
    refine EvP.round ?_
    simp only [Zan.l1]
    refine EvP.yes (by omega) (EvP.yes (by omega) ?_)
    have := states 0 ([], List.replicate c.length 0) (by omega) ⟨by simp [hc], PassI.start⟩
    simpa [Zcr] using this
  -- the first classes
  have first := EvP.up (fun k (c : List Int) i => Zan.l0 k us c (N.length : Int) i L S fin N) (fun r => r.length = N.length ∧ ClsOK L.toNat N.length (nxO N) (Zbc fin) V (fun s => rd r (s : Int))) N.length
    (fun i c => c.length = N.length ∧ (∀ s, s < i → ¬ incl L.toNat (nxO N) (Zbc fin) V s → rd c (s : Int) = -1) ∧ (∀ s, s < i → incl L.toNat (nxO N) (Zbc fin) V s → rd c (s : Int) = if Zbc fin s then 1 else 0) ∧ ∀ s, i ≤ s → rd c (s : Int) = 0)
    (fun c ⟨h1, h2, h3, _⟩ => by
      refine EvP.round ?_
      simp only [Zan.l0]
      refine EvP.no (by omega) ?_
      refine pass (N.length + 1) c 0 h1 (ri_first h2 h3) (fun s hs => ?_) (.inl (by omega)) (by omega) (by omega)
      by_cases hi : incl L.toNat (nxO N) (Zbc fin) V s
      · rw [h3 s hs hi]; split <;> omega
      · rw [h2 s hs hi]; omega)
    (fun i c hi ⟨h1, h2, h3, h4⟩ ih => by
      refine EvP.round ?_
      simp only [Zan.l0]
      refine EvP.yes (by omega) (EvP.yes (by omega) (EvP.yes (by omega) ?_))
      rw [w64s (by omega), Int.toNat_natCast]
      have g : ∀ v : Int, (¬ incl L.toNat (nxO N) (Zbc fin) V i → v = -1) → (incl L.toNat (nxO N) (Zbc fin) V i → v = if Zbc fin i then 1 else 0) → (c.set i v).length = N.length ∧ (∀ s, s < i + 1 → ¬ incl L.toNat (nxO N) (Zbc fin) V s → rd (c.set i v) (s : Int) = -1) ∧ (∀ s, s < i + 1 → incl L.toNat (nxO N) (Zbc fin) V s → rd (c.set i v) (s : Int) = if Zbc fin s then 1 else 0) ∧ ∀ s, i + 1 ≤ s → rd (c.set i v) (s : Int) = 0 := by
        intro v g1 g2
        refine ⟨by simp [h1], fun s hs hn => ?_, fun s hs hn => ?_, fun s hs => ?_⟩
        · by_cases e : s = i
          · subst e; rw [Zcc (by omega)]; exact g1 hn
          · rw [Zdm (by omega)]; exact h2 s (by omega) hn
        · by_cases e : s = i
          · subst e; rw [Zcc (by omega)]; exact g2 hn
          · rw [Zdm (by omega)]; exact h3 s (by omega) hn
        · rw [Zdm (by omega)]; exact h4 s (by omega)
      have n := hus i hi
      cases hui : rdOf false us (i : Int)
      · refine EvP.no (by simp) (EvP.yes (by omega) (ih _ (g (-1) (fun _ => rfl) (fun hh => ?_))))
        rw [n.2 hh] at hui; cases hui
      · refine EvP.yes rfl (EvP.yes (by omega) ?_)
        have hin := n.1 hui
        cases hg : rdOf false fin (i : Int)
        · refine EvP.no (by simp) (ih c ?_)
          have hz := h4 i (by omega)
          have hcs : c.set i 0 = c := by
            apply List.ext_getElem?
            intro j
            rw [List.getElem?_set]
            by_cases e : i = j
            · subst e
              rw [rd_lt (by omega : i < c.length)] at hz
              rw [if_pos rfl, if_pos (by omega), List.getElem?_eq_getElem (by omega), hz]
            · rw [if_neg e]
          have := g 0 (fun hh => absurd hin hh) (fun _ => by show (0 : Int) = if rdOf false fin (i : Int) then 1 else 0; rw [hg]; rfl)
          rw [hcs] at this
          exact this
        · refine EvP.yes rfl (EvP.yes (by omega) (ih _ (g 1 (fun hh => absurd hin hh) (fun _ => ?_))))
          show (1 : Int) = if rdOf false fin (i : Int) then 1 else 0
          rw [hg]; rfl)
  unfold Zan.f
  refine EvP.yes (by omega) (EvP.yes (by omega) (EvP.here rfl ?_))
  have := first 0 (List.replicate N.length 0) (by omega) ⟨by simp, fun s hs => absurd hs (by omega), fun s hs => absurd hs (by omega), fun s _ => by
    show (List.replicate N.length (0 : Int)).getD s 0 = 0
    rw [List.getD_eq_getElem?_getD, List.getElem?_replicate]
    split <;> rfl⟩
  simpa using this
end Go.Proofs.YtjdkedmdeajmgaaDoor.U
end M12
section M13
namespace Go.Proofs.YtjdkedmdeajmgaaDoor.U
open Go.RowKit Go.Proofs.YtjdkedmdeajmgaaDoor.P Go.Proofs.YtjdkedmdeajmgaaDoorW.PrintWords Go.Proofs.YtjdkedmdeajmgaaDoorW.PrintLast Go.Proofs.YtjdkedmdeajmgaaDoorW.PrintMore
set_option linter.unusedVariables false
theorem get_false {l : List Bool} {i : Nat} (h : i < l.length) (hv : rdOf false l (i : Int) = false) : l[i] = false := by rw [← rdOf_lt (d := false) h]; exact hv
theorem useful_ev {L S : Int} {N : List (List Int)} (fin : List Bool) (hN : Rows' L N) (hn : N.length ≤ 1048576) (hf : fin.length = N.length) (hL : 0 ≤ L) (o : L ≤ 1048576) (hS : 0 ≤ S) (hSn : S < N.length) :
    EvP (fun k => Zai.f k L S fin N) (IsUse L S N fin) := by
  have hrow : ∀ s : Nat, s < N.length → ((Zam N (s : Int)).length : Int) = L := fun s hs => (row_at hN (s := s) (by omega) (by omega)).1
  have hnx : ∀ s a : Nat, rd (Zam N (s : Int)) (a : Int) = nx N s a := fun s a => by unfold nx; rw [if_neg (by omega)]
  -- the last loop
  have l : ∀ re le : List Bool, re.length = N.length → le.length = N.length → (∀ s : Int, 0 ≤ s → s < N.length → (rdOf false re s = true ↔ Rch L N S s) ∧ (rdOf false le s = true ↔ Led L N fin s)) →
      EvP (fun k => Zai.l3 k re le (re.length : Int) 0) (IsUse L S N fin) := by
    intro re le hr hl hfull
    have loop := EvP.up (fun k (st : List Bool) i => Zai.l3 k st le (re.length : Int) i) (IsUse L S N fin) re.length
      (fun i st => st.length = N.length ∧ ∀ s : Int, 0 ≤ s → s < N.length → (rdOf false st s = true ↔ if s < (i : Int) then Rch L N S s ∧ Led L N fin s else Rch L N S s))
      (fun st ⟨h1, h2⟩ => by
        refine EvP.round ?_
        simp only [Zai.l3]
        refine EvP.no (by omega) (EvP.ret ⟨h1, fun s h3 h4 => ?_⟩)
        have := h2 s h3 h4
        rwa [if_pos (by omega)] at this)
      (fun i st hi ⟨h1, h2⟩ ih => by
        refine EvP.round ?_
        simp only [Zai.l3]
        refine EvP.yes (by omega) (EvP.yes (by omega) (EvP.yes (by omega) ?_))
        rw [w64s (by omega), Int.toNat_natCast]
        have g := h2 i (by omega) (by omega)
        rw [if_neg (by omega)] at g
        have hle := (hfull i (by omega) (by omega)).2
        have nxt : ∀ b : Bool, (b = true ↔ Rch L N S i ∧ Led L N fin i) → ∀ s : Int, 0 ≤ s → s < N.length → (rdOf false (st.set i b) s = true ↔ if s < ((i + 1 : Nat) : Int) then Rch L N S s ∧ Led L N fin s else Rch L N S s) := by
          intro b hb s h3 h4
          rw [rdOf_set h3]
          by_cases e : s = (i : Int)
          · subst e
            rw [if_pos ⟨rfl, by omega⟩, if_pos (by omega)]
            exact hb
          · rw [if_neg (by omega)]
            have := h2 s h3 h4
            by_cases h5 : s < (i : Int)
            · rw [if_pos h5] at this; rw [if_pos (by omega)]; exact this
            · rw [if_neg h5] at this; rw [if_neg (by omega)]; exact this
        cases hv : rdOf false st (i : Int)
        · refine EvP.no (by simp) (ih _ ⟨by simp [h1], nxt false ⟨fun h => (by cases h), fun h => ?_⟩⟩)
          rw [g.2 h.1] at hv; cases hv
        · refine EvP.yes rfl (EvP.yes (by omega) (ih _ ⟨by simp [h1], nxt _ ?_⟩))
          rw [hle]
          exact ⟨fun h => ⟨g.1 hv, h⟩, fun h => h.2⟩)
    have := loop 0 re (by omega) ⟨hr, fun s h3 h4 => by rw [if_neg (by omega)]; exact (hfull s h3 h4).1⟩
    simpa using this
  have main : ∀ q (re le : List Bool), Zby re + Zby le ≤ q → UseI L S N fin re le → EvP (fun k => Zai.l0 k re le true L S fin N) (IsUse L S N fin) := by
    intro q
    induction q using Nat.strongRecOn with
    | _ q ihq =>
    intro c d hm I0
    refine EvP.round ?_
    simp only [Zai.l0]
    refine EvP.yes (by trivial) ?_
    have pass := EvP.up (fun k (st : List Bool × List Bool × Bool) s => Zai.l1 k st.1 st.2.1 st.2.2 N (N.length : Int) s L S fin N) (IsUse L S N fin) N.length
      (fun s st => UseI L S N fin st.1 st.2.1 ∧ (Zby st.1 + Zby st.2.1 ≤ Zby c + Zby d ∧ (st.2.2 = true → Zby st.1 + Zby st.2.1 < Zby c + Zby d)) ∧ (st.2.2 = false → ∀ t a : Int, 0 ≤ t → t < (s : Int) → 0 ≤ a → a < L → paidU N st.1 st.2.1 t a))
      (fun st ⟨h1, h2, h3⟩ => by
        refine EvP.round ?_
        simp only [Zai.l1]
        refine EvP.no (by omega) ?_
        cases hb : st.2.2
        · refine EvP.round ?_
          simp only [Zai.l0]
          refine EvP.no (by simp) ?_
          exact l st.1 st.2.1 h1.rlen h1.live.len (useful_full hN hS hSn h1 (fun t a h4 h5 h6 h7 => h3 hb t a h4 h5 h6 h7))
        · exact ihq _ (by have := h2.2 hb; omega) st.1 st.2.1 (Nat.le_refl _) h1)
      (fun s st hs ⟨h1, h2, h3⟩ ih => by
        refine EvP.round ?_
        simp only [Zai.l1]
        refine EvP.yes (by omega) (EvP.yes (by omega) (EvP.yes (by omega) ?_))
        have hr := hrow s hs
        rw [hr]
        have letters := EvP.up (fun k (st : List Bool × List Bool × Bool) a => Zai.l2 k st.1 st.2.1 st.2.2 (s : Int) N (N.length : Int) (s : Int) (Zam N (s : Int)) L a L S fin N) (IsUse L S N fin) L.toNat
          (fun b st => UseI L S N fin st.1 st.2.1 ∧ (Zby st.1 + Zby st.2.1 ≤ Zby c + Zby d ∧ (st.2.2 = true → Zby st.1 + Zby st.2.1 < Zby c + Zby d)) ∧ (st.2.2 = false → (∀ t a : Int, 0 ≤ t → t < (s : Int) → 0 ≤ a → a < L → paidU N st.1 st.2.1 t a) ∧ ∀ a : Int, 0 ≤ a → a < (b : Int) → paidU N st.1 st.2.1 s a))
          (fun st ⟨h1, h2, h3⟩ => by
            refine EvP.round ?_
            simp only [Zai.l2]
            refine EvP.no (by omega) ?_
            rw [w64s (by omega)]
            refine ih st ⟨h1, h2, fun hb t a h4 h5 h6 h7 => ?_⟩
            by_cases e : t = (s : Int)
            · subst e; exact (h3 hb).2 a h6 (by omega)
            · exact (h3 hb).1 t a h4 (by omega) h6 h7)
          (fun b st hb ⟨h1, h2, h3⟩ ihb => by
            have hl := h1.live.len
            have hrl := h1.rlen
            refine EvP.round ?_
            simp only [Zai.l2]
            refine EvP.yes (by omega) (EvP.yes (by omega) (EvP.yes (by omega) ?_))
            rw [hnx, w64s (by omega)]
            have hx := nx_in hN (s := s) (a := b) (by omega) (by omega) (by omega)
            by_cases h4 : nx N s b < 0
            · refine EvP.yes h4 (ihb st ⟨h1, h2, fun hc => ⟨(h3 hc).1, fun a h5 h6 => ?_⟩⟩)
              by_cases e : a = (b : Int)
              · subst e; intro h7; omega
              · exact (h3 hc).2 a h5 (by omega)
            · refine EvP.no h4 (EvP.yes (by omega) (EvP.yes (by omega) ?_))
              obtain ⟨t, et, ht⟩ := nat_of (by omega : 0 ≤ nx N s b) hx.2
              rw [et]
              -- the second half of the round, whatever the first half did
              have half : ∀ (re : List Bool) (ch : Bool), UseI L S N fin re st.2.1 → (Zby re + Zby st.2.1 ≤ Zby c + Zby d ∧ (ch = true → Zby re + Zby st.2.1 < Zby c + Zby d)) →
                  (ch = false → re = st.1 ∧ st.2.2 = false ∧ (rdOf false re (s : Int) = true → rdOf false re (t : Int) = true)) →
                  EvP (fun k => if (0 : Int) ≤ t then (if (t : Int) < (st.2.1.length : Int) then (if rdOf false st.2.1 (t : Int) = true then (if (0 : Int) ≤ s then (if (s : Int) < (st.2.1.length : Int) then (if rdOf false st.2.1 (s : Int) = true then Zai.l2 k re st.2.1 ch (s : Int) N (N.length : Int) (s : Int) (Zam N (s : Int)) L ((b + 1 : Nat) : Int) L S fin N else Zai.l2 k re (st.2.1.set ((s : Int)).toNat true) true (s : Int) N (N.length : Int) (s : Int) (Zam N (s : Int)) L ((b + 1 : Nat) : Int) L S fin N) else none) else none) else Zai.l2 k re st.2.1 ch (s : Int) N (N.length : Int) (s : Int) (Zam N (s : Int)) L ((b + 1 : Nat) : Int) L S fin N) else none) else none) (IsUse L S N fin) := by
                intro re ch g1 g2 g3
                refine EvP.yes (by omega) (EvP.yes (by omega) ?_)
                have keep : (rdOf false st.2.1 (t : Int) = true → rdOf false st.2.1 (s : Int) = true) → EvP (fun k => Zai.l2 k re st.2.1 ch (s : Int) N (N.length : Int) (s : Int) (Zam N (s : Int)) L ((b + 1 : Nat) : Int) L S fin N) (IsUse L S N fin) := by
                  intro hk
                  refine ihb (re, st.2.1, ch) ⟨g1, g2, fun hc => ?_⟩
                  obtain ⟨e1, e2, e3⟩ := g3 hc
                  subst e1
                  refine ⟨(h3 e2).1, fun a h5 h6 => ?_⟩
                  by_cases e : a = (b : Int)
                  · subst e; intro _; rw [et]; exact ⟨e3, hk⟩
                  · exact (h3 e2).2 a h5 (by omega)
                cases hw : rdOf false st.2.1 (t : Int)
                · exact EvP.no (by simp) (keep (fun h => by rw [hw] at h; cases h))
                · refine EvP.yes rfl (EvP.yes (by omega) (EvP.yes (by omega) ?_))
                  cases hu : rdOf false st.2.1 (s : Int)
                  · refine EvP.no (by simp) ?_
                    have p := falses_set (by omega) (get_false (by omega) hu)
                    rw [Int.toNat_natCast]
                    refine ihb (re, st.2.1.set s true, true) ⟨⟨g1.rlen, g1.rsound, g1.start, live_mark hN g1.live hs (a := (b : Int)) (by omega) (by omega) (by omega) (by rw [et]; exact hw)⟩, ⟨by simp only; omega, fun _ => by simp only; omega⟩, fun hc => by cases hc⟩
                  · exact EvP.yes rfl (keep (fun _ => hu))
              have j : ∀ flag : Bool, (flag = true → rdOf false st.1 (s : Int) = true ∧ rdOf false st.1 (t : Int) = false) → (flag = false → (rdOf false st.1 (s : Int) = true → rdOf false st.1 (t : Int) = true)) →
                  EvP (fun k => Zai.j3 k st.1 st.2.1 st.2.2 (s : Int) (t : Int) N (N.length : Int) (s : Int) (Zam N (s : Int)) L (b : Int) flag L S fin N) (IsUse L S N fin) := by
                intro flag f1 f2
                refine EvP.round ?_
                simp only [Zai.j3]
                rw [w64s (by omega)]
                cases flag
                · refine EvP.no (by simp) ?_
                  exact half st.1 st.2.2 h1 h2 (fun hc => ⟨rfl, hc, f2 rfl⟩)
                · obtain ⟨e1, e2⟩ := f1 rfl
                  refine EvP.yes (by trivial) (EvP.yes (by omega) (EvP.yes (by omega) (EvP.here rfl ?_)))
                  have v := falses_set (by omega) (get_false (by omega) e2)
                  rw [Int.toNat_natCast]
                  have := half (st.1.set t true) true (reach_mark h1 (by omega) (by omega) (by omega) (by omega) et e1) ⟨by omega, fun _ => by omega⟩ (fun hc => by cases hc)
                  refine (show EvP _ _ from ?_)
                  obtain ⟨r, m, n⟩ := this
                  refine ⟨r, ?_, n⟩
                  refine Ev.congr (fun k => ?_) m
                  rw [if_pos (by omega : (0 : Int) ≤ t)]
              cases hv : rdOf false st.1 (s : Int)
              · exact EvP.no (by simp) (j false (fun h => by cases h) (fun _ h => by rw [hv] at h; cases h))
              · refine EvP.yes rfl (EvP.yes (by omega) (EvP.yes (by omega) ?_))
                cases hw : rdOf false st.1 (t : Int)
                · exact j true (fun _ => ⟨hv, hw⟩) (fun h => by cases h)
                · exact j false (fun h => by cases h) (fun _ _ => hw))
        have := letters 0 st (by omega) ⟨h1, h2, fun hc => ⟨fun t a h4 h5 h6 h7 => h3 hc t a h4 h5 h6 h7, fun a h5 h6 => absurd h6 (by omega)⟩⟩
        simpa using this)
    have := pass 0 (c, d, false) (by omega) ⟨I0, ⟨Nat.le_refl _, fun h => by cases h⟩, fun _ t a h4 h5 => absurd h5 (by omega)⟩
    simpa using this
  unfold Zai.f
  obtain ⟨S', rfl, hS'⟩ := nat_of hS hSn
  refine EvP.yes (by omega) (EvP.yes (by omega) (EvP.here rfl (EvP.here (clone_eq (by omega)) (EvP.yes (by omega) (EvP.yes (by simp; omega) ?_)))))
  rw [Int.toNat_natCast, Int.toNat_natCast]
  refine main _ _ _ (Nat.le_refl _) ⟨by simp, fun s h0 h1 h => ?_, ?_, ⟨hf, fun s h0 h1 h => .base h0 h1 h, fun s _ _ h => h⟩⟩
  · rw [rdOf_set h0] at h
    by_cases e : s = (S' : Int)
    · subst e; exact .start
    · rw [if_neg (by omega)] at h
      obtain ⟨u, rfl, hu⟩ := nat_of h0 h1
      rw [rdOf_lt (by simp; exact hu)] at h
      simp at h
  · rw [rdOf_set (by omega), if_pos ⟨rfl, by simp; exact hS'⟩]
end Go.Proofs.YtjdkedmdeajmgaaDoor.U
end M13
