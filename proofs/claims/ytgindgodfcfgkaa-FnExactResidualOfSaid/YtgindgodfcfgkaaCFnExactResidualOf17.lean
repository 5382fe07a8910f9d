import Derived.ChangeShapes
import Derived.Deep.Slices
import Derived.Lib.SmallJoins
import Derived.Test.YtgindgodfcfgkaaCFnExactResidualOf8
import Derived.Test.YtgindgodfcfgkaaCFnExactResidualOf14
section M0
namespace Go.Proofs.Ytgindgodfcfgkaa.Op
open Go.RowKit Go.Proofs.YtgindgodfcfgkaaW.PrintWords Go.Proofs.YtgindgodfcfgkaaW.PrintLast Go.Proofs.YtgindgodfcfgkaaW.PrintMore
/-- What is read at type t lies in memory as kind d says. -/
def Opens {α : Type} (P : Program) (t : TypeId) (d : Kd α) (ok : α → Prop) : Prop :=
  ∀ (H : Type) (enc : TypeId × Value → H) (w : World) (base : Nat) (held : Bool) (fuel : Nat) (cs : List Value) (x : DataW H × List MemPlace),
    DataW.trod enc P w base (fun _ => true) held fuel t cs = some x → ∃ a, d.K w a cs ∧ ok a
theorem opens_int {P : Program} {t : TypeId} {k : IntKind} (ht : P.underlying t = some (.int k)) : Opens P t (Kd.int k) (fun n => (Lit.int k n).wf = true) := by
  intro H enc w base held fuel cs x h
  obtain ⟨n, rfl, _, hw⟩ := DataW.trod_int ht h
  exact ⟨n, rfl, hw⟩
theorem opens_slice {α : Type} {P : Program} {t e : TypeId} {d : Kd α} {ok : α → Prop} (ht : P.underlying t = some (.slice e)) (hc : P.cellsOf e = d.sz) (he : Opens P e d ok) :
    Opens P t (Kd.slice e d) (fun xs => xs.length ≤ maxLen ∧ ∀ x ∈ xs, ok x) := by
  intro H enc w base held fuel cs x h
  rcases DataW.trod_slice ht h with ⟨rfl, _⟩ | ⟨a, len, cap, elems, rest, n, _, rfl, _, hb, hl, hm, hlen, hel, _, _⟩
  · exact ⟨[], ⟨none, 0, rfl, Nat.le_refl _, rfl, by simp, fun h => absurd h (by simp)⟩, by simp, by simp⟩
  · have each : ∀ i, i < len → ∃ y : α × List Value, y.2.length = d.sz ∧ d.K w y.1 y.2 ∧ ok y.1 ∧ ∀ j u, y.2[j]? = some u → w.cell? (a.add (i * d.sz + j)) = some u := by
      intro i hi
      have h1 := hel i hi
      rw [List.getElem?_eq_getElem (by omega), Option.bind_eq_some_iff] at h1
      obtain ⟨cs', h2, h3⟩ := h1
      obtain ⟨y, hk, ho⟩ := he _ _ _ _ _ _ _ _ h3
      obtain ⟨_, h5, h6⟩ := World.cells?_some h2
      refine ⟨(y, cs'), h5.trans hc, hk, ho, fun j u hj => ?_⟩
      have hjl : j < P.cellsOf e := by rw [← h5]; exact (List.getElem?_eq_some_iff.1 hj).1
      have h7 := h6 j hjl
      rw [hj, hc] at h7
      rw [← Addr.add_add]
      exact h7
    have hy := fun i : Fin len => Classical.choose_spec (each i.1 i.2)
    generalize hY : (fun i : Fin len => Classical.choose (each i.1 i.2)) = y at hy
    have hy' : ∀ i : Fin len, (y i).2.length = d.sz ∧ d.K w (y i).1 (y i).2 ∧ ok (y i).1 ∧ ∀ j u, (y i).2[j]? = some u → w.cell? (a.add (i.1 * d.sz + j)) = some u := by
      intro i; rw [← hY]; exact hy i
    clear hy hY
    have hln : (List.ofFn fun i => (y i).1).length = len := by simp
    refine ⟨List.ofFn fun i => (y i).1, ⟨some a, cap, by rw [hln], by rw [hln]; exact hl, ?_⟩, by rw [hln]; omega, ?_⟩
    · refine ⟨rfl, by rw [hln]; unfold maxLen at hm; omega, fun _ => ⟨a, rfl, fun j p hj => ?_⟩⟩
      have hjl : j < len := by rw [← hln]; exact (List.getElem?_eq_some_iff.1 hj).1
      rw [List.getElem?_ofFn, dif_pos hjl, Option.some.injEq] at hj
      subst hj
      obtain ⟨q1, q2, _, q4⟩ := hy' ⟨j, hjl⟩
      exact ⟨(y ⟨j, hjl⟩).2, q1, q2, fun i u hi => q4 i u hi⟩
    · intro x hx
      rw [List.mem_ofFn] at hx
      obtain ⟨i, rfl⟩ := hx
      exact (hy' i).2.2.1
/-- An argument that is a slice. -/
theorem open_row {α : Type} {P : Program} {t e : TypeId} {d : Kd α} {ok : List α → Prop} {H : Type} {enc : TypeId × Value → H} {w : World} {base fuel : Nat} {held : Bool} {v : Value} {x : DataW H × List MemPlace}
    (h : DataW.trod enc P w base (fun _ => true) held fuel t [v] = some x) (hs : Opens P t (Kd.slice e d) ok) : ∃ A c xs, v = .slice A xs.length c ∧ xs.length ≤ c ∧ d.C w A xs.length xs ∧ ok xs := by
  obtain ⟨xs, ⟨A, c, hv, hl, hr⟩, ho⟩ := hs _ _ _ _ _ _ _ _ h
  exact ⟨A, c, xs, by simpa using hv, hl, hr, ho⟩
end Go.Proofs.Ytgindgodfcfgkaa.Op
end M0
section M1
namespace Go.Proofs.Ytgindgodfcfgkaa.P
open Go.RowKit Go.Proofs.Ytgindgodfcfgkaa.Sh Go.Proofs.YtgindgodfcfgkaaW.PrintWords Go.Proofs.YtgindgodfcfgkaaW.PrintLast Go.Proofs.YtgindgodfcfgkaaW.PrintMore
attribute [local go_sem] Zcc Zcd Zck Zcl Zb2 Zb3 Zce Zcb   -- for this text's walks alone
set_option linter.unusedVariables false
set_option linter.unusedSimpArgs false
/-! ### impl_machine_functions: function 60 -/
/-! ### impl_followed: function 61 -/
/-! ### slices_Clone_int64_int64: function 65 -/
/-! ### laws_big: function 28 -/
/-- A state of type 115 at block g of W; what its slices lead to came in by w0. -/
def Zb9 (w0 W : World) (g : Nat) (f0 : List Int) (f1 : Int) (f2 : Int) : Prop := ∃ A0 c0, W.heap[g]? = some (.cells #[.slice A0 f0.length c0, .int .i64 f1, .int .u64 f2] 115 (0, 0)) ∧ w0.heap.size ≤ g ∧ Kd.C (Kd.int .u8) w0 A0 f0.length f0
theorem Zb9.grown {w0 W : World} {g : Nat} {f0 : List Int} {f1 : Int} {f2 : Int} {W1 : World} {row : Option Nat} (h : Zb9 w0 W g f0 f1 f2) (hw : W.grownBy W1 row) (hne : some g ≠ row) : Zb9 w0 W1 g f0 f1 f2 := by
 obtain ⟨A0, c0, hb, hg, a⟩ := h
 exact ⟨A0, c0, Zaq hb hw hne, hg, a⟩
theorem Zb9.kept {w0 W : World} {g : Nat} {f0 : List Int} {f1 : Int} {f2 : Int} {W1 : World} {S : Nat → Prop} (h : Zb9 w0 W g f0 f1 f2) (hk : Kept W W1 S) (hne : ¬ S g) : Zb9 w0 W1 g f0 f1 f2 := by
 obtain ⟨A0, c0, hb, hg, a⟩ := h
 exact ⟨A0, c0, Zc8 hb hk hne, hg, a⟩
theorem Zb9.below {w0 W : World} {g : Nat} {f0 : List Int} {f1 : Int} {f2 : Int} {W1 : World} (h : Zb9 w0 W g f0 f1 f2) (hw : Below W.heap.size W W1) : Zb9 w0 W1 g f0 f1 f2 := h.grown (grown_of_below hw none) (by simp)
theorem Zb9.alloc {w0 W : World} {g : Nat} {f0 : List Int} {f1 : Int} {f2 : Int} (h : Zb9 w0 W g f0 f1 f2) (o : Obj) : Zb9 w0 (W.alloc o) g f0 f1 f2 := h.below (Zbe (Below.refl _ _) o)
theorem Zb9.drewN {w0 W : World} {g : Nat} {f0 : List Int} {f1 : Int} {f2 : Int} (h : Zb9 w0 W g f0 f1 f2) (m : Nat) : Zb9 w0 (W.drewN m) g f0 f1 f2 := h
theorem Zb9.drew {w0 W : World} {g : Nat} {f0 : List Int} {f1 : Int} {f2 : Int} (h : Zb9 w0 W g f0 f1 f2) : Zb9 w0 W.drew g f0 f1 f2 := h
theorem Zb9.at_ {w0 W : World} {g : Nat} {f0 : List Int} {f1 : Int} {f2 : Int} {w' : World} {m : Nat} (hq : W.drewN m = w') (h : Zb9 w0 W g f0 f1 f2) : Zb9 w0 w' g f0 f1 f2 := by subst hq; exact Zb9.drewN h m
theorem Zb9.apart {w0 W : World} {g : Nat} {f0 : List Int} {f1 : Int} {f2 : Int} {α : Type} {d : Kd α} {e : Nat} {base : Nat} {ok : Nat → Prop} {v : Value} {xs : List α} (h : Zb9 w0 W g f0 f1 f2) (ho : d.R e W base ok v xs) (ht : ∀ q, q ∈ e :: d.E → q ≠ 115) : d.R e W base (fun k => ok k ∧ k ≠ g) v xs := by
 obtain ⟨A0, c0, hb, hg, a⟩ := h
 exact Kd.zX ho hb ht
theorem Zb9.own_ne {w0 W : World} {g : Nat} {f0 : List Int} {f1 : Int} {f2 : Int} {α : Type} {d : Kd α} {e : Nat} {base : Nat} {ok : Nat → Prop} {v : Value} {xs : List α} (h : Zb9 w0 W g f0 f1 f2) (ho : d.R e W base ok v xs) (ht : e ≠ 115) : some g ≠ v.ownBlock := by
 obtain ⟨A0, c0, hb, hg, a⟩ := h
 exact Kd.zQ ho hb ht
theorem Zb9.lt {w0 W : World} {g : Nat} {f0 : List Int} {f1 : Int} {f2 : Int} (h : Zb9 w0 W g f0 f1 f2) : g < W.heap.size := by
 obtain ⟨A0, c0, hb, hg, a⟩ := h
 exact blk_lt hb
theorem Zb9.new (w0 W : World) (A0 : Option Addr) (c0 : Nat) (f0 : List Int) (f1 : Int) (f2 : Int) (hB : Below w0.heap.size w0 W) (a : Kd.C (Kd.int .u8) w0 A0 f0.length f0) : Zb9 w0 (W.alloc (.cells #[.slice A0 f0.length c0, .int .i64 f1, .int .u64 f2] 115)) W.heap.size f0 f1 f2 := ⟨A0, c0, by simpa using heap_alloc_new W _, hB.size, a⟩
/-! ### spec_l01From: function 72 -/
/-! ### spec_l01Next: function 73 -/
end Go.Proofs.Ytgindgodfcfgkaa.P
end M1
section M2
namespace Go.Proofs.Ytgindgodfcfgkaa.P
open Go.RowKit Go.Proofs.Ytgindgodfcfgkaa.Sh Go.Proofs.YtgindgodfcfgkaaW.PrintWords Go.Proofs.YtgindgodfcfgkaaW.PrintLast Go.Proofs.YtgindgodfcfgkaaW.PrintMore
attribute [local go_sem] Zcc Zcd Zck Zcl Zb2 Zb3 Zce Zcb   -- for this text's walks alone
set_option linter.unusedVariables false
set_option linter.unusedSimpArgs false
/-! ### spec_IsAutomaton: function 68 -/
/-- A state of type 83 at block g of W; what its slices lead to came in by w0. -/
def Zcp (w0 W : World) (g : Nat) (f0 : List Int) (f1 : Int) (f2 : Int) : Prop := ∃ A0 c0, W.heap[g]? = some (.cells #[.slice A0 f0.length c0, .int .i64 f1, .int .u64 f2] 83 (0, 0)) ∧ w0.heap.size ≤ g ∧ Kd.C (Kd.int .u8) w0 A0 f0.length f0
theorem Zcp.grown {w0 W : World} {g : Nat} {f0 : List Int} {f1 : Int} {f2 : Int} {W1 : World} {row : Option Nat} (h : Zcp w0 W g f0 f1 f2) (hw : W.grownBy W1 row) (hne : some g ≠ row) : Zcp w0 W1 g f0 f1 f2 := by
 obtain ⟨A0, c0, hb, hg, a⟩ := h
 exact ⟨A0, c0, Zaq hb hw hne, hg, a⟩
theorem Zcp.kept {w0 W : World} {g : Nat} {f0 : List Int} {f1 : Int} {f2 : Int} {W1 : World} {S : Nat → Prop} (h : Zcp w0 W g f0 f1 f2) (hk : Kept W W1 S) (hne : ¬ S g) : Zcp w0 W1 g f0 f1 f2 := by
 obtain ⟨A0, c0, hb, hg, a⟩ := h
 exact ⟨A0, c0, Zc8 hb hk hne, hg, a⟩
theorem Zcp.below {w0 W : World} {g : Nat} {f0 : List Int} {f1 : Int} {f2 : Int} {W1 : World} (h : Zcp w0 W g f0 f1 f2) (hw : Below W.heap.size W W1) : Zcp w0 W1 g f0 f1 f2 := h.grown (grown_of_below hw none) (by simp)
theorem Zcp.alloc {w0 W : World} {g : Nat} {f0 : List Int} {f1 : Int} {f2 : Int} (h : Zcp w0 W g f0 f1 f2) (o : Obj) : Zcp w0 (W.alloc o) g f0 f1 f2 := h.below (Zbe (Below.refl _ _) o)
theorem Zcp.drewN {w0 W : World} {g : Nat} {f0 : List Int} {f1 : Int} {f2 : Int} (h : Zcp w0 W g f0 f1 f2) (m : Nat) : Zcp w0 (W.drewN m) g f0 f1 f2 := h
theorem Zcp.drew {w0 W : World} {g : Nat} {f0 : List Int} {f1 : Int} {f2 : Int} (h : Zcp w0 W g f0 f1 f2) : Zcp w0 W.drew g f0 f1 f2 := h
theorem Zcp.at_ {w0 W : World} {g : Nat} {f0 : List Int} {f1 : Int} {f2 : Int} {w' : World} {m : Nat} (hq : W.drewN m = w') (h : Zcp w0 W g f0 f1 f2) : Zcp w0 w' g f0 f1 f2 := by subst hq; exact Zcp.drewN h m
theorem Zcp.apart {w0 W : World} {g : Nat} {f0 : List Int} {f1 : Int} {f2 : Int} {α : Type} {d : Kd α} {e : Nat} {base : Nat} {ok : Nat → Prop} {v : Value} {xs : List α} (h : Zcp w0 W g f0 f1 f2) (ho : d.R e W base ok v xs) (ht : ∀ q, q ∈ e :: d.E → q ≠ 83) : d.R e W base (fun k => ok k ∧ k ≠ g) v xs := by
 obtain ⟨A0, c0, hb, hg, a⟩ := h
 exact Kd.zX ho hb ht
theorem Zcp.own_ne {w0 W : World} {g : Nat} {f0 : List Int} {f1 : Int} {f2 : Int} {α : Type} {d : Kd α} {e : Nat} {base : Nat} {ok : Nat → Prop} {v : Value} {xs : List α} (h : Zcp w0 W g f0 f1 f2) (ho : d.R e W base ok v xs) (ht : e ≠ 83) : some g ≠ v.ownBlock := by
 obtain ⟨A0, c0, hb, hg, a⟩ := h
 exact Kd.zQ ho hb ht
theorem Zcp.lt {w0 W : World} {g : Nat} {f0 : List Int} {f1 : Int} {f2 : Int} (h : Zcp w0 W g f0 f1 f2) : g < W.heap.size := by
 obtain ⟨A0, c0, hb, hg, a⟩ := h
 exact blk_lt hb
theorem Zcp.new (w0 W : World) (A0 : Option Addr) (c0 : Nat) (f0 : List Int) (f1 : Int) (f2 : Int) (hB : Below w0.heap.size w0 W) (a : Kd.C (Kd.int .u8) w0 A0 f0.length f0) : Zcp w0 (W.alloc (.cells #[.slice A0 f0.length c0, .int .i64 f1, .int .u64 f2] 83)) W.heap.size f0 f1 f2 := ⟨A0, c0, by simpa using heap_alloc_new W _, hB.size, a⟩
/-! ### laws_dice_below: function 69 -/
/-! ### laws_walk9: function 30 -/
end Go.Proofs.Ytgindgodfcfgkaa.P
end M2
section M3
namespace Go.Proofs.Ytgindgodfcfgkaa.U
open Go.RowKit Go.Proofs.YtgindgodfcfgkaaW.PrintWords Go.Proofs.YtgindgodfcfgkaaW.PrintLast
set_option linter.unusedVariables false
/-! Small laws of numbers and lists for the plain part: what a printed loop comes to. -/
theorem w64 {n : Int} (h0 : -9223372036854775808 ≤ n) (h1 : n ≤ 9223372036854775807) : wrap64 n = n := by unfold wrap64; omega
theorem w64s {n : Nat} (h : n < 9223372036854775807) : wrap64 ((n : Int) + 1) = ((n + 1 : Nat) : Int) := by unfold wrap64; omega
theorem rd_lt {l : List Int} {i : Nat} (h : i < l.length) : rd l (i : Int) = l[i] := by
  show l.getD i 0 = _; rw [List.getD_eq_getElem?_getD, List.getElem?_eq_getElem h]; rfl
theorem rdOf_lt {α : Type} {d : α} {l : List α} {i : Nat} (h : i < l.length) : rdOf d l (i : Int) = l[i] := by
  show l.getD i d = _; rw [List.getD_eq_getElem?_getD, List.getElem?_eq_getElem h]; rfl
/-- One round more, the loop's own equation still to be unfolded. -/
theorem Ev.round {α : Type} {g : Nat → Option α} {r : α} (h : Ev (fun k => g (k + 1)) r) : Ev g r := by
  obtain ⟨K, h⟩ := h
  refine ⟨K + 1, fun n hn => ?_⟩
  obtain ⟨m, rfl⟩ : ∃ m, n = m + 1 := ⟨n - 1, by omega⟩
  exact h m (by omega)
theorem Ev.here {α β : Type} {g : Option α} {f : Nat → α → Option β} {a : α} {r : β} (h : g = some a) (k : Ev (fun n => f n a) r) : Ev (fun n => g.bind (f n)) r := by
  subst h; exact k
theorem Ev.yes {α : Type} {c : Prop} [Decidable c] {A B : Nat → Option α} {r : α} (h : c) (k : Ev A r) : Ev (fun n => if c then A n else B n) r := Ev.congr (fun _ => if_pos h) k
theorem Ev.no {α : Type} {c : Prop} [Decidable c] {A B : Nat → Option α} {r : α} (h : ¬ c) (k : Ev B r) : Ev (fun n => if c then A n else B n) r := Ev.congr (fun _ => if_neg h) k
/-- An upward loop over an index: what it comes to from i on, if what one round does is known. -/
theorem Ev.up {σ ρ : Type} (L : Nat → σ → Int → Option ρ) (n : Nat) (R : Nat → σ → ρ) (I : Nat → σ → Prop)
    (hend : ∀ s, I n s → Ev (fun k => L k s (n : Int)) (R n s))
    (hstep : ∀ i s, i < n → I i s → (∀ s', I (i + 1) s' → Ev (fun k => L k s' ((i + 1 : Nat) : Int)) (R (i + 1) s')) → Ev (fun k => L k s (i : Int)) (R i s)) :
    ∀ i s, i ≤ n → I i s → Ev (fun k => L k s (i : Int)) (R i s) := by
  intro i s hi hI
  obtain ⟨d, hd⟩ : ∃ d, n - i = d := ⟨_, rfl⟩
  induction d generalizing i s with
  | zero =>
    have : i = n := by omega
    subst this
    exact hend s hI
  | succ d ih => exact hstep i s (by omega) hI (fun s' h' => ih (i + 1) s' (by omega) h' (by omega))
/-- The rounds come to something that Q says. -/
def EvP {α : Type} (g : Nat → Option α) (Q : α → Prop) : Prop := ∃ r, Ev g r ∧ Q r
theorem EvP.ret {α : Type} {Q : α → Prop} {r : α} (q : Q r) : EvP (fun _ => some r) Q := ⟨r, Ev.now r, q⟩
theorem EvP.mono {α : Type} {g : Nat → Option α} {Q Q' : α → Prop} (h : EvP g Q) (k : ∀ r, Q r → Q' r) : EvP g Q' := by
  obtain ⟨r, h, q⟩ := h; exact ⟨r, h, k r q⟩
theorem EvP.round {α : Type} {g : Nat → Option α} {Q : α → Prop} (h : EvP (fun k => g (k + 1)) Q) : EvP g Q := by
  obtain ⟨r, h, q⟩ := h; exact ⟨r, Ev.round h, q⟩
theorem EvP.yes {α : Type} {c : Prop} [Decidable c] {A B : Nat → Option α} {Q : α → Prop} (h : c) (k : EvP A Q) : EvP (fun n => if c then A n else B n) Q := by
  obtain ⟨r, k, q⟩ := k; exact ⟨r, Ev.yes h k, q⟩
theorem EvP.no {α : Type} {c : Prop} [Decidable c] {A B : Nat → Option α} {Q : α → Prop} (h : ¬ c) (k : EvP B Q) : EvP (fun n => if c then A n else B n) Q := by
  obtain ⟨r, k, q⟩ := k; exact ⟨r, Ev.no h k, q⟩
theorem EvP.here {α β : Type} {g : Option α} {f : Nat → α → Option β} {a : α} {Q : β → Prop} (h : g = some a) (k : EvP (fun n => f n a) Q) : EvP (fun n => g.bind (f n)) Q := by
  obtain ⟨r, k, q⟩ := k; exact ⟨r, Ev.here h k, q⟩
theorem EvP.bind {α β : Type} {g : Nat → Option α} {f : Nat → α → Option β} {a : α} {Q : β → Prop} (h : Ev g a) (k : EvP (fun n => f n a) Q) : EvP (fun n => (g n).bind (f n)) Q := by
  obtain ⟨r, k, q⟩ := k; exact ⟨r, Ev.bind h k, q⟩
theorem EvP.bindP {α β : Type} {g : Nat → Option α} {f : Nat → α → Option β} {R : α → Prop} {Q : β → Prop} (h : EvP g R) (k : ∀ a, R a → EvP (fun n => f n a) Q) : EvP (fun n => (g n).bind (f n)) Q := by
  obtain ⟨a, h, q⟩ := h; exact EvP.bind h (k a q)
theorem EvP.up {σ ρ : Type} (L : Nat → σ → Int → Option ρ) (Q : ρ → Prop) (n : Nat) (I : Nat → σ → Prop)
    (hend : ∀ s, I n s → EvP (fun k => L k s (n : Int)) Q)
    (hstep : ∀ i s, i < n → I i s → (∀ s', I (i + 1) s' → EvP (fun k => L k s' ((i + 1 : Nat) : Int)) Q) → EvP (fun k => L k s (i : Int)) Q) :
    ∀ i s, i ≤ n → I i s → EvP (fun k => L k s (i : Int)) Q := by
  intro i s hi hI
  obtain ⟨d, hd⟩ : ∃ d, n - i = d := ⟨_, rfl⟩
  induction d generalizing i s with
  | zero =>
    have : i = n := by omega
    subst this
    exact hend s hI
  | succ d ih => exact hstep i s (by omega) hI (fun s' h' => ih (i + 1) s' (by omega) h' (by omega))
theorem EvP.ex {α : Type} {g : Nat → Option α} {Q : α → Prop} (h : EvP g Q) : ∃ r, Q r ∧ Ev g r := by
  obtain ⟨r, h, q⟩ := h; exact ⟨r, q, h⟩
/-- How many are still false. -/
def Zbs (l : List Bool) : Nat := l.count false
theorem falses_set {l : List Bool} {i : Nat} (hi : i < l.length) (h : l[i] = false) : Zbs (l.set i true) + 1 = Zbs l := by
  induction l generalizing i with
  | nil => simp at hi
  | cons b l ih =>
    cases i with
    | zero =>
      simp only [List.getElem_cons_zero] at h
      subst h
      simp [Zbs]
    | succ i =>
      simp only [List.getElem_cons_succ] at h
      have := ih (by simpa using hi) h
      simp only [List.set_cons_succ, Zbs, List.count_cons] at this ⊢
      omega
end Go.Proofs.Ytgindgodfcfgkaa.U
end M3
section M4
namespace Go.Proofs.Ytgindgodfcfgkaa.U
open Go.RowKit Go.Proofs.Ytgindgodfcfgkaa.P Go.Proofs.YtgindgodfcfgkaaW.PrintWords Go.Proofs.YtgindgodfcfgkaaW.PrintLast
set_option linter.unusedVariables false
/-! What the law's own helpers come to: copies, equality, sizes. -/
theorem toS (x0 : List Int) (hn : x0.length ≤ 35184372088832) : Ev (fun k => Zba.f k x0) x0 := by
  have key := Ev.up (fun k s i => Zba.l0 k x0 s i) x0.length (fun _ _ => x0) (fun i s => s.length = x0.length ∧ ∀ j, j < i → s[j]? = x0[j]?)
    (fun s ⟨h1, h2⟩ => by
      refine Ev.round ?_
      simp only [Zba.l0]
      refine Ev.no (by omega) ?_
      have : s = x0 := List.ext_getElem? fun j => by
        by_cases hj : j < x0.length
        · exact h2 j hj
        · rw [List.getElem?_eq_none (by omega), List.getElem?_eq_none (by omega)]
      rw [this]
      exact Ev.now _)
    (fun i s hi ⟨h1, h2⟩ ih => by
      refine Ev.round ?_
      simp only [Zba.l0]
      refine Ev.yes (by omega) (Ev.yes (by omega) (Ev.yes (by omega) ?_))
      rw [w64s (by omega)]
      refine ih _ ⟨by simp [h1], fun j hj => ?_⟩
      rw [Int.toNat_natCast, rd_lt hi]
      by_cases e : j = i
      · subst e
        rw [List.getElem?_set_self (by omega), List.getElem?_eq_getElem hi]
      · rw [List.getElem?_set_ne (by omega)]
        exact h2 j (by omega))
  unfold Zba.f
  refine Ev.yes (by omega) (Ev.yes (by omega) ?_)
  have := key 0 (List.replicate x0.length 0) (by omega) ⟨by simp, fun j hj => absurd hj (by omega)⟩
  simpa using this
theorem toSS (x0 : List (List Int)) (hn : x0.length ≤ 1048576) (hr : ∀ x ∈ x0, x.length ≤ 1048576) : Ev (fun k => Zbo.f k x0) x0 := by
  have key := Ev.up (fun k s i => Zbo.l0 k x0 s i) x0.length (fun _ _ => x0) (fun i s => s.length = x0.length ∧ ∀ j, j < i → s[j]? = x0[j]?)
    (fun s ⟨h1, h2⟩ => by
      refine Ev.round ?_
      simp only [Zbo.l0]
      refine Ev.no (by omega) ?_
      have : s = x0 := List.ext_getElem? fun j => by
        by_cases hj : j < x0.length
        · exact h2 j hj
        · rw [List.getElem?_eq_none (by omega), List.getElem?_eq_none (by omega)]
      rw [this]
      exact Ev.now _)
    (fun i s hi ⟨h1, h2⟩ ih => by
      refine Ev.round ?_
      simp only [Zbo.l0]
      refine Ev.yes (by omega) (Ev.yes (by omega) ?_)
      have hg : Zah x0 (i : Int) = x0[i] := rdOf_lt (d := []) hi
      rw [hg]
      refine Ev.bind (toS x0[i] (by have := hr _ (List.getElem_mem hi); omega)) (Ev.yes (by omega) ?_)
      rw [w64s (by omega)]
      refine ih _ ⟨by simp [h1], fun j hj => ?_⟩
      rw [Int.toNat_natCast]
      by_cases e : j = i
      · subst e
        rw [List.getElem?_set_self (by omega), List.getElem?_eq_getElem hi]
      · rw [List.getElem?_set_ne (by omega)]
        exact h2 j (by omega))
  unfold Zbo.f
  refine Ev.yes (by omega) (Ev.yes (by omega) ?_)
  have := key 0 (List.replicate x0.length []) (by omega) ⟨by simp, fun j hj => absurd hj (by omega)⟩
  simpa using this
theorem eqS (a b : List Int) (hn : a.length ≤ 9223372036854775806) : Ev (fun k => Zbc.f k a b) (decide (a = b)) := by
  unfold Zbc.f
  by_cases hl : a.length = b.length
  · refine Ev.yes (by omega) ?_
    have key := Ev.up (fun k (_ : Unit) i => Zbc.l0 k a b i) a.length (fun _ _ => decide (a = b)) (fun i _ => ∀ j, j < i → a[j]? = b[j]?)
      (fun _ h2 => by
        refine Ev.round ?_
        simp only [Zbc.l0]
        refine Ev.no (by omega) ?_
        have : a = b := List.ext_getElem? fun j => by
          by_cases hj : j < a.length
          · exact h2 j hj
          · rw [List.getElem?_eq_none (by omega), List.getElem?_eq_none (by omega)]
        rw [decide_eq_true this]
        exact Ev.now _)
      (fun i _ hi h2 ih => by
        refine Ev.round ?_
        simp only [Zbc.l0]
        refine Ev.yes (by omega) (Ev.yes (by omega) (Ev.yes (by omega) ?_))
        rw [rd_lt hi, rd_lt (by omega : i < b.length), w64s (by omega)]
        by_cases e : a[i] = b[i]
        · refine Ev.yes e (ih () fun j hj => ?_)
          by_cases e' : j = i
          · subst e'
            rw [List.getElem?_eq_getElem hi, List.getElem?_eq_getElem (by omega), e]
          · exact h2 j (by omega)
        · refine Ev.no e ?_
          rw [decide_eq_false (fun h => e (by subst h; rfl))]
          exact Ev.now _)
    have := key 0 () (by omega) (fun j hj => absurd hj (by omega))
    simpa using this
  · refine Ev.no (by omega) ?_
    rw [decide_eq_false (fun h => hl (by rw [h]))]
    exact Ev.now _
theorem eqSS (a b : List (List Int)) (hn : a.length ≤ 9223372036854775806) (hr : ∀ x ∈ a, x.length ≤ 9223372036854775806) : Ev (fun k => Zbm.f k a b) (decide (a = b)) := by
  unfold Zbm.f
  by_cases hl : a.length = b.length
  · refine Ev.yes (by omega) ?_
    have key := Ev.up (fun k (_ : Unit) i => Zbm.l0 k a b i) a.length (fun _ _ => decide (a = b)) (fun i _ => ∀ j, j < i → a[j]? = b[j]?)
      (fun _ h2 => by
        refine Ev.round ?_
        simp only [Zbm.l0]
        refine Ev.no (by omega) ?_
        have : a = b := List.ext_getElem? fun j => by
          by_cases hj : j < a.length
          · exact h2 j hj
          · rw [List.getElem?_eq_none (by omega), List.getElem?_eq_none (by omega)]
        rw [decide_eq_true this]
        exact Ev.now _)
      (fun i _ hi h2 ih => by
        refine Ev.round ?_
        simp only [Zbm.l0]
        refine Ev.yes (by omega) (Ev.yes (by omega) (Ev.yes (by omega) ?_))
        have hg : Zah a (i : Int) = a[i] := rdOf_lt (d := []) hi
        have c : Zah b (i : Int) = b[i] := rdOf_lt (d := []) (by omega)
        rw [hg, c, w64s (by omega)]
        refine Ev.bind (eqS a[i] b[i] (hr _ (List.getElem_mem hi))) ?_
        by_cases e : a[i] = b[i]
        · rw [decide_eq_true e]
          refine Ev.yes rfl (ih () fun j hj => ?_)
          by_cases e' : j = i
          · subst e'
            rw [List.getElem?_eq_getElem hi, List.getElem?_eq_getElem (by omega), e]
          · exact h2 j (by omega)
        · rw [decide_eq_false e]
          refine Ev.no (by simp) ?_
          rw [decide_eq_false (fun h => e (by subst h; rfl))]
          exact Ev.now _)
    have := key 0 () (by omega) (fun j hj => absurd hj (by omega))
    simpa using this
  · refine Ev.no (by omega) ?_
    rw [decide_eq_false (fun h => hl (by rw [h]))]
    exact Ev.now _
/-- The size of a list of lists as the laws count it. -/
def sz2 (x : List (List Int)) : Nat := x.length + (x.map List.length).sum
theorem szSS (x0 : List (List Int)) (hn : x0.length ≤ maxLen) (hr : ∀ x ∈ x0, x.length ≤ maxLen) (a : Nat) (ha : a ≤ 1048576) :
    Ev (fun k => Zbn.f k x0 a) (if sz2 x0 ≤ a then ((a - sz2 x0 : Nat) : Int) else -1) := by
  unfold maxLen at hn hr
  have hrd : ∀ i, i < x0.length → Zah x0 (i : Int) = x0.getD i [] := fun i hi => rfl
  have key := Ev.up (fun k (s : Nat) i => Zbn.l0 k x0 (s : Int) i) x0.length
    (fun i s => if ((x0.drop i).map List.length).sum ≤ s then ((s - ((x0.drop i).map List.length).sum : Nat) : Int) else -1) (fun _ s => s ≤ 1048576)
    (fun s hs => by
      refine Ev.round ?_
      simp only [Zbn.l0]
      refine Ev.no (by omega) ?_
      simp only [List.drop_length, List.map_nil, List.sum_nil, Nat.zero_le, if_true, Nat.sub_zero]
      exact Ev.now _)
    (fun i s hi hs ih => by
      refine Ev.round ?_
      simp only [Zbn.l0]
      refine Ev.yes (by omega) (Ev.yes (by omega) ?_)
      have hg : Zah x0 (i : Int) = x0[i] := rdOf_lt (d := []) hi
      rw [hg, w64s (by omega)]
      have hx := hr _ (List.getElem_mem hi)
      have hd : x0.drop i = x0[i] :: x0.drop (i + 1) := List.drop_eq_getElem_cons hi
      rw [hd, List.map_cons, List.sum_cons]
      have hw : wrap64 ((s : Int) - (x0[i].length : Int)) = (s : Int) - (x0[i].length : Int) := w64 (by omega) (by omega)
      have hf : Zc6.f x0[i] (s : Int) = some (if x0[i].length ≤ s then ((s - x0[i].length : Nat) : Int) else -1) := by
        unfold Zc6.f
        rw [hw]
        by_cases h : x0[i].length ≤ s
        · rw [if_neg (by omega), if_pos h]; congr 1; omega
        · rw [if_pos (by omega), if_neg h]
      refine Ev.here hf ?_
      by_cases h : x0[i].length ≤ s
      · rw [if_pos h]
        refine Ev.no (by omega) ?_
        have := ih (s - x0[i].length) (by omega)
        by_cases h2 : ((x0.drop (i + 1)).map List.length).sum ≤ s - x0[i].length
        · rw [if_pos h2] at this
          rw [if_pos (by omega), show s - (x0[i].length + ((x0.drop (i + 1)).map List.length).sum) = s - x0[i].length - ((x0.drop (i + 1)).map List.length).sum from by omega]
          exact this
        · rw [if_neg h2] at this
          rw [if_neg (by omega)]
          exact this
      · rw [if_neg h]
        refine Ev.yes (by omega) ?_
        rw [if_neg (by omega)]
        exact Ev.now _)
  unfold Zbn.f
  have hw : wrap64 ((a : Int) - (x0.length : Int)) = (a : Int) - (x0.length : Int) := w64 (by omega) (by omega)
  rw [hw]
  unfold sz2
  by_cases h : x0.length ≤ a
  · refine Ev.no (by omega) ?_
    have := key 0 (a - x0.length) (by omega) (by omega)
    rw [show ((a - x0.length : Nat) : Int) = (a : Int) - (x0.length : Int) from by omega] at this
    simp only [List.drop_zero] at this
    by_cases h2 : (x0.map List.length).sum ≤ a - x0.length
    · rw [if_pos h2] at this
      rw [if_pos (by omega), show a - (x0.length + (x0.map List.length).sum) = a - x0.length - (x0.map List.length).sum from by omega]
      exact this
    · rw [if_neg h2] at this
      rw [if_neg (by omega)]
      exact this
  · refine Ev.yes (by omega) ?_
    rw [if_neg (by omega)]
    exact Ev.now _
theorem le_sum {l : List Nat} {a : Nat} (h : a ∈ l) : a ≤ l.sum := by
  induction l with
  | nil => cases h
  | cons b l ih =>
    rw [List.sum_cons]
    rcases List.mem_cons.1 h with rfl | h
    · omega
    · have := ih h; omega
theorem le_sz2 {x0 : List (List Int)} {x : List Int} (h : x ∈ x0) : x.length ≤ sz2 x0 := by
  unfold sz2
  have : x.length ∈ x0.map List.length := List.mem_map.2 ⟨x, h, rfl⟩
  have := le_sum this
  omega
end Go.Proofs.Ytgindgodfcfgkaa.U
end M4
section M5
namespace Go.Proofs.Ytgindgodfcfgkaa.U
open Go.RowKit Go.Proofs.Ytgindgodfcfgkaa.P Go.Proofs.YtgindgodfcfgkaaW.PrintWords Go.Proofs.YtgindgodfcfgkaaW.PrintLast
set_option linter.unusedVariables false
/-! The reference's test of an automaton. -/
theorem spIn (a lo hi : Int) : Za0.f a lo hi = some (inRB a lo hi) := by
  unfold Za0.f inRB
  by_cases h : lo ≤ a
  · rw [if_pos h, decide_eq_true h, Bool.true_and]
  · rw [if_neg h, decide_eq_false h, Bool.false_and]
theorem u64w {n : Int} (h0 : 0 ≤ n) (h1 : n < 18446744073709551616) : IntKind.u64.wrap n = n := by
  show n % 18446744073709551616 = n
  omega
theorem spOne {n : Int} (h0 : 0 ≤ n) (h1 : n < 18446744073709551616) : Zc7.f n = some (shl .i64 1 n) := by
  unfold Zc7.f
  rw [u64w h0 h1, if_pos h0]
theorem maskB_eq {F n : Int} (h0 : 0 ≤ n) (h1 : n ≤ 24) : maskB F n = inRB F 0 (wrap64 (shl .i64 1 n - 1)) := by
  unfold maskB Zdd.f
  rw [inRange_some]
  have : inRB n 0 24 = true := by unfold inRB; simp; omega
  rw [this]
  simp only [Option.bind_some, if_true]
  unfold Zdf.f
  rw [if_pos h0]
  simp only [Option.bind_some]
  rw [inRange_some]
  rfl
theorem spFull {n : Int} (h0 : 0 ≤ n) (h1 : n < 18446744073709551616) : Zc4.f n = some (wrap64 (shl .i64 1 n - 1)) := by
  unfold Zc4.f
  rw [spOne h0 h1]
  rfl
theorem l11Is_loop (L S F : Int) (N : List (List Int)) (hn : N.length ≤ 16) (hL : L ≤ 8) : Ev (fun k => Za4.l0 k (N.length : Int) 0 L S F N) (!(N.any (badRow L N.length))) := by
  have key := Ev.up (fun k (_ : Unit) i => Za4.l0 k (N.length : Int) i L S F N) N.length (fun i _ => !((N.drop i).any (badRow L N.length))) (fun _ _ => True)
    (fun _ _ => by
      refine Ev.round ?_
      simp only [Za4.l0]
      refine Ev.no (by omega) ?_
      rw [List.drop_length]
      exact Ev.now _)
    (fun i _ hi _ ih => by
      refine Ev.round ?_
      simp only [Za4.l0]
      have hg : Zah N (i : Int) = N[i] := rdOf_lt (d := []) hi
      refine Ev.yes (by omega) (Ev.yes (by omega) (Ev.yes (by omega) ?_))
      rw [hg, List.drop_eq_getElem_cons hi, List.any_cons]
      by_cases hl : (N[i].length : Int) = L
      · refine Ev.yes hl ?_
        have inner := Ev.up (fun k (_ : Unit) j => Za4.l1 k (N.length : Int) (i : Int) j L S F N) N[i].length
          (fun j _ => ((N[i].drop j).all fun t => decide (-1 ≤ t) && decide (t ≤ (N.length : Int) - 1)) && !((N.drop (i + 1)).any (badRow L N.length))) (fun _ _ => True)
          (fun _ _ => by
            refine Ev.round ?_
            simp only [Za4.l1]
            refine Ev.no (by omega) ?_
            rw [List.drop_length, w64s (by omega)]
            simpa using ih () trivial)
          (fun j _ hj _ ihj => by
            refine Ev.round ?_
            simp only [Za4.l1]
            rw [hg]
            refine Ev.yes (by omega) (Ev.yes (by omega) (Ev.yes (by omega) (Ev.yes (by omega) (Ev.yes (by omega) ?_))))
            rw [rd_lt hj, w64 (n := (N.length : Int) - 1) (by omega) (by omega), w64s (by omega)]
            refine Ev.here (spIn _ _ _) ?_
            rw [List.drop_eq_getElem_cons hj, List.all_cons]
            show Ev _ ((inRB N[i][j] (-1) ((N.length : Int) - 1) && _) && _)
            cases hb : inRB N[i][j] (-1) ((N.length : Int) - 1)
            · exact Ev.no (by simp) (Ev.now _)
            · refine Ev.yes rfl ?_
              simpa using ihj () trivial)
        have h0 := inner 0 () (by omega) trivial
        have hb : badRow L N.length N[i] = !(N[i].all fun t => decide (-1 ≤ t) && decide (t ≤ (N.length : Int) - 1)) := by unfold badRow; rw [decide_eq_true hl]; simp
        rw [hb, Bool.not_or, Bool.not_not]
        simpa using h0
      · refine Ev.no hl ?_
        have hb : badRow L N.length N[i] = true := by unfold badRow; rw [decide_eq_false hl]; simp
        rw [hb]
        exact Ev.now _)
  have := key 0 () (by omega) trivial
  simpa using this
theorem l11Is_ev (L S F : Int) (N : List (List Int)) (hN : N.length ≤ 9223372036854775807) : Ev (fun k => Za4.f k L S F N) (isAut L S F N) := by
  unfold Za4.f isAut
  refine Ev.here (show Zb1.f L S F N = some (N.length : Int) from rfl) ?_
  refine Ev.here (spIn _ _ _) ?_
  have hno : ∀ x3, Ev (fun k => Za4.j0 k x3 true L S F N) false := fun x3 => Ev.round (by simp only [Za4.j0]; exact Ev.yes (by trivial) (Ev.now _))
  cases h1 : inRB L 0 8
  · exact Ev.no (by simp) (hno _)
  refine Ev.yes rfl (Ev.here (spIn _ _ _) ?_)
  cases h2 : inRB (N.length : Int) 1 16
  · exact Ev.no (by simp) (hno _)
  have a := h2
  unfold inRB at h1 a
  simp only [Bool.and_eq_true, decide_eq_true_eq] at h1 a
  refine Ev.yes rfl ?_
  rw [w64 (n := (N.length : Int) - 1) (by omega) (by omega)]
  refine Ev.here (spIn _ _ _) ?_
  cases h3 : inRB S 0 ((N.length : Int) - 1)
  · exact Ev.no (by simp) (hno _)
  refine Ev.yes rfl (Ev.here (spFull (by omega) (by omega)) (Ev.here (spIn _ _ _) ?_))
  rw [← maskB_eq (by omega) (by omega)]
  cases h4 : maskB F N.length
  · exact hno _
  · refine Ev.round ?_
    simp only [Za4.j0]
    refine Ev.no (by simp) ?_
    simpa using l11Is_loop L S F N (by omega) h1.2
theorem szA (a b c : Int) (l : List (List Int)) (hn : l.length ≤ maxLen) (hr : ∀ x ∈ l, x.length ≤ maxLen) :
    Ev (fun k => Zco.f k a b c l 1048576) (if sz2 l ≤ 1048576 then ((1048576 - sz2 l : Nat) : Int) else -1) := by
  unfold Zco.f
  refine Ev.bind (szSS l hn hr 1048576 (by omega)) ?_
  by_cases h : sz2 l ≤ 1048576
  · rw [if_pos h]
    refine Ev.no (by omega) (Ev.now _)
  · rw [if_neg h]
    refine Ev.yes (by omega) (Ev.now _)
theorem toA (a b c : Int) (l : List (List Int)) (h : sz2 l ≤ 1048576) : Ev (fun k => Zbr.f k a b c l) (a, b, c, l) := by
  unfold Zbr.f
  refine Ev.bind (toSS l (by unfold sz2 at h; omega) (fun x hx => by have := le_sz2 hx; omega)) (Ev.now _)
theorem eqA (a b c : Int) (l : List (List Int)) (h : sz2 l ≤ 1048576) : Ev (fun k => Zbj.f k a b c l a b c l) true := by
  unfold Zbj.f
  refine Ev.yes rfl (Ev.yes rfl (Ev.yes rfl ?_))
  refine Ev.bind (eqSS l l (by unfold sz2 at h; omega) (fun x hx => by have := le_sz2 hx; omega)) ?_
  rw [decide_eq_true rfl]
  exact Ev.yes rfl (Ev.now _)
end Go.Proofs.Ytgindgodfcfgkaa.U
end M5
section M6
namespace Go.Proofs.Ytgindgodfcfgkaa.U
open Go.RowKit Go.Proofs.Ytgindgodfcfgkaa.P Go.Proofs.YtgindgodfcfgkaaW.PrintWords Go.Proofs.YtgindgodfcfgkaaW.PrintLast
set_option linter.unusedVariables false
/-! Reading words in an automaton. -/
/-- The rows of a machine: each of as many places as there are letters, each place a state or -1. -/
def Zcm (L : Int) (N : List (List Int)) : Prop := ∀ row ∈ N, (row.length : Int) = L ∧ ∀ t ∈ row, -1 ≤ t ∧ t < N.length
structure AutOK (L S F : Int) (N : List (List Int)) : Prop where
  l0 : 0 ≤ L
  l8 : L ≤ 8
  n1 : 1 ≤ N.length
  n16 : N.length ≤ 16
  s0 : 0 ≤ S
  sn : S < N.length
  mask : maskB F N.length = true
  rows : Zcm L N
theorem isAut_ok {L S F : Int} {N : List (List Int)} (h : isAut L S F N = true) : AutOK L S F N := by
  unfold isAut inRB at h
  simp only [Bool.and_eq_true, decide_eq_true_eq, Bool.not_eq_true', List.any_eq_false] at h
  obtain ⟨⟨a, b⟩, ⟨c, d⟩, ⟨e, f⟩, g, i⟩ := h
  refine ⟨a, b, by omega, by omega, e, by omega, g, fun row hr => ?_⟩
  have := i row hr
  unfold badRow at this
  simp only [Bool.or_eq_true, Bool.not_eq_true', decide_eq_false_iff_not, not_or, Decidable.not_not, Bool.not_eq_false, List.all_eq_true, Bool.and_eq_true, decide_eq_true_eq] at this
  exact ⟨this.1, fun t ht => ⟨(this.2 t ht).1, by have := (this.2 t ht).2; omega⟩⟩
/-- The state to which a letter leads, -1 for no state. -/
def nx (N : List (List Int)) (s a : Int) : Int := if s < 0 then -1 else rd (Zah N s) a
/-- The state to which a word leads. -/
def rdW (N : List (List Int)) (s : Int) (w : List Int) : Int := w.foldl (nx N) s
theorem nat_of {i : Int} {n : Nat} (h0 : 0 ≤ i) (h1 : i < n) : ∃ k : Nat, i = k ∧ k < n := ⟨i.toNat, by omega, by omega⟩
theorem row_at {L : Int} {N : List (List Int)} (hN : Zcm L N) {s : Int} (h0 : 0 ≤ s) (h1 : s < N.length) : ((Zah N s).length : Int) = L ∧ ∀ t ∈ Zah N s, -1 ≤ t ∧ t < N.length := by
  obtain ⟨k, rfl, hk⟩ := nat_of h0 h1
  have hg : Zah N (k : Int) = N[k] := rdOf_lt (d := []) hk
  rw [hg]
  exact hN _ (List.getElem_mem hk)
theorem rd_mem {l : List Int} {i : Int} (h0 : 0 ≤ i) (h1 : i < l.length) : rd l i ∈ l := by
  obtain ⟨k, rfl, hk⟩ := nat_of h0 h1
  rw [rd_lt hk]
  exact List.getElem_mem hk
theorem nx_in {L : Int} {N : List (List Int)} (hN : Zcm L N) {s a : Int} (h1 : s < N.length) (ha : 0 ≤ a) (hb : a < L) : -1 ≤ nx N s a ∧ nx N s a < N.length := by
  unfold nx
  by_cases h : s < 0
  · rw [if_pos h]; omega
  · rw [if_neg h]
    have hr := row_at hN (s := s) (by omega) h1
    exact hr.2 _ (rd_mem ha (by omega))
theorem rdW_neg (N : List (List Int)) {s : Int} (h : s < 0) (w : List Int) : w ≠ [] → rdW N s w = -1 := by
  intro hw
  induction w generalizing s with
  | nil => exact absurd rfl hw
  | cons a w ih =>
    show rdW N (nx N s a) w = -1
    have e : nx N s a = -1 := by unfold nx; rw [if_pos h]
    rw [e]
    by_cases hn : w = []
    · subst hn; rfl
    · exact ih (by omega) hn
theorem rdW_neg' (N : List (List Int)) (w : List Int) : rdW N (-1) w = -1 := by
  by_cases h : w = []
  · subst h; rfl
  · exact rdW_neg N (by omega) w h
theorem rdW_in {L : Int} {N : List (List Int)} (hN : Zcm L N) {s : Int} (h0 : -1 ≤ s) (h1 : s < N.length) (w : List Int) (hw : ∀ a ∈ w, 0 ≤ a ∧ a < L) : -1 ≤ rdW N s w ∧ rdW N s w < N.length := by
  induction w generalizing s with
  | nil => exact ⟨h0, h1⟩
  | cons a w ih =>
    have ha := hw a List.mem_cons_self
    have hx := nx_in hN h1 ha.1 ha.2
    exact ih hx.1 hx.2 (fun b hb => hw b (List.mem_cons_of_mem _ hb))
def overB (L : Int) (w : List Int) : Bool := decide ((w.length : Int) ≤ 24) && w.all fun t => inRB t 0 (L - 1)
theorem over_in {L : Int} {w : List Int} (h : overB L w = true) : w.length ≤ 24 ∧ ∀ a ∈ w, 0 ≤ a ∧ a < L := by
  unfold overB inRB at h
  simp only [Bool.and_eq_true, decide_eq_true_eq, List.all_eq_true] at h
  exact ⟨by omega, fun a ha => ⟨(h.2 a ha).1, by have := (h.2 a ha).2; omega⟩⟩
theorem isOver_eq (L : Int) (w : List Int) (h0 : 0 ≤ L) (h8 : L ≤ 8) : Zde.f L w = some (overB L w) := by
  unfold Zde.f overB
  by_cases h : (w.length : Int) ≤ 24
  · rw [if_pos h, decide_eq_true h, w64 (by omega) (by omega)]
    rfl
  · rw [if_neg h, decide_eq_false h]
    rfl
theorem l11Word_ev (L : Int) (w : List Int) (h0 : 0 ≤ L) (h8 : L ≤ 8) (hw : w.length ≤ 9223372036854775806) : Ev (fun k => Zbw.f k L w) (overB L w) := by
  have key := Ev.up (fun k (_ : Unit) i => Zbw.l0 k L w i) w.length (fun i _ => decide ((w.length : Int) ≤ 24) && (w.drop i).all fun t => inRB t 0 (L - 1)) (fun _ _ => True)
    (fun _ _ => by
      refine Ev.round ?_
      simp only [Zbw.l0]
      refine Ev.no (by omega) ?_
      rw [List.drop_length, List.all_nil, Bool.and_true]
      exact Ev.now _)
    (fun i _ hi _ ih => by
      refine Ev.round ?_
      simp only [Zbw.l0]
      refine Ev.yes (by omega) (Ev.yes (by omega) ?_)
      rw [rd_lt hi, w64 (n := L - 1) (by omega) (by omega), w64s (by omega), List.drop_eq_getElem_cons hi, List.all_cons]
      refine Ev.here (spIn _ _ _) ?_
      cases hb : inRB w[i] 0 (L - 1)
      · refine Ev.no (by simp) ?_
        rw [Bool.false_and, Bool.and_false]
        exact Ev.now _
      · refine Ev.yes rfl ?_
        rw [Bool.true_and]
        exact ih () trivial)
  have := key 0 () (by omega) trivial
  unfold Zbw.f overB
  simpa using this
/-- What the code of an automaton and a word is. -/
def codeW (L S F : Int) (N : List (List Int)) (w : List Int) : Int := if isAut L S F N then (if overB L w then 0 else 2) else 1
theorem checkWord_eq (L S F : Int) (N : List (List Int)) (w : List Int) : Zcr.f L S F N w = some (codeW L S F N w) := by
  unfold Zcr.f codeW
  rw [show Zcz.f L S F N = some (isAut L S F N) from rfl]
  simp only [Option.bind_some]
  cases h : isAut L S F N
  · rfl
  · have ok := isAut_ok h
    simp only [if_true]
    rw [isOver_eq L w ok.l0 ok.l8]
    simp only [Option.bind_some]
    cases overB L w <;> rfl
theorem l11Code_ev (L S F : Int) (N : List (List Int)) (w : List Int) (hN : N.length ≤ 9223372036854775807) (hw : w.length ≤ 9223372036854775806) : Ev (fun k => Zc3.f k L S F N w) (codeW L S F N w) := by
  unfold Zc3.f codeW
  refine Ev.bind (l11Is_ev L S F N hN) ?_
  cases h : isAut L S F N
  · exact Ev.no (by simp) (Ev.now _)
  · have ok := isAut_ok h
    refine Ev.yes rfl (Ev.bind (l11Word_ev L w ok.l0 ok.l8 hw) ?_)
    cases overB L w
    · exact Ev.no (by simp) (Ev.now _)
    · exact Ev.yes rfl (Ev.now _)
theorem codeW_0 {L S F : Int} {N : List (List Int)} {w : List Int} (h : codeW L S F N w = 0) : AutOK L S F N ∧ overB L w = true := by
  unfold codeW at h
  split at h
  · rename_i h1
    split at h
    · rename_i h2; exact ⟨isAut_ok h1, h2⟩
    · omega
  · omega
/-- The reference's reading, from a state. -/
theorem l11Read_ev {L S F : Int} {N : List (List Int)} (hN : Zcm L N) (s : Int) (w : List Int) (h0 : -1 ≤ s) (h1 : s < N.length) (hl : w.length ≤ 9223372036854775806) (hw : ∀ a ∈ w, 0 ≤ a ∧ a < L) :
    Ev (fun k => Zbu.f k L S F N s w) (rdW N s w) := by
  have key := Ev.up (fun k (s : Int) i => Zbu.l0 k s w i L S F N) w.length (fun i s => rdW N s (w.drop i)) (fun _ s => -1 ≤ s ∧ s < N.length)
    (fun s hs => by
      refine Ev.round ?_
      simp only [Zbu.l0]
      refine Ev.no (by omega) ?_
      rw [List.drop_length]
      exact Ev.now _)
    (fun i s hi hs ih => by
      refine Ev.round ?_
      simp only [Zbu.l0]
      refine Ev.yes (by omega) ?_
      rw [List.drop_eq_getElem_cons hi]
      by_cases h : s ≥ 0
      · have ha := hw _ (List.getElem_mem hi)
        have hr := row_at hN (s := s) h hs.2
        rw [rd_lt hi]
        refine Ev.yes h (Ev.yes h (Ev.yes hs.2 (Ev.yes (by omega) (Ev.yes ha.1 (Ev.yes (by omega) ?_)))))
        rw [w64s (by omega)]
        have hx := nx_in hN (s := s) hs.2 ha.1 ha.2
        have e : nx N s w[i] = rd (Zah N s) w[i] := by unfold nx; rw [if_neg (by omega)]
        have := ih (nx N s w[i]) hx
        rw [e] at this
        show Ev _ (rdW N (nx N s w[i]) (w.drop (i + 1)))
        rw [e]
        exact this
      · refine Ev.no h ?_
        have : s = -1 := by omega
        subst this
        rw [rdW_neg' N]
        exact Ev.now _)
  have := key 0 s (by omega) ⟨h0, h1⟩
  unfold Zbu.f
  simpa using this
def hasB (F s : Int) : Bool := (Go.bits .and .i64 (shr .i64 F s) 1) == 1
theorem has_eq {F s : Int} (h : 0 ≤ s) : impl_has.f F s = some (hasB F s) := by unfold impl_has.f; rw [if_pos h]; rfl
theorem bit_eq {F s : Int} (h : 0 ≤ s) (h1 : s < 18446744073709551616) : Zdi.f F s = some (hasB F s) := by
  unfold Zdi.f; rw [u64w h h1, if_pos h]; rfl
/-- The final states of an automaton, as a list. -/
def finL (F : Int) (n : Nat) : List Bool := (List.range n).map fun (s : Nat) => hasB F s
theorem machineOf_ev (L S F : Int) (N : List (List Int)) (hn : N.length ≤ 1048576) : Ev (fun k => Za6.f k L S F N) (L, S, finL F N.length, N) := by
  have key := Ev.up (fun k (s : List Bool) i => Za6.l0 k (N.length : Int) i L S F N L S s N) N.length (fun _ _ => (L, S, finL F N.length, N)) (fun i s => s = finL F i)
    (fun s hs => by
      refine Ev.round ?_
      simp only [Za6.l0]
      refine Ev.no (by omega) ?_
      rw [hs]
      exact Ev.now _)
    (fun i s hi hs ih => by
      refine Ev.round ?_
      simp only [Za6.l0]
      refine Ev.yes (by omega) (Ev.here (has_eq (by omega)) ?_)
      have hl : s.length = i := by rw [hs]; simp [finL]
      refine Ev.yes (by omega) ?_
      rw [w64s (by omega)]
      refine ih _ ?_
      rw [hs]
      simp [finL, List.range_succ])
  have := key 0 [] (by omega) (by simp [finL])
  unfold Za6.f
  simpa using this
theorem step_eq {L : Int} {N : List (List Int)} (hN : Zcm L N) (S : Int) (fin : List Bool) {s a : Int} (h1 : s < N.length) (ha : 0 ≤ a) (hb : a < L) : Zct.f L S fin N s a = some (nx N s a) := by
  unfold Zct.f nx
  by_cases h : s < 0
  · rw [if_pos h, if_pos h]
  · have hr := row_at hN (s := s) (by omega) h1
    rw [if_neg h, if_neg h, if_pos (by omega), if_pos h1, if_pos ha, if_pos (by omega)]
theorem mread_ev {L : Int} {N : List (List Int)} (hN : Zcm L N) (S : Int) (fin : List Bool) (w : List Int) (h0 : -1 ≤ S) (h1 : S < N.length) (hl : w.length ≤ 9223372036854775806) (hw : ∀ a ∈ w, 0 ≤ a ∧ a < L) :
    Ev (fun k => Zbf.f k L S fin N w) (rdW N S w) := by
  have key := Ev.up (fun k (s : Int) i => Zbf.l0 k s w (w.length : Int) i L S fin N) w.length (fun i s => rdW N s (w.drop i)) (fun _ s => -1 ≤ s ∧ s < N.length)
    (fun s hs => by
      refine Ev.round ?_
      simp only [Zbf.l0]
      refine Ev.no (by omega) ?_
      rw [List.drop_length]
      exact Ev.now _)
    (fun i s hi hs ih => by
      refine Ev.round ?_
      simp only [Zbf.l0]
      have ha := hw _ (List.getElem_mem hi)
      rw [rd_lt hi]
      refine Ev.yes (by omega) (Ev.yes (by omega) (Ev.yes (by omega) (Ev.here (step_eq hN S fin hs.2 ha.1 ha.2) ?_)))
      rw [w64s (by omega), List.drop_eq_getElem_cons hi]
      exact ih _ (nx_in hN hs.2 ha.1 ha.2))
  have := key 0 S (by omega) ⟨h0, h1⟩
  unfold Zbf.f
  simpa using this
theorem finL_at {F : Int} {n : Nat} {s : Int} (h0 : 0 ≤ s) (h1 : s < n) : rdOf false (finL F n) s = hasB F s := by
  obtain ⟨k, rfl, hk⟩ := nat_of h0 h1
  rw [rdOf_lt (by simp [finL]; exact hk)]
  simp [finL]
end Go.Proofs.Ytgindgodfcfgkaa.U
end M6
section M7
namespace Go.Proofs.Ytgindgodfcfgkaa.U
open Go.RowKit Go.Proofs.Ytgindgodfcfgkaa.P Go.Proofs.YtgindgodfcfgkaaW.PrintWords Go.Proofs.YtgindgodfcfgkaaW.PrintLast
set_option linter.unusedVariables false
/-! Which states are reached, and which lead to a final one. -/
inductive Led (L : Int) (N : List (List Int)) (good : List Bool) : Int → Prop
  | base {s : Int} (h0 : 0 ≤ s) (h1 : s < N.length) (h : rdOf false good s = true) : Led L N good s
  | step {s a : Int} (h0 : 0 ≤ s) (h1 : s < N.length) (ha : 0 ≤ a) (hb : a < L) (hn : 0 ≤ nx N s a) (h : Led L N good (nx N s a)) : Led L N good s
inductive Rch (L : Int) (N : List (List Int)) (S : Int) : Int → Prop
  | start : Rch L N S S
  | step {s a : Int} (h : Rch L N S s) (ha : 0 ≤ a) (hb : a < L) (hn : 0 ≤ nx N s a) : Rch L N S (nx N s a)
theorem rdOf_set {l : List Bool} {i : Nat} {b : Bool} {j : Int} (hj : 0 ≤ j) : rdOf false (l.set i b) j = if j = i ∧ i < l.length then b else rdOf false l j := by
  obtain ⟨k, rfl⟩ := Int.eq_ofNat_of_zero_le hj
  show (l.set i b).getD k false = _
  rw [List.getD_eq_getElem?_getD, List.getElem?_set]
  by_cases h : i = k
  · subst h
    by_cases h2 : i < l.length
    · simp [h2]
    · rw [if_pos rfl, if_neg h2, if_neg (by simp; omega)]
      show false = l.getD i false
      rw [List.getD_eq_getElem?_getD, List.getElem?_eq_none (by omega)]
      rfl
  · rw [if_neg h, if_neg (by omega)]
    show _ = l.getD k false
    rw [List.getD_eq_getElem?_getD]
theorem Led.in {L : Int} {N : List (List Int)} {good : List Bool} {s : Int} (h : Led L N good s) : 0 ≤ s ∧ s < N.length := by
  cases h with
  | base a b _ => exact ⟨a, b⟩
  | step a b _ _ _ _ => exact ⟨a, b⟩
/-- What is marked while the marks spread back: sound, and all good ones. -/
structure LiveI (L : Int) (N : List (List Int)) (good live : List Bool) : Prop where
  len : live.length = N.length
  sound : ∀ s : Int, 0 ≤ s → s < N.length → rdOf false live s = true → Led L N good s
  base : ∀ s : Int, 0 ≤ s → s < N.length → rdOf false good s = true → rdOf false live s = true
/-- No mark is owed at the letter a of state s. -/
def paid (N : List (List Int)) (live : List Bool) (s a : Int) : Prop := 0 ≤ nx N s a → rdOf false live (nx N s a) = true → rdOf false live s = true
theorem live_full {L : Int} {N : List (List Int)} {good live : List Bool} (hN : Zcm L N) (I : LiveI L N good live) (h : ∀ s a : Int, 0 ≤ s → s < N.length → 0 ≤ a → a < L → paid N live s a) :
    ∀ s : Int, 0 ≤ s → s < N.length → (rdOf false live s = true ↔ Led L N good s) := by
  intro s h0 h1
  refine ⟨I.sound s h0 h1, fun hl => ?_⟩
  induction hl with
  | base a b c => exact I.base _ a b c
  | step a b c d e f ih =>
    have := nx_in hN b c d
    exact h _ _ a b c d e (ih e this.2)
theorem live_mark {L : Int} {N : List (List Int)} {good live : List Bool} (hN : Zcm L N) (I : LiveI L N good live) {s : Nat} {a : Int} (hs : s < N.length) (ha : 0 ≤ a) (hb : a < L) (h0 : 0 ≤ nx N s a) (hl : rdOf false live (nx N s a) = true) :
    LiveI L N good (live.set s true) := by
  have hx := nx_in hN (s := s) (by omega) ha hb
  refine ⟨by simp [I.len], fun t h2 h3 ht => ?_, fun t h2 h3 ht => ?_⟩
  · rw [rdOf_set h2] at ht
    by_cases e : t = (s : Int)
    · subst e
      exact .step h2 h3 ha hb h0 (I.sound _ h0 hx.2 hl)
    · rw [if_neg (by omega)] at ht
      exact I.sound t h2 h3 ht
  · rw [rdOf_set h2]
    split
    · rfl
    · exact I.base t h2 h3 ht
theorem l11Live_ev {L : Int} {N : List (List Int)} (good : List Bool) (hN : Zcm L N) (hn : N.length ≤ 1048576) (hg : good.length = N.length) (hL : 0 ≤ L) (g : L ≤ 1048576) :
    EvP (fun k => Zay.f k L N good) (fun live => live.length = N.length ∧ ∀ s : Int, 0 ≤ s → s < N.length → (rdOf false live s = true ↔ Led L N good s)) := by
  have hrow : ∀ s : Nat, s < N.length → ((Zah N (s : Int)).length : Int) = L := fun s hs => (row_at hN (s := s) (by omega) (by omega)).1
  have hnx : ∀ s a : Nat, rd (Zah N (s : Int)) (a : Int) = nx N s a := fun s a => by unfold nx; rw [if_neg (by omega)]
  have main : ∀ m live, Zbs live ≤ m → LiveI L N good live → EvP (fun k => Zay.l0 k live true L N good) (fun live => live.length = N.length ∧ ∀ s : Int, 0 ≤ s → s < N.length → (rdOf false live s = true ↔ Led L N good s)) := by
    intro m
    induction m using Nat.strongRecOn with
    | _ m ihm =>
    intro c hm I0
    refine EvP.round ?_
    simp only [Zay.l0]
    refine EvP.yes (by trivial) ?_
    -- a pass over the states
    have pass := EvP.up (fun k (st : List Bool × Bool) s => Zay.l1 k st.1 st.2 s L N good) (fun live => live.length = N.length ∧ ∀ s : Int, 0 ≤ s → s < N.length → (rdOf false live s = true ↔ Led L N good s)) N.length
      (fun s st => LiveI L N good st.1 ∧ (Zbs st.1 ≤ Zbs c ∧ (st.2 = true → Zbs st.1 < Zbs c)) ∧ (st.2 = false → ∀ t a : Int, 0 ≤ t → t < (s : Int) → 0 ≤ a → a < L → paid N st.1 t a))
      (fun st ⟨h1, h2, h3⟩ => by
        refine EvP.round ?_
        simp only [Zay.l1]
        refine EvP.no (by omega) ?_
        cases hb : st.2
        · refine EvP.round ?_
          simp only [Zay.l0]
          refine EvP.no (by simp) (EvP.ret ⟨h1.len, live_full hN h1 (fun t a h4 h5 h6 h7 => h3 hb t a h4 h5 h6 h7)⟩)
        · have h4 := h2.2 hb
          exact ihm _ (by omega) st.1 (Nat.le_refl _) h1)
      (fun s st hs ⟨h1, h2, h3⟩ ih => by
        refine EvP.round ?_
        simp only [Zay.l1]
        refine EvP.yes (by omega) ?_
        have letters := EvP.up (fun k (st : List Bool × Bool) a => Zay.l2 k st.1 st.2 (s : Int) a L N good) (fun live => live.length = N.length ∧ ∀ s : Int, 0 ≤ s → s < N.length → (rdOf false live s = true ↔ Led L N good s)) L.toNat
          (fun b st => LiveI L N good st.1 ∧ (Zbs st.1 ≤ Zbs c ∧ (st.2 = true → Zbs st.1 < Zbs c)) ∧ (st.2 = false → (∀ t a : Int, 0 ≤ t → t < (s : Int) → 0 ≤ a → a < L → paid N st.1 t a) ∧ ∀ a : Int, 0 ≤ a → a < (b : Int) → paid N st.1 s a))
          (fun st ⟨h1, h2, h3⟩ => by
            have hr := hrow s hs
            refine EvP.round ?_
            simp only [Zay.l2]
            refine EvP.yes (by omega) (EvP.yes (by omega) (EvP.no (by omega) (EvP.round ?_)))
            simp only [Zay.j3]
            refine EvP.no (by simp) ?_
            rw [w64s (by omega)]
            refine ih st ⟨h1, h2, fun hb t a h4 h5 h6 h7 => ?_⟩
            by_cases e : t = (s : Int)
            · subst e; exact (h3 hb).2 a h6 (by omega)
            · exact (h3 hb).1 t a h4 (by omega) h6 h7)
          (fun b st hb ⟨h1, h2, h3⟩ ihb => by
            have hr := hrow s hs
            have hl := h1.len
            refine EvP.round ?_
            simp only [Zay.l2]
            refine EvP.yes (by omega) (EvP.yes (by omega) (EvP.yes (by omega) (EvP.yes (by omega) (EvP.round ?_))))
            simp only [Zay.j3]
            cases hv : rdOf false st.1 (s : Int)
            · refine EvP.yes rfl (EvP.yes (by omega) (EvP.yes (by omega) (EvP.yes (by omega) (EvP.yes (by omega) ?_))))
              rw [hnx, w64s (by omega)]
              have hx := nx_in hN (s := s) (a := b) (by omega) (by omega) (by omega)
              by_cases h4 : nx N s b ≥ 0
              · refine EvP.yes h4 (EvP.yes h4 (EvP.yes (by omega) ?_))
                cases hw : rdOf false st.1 (nx N s b)
                · refine EvP.no (by simp) (ihb st ⟨h1, h2, fun hc => ⟨(h3 hc).1, fun a h5 h6 => ?_⟩⟩)
                  by_cases e : a = (b : Int)
                  · subst e; intro _ h7; rw [hw] at h7; cases h7
                  · exact (h3 hc).2 a h5 (by omega)
                · refine EvP.yes rfl (EvP.yes (by omega) ?_)
                  have hv' : st.1[s]'(by omega) = false := by rw [← rdOf_lt (d := false) (by omega : s < st.1.length)]; exact hv
                  have hf := falses_set (by omega) hv'
                  have i := h2.1
                  rw [Int.toNat_natCast]
                  exact ihb (st.1.set s true, true) ⟨live_mark hN h1 hs (by omega) (by omega) h4 hw, ⟨by simp only; omega, fun _ => by simp only; omega⟩, fun hc => by cases hc⟩
              · refine EvP.no h4 (ihb st ⟨h1, h2, fun hc => ⟨(h3 hc).1, fun a h5 h6 => ?_⟩⟩)
                by_cases e : a = (b : Int)
                · subst e; intro h7; omega
                · exact (h3 hc).2 a h5 (by omega)
            · refine EvP.no (by simp) ?_
              rw [w64s (by omega)]
              refine ih st ⟨h1, h2, fun hc t a h4 h5 h6 h7 => ?_⟩
              by_cases e : t = (s : Int)
              · subst e; intro _ _; exact hv
              · exact (h3 hc).1 t a h4 (by omega) h6 h7)
        have := letters 0 st (by omega) ⟨h1, h2, fun hc => ⟨fun t a h4 h5 h6 h7 => h3 hc t a h4 h5 h6 h7, fun a h5 h6 => absurd h6 (by omega)⟩⟩
        simpa using this)
    have := pass 0 (c, false) (by omega) ⟨I0, ⟨Nat.le_refl _, fun h => by cases h⟩, fun _ t a h4 h5 => absurd h5 (by omega)⟩
    simpa using this
  unfold Zay.f
  refine EvP.here rfl (EvP.yes (by simp; omega) ?_)
  rw [List.nil_append]
  exact main _ good (Nat.le_refl _) ⟨hg, fun s h0 h1 h => .base h0 h1 h, fun s _ _ h => h⟩
end Go.Proofs.Ytgindgodfcfgkaa.U
end M7
section M8
namespace Go.Proofs.Ytgindgodfcfgkaa.U
open Go.RowKit Go.Proofs.YtgindgodfcfgkaaW.PrintWords Go.Proofs.YtgindgodfcfgkaaW.PrintLast Go.Proofs.YtgindgodfcfgkaaW.PrintMore
set_option linter.unusedVariables false
/-! Sets as numbers. -/
theorem i64_id (n : Int) (h0 : 0 ≤ n) (h1 : n < 2 ^ 63) : IntKind.i64.wrap n = n := by rw [IntKind.wrap_i64]; omega
theorem bor {a b : Nat} (ha : a < 2 ^ 63) (hb : b < 2 ^ 63) : bits .or .i64 (a : Int) (b : Int) = ((a ||| b : Nat) : Int) := (bits_nat .i64 63 (by decide) i64_id a b ha hb).2
theorem band {a b : Nat} (ha : a < 2 ^ 63) (hb : b < 2 ^ 63) : bits .and .i64 (a : Int) (b : Int) = ((a &&& b : Nat) : Int) := (bits_nat .i64 63 (by decide) i64_id a b ha hb).1
theorem shl1 {i : Nat} (hi : i < 63) : shl .i64 1 (i : Int) = ((2 ^ i : Nat) : Int) := by
  unfold shl
  rw [Int.toNat_natCast]
  have : min i IntKind.i64.bits = i := Nat.min_eq_left (by show i ≤ 64; omega)
  rw [this, Int.one_mul]
  have h := Nat.pow_lt_pow_right (a := 2) (by decide) hi
  rw [show ((2 : Int) ^ i) = ((2 ^ i : Nat) : Int) from by simp]
  exact i64_id _ (Int.natCast_nonneg _) (by exact_mod_cast h)
/-- The members k < n with p k, joined to s. -/
def orN (p : Nat → Bool) : Nat → Nat → Nat
  | 0, s => s
  | n + 1, s => if p n then orN p n s ||| 2 ^ n else orN p n s
theorem orN_lt (p : Nat → Bool) (n s m : Nat) (hn : n ≤ m) (hs : s < 2 ^ m) : orN p n s < 2 ^ m := by
  induction n with
  | zero => exact hs
  | succ n ih =>
    unfold orN
    split
    · exact Nat.or_lt_two_pow (ih (by omega)) (Nat.pow_lt_pow_right (by decide) (by omega))
    · exact ih (by omega)
theorem orN_congr {p q : Nat → Bool} {n s : Nat} (h : ∀ j, j < n → p j = q j) : orN p n s = orN q n s := by
  induction n with
  | zero => rfl
  | succ n ih =>
    unfold orN
    rw [h n (by omega), ih (fun j hj => h j (by omega))]
end Go.Proofs.Ytgindgodfcfgkaa.U
end M8
section M9
namespace Go.Proofs.Ytgindgodfcfgkaa.U
open Go.RowKit Go.Proofs.Ytgindgodfcfgkaa.P Go.Proofs.YtgindgodfcfgkaaW.PrintWords Go.Proofs.YtgindgodfcfgkaaW.PrintLast Go.Proofs.YtgindgodfcfgkaaW.PrintMore
set_option linter.unusedVariables false
/-! The machine whose state 0 is the start. -/
def turn (S s : Int) : Int := if s = 0 then S else if s = S then 0 else s
theorem turn_turn (S s : Int) : turn S (turn S s) = s := by unfold turn; split <;> split <;> (try split) <;> omega
theorem turn_in {S s : Int} {n : Nat} (hS : 0 ≤ S) (hn : S < n) (h0 : 0 ≤ s) (h1 : s < n) : 0 ≤ turn S s ∧ turn S s < n := by unfold turn; split <;> (try split) <;> omega
theorem turn_neg {S s : Int} (hS : 0 ≤ S) (h : s < 0) : turn S s = s := by unfold turn; rw [if_neg (by omega), if_neg (by omega)]
theorem turn_eq (L S F : Int) (N : List (List Int)) (s : Int) : Zc5.f L S F N s = some (turn S s) := by
  unfold Zc5.f turn
  by_cases h : s = 0
  · rw [if_pos h, if_pos h]
  · rw [if_neg h, if_neg h]
    by_cases h2 : s = S
    · rw [if_pos h2, if_pos h2]
    · rw [if_neg h2, if_neg h2]
def freeRow (L S : Int) (N : List (List Int)) (s : Nat) : List Int := (List.range L.toNat).map fun (a : Nat) => turn S (nx N (turn S s) a)
def freeN (L S : Int) (N : List (List Int)) : List (List Int) := (List.range N.length).map (freeRow L S N)
def freeG (S F : Int) (N : List (List Int)) : List Bool := (List.range N.length).map fun (s : Nat) => hasB F (turn S s)
theorem l11Free_ev {L S F : Int} {N : List (List Int)} (hN : Zcm L N) (hn : N.length ≤ 1048576) (hL : 0 ≤ L) (b : L ≤ 1048576) (hS : 0 ≤ S) (hSn : S < N.length) :
    Ev (fun k => Zax.f k L S F N) (L, freeN L S N, freeG S F N) := by
  have key := Ev.up (fun k (st : List (List Int) × List Bool) s => Zax.l0 k s L S F N L st.1 st.2) N.length (fun _ _ => (L, freeN L S N, freeG S F N))
    (fun s st => st.1 = (List.range s).map (freeRow L S N) ∧ st.2 = (List.range s).map fun (s : Nat) => hasB F (turn S s))
    (fun st ⟨h1, h2⟩ => by
      refine Ev.round ?_
      simp only [Zax.l0]
      refine Ev.here (show Zb1.f L S F N = some (N.length : Int) from rfl) (Ev.no (by omega) ?_)
      rw [h1, h2]
      exact Ev.now _)
    (fun s st hs ⟨h1, h2⟩ ih => by
      refine Ev.round ?_
      simp only [Zax.l0]
      refine Ev.here (show Zb1.f L S F N = some (N.length : Int) from rfl) (Ev.yes (by omega) (Ev.here (turn_eq L S F N s) ?_))
      have ht := turn_in (n := N.length) (s := (s : Int)) hS hSn (by omega) (by omega)
      have hr := row_at hN ht.1 ht.2
      have inner := Ev.up (fun k (row : List Int) a => Zax.l1 k (s : Int) (turn S s) row a L S F N L st.1 st.2) L.toNat (fun _ _ => (L, freeN L S N, freeG S F N)) (fun a row => row = (List.range a).map fun (a : Nat) => turn S (nx N (turn S s) a))
        (fun row hrow => by
          refine Ev.round ?_
          simp only [Zax.l1]
          have l1 : st.1.length = s := by rw [h1]; simp
          have l2 : st.2.length = s := by rw [h2]; simp
          refine Ev.no (by omega) (Ev.yes (by omega) (Ev.here (bit_eq ht.1 (by omega)) (Ev.yes (by omega) ?_)))
          rw [w64s (by omega)]
          refine ih (_, _) ⟨?_, ?_⟩
          · rw [h1, hrow, List.range_succ, List.map_append]; rfl
          · rw [h2, List.range_succ, List.map_append]; rfl)
        (fun a row ha hrow iha => by
          refine Ev.round ?_
          simp only [Zax.l1]
          have l1 : row.length = a := by rw [hrow]; simp
          refine Ev.yes (by omega) (Ev.yes ht.1 (Ev.yes ht.2 (Ev.yes (by omega) (Ev.yes (by omega) (Ev.here (turn_eq L S F N _) (Ev.yes (by omega) ?_))))))
          rw [w64s (by omega)]
          refine iha _ ?_
          have e : nx N (turn S s) a = rd (Zah N (turn S s)) a := by unfold nx; rw [if_neg (by omega)]
          rw [hrow, List.range_succ, List.map_append, ← e]; rfl)
      have := inner 0 [] (by omega) rfl
      simpa using this)
  have := key 0 ([], []) (by omega) ⟨rfl, rfl⟩
  unfold Zax.f
  simpa using this
theorem Zdl (L S : Int) (N : List (List Int)) : (freeN L S N).length = N.length := by simp [freeN]
theorem freeN_row {L S : Int} {N : List (List Int)} {s : Nat} (hs : s < N.length) : Zah (freeN L S N) (s : Int) = freeRow L S N s := by
  have : Zah (freeN L S N) (s : Int) = (freeN L S N)[s]'(by rw [Zdl]; exact hs) := rdOf_lt (d := []) (by rw [Zdl]; exact hs)
  rw [this]; simp [freeN]
theorem freeN_nx {L S : Int} {N : List (List Int)} {s a : Int} (h0 : 0 ≤ s) (h1 : s < N.length) (ha : 0 ≤ a) (hb : a < L) : nx (freeN L S N) s a = turn S (nx N (turn S s) a) := by
  obtain ⟨k, rfl, hk⟩ := nat_of h0 h1
  obtain ⟨b, rfl⟩ := Int.eq_ofNat_of_zero_le ha
  have e : nx (freeN L S N) (k : Int) (b : Int) = rd (Zah (freeN L S N) (k : Int)) (b : Int) := by unfold nx; rw [if_neg (by omega)]
  rw [e, freeN_row hk, rd_lt (by simp [freeRow]; omega)]
  simp [freeRow]
theorem free_rows {L S : Int} {N : List (List Int)} (hN : Zcm L N) (hL : 0 ≤ L) (hS : 0 ≤ S) (hSn : S < N.length) : Zcm L (freeN L S N) := by
  intro row hr
  simp only [freeN, List.mem_map, List.mem_range] at hr
  obtain ⟨s, hs, rfl⟩ := hr
  refine ⟨by simp [freeRow]; omega, fun t ht => ?_⟩
  simp only [freeRow, List.mem_map, List.mem_range] at ht
  obtain ⟨a, ha, rfl⟩ := ht
  rw [Zdl]
  have ht := turn_in (n := N.length) (s := (s : Int)) hS hSn (by omega) (by omega)
  have hx := nx_in hN ht.2 (a := (a : Int)) (by omega) (by omega)
  by_cases h : 0 ≤ nx N (turn S s) a
  · have := turn_in hS hSn h hx.2; omega
  · rw [turn_neg hS (by omega)]; omega
theorem freeG_at {S F : Int} {N : List (List Int)} {s : Int} (h0 : 0 ≤ s) (h1 : s < N.length) : rdOf false (freeG S F N) s = hasB F (turn S s) := by
  obtain ⟨k, rfl, hk⟩ := nat_of h0 h1
  rw [rdOf_lt (by simp [freeG]; exact hk)]
  simp [freeG]
end Go.Proofs.Ytgindgodfcfgkaa.U
end M9
section M10
namespace Go.Proofs.Ytgindgodfcfgkaa.U
open Go.RowKit Go.Proofs.Ytgindgodfcfgkaa.P Go.Proofs.YtgindgodfcfgkaaW.PrintWords Go.Proofs.YtgindgodfcfgkaaW.PrintLast Go.Proofs.YtgindgodfcfgkaaW.PrintMore
set_option linter.unusedVariables false
/-! The useful states, both ways. -/
structure UseI (L S : Int) (N : List (List Int)) (fin re le : List Bool) : Prop where
  rlen : re.length = N.length
  rsound : ∀ s : Int, 0 ≤ s → s < N.length → rdOf false re s = true → Rch L N S s
  start : rdOf false re S = true
  live : LiveI L N fin le
def paidU (N : List (List Int)) (re le : List Bool) (s a : Int) : Prop := 0 ≤ nx N s a → (rdOf false re s = true → rdOf false re (nx N s a) = true) ∧ (rdOf false le (nx N s a) = true → rdOf false le s = true)
theorem useful_full {L S : Int} {N : List (List Int)} {fin re le : List Bool} (hN : Zcm L N) (hS : 0 ≤ S) (hSn : S < N.length) (I : UseI L S N fin re le) (h : ∀ s a : Int, 0 ≤ s → s < N.length → 0 ≤ a → a < L → paidU N re le s a) :
    ∀ s : Int, 0 ≤ s → s < N.length → (rdOf false re s = true ↔ Rch L N S s) ∧ (rdOf false le s = true ↔ Led L N fin s) := by
  intro s h0 h1
  refine ⟨⟨fun hb => I.rsound s h0 h1 hb, fun hr => ?_⟩, live_full hN I.live (fun s a a1 a2 a3 a4 a5 a6 => (h s a a1 a2 a3 a4 a5).2 a6) s h0 h1⟩
  have main : ∀ s, Rch L N S s → 0 ≤ s ∧ s < N.length ∧ rdOf false re s = true := by
    intro s hr
    induction hr with
    | start => exact ⟨hS, hSn, I.start⟩
    | @step s a _ ha hb hn ih =>
      have hx := nx_in hN ih.2.1 ha hb
      exact ⟨hn, hx.2, (h s a ih.1 ih.2.1 ha hb hn).1 ih.2.2⟩
  exact (main s hr).2.2
theorem clone_eq {l : List Bool} (h : l.length < 140737488355328) : Zb5.f l = some l := if_pos h
/-- The useful states of a machine, as a list of marks. -/
def IsUse (L S : Int) (N : List (List Int)) (fin r : List Bool) : Prop := r.length = N.length ∧ ∀ s : Int, 0 ≤ s → s < N.length → (rdOf false r s = true ↔ Rch L N S s ∧ Led L N fin s)
theorem reach_mark {L S : Int} {N : List (List Int)} {fin re le : List Bool} (I : UseI L S N fin re le) {s a : Int} {t : Nat} (h0 : 0 ≤ s) (h1 : s < N.length) (ha : 0 ≤ a) (hb : a < L) (hn : nx N s a = t) (hr : rdOf false re s = true) : UseI L S N fin (re.set t true) le := by
  refine ⟨by simp [I.rlen], fun u h2 h3 hu => ?_, ?_, I.live⟩
  · rw [rdOf_set h2] at hu
    by_cases e : u = (t : Int)
    · subst e
      rw [← hn]
      exact .step (I.rsound s h0 h1 hr) ha hb (by omega)
    · rw [if_neg (by omega)] at hu
      exact I.rsound u h2 h3 hu
  · by_cases hS : 0 ≤ S
    · rw [rdOf_set hS]
      split
      · rfl
      · exact I.start
    · have := I.start
      have e : S.toNat = 0 := by omega
      show (re.set t true).getD S.toNat false = true
      have h' : re.getD S.toNat false = true := this
      rw [e] at h' ⊢
      rw [List.getD_eq_getElem?_getD, List.getElem?_set]
      by_cases ht : t = 0
      · subst ht
        by_cases hl : 0 < re.length
        · simp [hl]
        · simp at hl; subst hl; simp at h'
      · rw [if_neg ht, ← List.getD_eq_getElem?_getD]; exact h'
end Go.Proofs.Ytgindgodfcfgkaa.U
end M10
section M11
namespace Go.Proofs.Ytgindgodfcfgkaa.U
/-! Machines us functions, their languages, and the least machine of a language, numbered from its start. -/
theorem nodup_sub_len {α : Type} [DecidableEq α] : ∀ {l l' : List α}, l.Nodup → (∀ x ∈ l, x ∈ l') → l.length ≤ l'.length
  | [], l', _, _ => by simp
  | a :: t, l', hn, hs => by
    have hn' := List.nodup_cons.1 hn
    have h1 : a ∈ l' := hs a (by simp)
    have h2 : ∀ x ∈ t, x ∈ l'.erase a := fun x hx => (List.mem_erase_of_ne (fun e => hn'.1 (by rw [← e]; exact hx))).2 (hs x (by simp [hx]))
    have h3 := nodup_sub_len hn'.2 h2
    have h4 := List.length_erase_of_mem h1
    have h5 := List.length_pos_of_mem h1
    simp only [List.length_cons]
    omega
abbrev Lang := List Nat → Bool
/-- The words that a machine accepts from a state; letters are the numbers below L. -/
def accW (L : Nat) (nxt : Nat → Nat → Option Nat) (good : Nat → Bool) : Nat → Lang
  | s, [] => good s
  | s, a :: w => decide (a < L) && match nxt s a with
    | none => false
    | some t => accW L nxt good t w
def der (q : Lang) (a : Nat) : Lang := fun w => q (a :: w)
def emp (q : Lang) : Prop := ∀ w, q w = false
theorem der_none {L : Nat} {nxt : Nat → Nat → Option Nat} {good : Nat → Bool} {s a : Nat} (h : nxt s a = none) : emp (der (accW L nxt good s) a) := by
  intro w
  simp [der, accW, h]
theorem der_some {L : Nat} {nxt : Nat → Nat → Option Nat} {good : Nat → Bool} {s a t : Nat} (ha : a < L) (h : nxt s a = some t) : der (accW L nxt good s) a = accW L nxt good t := by
  funext w
  simp [der, accW, h, ha]
open Classical in
/-- Where a language stands in a list. -/
noncomputable def posOf (q : Lang) (l : List Lang) : Option Nat := l.findIdx? (fun x => decide (x = q))
open Classical in
noncomputable def cStep (q : Lang) (st : List Lang × List Int) (a : Nat) : List Lang × List Int :=
  if emp (der q a) then (st.1, st.2 ++ [-1])
  else match posOf (der q a) st.1 with
    | some k => (st.1, st.2 ++ [(k : Int)])
    | none => (st.1 ++ [der q a], st.2 ++ [(st.1.length : Int)])
noncomputable def cRow (L : Nat) (q : Lang) (qs : List Lang) : List Lang × List Int := (List.range L).foldl (cStep q) (qs, [])
noncomputable def cRun (L : Nat) : Nat → Nat → List Lang → List (List Int) → Option (List Lang × List (List Int))
  | 0, _, _, _ => none
  | f + 1, i, qs, rows => match qs[i]? with
    | some q => cRun L f (i + 1) (cRow L q qs).1 (rows ++ [(cRow L q qs).2])
    | none => some (qs, rows)
theorem cRun_mono (L : Nat) : ∀ f i qs rows r g, cRun L f i qs rows = some r → f ≤ g → cRun L g i qs rows = some r
  | 0, i, qs, rows, r, g, h, _ => by simp [cRun] at h
  | f + 1, i, qs, rows, r, g, h, hg => by
    obtain ⟨g, rfl⟩ : ∃ m, g = m + 1 := ⟨g - 1, by omega⟩
    unfold cRun at h ⊢
    cases e : qs[i]? with
    | none => rw [e] at h; exact h
    | some q =>
      rw [e] at h
      exact cRun_mono L f _ _ _ r g h (by omega)
/-- The least machine of a language: its states' languages, in the order in which they are found, and its rows. -/
def Zc9 (L : Nat) (q : Lang) (r : List Lang × List (List Int)) : Prop := ∃ f, cRun L f 0 [q] [] = some r
theorem Zc9.unique {L : Nat} {q : Lang} {r r' : List Lang × List (List Int)} (h : Zc9 L q r) (h' : Zc9 L q r') : r = r' := by
  obtain ⟨f, h⟩ := h
  obtain ⟨f', h'⟩ := h'
  have h1 := cRun_mono L f _ _ _ _ (max f f') h (by omega)
  have h2 := cRun_mono L f' _ _ _ _ (max f f') h' (by omega)
  exact Option.some.inj (h1.symm.trans h2)
/-! The run of a machine's own states, numbered by classes. -/
section
variable (L : Nat) (nxt : Nat → Nat → Option Nat) (cls : Nat → Int)
def mStep (s : Nat) (st : List Nat × List Int) (a : Nat) : List Nat × List Int :=
  match nxt s a with
  | none => (st.1, st.2 ++ [-1])
  | some t => if cls t < 0 then (st.1, st.2 ++ [-1])
    else match st.1.findIdx? (fun x => decide (cls x = cls t)) with
      | some k => (st.1, st.2 ++ [(k : Int)])
      | none => (st.1 ++ [t], st.2 ++ [(st.1.length : Int)])
def mRow (s : Nat) (l : List Nat) : List Nat × List Int := (List.range L).foldl (mStep nxt cls s) (l, [])
def mRun : Nat → Nat → List Nat → List (List Int) → Option (List Nat × List (List Int))
  | 0, _, _, _ => none
  | f + 1, i, l, rows => match l[i]? with
    | some s => mRun f (i + 1) (mRow L nxt cls s l).1 (rows ++ [(mRow L nxt cls s l).2])
    | none => some (l, rows)
end
/-- The classes of states tell their languages apart. -/
structure ClsOK (L n : Nat) (nxt : Nat → Nat → Option Nat) (good : Nat → Bool) (V : Nat → Prop) (cls : Nat → Int) : Prop where
  lt : ∀ s, V s → s < n
  closed : ∀ s a t, V s → a < L → nxt s a = some t → V t
  dead : ∀ s, V s → (cls s < 0 ↔ emp (accW L nxt good s))
  same : ∀ s t, V s → V t → 0 ≤ cls s → 0 ≤ cls t → (cls s = cls t ↔ accW L nxt good s = accW L nxt good t)
section
variable {L n : Nat} {nxt : Nat → Nat → Option Nat} {good : Nat → Bool} {V : Nat → Prop} {cls : Nat → Int}
theorem findIdx_map {α β : Type} (f : α → β) (p : β → Bool) (p' : α → Bool) : ∀ l : List α, (∀ x ∈ l, p (f x) = p' x) → (l.map f).findIdx? p = l.findIdx? p'
  | [], _ => rfl
  | x :: l, h => by
    rw [List.map_cons, List.findIdx?_cons, List.findIdx?_cons, h x (by simp), findIdx_map f p p' l (fun y hy => h y (by simp [hy]))]
/-- The states so far: known, alive but the first one perhaps, apart. -/
structure LOK (V : Nat → Prop) (cls : Nat → Int) (l : List Nat) : Prop where
  v : ∀ x ∈ l, V x
  live : ∀ x ∈ l, 0 ≤ cls x
  apart : l.Pairwise (fun x y => cls x ≠ cls y)
theorem mStep_ok (H : ClsOK L n nxt good V cls) {s a : Nat} (hs : V s) (ha : a < L) {l : List Nat} (hl : LOK V cls l) (row : List Int) :
    LOK V cls (mStep nxt cls s (l, row) a).1 ∧ cStep (accW L nxt good s) (l.map (accW L nxt good), row) a = ((mStep nxt cls s (l, row) a).1.map (accW L nxt good), (mStep nxt cls s (l, row) a).2) := by
  unfold mStep cStep
  cases e : nxt s a with
  | none => rw [if_pos (der_none e)]; exact ⟨hl, rfl⟩
  | some t =>
    rw [der_some ha e]
    have ht := H.closed s a t hs ha e
    dsimp only
    by_cases hc : cls t < 0
    · rw [if_pos ((H.dead t ht).1 hc), if_pos hc]; exact ⟨hl, rfl⟩
    · rw [if_neg (fun hh => hc ((H.dead t ht).2 hh)), if_neg hc]
      have hf : posOf (accW L nxt good t) (l.map (accW L nxt good)) = l.findIdx? (fun x => decide (cls x = cls t)) := by
        unfold posOf
        refine findIdx_map _ _ _ l fun x hx => ?_
        rw [decide_eq_decide]
        exact (H.same x t (hl.v x hx) ht (hl.live x hx) (by omega)).symm
      rw [hf]
      cases e2 : l.findIdx? (fun x => decide (cls x = cls t)) with
      | some k => exact ⟨hl, rfl⟩
      | none =>
        rw [List.findIdx?_eq_none_iff] at e2
        refine ⟨⟨fun x hx => ?_, fun x hx => ?_, ?_⟩, by simp⟩
        · rcases List.mem_append.1 hx with hx | hx
          · exact hl.v x hx
          · rw [List.mem_singleton.1 hx]; exact ht
        · rcases List.mem_append.1 hx with hx | hx
          · exact hl.live x hx
          · rw [List.mem_singleton.1 hx]; omega
        · rw [List.pairwise_append]
          refine ⟨hl.apart, List.pairwise_singleton _ _, fun x hx y hy => ?_⟩
          rw [List.mem_singleton.1 hy]
          simpa using e2 x hx
theorem mFold_ok (H : ClsOK L n nxt good V cls) {s : Nat} (hs : V s) : ∀ (us : List Nat), (∀ a ∈ us, a < L) → ∀ (l : List Nat) (row : List Int), LOK V cls l →
    LOK V cls (us.foldl (mStep nxt cls s) (l, row)).1 ∧ us.foldl (cStep (accW L nxt good s)) (l.map (accW L nxt good), row) = ((us.foldl (mStep nxt cls s) (l, row)).1.map (accW L nxt good), (us.foldl (mStep nxt cls s) (l, row)).2)
  | [], _, l, row, hl => ⟨hl, rfl⟩
  | a :: us, ha, l, row, hl => by
    obtain ⟨h1, h2⟩ := mStep_ok H hs (ha a (by simp)) hl row
    rw [List.foldl_cons, List.foldl_cons, h2]
    exact mFold_ok H hs us (fun x hx => ha x (by simp [hx])) _ _ h1
theorem mRow_ok (H : ClsOK L n nxt good V cls) {s : Nat} (hs : V s) {l : List Nat} (hl : LOK V cls l) :
    LOK V cls (mRow L nxt cls s l).1 ∧ cRow L (accW L nxt good s) (l.map (accW L nxt good)) = ((mRow L nxt cls s l).1.map (accW L nxt good), (mRow L nxt cls s l).2) :=
  mFold_ok H hs (List.range L) (fun _ ha => List.mem_range.1 ha) l [] hl
theorem LOK.length_le (H : ClsOK L n nxt good V cls) {l : List Nat} (hl : LOK V cls l) : l.length ≤ n := by
  have h1 : l.Nodup := hl.apart.imp (fun h e => h (by rw [e]))
  have := nodup_sub_len (l' := List.range n) h1 (fun x hx => List.mem_range.2 (H.lt x (hl.v x hx)))
  simpa using this
theorem mRun_ok (H : ClsOK L n nxt good V cls) : ∀ (f i : Nat) (l : List Nat) (rows : List (List Int)), LOK V cls l → n < i + f → i ≤ n → ∃ l' rows', mRun L nxt cls f i l rows = some (l', rows') ∧ LOK V cls l' ∧ cRun L f i (l.map (accW L nxt good)) rows = some (l'.map (accW L nxt good), rows')
  | 0, i, l, rows, hl, hf, hi => by omega
  | f + 1, i, l, rows, hl, hf, hi => by
    unfold mRun cRun
    rw [List.getElem?_map]
    cases e : l[i]? with
    | none => exact ⟨l, rows, rfl, hl, rfl⟩
    | some s =>
      obtain ⟨h1, h2⟩ := mRow_ok H (hl.v s (List.mem_of_getElem? e)) hl
      have h3 := (List.getElem?_eq_some_iff.1 e).1
      have h4 := hl.length_le H
      simp only [Option.map_some]
      rw [h2]
      exact mRun_ok H f (i + 1) _ _ h1 (by omega) (by omega)
/-- The run from a living start comes to the least machine of the start's language. -/
theorem mRun_least (H : ClsOK L n nxt good V cls) {s : Nat} (hs : V s) (hc : 0 ≤ cls s) :
    ∃ l rows, mRun L nxt cls (n + 1) 0 [s] [] = some (l, rows) ∧ LOK V cls l ∧ Zc9 L (accW L nxt good s) (l.map (accW L nxt good), rows) := by
  obtain ⟨l, rows, h1, h2, h3⟩ := mRun_ok H (n + 1) 0 [s] [] ⟨fun x hx => by rw [List.mem_singleton.1 hx]; exact hs, fun x hx => by rw [List.mem_singleton.1 hx]; exact hc, List.pairwise_singleton _ _⟩ (by omega) (by omega)
  exact ⟨l, rows, h1, h2, n + 1, h3⟩
end
/-- The least machine of no words. -/
theorem least_empty (L : Nat) {q : Lang} (h : emp q) : Zc9 L q ([q], [List.replicate L (-1)]) := by
  have hrow : ∀ (us : List Nat) (row : List Int), us.foldl (cStep q) ([q], row) = ([q], row ++ List.replicate us.length (-1)) := by
    intro us
    induction us with
    | nil => intro row; simp
    | cons a us ih =>
      intro row
      have hst : cStep q ([q], row) a = ([q], row ++ [-1]) := by
        unfold cStep
        rw [if_pos (show emp (der q a) from fun w => h (a :: w))]
      rw [List.foldl_cons, hst]
      rw [ih (row ++ [-1])]
      simp [List.replicate_succ]
  refine ⟨2, ?_⟩
  have := hrow (List.range L) []
  simp only [List.nil_append, List.length_range] at this
  simp [cRun, cRow, this]
end Go.Proofs.Ytgindgodfcfgkaa.U
end M11
section M12
namespace Go.Proofs.Ytgindgodfcfgkaa.U
/-! Classes that are refined until they stay: they tell the languages apart. -/
def clsO (c : Nat → Int) : Option Nat → Int
  | none => -1
  | some t => c t
structure Ref (L n : Nat) (nxt : Nat → Nat → Option Nat) (inc : Nat → Prop) (c c' : Nat → Int) : Prop where
  out : ∀ s, s < n → ¬ inc s → c' s = -1
  nn : ∀ s, s < n → inc s → 0 ≤ c' s
  iff : ∀ s t, s < n → t < n → inc s → inc t → (c' s = c' t ↔ c s = c t ∧ ∀ a, a < L → clsO c (nxt s a) = clsO c (nxt t a))
/-- The classes are the numbers below m. -/
structure Cnt (n : Nat) (inc : Nat → Prop) (c : Nat → Int) (m : Nat) : Prop where
  lt : ∀ s, s < n → inc s → 0 ≤ c s ∧ c s < m
  onto : ∀ k, k < m → ∃ s, s < n ∧ inc s ∧ c s = k
theorem cnt_stable {n m : Nat} {inc : Nat → Prop} {c c' : Nat → Int} (h : Cnt n inc c m) (h' : Cnt n inc c' m) (hr : ∀ s t, s < n → t < n → inc s → inc t → c' s = c' t → c s = c t)
    {s t : Nat} (hs : s < n) (ht : t < n) (is : inc s) (it : inc t) (e : c s = c t) : c' s = c' t := by
  refine Classical.byContradiction fun hne => ?_
  have hx : ∀ k : Nat, ∃ x, k < m → x < n ∧ inc x ∧ c' x = k := fun k => by
    by_cases hk : k < m
    · obtain ⟨x, hx⟩ := h'.onto k hk; exact ⟨x, fun _ => hx⟩
    · exact ⟨0, fun hh => absurd hh hk⟩
  have a : ∃ r : Nat → Nat, ∀ k, k < m → r k < n ∧ inc (r k) ∧ c' (r k) = k := ⟨fun k => Classical.choose (hx k), fun k hk => Classical.choose_spec (hx k) hk⟩
  obtain ⟨r, hr'⟩ := a
  have k1 := h'.lt s hs is
  have k2 := h'.lt t ht it
  have main : ∀ j ∈ List.range m, j ∈ ((List.range m).erase (c' t).toNat).map (fun k => (c (r k)).toNat) := by
    intro j hj
    obtain ⟨x, hxn, hxi, hxc⟩ := h.onto j (List.mem_range.1 hj)
    have k3 := h'.lt x hxn hxi
    rw [List.mem_map]
    by_cases hxt : c' x = c' t
    · refine ⟨(c' s).toNat, (List.mem_erase_of_ne (by omega)).2 (List.mem_range.2 (by omega)), ?_⟩
      obtain ⟨q1, q2, q3⟩ := hr' (c' s).toNat (by omega)
      have q4 := hr _ _ q1 hs q2 is (by omega)
      have q5 := hr _ _ hxn ht hxi it hxt
      omega
    · refine ⟨(c' x).toNat, (List.mem_erase_of_ne (by omega)).2 (List.mem_range.2 (by omega)), ?_⟩
      obtain ⟨q1, q2, q3⟩ := hr' (c' x).toNat (by omega)
      have q4 := hr _ _ q1 hxn q2 hxi (by omega)
      omega
  have hl := nodup_sub_len List.nodup_range main
  rw [List.length_map, List.length_erase_of_mem (List.mem_range.2 (by omega)), List.length_range] at hl
  omega
section
variable {L n : Nat} {nxt : Nat → Nat → Option Nat} {good : Nat → Bool} {V : Nat → Prop}
/-- Which states have a class: the known ones that lead to a good one. -/
def incl (L : Nat) (nxt : Nat → Nat → Option Nat) (good : Nat → Bool) (V : Nat → Prop) (s : Nat) : Prop := V s ∧ ¬ emp (accW L nxt good s)
structure VOK (L n : Nat) (nxt : Nat → Nat → Option Nat) (V : Nat → Prop) : Prop where
  lt : ∀ s, V s → s < n
  closed : ∀ s a t, V s → a < L → nxt s a = some t → V t
  inn : ∀ s a t, s < n → a < L → nxt s a = some t → t < n
structure RI (L n : Nat) (nxt : Nat → Nat → Option Nat) (good : Nat → Bool) (V : Nat → Prop) (c : Nat → Int) : Prop where
  out : ∀ s, s < n → ¬ incl L nxt good V s → c s = -1
  nn : ∀ s, s < n → incl L nxt good V s → 0 ≤ c s
  lang : ∀ s t, s < n → t < n → incl L nxt good V s → incl L nxt good V t → accW L nxt good s = accW L nxt good t → c s = c t
  good : ∀ s t, s < n → t < n → incl L nxt good V s → incl L nxt good V t → c s = c t → good s = good t
theorem RI.step {c c' : Nat → Int} (hV : VOK L n nxt V) (h : RI L n nxt good V c) (R : Ref L n nxt (incl L nxt good V) c c') : RI L n nxt good V c' := by
  refine ⟨R.out, R.nn, fun s t hs ht is it e => ?_, fun s t hs ht is it e => h.good s t hs ht is it ((R.iff s t hs ht is it).1 e).1⟩
  rw [R.iff s t hs ht is it]
  refine ⟨h.lang s t hs ht is it e, fun a ha => ?_⟩
  have hd : der (accW L nxt good s) a = der (accW L nxt good t) a := by rw [e]
  have one : ∀ x y z, x < n → y < n → incl L nxt good V y → nxt x a = none → nxt y a = some z → der (accW L nxt good x) a = der (accW L nxt good y) a → c z = -1 := by
    intro x y z hx hy iy h1 h2 h3
    rw [der_some ha h2] at h3
    exact h.out z (hV.inn y a z hy ha h2) (fun hz => hz.2 (h3 ▸ der_none h1))
  cases e1 : nxt s a with
  | none =>
    cases e2 : nxt t a with
    | none => rfl
    | some t' => exact (one s t t' hs ht it e1 e2 hd).symm
  | some s' =>
    cases e2 : nxt t a with
    | none => exact one t s s' ht hs is e2 e1 hd.symm
    | some t' =>
      rw [der_some ha e1, der_some ha e2] at hd
      have v1 := hV.closed s a s' is.1 ha e1
      have v2 := hV.closed t a t' it.1 ha e2
      show c s' = c t'
      by_cases hE : emp (accW L nxt good s')
      · rw [h.out s' (hV.lt _ v1) (fun hz => hz.2 hE), h.out t' (hV.lt _ v2) (fun hz => hz.2 (hd ▸ hE))]
      · exact h.lang s' t' (hV.lt _ v1) (hV.lt _ v2) ⟨v1, hE⟩ ⟨v2, hd ▸ hE⟩ hd
theorem RI.final {c c' : Nat → Int} {m : Nat} (hV : VOK L n nxt V) (h : RI L n nxt good V c) (R : Ref L n nxt (incl L nxt good V) c c') (C : Cnt n (incl L nxt good V) c m) (C' : Cnt n (incl L nxt good V) c' m) : ClsOK L n nxt good V c' := by
  have h' := h.step hV R
  have st : ∀ s t, s < n → t < n → incl L nxt good V s → incl L nxt good V t → c s = c t → c' s = c' t := fun s t hs ht is it e =>
    cnt_stable C C' (fun s t hs ht is it e => ((R.iff s t hs ht is it).1 e).1) hs ht is it e
  have main : ∀ (w : List Nat) (s t : Nat), s < n → t < n → incl L nxt good V s → incl L nxt good V t → c' s = c' t → accW L nxt good s w = accW L nxt good t w := by
    intro w
    induction w with
    | nil => intro s t hs ht is it e; exact h'.good s t hs ht is it e
    | cons a w ih =>
      intro s t hs ht is it e
      by_cases ha : a < L
      · have hq := ((R.iff s t hs ht is it).1 e).2 a ha
        have dead : ∀ x y z, x < n → incl L nxt good V x → nxt x a = some z → c z < 0 → accW L nxt good z y = false := by
          intro x y z hx ix h1 h2
          have vz := hV.closed x a z ix.1 ha h1
          refine Classical.byContradiction fun hh => ?_
          have := h.nn z (hV.lt _ vz) ⟨vz, fun hE => hh (hE y)⟩
          omega
        have hh : der (accW L nxt good s) a w = der (accW L nxt good t) a w := by
          cases e1 : nxt s a with
          | none =>
            rw [der_none e1 w]
            cases e2 : nxt t a with
            | none => rw [der_none e2 w]
            | some t' =>
              rw [der_some ha e2, dead t w t' ht it e2]
              rw [e1, e2] at hq
              have : c t' = -1 := hq.symm
              omega
          | some s' =>
            cases e2 : nxt t a with
            | none =>
              rw [der_none e2 w, der_some ha e1, dead s w s' hs is e1]
              rw [e1, e2] at hq
              have : c s' = -1 := hq
              omega
            | some t' =>
              rw [der_some ha e1, der_some ha e2]
              rw [e1, e2] at hq
              have hq : c s' = c t' := hq
              have v1 := hV.closed s a s' is.1 ha e1
              have v2 := hV.closed t a t' it.1 ha e2
              by_cases hn : c s' < 0
              · rw [dead s w s' hs is e1 hn, dead t w t' ht it e2 (by omega)]
              · have i1 : incl L nxt good V s' := Classical.byContradiction fun hz => by have := h.out s' (hV.lt _ v1) hz; omega
                have i2 : incl L nxt good V t' := Classical.byContradiction fun hz => by have := h.out t' (hV.lt _ v2) hz; omega
                exact ih s' t' (hV.lt _ v1) (hV.lt _ v2) i1 i2 (st s' t' (hV.lt _ v1) (hV.lt _ v2) i1 i2 hq)
        exact hh
      · simp [accW, ha]
  refine ⟨hV.lt, hV.closed, fun s vs => ⟨fun hc => ?_, fun hE => ?_⟩, fun s t vs vt cs ct => ⟨fun e => ?_, fun e => ?_⟩⟩
  · refine Classical.byContradiction fun hE => ?_
    have := h'.nn s (hV.lt s vs) ⟨vs, hE⟩
    omega
  · have := h'.out s (hV.lt s vs) (fun hz => hz.2 hE)
    omega
  · have i1 : incl L nxt good V s := Classical.byContradiction fun hz => by have := h'.out s (hV.lt _ vs) hz; omega
    have i2 : incl L nxt good V t := Classical.byContradiction fun hz => by have := h'.out t (hV.lt _ vt) hz; omega
    exact funext fun w => main w s t (hV.lt _ vs) (hV.lt _ vt) i1 i2 e
  · have i1 : incl L nxt good V s := Classical.byContradiction fun hz => by have := h'.out s (hV.lt _ vs) hz; omega
    have i2 : incl L nxt good V t := Classical.byContradiction fun hz => by have := h'.out t (hV.lt _ vt) hz; omega
    exact h'.lang s t (hV.lt _ vs) (hV.lt _ vt) i1 i2 e
end
end Go.Proofs.Ytgindgodfcfgkaa.U
end M12
section M13
namespace Go.Proofs.Ytgindgodfcfgkaa.U
open Go.RowKit Go.Proofs.Ytgindgodfcfgkaa.P Go.Proofs.YtgindgodfcfgkaaW.PrintWords Go.Proofs.YtgindgodfcfgkaaW.PrintLast
set_option linter.unusedVariables false
/-! The machines of rows as machines of functions; one pass over the states. -/
def nxO (N : List (List Int)) (s a : Nat) : Option Nat := if 0 ≤ nx N s a then some (nx N s a).toNat else none
def Za9 (g : List Bool) (s : Nat) : Bool := rdOf false g (s : Int)
abbrev accM (L : Int) (N : List (List Int)) (g : List Bool) (s : Nat) : Lang := accW L.toNat (nxO N) (Za9 g) s
theorem nxO_some {N : List (List Int)} {s a t : Nat} (h : nxO N s a = some t) : nx N s a = t := by
  unfold nxO at h
  split at h
  · have := Option.some.inj h; omega
  · cases h
theorem nxO_of {N : List (List Int)} {s a : Nat} (h : 0 ≤ nx N s a) : nxO N s a = some (nx N s a).toNat := if_pos h
theorem nxO_no {N : List (List Int)} {s a : Nat} (h : nx N s a < 0) : nxO N s a = none := if_neg (by omega)
theorem led_acc {L : Int} {N : List (List Int)} {g : List Bool} (hN : Zcm L N) {s : Nat} (hs : s < N.length) : Led L N g s ↔ ¬ emp (accM L N g s) := by
  constructor
  · intro h
    have main : ∀ x : Int, Led L N g x → ∃ w, accM L N g x.toNat w = true := by
      intro x hx
      induction hx with
      | @base x h0 h1 h => exact ⟨[], by unfold accM accW Za9; rw [Int.toNat_of_nonneg h0]; exact h⟩
      | @step x a h0 h1 ha hb hn _ ih =>
        obtain ⟨w, hw⟩ := ih
        obtain ⟨y, rfl⟩ := Int.eq_ofNat_of_zero_le h0
        obtain ⟨b, rfl⟩ := Int.eq_ofNat_of_zero_le ha
        refine ⟨b :: w, ?_⟩
        unfold accM accW
        rw [Int.toNat_natCast, nxO_of hn]
        simp only [Bool.and_eq_true, decide_eq_true_eq]
        exact ⟨by omega, hw⟩
    obtain ⟨w, hw⟩ := main _ h
    intro he
    have := he w
    rw [Int.toNat_natCast] at hw
    rw [hw] at this
    cases this
  · intro h
    have main : ∀ (w : List Nat) (s : Nat), s < N.length → accM L N g s w = true → Led L N g s := by
      intro w
      induction w with
      | nil => intro s hs hw; exact .base (by omega) (by omega) hw
      | cons a w ih =>
        intro s hs hw
        unfold accM accW at hw
        simp only [Bool.and_eq_true, decide_eq_true_eq] at hw
        cases e : nxO N s a with
        | none => rw [e] at hw; simp at hw
        | some t =>
          rw [e] at hw
          have h1 := nxO_some e
          have hx := nx_in hN (s := s) (a := a) (by omega) (by omega) (by omega)
          refine .step (a := (a : Int)) (by omega) (by omega) (by omega) (by omega) (by omega) ?_
          rw [h1]
          exact ih t (by omega) hw.2
    obtain ⟨w, hw⟩ := Classical.not_forall.1 h
    exact main w s hs (by simpa using hw)
theorem vok_rch {L S : Int} {N : List (List Int)} (hN : Zcm L N) (hS : 0 ≤ S) (hSn : S < N.length) : VOK L.toNat N.length (nxO N) (fun s => Rch L N S s) := by
  have main : ∀ x : Int, Rch L N S x → 0 ≤ x ∧ x < N.length := by
    intro x hx
    induction hx with
    | start => exact ⟨hS, hSn⟩
    | step h ha hb hn ih => exact ⟨hn, (nx_in hN ih.2 ha hb).2⟩
  refine ⟨fun s hs => by have := main _ hs; omega, fun s a t hs ha e => ?_, fun s a t hs ha e => ?_⟩
  · have h1 := nxO_some e
    rw [← h1]
    exact .step hs (by omega) (by omega) (by omega)
  · have h1 := nxO_some e
    have := nx_in hN (s := s) (a := a) (by omega) (by omega) (by omega)
    omega
theorem vok_all {L : Int} {N : List (List Int)} (hN : Zcm L N) : VOK L.toNat N.length (nxO N) (fun s => s < N.length) := by
  refine ⟨fun s hs => hs, fun s a t hs ha e => ?_, fun s a t hs ha e => ?_⟩
  all_goals
    have h1 := nxO_some e
    have := nx_in hN (s := s) (a := a) (by omega) (by omega) (by omega)
    omega
theorem cnt_rep {n m : Nat} {inc : Nat → Prop} {c : Nat → Int} (h : Cnt n inc c m) : ∃ r : Nat → Nat, ∀ k, k < m → r k < n ∧ inc (r k) ∧ c (r k) = k := by
  have hx : ∀ k : Nat, ∃ x, k < m → x < n ∧ inc x ∧ c x = k := fun k => by
    by_cases hk : k < m
    · obtain ⟨x, hx⟩ := h.onto k hk; exact ⟨x, fun _ => hx⟩
    · exact ⟨0, fun hh => absurd hh hk⟩
  exact ⟨fun k => Classical.choose (hx k), fun k hk => Classical.choose_spec (hx k) hk⟩
theorem nodup_map_range {m : Nat} {f : Nat → Nat} (h : ∀ i j, i < m → j < m → f i = f j → i = j) : ((List.range m).map f).Nodup := by
  refine List.Pairwise.map f (R := fun i j => i < m ∧ j < m ∧ i ≠ j) (fun i j hij e => hij.2.2 (h i j hij.1 hij.2.1 e)) ?_
  have h1 : (List.range m).Nodup := List.nodup_range
  exact List.Pairwise.imp_of_mem (fun ha hb hne => ⟨List.mem_range.1 ha, List.mem_range.1 hb, hne⟩) h1
theorem cnt_le {n m : Nat} {inc : Nat → Prop} {c : Nat → Int} (h : Cnt n inc c m) : m ≤ n := by
  obtain ⟨r, hr⟩ := cnt_rep h
  have h1 := nodup_map_range (m := m) (f := r) (fun i j hi hj e => by
    have a := (hr i hi).2.2
    have b := (hr j hj).2.2
    rw [e] at a
    omega)
  have := nodup_sub_len (l' := List.range n) h1 (fun x hx => by
    obtain ⟨k, hk, rfl⟩ := List.mem_map.1 hx
    exact List.mem_range.2 (hr k (List.mem_range.1 hk)).1)
  simpa using this
theorem cnt_mono {n m m' : Nat} {inc : Nat → Prop} {c c' : Nat → Int} (h : Cnt n inc c m) (h' : Cnt n inc c' m') (hr : ∀ s t, s < n → t < n → inc s → inc t → c' s = c' t → c s = c t) : m ≤ m' := by
  obtain ⟨r, d⟩ := cnt_rep h
  have hin : ∀ k, k < m → 0 ≤ c' (r k) ∧ c' (r k) < m' := fun k hk => h'.lt _ (d k hk).1 (d k hk).2.1
  have h1 := nodup_map_range (m := m) (f := fun k => (c' (r k)).toNat) (fun i j hi hj e => by
    have a := hin i hi
    have b := hin j hj
    have := hr _ _ (d i hi).1 (d j hj).1 (d i hi).2.1 (d j hj).2.1 (by have e' : (c' (r i)).toNat = (c' (r j)).toNat := e; omega)
    have q1 := (d i hi).2.2
    have q2 := (d j hj).2.2
    omega)
  have := nodup_sub_len (l' := List.range m') h1 (fun x hx => by
    obtain ⟨k, hk, rfl⟩ := List.mem_map.1 hx
    have := hin k (List.mem_range.1 hk)
    exact List.mem_range.2 (by omega))
  simpa using this
/-- One pass over the states up to i: the first state of each class found, and the new classes. -/
structure PassI {κ : Type} (inc : Nat → Prop) (sig : Nat → κ) (i : Nat) (ks : List Nat) (c' : Nat → Int) : Prop where
  first : ∀ x ∈ ks, x < i ∧ inc x
  apart : ks.Pairwise (fun x y => sig x ≠ sig y)
  out : ∀ s, s < i → ¬ inc s → c' s = -1
  num : ∀ s, s < i → inc s → ∃ j, j < ks.length ∧ c' s = j ∧ ∀ x, ks[j]? = some x → sig x = sig s
section
variable {κ : Type} {inc : Nat → Prop} {sig : Nat → κ} {i : Nat} {ks : List Nat} {c' c'' : Nat → Int}
theorem PassI.start : PassI inc sig 0 [] c' := ⟨fun x hx => by simp at hx, List.Pairwise.nil, fun s hs => absurd hs (by omega), fun s hs => absurd hs (by omega)⟩
theorem PassI.skip (I : PassI inc sig i ks c') (hi : ¬ inc i) (h1 : c'' i = -1) (h2 : ∀ s, s < i → c'' s = c' s) : PassI inc sig (i + 1) ks c'' := by
  refine ⟨fun x hx => ⟨by have := (I.first x hx).1; omega, (I.first x hx).2⟩, I.apart, fun s hs hn => ?_, fun s hs hn => ?_⟩
  · by_cases e : s = i
    · subst e; exact h1
    · rw [h2 s (by omega)]; exact I.out s (by omega) hn
  · by_cases e : s = i
    · subst e; exact absurd hn hi
    · rw [h2 s (by omega)]; exact I.num s (by omega) hn
theorem PassI.known (I : PassI inc sig i ks c') {j x : Nat} (hj : ks[j]? = some x) (hx : sig x = sig i) (h1 : c'' i = j) (h2 : ∀ s, s < i → c'' s = c' s) (hi : inc i) : PassI inc sig (i + 1) ks c'' := by
  refine ⟨fun x hx => ⟨by have := (I.first x hx).1; omega, (I.first x hx).2⟩, I.apart, fun s hs hn => ?_, fun s hs hn => ?_⟩
  · by_cases e : s = i
    · subst e; exact absurd hi hn
    · rw [h2 s (by omega)]; exact I.out s (by omega) hn
  · by_cases e : s = i
    · subst e
      refine ⟨j, (List.getElem?_eq_some_iff.1 hj).1, h1, fun y hy => ?_⟩
      rw [hj] at hy
      rw [← Option.some.inj hy]
      exact hx
    · rw [h2 s (by omega)]; exact I.num s (by omega) hn
theorem PassI.new (I : PassI inc sig i ks c') (hne : ∀ x ∈ ks, sig x ≠ sig i) (h1 : c'' i = ks.length) (h2 : ∀ s, s < i → c'' s = c' s) (hi : inc i) : PassI inc sig (i + 1) (ks ++ [i]) c'' := by
  refine ⟨fun x hx => ?_, ?_, fun s hs hn => ?_, fun s hs hn => ?_⟩
  · rcases List.mem_append.1 hx with hx | hx
    · exact ⟨by have := (I.first x hx).1; omega, (I.first x hx).2⟩
    · rw [List.mem_singleton.1 hx]; exact ⟨by omega, hi⟩
  · rw [List.pairwise_append]
    exact ⟨I.apart, List.pairwise_singleton _ _, fun x hx y hy => by rw [List.mem_singleton.1 hy]; exact hne x hx⟩
  · by_cases e : s = i
    · subst e; exact absurd hi hn
    · rw [h2 s (by omega)]; exact I.out s (by omega) hn
  · by_cases e : s = i
    · subst e
      refine ⟨ks.length, by simp, h1, fun y hy => ?_⟩
      simp at hy
      rw [hy]
    · rw [h2 s (by omega)]
      obtain ⟨j, hj, h3, h4⟩ := I.num s (by omega) hn
      refine ⟨j, by simp; omega, h3, fun y hy => h4 y ?_⟩
      rwa [List.getElem?_append_left hj] at hy
theorem PassI.same (I : PassI inc sig i ks c') {s t : Nat} (hs : s < i) (ht : t < i) (is : inc s) (it : inc t) : c' s = c' t ↔ sig s = sig t := by
  obtain ⟨j, hj, h1, h2⟩ := I.num s hs is
  obtain ⟨l, hl, h3, h4⟩ := I.num t ht it
  have q1 := h2 _ (List.getElem?_eq_getElem hj)
  have q2 := h4 _ (List.getElem?_eq_getElem hl)
  constructor
  · intro e
    have : j = l := by omega
    subst this
    rw [← q1, ← q2]
  · intro e
    have : j = l := by
      refine Classical.byContradiction fun hne => ?_
      have hp := List.pairwise_iff_getElem.1 I.apart
      rcases Nat.lt_or_gt_of_ne hne with hlt | hlt
      · exact hp j l hj hl hlt (by rw [q1, q2, e])
      · exact hp l j hl hj hlt (by rw [q1, q2, e])
    omega
theorem PassI.cnt (I : PassI inc sig i ks c') : Cnt i inc c' ks.length := by
  refine ⟨fun s hs is => ?_, fun k hk => ?_⟩
  · obtain ⟨j, hj, h1, _⟩ := I.num s hs is
    omega
  · obtain ⟨h1, h2⟩ := I.first ks[k] (List.getElem_mem hk)
    refine ⟨ks[k], h1, h2, ?_⟩
    obtain ⟨j, hj, h3, h4⟩ := I.num _ h1 h2
    have q := h4 _ (List.getElem?_eq_getElem hj)
    have : j = k := by
      refine Classical.byContradiction fun hne => ?_
      have hp := List.pairwise_iff_getElem.1 I.apart
      rcases Nat.lt_or_gt_of_ne hne with hlt | hlt
      · exact hp j k hj hk hlt q
      · exact hp k j hk hj hlt q.symm
    omega
end
/-- What tells the states apart in one pass. -/
def sigO (L : Nat) (nxt : Nat → Nat → Option Nat) (c : Nat → Int) (s : Nat) : Int × List Int := (c s, (List.range L).map fun a => clsO c (nxt s a))
theorem sigO_iff {L : Nat} {nxt : Nat → Nat → Option Nat} {c : Nat → Int} {s t : Nat} : sigO L nxt c s = sigO L nxt c t ↔ c s = c t ∧ ∀ a, a < L → clsO c (nxt s a) = clsO c (nxt t a) := by
  unfold sigO
  rw [Prod.mk.injEq]
  refine and_congr Iff.rfl ?_
  rw [List.map_inj_left]
  exact ⟨fun h a ha => h a (List.mem_range.2 ha), fun h a ha => h a (List.mem_range.1 ha)⟩
theorem PassI.ref {L n : Nat} {nxt : Nat → Nat → Option Nat} {inc : Nat → Prop} {c c' : Nat → Int} {ks : List Nat} (I : PassI inc (sigO L nxt c) n ks c') : Ref L n nxt inc c c' :=
  ⟨I.out, fun s hs is => by obtain ⟨j, _, h, _⟩ := I.num s hs is; omega, fun s t hs ht is it => (I.same hs ht is it).trans sigO_iff⟩
/-- The number of classes before a pass: none was counted yet, or it is right. -/
def Many (n : Nat) (inc : Nat → Prop) (c : Nat → Int) (m : Int) : Prop := m ≤ 0 ∨ ∃ k : Nat, m = k ∧ Cnt n inc c k
theorem many_done {L n : Nat} {nxt : Nat → Nat → Option Nat} {good : Nat → Bool} {V : Nat → Prop} {c c' : Nat → Int} {ks : List Nat} {m : Int} (hV : VOK L n nxt V) (h : RI L n nxt good V c)
    (hm : Many n (incl L nxt good V) c m) (I : PassI (incl L nxt good V) (sigO L nxt c) n ks c') (e : (ks.length : Int) = m) : ClsOK L n nxt good V c' := by
  have C' := I.cnt
  refine RI.final (m := ks.length) hV h I.ref ?_ C'
  rcases hm with h0 | ⟨k, rfl, C⟩
  · have hz : ks.length = 0 := by omega
    refine ⟨fun s hs is => ?_, fun k hk => absurd hk (by omega)⟩
    have := C'.lt s hs is
    omega
  · have : ks.length = k := by omega
    rw [this]; exact C
theorem many_more {L n : Nat} {nxt : Nat → Nat → Option Nat} {inc : Nat → Prop} {c c' : Nat → Int} {ks : List Nat} {m : Int}
    (hm : Many n inc c m) (I : PassI inc (sigO L nxt c) n ks c') (e : (ks.length : Int) ≠ m) : Many n inc c' ks.length ∧ m < ks.length ∧ ks.length ≤ n := by
  have C' := I.cnt
  refine ⟨.inr ⟨_, rfl, C'⟩, ?_, cnt_le C'⟩
  rcases hm with h0 | ⟨k, rfl, C⟩
  · omega
  · have := cnt_mono C C' (fun s t hs ht is it e => (sigO_iff.1 ((I.same hs ht is it).1 e)).1)
    omega
/-- The classes before the first pass. -/
theorem ri_first {L n : Nat} {nxt : Nat → Nat → Option Nat} {good : Nat → Bool} {V : Nat → Prop} {c : Nat → Int}
    (h1 : ∀ s, s < n → ¬ incl L nxt good V s → c s = -1) (h2 : ∀ s, s < n → incl L nxt good V s → c s = if good s then 1 else 0) : RI L n nxt good V c := by
  refine ⟨h1, fun s hs is => ?_, fun s t hs ht is it e => ?_, fun s t hs ht is it e => ?_⟩
  · rw [h2 s hs is]; split <;> omega
  · have : good s = good t := by have := congrFun e []; simpa [accW] using this
    rw [h2 s hs is, h2 t ht it, this]
  · rw [h2 s hs is, h2 t ht it] at e
    cases hg : good s <;> cases hg' : good t <;> rw [hg, hg'] at e <;> first | rfl | (simp at e)
theorem Zb8 {l : List Int} {i : Nat} (h : i < l.length) (v : Int) : rd (l.set i v) (i : Int) = v := by
  rw [rd_lt (by simp; exact h)]; simp
theorem Zdh {l : List Int} {i j : Nat} (h : i ≠ j) (v : Int) : rd (l.set i v) (j : Int) = rd l (j : Int) := by
  show (l.set i v).getD j 0 = l.getD j 0
  rw [List.getD_eq_getElem?_getD, List.getElem?_set_ne h, List.getD_eq_getElem?_getD]
/-- The class of a target as the code reads it. -/
def clsN (l : List Int) (x : Int) : Int := if 0 ≤ x then rd l x else -1
theorem clsN_eq {N : List (List Int)} {l : List Int} (s a : Nat) : clsN l (nx N s a) = clsO (fun t => rd l (t : Int)) (nxO N s a) := by
  unfold clsN nxO
  by_cases h : 0 ≤ nx N s a
  · rw [if_pos h, if_pos h]
    show rd l (nx N s a) = rd l (((nx N s a).toNat : Nat) : Int)
    rw [Int.toNat_of_nonneg h]
  · rw [if_neg h, if_neg h]; rfl
end Go.Proofs.Ytgindgodfcfgkaa.U
end M13
