import Derived.Lib.SliceRun
import Derived.Maps.OwnSet
import Derived.Shelf.Abstract
import Derived.Shelf.Spec.TrailingZeros
import Derived.Test.YtlmicipfikammaaDoorProg
import Derived.WideKeyRuns
import Derived.Test.YtlmicipfikammaaDoorCFnExactLoopFault1
set_option maxHeartbeats 8000000
set_option maxRecDepth 100000
section
namespace Go.Proofs.YtlmicipfikammaaDoor.Sh
open Go.RowKit Go.Proofs.YtlmicipfikammaaDoorW.PrintWords Go.Proofs.YtlmicipfikammaaDoorW.PrintLast Go.Proofs.YtlmicipfikammaaDoorW.PrintMore
open Kd
theorem bW {B : Nat} {w W : World} (h : Below B w W := by repeat (first | (with_reducible first | exact Zab.out (by assumption) | apply Zbf | apply Za7 | apply Zbe | refine Zbs ?_ (Zab.out (by assumption))) | exact Zab.out (by assumption))) : Below B w W := h
theorem ofD {p : Prop} [Decidable p] (h : decide p = true := by first | (with_reducible assumption) | assumption) : p := of_decide_eq_true h
theorem rP {p q : Prop} (h : p) (k : p → q := by intro h_; (with_reducible repeat (first | apply Kd.zE | apply Kd.zD | apply Kd.zB)); exact h_) : q := k h
theorem sP {p q : Prop} (h : p) (k : p → q := by intro h_; (with_reducible repeat (first | apply Kd.yH | apply Kd.yI | apply Kd.yB)); exact h_) : q := k h
theorem bP {p q : Prop} (h : p) (k : p → q := by intro h_; (with_reducible repeat (first | refine Zai ?_ _ | refine Zah ?_ | refine Zag ?_ _)); exact h_) : q := k h
theorem cP {p q : Prop} (h : p) (k : p → q := by intro h_; repeat (first | exact h_ | (with_reducible refine Kd.yP ?_ _) | (with_reducible refine Kd.yR ?_ _) | (with_reducible refine Kd.yQ ?_))) : q := k h
theorem eW {α : Type} {a b : α} (h : a = b := by first | rfl | (simp; done) | (simp [*]; done) | (simp only [Zci]; done) | (simp [Zci]; done)) : a = b := h
section
variable {P : Program} {ops : Array Oper} {o : Oper} {rest : List Oper} {a : Act} {Q : Exit → Act → World → Prop}
theorem boxS {W : World} {N : Tmp} {cs : Array Value} {t : TypeId}
    (h : ∀ g, g = W.heap.size → ∀ w1, w1.heap[g]? = some (.cells cs t (0, 0)) → Below W.heap.size W w1 → wpList P ops Q rest (a.put o.dst (.pointer (some ⟨g, 0, none⟩))) w1)
    (hd : o.dst = some N := by rfl) (hgd : o.guard = none := by rfl)
    (hrun : (execOp a.eval o).run P W = .ok (.value (.pointer (some ⟨W.heap.size, 0, none⟩))) (W.alloc (.cells cs t (0, 0))) := by first | (go_simp; done) | (go_simp; rfl)) : wpList P ops Q (o :: rest) a W :=
  box_event hgd hd hrun h
theorem storeS {W w1 : World} {t : TypeId} {p : Tmp} {v : Operand} (h : ∀ w', w' = w1 → wpList P ops Q rest a w')
    (ho : o.op = .store t (.tmp p) v := by rfl) (hgd : o.guard = none := by rfl) (hN : o.dst = none := by rfl)
    (hrun : (execOp a.eval o).run P W = .ok .skip w1 := by first | (go_simp; done) | (go_simp; rfl)) : wpList P ops Q (o :: rest) a W :=
  Zc8 hgd ho hN hrun h
theorem Zbc {w : World} (N : Option Tmp) {f : FuncId} {fn : Func} {as9 : Array Operand} {ts : Array TypeId} (hf : P.funcs[f]? = some fn) (args : Array Value)
    (h : Calls P f args w fun e w' => ∃ v, e = .returned v ∧ wpList P ops Q rest (a.put N v) w')
    (hd : o.dst = N := by rfl) (hg : o.guard = none := by rfl) (hname : (fn.name == "runtime.NumGoroutine") = false := by kernel_rfl) (hb : fn.body.isSome = true := by rfl)
    (hop : o.op = .call { callee := .value (.func f), args := as9, argTypes := ts } := by rfl)
    (hargs : as9.map a.eval = args := by (try simp only [List.map_toArray, List.map_cons, List.map_nil]); first | done | rfl | (simp only [List.length_drop, List.length_take]; rfl)) : wpList P ops Q (o :: rest) a w :=
  goesL_ N hd hg hf hname hb args hop hargs h
end
theorem blkB {w W w1 : World} {g : Nat} {o : Obj} (h : w.heap[g]? = some o) (hb : Below W.heap.size W w1) (k : (w.heap[g]? = some o) → (W.heap[g]? = some o) := by intro h_; (with_reducible repeat (first | refine Zai ?_ _ | refine Zah ?_ | refine Zag ?_ _)); exact h_) : w1.heap[g]? = some o := Zco (k h) hb
theorem mA {p : Prop} (h : p) : Zab p := ⟨h⟩
theorem neB {U W : World} {g k : Nat} {o : Obj} (hg : k = W.heap.size) (h : Zab (U.heap[g]? = some o)) (t : U.heap[g]? = some o → W.heap[g]? = some o := by intro h_; (with_reducible repeat (first | refine Zai ?_ _ | refine Zah ?_ | refine Zag ?_ _)); exact h_) : g ≠ k := by rw [hg]; exact Nat.ne_of_lt (blk_lt (t h.out))
theorem neC {U W : World} {g k : Nat} {o : Obj} (hg : k = W.heap.size) (h : Zab (U.heap[g]? = some o)) (t : U.heap[g]? = some o → W.heap[g]? = some o := by intro h_; (with_reducible repeat (first | refine Zai ?_ _ | refine Zah ?_ | refine Zag ?_ _)); exact h_) : k ≠ g := by rw [hg]; exact Nat.ne_of_gt (blk_lt (t h.out))
theorem bc {w : World} {g : Nat} {t : TypeId} {cs : Array Value} {v : Value} (h : Zab (w.heap[g]? = some (.cells cs t (0, 0)))) (i : Nat) (e : cs[i]? = some v := by rfl) : w.cell? ⟨g, i, none⟩ = some v := (Zbu h.out i).trans e
theorem wB (w : World) {a : Addr} {v : Value} (h : w.cell? a = some v) : a.block < w.heap.size := World.block_lt_of_cell? w _ h
theorem cB {w W : World} {a : Addr} {v : Value} (h : Zab (Below w.heap.size w W)) (x : w.cell? a = some v) : W.cell? a = some v := (h.out.cell (World.block_lt_of_cell? w _ x)).trans x
theorem gE {c : Prop} [Decidable c] {α : Type} {a : Option α} {r : α} (h : (if c then a else none) = some r) : decide c = true ∧ a = some r := by
  by_cases hc : c
  · rw [if_pos hc] at h; exact ⟨decide_eq_true hc, h⟩
  · rw [if_neg hc] at h; cases h
theorem bA {α β : Type} {o : Option α} {f : α → Option β} {r : β} (h : o.bind f = some r) : ∃ a, Zab (o = some a) ∧ f a = some r := by
  obtain ⟨a, h1, h2⟩ := Option.bind_eq_some_iff.mp h
  exact ⟨a, ⟨h1⟩, h2⟩
theorem nm {α : Type} (e : α) : ∃ y : α, Zab (y = e) := ⟨e, ⟨rfl⟩⟩
class Str (W : World) (w : outParam World) : Prop where
  b : Below w.heap.size w W
instance (priority := low) strI (w : World) : Str w w := ⟨Below.refl _ _⟩
instance strN (W w : World) (n : Nat) [s : Str W w] : Str (W.drewN n) w := ⟨Za7 s.b n⟩
instance strD (W w : World) [s : Str W w] : Str W.drew w := ⟨Zbe s.b⟩
instance strA (W w : World) (o : Obj) [s : Str W w] : Str (W.alloc o) w := ⟨Zbf s.b o⟩
theorem sB {W w : World} [s : Str W w] {g : Nat} {o : Obj} (h : w.heap[g]? = some o) : W.heap[g]? = some o := Zco h s.b
theorem sR {W w : World} [s : Str W w] {α : Type} {d : Kd α} {e base : Nat} {ok : Nat → Prop} {v : Value} {xs : List α} (h : Kd.R d e w base ok v xs) : Kd.R d e W base ok v xs := Kd.zG h s.b
theorem sS {W w : World} [s : Str W w] {α : Type} {d : Kd α} {e base : Nat} {ok : Nat → Prop} {v : Value} {xs : List α} (h : Kd.S d e w base ok v xs) : Kd.S d e W base ok v xs := Kd.yG h s.b
theorem kB {W w w1 : World} [s : Str W w] {g : Nat} {o : Obj} (h : Zab (w.heap[g]? = some o)) (hb : Below W.heap.size W w1) : Zab (w1.heap[g]? = some o) := ⟨Zco (sB h.out) hb⟩
theorem kS {w W w1 : World} (hb : Below W.heap.size W w1) (h : Below w.heap.size w W := by exact bW) : Zab (Below w.heap.size w w1) := ⟨Zac h hb⟩
theorem kD {w : World} {g : Nat} {o : Obj} (h : Zab (w.heap[g]? = some o)) : Zab (w.drew.heap[g]? = some o) := ⟨Zah h.out⟩
theorem kE {B : Nat} {w W : World} (h : Zab (Below B w W)) : Zab (Below B w W.drew) := ⟨Zbe h.out⟩
theorem kR {W w w1 : World} [s : Str W w] {α : Type} {d : Kd α} {e base : Nat} {ok : Nat → Prop} {v : Value} {xs : List α} (h : Zab (Kd.R d e w base ok v xs)) (hb : Below W.heap.size W w1) : Zab (Kd.R d e w1 base ok v xs) := ⟨Kd.zG (sR h.out) hb⟩
theorem kT {W w w1 : World} [s : Str W w] {α : Type} {d : Kd α} {e base : Nat} {ok : Nat → Prop} {v : Value} {xs : List α} (h : Zab (Kd.S d e w base ok v xs)) (hb : Below W.heap.size W w1) : Zab (Kd.S d e w1 base ok v xs) := ⟨Kd.yG (sS h.out) hb⟩
theorem kGn {W w w1 : World} [s : Str W w] {g g' : Nat} {o : Obj} (h : Zab (w.heap[g]? = some o)) (hg : W.grownBy w1 (some g')) (hn : Zab (g ≠ g')) : Zab (w1.heap[g]? = some o) := ⟨Zay (sB h.out) hg (fun e_ => hn.out (Option.some.inj e_))⟩
theorem kGr {W w w1 : World} [s : Str W w] {g t : Nat} {cells : Array Value} {α : Type} {d : Kd α} {e base : Nat} {ok : Nat → Prop} {v : Value} {xs : List α} (h : Zab (w.heap[g]? = some (.cells cells t (0, 0)))) (hg : W.grownBy w1 v.ownBlock) (ho : Zab (Kd.R d e w base ok v xs)) (ht : e ≠ t := by decide) : Zab (w1.heap[g]? = some (.cells cells t (0, 0))) := ⟨Zay (sB h.out) hg (Kd.zM ho.out h.out ht)⟩
theorem kGs {W w w1 : World} [s : Str W w] {g t : Nat} {cells : Array Value} {α : Type} {d : Kd α} {e base : Nat} {ok : Nat → Prop} {v : Value} {xs : List α} (h : Zab (w.heap[g]? = some (.cells cells t (0, 0)))) (hg : W.grownBy w1 v.ownBlock) (ho : Zab (Kd.S d e w base ok v xs)) (ht : e ≠ t := by decide) : Zab (w1.heap[g]? = some (.cells cells t (0, 0))) := ⟨Zay (sB h.out) hg (Kd.S_ne ho.out h.out ht)⟩
theorem dT {p : Prop} [Decidable p] (h : p) : decide p = true := decide_eq_true h
theorem dF {p : Prop} [Decidable p] (h : ¬ p) : decide p = false := decide_eq_false h
theorem bE {α β : Type} {o : Option α} {f : α → Option β} {r : β} (h : o.bind f = some r) : ∃ a, o = some a ∧ f a = some r := Option.bind_eq_some_iff.mp h
theorem oI {α : Type} {a b : α} (h : some a = some b) : a = b := Option.some.inj h
theorem dwD {α : Type} {x : α} {w : World} {a b : Nat} : x = x ∧ ∃ n, (w.drewN a).drewN b = w.drewN n := ⟨rfl, _, World.drewN_drewN _ _ _⟩
theorem dwE {α : Type} {x : α} {w : World} {a b c : Nat} : x = x ∧ ∃ n, (w.drewN (a + b)).drewN c = w.drewN (a + n) := ⟨rfl, _, Eq.trans (World.drewN_drewN _ _ _) (congrArg (World.drewN _) (Nat.add_assoc _ _ _))⟩
theorem iF {α : Type} {a b : α} : (if false = true then a else b) = b := if_neg (by decide)
theorem putS (n : Tmp) {P : Program} {ops : Array Oper} {Q : Exit → Act → World → Prop} {md : Region.Mode} {S : World → Prop} {ds : List Nat} {fuel : Nat} {l : Array Bool} {a a' : Act} {w : World} {v : Value} (h : Za3 P md ops Q S ds fuel l a' w) (ha : a.put (some n) v = a' := by (simp only [Act.put, List.setIfInBounds_toArray, List.set_cons_zero, List.set_cons_succ, Zci, i32_w]; rfl)) : Za3 P md ops Q S ds fuel l (a.put (some n) v) w := norm_ ha h
theorem pS (i : Nat) (N : Option Tmp) {P : Program} {ops : Array Oper} {Q : Exit → Act → World → Prop} {md : Region.Mode} {S : World → Prop} {ds : List Nat} {T : Bool × List (List Nat × List Nat)} {oi : Oper} {v : Value} {fuel : Nat} {l : Array Bool} {a : Act} {w : World} {a' : Act} (hT : Zab (rtab md ops = T)) (h : Za3 P md ops Q S ds fuel (l.setIfInBounds i true) a' w) (hc : anyT T l.toList (l.setIfInBounds i true).toList i = true := by kernel_rfl)
    (hi : ops[i]? = some oi := by rfl) (hN : oi.dst = N := by rfl) (hQ : ∀ c a w, Q (.panic c) (a.put oi.dst v) w → Q (.panic c) a w := by exact fun _ _ _ h => h) (hy : Yields P ops oi v a := by (refine Or.inl ⟨by rfl, ?_⟩; intro w'; go_simp; with_reducible rfl))
    (ha : a.put N v = a' := by (simp only [Act.put, List.setIfInBounds_toArray, List.set_cons_zero, List.set_cons_succ, Zci, i32_w]; rfl)) : Za3 P md ops Q S ds (fuel + 1) l a w := pure_ _ hi hN (Zau hT.out hc) hQ hy ha h
theorem tS (i : Nat) (N : Option Tmp) {P : Program} {ops : Array Oper} {Q : Exit → Act → World → Prop} {md : Region.Mode} {S : World → Prop} {ds : List Nat} {T : Bool × List (List Nat × List Nat)} {B : List Nat} {oi : Oper} {v : Value} {fuel : Nat} {l : Array Bool} {a : Act} {w : World} {a' : Act} (hT : Zab (rtab md ops = T)) (hB : Zab (waitsOk T.2 B = true)) (hS : S w) (h : Za3 P md ops Q S ds fuel (l.setIfInBounds i true) a' w) (hc : takeW T B ds l.toList (l.setIfInBounds i true).toList i = true := by kernel_rfl)
    (hi : ops[i]? = some oi := by rfl) (hN : oi.dst = N := by rfl) (hQ : ∀ c a w, Q (.panic c) (a.put oi.dst v) w → Q (.panic c) a w := by exact fun _ _ _ h => h) (hy : YieldsIf P ops S oi v a := by (refine Or.inl ⟨by rfl, ?_⟩; intro w' hs_; (repeat (have := hs_.1; replace hs_ := hs_.2)); go_simp; with_reducible rfl))
    (ha : a.put N v = a' := by (simp only [Act.put, List.setIfInBounds_toArray, List.set_cons_zero, List.set_cons_succ, Zci, i32_w]; rfl)) : Za3 P md ops Q S ds (fuel + 1) l a w := take_ _ hi hN (Zbw hT.out hB.out hc) hQ hy hS ha h
theorem geW {w W : World} {g : Nat} (hg : g = W.heap.size) (h : Below w.heap.size w W := by repeat (first | (with_reducible first | exact Zab.out (by assumption) | apply Zbf | apply Za7 | apply Zbe | refine Zbs ?_ (Zab.out (by assumption))) | exact Zab.out (by assumption))) : Zab (w.heap.size ≤ g) := ⟨hg ▸ Zao h⟩
theorem Zcg {w : World} {g : Nat} {a b : Value} {t : TypeId} (h : w.heap[g]? = some (.cells #[a, b] t (0, 0))) : w.cell? ⟨g, 0, none⟩ = some a ∧ w.cell? ⟨g, 1, none⟩ = some b := by
  refine ⟨?_, ?_⟩
  · rw [Zbu h 0]; rfl
  · rw [Zbu h 1]; rfl
theorem cells3 {w : World} {g : Nat} {a b c : Value} {t : TypeId} (h : w.heap[g]? = some (.cells #[a, b, c] t (0, 0))) : w.cell? ⟨g, 0, none⟩ = some a ∧ w.cell? ⟨g, 1, none⟩ = some b ∧ w.cell? ⟨g, 2, none⟩ = some c := by
  refine ⟨?_, ?_, ?_⟩
  · rw [Zbu h 0]; rfl
  · rw [Zbu h 1]; rfl
  · rw [Zbu h 2]; rfl
theorem Zbk {w : World} {g : Nat} {a b c d : Value} {t : TypeId} (h : w.heap[g]? = some (.cells #[a, b, c, d] t (0, 0))) : w.cell? ⟨g, 0, none⟩ = some a ∧ w.cell? ⟨g, 1, none⟩ = some b ∧ w.cell? ⟨g, 2, none⟩ = some c ∧ w.cell? ⟨g, 3, none⟩ = some d := by
  refine ⟨?_, ?_, ?_, ?_⟩
  · rw [Zbu h 0]; rfl
  · rw [Zbu h 1]; rfl
  · rw [Zbu h 2]; rfl
  · rw [Zbu h 3]; rfl
theorem frz2 {w : World} {g : Nat} {cs : Array Value} {t : TypeId} (h : w.heap[g]? = some (.cells cs t (0, 0))) : w.frozen? ⟨g, 0, none⟩ = false ∧ w.frozen? ⟨g, 1, none⟩ = false := ⟨Zaa h 0, Zaa h 1⟩
theorem frz3 {w : World} {g : Nat} {cs : Array Value} {t : TypeId} (h : w.heap[g]? = some (.cells cs t (0, 0))) : w.frozen? ⟨g, 0, none⟩ = false ∧ w.frozen? ⟨g, 1, none⟩ = false ∧ w.frozen? ⟨g, 2, none⟩ = false := ⟨Zaa h 0, Zaa h 1, Zaa h 2⟩
theorem frz4 {w : World} {g : Nat} {cs : Array Value} {t : TypeId} (h : w.heap[g]? = some (.cells cs t (0, 0))) : w.frozen? ⟨g, 0, none⟩ = false ∧ w.frozen? ⟨g, 1, none⟩ = false ∧ w.frozen? ⟨g, 2, none⟩ = false ∧ w.frozen? ⟨g, 3, none⟩ = false := ⟨Zaa h 0, Zaa h 1, Zaa h 2, Zaa h 3⟩
section
variable {P : Program} {ops : Array Oper} {Q : Exit → Act → World → Prop} {md : Region.Mode} {S : World → Prop} {ds : List Nat}
theorem Za6 {i : Nat} {N : Option Tmp} {oi : Oper} {v : Value} {fuel : Nat} {l : Array Bool} {a : Act} {w : World} {a' : Act} (hc : anyB md ops l (l.setIfInBounds i true) i = true) (h : Za3 P md ops Q S ds fuel (l.setIfInBounds i true) a' w)
    (hi : ops[i]? = some oi := by rfl) (hN : oi.dst = N := by rfl) (hQ : ∀ c a w, Q (.panic c) (a.put oi.dst v) w → Q (.panic c) a w := by exact fun _ _ _ h => h) (hy : Yields P ops oi v a := by (refine Or.inl ⟨by rfl, ?_⟩; intro w'; go_simp; with_reducible rfl))
    (ha : a.put N v = a' := by (simp only [Act.put, List.setIfInBounds_toArray, List.set_cons_zero, List.set_cons_succ, Zci, i32_w]; rfl)) : Za3 P md ops Q S ds (fuel + 1) l a w := pure_ _ hi hN hc hQ hy ha h
theorem pureU {i : Nat} {N : Option Tmp} {oi : Oper} {fuel : Nat} {l : Array Bool} {a : Act} {w : World} {a' : Act} (hc : anyB md ops l (l.setIfInBounds i true) i = true) (h : Za3 P md ops Q S ds fuel (l.setIfInBounds i true) a' w)
    (hi : ops[i]? = some oi := by rfl) (hN : oi.dst = N := by rfl) (hQ : ∀ c a w, Q (.panic c) (a.put oi.dst undef) w → Q (.panic c) a w := by exact fun _ _ _ h => h) (hy : Yields P ops oi undef a := by exact Or.inr ⟨by rfl, rfl⟩)
    (ha : a.put N undef = a' := by (simp only [Act.put, List.setIfInBounds_toArray, List.set_cons_zero, List.set_cons_succ, Zci, i32_w]; rfl)) : Za3 P md ops Q S ds (fuel + 1) l a w := pure_ _ hi hN hc hQ hy ha h
theorem takeS {i : Nat} {N : Option Tmp} {oi : Oper} {v : Value} {fuel : Nat} {l : Array Bool} {a : Act} {w : World} {a' : Act} (hc : takeB md ops ds l (l.setIfInBounds i true) i = true) (hS : S w) (h : Za3 P md ops Q S ds fuel (l.setIfInBounds i true) a' w)
    (hi : ops[i]? = some oi := by rfl) (hN : oi.dst = N := by rfl) (hQ : ∀ c a w, Q (.panic c) (a.put oi.dst v) w → Q (.panic c) a w := by exact fun _ _ _ h => h) (hy : YieldsIf P ops S oi v a := by (refine Or.inl ⟨by rfl, ?_⟩; intro w' hs_; (repeat (have := hs_.1; replace hs_ := hs_.2)); go_simp; with_reducible rfl))
    (ha : a.put N v = a' := by (simp only [Act.put, List.setIfInBounds_toArray, List.set_cons_zero, List.set_cons_succ, Zci, i32_w]; rfl)) : Za3 P md ops Q S ds (fuel + 1) l a w := take_ _ hi hN hc hQ hy hS ha h
end
/-- A list without elements lies as9 nil. -/
def NilOf {α : Type} (v : Value) (r : List α) : Prop := r = [] → v = .slice none 0 0
theorem NilOf.cons {α : Type} {v : Value} {r l : List α} {x : α} (h : r = x :: l) : NilOf v r := fun e => by rw [h] at e; cases e
section
variable {P : Program} {ops : Array Oper} {o : Oper} {rest : List Oper} {a : Act} {Q : Exit → Act → World → Prop} {Kc : Act → World → Prop} {α : Type}
end
section
variable {α : Type} {d : Kd α} {e base n : Nat} {ok : Nat → Prop} {w1 W : World} {u v : Value} {xs : List α}
theorem sizeI (_hb : Below W.heap.size W w1) : ∃ n, Zab (n = W.heap.size) := ⟨_, ⟨rfl⟩⟩
theorem Kd.S_elderI (h : Kd.S d e W base ok u xs) (hbase : ∀ k, v.ownBlock = some k → W.heap.size ≤ k) (hb : Below W.heap.size W w1) (hn : Zab (n = W.heap.size)) : Kd.S d e w1 base (fun k => (ok k ∧ some k ≠ v.ownBlock) ∧ k < n) u xs :=
  Kd.yD (Kd.xI (Kd.S_bound h) hbase hb) (fun k hk => ⟨⟨hk.1.1, hk.2⟩, by have := hk.1.2.2.1; have := hn.out; omega⟩)
theorem Kd.S_newI (h : Kd.S d e w1 W.heap.size ok v xs) (hn : Zab (n = W.heap.size)) : Kd.S d e w1 W.heap.size (fun k => ok k ∧ n ≤ k) v xs :=
  Kd.yD (Kd.S_bound h) (fun k hk => ⟨hk.1, by have := hk.2.1; have := hn.out; omega⟩)
end
section
variable {P : Program} {ops : Array Oper} {o : Oper} {rest : List Oper} {a : Act} {Q : Exit → Act → World → Prop} {Kc : Act → World → Prop} {α : Type}
end
section
variable {P : Program} {ops : Array Oper} {rest : List Oper} {oi : Oper} {a : Act} {w : World} {Q : Exit → Act → World → Prop} {K : Act → World → Prop}
end
def Tab (w : World) : Prop := ∀ j, j < Lib.deBruijn64tab.length → w.cell? ⟨0, j, none⟩ = some (.int .u8 (Lib.deBruijn64tab.getD j 0))
theorem Tab.below {w W : World} (hb : Below w.heap.size w W) (h : Tab w) : Tab W := fun j hj => (hb.cell (p := ⟨0, j, none⟩) (World.block_lt_of_cell? w _ (h j hj))).trans (h j hj)
theorem Tab.drewN {w : World} (h : Tab w) (n : Nat) : Tab (w.drewN n) := Tab.below (Za7 (Below.refl _ w) n) h
theorem Tab.drew {w : World} (h : Tab w) : Tab w.drew := Tab.below (Zbe (Below.refl _ w)) h
theorem tabW {w W : World} (h : Tab w) (hb : Below w.heap.size w W := by repeat (first | (with_reducible first | exact Zab.out (by assumption) | exact Below.refl _ _ | apply Zbf | apply Za7 | apply Zbe | refine Zbs ?_ (Zab.out (by assumption))) | exact Zab.out (by assumption))) : Tab W := Tab.below hb h
end Go.Proofs.YtlmicipfikammaaDoor.Sh
end
section
namespace Go.Proofs.YtlmicipfikammaaDoor.P
open Go.RowKit Go.Proofs.YtlmicipfikammaaDoor.Sh Go.Proofs.YtlmicipfikammaaDoorW.PrintWords Go.Proofs.YtlmicipfikammaaDoorW.PrintLast Go.Proofs.YtlmicipfikammaaDoorW.PrintMore
open Kd
attribute [local go_sem] Zb8 Zcb Zcm Zcl Zb4 Zb3 Zb7 Zcd   -- for this text's walks alone
set_option linter.unusedVariables false
set_option linter.unusedSimpArgs false
theorem info2 : (Tryd.prog.info? 2).map (fun i => (i.zero, i.size, i.bytes)) = some (some (.int .i64 0), 1, 8) := by kernel_rfl
theorem info4 : (Tryd.prog.info? 4).map (fun i => (i.zero, i.size, i.bytes)) = some (some (.bool false), 1, 1) := by kernel_rfl
theorem info22 : (Tryd.prog.info? 22).map (fun i => (i.zero, i.size, i.bytes)) = some (some (.slice none 0 0), 1, 24) := by kernel_rfl
theorem info106 : (Tryd.prog.info? 106).map (fun i => (i.zero, i.size, i.bytes)) = some (some (.agg #[(.int .i64 0), (.int .i64 0)]), 2, 16) := by kernel_rfl
-- the values' own types
def Zae (xs : List (List Int)) (i : Int) : (List Int) := xs.getD i.toNat ([] : List Int)
theorem at_L1 {w : World} {A : Option Addr} {n : Nat} {xs : List (List Int)} (h : Kd.C (Kd.slice 2 (Kd.int .i64)) w A n xs) (i : Int) (h0 : 0 ≤ i) (h1 : i < n) : ∃ ad A0 c0, A = some ad ∧ w.cell? (ad.add i.toNat) = some (.slice A0 (Zae xs i).length c0) ∧ (Zae xs i).length ≤ c0 ∧ (Kd.int .i64).C w A0 (Zae xs i).length (Zae xs i) := by
  obtain ⟨ad, c, e, _, hK, a⟩ := Kd.C_get h ([] : List Int) i h0 h1
  have hc : ∀ j u, c[j]? = some u → w.cell? (ad.add (i.toNat * 1 + j)) = some u := a
  obtain ⟨A0, c0, rfl, l0, g0⟩ := hK
  exact ⟨ad, A0, c0, e, by have hq := hc 0 _ rfl; rwa [Nat.mul_one, Nat.add_zero] at hq, l0, g0⟩
structure S34 where
  f0 : Int
  f1 : Int
  f2 : Int
  f3 : (List (List Int))
def z34 : S34 := ⟨(0 : Int), (0 : Int), (0 : Int), ([] : List (List Int))⟩
def k34 : Kd S34 := Kd.iso (Kd.pair (Kd.int .i64) (Kd.pair (Kd.int .i64) (Kd.pair (Kd.int .i64) (Kd.slice 22 (Kd.slice 2 (Kd.int .i64)))))) (fun x : S34 => (x.f0, x.f1, x.f2, x.f3))
theorem k34_open {w : World} {x : S34} {cs : List Value} (h : k34.K w x cs) : ∃ A3 c3, cs = [.int .i64 x.f0, .int .i64 x.f1, .int .i64 x.f2, .slice A3 x.f3.length c3] ∧ x.f3.length ≤ c3 ∧ (Kd.slice 2 (Kd.int .i64)).C w A3 x.f3.length x.f3 := by
  obtain ⟨_, _, rfl, rfl, ⟨_, _, rfl, rfl, ⟨_, _, rfl, rfl, ⟨A3, c3, rfl, l3, g3⟩⟩⟩⟩ := h
  exact ⟨A3, c3, rfl, l3, g3⟩
theorem k34_mk (w : World) (x : S34) {A3 : Option Addr} {c3 : Nat} (l3 : x.f3.length ≤ c3) (g3 : (Kd.slice 2 (Kd.int .i64)).C w A3 x.f3.length x.f3) : k34.K w x [.int .i64 x.f0, .int .i64 x.f1, .int .i64 x.f2, .slice A3 x.f3.length c3] := ⟨[.int .i64 x.f0], [.int .i64 x.f1, .int .i64 x.f2, .slice A3 x.f3.length c3], rfl, rfl, ⟨[.int .i64 x.f1], [.int .i64 x.f2, .slice A3 x.f3.length c3], rfl, rfl, ⟨[.int .i64 x.f2], [.slice A3 x.f3.length c3], rfl, rfl, ⟨A3, c3, rfl, l3, g3⟩⟩⟩⟩
theorem k34_mkF (W : World) (ok : Nat → Prop) (x : S34) {A3 : Option Addr} {c3 : Nat} (l3 : x.f3.length ≤ c3) (g3 : Kd.F (Kd.slice 2 (Kd.int .i64)) W ok A3 x.f3.length x.f3) : Kd.FK k34 W ok x [.int .i64 x.f0, .int .i64 x.f1, .int .i64 x.f2, .slice A3 x.f3.length c3] := fun W2 hW => k34_mk W2 x l3 (g3 W2 hW)
def rd_T34 (xs : List S34) (i : Int) : S34 := xs.getD i.toNat z34
theorem at_T34 {w : World} {A : Option Addr} {n : Nat} {xs : List S34} (h : Kd.C k34 w A n xs) (i : Int) (h0 : 0 ≤ i) (h1 : i < n) : ∃ ad A3 c3, A = some ad ∧ w.cell? (ad.add (i.toNat * 4)) = some (.int .i64 (rd_T34 xs i).f0) ∧ w.cell? ⟨(ad.add (i.toNat * 4)).block, (ad.add (i.toNat * 4)).off + 1, none⟩ = some (.int .i64 (rd_T34 xs i).f1) ∧ w.cell? ⟨(ad.add (i.toNat * 4)).block, (ad.add (i.toNat * 4)).off + 2, none⟩ = some (.int .i64 (rd_T34 xs i).f2) ∧ w.cell? ⟨(ad.add (i.toNat * 4)).block, (ad.add (i.toNat * 4)).off + 3, none⟩ = some (.slice A3 (rd_T34 xs i).f3.length c3) ∧ (rd_T34 xs i).f3.length ≤ c3 ∧ (Kd.slice 2 (Kd.int .i64)).C w A3 (rd_T34 xs i).f3.length (rd_T34 xs i).f3 := by
  obtain ⟨ad, c, e, _, hK, a⟩ := Kd.C_get h z34 i h0 h1
  have hc : ∀ j u, c[j]? = some u → w.cell? (ad.add (i.toNat * 4 + j)) = some u := a
  obtain ⟨A3, c3, rfl, l3, g3⟩ := k34_open hK
  exact ⟨ad, A3, c3, e, hc 0 _ rfl, by rw [← add_field _ _ 1 (by omega)]; exact hc 1 _ rfl, by rw [← add_field _ _ 2 (by omega)]; exact hc 2 _ rfl, by rw [← add_field _ _ 3 (by omega)]; exact hc 3 _ rfl, l3, g3⟩
structure S106 where
  f0 : Int
  f1 : Int
def z106 : S106 := ⟨(0 : Int), (0 : Int)⟩
def k106 : Kd S106 := Kd.iso (Kd.pair (Kd.int .i64) (Kd.int .i64)) (fun x : S106 => (x.f0, x.f1))
theorem k106_open {w : World} {x : S106} {cs : List Value} (h : k106.K w x cs) : cs = [.int .i64 x.f0, .int .i64 x.f1] := by
  obtain ⟨_, _, rfl, rfl, rfl⟩ := h
  exact rfl
theorem k106_mkM (w : World) (base : Nat) (ok : Nat → Prop) (x : S106)  : k106.M w base ok x [.int .i64 x.f0, .int .i64 x.f1] := ⟨[.int .i64 x.f0], [.int .i64 x.f1], rfl, rfl, rfl⟩
def Zam (xs : List S106) (i : Int) : S106 := xs.getD i.toNat z106
theorem at_T106 {w : World} {A : Option Addr} {n : Nat} {xs : List S106} (h : Kd.C k106 w A n xs) (i : Int) (h0 : 0 ≤ i) (h1 : i < n) : ∃ ad , A = some ad ∧ w.cell? (ad.add (i.toNat * 2)) = some (.int .i64 (Zam xs i).f0) ∧ w.cell? ⟨(ad.add (i.toNat * 2)).block, (ad.add (i.toNat * 2)).off + 1, none⟩ = some (.int .i64 (Zam xs i).f1) := by
  obtain ⟨ad, c, e, _, hK, a⟩ := Kd.C_get h z106 i h0 h1
  have hc : ∀ j u, c[j]? = some u → w.cell? (ad.add (i.toNat * 2 + j)) = some u := a
  obtain rfl := k106_open hK
  exact ⟨ad, e, hc 0 _ rfl, by rw [← add_field _ _ 1 (by omega)]; exact hc 1 _ rfl⟩
def Zb6.f (l0 : List Int) (a1 : Int) : Option (Int) := if (wrap64 (a1 - (l0.length : Int))) < 0 then (some (-1)) else (some (wrap64 (a1 - (l0.length : Int))))
theorem Zb6.calls (A0 : Option Addr) (c0 : Nat) (l0 : List Int) (a1 : Int) (r : Int) (w : World) (a : Kd.C (Kd.int .i64) w A0 l0.length l0) (b : l0.length ≤ c0) (h : Zb6.f l0 a1 = some r) :
  Calls Tryd.prog 34 #[.slice A0 l0.length c0, .int .i64 a1] w fun e w' => e = .returned (.int .i64 r) ∧ Zas w w' := by
 have d := mA a
 have g := mA b
 clear a b
 unfold Zb6.f at h
 have H := h
 clear h
 by_cases c3 : (wrap64 (a1 - (l0.length : Int))) < 0
 ·rw [if_pos c3] at H
  have c := dT c3
  clear c3
  obtain rfl := oI H
  go_enter Tryd.func34, Tryd.ntmps34
  go_wp2
  go_ret
  exact ⟨eW, by repeat (first | exact Zas.refl _ | apply Zas.step)⟩
 ·rw [if_neg c3] at H
  have c := dF c3
  clear c3
  obtain rfl := oI H
  go_enter Tryd.func34, Tryd.ntmps34
  go_wp2
  go_ret
  exact ⟨eW, by repeat (first | exact Zas.refl _ | apply Zas.step)⟩
def Zce.f (c : Int) (b : List Int) (a1 : Int) : Option (Int) := (Zb6.f b a1).bind fun a => (if a < 0 then (some (-1)) else (some a))
theorem Zce.calls (g : Int) (c : Option Addr) (d : Nat) (a : List Int) (a1 : Int) (r : Int) (w : World) (j : Kd.C (Kd.int .i64) w c a.length a) (k : a.length ≤ d) (h : Zce.f g a a1 = some r) :
  Calls Tryd.prog 8 #[.agg #[.int .i64 g, .slice c a.length d], .int .i64 a1] w fun e w' => e = .returned (.int .i64 r) ∧ Below w.heap.size w w' := by
 have D := Tryd.underlying24
 have l := mA j
 have m := mA k
 clear j k
 have HB := mA (Below.refl w.heap.size w)
 unfold Zce.f at h
 have H := h
 clear h
 obtain ⟨i, A3, H⟩ := bA H
 by_cases c4 : i < 0
 ·rw [if_pos c4] at H
  have q := dT c4
  clear c4
  obtain rfl := oI H
  go_enter Tryd.func8, Tryd.ntmps8
  go_wp2_with (first | ((with_reducible refine Zan (N := 2) rfl ?_); refine boxS (N := 2) (cs := #[.int .i64 g, .slice c a.length d]) (t := 24) ?_; intro n hg w5 hbox hb; have b := mA (hbox); have o := geW (w := w) hg; have p := geW (w := w) hg; replace HB := mA (Zac (bW) hb); clear hb hbox hg; obtain ⟨s, u⟩ := Zcg b.out; obtain ⟨v, x⟩ := frz2 b.out) | ((with_reducible refine Zal (f := 34) rfl ?_); refine Zbc (some 8) Tryd.func34 #[.slice c a.length d, .int .i64 a1] ?_; (with_reducible refine (Zb6.calls _ _ a a1 i _ ?side1 ?side2 A3.out).mono ?_); (case side1 => exact cP (zC l.out HB.out)); (case side2 => exact m.out); rintro e w' ⟨rfl, ⟨nd, rfl⟩⟩; refine ⟨_, rfl, ?_⟩))
  go_ret
  exact ⟨eW, bW⟩
 rw [if_neg c4] at H
 have q := dF c4
 clear c4
 obtain rfl := oI H
 go_enter Tryd.func8, Tryd.ntmps8
 go_wp2_with (first | ((with_reducible refine Zan (N := 2) rfl ?_); refine boxS (N := 2) (cs := #[.int .i64 g, .slice c a.length d]) (t := 24) ?_; intro n hg w7 hbox hb; have b := mA (hbox); have o := geW (w := w) hg; have p := geW (w := w) hg; replace HB := mA (Zac (bW) hb); clear hb hbox hg; obtain ⟨y, z⟩ := Zcg b.out; obtain ⟨A, B⟩ := frz2 b.out) | ((with_reducible refine Zal (f := 34) rfl ?_); refine Zbc (some 8) Tryd.func34 #[.slice c a.length d, .int .i64 a1] ?_; (with_reducible refine (Zb6.calls _ _ a a1 i _ ?side1 ?side2 A3.out).mono ?_); (case side1 => exact cP (zC l.out HB.out)); (case side2 => exact m.out); rintro e w' ⟨rfl, ⟨nd, rfl⟩⟩; refine ⟨_, rfl, ?_⟩))
 go_ret
 exact ⟨eW, bW⟩
def Zbl.l0 : Nat → List (List Int) → Int → Int → Option (Int)
 | 0, _, _, _ => none
 | k + 1, x0, x1, x5 => if x5 < (x0.length : Int) then (if 0 ≤ x5 then ((Zb6.f (Zae x0 x5) x1).bind fun a => (if a < 0 then (some (-1)) else (Zbl.l0 k x0 a (wrap64 (x5 + 1))))) else (none)) else (some x1)
def Zbl.f (k : Nat) (l0 : List (List Int)) (a1 : Int) : Option (Int) := if (wrap64 (a1 - (l0.length : Int))) < 0 then (some (-1)) else (Zbl.l0 k l0 (wrap64 (a1 - (l0.length : Int))) 0)
theorem Zbl.calls (k : Nat) (A0 : Option Addr) (c0 : Nat) (l0 : List (List Int)) (a1 : Int) (r : Int) (w : World) (u : Kd.C (Kd.slice 2 (Kd.int .i64)) w A0 l0.length l0) (v : l0.length ≤ c0) (h : Zbl.f k l0 a1 = some r) :
  Calls Tryd.prog 24 #[.slice A0 l0.length c0, .int .i64 a1] w fun e w' => e = .returned (.int .i64 r) ∧ Zas w w' := by
 have x := mA u
 have B := mA v
 clear u v
 unfold Zbl.f at h
 have H := h
 clear h
 by_cases c3 : (wrap64 (a1 - (l0.length : Int))) < 0
 ·rw [if_pos c3] at H
  have s := dT c3
  clear c3
  obtain rfl := oI H
  go_enter Tryd.func24, Tryd.ntmps24
  go_wp2
  go_ret
  exact ⟨eW, by repeat (first | exact Zas.refl _ | apply Zas.step)⟩
 rw [if_neg c3] at H
 have s := dF c3
 clear c3
 have H' := mA H
 clear H
 go_enter Tryd.func24, Tryd.ntmps24
 go_wp2
 go_loopg [1, 5] k (fun kq v1 v5 w' => ∃ (d : Int) (a : Int), v1 = .int .i64 d ∧ v5 = .int .i64 a ∧ Zab (Zbl.l0 kq l0 d a = some r) ∧ Zab (kq ≤ k) ∧ Zas w w')
 case atStart => exact ⟨(wrap64 (a1 - (l0.length : Int))), (0), (eW), (eW), H', ⟨Nat.le_refl _⟩, by repeat (first | exact Zas.refl _ | apply Zas.step)⟩
 case round =>
  clear H' s
  obtain ⟨d, a, rfl, rfl, HA, HK1, ⟨m1, rfl⟩⟩ := hrel
  cases gk with
  | zero => exact absurd HA.out (by simp [Zbl.l0])
  | succ k1 =>
   have H := HA.out
   clear HA
   simp only [Zbl.l0] at H
   by_cases c4 : a < (l0.length : Int); rotate_left
   ·rw [if_neg c4] at H
    have y := dF c4
    clear c4
    obtain rfl := oI H
    go_wp2
    go_ret
    exact ⟨eW, by repeat (first | exact Zas.refl _ | apply Zas.step)⟩
   rw [if_pos c4] at H
   have y := dT c4
   clear c4
   obtain ⟨A, H⟩ := gE H
   obtain ⟨o, A6, H⟩ := bA H
   by_cases c7 : o < 0
   ·rw [if_pos c7] at H
    have z := dT c7
    clear c7
    obtain rfl := oI H
    have g : 0 ≤ (a : Int) := ofD
    have i : a < (l0.length : Int) := ofD
    obtain ⟨t, m, n, p, q, b, c⟩ := at_L1 x.out a g i
    cases p
    have j := mA c
    have l := mA b
    clear c b
    replace g := eq_true g
    replace i := eq_true i
    go_wp2_with (first | ((with_reducible refine Zal (f := 34) rfl ?_); refine Zbc (some 23) Tryd.func34 #[.slice m (Zae l0 a).length n, .int .i64 d] ?_; (with_reducible refine (Zb6.calls _ _ (Zae l0 a) d o _ ?side1 ?side2 A6.out).mono ?_); (case side1 => exact cP j.out); (case side2 => exact l.out); rintro e w' ⟨rfl, ⟨nd, rfl⟩⟩; refine ⟨_, rfl, ?_⟩))
    go_ret
    exact ⟨eW, by repeat (first | exact Zas.refl _ | apply Zas.step)⟩
   rw [if_neg c7] at H
   have z := dF c7
   clear c7
   have H' := mA H
   clear H
   have g : 0 ≤ (a : Int) := ofD
   have i : a < (l0.length : Int) := ofD
   obtain ⟨t, m, n, p, q, b, c⟩ := at_L1 x.out a g i
   cases p
   have j := mA c
   have l := mA b
   clear c b
   replace g := eq_true g
   replace i := eq_true i
   go_wp2_with (first | ((with_reducible refine Zal (f := 34) rfl ?_); refine Zbc (some 23) Tryd.func34 #[.slice m (Zae l0 a).length n, .int .i64 d] ?_; (with_reducible refine (Zb6.calls _ _ (Zae l0 a) d o _ ?side1 ?side2 A6.out).mono ?_); (case side1 => exact cP j.out); (case side2 => exact l.out); rintro e w' ⟨rfl, ⟨nd, rfl⟩⟩; refine ⟨_, rfl, ?_⟩))
   go_roundg k1
   case measure => have := HK1.out; omega
   case rel => exact ⟨(o), (wrap64 (a + 1)), (eW), (eW), H', ⟨by have := HK1.out; omega⟩, by repeat (first | exact Zas.refl _ | apply Zas.step)⟩
def Zcf.f (k : Nat) (c : Int) (d : Int) (e : Int) (b : List (List Int)) (a1 : Int) : Option (Int) := (Zbl.f k b a1).bind fun a => (if a < 0 then (some (-1)) else (some a))
theorem Zcf.calls (k : Nat) (g : Int) (i : Int) (j : Int) (c : Option Addr) (d : Nat) (a : List (List Int)) (a1 : Int) (r : Int) (w : World) (m : Kd.C (Kd.slice 2 (Kd.int .i64)) w c a.length a) (n : a.length ≤ d) (h : Zcf.f k g i j a a1 = some r) :
  Calls Tryd.prog 9 #[.agg #[.int .i64 g, .int .i64 i, .int .i64 j, .slice c a.length d], .int .i64 a1] w fun e w' => e = .returned (.int .i64 r) ∧ Below w.heap.size w w' := by
 have U := Tryd.underlying27
 have o := mA m
 have p := mA n
 clear m n
 have HB := mA (Below.refl w.heap.size w)
 unfold Zcf.f at h
 have H := h
 clear h
 obtain ⟨l, A3, H⟩ := bA H
 by_cases c4 : l < 0
 ·rw [if_pos c4] at H
  have v := dT c4
  clear c4
  obtain rfl := oI H
  go_enter Tryd.func9, Tryd.ntmps9
  go_wp2_with (first | ((with_reducible refine Zan (N := 2) rfl ?_); refine boxS (N := 2) (cs := #[.int .i64 g, .int .i64 i, .int .i64 j, .slice c a.length d]) (t := 27) ?_; intro q hg w5 hbox hb; have b := mA (hbox); have s := geW (w := w) hg; have u := geW (w := w) hg; replace HB := mA (Zac (bW) hb); clear hb hbox hg; obtain ⟨x, y, z, A⟩ := Zbk b.out; obtain ⟨B, D, E, G⟩ := frz4 b.out) | ((with_reducible refine Zal (f := 24) rfl ?_); refine Zbc (some 8) Tryd.func24 #[.slice c a.length d, .int .i64 a1] ?_; (with_reducible refine (Zbl.calls k _ _ a a1 l _ ?side1 ?side2 A3.out).mono ?_); (case side1 => exact cP (zC o.out HB.out)); (case side2 => exact p.out); rintro e w' ⟨rfl, ⟨nd, rfl⟩⟩; refine ⟨_, rfl, ?_⟩))
  go_ret
  exact ⟨eW, bW⟩
 rw [if_neg c4] at H
 have v := dF c4
 clear c4
 obtain rfl := oI H
 go_enter Tryd.func9, Tryd.ntmps9
 go_wp2_with (first | ((with_reducible refine Zan (N := 2) rfl ?_); refine boxS (N := 2) (cs := #[.int .i64 g, .int .i64 i, .int .i64 j, .slice c a.length d]) (t := 27) ?_; intro q hg w7 hbox hb; have b := mA (hbox); have s := geW (w := w) hg; have u := geW (w := w) hg; replace HB := mA (Zac (bW) hb); clear hb hbox hg; obtain ⟨I, J, K, L⟩ := Zbk b.out; obtain ⟨M, O, P, T⟩ := frz4 b.out) | ((with_reducible refine Zal (f := 24) rfl ?_); refine Zbc (some 8) Tryd.func24 #[.slice c a.length d, .int .i64 a1] ?_; (with_reducible refine (Zbl.calls k _ _ a a1 l _ ?side1 ?side2 A3.out).mono ?_); (case side1 => exact cP (zC o.out HB.out)); (case side2 => exact p.out); rintro e w' ⟨rfl, ⟨nd, rfl⟩⟩; refine ⟨_, rfl, ?_⟩))
 go_ret
 exact ⟨eW, bW⟩
def Zba.f (a0 : Int) : Option (Int) := if 0 ≤ (IntKind.u64.wrap (a0)) then (some (shl .i64 1 (IntKind.u64.wrap (a0)))) else (none)
theorem Zba.calls (a0 : Int) (r : Int) (w : World) (h : Zba.f a0 = some r) :
  Calls Tryd.prog 37 #[.int .i64 a0] w fun e w' => e = .returned (.int .i64 r) ∧ Zas w w' := by
 unfold Zba.f at h
 have H := h
 clear h
 obtain ⟨a, d⟩ : ∃ j_ : Int, (IntKind.u64.wrap (a0)) = j_ := ⟨_, rfl⟩
 replace H : (if 0 ≤ (a) then (some (shl .i64 1 (a))) else (none)) = some r := by first | (rw [d] at H; exact H) | (simp only [d] at H ⊢; exact H)
 by_cases c3 : 0 ≤ (a); rotate_left
 ·rw [if_neg c3] at H
  exact absurd H (by simp)
 rw [if_pos c3] at H
 have n := eq_true c3
 have o := dT c3
 clear c3
 obtain ⟨b, c⟩ : ∃ j_ : Int, (shl .i64 1 (a)) = j_ := ⟨_, rfl⟩
 replace H : (some b) = some r := by first | (rw [c] at H; exact H) | (simp only [c] at H ⊢; exact H)
 have g : (IntKind.i64.wrap (1 * 2 ^ min (a).toNat 64)) = b := c
 have i : (a) ≤ 64 → (IntKind.i64.wrap (1 * 2 ^ (a).toNat)) = b := shl_small c
 have j : (IntKind.i64.wrap (2 ^ min (a).toNat 64)) = b := by have h_ := g; rw [Int.one_mul] at h_; exact h_
 have k : (a) ≤ 64 → (IntKind.i64.wrap (2 ^ (a).toNat)) = b := fun hle_ => by have h_ := i hle_; rw [Int.one_mul] at h_; exact h_
 have l : (wrap64 (1 * 2 ^ min (a).toNat 64)) = b := (Zci _).symm.trans g
 have m : (a) ≤ 64 → (wrap64 (1 * 2 ^ (a).toNat)) = b := fun h_ => (Zci _).symm.trans (i h_)
 obtain rfl := oI H
 go_enter Tryd.func37, Tryd.ntmps37
 go_wp2
 go_ret
 exact ⟨by first | rfl | (simp; done) | (simp only [← d, ← c] <;> (first | rfl | simp)) | (simp [*]; done), by repeat (first | exact Zas.refl _ | apply Zas.step)⟩
def Zbt.f (a0 : Int) : Option (Int) := (Zba.f a0).bind fun a => (some (wrap64 (a - 1)))
theorem Zbt.calls (a0 : Int) (r : Int) (w : World) (h : Zbt.f a0 = some r) :
  Calls Tryd.prog 38 #[.int .i64 a0] w fun e w' => e = .returned (.int .i64 r) ∧ Zas w w' := by
 unfold Zbt.f at h
 have H := h
 clear h
 obtain ⟨a, A2, H⟩ := bA H
 obtain rfl := oI H
 go_enter Tryd.func38, Tryd.ntmps38
 go_wp2_with (first | ((with_reducible refine Zal (f := 37) rfl ?_); refine Zbc (some 4) Tryd.func37 #[.int .i64 a0] ?_; (with_reducible refine (Zba.calls a0 a _ A2.out).mono ?_); rintro e w' ⟨rfl, ⟨nd, rfl⟩⟩; refine ⟨_, rfl, ?_⟩))
 go_ret
 exact ⟨eW, by repeat (first | exact Zas.refl _ | apply Zas.step)⟩
def Za4.f (b : Int) (c : Int) (d : Int) (a : List (List Int)) : Option (Int) := some (a.length : Int)
theorem Za4.calls (b : Int) (c : Int) (d : Int) (g : Option Addr) (i : Nat) (a : List (List Int)) (r : Int) (w : World) (j : Kd.C (Kd.slice 2 (Kd.int .i64)) w g a.length a) (k : a.length ≤ i) (h : Za4.f b c d a = some r) :
  Calls Tryd.prog 47 #[.agg #[.int .i64 b, .int .i64 c, .int .i64 d, .slice g a.length i]] w fun e w' => e = .returned (.int .i64 r) ∧ Below w.heap.size w w' := by
 have D := Tryd.underlying34
 have x := mA j
 have y := mA k
 clear j k
 have HB := mA (Below.refl w.heap.size w)
 unfold Za4.f at h
 have H := h
 clear h
 obtain rfl := oI H
 go_enter Tryd.func47, Tryd.ntmps47
 go_wp2_with (first | ((with_reducible refine Zan (N := 1) rfl ?_); refine boxS (N := 1) (cs := #[.int .i64 b, .int .i64 c, .int .i64 d, .slice g a.length i]) (t := 34) ?_; intro z hg w2 hbox hb; have l := mA (hbox); have A := geW (w := w) hg; have B := geW (w := w) hg; replace HB := mA (Zac (bW) hb); clear hb hbox hg; obtain ⟨m, n, o, p⟩ := Zbk l.out; obtain ⟨q, s, u, v⟩ := frz4 l.out))
 go_ret
 exact ⟨eW, bW⟩
def Zap.f (a0 : Int) (a1 : Int) (a2 : Int) : Option (Bool) := if a0 ≥ a1 then (some (decide (a0 ≤ a2))) else (some false)
theorem Zap.calls (a0 : Int) (a1 : Int) (a2 : Int) (r : Bool) (w : World) (h : Zap.f a0 a1 a2 = some r) :
  Calls Tryd.prog 54 #[.int .i64 a0, .int .i64 a1, .int .i64 a2] w fun e w' => e = .returned (.bool r) ∧ Zas w w' := by
 unfold Zap.f at h
 have H := h
 clear h
 by_cases c4 : a0 ≥ a1
 ·rw [if_pos c4] at H
  have a : decide (a1 ≤ a0) = true := dT c4
  clear c4
  obtain rfl := oI H
  go_enter Tryd.func54, Tryd.ntmps54
  go_wp2
  go_ret
  exact ⟨eW, by repeat (first | exact Zas.refl _ | apply Zas.step)⟩
 ·rw [if_neg c4] at H
  have a : decide (a1 ≤ a0) = false := dF c4
  clear c4
  obtain rfl := oI H
  go_enter Tryd.func54, Tryd.ntmps54
  go_wp2
  go_ret
  exact ⟨eW, by repeat (first | exact Zas.refl _ | apply Zas.step)⟩
def Zbq.l0 : Nat → List Int → List Int → Int → Option (List Int)
 | 0, _, _, _ => none
 | k + 1, x0, x3, x4 => if x4 < (x0.length : Int) then (if 0 ≤ x4 then (if x4 < (x3.length : Int) then (Zbq.l0 k x0 (x3.set (x4 : Int).toNat (rd x0 x4)) (wrap64 (x4 + 1))) else (none)) else (none)) else (some x3)
def Zbq.f (k : Nat) (l0 : List Int) : Option (List Int) := if 0 ≤ (l0.length : Int) then (if ((l0.length : Int) : Int).toNat ≤ 35184372088832 then (Zbq.l0 k l0 (List.replicate ((l0.length : Int) : Int).toNat 0) 0) else (none)) else (none)
theorem Zbq.calls (k : Nat) (A0 : Option Addr) (c0 : Nat) (l0 : List Int) (r : List Int) (w : World) (v : Kd.C (Kd.int .i64) w A0 l0.length l0) (x : l0.length ≤ c0) (h : Zbq.f k l0 = some r) :
  Calls Tryd.prog 13 #[.slice A0 l0.length c0] w fun e w' => ∃ y : Value, e = .returned (y) ∧ Kd.R (Kd.int .i64) 2 w' w.heap.size (fun _ => True) y r ∧ Below w.heap.size w w' := by
 have P := mA v
 have ac := mA x
 clear v x
 have HB := mA (Below.refl w.heap.size w)
 unfold Zbq.f at h
 have H := h
 clear h
 by_cases c2 : 0 ≤ (l0.length : Int); rotate_left
 ·rw [if_neg c2] at H
  exact absurd H (by simp)
 rw [if_pos c2] at H
 have E := eq_true c2
 have G := dT c2
 clear c2
 by_cases c3 : ((l0.length : Int) : Int).toNat ≤ 35184372088832; rotate_left
 ·rw [if_neg c3] at H
  exact absurd H (by simp)
 rw [if_pos c3] at H
 have I := eq_true c3
 have J := dT c3
 clear c3
 obtain ⟨K, g⟩ := nm ((List.replicate ((l0.length : Int) : Int).toNat 0) : List Int)
 rw [← g.out] at H
 have H' := mA H
 clear H
 go_enter Tryd.func13, Tryd.ntmps13
 go_wp2_with (first | ((with_reducible refine Zan (N := 7) rfl ?_); refine yT (Kd.int .i64) _ 2 rfl (N := 7) rfl 22 _ _ rfl (l0.length : Int) rfl rfl Tryd.underlying22 (.int .i64 0) 8 info2 rfl (by decide) (by omega) 0 (ok := fun _ => True) (okp := fun _ => True) rfl (fun _ hk => hk) trivial (ofD) (Nat.le_trans (Nat.mul_le_mul_right _ (ofD : (l0.length : Int).toNat ≤ 35184372088832)) (by omega)) (Below.refl _ _) (Nat.le_refl _) ?_; intro L w4 i hb hg_ hnew_; clear hg_ hnew_; (first | rw [← g.out] at i | (simp only [Int.reduceToNat] at i; rw [← g.out] at i)); have u := mA (zQ i (Zao (bW))); replace HB := mA (Zac (bW) hb); clear hb i))
 go_loopg [4] k (fun kq v4 w' => ∃ (b : List Int) (a : Int), v4 = .int .i64 a ∧ Zab (Zbq.l0 kq l0 b a = some r) ∧ Zab (kq ≤ k) ∧ Zab (Kd.R (Kd.int .i64) 2 w' w.heap.size (fun _ => True) L b) ∧ Zab (Below w.heap.size w w'))
 case atStart => exact ⟨(K), (0), (eW), H', ⟨Nat.le_refl _⟩, ⟨rP u.out⟩, ⟨bW⟩⟩
 case round =>
  clear H' E G I J
  obtain ⟨b, a, rfl, HA, z, c, HB⟩ := hrel
  cases gk with
  | zero => exact absurd HA.out (by simp [Zbq.l0])
  | succ k1 =>
   have H := HA.out
   clear HA
   simp only [Zbq.l0] at H
   by_cases c6 : a < (l0.length : Int); rotate_left
   ·rw [if_neg c6] at H
    have M := dF c6
    clear c6
    obtain rfl := oI H
    go_wp2
    go_ret
    exact ⟨_, eW, (rP c.out), bW⟩
   rw [if_pos c6] at H
   have M := dT c6
   clear c6
   obtain ⟨aa, H⟩ := gE H
   obtain ⟨ab, H⟩ := gE H
   obtain ⟨o, n⟩ := nm ((b.set (a : Int).toNat (rd l0 a)) : List Int)
   rw [← n.out] at H
   have H' := mA H
   clear H
   have j : 0 ≤ (a : Int) := ofD
   have l : a < (l0.length : Int) := ofD
   obtain ⟨X, O, d⟩ := zK P.out a j l
   cases O
   replace d := (HB.out.cell (wB w d)).trans d
   replace j := eq_true j
   replace l := eq_true l
   have p9 : 0 ≤ (a : Int) := ofD
   have q9 : (a : Int) < ((b.length : Int) : Int) := ofD
   obtain ⟨q, T, A, B, U, ad, D⟩ := yC c.out (by omega)
   (first | cases A | (injection A with ea_ en_ ec_; (first | subst ea_ | (injection ea_ with ea_; subst ea_)); subst ec_; clear en_))
   have W := mA B
   have ae := mA D
   clear B U D
   obtain ⟨Y, Z⟩ := zI 0 c.out (a : Int) p9 q9
   replace p9 := eq_true p9
   replace q9 := eq_true q9
   have m := zS c.out (a : Int) (rd l0 a)
   go_wp2_with (first | ((with_reducible refine Zbp (t := 2) (p := 20) rfl ?_); refine storeS (t := 2) (p := 20) (w1 := (wr.setCell ⟨q, (a : Int).toNat, none⟩ (.int .i64 (rd l0 a)))) ?_; intro s hw; have hg : wr.grownBy s (some q) := (by rw [hw]; exact m.2); have hp_ : Kd.R (Kd.int .i64) 2 s w.heap.size (fun _ => True) (.slice (some ⟨q, 0, none⟩) b.length T) o := (by rw [hw, n.out]; exact m.1); clear m; replace c := mA (hp_); replace HB := mA ((by rw [hw]; exact Zbs (HB.out) W.out : Below w.heap.size w s)); clear hg hw hp_))
   go_roundg k1
   case measure => have := z.out; omega
   case rel => exact ⟨(o), (wrap64 (a + 1)), (eW), H', ⟨by have := z.out; omega⟩, ⟨rP c.out⟩, ⟨bW⟩⟩
def Zb2.f (k : Nat) (a : Int) (b : List Int) : Option (Int × List Int) := (Zbq.f k b).bind fun c => (some (a, c))
theorem Zb2.calls (k : Nat) (i : Int) (n : Option Addr) (q : Nat) (c : List Int) (r1 : Int) (r2 : List Int) (w : World) (A : Kd.C (Kd.int .i64) w n c.length c) (B : c.length ≤ q) (h : Zb2.f k i c = some (r1, r2)) :
  Calls Tryd.prog 11 #[.agg #[.int .i64 i, .slice n c.length q]] w fun e w' => ∃ K : Value, e = .returned (.agg #[.int .i64 r1, K]) ∧ Kd.R (Kd.int .i64) 2 w' w.heap.size (fun _ => True) K r2 ∧ Below w.heap.size w w' := by
 have ao := Tryd.underlying24
 have ap := Tryd.underlying32
 have G := mA A
 have I := mA B
 clear A B
 have HB := mA (Below.refl w.heap.size w)
 unfold Zb2.f at h
 have H := h
 clear h
 obtain ⟨r, A2, H⟩ := bA H
 simp only [Option.some.injEq, Prod.mk.injEq] at H
 obtain ⟨rfl, rfl⟩ := H
 go_enter Tryd.func11, Tryd.ntmps11
 go_wp2_with (first | ((with_reducible refine Zan (N := 1) rfl ?_); refine boxS (N := 1) (cs := #[.int .i64 i, .slice n c.length q]) (t := 24) ?_; intro J hg w3 hbox hb; have a := mA (hbox); have ai := geW (w := w) hg; have aj := geW (w := w) hg; replace HB := mA (Zac (bW) hb); clear hb hbox hg) | ((with_reducible refine Zan (N := 2) rfl ?_); refine boxS (N := 2) (cs := #[.int .i64 0, .slice none 0 0]) (t := 32) ?_; intro m hg w4 hbox hb; have b := mA (hbox); have ak := geW (w := w) hg; have al := geW (w := w) hg; replace HB := mA (Zac (bW) hb); have s := mA (neB hg a); have u := mA (neC hg a); replace a := mA (blkB a.out hb); clear hb hbox hg) | ((with_reducible refine Zan (N := 3) rfl ?_); refine boxS (N := 3) (cs := #[.int .i64 0, .slice none 0 0]) (t := 32) ?_; intro D hg w5 hbox hb; have d := mA (hbox); have am := geW (w := w) hg; have an := geW (w := w) hg; replace HB := mA (Zac (bW) hb); have l := mA (neB hg a); have v := mA (neC hg a); replace a := mA (blkB a.out hb); have j := mA (neB hg b); have x := mA (neC hg b); replace b := mA (blkB b.out hb); clear hb hbox hg; have aq := s.out; have ar := u.out; have au := l.out; have av := v.out; obtain ⟨ae, af⟩ := Zcg a.out; obtain ⟨ag, ah⟩ := frz2 a.out; have aw := x.out; have ax := j.out; obtain ⟨O, P⟩ := Zcg d.out; obtain ⟨T, U⟩ := frz2 d.out) | ((with_reducible refine Zal (f := 13) rfl ?_); refine Zbc (some 9) Tryd.func13 #[.slice n c.length q] ?_; (with_reducible refine (Zbq.calls k _ _ c r _ ?side1 ?side2 A2.out).mono ?_); (case side1 => exact zC G.out (bW)); (case side2 => exact I.out); rintro e az ⟨ay, rfl, L, hb⟩; refine ⟨_, rfl, ?_⟩; have E := mA (zQ L (Zao (bW))); replace a := mA (Zco (g := J) (o := .cells #[.int .i64 i, .slice n c.length q] 24 (0, 0)) (by (with_reducible repeat (first | refine Zai ?_ _ | refine Zah ?_ | refine Zag ?_ _)); refine Zbb ?_ l.out _; exact bP a.out) hb); replace b := mA (Zco (g := m) (o := .cells #[.int .i64 0, .slice none 0 0] 32 (0, 0)) (by (with_reducible repeat (first | refine Zai ?_ _ | refine Zah ?_ | refine Zag ?_ _)); refine Zbb ?_ j.out _; exact bP b.out) hb); replace d := mA (Zco (g := D) (o := .cells #[.int .i64 i, .slice none 0 0] 32 (0, 0)) (by (with_reducible repeat (first | refine Zai ?_ _ | refine Zah ?_ | refine Zag ?_ _)); refine Zbj (cs := #[.int .i64 0, .slice none 0 0]) ?_ 0 _ rfl; exact bP d.out) hb); replace HB := mA (Zac (bW) hb); (try clear hb); (try clear hb2); (try clear hk); (try clear hi); (try clear L); obtain ⟨y, z, M⟩ := zH E.out; subst M; obtain ⟨W, X⟩ := Zcg d.out; obtain ⟨Y, Z⟩ := frz2 d.out; obtain ⟨aa, ab⟩ := Zcg b.out; obtain ⟨ac, ad⟩ := frz2 b.out))
 refine bodyPost_ret (results_cell_row rfl _ _ m 32 #[.int .i64 i, .slice y r.length z] (0, 0) _ rfl (by (with_reducible repeat (first | refine Zai ?_ _ | refine Zah ?_ | refine Zag ?_ _)); refine Zbj (cs := #[.int .i64 i, .slice none 0 0]) ?_ 1 _ rfl; (with_reducible repeat (first | refine Zai ?_ _ | refine Zah ?_ | refine Zag ?_ _)); refine Zbj (cs := #[.int .i64 0, .slice none 0 0]) ?_ 0 _ rfl; (with_reducible repeat (first | refine Zai ?_ _ | refine Zah ?_ | refine Zag ?_ _)); refine Zbb ?_ j.out _; exact bP b.out) Tryd.underlying32 rfl (by kernel_rfl)) rfl ?_
 exact ⟨_, eW, by (with_reducible repeat (first | apply zE | apply zD | apply zB)); exact zA (zJ (p := ⟨m, 1, none⟩) (zJ (p := ⟨m, 0, none⟩) (zJ (p := ⟨D, 1, none⟩) (yE (yE E.out d.out (by decide)) b.out (by decide)) (fun _ hk => hk.1.2) (.slice y r.length z)) (fun _ hk => hk.2) (.int .i64 i)) (fun _ hk => hk.2) (.slice y r.length z)) (fun _ hk => trivial), bW⟩
def Zbr.l0 : Nat → List (List Int) → List (List Int) → Int → Option ((List (List Int)))
 | 0, _, _, _ => none
 | k + 1, x0, x3, x4 => if x4 < (x0.length : Int) then (if 0 ≤ x4 then ((Zbq.f k (Zae x0 x4)).bind fun a => (if x4 < (x3.length : Int) then (Zbr.l0 k x0 (x3.set (x4 : Int).toNat a) (wrap64 (x4 + 1))) else (none))) else (none)) else (some x3)
def Zbr.f (k : Nat) (l0 : List (List Int)) : Option ((List (List Int))) := if 0 ≤ (l0.length : Int) then (if ((l0.length : Int) : Int).toNat ≤ 11728124029610 then (Zbr.l0 k l0 (List.replicate ((l0.length : Int) : Int).toNat []) 0) else (none)) else (none)
theorem Zbr.calls (k : Nat) (A0 : Option Addr) (c0 : Nat) (l0 : List (List Int)) (r : List (List Int)) (w : World) (al : Kd.C (Kd.slice 2 (Kd.int .i64)) w A0 l0.length l0) (am : l0.length ≤ c0) (h : Zbr.f k l0 = some r) :
  Calls Tryd.prog 26 #[.slice A0 l0.length c0] w fun e w' => ∃ an : Value, e = .returned (an) ∧ Kd.S (Kd.slice 2 (Kd.int .i64)) 22 w' w.heap.size (fun _ => True) an r ∧ Below w.heap.size w w' := by
 have aD := mA al
 have aS := mA am
 clear al am
 have HB := mA (Below.refl w.heap.size w)
 unfold Zbr.f at h
 have H := h
 clear h
 by_cases c2 : 0 ≤ (l0.length : Int); rotate_left
 ·rw [if_neg c2] at H
  exact absurd H (by simp)
 rw [if_pos c2] at H
 have ap := eq_true c2
 have aq := dT c2
 clear c2
 by_cases c3 : ((l0.length : Int) : Int).toNat ≤ 11728124029610; rotate_left
 ·rw [if_neg c3] at H
  exact absurd H (by simp)
 rw [if_pos c3] at H
 have ar := eq_true c3
 have au := dT c3
 clear c3
 obtain ⟨av, n⟩ := nm ((List.replicate ((l0.length : Int) : Int).toNat []) : List (List Int))
 rw [← n.out] at H
 have H' := mA H
 clear H
 go_enter Tryd.func26, Tryd.ntmps26
 go_wp2_with (first | ((with_reducible refine Zan (N := 7) rfl ?_); refine Kd.S_make (Kd.slice 2 (Kd.int .i64)) _ 22 rfl (N := 7) rfl 25 _ _ rfl (l0.length : Int) rfl rfl Tryd.underlying25 (.slice none 0 0) 24 info22 rfl (by decide) (by omega) [] (ok := fun _ => True) (okp := fun _ => True) ⟨_, rfl, Kd.R_nil _ _ _ _ _⟩ (fun _ hk => hk) trivial (ofD) (Nat.le_trans (Nat.mul_le_mul_right _ (ofD : (l0.length : Int).toNat ≤ 11728124029610)) (by omega)) (Below.refl _ _) (Nat.le_refl _) ?_; intro aw w4 s hb hg_ hnew_; clear hg_ hnew_; (first | rw [← n.out] at s | (simp only [Int.reduceToNat] at s; rw [← n.out] at s)); have ai := mA (xE s (Zao (bW))); replace HB := mA (Zac (bW) hb); clear hb s))
 go_loopg [4] k (fun kq v4 w' => ∃ (c : List (List Int)) (a : Int), v4 = .int .i64 a ∧ Zab (Zbr.l0 kq l0 c a = some r) ∧ Zab (kq ≤ k) ∧ Zab (Kd.S (Kd.slice 2 (Kd.int .i64)) 22 w' w.heap.size (fun _ => True) aw c) ∧ Zab (Below w.heap.size w w'))
 case atStart => exact ⟨(av), (0), (eW), H', ⟨Nat.le_refl _⟩, ⟨sP ai.out⟩, ⟨bW⟩⟩
 case round =>
  clear H' ap aq ar au
  obtain ⟨c, a, rfl, HA, ao, b, HB⟩ := hrel
  cases gk with
  | zero => exact absurd HA.out (by simp [Zbr.l0])
  | succ k1 =>
   have H := HA.out
   clear HA
   simp only [Zbr.l0] at H
   by_cases c6 : a < (l0.length : Int); rotate_left
   ·rw [if_neg c6] at H
    have ax := dF c6
    clear c6
    obtain rfl := oI H
    go_wp2
    go_ret
    exact ⟨_, eW, (sP b.out), bW⟩
   rw [if_pos c6] at H
   have ax := dT c6
   clear c6
   obtain ⟨aK, H⟩ := gE H
   obtain ⟨u, A8, H⟩ := bA H
   obtain ⟨aL, H⟩ := gE H
   obtain ⟨J, z⟩ := nm ((c.set (a : Int).toNat u) : List (List Int))
   rw [← z.out] at H
   have H' := mA H
   clear H
   have x : 0 ≤ (a : Int) := ofD
   have y : a < (l0.length : Int) := ofD
   obtain ⟨aI, K, L, ay, d, l, m⟩ := at_L1 aD.out a x y
   cases ay
   replace d := (HB.out.cell (wB w d)).trans d
   have G := mA m
   have I := mA l
   clear m l
   replace x := eq_true x
   replace y := eq_true y
   go_wp2_with (first | ((with_reducible refine Zal (f := 13) rfl ?_); refine Zbc (some 20) Tryd.func13 #[.slice K (Zae l0 a).length L] ?_; (with_reducible refine (Zbq.calls k1 _ _ (Zae l0 a) u _ ?side1 ?side2 A8.out).mono ?_); (case side1 => exact cP (zC G.out HB.out)); (case side2 => exact I.out); rintro e M ⟨o, rfl, O, hb⟩; refine ⟨_, rfl, ?_⟩; replace b := mA (xI (sP b.out) (zY O) hb); have i := mA (zQ O (Zao (bW))); replace HB := mA (Zac (bW) hb); (try clear hb); (try clear hb2); (try clear hk); (try clear hi); (try clear O); have P : 0 ≤ (a : Int) := ofD; have T : (a : Int) < ((c.length : Int) : Int) := ofD; obtain ⟨g, U, W, X, az, aM, Y⟩ := Kd.S_form b.out (by omega); (first | cases W | (injection W with ea_ en_ ec_; (first | subst ea_ | (injection ea_ with ea_; subst ea_)); subst ec_; clear en_)); have aA := mA X; have aN := mA Y; clear X az Y; obtain ⟨_, aO, aj, Z, A, B, _, _⟩ := Kd.S_elem b.out [] (a : Int) P T; obtain ⟨aE, rfl, aF⟩ := Z; have aa := A 0 _ rfl; have ab := B 0; (try simp only [show ((Kd.slice 2 (Kd.int .i64))).sz = 1 from rfl, Nat.mul_one, Nat.add_zero] at aa); (try simp only [show ((Kd.slice 2 (Kd.int .i64))).sz = 1 from rfl, Nat.mul_one, Nat.add_zero] at ab); clear aj A B; (try clear Z); replace P := eq_true P; replace T := eq_true T; have n_ := mA (yD (ok' := (fun k_ => some k_ ≠ (o : Value).ownBlock)) b.out (fun k_ hk => hk.2)); clear b; have b := n_; clear n_; have aB := mA (show Kd.S (Kd.slice 2 (Kd.int .i64)) 22 M w.heap.size (fun k_ => ((fun _ => True)) k_ ∧ ¬ ((fun k_ => some k_ = (o : Value).ownBlock)) k_) (.slice (some ⟨g, 0, none⟩) c.length U) c from (by (with_reducible repeat (first | apply yH | apply yI | apply yB)); exact yD b.out (fun k_ hk => ⟨trivial, fun e_ => hk e_⟩))); obtain ⟨aJ, aP, ak, ac, D, E, ad, ae⟩ := Kd.S_elem aB.out [] (a : Int) (ofD) (by have h_ : (a : Int) < ((c.length : Int) : Int) := ofD; first | exact h_ | (have e_ := (yU b.out).1; omega) | simpa using h_); obtain ⟨aG, rfl, aH⟩ := ac; have q := Kd.S_seg ae (ofD) (by have h_ : (a : Int) < ((c.length : Int) : Int) := ofD; first | exact h_ | (have e_ := (yU b.out).1; omega) | simpa using h_) (seg := [o]) (j := 0) (show 1 ≤ 1 from by decide) (x' := u) (Kd.M_row (zA (Kd.R_tight rfl (zA (ok' := fun k_ => ((fun _ => True)) k_ ∧ k_ ≠ g) (Kd.R_apart' (i.out) (Kd.S_typed b.out) (by decide)) (fun k_ hk => ⟨trivial, fun e_ => (hk.2) (by rw [e_]; rfl)⟩))) (fun _ h_ => Or.inr (h_)))) (fun _ hk => hk) (fun k_ hk_ => ((zA (ok' := fun k_ => ((fun _ => True)) k_ ∧ k_ ≠ g) (Kd.R_apart' (i.out) (Kd.S_typed b.out) (by decide)) (fun k_ hk => ⟨trivial, fun e_ => (hk.2) (by rw [e_]; rfl)⟩))).1 k_ hk_.symm); have af := D 0 _ rfl; (try simp only [show ((Kd.slice 2 (Kd.int .i64))).sz = 1 from rfl, Nat.mul_one, Nat.add_zero] at af); have ag := E 0; (try simp only [show ((Kd.slice 2 (Kd.int .i64))).sz = 1 from rfl, Nat.mul_one, Nat.add_zero] at ag); clear ak D E; (try clear ac); clear ad ae; (try simp only [show ((Kd.slice 2 (Kd.int .i64))).sz = 1 from rfl, Nat.mul_one, Nat.add_zero] at q)) | ((with_reducible refine Zbp (t := 22) (p := 21) rfl ?_); refine Zc8 (t := 22) (p := 21) (v := ?vo_w13) (w1 := (M.setCell ⟨g, (a : Int).toNat, none⟩ (o))) ?hg ?ho ?hn ?hr ?_; (case ho => rfl); (case hg => rfl); (case hn => rfl); (case hr => first | (go_simp; done) | (go_simp; rfl) | (obtain ⟨aQ, aR, aC⟩ := zH (i.out); subst aC; first | (go_simp; done) | (go_simp; rfl))); intro ah hw; have hg : M.grownBy ah (some g) := (by rw [hw]; exact q.2); have hp_ : Kd.S (Kd.slice 2 (Kd.int .i64)) 22 ah w.heap.size (fun _ => True) (.slice (some ⟨g, 0, none⟩) c.length U) J := (by rw [hw, z.out]; exact q.1); clear q; replace b := mA (hp_); replace HB := mA ((by rw [hw]; exact Zbs (HB.out) aA.out : Below w.heap.size w ah)); clear i hg hw hp_))
   go_roundg k1
   case measure => have := ao.out; omega
   case rel => exact ⟨(J), (wrap64 (a + 1)), (eW), H', ⟨by have := ao.out; omega⟩, ⟨sP b.out⟩, ⟨bW⟩⟩
def Zbz.f (k : Nat) (a : Int) (b : Int) (c : Int) (d : List (List Int)) : Option (Int × Int × Int × (List (List Int))) := (Zbr.f k d).bind fun e => (some (a, b, c, e))
theorem Zbz.calls (k : Nat) (d : Int) (j : Int) (n : Int) (r : Option Addr) (s : Nat) (l : List (List Int)) (r1 : Int) (r2 : Int) (r3 : Int) (r4 : List (List Int)) (w : World) (D : Kd.C (Kd.slice 2 (Kd.int .i64)) w r l.length l) (E : l.length ≤ s) (h : Zbz.f k d j n l = some (r1, r2, r3, r4)) :
  Calls Tryd.prog 12 #[.agg #[.int .i64 d, .int .i64 j, .int .i64 n, .slice r l.length s]] w fun e w' => ∃ M : Value, e = .returned (.agg #[.int .i64 r1, .int .i64 r2, .int .i64 r3, M]) ∧ Kd.S (Kd.slice 2 (Kd.int .i64)) 22 w' w.heap.size (fun _ => True) M r4 ∧ Below w.heap.size w w' := by
 have aI := Tryd.underlying27
 have aJ := Tryd.underlying34
 have J := mA D
 have K := mA E
 clear D E
 have HB := mA (Below.refl w.heap.size w)
 unfold Zbz.f at h
 have H := h
 clear h
 obtain ⟨u, A2, H⟩ := bA H
 simp only [Option.some.injEq, Prod.mk.injEq] at H
 obtain ⟨rfl, rfl, rfl, rfl⟩ := H
 go_enter Tryd.func12, Tryd.ntmps12
 go_wp2_with (first | ((with_reducible refine Zan (N := 1) rfl ?_); refine boxS (N := 1) (cs := #[.int .i64 d, .int .i64 j, .int .i64 n, .slice r l.length s]) (t := 27) ?_; intro L hg w3 hbox hb; have a := mA (hbox); have aC := geW (w := w) hg; have aD := geW (w := w) hg; replace HB := mA (Zac (bW) hb); clear hb hbox hg) | ((with_reducible refine Zan (N := 2) rfl ?_); refine boxS (N := 2) (cs := #[.int .i64 0, .int .i64 0, .int .i64 0, .slice none 0 0]) (t := 34) ?_; intro q hg w4 hbox hb; have b := mA (hbox); have aE := geW (w := w) hg; have aF := geW (w := w) hg; replace HB := mA (Zac (bW) hb); have v := mA (neB hg a); have x := mA (neC hg a); replace a := mA (blkB a.out hb); clear hb hbox hg) | ((with_reducible refine Zan (N := 3) rfl ?_); refine boxS (N := 3) (cs := #[.int .i64 0, .int .i64 0, .int .i64 0, .slice none 0 0]) (t := 34) ?_; intro G hg w5 hbox hb; have m := mA (hbox); have aG := geW (w := w) hg; have aH := geW (w := w) hg; replace HB := mA (Zac (bW) hb); have i := mA (neB hg a); have y := mA (neC hg a); replace a := mA (blkB a.out hb); have c := mA (neB hg b); have z := mA (neC hg b); replace b := mA (blkB b.out hb); clear hb hbox hg; have aK := v.out; have aL := x.out; have aM := i.out; have aN := y.out; obtain ⟨au, av, aw, ax⟩ := Zbk a.out; obtain ⟨ay, az, aA, aB⟩ := frz4 a.out; have aO := z.out; have aP := c.out; obtain ⟨T, U, W, X⟩ := Zbk m.out; obtain ⟨Y, Z, aa, ab⟩ := frz4 m.out) | ((with_reducible refine Zal (f := 26) rfl ?_); refine Zbc (some 15) Tryd.func26 #[.slice r l.length s] ?_; (with_reducible refine (Zbr.calls k _ _ l u _ ?side1 ?side2 A2.out).mono ?_); (case side1 => exact zC J.out (bW)); (case side2 => exact K.out); rintro e aR ⟨aQ, rfl, O, hb⟩; refine ⟨_, rfl, ?_⟩; have I := mA (xE O (Zao (bW))); replace a := mA (Zco (g := L) (o := .cells #[.int .i64 d, .int .i64 j, .int .i64 n, .slice r l.length s] 27 (0, 0)) (by (with_reducible repeat (first | refine Zai ?_ _ | refine Zah ?_ | refine Zag ?_ _)); refine Zbb ?_ i.out _; (with_reducible repeat (first | refine Zai ?_ _ | refine Zah ?_ | refine Zag ?_ _)); refine Zbb ?_ i.out _; (with_reducible repeat (first | refine Zai ?_ _ | refine Zah ?_ | refine Zag ?_ _)); refine Zbb ?_ i.out _; exact bP a.out) hb); replace b := mA (Zco (g := q) (o := .cells #[.int .i64 0, .int .i64 0, .int .i64 0, .slice none 0 0] 34 (0, 0)) (by (with_reducible repeat (first | refine Zai ?_ _ | refine Zah ?_ | refine Zag ?_ _)); refine Zbb ?_ c.out _; (with_reducible repeat (first | refine Zai ?_ _ | refine Zah ?_ | refine Zag ?_ _)); refine Zbb ?_ c.out _; (with_reducible repeat (first | refine Zai ?_ _ | refine Zah ?_ | refine Zag ?_ _)); refine Zbb ?_ c.out _; exact bP b.out) hb); replace m := mA (Zco (g := G) (o := .cells #[.int .i64 d, .int .i64 j, .int .i64 n, .slice none 0 0] 34 (0, 0)) (by (with_reducible repeat (first | refine Zai ?_ _ | refine Zah ?_ | refine Zag ?_ _)); refine Zbj (cs := #[.int .i64 d, .int .i64 j, .int .i64 0, .slice none 0 0]) ?_ 2 _ rfl; (with_reducible repeat (first | refine Zai ?_ _ | refine Zah ?_ | refine Zag ?_ _)); refine Zbj (cs := #[.int .i64 d, .int .i64 0, .int .i64 0, .slice none 0 0]) ?_ 1 _ rfl; (with_reducible repeat (first | refine Zai ?_ _ | refine Zah ?_ | refine Zag ?_ _)); refine Zbj (cs := #[.int .i64 0, .int .i64 0, .int .i64 0, .slice none 0 0]) ?_ 0 _ rfl; exact bP m.out) hb); replace HB := mA (Zac (bW) hb); (try clear hb); (try clear hb2); (try clear hk); (try clear hi); (try clear O); obtain ⟨A, B, P⟩ := xB I.out; subst P; obtain ⟨ac, ad, ae, af⟩ := Zbk m.out; obtain ⟨ag, ah, ai, aj⟩ := frz4 m.out; obtain ⟨ak, al, am, an⟩ := Zbk b.out; obtain ⟨ao, ap, aq, ar⟩ := frz4 b.out))
 refine bodyPost_ret (results_cell_row rfl _ _ q 34 #[.int .i64 d, .int .i64 j, .int .i64 n, .slice A u.length B] (0, 0) _ rfl (by (with_reducible repeat (first | refine Zai ?_ _ | refine Zah ?_ | refine Zag ?_ _)); refine Zbj (cs := #[.int .i64 d, .int .i64 j, .int .i64 n, .slice none 0 0]) ?_ 3 _ rfl; (with_reducible repeat (first | refine Zai ?_ _ | refine Zah ?_ | refine Zag ?_ _)); refine Zbj (cs := #[.int .i64 d, .int .i64 j, .int .i64 0, .slice none 0 0]) ?_ 2 _ rfl; (with_reducible repeat (first | refine Zai ?_ _ | refine Zah ?_ | refine Zag ?_ _)); refine Zbj (cs := #[.int .i64 d, .int .i64 0, .int .i64 0, .slice none 0 0]) ?_ 1 _ rfl; (with_reducible repeat (first | refine Zai ?_ _ | refine Zah ?_ | refine Zag ?_ _)); refine Zbj (cs := #[.int .i64 0, .int .i64 0, .int .i64 0, .slice none 0 0]) ?_ 0 _ rfl; (with_reducible repeat (first | refine Zai ?_ _ | refine Zah ?_ | refine Zag ?_ _)); refine Zbb ?_ c.out _; exact bP b.out) Tryd.underlying34 rfl (by kernel_rfl)) rfl ?_
 exact ⟨_, eW, by (with_reducible repeat (first | apply yH | apply yI | apply yB)); exact yD (zZ (p := ⟨q, 3, none⟩) (zZ (p := ⟨q, 2, none⟩) (zZ (p := ⟨q, 1, none⟩) (zZ (p := ⟨q, 0, none⟩) (zZ (p := ⟨G, 3, none⟩) (yN (yN I.out m.out (by decide)) b.out (by decide)) (fun _ hk => hk.1.2) (.slice A u.length B)) (fun _ hk => hk.2) (.int .i64 d)) (fun _ hk => hk.2) (.int .i64 j)) (fun _ hk => hk.2) (.int .i64 n)) (fun _ hk => hk.2) (.slice A u.length B)) (fun _ hk => trivial), bW⟩
def Zb5.f (a0 : Int) : Option (Int) := if 0 ≤ a0 then (some (shl .i64 1 a0)) else (none)
theorem Zb5.calls (a0 : Int) (r : Int) (w : World) (h : Zb5.f a0 = some r) :
  Calls Tryd.prog 88 #[.int .i64 a0] w fun e w' => e = .returned (.int .i64 r) ∧ Zas w w' := by
 unfold Zb5.f at h
 have H := h
 clear h
 by_cases c2 : 0 ≤ a0; rotate_left
 ·rw [if_neg c2] at H
  exact absurd H (by simp)
 rw [if_pos c2] at H
 have l := eq_true c2
 have m := dT c2
 clear c2
 obtain ⟨a, b⟩ : ∃ j_ : Int, (shl .i64 1 a0) = j_ := ⟨_, rfl⟩
 replace H : (some a) = some r := by first | (rw [b] at H; exact H) | (simp only [b] at H ⊢; exact H)
 have c : (IntKind.i64.wrap (1 * 2 ^ min a0.toNat 64)) = a := b
 have d : a0 ≤ 64 → (IntKind.i64.wrap (1 * 2 ^ a0.toNat)) = a := shl_small b
 have g : (IntKind.i64.wrap (2 ^ min a0.toNat 64)) = a := by have h_ := c; rw [Int.one_mul] at h_; exact h_
 have i : a0 ≤ 64 → (IntKind.i64.wrap (2 ^ a0.toNat)) = a := fun hle_ => by have h_ := d hle_; rw [Int.one_mul] at h_; exact h_
 have j : (wrap64 (1 * 2 ^ min a0.toNat 64)) = a := (Zci _).symm.trans c
 have k : a0 ≤ 64 → (wrap64 (1 * 2 ^ a0.toNat)) = a := fun h_ => (Zci _).symm.trans (d h_)
 obtain rfl := oI H
 go_enter Tryd.func88, Tryd.ntmps88
 go_wp2
 go_ret
 exact ⟨by first | rfl | (simp; done) | (simp only [← b] <;> (first | rfl | simp)) | (simp [*]; done), by repeat (first | exact Zas.refl _ | apply Zas.step)⟩
def Zbn.f (a0 : Int) (a1 : Int) (a2 : Int) : Option (Bool) := if a1 ≤ a0 then (some (decide (a0 ≤ a2))) else (some false)
theorem Zbn.calls (a0 : Int) (a1 : Int) (a2 : Int) (r : Bool) (w : World) (h : Zbn.f a0 a1 a2 = some r) :
  Calls Tryd.prog 94 #[.int .i64 a0, .int .i64 a1, .int .i64 a2] w fun e w' => e = .returned (.bool r) ∧ Zas w w' := by
 unfold Zbn.f at h
 have H := h
 clear h
 by_cases c4 : a1 ≤ a0
 ·rw [if_pos c4] at H
  have a := dT c4
  clear c4
  obtain rfl := oI H
  go_enter Tryd.func94, Tryd.ntmps94
  go_wp2
  go_ret
  exact ⟨eW, by repeat (first | exact Zas.refl _ | apply Zas.step)⟩
 ·rw [if_neg c4] at H
  have a := dF c4
  clear c4
  obtain rfl := oI H
  go_enter Tryd.func94, Tryd.ntmps94
  go_wp2
  go_ret
  exact ⟨eW, by repeat (first | exact Zas.refl _ | apply Zas.step)⟩
def Zc2.f (a0 : Int) (a1 : Int) : Option (Bool) := (Zbn.f a1 0 24).bind fun a => (if a = true then ((Zb5.f a1).bind fun b => ((Zbn.f a0 0 (wrap64 (b - 1))).bind fun c => (some c))) else (some false))
theorem Zc2.calls (a0 : Int) (a1 : Int) (r : Bool) (w : World) (h : Zc2.f a0 a1 = some r) :
  Calls Tryd.prog 57 #[.int .i64 a0, .int .i64 a1] w fun e w' => e = .returned (.bool r) ∧ Zas w w' := by
 unfold Zc2.f at h
 have H := h
 clear h
 obtain ⟨b, A3, H⟩ := bA H
 by_cases c4 : b = true; rotate_left
 ·replace c4 := Bool.eq_false_iff.mpr c4
  subst c4
  rw [iF] at H
  obtain rfl := oI H
  go_enter Tryd.func57, Tryd.ntmps57
  go_wp2_with (first | ((with_reducible refine Zal (f := 94) rfl ?_); refine Zbc (some 6) Tryd.func94 #[.int .i64 a1, .int .i64 0, .int .i64 24] ?_; (with_reducible refine (Zbn.calls a1 0 24 false _ A3.out).mono ?_); rintro e w' ⟨rfl, ⟨nd, rfl⟩⟩; refine ⟨_, rfl, ?_⟩))
  go_ret
  exact ⟨eW, by repeat (first | exact Zas.refl _ | apply Zas.step)⟩
 subst c4
 rw [if_pos rfl] at H
 obtain ⟨a, A5, H⟩ := bA H
 obtain ⟨c, A6, H⟩ := bA H
 obtain rfl := oI H
 go_enter Tryd.func57, Tryd.ntmps57
 go_wp2_with (first | ((with_reducible refine Zal (f := 94) rfl ?_); refine Zbc (some 6) Tryd.func94 #[.int .i64 a1, .int .i64 0, .int .i64 24] ?_; (with_reducible refine (Zbn.calls a1 0 24 true _ A3.out).mono ?_); rintro e w' ⟨rfl, ⟨nd, rfl⟩⟩; refine ⟨_, rfl, ?_⟩) | (go_at_call 88; (with_reducible refine (Zb5.calls a1 a _ A5.out).mono ?_); rintro e w' ⟨rfl, ⟨nd, rfl⟩⟩) | (go_at_call 94; (with_reducible refine (Zbn.calls a0 0 (wrap64 (a - 1)) c _ A6.out).mono ?_); rintro e w' ⟨rfl, ⟨nd, rfl⟩⟩))
 go_ret
 exact ⟨eW, by repeat (first | exact Zas.refl _ | apply Zas.step)⟩
/-- Where the first element of which p holds lies, or -1. -/
def fidx {α : Type} (p : α → Bool) (l : List α) : Int := match l.findIdx? p with | some i => i | none => -1
theorem fidx_hit {α : Type} {p : α → Bool} {l : List α} {k : Nat} (hk : k < l.length) (h : p l[k] = true) (hb : ∀ j (hj : j < k), p (l[j]'(by omega)) = false) : fidx p l = k := by
  have : l.findIdx? p = some k := by
    rw [List.findIdx?_eq_some_iff_getElem]
    exact ⟨hk, h, fun j hj => by simp [hb j hj]⟩
  unfold fidx; rw [this]
theorem fidx_miss {α : Type} {p : α → Bool} {l : List α} (hb : ∀ j (hj : j < l.length), p l[j] = false) : fidx p l = -1 := by
  have : l.findIdx? p = none := by
    rw [List.findIdx?_eq_none_iff]
    intro x hx
    obtain ⟨j, hj, rfl⟩ := List.getElem_of_mem hx
    exact hb j hj
  unfold fidx; rw [this]
theorem fidx_nonneg {α : Type} (p : α → Bool) (l : List α) : decide (0 ≤ fidx p l) = l.any p := by
  unfold fidx
  cases h : l.findIdx? p with
  | none =>
    rw [List.findIdx?_eq_none_iff] at h
    have : l.any p = false := by rw [List.any_eq_false]; intro x hx; simp [h x hx]
    rw [this]; rfl
  | some i =>
    rw [List.findIdx?_eq_some_iff_getElem] at h
    obtain ⟨hi, hp, _⟩ := h
    have : l.any p = true := List.any_eq_true.2 ⟨_, List.getElem_mem hi, hp⟩
    rw [this]
    show decide (0 ≤ (i : Int)) = true
    simp
theorem rd_get {l : List Int} {k : Nat} (hk : k < l.length) : rd l (k : Int) = l[k] := by
  unfold rd; rw [List.getD_eq_getElem?_getD, Int.toNat_natCast, List.getElem?_eq_getElem hk]; rfl
def mfind {K V : Type} [DecidableEq K] : List (K × V) → K → Nat → Option (Nat × V)
  | [], _, _ => none
  | p :: l, k, i => if k = p.1 then some (i, p.2) else mfind l k (i + 1)
def mget {K V : Type} [DecidableEq K] (z : V) (L : List (K × V)) (k : K) : V := ((mfind L k 0).map (·.2)).getD z
def mset {K V : Type} [DecidableEq K] (L : List (K × V)) (k : K) (v : V) : List (K × V) := match mfind L k 0 with
  | some (i, _) => L.set i (k, v)
  | none => L ++ [(k, v)]
def mentry {K V : Type} (eK : K → Value) (eV : V → Value) (p : (K × V) × Nat) : MapEntry := { key := eK p.1.1, val := eV p.1.2, born := p.2 }
def mobj {K V : Type} (eK : K → Value) (eV : V → Value) (L : List (K × V)) : Obj := .map (L.zipIdx.map (mentry eK eV)).toArray L.length
section
variable {K V : Type} [DecidableEq K] {eK : K → Value} {eV : V → Value} {d : TypeDesc}
theorem mfind_lt (k : K) : ∀ (L : List (K × V)) (j i : Nat) (v : V), mfind L k j = some (i, v) → j ≤ i ∧ L[i - j]? = some (k, v)
  | [], _, _, _, h => by simp [mfind] at h
  | p :: L, j, i, v, h => by
    unfold mfind at h
    by_cases hc : k = p.1
    · rw [if_pos hc] at h
      simp only [Option.some.injEq, Prod.mk.injEq] at h
      obtain ⟨rfl, rfl⟩ := h
      exact ⟨Nat.le_refl _, by simp [hc]⟩
    · rw [if_neg hc] at h
      obtain ⟨h1, h2⟩ := mfind_lt k L (j + 1) i v h
      refine ⟨by omega, ?_⟩
      rw [show i - j = (i - (j + 1)) + 1 by omega, List.getElem?_cons_succ]
      exact h2
variable {P : Program} {W : World} {g : Nat} {L : List (K × V)} {t kt et : TypeId}
end
section
variable {K V : Type} [DecidableEq K] {eK : K → Value} {eV : V → Value} {d : TypeDesc} {P : Program} {W : World} {g : Nat} {L : List (K × V)} {t kt et : TypeId}
end
section
variable {K V : Type} {eK : K → Value} {eV : V → Value} {d : TypeDesc} {P : Program} {W : World} {t kt et : TypeId}
variable {ops : Array Oper} {o : Oper} {rest : List Oper} {a : Act} {Q : Exit → Act → World → Prop} {Kc : Act → World → Prop}
theorem gate_mset {p k v : Operand} (_ho : o.op = .mapUpdate t p k v) (h : wpList P ops Q (o :: rest) a W) : wpList P ops Q (o :: rest) a W := h
/-- A map made. -/
theorem mapS (eK : K → Value) (eV : V → Value) {N : Tmp}
    (h : ∀ g, g = W.heap.size → ∀ w1, w1.heap[g]? = some (mobj eK eV ([] : List (K × V))) → Below W.heap.size W w1 → wpList P ops Q rest (a.put o.dst (.map (some g))) w1)
    (ho : o.op = .makeMap t none := by rfl) (_hd : o.dst = some N := by rfl) (hgd : o.guard = none := by rfl) : wpList P ops Q (o :: rest) a W :=
  Kd.event_run hgd (show (execOp a.eval o).run P W = .ok (.value (.map (some W.heap.size))) (W.alloc (.map #[] 0)) by simp [execOp, ho, run_makeMap, Result.andThen]) (h _ rfl _ (blk_new W _) (Zbf (Below.refl _ _) _))
end
/-- What is held beside a map that is written. -/
theorem Kd.R_mset {α K V : Type} {eK : K → Value} {eV : V → Value} {L : List (K × V)} {dd : Kd α} {e base g : Nat} {ok : Nat → Prop} {v : Value} {xs : List α} {W w2 : World} (h : dd.R e W base ok v xs) (hb : W.heap[g]? = some (mobj eK eV L)) (hg : W.grownBy w2 (some g)) : dd.R e w2 base ok v xs :=
  Kd.zA (Kd.yZ (Kd.yK h) (fun k hk => hg.block k hk.2.2.1 (fun e_ => by
    obtain ⟨_, _, _, q, hq, cells, hc⟩ := hk
    injection e_ with e_
    subst e_
    rw [hb] at hc
    cases hc))) (fun _ hk => hk.1)
theorem Kd.R_nem {α K V : Type} {eK : K → Value} {eV : V → Value} {L : List (K × V)} {dd : Kd α} {e base g : Nat} {ok : Nat → Prop} {v : Value} {xs : List α} {w : World} (h : dd.R e w base ok v xs) (hb : w.heap[g]? = some (mobj eK eV L)) : some g ≠ v.ownBlock := by
  intro e_
  obtain ⟨_, inner, ho, _⟩ := h
  obtain ⟨cells, hc⟩ := own_typed ho g e_.symm
  rw [hb] at hc
  cases hc
theorem blk_farO {w : World} {g : Nat} {o : Obj} (h : w.heap[g]? = some o) {p : Addr} (hp : g ≠ p.block) (u : Value) : (w.setCell p u).heap[g]? = some o := (Below.heap_setCell w p u g hp).trans h
def OwnZ (w : World) (base : Nat) (e : TypeId) (size : Nat) (v : Value) (n : Nat) (xs : List Value) : Prop :=
  xs.length = n * size ∧ ((v = .slice none 0 0 ∧ n = 0) ∨ ∃ g cap cur fz, v = .slice (some ⟨g, 0, none⟩) n cap ∧ base ≤ g ∧ w.heap[g]? = some (.cells cur e fz) ∧ (fz = (0, 0) ∨ cur.size ≤ fz.1) ∧ n ≤ cap ∧ cap ≤ maxLen ∧ cur.size = cap * size ∧ cur.toList.take (n * size) = xs)
section
variable {α : Type} {d : Kd α} {e : Nat} {w W w1 : World} {base : Nat} {ok ok' : Nat → Prop} {v u : Value} {xs : List α}
theorem OwnZ.blk {size n : Nat} {inner : List Value} (h : OwnZ w base e size v n inner) : ∀ k, v.ownBlock = some k → base ≤ k ∧ ∃ cells fz, w.heap[k]? = some (.cells cells e fz) := by
  intro k hk
  rcases h.2 with ⟨rfl, _⟩ | ⟨g, cap, cur, fz, rfl, hg, hh, _⟩
  · simp [Value.ownBlock] at hk
  · have : g = k := by simpa [Value.ownBlock] using hk
    subst this
    exact ⟨hg, cur, fz, hh⟩
end
section
variable {P : Program} {ops : Array Oper} {rest : List Oper} {o : Oper} {a : Act} {Q : Exit → Act → World → Prop} {Kc : Act → World → Prop}
end
/-- A kind of keys that are found by asking: structs of plain fields. -/
structure MKeyP (P : Program) (kt : TypeId) (K : Type) [DecidableEq K] (eK : K → Value) : Prop where
  equal : ∀ (a b : K) (W : World), (Op.equal kt (eK a) (eK b)).run P W = .ok (decide (a = b)) W
  wide : (match P.underlying kt with | some (.array _ _) | some (.struct _) => true | _ => false) = true
  check : ∀ (e : Bool) (a : K) (W : World), (Instr.checkKey e 10000 kt (eK a)).run P W = .ok () W
  bits : ∀ a, Instr.sameBits 10000 (eK a) (eK a) = true
section
variable {K V : Type} [DecidableEq K] {eK : K → Value} {eV : V → Value} {P : Program} {kt : TypeId}
theorem mask_run (hk : MKeyP P kt K eK) (k : K) (W : World) : ∀ (L : List (K × V)) (i j : Nat), (Instr.findAsking kt (eK k) ((L.zipIdx i).map (mentry eK eV)) j).run P W = .ok ((mfind L k j).map fun p => (p.1, eV p.2)) W
  | [], i, j => by simp [Instr.findAsking, mfind]
  | p :: L, i, j => by
    rw [List.zipIdx_cons, List.map_cons, Instr.findAsking]
    have h1 := hk.equal k p.1 W
    unfold mfind
    by_cases h : k = p.1
    · rw [decide_eq_true h] at h1
      rw [if_pos h]
      simp [mentry, h1, Result.andThen]
    · rw [decide_eq_false h] at h1
      rw [if_neg h]
      have h2 := mask_run hk k W L (i + 1) (j + 1)
      simp [mentry, h1, Result.andThen] at h2 ⊢
      exact h2
theorem mfindP_run (hk : MKeyP P kt K eK) (k : K) (W : World) (L : List (K × V)) : (Instr.findKey kt (eK k) (L.zipIdx.map (mentry eK eV)).toArray.toList).run P W = .ok ((mfind L k 0).map fun p => (p.1, eV p.2)) W := by
  rw [run_findKey_eq W hk.wide]
  exact mask_run hk k W L 0 0
end
section
variable {K V : Type} [DecidableEq K] {eK : K → Value} {eV : V → Value} {P : Program} {W : World} {g : Nat} {L : List (K × V)} {t kt et : TypeId}
theorem mlookP1_run (hk : MKeyP P kt K eK) (hb : W.heap[g]? = some (mobj eK eV L)) (ht : P.underlying t = some (.map kt et)) {z : V} (hz : (zeroValue et).run P W = .ok (eV z) W) (k : K) :
    (Instr.lookup t (.map (some g)) (eK k) false).run P W = .ok (eV (mget z L k)) W := by
  have hf := mfindP_run (eV := eV) hk k W L
  unfold mget
  cases hm : mfind L k 0 with
  | none =>
    rw [hm] at hf
    simp only [Option.map_none] at hf
    simp [Instr.lookup, run_underlying ht, MapKept.run_getObj_map hb, hk.check, hf, hz, Result.andThen]
  | some p =>
    rw [hm] at hf
    simp only [Option.map_some] at hf
    simp [Instr.lookup, run_underlying ht, MapKept.run_getObj_map hb, hk.check, hf, Result.andThen]
theorem msetP_run (hk : MKeyP P kt K eK) (hb : W.heap[g]? = some (mobj eK eV L)) (ht : P.underlying t = some (.map kt et)) (k : K) (v : V) :
    (Instr.mapUpdate t (.map (some g)) (eK k) (eV v)).run P W = .ok () (ChangeMaps.setBlock W g (mobj eK eV (mset L k v))) := by
  have hf := mfindP_run (eV := eV) hk k W L
  unfold mset
  cases hm : mfind L k 0 with
  | none =>
    rw [hm] at hf
    simp only [Option.map_none] at hf
    have e : mobj eK eV (L ++ [(k, v)]) = .map ((L.zipIdx.map (mentry eK eV)).toArray.push { key := eK k, val := eV v, born := L.length }) (L.length + 1) := by
      unfold mobj
      rw [List.zipIdx_append, List.map_append, List.length_append]
      simp [mentry]
    simp only [e]
    simp [Instr.mapUpdate, run_underlying ht, MapKept.run_getObj_map hb, hk.check, hf, MapKept.run_setObj_map _ hb, Result.andThen, ChangeMaps.setBlock]
  | some p =>
    obtain ⟨i, u⟩ := p
    rw [hm] at hf
    simp only [Option.map_some] at hf
    obtain ⟨_, hi⟩ := mfind_lt k L 0 i u hm
    rw [Nat.sub_zero] at hi
    obtain ⟨hil, hie⟩ := List.getElem?_eq_some_iff.1 hi
    have e : mobj eK eV (L.set i (k, v)) = .map ((L.zipIdx.map (mentry eK eV)).toArray.modify i fun e => { e with key := eK k, val := eV v }) L.length := by
      unfold mobj
      rw [List.length_set]
      congr 1
      apply Array.ext_getElem?
      intro j
      simp only [List.getElem?_toArray, Array.getElem?_modify, List.getElem?_map, List.getElem?_zipIdx, List.getElem?_set]
      by_cases hij : i = j
      · subst hij
        simp [hil, mentry]
      · simp [hij]
    have hstay : (Instr.keyThatStays (eK k) (eK k)).run P W = .ok (eK k) W := by
      simp [Instr.keyThatStays, hk.bits]
    simp only [e]
    simp [Instr.mapUpdate, run_underlying ht, MapKept.run_getObj_map hb, hk.check, hf, hi, show (mentry eK eV ((k, u), i)).key = eK k from rfl, hstay, MapKept.run_setObj_map _ hb, Result.andThen, ChangeMaps.setBlock]
end
/-- A struct of two whole numbers as a key. -/
theorem mkeyP_ii {P : Program} {kt t1 t2 : TypeId} {f1 f2 : Field} {k1 k2 : IntKind} (hu : P.underlying kt = some (.struct #[f1, f2])) (hp : P.stoodInHeld kt = false) (e1 : f1.type = t1) (e2 : f2.type = t2) (o1 : f1.offset = 0) (o2 : f2.offset = 1) (n1 : (f1.name == "_") = false) (n2 : (f2.name == "_") = false)
    (h1 : P.underlying t1 = some (.int k1)) (h2 : P.underlying t2 = some (.int k2)) : MKeyP P kt (Int × Int) (fun p => .agg #[.int k1 p.1, .int k2 p.2]) := by
  subst e1; subst e2
  have p1 : ∀ (x y : Value) (W : World), (part f1.type #[x, y] f1.offset).run P W = .ok x W := fun x y W => by simp [part, isAgg, run_underlying h1, o1, Result.andThen]
  have p2 : ∀ (x y : Value) (W : World), (part f2.type #[x, y] f2.offset).run P W = .ok y W := fun x y W => by simp [part, isAgg, run_underlying h2, o2, Result.andThen]
  refine ⟨fun a b W => ?_, by rw [hu], fun e a W => ?_, fun a => ?_⟩
  · unfold Op.equal Op.maxDepth
    have q1 : (Op.equalIn 9999 f1.type (.int k1 a.1) (.int k1 b.1)).run P W = .ok (a.1 == b.1) W := by rw [Op.equalIn]; simp [run_underlying h1, Result.andThen]
    have q2 : (Op.equalIn 9999 f2.type (.int k2 a.2) (.int k2 b.2)).run P W = .ok (a.2 == b.2) W := by rw [Op.equalIn]; simp [run_underlying h2, Result.andThen]
    have := eqA_of (d := 9999) hu hp (eqf_cons n1 (p1 _ _ W) (p1 _ _ W) q1 (eqf_last n2 (p2 _ _ W) (p2 _ _ W) q2))
    rw [this]
    congr 1
    rw [Bool.eq_iff_iff]
    simp [Prod.ext_iff]
  · rw [Instr.checkKey]
    have c1 : ∀ x : Int, (Instr.checkKey e 9999 f1.type (.int k1 x)).run P W = .ok () W := fun x => by rw [Instr.checkKey]; simp [run_underlying h1, Result.andThen]
    have c2 : ∀ x : Int, (Instr.checkKey e 9999 f2.type (.int k2 x)).run P W = .ok () W := fun x => by rw [Instr.checkKey]; simp [run_underlying h2, Result.andThen]
    have m1 : ¬ (f1.name = "_") := by simpa using n1
    have m2 : ¬ (f2.name = "_") := by simpa using n2
    simp [run_underlying hu, m1, m2, p1, p2, c1, c2, Result.andThen]
  · simp [Instr.sameBits]
section
variable {K V : Type} {eK : K → Value} {eV : V → Value} {P : Program} {W : World} {t kt et : TypeId}
variable {ops : Array Oper} {o : Oper} {rest : List Oper} {a : Act} {Q : Exit → Act → World → Prop} {Kc : Act → World → Prop}
theorem mget1SP [DecidableEq K] {g : Nat} {L : List (K × V)} (z : V) (k : K) {m x : Operand} (hk : MKeyP P kt K eK) (hb : W.heap[g]? = some (mobj eK eV L)) (ht : P.underlying t = some (.map kt et)) (hz : (zeroValue et).run P W = .ok (eV z) W)
    (h : wpList P ops Q rest (a.put o.dst (eV (mget z L k))) W)
    (ho : o.op = .lookup t m x false := by rfl) (hw : Region.wanted o (yielded ops a.tmps) = true := by first | rfl | (go_simp; done) | (simp [Region.wanted, yielded, *]; done)) (hm : a.eval m = .map (some g) := by first | rfl | (go_simp; done) | (go_simp; rfl)) (hx : a.eval x = eK k := by first | rfl | (go_simp; done) | (go_simp; rfl)) : wpList P ops Q (o :: rest) a W := by
  refine wpList_step fun K' hK' => ?_
  rw [if_pos hw]
  unfold Oper.wp
  simp [execOp, ho, hm, hx, mlookP1_run hk hb ht hz k, Result.andThen]
  exact hK' _ _ h
theorem msetSP [DecidableEq K] {g : Nat} {L : List (K × V)} (k : K) (v : V) {m x y : Operand} (hk : MKeyP P kt K eK) (hb : W.heap[g]? = some (mobj eK eV L)) (ht : P.underlying t = some (.map kt et))
    (h : ∀ w2, w2.heap[g]? = some (mobj eK eV (mset L k v)) → W.grownBy w2 (some g) → wpList P ops Q rest a w2)
    (ho : o.op = .mapUpdate t m x y ∨ o.op = .insert t m x y := by first | exact Or.inl rfl | exact Or.inr rfl) (hN : o.dst = none := by rfl) (hgd : o.guard = none := by rfl) (hm : a.eval m = .map (some g) := by first | rfl | (go_simp; done) | (go_simp; rfl)) (hx : a.eval x = eK k := by first | rfl | (go_simp; done) | (go_simp; rfl)) (hy : a.eval y = eV v := by first | rfl | (go_simp; done) | (go_simp; rfl)) : wpList P ops Q (o :: rest) a W := by
  have hrun := msetP_run (P := P) (t := t) (kt := kt) (et := et) hk hb ht k v
  have h2 := h _ (ChangeMaps.heap_setBlock_same hb _) ⟨rfl, rfl, rfl, by simp [ChangeMaps.setBlock], fun i _ hi => ChangeMaps.heap_setBlock_other hb _ (fun e => hi (by rw [e]))⟩
  refine wpList_plain hgd fun K' hK' => ?_
  unfold Oper.wp
  rcases ho with ho | ho
  · simp [execOp, ho, hm, hx, hy, hrun, Result.andThen]
    show K' (a.put o.dst undef) _
    rw [hN]
    exact hK' _ _ h2
  · simp [execOp, ho, hm, hx, hy, hrun, Result.andThen]
    show K' (a.put o.dst undef) _
    rw [hN]
    exact hK' _ _ h2
end
set_option maxHeartbeats 2000000 in
theorem idxI (g : Nat) (lb : Array Value) (eg : ∀ args w, (callFunc g args).run Tryd.prog w = .ok (.enter g args) w) (p : Int → Bool) (A : Option Addr) (c : Nat) (l : List Int) (w : World) (hr : Kd.C (Kd.int .i64) w A l.length l)
    (hp : ∀ (W : World) (x : Int), x ∈ l → Below w.heap.size w W → Calls Tryd.prog g (#[.int .i64 x] ++ lb) W fun e w' => e = .returned (.bool (p x)) ∧ Below W.heap.size W w') :
    Calls Tryd.prog 129 #[.slice A l.length c, .func (.func g) #[] lb] w fun e w' => e = .returned (.int .i64 (fidx p l)) ∧ Below w.heap.size w w' := by
  have HR := Zab.mk hr
  have hlen : l.length ≤ 9223372036854775807 := hr.2.1
  clear hr
  have HP := Zab.mk hp
  clear hp
  go_enter Tryd.func129, Tryd.ntmps129
  go_wp2
  go_loopg [5, 8] l.length (fun gg _ s8 wr => ∃ kk : Nat, kk ≤ l.length ∧ l.length - kk ≤ gg ∧ s8 = .int .i64 kk ∧ Zab (Below w.heap.size w wr) ∧ Zab (∀ j (hj : j < kk) (hl : j < l.length), p l[j] = false))
  case atStart => exact ⟨0, Nat.zero_le _, by omega, rfl, ⟨Below.refl _ w⟩, ⟨fun j hj => absurd hj (Nat.not_lt_zero _)⟩⟩
  case round =>
    obtain ⟨kk, hkk, hg, rfl, BW, AS⟩ := hrel
    by_cases hlt : kk < l.length
    · have hltz : (kk : Int) < (l.length : Int) := by omega
      have a : 0 ≤ (kk : Int) := by omega
      obtain ⟨ad, e, hx⟩ := Kd.zK HR.out (kk : Int) a hltz
      cases e
      replace hx := (BW.out.cell (World.block_lt_of_cell? w _ hx)).trans hx
      rw [rd_get hlt, Int.toNat_natCast] at hx
      have hcall := HP.out wr l[kk] (List.getElem_mem hlt) BW.out
      cases hq : p l[kk] with
      | true =>
        rw [hq] at hcall
        have HQ := Zab.mk hq
        clear hq
        generalize hy : l[kk] = y at hx hcall
        clear hy
        go_wp2_with (go_at_fn g; refine hcall.mono ?_; rintro e w' ⟨rfl, hb'⟩)
        go_ret
        exact ⟨by rw [fidx_hit hlt HQ.out (fun j hj => AS.out j hj _)]; rfl, Zac BW.out hb'⟩
      | false =>
        rw [hq] at hcall
        have HQ := Zab.mk hq
        clear hq
        generalize hy : l[kk] = y at hx hcall
        clear hy
        go_wp2_with (go_at_fn g; refine hcall.mono ?_; rintro e w' ⟨rfl, hb'⟩)
        go_roundg (l.length - (kk + 1))
        case measure => omega
        case rel =>
          refine ⟨kk + 1, by omega, by omega, by go_num, ⟨Zac BW.out hb'⟩, ⟨fun j hj hl => ?_⟩⟩
          by_cases e : j = kk
          · subst e
            exact HQ.out
          · exact AS.out j (by omega) hl
    · have hltz : ¬ (kk : Int) < (l.length : Int) := by omega
      have hke : kk = l.length := by omega
      have HKE := Zab.mk hke
      clear hke
      go_wp2
      go_ret
      exact ⟨by rw [fidx_miss (fun j hj => AS.out j (by have := HKE.out; omega) hj)]; rfl, BW.out⟩
set_option maxHeartbeats 2000000 in
theorem conI (g : Nat) (lb : Array Value) (eg : ∀ args w, (callFunc g args).run Tryd.prog w = .ok (.enter g args) w) (p : Int → Bool) (A : Option Addr) (c : Nat) (l : List Int) (w : World) (hr : Kd.C (Kd.int .i64) w A l.length l)
    (hp : ∀ (W : World) (x : Int), x ∈ l → Below w.heap.size w W → Calls Tryd.prog g (#[.int .i64 x] ++ lb) W fun e w' => e = .returned (.bool (p x)) ∧ Below W.heap.size W w') :
    Calls Tryd.prog 102 #[.slice A l.length c, .func (.func g) #[] lb] w fun e w' => e = .returned (.bool (l.any p)) ∧ Below w.heap.size w w' := by
  have HI := Zab.mk (fun w0 (h0 : w0 = w) => h0 ▸ idxI g lb eg p A c l w hr hp)
  rw [← fidx_nonneg]
  clear hr hp
  go_enter Tryd.func102, Tryd.ntmps102
  go_wp2_with (go_at_call 129; refine (HI.out _ rfl).mono ?_; rintro e w' ⟨rfl, hb'⟩)
  go_ret
  exact ⟨rfl, hb'⟩
theorem allIn_1 (n lo hi : Int) (b1 b2 : Nat) (w : World) (h1 : w.cell? ⟨b1, 0, none⟩ = some (.int .i64 lo)) (h2 : w.cell? ⟨b2, 0, none⟩ = some (.int .i64 hi)) :
    Calls Tryd.prog 122 #[.int .i64 n, .pointer (some ⟨b1, 0, none⟩), .pointer (some ⟨b2, 0, none⟩)] w fun e w' => e = .returned (.bool (!(decide (lo ≤ n) && decide (n ≤ hi)))) ∧ Below w.heap.size w w' := by
  have hf : Zbn.f n lo hi = some (decide (lo ≤ n) && decide (n ≤ hi)) := by
    unfold Zbn.f
    by_cases h : lo ≤ n <;> simp [h]
  have HF := Zab.mk hf
  clear hf
  generalize (decide (lo ≤ n) && decide (n ≤ hi)) = r at HF ⊢
  go_enter Tryd.func122, Tryd.ntmps122
  go_wp2_with (go_at_call 94; refine (Zbn.calls n lo hi r _ HF.out).mono ?_; rintro e w' ⟨rfl, hq⟩)
  go_ret
  exact ⟨rfl, hq.below⟩
def Zc5.f (l0 : List Int) (a1 : Int) (a2 : Int) : Option Bool := some (l0.all fun n => decide (a1 ≤ n) && decide (n ≤ a2))
theorem Zc5.calls (A0 : Option Addr) (c0 : Nat) (l0 : List Int) (a1 : Int) (a2 : Int) (r : Bool) (w : World) (a : Kd.C (Kd.int .i64) w A0 l0.length l0) (d : l0.length ≤ c0) (h : Zc5.f l0 a1 a2 = some r) :
    Calls Tryd.prog 76 #[.slice A0 l0.length c0, .int .i64 a1, .int .i64 a2] w fun e w' => e = .returned (.bool r) ∧ Below w.heap.size w w' := by
  have hany : (l0.any fun n => !(decide (a1 ≤ n) && decide (n ≤ a2))) = !r := by
    unfold Zc5.f at h
    rw [← Option.some.inj h, List.not_all_eq_any_not]
  clear h
  have HR := mA a
  clear a
  have HC := fun W A (hA : Kd.C (Kd.int .i64) W A l0.length l0) (b1 b2 : Nat) (h1 : W.cell? ⟨b1, 0, none⟩ = some (.int .i64 a1)) (h2 : W.cell? ⟨b2, 0, none⟩ = some (.int .i64 a2)) (b : b1 < W.heap.size) (c : b2 < W.heap.size) =>
    conI 122 #[.pointer (some ⟨b1, 0, none⟩), .pointer (some ⟨b2, 0, none⟩)] (enters_of Tryd.func122 (by kernel_rfl) rfl) (fun n => !(decide (a1 ≤ n) && decide (n ≤ a2))) A c0 l0 W hA
      (fun W' x _ hb => allIn_1 x a1 a2 b1 b2 W' ((hb.cell (p := ⟨b1, 0, none⟩) b).trans h1) ((hb.cell (p := ⟨b2, 0, none⟩) c).trans h2))
  rw [hany] at HC
  clear hany
  go_enter Tryd.func76, Tryd.ntmps76
  go_wp2_with fail
  refine (HC _ A0 (yP (yP HR.out _) _) w.heap.size (w.heap.size + 1) (by go_simp) (by go_simp) (by simp; omega) (by simp)).mono ?_
  rintro e w' ⟨rfl, hb⟩
  go_wp2
  go_ret
  exact ⟨by simp, ((Zbf (Zbf (Below.refl _ w) _) _).trans (hb.mono (by simp; omega)))⟩
end Go.Proofs.YtlmicipfikammaaDoor.P
end
