import Derived.Laws.StructEq
import Derived.Lib.SliceRun
import Derived.Shelf.Abstract
import Derived.Shelf.Spec.TrailingZeros
import Derived.Test.YtjdkedmdeajmgaaDoorProg
import Derived.Test.YtjdkedmdeajmgaaDoorCFnExactNormalAutomaton1
set_option maxHeartbeats 8000000
set_option maxRecDepth 100000
section M0
namespace Go.Proofs.YtjdkedmdeajmgaaDoor.Sh
open Go.RowKit Go.Proofs.YtjdkedmdeajmgaaDoorW.PrintWords Go.Proofs.YtjdkedmdeajmgaaDoorW.PrintLast Go.Proofs.YtjdkedmdeajmgaaDoorW.PrintMore
open Kd
theorem bW {B : Nat} {w W : World} (h : Below B w W := by repeat (first | (with_reducible first | exact Zac.out (by assumption) | apply Zbm | apply Zbr | apply Za1 | refine Za9 ?_ (Zac.out (by assumption))) | exact Zac.out (by assumption))) : Below B w W := h
theorem kW {w W : World} {S : Nat → Prop} (h : Kept w W S := by repeat (first | (with_reducible first | exact Zac.out (by assumption) | apply Kept.alloc | apply Kept.drewN | apply Kept.drew | refine Kept.setCell ?_ (.inr (Zac.out (by assumption))) _) | exact Zac.out (by assumption))) : Kept w W S := h
theorem ofD {p : Prop} [Decidable p] (h : decide p = true := by first | (with_reducible assumption) | assumption) : p := of_decide_eq_true h
theorem rP {p q : Prop} (h : p) (k : p → q := by intro h_; (with_reducible repeat (first | apply Kd.zC | apply Kd.zD | apply Kd.zA)); exact h_) : q := k h
theorem sP {p q : Prop} (h : p) (k : p → q := by intro h_; (with_reducible repeat (first | apply Kd.zL | apply Kd.zM | apply Kd.zH)); exact h_) : q := k h
theorem bP {p q : Prop} (h : p) (k : p → q := by intro h_; (with_reducible repeat (first | refine Zad ?_ _ | refine Zaa ?_ | refine Zab ?_ _)); exact h_) : q := k h
theorem cP {p q : Prop} (h : p) (k : p → q := by intro h_; repeat (first | exact h_ | (with_reducible refine Kd.C_alloc ?_ _) | (with_reducible refine Kd.C_drewN ?_ _) | (with_reducible refine Kd.C_drew ?_))) : q := k h
theorem eW {α : Type} {a b : α} (h : a = b := by first | rfl | (simp; done) | (simp [*]; done) | (simp only [Zcq]; done) | (simp [Zcq]; done)) : a = b := h
section
variable {P : Program} {ops : Array Oper} {o : Oper} {rest : List Oper} {a : Act} {Q : Exit → Act → World → Prop}
theorem boxS {W : World} {N : Tmp} {cs : Array Value} {t : TypeId}
    (h : ∀ g, g = W.heap.size → ∀ w1, w1.heap[g]? = some (.cells cs t (0, 0)) → Below W.heap.size W w1 → wpList P ops Q rest (a.put o.dst (.pointer (some ⟨g, 0, none⟩))) w1)
    (hd : o.dst = some N := by rfl) (hgd : o.guard = none := by rfl)
    (hrun : (execOp a.eval o).run P W = .ok (.value (.pointer (some ⟨W.heap.size, 0, none⟩))) (W.alloc (.cells cs t (0, 0))) := by first | (go_simp; done) | (go_simp; rfl)) : wpList P ops Q (o :: rest) a W :=
  box_event hgd hd hrun h
theorem Zdg {W w1 : World} {t : TypeId} {p : Tmp} {v : Operand} (h : ∀ w', w' = w1 → wpList P ops Q rest a w')
    (ho : o.op = .store t (.tmp p) v := by rfl) (hgd : o.guard = none := by rfl) (hN : o.dst = none := by rfl)
    (hrun : (execOp a.eval o).run P W = .ok .skip w1 := by first | (go_simp; done) | (go_simp; rfl)) : wpList P ops Q (o :: rest) a W :=
  store_event hgd ho hN hrun h
theorem Zbi {w : World} (N : Option Tmp) {f : FuncId} {fn : Func} {as9 : Array Operand} {ts : Array TypeId} (hf : P.funcs[f]? = some fn) (args : Array Value)
    (h : Calls P f args w fun e w' => ∃ v, e = .returned v ∧ wpList P ops Q rest (a.put N v) w')
    (hd : o.dst = N := by rfl) (hg : o.guard = none := by rfl) (hname : (fn.name == "runtime.NumGoroutine") = false := by kernel_rfl) (hb : fn.body.isSome = true := by rfl)
    (hop : o.op = .call { callee := .value (.func f), args := as9, argTypes := ts } := by rfl)
    (hargs : as9.map a.eval = args := by (try simp only [List.map_toArray, List.map_cons, List.map_nil]); first | done | rfl | (simp only [List.length_drop, List.length_take]; rfl)) : wpList P ops Q (o :: rest) a w :=
  goesL_ N hd hg hf hname hb args hop hargs h
end
theorem blkB {w W w1 : World} {g : Nat} {o : Obj} (h : w.heap[g]? = some o) (hb : Below W.heap.size W w1) (k : (w.heap[g]? = some o) → (W.heap[g]? = some o) := by intro h_; (with_reducible repeat (first | refine Zad ?_ _ | refine Zaa ?_ | refine Zab ?_ _)); exact h_) : w1.heap[g]? = some o := Zbd (k h) hb
theorem mA {p : Prop} (h : p) : Zac p := ⟨h⟩
theorem neB {U W : World} {g k : Nat} {o : Obj} (hg : k = W.heap.size) (h : Zac (U.heap[g]? = some o)) (t : U.heap[g]? = some o → W.heap[g]? = some o := by intro h_; (with_reducible repeat (first | refine Zad ?_ _ | refine Zaa ?_ | refine Zab ?_ _)); exact h_) : g ≠ k := by rw [hg]; exact Nat.ne_of_lt (blk_lt (t h.out))
theorem neC {U W : World} {g k : Nat} {o : Obj} (hg : k = W.heap.size) (h : Zac (U.heap[g]? = some o)) (t : U.heap[g]? = some o → W.heap[g]? = some o := by intro h_; (with_reducible repeat (first | refine Zad ?_ _ | refine Zaa ?_ | refine Zab ?_ _)); exact h_) : k ≠ g := by rw [hg]; exact Nat.ne_of_gt (blk_lt (t h.out))
theorem bc {w : World} {g : Nat} {t : TypeId} {cs : Array Value} {v : Value} (h : Zac (w.heap[g]? = some (.cells cs t (0, 0)))) (i : Nat) (e : cs[i]? = some v := by rfl) : w.cell? ⟨g, i, none⟩ = some v := (Zbo h.out i).trans e
theorem wB (w : World) {a : Addr} {v : Value} (h : w.cell? a = some v) : a.block < w.heap.size := World.block_lt_of_cell? w _ h
theorem cB {w W : World} {a : Addr} {v : Value} (h : Zac (Below w.heap.size w W)) (x : w.cell? a = some v) : W.cell? a = some v := (h.out.cell (World.block_lt_of_cell? w _ x)).trans x
theorem gE {c : Prop} [Decidable c] {α : Type} {a : Option α} {r : α} (h : (if c then a else none) = some r) : decide c = true ∧ a = some r := by
  by_cases hc : c
  · rw [if_pos hc] at h; exact ⟨decide_eq_true hc, h⟩
  · rw [if_neg hc] at h; cases h
theorem bA {α β : Type} {o : Option α} {f : α → Option β} {r : β} (h : o.bind f = some r) : ∃ a, Zac (o = some a) ∧ f a = some r := by
  obtain ⟨a, h1, h2⟩ := Option.bind_eq_some_iff.mp h
  exact ⟨a, ⟨h1⟩, h2⟩
theorem nm {α : Type} (e : α) : ∃ y : α, Zac (y = e) := ⟨e, ⟨rfl⟩⟩
theorem dT {p : Prop} [Decidable p] (h : p) : decide p = true := decide_eq_true h
theorem dF {p : Prop} [Decidable p] (h : ¬ p) : decide p = false := decide_eq_false h
theorem bE {α β : Type} {o : Option α} {f : α → Option β} {r : β} (h : o.bind f = some r) : ∃ a, o = some a ∧ f a = some r := Option.bind_eq_some_iff.mp h
theorem oI {α : Type} {a b : α} (h : some a = some b) : a = b := Option.some.inj h
theorem dwD {α : Type} {x : α} {w : World} {a b : Nat} : x = x ∧ ∃ n, (w.drewN a).drewN b = w.drewN n := ⟨rfl, _, World.drewN_drewN _ _ _⟩
theorem dwE {α : Type} {x : α} {w : World} {a b c : Nat} : x = x ∧ ∃ n, (w.drewN (a + b)).drewN c = w.drewN (a + n) := ⟨rfl, _, Eq.trans (World.drewN_drewN _ _ _) (congrArg (World.drewN _) (Nat.add_assoc _ _ _))⟩
theorem iF {α : Type} {a b : α} : (if false = true then a else b) = b := if_neg (by decide)
theorem putS (n : Tmp) {P : Program} {ops : Array Oper} {Q : Exit → Act → World → Prop} {md : Region.Mode} {S : World → Prop} {ds : List Nat} {fuel : Nat} {l : Array Bool} {a a' : Act} {w : World} {v : Value} (h : Za4 P md ops Q S ds fuel l a' w) (ha : a.put (some n) v = a' := by (simp only [Act.put, List.setIfInBounds_toArray, List.set_cons_zero, List.set_cons_succ, Zcq, i32_w]; rfl)) : Za4 P md ops Q S ds fuel l (a.put (some n) v) w := norm_ ha h
theorem geW {w W : World} {g : Nat} (hg : g = W.heap.size) (h : Below w.heap.size w W := by repeat (first | (with_reducible first | exact Zac.out (by assumption) | apply Zbm | apply Zbr | apply Za1 | refine Za9 ?_ (Zac.out (by assumption))) | exact Zac.out (by assumption))) : Zac (w.heap.size ≤ g) := ⟨hg ▸ Zaj h⟩
theorem Zcj {w : World} {g : Nat} {a b : Value} {t : TypeId} (h : w.heap[g]? = some (.cells #[a, b] t (0, 0))) : w.cell? ⟨g, 0, none⟩ = some a ∧ w.cell? ⟨g, 1, none⟩ = some b := by
  refine ⟨?_, ?_⟩
  · rw [Zbo h 0]; rfl
  · rw [Zbo h 1]; rfl
theorem cells3 {w : World} {g : Nat} {a b c : Value} {t : TypeId} (h : w.heap[g]? = some (.cells #[a, b, c] t (0, 0))) : w.cell? ⟨g, 0, none⟩ = some a ∧ w.cell? ⟨g, 1, none⟩ = some b ∧ w.cell? ⟨g, 2, none⟩ = some c := by
  refine ⟨?_, ?_, ?_⟩
  · rw [Zbo h 0]; rfl
  · rw [Zbo h 1]; rfl
  · rw [Zbo h 2]; rfl
theorem Zbl {w : World} {g : Nat} {a b c d : Value} {t : TypeId} (h : w.heap[g]? = some (.cells #[a, b, c, d] t (0, 0))) : w.cell? ⟨g, 0, none⟩ = some a ∧ w.cell? ⟨g, 1, none⟩ = some b ∧ w.cell? ⟨g, 2, none⟩ = some c ∧ w.cell? ⟨g, 3, none⟩ = some d := by
  refine ⟨?_, ?_, ?_, ?_⟩
  · rw [Zbo h 0]; rfl
  · rw [Zbo h 1]; rfl
  · rw [Zbo h 2]; rfl
  · rw [Zbo h 3]; rfl
theorem frz2 {w : World} {g : Nat} {cs : Array Value} {t : TypeId} (h : w.heap[g]? = some (.cells cs t (0, 0))) : w.frozen? ⟨g, 0, none⟩ = false ∧ w.frozen? ⟨g, 1, none⟩ = false := ⟨Zae h 0, Zae h 1⟩
theorem frz3 {w : World} {g : Nat} {cs : Array Value} {t : TypeId} (h : w.heap[g]? = some (.cells cs t (0, 0))) : w.frozen? ⟨g, 0, none⟩ = false ∧ w.frozen? ⟨g, 1, none⟩ = false ∧ w.frozen? ⟨g, 2, none⟩ = false := ⟨Zae h 0, Zae h 1, Zae h 2⟩
theorem frz4 {w : World} {g : Nat} {cs : Array Value} {t : TypeId} (h : w.heap[g]? = some (.cells cs t (0, 0))) : w.frozen? ⟨g, 0, none⟩ = false ∧ w.frozen? ⟨g, 1, none⟩ = false ∧ w.frozen? ⟨g, 2, none⟩ = false ∧ w.frozen? ⟨g, 3, none⟩ = false := ⟨Zae h 0, Zae h 1, Zae h 2, Zae h 3⟩
section
variable {P : Program} {ops : Array Oper} {Q : Exit → Act → World → Prop} {md : Region.Mode} {S : World → Prop} {ds : List Nat}
theorem Zas {i : Nat} {N : Option Tmp} {oi : Oper} {v : Value} {fuel : Nat} {l : Array Bool} {a : Act} {w : World} {a' : Act} (hc : anyB md ops l (l.setIfInBounds i true) i = true) (h : Za4 P md ops Q S ds fuel (l.setIfInBounds i true) a' w)
    (hi : ops[i]? = some oi := by rfl) (hN : oi.dst = N := by rfl) (hQ : ∀ c a w, Q (.panic c) (a.put oi.dst v) w → Q (.panic c) a w := by exact fun _ _ _ h => h) (hy : Yields P ops oi v a := by (refine Or.inl ⟨by rfl, ?_⟩; intro w'; go_simp; with_reducible rfl))
    (ha : a.put N v = a' := by (simp only [Act.put, List.setIfInBounds_toArray, List.set_cons_zero, List.set_cons_succ, Zcq, i32_w]; rfl)) : Za4 P md ops Q S ds (fuel + 1) l a w := pure_ _ hi hN hc hQ hy ha h
theorem pureU {i : Nat} {N : Option Tmp} {oi : Oper} {fuel : Nat} {l : Array Bool} {a : Act} {w : World} {a' : Act} (hc : anyB md ops l (l.setIfInBounds i true) i = true) (h : Za4 P md ops Q S ds fuel (l.setIfInBounds i true) a' w)
    (hi : ops[i]? = some oi := by rfl) (hN : oi.dst = N := by rfl) (hQ : ∀ c a w, Q (.panic c) (a.put oi.dst undef) w → Q (.panic c) a w := by exact fun _ _ _ h => h) (hy : Yields P ops oi undef a := by exact Or.inr ⟨by rfl, rfl⟩)
    (ha : a.put N undef = a' := by (simp only [Act.put, List.setIfInBounds_toArray, List.set_cons_zero, List.set_cons_succ, Zcq, i32_w]; rfl)) : Za4 P md ops Q S ds (fuel + 1) l a w := pure_ _ hi hN hc hQ hy ha h
theorem Zbg {i : Nat} {N : Option Tmp} {oi : Oper} {v : Value} {fuel : Nat} {l : Array Bool} {a : Act} {w : World} {a' : Act} (hc : takeB md ops ds l (l.setIfInBounds i true) i = true) (hS : S w) (h : Za4 P md ops Q S ds fuel (l.setIfInBounds i true) a' w)
    (hi : ops[i]? = some oi := by rfl) (hN : oi.dst = N := by rfl) (hQ : ∀ c a w, Q (.panic c) (a.put oi.dst v) w → Q (.panic c) a w := by exact fun _ _ _ h => h) (hy : YieldsIf P ops S oi v a := by (refine Or.inl ⟨by rfl, ?_⟩; intro w' hs_; (repeat (have := hs_.1; replace hs_ := hs_.2)); go_simp; with_reducible rfl))
    (ha : a.put N v = a' := by (simp only [Act.put, List.setIfInBounds_toArray, List.set_cons_zero, List.set_cons_succ, Zcq, i32_w]; rfl)) : Za4 P md ops Q S ds (fuel + 1) l a w := take_ _ hi hN hc hQ hy hS ha h
end
/-- A list without elements lies as9 nil. -/
def NilOf {α : Type} (v : Value) (r : List α) : Prop := r = [] → v = .slice none 0 0
theorem NilOf.cons {α : Type} {v : Value} {r l : List α} {x : α} (h : r = x :: l) : NilOf v r := fun e => by rw [h] at e; cases e
theorem boxNe {U W : World} {g k : Nat} {o : Obj} (hg : k = W.heap.size) (h : Zac (U.heap[g]? = some o)) (t : U.heap[g]? = some o → W.heap[g]? = some o := by intro h_; (with_reducible repeat (first | refine Zad ?_ _ | refine Zaa ?_ | refine Zab ?_ _)); exact h_) : g ≠ k := by rw [hg]; exact Nat.ne_of_lt (blk_lt (t h.out))
section
variable {P : Program} {ops : Array Oper} {o : Oper} {rest : List Oper} {a : Act} {Q : Exit → Act → World → Prop} {Kc : Act → World → Prop} {α : Type}
theorem own_new {v : Value} {n : Nat} (h : ∃ b, v.ownBlock = some b ∧ n ≤ b) : ∀ k, v.ownBlock = some k → n ≤ k := by
  obtain ⟨b, h1, h2⟩ := h
  intro k hk
  rw [h1] at hk
  injection hk with hk
  omega
theorem lit1_rep {d : Kd α} {W : World} {base : Nat} {okp : Nat → Prop} {xs : List α} {inner : List Value} (hp : ∃ x, xs = [x] ∧ inner.length = d.sz ∧ d.M W base okp x inner) :
    inner.length = xs.length * d.sz ∧ (∀ j x, xs[j]? = some x → d.M W base (fun k => j = 0 ∧ okp k) x ((inner.drop (j * d.sz)).take d.sz)) := by
  obtain ⟨x0, rfl, hl, hM⟩ := hp
  refine ⟨by simp [hl], fun j x hx => ?_⟩
  cases j with
  | zero =>
    simp only [List.getElem?_cons_zero, Option.some.injEq] at hx
    subst hx
    rw [Nat.zero_mul, List.drop_zero, List.take_of_length_le (by omega)]
    exact d.M_mono (fun _ hk => ⟨rfl, hk⟩) hM
  | succ j => simp at hx
theorem Kd.S_lit1 (d : Kd α) {w0 W : World} (base e : Nat) (hgd : o.guard = none) {N : Tmp} (hd : o.dst = some N) {xs : List α} {inner : List Value} {ok okp : Nat → Prop}
    (hrun : (execOp a.eval o).run P W = .ok (.value (.slice (some ⟨W.heap.size, 0, none⟩) xs.length xs.length)) (W.alloc (.cells inner.toArray e)))
    (hp : ∃ x, xs = [x] ∧ inner.length = d.sz ∧ d.M W base okp x inner) (hok : ∀ k, okp k → ok k) (hfresh : ok W.heap.size) (_HB : Below base w0 W) (hbase : base ≤ W.heap.size) (hm : xs.length ≤ 9223372036854775807)
    (h : ∀ v1 w1, Kd.S d e w1 base ok v1 xs → Below W.heap.size W w1 → W.grownBy w1 none → (∃ b, v1.ownBlock = some b ∧ W.heap.size ≤ b) → wpList P ops Q rest (a.put o.dst v1) w1) : wpList P ops Q (o :: rest) a W := by
  obtain ⟨h1, h2⟩ := lit1_rep hp
  refine Kd.S_lits d (w0 := W) base e hgd hd (ok := ok) (fun j k => j = 0 ∧ okp k) hrun h1 h2 (fun i j k hi hj => by rw [hi.1, hj.1]) (fun j k hk => hok k hk.2) hfresh (Below.refl _ _) hbase hm ?_
  exact fun v1 w1 hS _ hg hn => h v1 w1 hS ⟨hg.os, hg.tape, hg.output, hg.size, fun i hi => hg.block i hi (by simp)⟩ hg hn
theorem Kd.S_lit1_step (d : Kd α) {w0 W : World} (base e : Nat) (hw : Region.wanted o (yielded ops a.tmps) = true) {N : Tmp} (hd : o.dst = some N) {xs : List α} {inner : List Value} {ok okp : Nat → Prop}
    (hrun : (execOp a.eval o).run P W = .ok (.value (.slice (some ⟨W.heap.size, 0, none⟩) xs.length xs.length)) (W.alloc (.cells inner.toArray e)))
    (hp : ∃ x, xs = [x] ∧ inner.length = d.sz ∧ d.M W base okp x inner) (hok : ∀ k, okp k → ok k) (hfresh : ok W.heap.size) (_HB : Below base w0 W) (hbase : base ≤ W.heap.size) (hm : xs.length ≤ 9223372036854775807)
    (h : ∀ v1 w1, Kd.S d e w1 base ok v1 xs → Below W.heap.size W w1 → W.grownBy w1 none → (∃ b, v1.ownBlock = some b ∧ W.heap.size ≤ b) → Kc (a.put o.dst v1) w1) :
    if Region.wanted o (yielded ops a.tmps) = true then Oper.wp P o a W Kc Q else Kc (a.put o.dst undef) W := by
  obtain ⟨h1, h2⟩ := lit1_rep hp
  refine Kd.S_lits_step d (w0 := W) base e hw hd (ok := ok) (fun j k => j = 0 ∧ okp k) hrun h1 h2 (fun i j k hi hj => by rw [hi.1, hj.1]) (fun j k hk => hok k hk.2) hfresh (Below.refl _ _) hbase hm ?_
  exact fun v1 w1 hS _ hg hn => h v1 w1 hS ⟨hg.os, hg.tape, hg.output, hg.size, fun i hi => hg.block i hi (by simp)⟩ hg hn
end
section
variable {α : Type} {d : Kd α} {e base n : Nat} {ok : Nat → Prop} {w1 W : World} {u v : Value} {xs : List α}
theorem sizeI (_hb : Below W.heap.size W w1) : ∃ n, Zac (n = W.heap.size) := ⟨_, ⟨rfl⟩⟩
theorem Kd.S_elderI (h : Kd.S d e W base ok u xs) (hbase : ∀ k, v.ownBlock = some k → W.heap.size ≤ k) (hb : Below W.heap.size W w1) (hn : Zac (n = W.heap.size)) : Kd.S d e w1 base (fun k => (ok k ∧ some k ≠ v.ownBlock) ∧ k < n) u xs :=
  Kd.zG (Kd.yQ (Kd.xF h) hbase hb) (fun k hk => ⟨⟨hk.1.1, hk.2⟩, by have := hk.1.2.2.1; have := hn.out; omega⟩)
theorem Kd.S_newI (h : Kd.S d e w1 W.heap.size ok v xs) (hn : Zac (n = W.heap.size)) : Kd.S d e w1 W.heap.size (fun k => ok k ∧ n ≤ k) v xs :=
  Kd.zG (Kd.xF h) (fun k hk => ⟨hk.1, by have := hk.2.1; have := hn.out; omega⟩)
end
section
variable {P : Program} {ops : Array Oper} {o : Oper} {rest : List Oper} {a : Act} {Q : Exit → Act → World → Prop} {Kc : Act → World → Prop} {α : Type}
open Classical in
theorem S_merge {d : Kd α} {e base m c : Nat} {ok okp : Nat → Prop} {W : World} {v : Value} {A : Option Addr} {xs ys : List α} (HO : Kd.S d e W base (fun k => ok k ∧ ¬ okp k) v xs) (HX : Kd.S d e W base okp (.slice A m c) ys) :
    ∃ g, (Kd.tag g d).R e W base ok v xs.zipIdx ∧ Zcp (fun p cs => (Kd.tag g d).M W base okp p cs) d.sz W A m (ys.zipIdx xs.length) := by
  obtain ⟨f, HO⟩ := HO
  obtain ⟨f', _, hX⟩ := HX
  obtain ⟨A', c', he, _, hrow⟩ := Zcx.reads hX
  injection he with h1 h2 h3
  subst h1
  rw [List.length_zipIdx] at hrow h2
  rw [h2]
  refine ⟨fun k => if okp k then xs.length + f' k else f k, Kd.zB (Kd.R_tag HO (fun k hk _ => if_neg hk.2)) (fun _ hk => hk.1), by simp, hrow.2.1, fun hn => ?_⟩
  obtain ⟨ad, e1, hc⟩ := hrow.2.2 hn
  refine ⟨ad, e1, fun j p hj => ?_⟩
  rw [List.getElem?_zipIdx] at hj
  obtain ⟨y, hy, rfl⟩ := Option.map_eq_some_iff.1 hj
  obtain ⟨cs, q1, q2, q3⟩ := hc j (y, j) (by rw [List.getElem?_zipIdx, hy]; simp)
  exact ⟨cs, q1, d.M_mono (fun k hk => ⟨hk.1.1, by
    have e2 : f' k = j := hk.2
    show (if okp k then xs.length + f' k else f k) = xs.length + j
    rw [if_pos hk.1.1, e2]⟩) q2, q3⟩
theorem Kd.S_append_rows_step (d : Kd α) {w0 W : World} (base : Nat) (hw : Region.wanted o (yielded ops a.tmps) = true) (s x : Operand) (t e : TypeId) (z : Value) (bytes : Nat)
    (ho : o.op = .call { callee := .builtin .append, args := #[s, x], argTypes := #[t, t] })
    (ht : P.underlying t = some (.slice e)) (hinfo : (P.info? e).map (fun i => (i.zero, i.size, i.bytes)) = some (some z, d.sz, bytes)) (hz : z.cells.size = d.sz) (j : 0 < d.sz) (l : 0 < bytes)
    (v : Value) (xs ys : List α) (A : Option Addr) (m c : Nat) (ok okp : Nat → Prop) (hs : a.eval s = v) (hx : a.eval x = .slice A m c)
    (HO : Kd.S d e W base (fun k => ok k ∧ ¬ okp k) v xs) (HX : Kd.S d e W base okp (.slice A m c) ys) (hokp : ∀ k, okp k → ok k ∧ some k ≠ v.ownBlock) (hfresh : ∀ k, W.heap.size ≤ k → ok k)
    (HB : Below base w0 W) (hbase : base ≤ W.heap.size) (hl : (xs.length + m) * bytes ≤ 140737488355328)
    (h : ∀ v1 w1, Kd.S d e w1 base ok v1 (xs ++ ys) → Below base w0 w1 → W.grownBy w1 v.ownBlock → (v1.ownBlock = v.ownBlock ∨ ∃ b, v1.ownBlock = some b ∧ W.heap.size ≤ b) → Kc (a.put o.dst v1) w1) :
    if Region.wanted o (yielded ops a.tmps) = true then Oper.wp P o a W Kc Q else Kc (a.put o.dst undef) W := by
  obtain ⟨g, h1, h2⟩ := S_merge HO HX
  refine Kd.xK (Kd.tag g d) base hw s x t e z bytes ho ht hinfo hz j l v _ _ A m c ok okp hs hx h1 h2 (fun _ _ hk => hk) hokp hfresh HB hbase (by rw [List.length_zipIdx]; exact hl) ?_
  intro v1 w1 hr hb hg hat
  refine h v1 w1 ⟨g, ?_⟩ hb hg hat
  rw [List.zipIdx_append, Nat.zero_add]
  exact hr
end
theorem ltge {k n : Nat} (h1 : k < n) (h2 : n ≤ k) : False := by omega
section
variable {P : Program} {ops : Array Oper} {rest : List Oper} {oi : Oper} {a : Act} {w : World} {Q : Exit → Act → World → Prop} {K : Act → World → Prop}
theorem gate_fv {n : Tmp} {as9 : Array Operand} {ts : Array TypeId} (_ho : oi.op = .call { callee := .value (.tmp n), args := as9, argTypes := ts }) (h : wpList P ops Q (oi :: rest) a w) : wpList P ops Q (oi :: rest) a w := h
theorem fv_run {n : Tmp} {g : FuncId} {cb : Array Value} {as9 : Array Operand} {ts : Array TypeId} {args : Array Value} (he : ∀ args w, (callFunc g args).run P w = .ok (.enter g args) w) (hop : oi.op = .call { callee := .value (.tmp n), args := as9, argTypes := ts })
    (hc : a.eval (.tmp n) = .func (.func g) #[] cb) (hargs : as9.map a.eval = args) : (execOp a.eval oi).run P w = .ok (.enter g (args ++ cb)) w := by
  unfold execOp
  simp [hop, resolve, Deferred.ofValue, invoke, hc, hargs, he]
theorem goesF_ (N : Option Tmp) (hd : oi.dst = N) (hg : oi.guard = none) {g : FuncId} {cb : Array Value} (he : ∀ args w, (callFunc g args).run P w = .ok (.enter g args) w) {n : Tmp} {as9 : Array Operand} {ts : Array TypeId} (args : Array Value)
    (hop : oi.op = .call { callee := .value (.tmp n), args := as9, argTypes := ts }) (hc : a.eval (.tmp n) = .func (.func g) #[] cb) (hargs : as9.map a.eval = args)
    (h : Calls P g (args ++ cb) w fun e w' => ∃ v, e = .returned v ∧ wpList P ops Q rest (a.put N v) w') : wpList P ops Q (oi :: rest) a w := by
  refine wpList_plain hg fun K hK => ?_
  have hrun := fv_run (w := w) he hop hc hargs
  unfold Oper.wp
  rw [hrun, Oper.upon_enter]
  refine h.mono fun e w'' hh => ?_
  obtain ⟨v, rfl, hk⟩ := hh
  subst hd
  exact hK _ _ hk
theorem goesFR_ {N : Option Tmp} {g : FuncId} {cb : Array Value} (he : ∀ args w, (callFunc g args).run P w = .ok (.enter g args) w) {n : Tmp} {as9 : Array Operand} {ts : Array TypeId} (args : Array Value)
    (hw : Region.wanted oi (yielded ops a.tmps) = true) (hN : oi.dst = N) (hop : oi.op = .call { callee := .value (.tmp n), args := as9, argTypes := ts }) (hc : a.eval (.tmp n) = .func (.func g) #[] cb) (hargs : as9.map a.eval = args)
    (h : Calls P g (args ++ cb) w fun e w' => ∃ v, e = .returned v ∧ K (a.put N v) w') : if Region.wanted oi (yielded ops a.tmps) = true then Oper.wp P oi a w K Q else K (a.put N undef) w :=
  call_ g (args ++ cb) hw hN (fv_run he hop hc hargs) h
end
end Go.Proofs.YtjdkedmdeajmgaaDoor.Sh
end M0
section M1
namespace Go.Proofs.YtjdkedmdeajmgaaDoor.Sh
open Go.RowKit Go.Proofs.YtjdkedmdeajmgaaDoorW.PrintWords Go.Proofs.YtjdkedmdeajmgaaDoorW.PrintLast Go.Proofs.YtjdkedmdeajmgaaDoorW.PrintMore
open Kd
def Tab (w : World) : Prop := ∀ j, j < Lib.deBruijn64tab.length → w.cell? ⟨0, j, none⟩ = some (.int .u8 (Lib.deBruijn64tab.getD j 0))
theorem Tab.below {w W : World} (hb : Below w.heap.size w W) (h : Tab w) : Tab W := fun j hj => (hb.cell (p := ⟨0, j, none⟩) (World.block_lt_of_cell? w _ (h j hj))).trans (h j hj)
theorem Tab.drewN {w : World} (h : Tab w) (n : Nat) : Tab (w.drewN n) := Tab.below (Zbr (Below.refl _ w) n) h
theorem Tab.drew {w : World} (h : Tab w) : Tab w.drew := Tab.below (Za1 (Below.refl _ w)) h
theorem tabW {w W : World} (h : Tab w) (hb : Below w.heap.size w W := by repeat (first | (with_reducible first | exact Zac.out (by assumption) | exact Below.refl _ _ | apply Zbm | apply Zbr | apply Za1 | refine Za9 ?_ (Zac.out (by assumption))) | exact Zac.out (by assumption))) : Tab W := Tab.below hb h
end Go.Proofs.YtjdkedmdeajmgaaDoor.Sh
end M1
section M2
namespace Go.Proofs.YtjdkedmdeajmgaaDoor.P
open Go.RowKit Go.Proofs.YtjdkedmdeajmgaaDoor.Sh Go.Proofs.YtjdkedmdeajmgaaDoorW.PrintWords Go.Proofs.YtjdkedmdeajmgaaDoorW.PrintLast Go.Proofs.YtjdkedmdeajmgaaDoorW.PrintMore
open Kd
attribute [local go_sem] Zcf Zch Zcv Zcu Zb6 Zb7 Zcg Zce   -- for this text's walks alone
set_option linter.unusedVariables false
set_option linter.unusedSimpArgs false
def errW : Option Int → Value
  | none => .nilIface
  | some c => .iface 0 (.int .i64 c)
theorem errW_none : errW none = .nilIface := rfl
theorem errW_some (c : Int) : errW (some c) = .iface 0 (.int .i64 c) := rfl
theorem Zci : (Tryd.prog.info? 2).map (fun i => (i.zero, i.size, i.bytes)) = some (some (.int .i64 0), 1, 8) := by kernel_rfl
theorem info4 : (Tryd.prog.info? 4).map (fun i => (i.zero, i.size, i.bytes)) = some (some (.bool false), 1, 1) := by kernel_rfl
theorem info5 : (Tryd.prog.info? 5).map (fun i => (i.zero, i.size, i.bytes)) = some (some (.int .u8 0), 1, 1) := by kernel_rfl
theorem info22 : (Tryd.prog.info? 22).map (fun i => (i.zero, i.size, i.bytes)) = some (some (.slice none 0 0), 1, 24) := by kernel_rfl
-- the values' own types
def Zam (xs : List (List Int)) (i : Int) : (List Int) := xs.getD i.toNat ([] : List Int)
theorem at_L3 {w : World} {A : Option Addr} {n : Nat} {xs : List (List Int)} (h : Kd.C (Kd.slice 2 (Kd.int .i64)) w A n xs) (i : Int) (h0 : 0 ≤ i) (h1 : i < n) : ∃ ad A0 c0, A = some ad ∧ w.cell? (ad.add i.toNat) = some (.slice A0 (Zam xs i).length c0) ∧ (Zam xs i).length ≤ c0 ∧ (Kd.int .i64).C w A0 (Zam xs i).length (Zam xs i) := by
  obtain ⟨ad, c, e, _, hK, a⟩ := Kd.C_get h ([] : List Int) i h0 h1
  have hc : ∀ j u, c[j]? = some u → w.cell? (ad.add (i.toNat * 1 + j)) = some u := a
  obtain ⟨A0, c0, rfl, l0, g0⟩ := hK
  exact ⟨ad, A0, c0, e, by have hq := hc 0 _ rfl; rwa [Nat.mul_one, Nat.add_zero] at hq, l0, g0⟩
end Go.Proofs.YtjdkedmdeajmgaaDoor.P
end M2
section M3
namespace Go.Proofs.YtjdkedmdeajmgaaDoor.P
open Go.RowKit Go.Proofs.YtjdkedmdeajmgaaDoor.Sh Go.Proofs.YtjdkedmdeajmgaaDoorW.PrintWords Go.Proofs.YtjdkedmdeajmgaaDoorW.PrintLast Go.Proofs.YtjdkedmdeajmgaaDoorW.PrintMore
open Kd
attribute [local go_sem] Zcf Zch Zcv Zcu Zb6 Zb7 Zcg Zce   -- for this text's walks alone
set_option linter.unusedVariables false
set_option linter.unusedSimpArgs false
def Zdi.f (l0 : List Int) (a1 : Int) : Option (Int) := if (wrap64 (a1 - (l0.length : Int))) < 0 then (some (-1)) else (some (wrap64 (a1 - (l0.length : Int))))
theorem Zdi.calls (A0 : Option Addr) (c0 : Nat) (l0 : List Int) (a1 : Int) (r : Int) (w : World) (a : Kd.C (Kd.int .i64) w A0 l0.length l0) (b : l0.length ≤ c0) (h : Zdi.f l0 a1 = some r) :
  Calls Tryd.prog 39 #[.slice A0 l0.length c0, .int .i64 a1] w fun e w' => e = .returned (.int .i64 r) ∧ Zaw w w' := by
 have d := mA a
 have g := mA b
 clear a b
 unfold Zdi.f at h
 have H := h
 clear h
 by_cases c3 : (wrap64 (a1 - (l0.length : Int))) < 0
 ·rw [if_pos c3] at H
  have c := dT c3
  clear c3
  obtain rfl := oI H
  go_enter Tryd.func39, Tryd.ntmps39
  go_wp2
  go_ret
  exact ⟨eW, by repeat (first | exact Zaw.refl _ | apply Zaw.step)⟩
 ·rw [if_neg c3] at H
  have c := dF c3
  clear c3
  obtain rfl := oI H
  go_enter Tryd.func39, Tryd.ntmps39
  go_wp2
  go_ret
  exact ⟨eW, by repeat (first | exact Zaw.refl _ | apply Zaw.step)⟩
def Zc4.f (c : Int) (b : List Int) (a1 : Int) : Option (Int) := (Zdi.f b a1).bind fun a => (if a < 0 then (some (-1)) else (some a))
theorem Zc4.calls (g : Int) (c : Option Addr) (d : Nat) (a : List Int) (a1 : Int) (r : Int) (w : World) (j : Kd.C (Kd.int .i64) w c a.length a) (k : a.length ≤ d) (h : Zc4.f g a a1 = some r) :
  Calls Tryd.prog 9 #[.agg #[.int .i64 g, .slice c a.length d], .int .i64 a1] w fun e w' => e = .returned (.int .i64 r) ∧ Below w.heap.size w w' := by
 have D := Tryd.underlying24
 have l := mA j
 have m := mA k
 clear j k
 have HB := mA (Below.refl w.heap.size w)
 unfold Zc4.f at h
 have H := h
 clear h
 obtain ⟨i, A3, H⟩ := bA H
 by_cases c4 : i < 0
 ·rw [if_pos c4] at H
  have q := dT c4
  clear c4
  obtain rfl := oI H
  go_enter Tryd.func9, Tryd.ntmps9
  go_wp2_with (first | ((with_reducible refine Zat (N := 2) rfl ?_); refine boxS (N := 2) (cs := #[.int .i64 g, .slice c a.length d]) (t := 24) ?_; intro n hg w5 hbox hb; have b := mA (hbox); have o := geW (w := w) hg; have p := geW (w := w) hg; replace HB := mA (Zaf (bW) hb); clear hb hbox hg; obtain ⟨s, u⟩ := Zcj b.out; obtain ⟨v, x⟩ := frz2 b.out) | ((with_reducible refine Zax (f := 39) rfl ?_); refine Zbi (some 8) Tryd.func39 #[.slice c a.length d, .int .i64 a1] ?_; (with_reducible refine (Zdi.calls _ _ a a1 i _ ?side1 ?side2 A3.out).mono ?_); (case side1 => exact cP (zQ l.out HB.out)); (case side2 => exact m.out); rintro e w' ⟨rfl, ⟨nd, rfl⟩⟩; refine ⟨_, rfl, ?_⟩))
  go_ret
  exact ⟨eW, bW⟩
 rw [if_neg c4] at H
 have q := dF c4
 clear c4
 obtain rfl := oI H
 go_enter Tryd.func9, Tryd.ntmps9
 go_wp2_with (first | ((with_reducible refine Zat (N := 2) rfl ?_); refine boxS (N := 2) (cs := #[.int .i64 g, .slice c a.length d]) (t := 24) ?_; intro n hg w7 hbox hb; have b := mA (hbox); have o := geW (w := w) hg; have p := geW (w := w) hg; replace HB := mA (Zaf (bW) hb); clear hb hbox hg; obtain ⟨y, z⟩ := Zcj b.out; obtain ⟨A, B⟩ := frz2 b.out) | ((with_reducible refine Zax (f := 39) rfl ?_); refine Zbi (some 8) Tryd.func39 #[.slice c a.length d, .int .i64 a1] ?_; (with_reducible refine (Zdi.calls _ _ a a1 i _ ?side1 ?side2 A3.out).mono ?_); (case side1 => exact cP (zQ l.out HB.out)); (case side2 => exact m.out); rintro e w' ⟨rfl, ⟨nd, rfl⟩⟩; refine ⟨_, rfl, ?_⟩))
 go_ret
 exact ⟨eW, bW⟩
def Za5.f (a0 : Int) (a1 : Int) : Option (Bool) := if 0 ≤ (IntKind.u64.wrap (a1)) then (some ((Go.bits .and .i64 (shr .i64 a0 (IntKind.u64.wrap (a1))) 1) == 1)) else (none)
theorem Za5.calls (a0 : Int) (a1 : Int) (r : Bool) (w : World) (h : Za5.f a0 a1 = some r) :
  Calls Tryd.prog 43 #[.int .i64 a0, .int .i64 a1] w fun e w' => e = .returned (.bool r) ∧ Zaw w w' := by
 unfold Za5.f at h
 have H := h
 clear h
 obtain ⟨a, c⟩ : ∃ j_ : Int, (IntKind.u64.wrap (a1)) = j_ := ⟨_, rfl⟩
 replace H : (if 0 ≤ (a) then (some ((Go.bits .and .i64 (shr .i64 a0 (a)) 1) == 1)) else (none)) = some r := by first | (rw [c] at H; exact H) | (simp only [c] at H ⊢; exact H)
 by_cases c4 : 0 ≤ (a); rotate_left
 ·rw [if_neg c4] at H
  exact absurd H (by simp)
 rw [if_pos c4] at H
 have j := eq_true c4
 have k := dT c4
 clear c4
 obtain ⟨d, b⟩ : ∃ j_ : Int, (shr .i64 a0 (a)) = j_ := ⟨_, rfl⟩
 replace H : (some ((Go.bits .and .i64 (d) 1) == 1)) = some r := by first | (rw [b] at H; exact H) | (simp only [b] at H ⊢; exact H)
 have g : (a0 / 2 ^ min (a).toNat 64) = d := b
 have i : (a) ≤ 64 → (a0 / 2 ^ (a).toNat) = d := shr_small b
 obtain rfl := oI H
 go_enter Tryd.func43, Tryd.ntmps43
 go_wp2
 go_ret
 exact ⟨by first | rfl | (simp; done) | (simp only [← c, ← b] <;> (first | rfl | simp)) | (simp [*]; done), by repeat (first | exact Zaw.refl _ | apply Zaw.step)⟩
def Zbz.f (a0 : Int) (a1 : Int) (a2 : Int) : Option (Bool) := if a0 ≥ a1 then (some (decide (a0 ≤ a2))) else (some false)
theorem Zbz.calls (a0 : Int) (a1 : Int) (a2 : Int) (r : Bool) (w : World) (h : Zbz.f a0 a1 a2 = some r) :
  Calls Tryd.prog 80 #[.int .i64 a0, .int .i64 a1, .int .i64 a2] w fun e w' => e = .returned (.bool r) ∧ Zaw w w' := by
 unfold Zbz.f at h
 have H := h
 clear h
 by_cases c4 : a0 ≥ a1
 ·rw [if_pos c4] at H
  have a : decide (a1 ≤ a0) = true := dT c4
  clear c4
  obtain rfl := oI H
  go_enter Tryd.func80, Tryd.ntmps80
  go_wp2
  go_ret
  exact ⟨eW, by repeat (first | exact Zaw.refl _ | apply Zaw.step)⟩
 ·rw [if_neg c4] at H
  have a : decide (a1 ≤ a0) = false := dF c4
  clear c4
  obtain rfl := oI H
  go_enter Tryd.func80, Tryd.ntmps80
  go_wp2
  go_ret
  exact ⟨eW, by repeat (first | exact Zaw.refl _ | apply Zaw.step)⟩
def Zcd.f (a0 : Int) : Option (Int) := if 0 ≤ (IntKind.u64.wrap (a0)) then (some (shl .i64 1 (IntKind.u64.wrap (a0)))) else (none)
theorem Zcd.calls (a0 : Int) (r : Int) (w : World) (h : Zcd.f a0 = some r) :
  Calls Tryd.prog 88 #[.int .i64 a0] w fun e w' => e = .returned (.int .i64 r) ∧ Zaw w w' := by
 unfold Zcd.f at h
 have H := h
 clear h
 obtain ⟨a, d⟩ : ∃ j_ : Int, (IntKind.u64.wrap (a0)) = j_ := ⟨_, rfl⟩
 replace H : (if 0 ≤ (a) then (some (shl .i64 1 (a))) else (none)) = some r := by first | (rw [d] at H; exact H) | (simp only [d] at H ⊢; exact H)
 by_cases c3 : 0 ≤ (a); rotate_left
 ·rw [if_neg c3] at H
  exact absurd H (by simp)
 rw [if_pos c3] at H
 have n := eq_true c3
 have o := dT c3
 clear c3
 obtain ⟨b, c⟩ : ∃ j_ : Int, (shl .i64 1 (a)) = j_ := ⟨_, rfl⟩
 replace H : (some b) = some r := by first | (rw [c] at H; exact H) | (simp only [c] at H ⊢; exact H)
 have g : (IntKind.i64.wrap (1 * 2 ^ min (a).toNat 64)) = b := c
 have i : (a) ≤ 64 → (IntKind.i64.wrap (1 * 2 ^ (a).toNat)) = b := shl_small c
 have j : (IntKind.i64.wrap (2 ^ min (a).toNat 64)) = b := by have h_ := g; rw [Int.one_mul] at h_; exact h_
 have k : (a) ≤ 64 → (IntKind.i64.wrap (2 ^ (a).toNat)) = b := fun hle_ => by have h_ := i hle_; rw [Int.one_mul] at h_; exact h_
 have l : (wrap64 (1 * 2 ^ min (a).toNat 64)) = b := (Zcq _).symm.trans g
 have m : (a) ≤ 64 → (wrap64 (1 * 2 ^ (a).toNat)) = b := fun h_ => (Zcq _).symm.trans (i h_)
 obtain rfl := oI H
 go_enter Tryd.func88, Tryd.ntmps88
 go_wp2
 go_ret
 exact ⟨by first | rfl | (simp; done) | (simp only [← d, ← c] <;> (first | rfl | simp)) | (simp [*]; done), by repeat (first | exact Zaw.refl _ | apply Zaw.step)⟩
def Zco.f (a0 : Int) : Option (Int) := (Zcd.f a0).bind fun a => (some (wrap64 (a - 1)))
theorem Zco.calls (a0 : Int) (r : Int) (w : World) (h : Zco.f a0 = some r) :
  Calls Tryd.prog 139 #[.int .i64 a0] w fun e w' => e = .returned (.int .i64 r) ∧ Zaw w w' := by
 unfold Zco.f at h
 have H := h
 clear h
 obtain ⟨a, A2, H⟩ := bA H
 obtain rfl := oI H
 go_enter Tryd.func139, Tryd.ntmps139
 go_wp2_with (first | ((with_reducible refine Zax (f := 88) rfl ?_); refine Zbi (some 4) Tryd.func88 #[.int .i64 a0] ?_; (with_reducible refine (Zcd.calls a0 a _ A2.out).mono ?_); rintro e w' ⟨rfl, ⟨nd, rfl⟩⟩; refine ⟨_, rfl, ?_⟩))
 go_ret
 exact ⟨eW, by repeat (first | exact Zaw.refl _ | apply Zaw.step)⟩
def Zbu.l0 : Nat → Int → List Int → Int → Option (Bool)
 | 0, _, _, _ => none
 | k + 1, x0, x1, x5 => if x5 < (x1.length : Int) then (if 0 ≤ x5 then ((Zco.f x0).bind fun a => ((Zbz.f (rd x1 x5) 0 a).bind fun b => (if b = true then (Zbu.l0 k x0 x1 (wrap64 (x5 + 1))) else (some false)))) else (none)) else (some true)
def Zbu.f (k : Nat) (a0 : Int) (l1 : List Int) : Option (Bool) := Zbu.l0 k a0 l1 0
theorem Zbu.calls (k : Nat) (a0 : Int) (A1 : Option Addr) (c1 : Nat) (l1 : List Int) (r : Bool) (w : World) (l : Kd.C (Kd.int .i64) w A1 l1.length l1) (m : l1.length ≤ c1) (h : Zbu.f k a0 l1 = some r) :
  Calls Tryd.prog 112 #[.int .i64 a0, .slice A1 l1.length c1] w fun e w' => e = .returned (.bool r) ∧ Zaw w w' := by
 have n := mA l
 have s := mA m
 clear l m
 unfold Zbu.f at h
 have H := h
 clear h
 have H' := mA H
 clear H
 go_enter Tryd.func112, Tryd.ntmps112
 go_wp2
 repeat (go_quiet (fail); try go_wp2)
 go_loopg [5] k (fun kq v5 w' => ∃ (a : Int), v5 = .int .i64 a ∧ Zac (Zbu.l0 kq a0 l1 a = some r) ∧ Zac (kq ≤ k) ∧ Zaw w w')
 case atStart => exact ⟨(0), (eW), H', ⟨Nat.le_refl _⟩, by repeat (first | exact Zaw.refl _ | apply Zaw.step)⟩
 case round =>
  clear H'
  try clear c1
  try clear p2
  obtain ⟨a, rfl, HA, HK1, ⟨m1, rfl⟩⟩ := hrel
  cases gk with
  | zero => exact absurd HA.out (by simp [Zbu.l0])
  | succ k1 =>
   have H := HA.out
   clear HA
   simp only [Zbu.l0] at H
   by_cases c3 : a < (l1.length : Int); rotate_left
   ·rw [if_neg c3] at H
    have o := dF c3
    clear c3
    obtain rfl := oI H
    go_wp2
    repeat (go_quiet (fail); try go_wp2)
    go_ret
    exact ⟨eW, by repeat (first | exact Zaw.refl _ | apply Zaw.step)⟩
   rw [if_pos c3] at H
   have o := dT c3
   clear c3
   obtain ⟨q, H⟩ := gE H
   obtain ⟨b, A5, H⟩ := bA H
   obtain ⟨p, A6, H⟩ := bA H
   by_cases c7 : p = true; rotate_left
   ·replace c7 := Bool.eq_false_iff.mpr c7
    subst c7
    rw [iF] at H
    obtain rfl := oI H
    have c : 0 ≤ (a : Int) := ofD
    have d : a < (l1.length : Int) := ofD
    obtain ⟨j, g, i⟩ := zO n.out a c d
    cases g
    replace c := eq_true c
    replace d := eq_true d
    go_wp2_with (first | (go_at_call 139; (with_reducible refine (Zco.calls a0 b _ A5.out).mono ?_); rintro e w' ⟨rfl, ⟨nd, rfl⟩⟩; (try first | exact dwD | exact dwE)) | (go_at_call 80; (with_reducible refine (Zbz.calls (rd l1 a) 0 b false _ A6.out).mono ?_); rintro e w' ⟨rfl, ⟨nd, rfl⟩⟩; (try first | exact dwD | exact dwE)))
    repeat (go_quiet (first | (go_at_call 139; (with_reducible refine (Zco.calls a0 b _ A5.out).mono ?_); rintro e w' ⟨rfl, ⟨nd, rfl⟩⟩; (try first | exact dwD | exact dwE)) | (go_at_call 80; (with_reducible refine (Zbz.calls (rd l1 a) 0 b false _ A6.out).mono ?_); rintro e w' ⟨rfl, ⟨nd, rfl⟩⟩; (try first | exact dwD | exact dwE))); try go_wp2_with (first | (go_at_call 139; (with_reducible refine (Zco.calls a0 b _ A5.out).mono ?_); rintro e w' ⟨rfl, ⟨nd, rfl⟩⟩; (try first | exact dwD | exact dwE)) | (go_at_call 80; (with_reducible refine (Zbz.calls (rd l1 a) 0 b false _ A6.out).mono ?_); rintro e w' ⟨rfl, ⟨nd, rfl⟩⟩; (try first | exact dwD | exact dwE))))
    go_ret
    exact ⟨eW, by repeat (first | exact Zaw.refl _ | apply Zaw.step)⟩
   subst c7
   rw [if_pos rfl] at H
   have H' := mA H
   clear H
   have c : 0 ≤ (a : Int) := ofD
   have d : a < (l1.length : Int) := ofD
   obtain ⟨j, g, i⟩ := zO n.out a c d
   cases g
   replace c := eq_true c
   replace d := eq_true d
   go_wp2_with (first | (go_at_call 139; (with_reducible refine (Zco.calls a0 b _ A5.out).mono ?_); rintro e w' ⟨rfl, ⟨nd, rfl⟩⟩; (try first | exact dwD | exact dwE)) | (go_at_call 80; (with_reducible refine (Zbz.calls (rd l1 a) 0 b true _ A6.out).mono ?_); rintro e w' ⟨rfl, ⟨nd, rfl⟩⟩; (try first | exact dwD | exact dwE)))
   repeat (go_quiet (first | (go_at_call 139; (with_reducible refine (Zco.calls a0 b _ A5.out).mono ?_); rintro e w' ⟨rfl, ⟨nd, rfl⟩⟩; (try first | exact dwD | exact dwE)) | (go_at_call 80; (with_reducible refine (Zbz.calls (rd l1 a) 0 b true _ A6.out).mono ?_); rintro e w' ⟨rfl, ⟨nd, rfl⟩⟩; (try first | exact dwD | exact dwE))); try go_wp2_with (first | (go_at_call 139; (with_reducible refine (Zco.calls a0 b _ A5.out).mono ?_); rintro e w' ⟨rfl, ⟨nd, rfl⟩⟩; (try first | exact dwD | exact dwE)) | (go_at_call 80; (with_reducible refine (Zbz.calls (rd l1 a) 0 b true _ A6.out).mono ?_); rintro e w' ⟨rfl, ⟨nd, rfl⟩⟩; (try first | exact dwD | exact dwE))))
   go_roundg k1
   case measure => have := HK1.out; omega
   case rel => exact ⟨(wrap64 (a + 1)), (eW), H', ⟨by have := HK1.out; omega⟩, by repeat (first | exact Zaw.refl _ | apply Zaw.step)⟩
mutual
def Za7.j0 : Nat → Bool → Int → List Int → Option (Bool)
 | 0, _, _, _ => none
 | k + 1, c, a, b => if c = true then (some false) else (Za7.l0 k 0 a b)
def Za7.l0 : Nat → Int → Int → List Int → Option (Bool)
 | 0, _, _, _ => none
 | k + 1, x3, b, a => if x3 < b then (if 0 ≤ x3 then (if x3 < (a.length : Int) then ((Za5.f (rd a x3) x3).bind fun c => (if c = true then (Za7.l1 k x3 0 b a) else (some false))) else (none)) else (none)) else (some true)
def Za7.l1 : Nat → Int → Int → Int → List Int → Option (Bool)
 | 0, _, _, _, _ => none
 | k + 1, x3, x4, b, a => if x4 < b then (if 0 ≤ x3 then (if x3 < (a.length : Int) then ((Za5.f (rd a x3) x4).bind fun c => (if 0 ≤ x4 then (if x4 < (a.length : Int) then ((Za5.f (rd a x4) x3).bind fun d => (if (c != d) = true then (some false) else (Za7.l1 k x3 (wrap64 (x4 + 1)) b a))) else (none)) else (none))) else (none)) else (none)) else (Za7.l0 k (wrap64 (x3 + 1)) b a)
end
def Za7.f (k : Nat) (a : Int) (b : List Int) : Option (Bool) := (Zbz.f a 0 8).bind fun c => (if c = true then (if (b.length : Int) = a then ((Zbu.f k a b).bind fun d => (Za7.j0 k (!d) a b)) else (Za7.j0 k true a b)) else (Za7.j0 k true a b))
theorem Za7.calls (k : Nat) (g : Int) (x : Option Addr) (n : Nat) (b : List Int) (r : Bool) (w : World) (aa : Kd.C (Kd.int .i64) w x b.length b) (ab : b.length ≤ n) (h : Za7.f k g b = some r) :
  Calls Tryd.prog 55 #[.agg #[.int .i64 g, .slice x b.length n]] w fun e w' => e = .returned (.bool r) ∧ Below w.heap.size w w' := by
 have bd := Tryd.underlying30
 have o := mA aa
 have T := mA ab
 clear aa ab
 have HB := mA (Below.refl w.heap.size w)
 unfold Za7.f at h
 have H := h
 clear h
 have ao := mA H
 clear H
 go_enter Tryd.func55, Tryd.ntmps55
 go_upto_region 1 with (first | ((with_reducible refine Zat (N := 1) rfl ?_); (try (refine gate_guard (by rfl) ?_; dsimp only)); refine boxS (N := 1) (cs := #[.int .i64 g, .slice x b.length n]) (t := 30) ?_; intro j hg w3 hbox hb; have a := mA (hbox); have ac := geW (w := w) hg; have ad := geW (w := w) hg; replace HB := mA (Zaf (bW) hb); clear hb hbox hg))
 repeat (go_quiet (first | ((with_reducible refine Zat (N := 1) rfl ?_); (try (refine gate_guard (by rfl) ?_; dsimp only)); refine boxS (N := 1) (cs := #[.int .i64 g, .slice x b.length n]) (t := 30) ?_; intro j hg w3 hbox hb; have a := mA (hbox); have ac := geW (w := w) hg; have ad := geW (w := w) hg; replace HB := mA (Zaf (bW) hb); clear hb hbox hg)); go_upto_region 1 with (first | ((with_reducible refine Zat (N := 1) rfl ?_); (try (refine gate_guard (by rfl) ?_; dsimp only)); refine boxS (N := 1) (cs := #[.int .i64 g, .slice x b.length n]) (t := 30) ?_; intro j hg w3 hbox hb; have a := mA (hbox); have ac := geW (w := w) hg; have ad := geW (w := w) hg; replace HB := mA (Zaf (bW) hb); clear hb hbox hg)))
 (try simp only [Act.put, List.setIfInBounds_toArray, List.set_cons_zero, List.set_cons_succ])
 go_cut [24] (fun v24 wc => ∃ (kq : Nat) (I : Bool), v24 = .bool I ∧ Zac (Za7.j0 kq I g b = some r) ∧ Zac (kq ≤ k) ∧ Zac (wc.heap[j]? = some (.cells #[.int .i64 g, (.slice x b.length n)] 30 (0, 0))) ∧ Zac (Below w.heap.size w wc))
 case first =>
  have H := ao.out
  clear ao
  obtain ⟨ay, A4, H⟩ := bA H
  by_cases c5 : ay = true; rotate_left
  ·replace c5 := Bool.eq_false_iff.mpr c5
   subst c5
   rw [iF] at H
   have H' := mA H
   clear H
   have aB : w3.cell? ⟨j, 0, none⟩ = some (.int .i64 g) := bc a 0
   have aC : w3.cell? ⟨j, 1, none⟩ = some (.slice x b.length n) := bc a 1
   have aD := Zae a.out 0
   have aE := Zae a.out 1
   go_wp2_with (first | (go_at_call 80; (with_reducible refine (Zbz.calls g 0 8 false _ A4.out).mono ?_); rintro e w' ⟨rfl, ⟨nd, rfl⟩⟩; (try first | exact dwD | exact dwE)))
   repeat (go_quiet (first | (go_at_call 80; (with_reducible refine (Zbz.calls g 0 8 false _ A4.out).mono ?_); rintro e w' ⟨rfl, ⟨nd, rfl⟩⟩; (try first | exact dwD | exact dwE))); try go_wp2_with (first | (go_at_call 80; (with_reducible refine (Zbz.calls g 0 8 false _ A4.out).mono ?_); rintro e w' ⟨rfl, ⟨nd, rfl⟩⟩; (try first | exact dwD | exact dwE))))
   go_meet
   case rel => exact ⟨_, (true), (eW), H', ⟨by first | omega | exact Nat.le_refl _⟩, ⟨bP a.out⟩, ⟨bW⟩⟩
  subst c5
  rw [if_pos rfl] at H
  by_cases c6 : (b.length : Int) = g; rotate_left
  ·rw [if_neg c6] at H
   have J : ((b.length : Int) == g) = false := beq_eq_false_iff_ne.mpr c6
   have az : ((b.length : Int) != g) = true := bne_iff_ne.mpr c6
   (first | rw [J] | (simp only [Zcq, i32_w]; rw [J]) | skip)
   have H' := mA H
   clear H
   have aZ : w3.cell? ⟨j, 0, none⟩ = some (.int .i64 g) := bc a 0
   have a0 : w3.cell? ⟨j, 1, none⟩ = some (.slice x b.length n) := bc a 1
   have a1 := Zae a.out 0
   have a2 := Zae a.out 1
   go_wp2_with (first | (go_at_call 80; (with_reducible refine (Zbz.calls g 0 8 true _ A4.out).mono ?_); rintro e w' ⟨rfl, ⟨nd, rfl⟩⟩; (try first | exact dwD | exact dwE)))
   repeat (go_quiet (first | (go_at_call 80; (with_reducible refine (Zbz.calls g 0 8 true _ A4.out).mono ?_); rintro e w' ⟨rfl, ⟨nd, rfl⟩⟩; (try first | exact dwD | exact dwE))); try go_wp2_with (first | (go_at_call 80; (with_reducible refine (Zbz.calls g 0 8 true _ A4.out).mono ?_); rintro e w' ⟨rfl, ⟨nd, rfl⟩⟩; (try first | exact dwD | exact dwE))))
   go_meet
   case rel => exact ⟨_, (true), (eW), H', ⟨by first | omega | exact Nat.le_refl _⟩, ⟨bP a.out⟩, ⟨bW⟩⟩
  rw [if_pos c6] at H
  have J : ((b.length : Int) == g) = true := beq_iff_eq.mpr c6
  have az : ((b.length : Int) != g) = false := bne_eq_false_iff_eq.mpr c6
  clear c6
  (first | rw [J] | (simp only [Zcq, i32_w]; rw [J]) | skip)
  obtain ⟨U, A7, H⟩ := bA H
  have H' := mA H
  clear H
  have a3 : w3.cell? ⟨j, 0, none⟩ = some (.int .i64 g) := bc a 0
  have a4 : w3.cell? ⟨j, 1, none⟩ = some (.slice x b.length n) := bc a 1
  have a5 := Zae a.out 0
  have a6 := Zae a.out 1
  go_wp2_with (first | (go_at_call 80; (with_reducible refine (Zbz.calls g 0 8 true _ A4.out).mono ?_); rintro e w' ⟨rfl, ⟨nd, rfl⟩⟩; (try first | exact dwD | exact dwE)) | (go_at_call 112; (with_reducible refine (Zbu.calls k g _ _ b U _ ?side1 ?side2 A7.out).mono ?_); (case side1 => exact cP (zQ o.out (bW))); (case side2 => exact T.out); rintro e w' ⟨rfl, ⟨nd, rfl⟩⟩; (try first | exact dwD | exact dwE)))
  repeat (go_quiet (first | (go_at_call 80; (with_reducible refine (Zbz.calls g 0 8 true _ A4.out).mono ?_); rintro e w' ⟨rfl, ⟨nd, rfl⟩⟩; (try first | exact dwD | exact dwE)) | (go_at_call 112; (with_reducible refine (Zbu.calls k g _ _ b U _ ?side1 ?side2 A7.out).mono ?_); (case side1 => exact cP (zQ o.out (bW))); (case side2 => exact T.out); rintro e w' ⟨rfl, ⟨nd, rfl⟩⟩; (try first | exact dwD | exact dwE))); try go_wp2_with (first | (go_at_call 80; (with_reducible refine (Zbz.calls g 0 8 true _ A4.out).mono ?_); rintro e w' ⟨rfl, ⟨nd, rfl⟩⟩; (try first | exact dwD | exact dwE)) | (go_at_call 112; (with_reducible refine (Zbu.calls k g _ _ b U _ ?side1 ?side2 A7.out).mono ?_); (case side1 => exact cP (zQ o.out (bW))); (case side2 => exact T.out); rintro e w' ⟨rfl, ⟨nd, rfl⟩⟩; (try first | exact dwD | exact dwE))))
  go_meet
  case rel => exact ⟨_, (!U), (eW), H', ⟨by first | omega | exact Nat.le_refl _⟩, ⟨bP a.out⟩, ⟨bW⟩⟩
 case rest =>
  clear ao
  obtain ⟨kq, I, rfl, HA, ae, a, HB⟩ := hcut
  cases kq with
  | zero => exact absurd HA.out (by simp [Za7.j0])
  | succ ax =>
   have H := HA.out
   clear HA
   simp only [Za7.j0] at H
   by_cases af : I = true
   ·subst af
    rw [if_pos rfl] at H
    obtain rfl := oI H
    go_wp2
    repeat (go_quiet (fail); try go_wp2)
    go_ret
    exact ⟨eW, bW⟩
   replace af := Bool.eq_false_iff.mpr af
   subst af
   rw [iF] at H
   have H' := mA H
   clear H
   go_wp2
   repeat (go_quiet (fail); try go_wp2)
   go_loopg [3] ax (fun kq v3 w' => ∃ (c : Int), v3 = .int .i64 c ∧ Zac (Za7.l0 kq c g b = some r) ∧ Zac (kq ≤ ax) ∧ Zac (w'.heap[j]? = some (.cells #[.int .i64 g, (.slice x b.length n)] 30 (0, 0))) ∧ Zac (Below w.heap.size w w'))
   case atStart => exact ⟨(0), (eW), H', ⟨Nat.le_refl _⟩, ⟨bP a.out⟩, ⟨bW⟩⟩
   case round =>
    clear H'
    obtain ⟨c, rfl, HA, ag, a, HB⟩ := hrel
    cases gk with
    | zero => exact absurd HA.out (by simp [Za7.l0])
    | succ k2 =>
     have H := HA.out
     clear HA
     simp only [Za7.l0] at H
     by_cases K : c < g; rotate_left
     ·rw [if_neg K] at H
      have ah := dF K
      clear K
      obtain rfl := oI H
      have aF : wr.cell? ⟨j, 0, none⟩ = some (.int .i64 g) := bc a 0
      have aG : wr.cell? ⟨j, 1, none⟩ = some (.slice x b.length n) := bc a 1
      have aH := Zae a.out 0
      have aI := Zae a.out 1
      go_wp2
      repeat (go_quiet (fail); try go_wp2)
      go_ret
      exact ⟨eW, bW⟩
     rw [if_pos K] at H
     have ah := dT K
     clear K
     obtain ⟨ap, H⟩ := gE H
     obtain ⟨aq, H⟩ := gE H
     obtain ⟨aA, L, H⟩ := bA H
     by_cases ai : aA = true; rotate_left
     ·replace ai := Bool.eq_false_iff.mpr ai
      subst ai
      rw [iF] at H
      obtain rfl := oI H
      have aJ : wr.cell? ⟨j, 0, none⟩ = some (.int .i64 g) := bc a 0
      have aK : wr.cell? ⟨j, 1, none⟩ = some (.slice x b.length n) := bc a 1
      have aL := Zae a.out 0
      have aM := Zae a.out 1
      have A : 0 ≤ (c : Int) := ofD
      have B : c < (b.length : Int) := ofD
      obtain ⟨p, X, q⟩ := zO o.out c A B
      cases X
      replace q := (HB.out.cell (wB w q)).trans q
      replace A := eq_true A
      replace B := eq_true B
      go_wp2_with (first | (go_at_call 43; (with_reducible refine (Za5.calls (rd b c) c false _ L.out).mono ?_); rintro e w' ⟨rfl, ⟨nd, rfl⟩⟩; (try first | exact dwD | exact dwE)))
      repeat (go_quiet (first | (go_at_call 43; (with_reducible refine (Za5.calls (rd b c) c false _ L.out).mono ?_); rintro e w' ⟨rfl, ⟨nd, rfl⟩⟩; (try first | exact dwD | exact dwE))); try go_wp2_with (first | (go_at_call 43; (with_reducible refine (Za5.calls (rd b c) c false _ L.out).mono ?_); rintro e w' ⟨rfl, ⟨nd, rfl⟩⟩; (try first | exact dwD | exact dwE))))
      go_ret
      exact ⟨eW, bW⟩
     subst ai
     rw [if_pos rfl] at H
     have H' := mA H
     clear H
     have ak : wr.cell? ⟨j, 0, none⟩ = some (.int .i64 g) := bc a 0
     have al : wr.cell? ⟨j, 1, none⟩ = some (.slice x b.length n) := bc a 1
     have am := Zae a.out 0
     have an := Zae a.out 1
     have A : 0 ≤ (c : Int) := ofD
     have B : c < (b.length : Int) := ofD
     obtain ⟨p, X, q⟩ := zO o.out c A B
     cases X
     replace q := (HB.out.cell (wB w q)).trans q
     replace A := eq_true A
     replace B := eq_true B
     go_wp2_with (first | (go_at_call 43; (with_reducible refine (Za5.calls (rd b c) c true _ L.out).mono ?_); rintro e w' ⟨rfl, ⟨nd, rfl⟩⟩; (try first | exact dwD | exact dwE)))
     repeat (go_quiet (first | (go_at_call 43; (with_reducible refine (Za5.calls (rd b c) c true _ L.out).mono ?_); rintro e w' ⟨rfl, ⟨nd, rfl⟩⟩; (try first | exact dwD | exact dwE))); try go_wp2_with (first | (go_at_call 43; (with_reducible refine (Za5.calls (rd b c) c true _ L.out).mono ?_); rintro e w' ⟨rfl, ⟨nd, rfl⟩⟩; (try first | exact dwD | exact dwE))))
     go_loopg [4] k2 (fun kq v4 w' => ∃ (i : Int), v4 = .int .i64 i ∧ Zac (Za7.l1 kq c i g b = some r) ∧ Zac (kq ≤ k2) ∧ Zac (w'.heap[j]? = some (.cells #[.int .i64 g, (.slice (some p) b.length n)] 30 (0, 0))) ∧ Zac (Below w.heap.size w w'))
     case atStart => exact ⟨(0), (eW), H', ⟨Nat.le_refl _⟩, ⟨bP a.out⟩, ⟨bW⟩⟩
     case round =>
      clear H' ah ap aq ak al am an q A B
      obtain ⟨i, rfl, HA, aj, a, HB⟩ := hrel
      cases gk with
      | zero => exact absurd HA.out (by simp [Za7.l1])
      | succ k3 =>
       have H := HA.out
       clear HA
       simp only [Za7.l1] at H
       by_cases M : i < g; rotate_left
       ·rw [if_neg M] at H
        have ar := dF M
        clear M
        have H' := mA H
        clear H
        have aN : wr.cell? ⟨j, 0, none⟩ = some (.int .i64 g) := bc a 0
        have aO : wr.cell? ⟨j, 1, none⟩ = some (.slice (some p) b.length n) := bc a 1
        have aP := Zae a.out 0
        have aQ := Zae a.out 1
        go_wp2
        repeat (go_quiet (fail); try go_wp2)
        go_roundg k3
        case measure => have := ae.out; have := ag.out; have := aj.out; omega
        case rel => exact ⟨(wrap64 (c + 1)), (eW), H', ⟨by have := ae.out; have := ag.out; have := aj.out; omega⟩, ⟨bP a.out⟩, ⟨bW⟩⟩
       rw [if_pos M] at H
       have ar := dT M
       clear M
       obtain ⟨a7, H⟩ := gE H
       obtain ⟨a8, H⟩ := gE H
       obtain ⟨s, O, H⟩ := bA H
       obtain ⟨a9, H⟩ := gE H
       obtain ⟨ba, H⟩ := gE H
       obtain ⟨u, P, H⟩ := bA H
       by_cases D : (s != u) = true
       ·rw [if_pos D] at H
        have au : (s != u) = true := D
        (try (have av : decide (s = u) = false := by simpa using D))
        (try (have aw : (s == u) = false := by simpa using D))
        (try (have bb : ¬ (s = u) := by simpa using D))
        clear D
        obtain rfl := oI H
        have aR : wr.cell? ⟨j, 0, none⟩ = some (.int .i64 g) := bc a 0
        have aS : wr.cell? ⟨j, 1, none⟩ = some (.slice (some p) b.length n) := bc a 1
        have aT := Zae a.out 0
        have aU := Zae a.out 1
        have E : 0 ≤ (c : Int) := ofD
        have G : c < (b.length : Int) := ofD
        obtain ⟨W, Y, y⟩ := zO o.out c E G
        obtain rfl : p = W := (by injection Y)
        replace y := (HB.out.cell (wB w y)).trans y
        replace E := eq_true E
        replace G := eq_true G
        go_wp2_with (first | (go_at_call 43; (with_reducible refine (Za5.calls (rd b c) i s _ O.out).mono ?_); rintro e w' ⟨rfl, ⟨nd, rfl⟩⟩; (try first | exact dwD | exact dwE); have l : 0 ≤ (i : Int) := ofD; have m : i < (b.length : Int) := ofD; obtain ⟨v, z, d⟩ := zO o.out i l m; obtain rfl : p = v := (by injection z); replace d := (HB.out.cell (wB w d)).trans d; replace l := eq_true l; replace m := eq_true m) | (go_at_call 43; (with_reducible refine (Za5.calls (rd b i) c u _ P.out).mono ?_); rintro e w' ⟨rfl, ⟨nd, rfl⟩⟩; (try first | exact dwD | exact dwE)))
        repeat (go_quiet (first | (go_at_call 43; (with_reducible refine (Za5.calls (rd b c) i s _ O.out).mono ?_); rintro e w' ⟨rfl, ⟨nd, rfl⟩⟩; (try first | exact dwD | exact dwE); have l : 0 ≤ (i : Int) := ofD; have m : i < (b.length : Int) := ofD; obtain ⟨v, z, d⟩ := zO o.out i l m; obtain rfl : p = v := (by injection z); replace d := (HB.out.cell (wB w d)).trans d; replace l := eq_true l; replace m := eq_true m) | (go_at_call 43; (with_reducible refine (Za5.calls (rd b i) c u _ P.out).mono ?_); rintro e w' ⟨rfl, ⟨nd, rfl⟩⟩; (try first | exact dwD | exact dwE))); try go_wp2_with (first | (go_at_call 43; (with_reducible refine (Za5.calls (rd b c) i s _ O.out).mono ?_); rintro e w' ⟨rfl, ⟨nd, rfl⟩⟩; (try first | exact dwD | exact dwE); have l : 0 ≤ (i : Int) := ofD; have m : i < (b.length : Int) := ofD; obtain ⟨v, z, d⟩ := zO o.out i l m; obtain rfl : p = v := (by injection z); replace d := (HB.out.cell (wB w d)).trans d; replace l := eq_true l; replace m := eq_true m) | (go_at_call 43; (with_reducible refine (Za5.calls (rd b i) c u _ P.out).mono ?_); rintro e w' ⟨rfl, ⟨nd, rfl⟩⟩; (try first | exact dwD | exact dwE))))
        go_ret
        exact ⟨eW, bW⟩
       rw [if_neg D] at H
       have au : (s != u) = false := by simpa using D
       (try (have av : decide (s = u) = true := by simpa using D))
       (try (have aw : (s == u) = true := by simpa using D))
       clear D
       have H' := mA H
       clear H
       have aV : wr.cell? ⟨j, 0, none⟩ = some (.int .i64 g) := bc a 0
       have aW : wr.cell? ⟨j, 1, none⟩ = some (.slice (some p) b.length n) := bc a 1
       have aX := Zae a.out 0
       have aY := Zae a.out 1
       have E : 0 ≤ (c : Int) := ofD
       have G : c < (b.length : Int) := ofD
       obtain ⟨W, Y, y⟩ := zO o.out c E G
       obtain rfl : p = W := (by injection Y)
       replace y := (HB.out.cell (wB w y)).trans y
       replace E := eq_true E
       replace G := eq_true G
       go_wp2_with (first | (go_at_call 43; (with_reducible refine (Za5.calls (rd b c) i s _ O.out).mono ?_); rintro e w' ⟨rfl, ⟨nd, rfl⟩⟩; (try first | exact dwD | exact dwE); have l : 0 ≤ (i : Int) := ofD; have m : i < (b.length : Int) := ofD; obtain ⟨v, z, d⟩ := zO o.out i l m; obtain rfl : p = v := (by injection z); replace d := (HB.out.cell (wB w d)).trans d; replace l := eq_true l; replace m := eq_true m) | (go_at_call 43; (with_reducible refine (Za5.calls (rd b i) c u _ P.out).mono ?_); rintro e w' ⟨rfl, ⟨nd, rfl⟩⟩; (try first | exact dwD | exact dwE)))
       repeat (go_quiet (first | (go_at_call 43; (with_reducible refine (Za5.calls (rd b c) i s _ O.out).mono ?_); rintro e w' ⟨rfl, ⟨nd, rfl⟩⟩; (try first | exact dwD | exact dwE); have l : 0 ≤ (i : Int) := ofD; have m : i < (b.length : Int) := ofD; obtain ⟨v, z, d⟩ := zO o.out i l m; obtain rfl : p = v := (by injection z); replace d := (HB.out.cell (wB w d)).trans d; replace l := eq_true l; replace m := eq_true m) | (go_at_call 43; (with_reducible refine (Za5.calls (rd b i) c u _ P.out).mono ?_); rintro e w' ⟨rfl, ⟨nd, rfl⟩⟩; (try first | exact dwD | exact dwE))); try go_wp2_with (first | (go_at_call 43; (with_reducible refine (Za5.calls (rd b c) i s _ O.out).mono ?_); rintro e w' ⟨rfl, ⟨nd, rfl⟩⟩; (try first | exact dwD | exact dwE); have l : 0 ≤ (i : Int) := ofD; have m : i < (b.length : Int) := ofD; obtain ⟨v, z, d⟩ := zO o.out i l m; obtain rfl : p = v := (by injection z); replace d := (HB.out.cell (wB w d)).trans d; replace l := eq_true l; replace m := eq_true m) | (go_at_call 43; (with_reducible refine (Za5.calls (rd b i) c u _ P.out).mono ?_); rintro e w' ⟨rfl, ⟨nd, rfl⟩⟩; (try first | exact dwD | exact dwE))))
       go_roundg k3
       case measure => have := ae.out; have := ag.out; have := aj.out; omega
       case rel => exact ⟨(wrap64 (i + 1)), (eW), H', ⟨by have := ae.out; have := ag.out; have := aj.out; omega⟩, ⟨bP a.out⟩, ⟨bW⟩⟩
end Go.Proofs.YtjdkedmdeajmgaaDoor.P
end M3
section M4
namespace Go.Proofs.YtjdkedmdeajmgaaDoor.P
open Go.RowKit Go.Proofs.YtjdkedmdeajmgaaDoor.Sh Go.Proofs.YtjdkedmdeajmgaaDoorW.PrintWords Go.Proofs.YtjdkedmdeajmgaaDoorW.PrintLast Go.Proofs.YtjdkedmdeajmgaaDoorW.PrintMore
open Kd
attribute [local go_sem] Zcf Zch Zcv Zcu Zb6 Zb7 Zcg Zce   -- for this text's walks alone
set_option linter.unusedVariables false
set_option linter.unusedSimpArgs false
def Zb0.l0 : Nat → List Int → List Int → Int → Option (List Int)
 | 0, _, _, _ => none
 | k + 1, x0, x3, x4 => if x4 < (x0.length : Int) then (if 0 ≤ x4 then (if x4 < (x3.length : Int) then (Zb0.l0 k x0 (x3.set (x4 : Int).toNat (rd x0 x4)) (wrap64 (x4 + 1))) else (none)) else (none)) else (some x3)
def Zb0.f (k : Nat) (l0 : List Int) : Option (List Int) := if 0 ≤ (l0.length : Int) then (if ((l0.length : Int) : Int).toNat ≤ 35184372088832 then (Zb0.l0 k l0 (List.replicate ((l0.length : Int) : Int).toNat 0) 0) else (none)) else (none)
theorem Zb0.calls (k : Nat) (A0 : Option Addr) (c0 : Nat) (l0 : List Int) (r : List Int) (w : World) (v : Kd.C (Kd.int .i64) w A0 l0.length l0) (x : l0.length ≤ c0) (h : Zb0.f k l0 = some r) :
  Calls Tryd.prog 45 #[.slice A0 l0.length c0] w fun e w' => ∃ y : Value, e = .returned (y) ∧ Kd.R (Kd.int .i64) 2 w' w.heap.size (fun _ => True) y r ∧ Below w.heap.size w w' := by
 have P := mA v
 have ad := mA x
 clear v x
 have HB := mA (Below.refl w.heap.size w)
 unfold Zb0.f at h
 have H := h
 clear h
 by_cases c2 : 0 ≤ (l0.length : Int); rotate_left
 ·rw [if_neg c2] at H
  exact absurd H (by simp)
 rw [if_pos c2] at H
 have E := eq_true c2
 have G := dT c2
 clear c2
 by_cases c3 : ((l0.length : Int) : Int).toNat ≤ 35184372088832; rotate_left
 ·rw [if_neg c3] at H
  exact absurd H (by simp)
 rw [if_pos c3] at H
 have I := eq_true c3
 have J := dT c3
 clear c3
 obtain ⟨K, g⟩ := nm ((List.replicate ((l0.length : Int) : Int).toNat 0) : List Int)
 rw [← g.out] at H
 have H' := mA H
 clear H
 go_enter Tryd.func45, Tryd.ntmps45
 go_wp2_with (first | ((with_reducible refine Zat (N := 7) rfl ?_); refine xB (Kd.int .i64) _ 2 rfl (N := 7) rfl 22 _ _ rfl (l0.length : Int) rfl rfl Tryd.underlying22 (.int .i64 0) 8 Zci rfl (by decide) (by omega) 0 (ok := fun _ => True) (okp := fun _ => True) rfl (fun _ hk => hk) trivial (ofD) (Nat.le_trans (Nat.mul_le_mul_right _ (ofD : (l0.length : Int).toNat ≤ 35184372088832)) (by omega)) (Below.refl _ _) (Nat.le_refl _) ?_; intro L w4 i hb hg_ hnew_; clear hg_ hnew_; (first | rw [← g.out] at i | (simp only [Int.reduceToNat] at i; rw [← g.out] at i)); have u := mA (zS i (Zaj (bW))); replace HB := mA (Zaf (bW) hb); clear hb i))
 go_loopg [4] k (fun kq v4 w' => ∃ (b : List Int) (a : Int), v4 = .int .i64 a ∧ Zac (Zb0.l0 kq l0 b a = some r) ∧ Zac (kq ≤ k) ∧ Zac (Kd.R (Kd.int .i64) 2 w' w.heap.size (fun _ => True) L b) ∧ Zac (Below w.heap.size w w'))
 case atStart => exact ⟨(K), (0), (eW), H', ⟨Nat.le_refl _⟩, ⟨rP u.out⟩, ⟨bW⟩⟩
 case round =>
  clear H' E G I J
  obtain ⟨b, a, rfl, HA, z, c, HB⟩ := hrel
  cases gk with
  | zero => exact absurd HA.out (by simp [Zb0.l0])
  | succ k1 =>
   have H := HA.out
   clear HA
   simp only [Zb0.l0] at H
   by_cases c6 : a < (l0.length : Int); rotate_left
   ·rw [if_neg c6] at H
    have M := dF c6
    clear c6
    obtain rfl := oI H
    go_wp2
    go_ret
    exact ⟨_, eW, (rP c.out), bW⟩
   rw [if_pos c6] at H
   have M := dT c6
   clear c6
   obtain ⟨ab, H⟩ := gE H
   obtain ⟨ac, H⟩ := gE H
   obtain ⟨o, n⟩ := nm ((b.set (a : Int).toNat (rd l0 a)) : List Int)
   rw [← n.out] at H
   have H' := mA H
   clear H
   have j : 0 ≤ (a : Int) := ofD
   have l : a < (l0.length : Int) := ofD
   obtain ⟨X, O, d⟩ := zO P.out a j l
   cases O
   replace d := (HB.out.cell (wB w d)).trans d
   replace j := eq_true j
   replace l := eq_true l
   have p9 : 0 ≤ (a : Int) := ofD
   have q9 : (a : Int) < ((b.length : Int) : Int) := ofD
   obtain ⟨q, T, A, B, U, ae, D⟩ := yK c.out (by omega)
   (first | cases A | (injection A with ea_ en_ ec_; (first | subst ea_ | (injection ea_ with ea_; subst ea_)); subst ec_; clear en_))
   have W := mA B
   have af := mA D
   clear B U D
   obtain ⟨Y, aa⟩ := yF 0 c.out (a : Int) p9 q9
   replace p9 := eq_true p9
   replace q9 := eq_true q9
   have m := yI c.out (a : Int) (rd l0 a)
   go_wp2_with (first | ((with_reducible refine Zbq (t := 2) (p := 20) rfl ?_); refine Zdg (t := 2) (p := 20) (w1 := (wr.setCell ⟨q, (a : Int).toNat, none⟩ (.int .i64 (rd l0 a)))) ?_; intro s hw; have hg : wr.grownBy s (some q) := (by rw [hw]; exact m.2); have hp_ : Kd.R (Kd.int .i64) 2 s w.heap.size (fun _ => True) (.slice (some ⟨q, 0, none⟩) b.length T) o := (by rw [hw, n.out]; exact m.1); clear m; replace c := mA (hp_); replace HB := mA ((by rw [hw]; exact Za9 (HB.out) W.out : Below w.heap.size w s)); clear hg hw hp_))
   go_roundg k1
   case measure => have := z.out; omega
   case rel => exact ⟨(o), (wrap64 (a + 1)), (eW), H', ⟨by have := z.out; omega⟩, ⟨rP c.out⟩, ⟨bW⟩⟩
def Zb1.f (k : Nat) (a : Int) (b : List Int) : Option (Int × List Int) := (Zb0.f k b).bind fun c => (some (a, c))
theorem Zb1.calls (k : Nat) (i : Int) (n : Option Addr) (q : Nat) (c : List Int) (r1 : Int) (r2 : List Int) (w : World) (A : Kd.C (Kd.int .i64) w n c.length c) (B : c.length ≤ q) (h : Zb1.f k i c = some (r1, r2)) :
  Calls Tryd.prog 12 #[.agg #[.int .i64 i, .slice n c.length q]] w fun e w' => ∃ K : Value, e = .returned (.agg #[.int .i64 r1, K]) ∧ Kd.R (Kd.int .i64) 2 w' w.heap.size (fun _ => True) K r2 ∧ Below w.heap.size w w' := by
 have ap := Tryd.underlying24
 have aq := Tryd.underlying30
 have G := mA A
 have I := mA B
 clear A B
 have HB := mA (Below.refl w.heap.size w)
 unfold Zb1.f at h
 have H := h
 clear h
 obtain ⟨r, A2, H⟩ := bA H
 simp only [Option.some.injEq, Prod.mk.injEq] at H
 obtain ⟨rfl, rfl⟩ := H
 go_enter Tryd.func12, Tryd.ntmps12
 go_wp2_with (first | ((with_reducible refine Zat (N := 1) rfl ?_); refine boxS (N := 1) (cs := #[.int .i64 i, .slice n c.length q]) (t := 24) ?_; intro J hg w3 hbox hb; have a := mA (hbox); have aj := geW (w := w) hg; have ak := geW (w := w) hg; replace HB := mA (Zaf (bW) hb); clear hb hbox hg) | ((with_reducible refine Zat (N := 2) rfl ?_); refine boxS (N := 2) (cs := #[.int .i64 0, .slice none 0 0]) (t := 30) ?_; intro m hg w4 hbox hb; have b := mA (hbox); have al := geW (w := w) hg; have am := geW (w := w) hg; replace HB := mA (Zaf (bW) hb); have s := mA (neB hg a); have u := mA (neC hg a); replace a := mA (blkB a.out hb); clear hb hbox hg) | ((with_reducible refine Zat (N := 3) rfl ?_); refine boxS (N := 3) (cs := #[.int .i64 0, .slice none 0 0]) (t := 30) ?_; intro D hg w5 hbox hb; have d := mA (hbox); have an := geW (w := w) hg; have ao := geW (w := w) hg; replace HB := mA (Zaf (bW) hb); have l := mA (neB hg a); have v := mA (neC hg a); replace a := mA (blkB a.out hb); have j := mA (neB hg b); have x := mA (neC hg b); replace b := mA (blkB b.out hb); clear hb hbox hg; have ar := s.out; have au := u.out; have av := l.out; have aw := v.out; obtain ⟨af, ag⟩ := Zcj a.out; obtain ⟨ah, ai⟩ := frz2 a.out; have ax := x.out; have ay := j.out; obtain ⟨O, P⟩ := Zcj d.out; obtain ⟨T, U⟩ := frz2 d.out) | ((with_reducible refine Zax (f := 45) rfl ?_); refine Zbi (some 9) Tryd.func45 #[.slice n c.length q] ?_; (with_reducible refine (Zb0.calls k _ _ c r _ ?side1 ?side2 A2.out).mono ?_); (case side1 => exact zQ G.out (bW)); (case side2 => exact I.out); rintro e aA ⟨az, rfl, L, hb⟩; refine ⟨_, rfl, ?_⟩; have E := mA (zS L (Zaj (bW))); replace a := mA (Zbd (g := J) (o := .cells #[.int .i64 i, .slice n c.length q] 24 (0, 0)) (by (with_reducible repeat (first | refine Zad ?_ _ | refine Zaa ?_ | refine Zab ?_ _)); refine Zao ?_ l.out _; exact bP a.out) hb); replace b := mA (Zbd (g := m) (o := .cells #[.int .i64 0, .slice none 0 0] 30 (0, 0)) (by (with_reducible repeat (first | refine Zad ?_ _ | refine Zaa ?_ | refine Zab ?_ _)); refine Zao ?_ j.out _; exact bP b.out) hb); replace d := mA (Zbd (g := D) (o := .cells #[.int .i64 i, .slice none 0 0] 30 (0, 0)) (by (with_reducible repeat (first | refine Zad ?_ _ | refine Zaa ?_ | refine Zab ?_ _)); refine Zau (cs := #[.int .i64 0, .slice none 0 0]) ?_ 0 _ rfl; exact bP d.out) hb); replace HB := mA (Zaf (bW) hb); (try clear hb); (try clear hb2); (try clear hk); (try clear hi); (try clear L); obtain ⟨y, z, M⟩ := zP E.out; subst M; obtain ⟨W, X⟩ := Zcj d.out; obtain ⟨Y, aa⟩ := frz2 d.out; obtain ⟨ab, ac⟩ := Zcj b.out; obtain ⟨ad, ae⟩ := frz2 b.out))
 refine bodyPost_ret (results_cell_row rfl _ _ m 30 #[.int .i64 i, .slice y r.length z] (0, 0) _ rfl (by (with_reducible repeat (first | refine Zad ?_ _ | refine Zaa ?_ | refine Zab ?_ _)); refine Zau (cs := #[.int .i64 i, .slice none 0 0]) ?_ 1 _ rfl; (with_reducible repeat (first | refine Zad ?_ _ | refine Zaa ?_ | refine Zab ?_ _)); refine Zau (cs := #[.int .i64 0, .slice none 0 0]) ?_ 0 _ rfl; (with_reducible repeat (first | refine Zad ?_ _ | refine Zaa ?_ | refine Zab ?_ _)); refine Zao ?_ j.out _; exact bP b.out) Tryd.underlying30 rfl (by kernel_rfl)) rfl ?_
 exact ⟨_, eW, by (with_reducible repeat (first | apply zC | apply zD | apply zA)); exact zB (zF (p := ⟨m, 1, none⟩) (zF (p := ⟨m, 0, none⟩) (zF (p := ⟨D, 1, none⟩) (zV (zV E.out d.out (by decide)) b.out (by decide)) (fun _ hk => hk.1.2) (.slice y r.length z)) (fun _ hk => hk.2) (.int .i64 i)) (fun _ hk => hk.2) (.slice y r.length z)) (fun _ hk => trivial), bW⟩
def Zcn.f (a0 : Int) (a1 : Int) (a2 : Int) : Option (Bool) := if a1 ≤ a0 then (some (decide (a0 ≤ a2))) else (some false)
theorem Zcn.calls (a0 : Int) (a1 : Int) (a2 : Int) (r : Bool) (w : World) (h : Zcn.f a0 a1 a2 = some r) :
  Calls Tryd.prog 82 #[.int .i64 a0, .int .i64 a1, .int .i64 a2] w fun e w' => e = .returned (.bool r) ∧ Zaw w w' := by
 unfold Zcn.f at h
 have H := h
 clear h
 by_cases c4 : a1 ≤ a0
 ·rw [if_pos c4] at H
  have a := dT c4
  clear c4
  obtain rfl := oI H
  go_enter Tryd.func82, Tryd.ntmps82
  go_wp2
  go_ret
  exact ⟨eW, by repeat (first | exact Zaw.refl _ | apply Zaw.step)⟩
 ·rw [if_neg c4] at H
  have a := dF c4
  clear c4
  obtain rfl := oI H
  go_enter Tryd.func82, Tryd.ntmps82
  go_wp2
  go_ret
  exact ⟨eW, by repeat (first | exact Zaw.refl _ | apply Zaw.step)⟩
def impl_has.f (a0 : Int) (a1 : Int) : Option (Bool) := if 0 ≤ a1 then (some ((Go.bits .and .i64 (shr .i64 a0 a1) 1) == 1)) else (none)
theorem impl_has.calls (a0 : Int) (a1 : Int) (r : Bool) (w : World) (h : impl_has.f a0 a1 = some r) :
  Calls Tryd.prog 109 #[.int .i64 a0, .int .i64 a1] w fun e w' => e = .returned (.bool r) ∧ Zaw w w' := by
 unfold impl_has.f at h
 have H := h
 clear h
 by_cases c3 : 0 ≤ a1; rotate_left
 ·rw [if_neg c3] at H
  exact absurd H (by simp)
 rw [if_pos c3] at H
 have g := eq_true c3
 have i := dT c3
 clear c3
 obtain ⟨b, a⟩ : ∃ j_ : Int, (shr .i64 a0 a1) = j_ := ⟨_, rfl⟩
 replace H : (some ((Go.bits .and .i64 (b) 1) == 1)) = some r := by first | (rw [a] at H; exact H) | (simp only [a] at H ⊢; exact H)
 have c : (a0 / 2 ^ min a1.toNat 64) = b := a
 have d : a1 ≤ 64 → (a0 / 2 ^ a1.toNat) = b := shr_small a
 obtain rfl := oI H
 go_enter Tryd.func109, Tryd.ntmps109
 go_wp2
 go_ret
 exact ⟨by first | rfl | (simp; done) | (simp only [← a] <;> (first | rfl | simp)) | (simp [*]; done), by repeat (first | exact Zaw.refl _ | apply Zaw.step)⟩
def Zbw.f (l0 : List Int) : Option (Int) := some (l0.length : Int)
theorem Zbw.calls (A0 : Option Addr) (c0 : Nat) (l0 : List Int) (r : Int) (w : World) (a : Kd.C (Kd.int .i64) w A0 l0.length l0) (b : l0.length ≤ c0) (h : Zbw.f l0 = some r) :
  Calls Tryd.prog 115 #[.slice A0 l0.length c0] w fun e w' => e = .returned (.int .i64 r) ∧ Zaw w w' := by
 have c := mA a
 have d := mA b
 clear a b
 unfold Zbw.f at h
 have H := h
 clear h
 obtain rfl := oI H
 go_enter Tryd.func115, Tryd.ntmps115
 go_wp2
 go_ret
 exact ⟨eW, by repeat (first | exact Zaw.refl _ | apply Zaw.step)⟩
def Zc2.f (a0 : Int) : Option (Int) := if 0 ≤ a0 then (some (shl .i64 1 a0)) else (none)
theorem Zc2.calls (a0 : Int) (r : Int) (w : World) (h : Zc2.f a0 = some r) :
  Calls Tryd.prog 103 #[.int .i64 a0] w fun e w' => e = .returned (.int .i64 r) ∧ Zaw w w' := by
 unfold Zc2.f at h
 have H := h
 clear h
 by_cases c2 : 0 ≤ a0; rotate_left
 ·rw [if_neg c2] at H
  exact absurd H (by simp)
 rw [if_pos c2] at H
 have l := eq_true c2
 have m := dT c2
 clear c2
 obtain ⟨a, b⟩ : ∃ j_ : Int, (shl .i64 1 a0) = j_ := ⟨_, rfl⟩
 replace H : (some a) = some r := by first | (rw [b] at H; exact H) | (simp only [b] at H ⊢; exact H)
 have c : (IntKind.i64.wrap (1 * 2 ^ min a0.toNat 64)) = a := b
 have d : a0 ≤ 64 → (IntKind.i64.wrap (1 * 2 ^ a0.toNat)) = a := shl_small b
 have g : (IntKind.i64.wrap (2 ^ min a0.toNat 64)) = a := by have h_ := c; rw [Int.one_mul] at h_; exact h_
 have i : a0 ≤ 64 → (IntKind.i64.wrap (2 ^ a0.toNat)) = a := fun hle_ => by have h_ := d hle_; rw [Int.one_mul] at h_; exact h_
 have j : (wrap64 (1 * 2 ^ min a0.toNat 64)) = a := (Zcq _).symm.trans c
 have k : a0 ≤ 64 → (wrap64 (1 * 2 ^ a0.toNat)) = a := fun h_ => (Zcq _).symm.trans (d h_)
 obtain rfl := oI H
 go_enter Tryd.func103, Tryd.ntmps103
 go_wp2
 go_ret
 exact ⟨by first | rfl | (simp; done) | (simp only [← b] <;> (first | rfl | simp)) | (simp [*]; done), by repeat (first | exact Zaw.refl _ | apply Zaw.step)⟩
end Go.Proofs.YtjdkedmdeajmgaaDoor.P
end M4
