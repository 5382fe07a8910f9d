import Derived.Laws.StructEq
import Derived.Lib.SliceRun
import Derived.Shelf.Abstract
import Derived.Test.YtgindgodfcfgkaaProg
import Derived.Test.YtgindgodfcfgkaaCFnExactMinimalAutomaton1
set_option maxHeartbeats 8000000
set_option maxRecDepth 100000
section M0
namespace Go.Proofs.Ytgindgodfcfgkaa.Sh
open Go.RowKit Go.Proofs.YtgindgodfcfgkaaW.PrintWords Go.Proofs.YtgindgodfcfgkaaW.PrintLast Go.Proofs.YtgindgodfcfgkaaW.PrintMore
open Kd
theorem bW {B : Nat} {w W : World} (h : Below B w W := by repeat (first | (with_reducible first | exact Zad.out (by assumption) | apply Zbb | apply Za9 | apply Za1 | refine Za8 ?_ (Zad.out (by assumption))) | exact Zad.out (by assumption))) : Below B w W := h
theorem kW {w W : World} {S : Nat → Prop} (h : Kept w W S := by repeat (first | (with_reducible first | exact Zad.out (by assumption) | apply Kept.alloc | apply Kept.drewN | apply Kept.drew | refine Kept.setCell ?_ (.inr (Zad.out (by assumption))) _) | exact Zad.out (by assumption))) : Kept w W S := h
theorem ofD {p : Prop} [Decidable p] (h : decide p = true := by first | (with_reducible assumption) | assumption) : p := of_decide_eq_true h
theorem rP {p q : Prop} (h : p) (k : p → q := by intro h_; (with_reducible repeat (first | apply Kd.zD | apply Kd.zE | apply Kd.zB)); exact h_) : q := k h
theorem sP {p q : Prop} (h : p) (k : p → q := by intro h_; (with_reducible repeat (first | apply Kd.zH | apply Kd.zI | apply Kd.zF)); exact h_) : q := k h
theorem bP {p q : Prop} (h : p) (k : p → q := by intro h_; (with_reducible repeat (first | refine Zac ?_ _ | refine Zab ?_ | refine Zaa ?_ _)); exact h_) : q := k h
theorem cP {p q : Prop} (h : p) (k : p → q := by intro h_; repeat (first | exact h_ | (with_reducible refine Kd.yW ?_ _) | (with_reducible refine Kd.yY ?_ _) | (with_reducible refine Kd.yX ?_))) : q := k h
theorem eW {α : Type} {a b : α} (h : a = b := by first | rfl | (simp; done) | (simp [*]; done)) : a = b := h
section
variable {P : Program} {ops : Array Oper} {o : Oper} {rest : List Oper} {a : Act} {Q : Exit → Act → World → Prop}
theorem boxS {W : World} {N : Tmp} {cs : Array Value} {t : TypeId}
    (h : ∀ g, g = W.heap.size → ∀ w1, w1.heap[g]? = some (.cells cs t (0, 0)) → Below W.heap.size W w1 → wpList P ops Q rest (a.put o.dst (.pointer (some ⟨g, 0, none⟩))) w1)
    (hd : o.dst = some N := by rfl) (hgd : o.guard = none := by rfl)
    (hrun : (execOp a.eval o).run P W = .ok (.value (.pointer (some ⟨W.heap.size, 0, none⟩))) (W.alloc (.cells cs t (0, 0))) := by first | (go_simp; done) | (go_simp; rfl)) : wpList P ops Q (o :: rest) a W :=
  box_event hgd hd hrun h
theorem Zcv {W w1 : World} {t : TypeId} {p : Tmp} {v : Operand} (h : ∀ w', w' = w1 → wpList P ops Q rest a w')
    (ho : o.op = .store t (.tmp p) v := by rfl) (hgd : o.guard = none := by rfl) (hN : o.dst = none := by rfl)
    (hrun : (execOp a.eval o).run P W = .ok .skip w1 := by first | (go_simp; done) | (go_simp; rfl)) : wpList P ops Q (o :: rest) a W :=
  Zc8 hgd ho hN hrun h
theorem Zbi {w : World} (N : Option Tmp) {f : FuncId} {fn : Func} {as9 : Array Operand} {ts : Array TypeId} (hf : P.funcs[f]? = some fn) (args : Array Value)
    (h : Calls P f args w fun e w' => ∃ v, e = .returned v ∧ wpList P ops Q rest (a.put N v) w')
    (hd : o.dst = N := by rfl) (hg : o.guard = none := by rfl) (hname : (fn.name == "runtime.NumGoroutine") = false := by kernel_rfl) (hb : fn.body.isSome = true := by rfl)
    (hop : o.op = .call { callee := .value (.func f), args := as9, argTypes := ts } := by rfl)
    (hargs : as9.map a.eval = args := by (try simp only [List.map_toArray, List.map_cons, List.map_nil]); first | done | rfl | (simp only [List.length_drop, List.length_take]; rfl)) : wpList P ops Q (o :: rest) a w :=
  goesL_ N hd hg hf hname hb args hop hargs h
end
theorem blkB {w W w1 : World} {g : Nat} {o : Obj} (h : w.heap[g]? = some o) (hb : Below W.heap.size W w1) (k : (w.heap[g]? = some o) → (W.heap[g]? = some o) := by intro h_; (with_reducible repeat (first | refine Zac ?_ _ | refine Zab ?_ | refine Zaa ?_ _)); exact h_) : w1.heap[g]? = some o := Zbc (k h) hb
theorem mA {p : Prop} (h : p) : Zad p := ⟨h⟩
theorem neB {U W : World} {g k : Nat} {o : Obj} (hg : k = W.heap.size) (h : Zad (U.heap[g]? = some o)) (t : U.heap[g]? = some o → W.heap[g]? = some o := by intro h_; (with_reducible repeat (first | refine Zac ?_ _ | refine Zab ?_ | refine Zaa ?_ _)); exact h_) : g ≠ k := by rw [hg]; exact Nat.ne_of_lt (blk_lt (t h.out))
theorem neC {U W : World} {g k : Nat} {o : Obj} (hg : k = W.heap.size) (h : Zad (U.heap[g]? = some o)) (t : U.heap[g]? = some o → W.heap[g]? = some o := by intro h_; (with_reducible repeat (first | refine Zac ?_ _ | refine Zab ?_ | refine Zaa ?_ _)); exact h_) : k ≠ g := by rw [hg]; exact Nat.ne_of_gt (blk_lt (t h.out))
theorem bc {w : World} {g : Nat} {t : TypeId} {cs : Array Value} {v : Value} (h : Zad (w.heap[g]? = some (.cells cs t (0, 0)))) (i : Nat) (e : cs[i]? = some v := by rfl) : w.cell? ⟨g, i, none⟩ = some v := (Zbu h.out i).trans e
theorem wB (w : World) {a : Addr} {v : Value} (h : w.cell? a = some v) : a.block < w.heap.size := World.block_lt_of_cell? w _ h
theorem cB {w W : World} {a : Addr} {v : Value} (h : Zad (Below w.heap.size w W)) (x : w.cell? a = some v) : W.cell? a = some v := (h.out.cell (World.block_lt_of_cell? w _ x)).trans x
theorem dT {p : Prop} [Decidable p] (h : p) : decide p = true := decide_eq_true h
theorem dF {p : Prop} [Decidable p] (h : ¬ p) : decide p = false := decide_eq_false h
theorem bE {α β : Type} {o : Option α} {f : α → Option β} {r : β} (h : o.bind f = some r) : ∃ a, o = some a ∧ f a = some r := Option.bind_eq_some_iff.mp h
theorem oI {α : Type} {a b : α} (h : some a = some b) : a = b := Option.some.inj h
theorem dwD {α : Type} {x : α} {w : World} {a b : Nat} : x = x ∧ ∃ n, (w.drewN a).drewN b = w.drewN n := ⟨rfl, _, World.drewN_drewN _ _ _⟩
theorem dwE {α : Type} {x : α} {w : World} {a b c : Nat} : x = x ∧ ∃ n, (w.drewN (a + b)).drewN c = w.drewN (a + n) := ⟨rfl, _, Eq.trans (World.drewN_drewN _ _ _) (congrArg (World.drewN _) (Nat.add_assoc _ _ _))⟩
theorem iF {α : Type} {a b : α} : (if false = true then a else b) = b := if_neg (by decide)
theorem putS (n : Tmp) {P : Program} {ops : Array Oper} {Q : Exit → Act → World → Prop} {md : Region.Mode} {S : World → Prop} {ds : List Nat} {fuel : Nat} {l : Array Bool} {a a' : Act} {w : World} {v : Value} (h : Za3 P md ops Q S ds fuel l a' w) (ha : a.put (some n) v = a' := by (simp only [Act.put, List.setIfInBounds_toArray, List.set_cons_zero, List.set_cons_succ, i64_w, i32_w]; rfl)) : Za3 P md ops Q S ds fuel l (a.put (some n) v) w := norm_ ha h
theorem geW {w W : World} {g : Nat} (hg : g = W.heap.size) (h : Below w.heap.size w W := by repeat (first | (with_reducible first | exact Zad.out (by assumption) | apply Zbb | apply Za9 | apply Za1 | refine Za8 ?_ (Zad.out (by assumption))) | exact Zad.out (by assumption))) : Zad (w.heap.size ≤ g) := ⟨hg ▸ Zao h⟩
theorem cells3 {w : World} {g : Nat} {a b c : Value} {t : TypeId} (h : w.heap[g]? = some (.cells #[a, b, c] t (0, 0))) : w.cell? ⟨g, 0, none⟩ = some a ∧ w.cell? ⟨g, 1, none⟩ = some b ∧ w.cell? ⟨g, 2, none⟩ = some c := by
  refine ⟨?_, ?_, ?_⟩
  · rw [Zbu h 0]; rfl
  · rw [Zbu h 1]; rfl
  · rw [Zbu h 2]; rfl
theorem Zaz {w : World} {g : Nat} {a b c d : Value} {t : TypeId} (h : w.heap[g]? = some (.cells #[a, b, c, d] t (0, 0))) : w.cell? ⟨g, 0, none⟩ = some a ∧ w.cell? ⟨g, 1, none⟩ = some b ∧ w.cell? ⟨g, 2, none⟩ = some c ∧ w.cell? ⟨g, 3, none⟩ = some d := by
  refine ⟨?_, ?_, ?_, ?_⟩
  · rw [Zbu h 0]; rfl
  · rw [Zbu h 1]; rfl
  · rw [Zbu h 2]; rfl
  · rw [Zbu h 3]; rfl
theorem frz3 {w : World} {g : Nat} {cs : Array Value} {t : TypeId} (h : w.heap[g]? = some (.cells cs t (0, 0))) : w.frozen? ⟨g, 0, none⟩ = false ∧ w.frozen? ⟨g, 1, none⟩ = false ∧ w.frozen? ⟨g, 2, none⟩ = false := ⟨Zae h 0, Zae h 1, Zae h 2⟩
theorem frz4 {w : World} {g : Nat} {cs : Array Value} {t : TypeId} (h : w.heap[g]? = some (.cells cs t (0, 0))) : w.frozen? ⟨g, 0, none⟩ = false ∧ w.frozen? ⟨g, 1, none⟩ = false ∧ w.frozen? ⟨g, 2, none⟩ = false ∧ w.frozen? ⟨g, 3, none⟩ = false := ⟨Zae h 0, Zae h 1, Zae h 2, Zae h 3⟩
section
variable {P : Program} {ops : Array Oper} {Q : Exit → Act → World → Prop} {md : Region.Mode} {S : World → Prop} {ds : List Nat}
theorem Zau {i : Nat} {N : Option Tmp} {oi : Oper} {v : Value} {fuel : Nat} {l : Array Bool} {a : Act} {w : World} {a' : Act} (hc : anyB md ops l (l.setIfInBounds i true) i = true) (h : Za3 P md ops Q S ds fuel (l.setIfInBounds i true) a' w)
    (hi : ops[i]? = some oi := by rfl) (hN : oi.dst = N := by rfl) (hQ : ∀ c a w, Q (.panic c) (a.put oi.dst v) w → Q (.panic c) a w := by exact fun _ _ _ h => h) (hy : Yields P ops oi v a := by (refine Or.inl ⟨by rfl, ?_⟩; intro w'; go_simp; with_reducible rfl))
    (ha : a.put N v = a' := by (simp only [Act.put, List.setIfInBounds_toArray, List.set_cons_zero, List.set_cons_succ, i64_w, i32_w]; rfl)) : Za3 P md ops Q S ds (fuel + 1) l a w := pure_ _ hi hN hc hQ hy ha h
theorem Zbr {i : Nat} {N : Option Tmp} {oi : Oper} {v : Value} {fuel : Nat} {l : Array Bool} {a : Act} {w : World} {a' : Act} (hc : takeB md ops ds l (l.setIfInBounds i true) i = true) (hS : S w) (h : Za3 P md ops Q S ds fuel (l.setIfInBounds i true) a' w)
    (hi : ops[i]? = some oi := by rfl) (hN : oi.dst = N := by rfl) (hQ : ∀ c a w, Q (.panic c) (a.put oi.dst v) w → Q (.panic c) a w := by exact fun _ _ _ h => h) (hy : YieldsIf P ops S oi v a := by (refine Or.inl ⟨by rfl, ?_⟩; intro w' hs_; (repeat (have := hs_.1; replace hs_ := hs_.2)); go_simp; with_reducible rfl))
    (ha : a.put N v = a' := by (simp only [Act.put, List.setIfInBounds_toArray, List.set_cons_zero, List.set_cons_succ, i64_w, i32_w]; rfl)) : Za3 P md ops Q S ds (fuel + 1) l a w := take_ _ hi hN hc hQ hy hS ha h
end
/-- A list without elements lies as9 nil. -/
def NilOf {α : Type} (v : Value) (r : List α) : Prop := r = [] → v = .slice none 0 0
theorem NilOf.cons {α : Type} {v : Value} {r l : List α} {x : α} (h : r = x :: l) : NilOf v r := fun e => by rw [h] at e; cases e
section
variable {P : Program} {ops : Array Oper} {o : Oper} {rest : List Oper} {a : Act} {Q : Exit → Act → World → Prop} {Kc : Act → World → Prop} {α : Type}
theorem own_new {v : Value} {n : Nat} (h : ∃ b, v.ownBlock = some b ∧ n ≤ b) : ∀ k, v.ownBlock = some k → n ≤ k := by
  obtain ⟨b, h1, h2⟩ := h
  intro k hk
  rw [h1] at hk
  injection hk with hk
  omega
theorem lit1_rep {d : Kd α} {W : World} {base : Nat} {okp : Nat → Prop} {xs : List α} {inner : List Value} (hp : ∃ x, xs = [x] ∧ inner.length = d.sz ∧ d.M W base okp x inner) :
    inner.length = xs.length * d.sz ∧ (∀ j x, xs[j]? = some x → d.M W base (fun k => j = 0 ∧ okp k) x ((inner.drop (j * d.sz)).take d.sz)) := by
  obtain ⟨x0, rfl, hl, hM⟩ := hp
  refine ⟨by simp [hl], fun j x hx => ?_⟩
  cases j with
  | zero =>
    simp only [List.getElem?_cons_zero, Option.some.injEq] at hx
    subst hx
    rw [Nat.zero_mul, List.drop_zero, List.take_of_length_le (by omega)]
    exact d.M_mono (fun _ hk => ⟨rfl, hk⟩) hM
  | succ j => simp at hx
theorem Kd.S_lit1 (d : Kd α) {w0 W : World} (base e : Nat) (hgd : o.guard = none) {N : Tmp} (hd : o.dst = some N) {xs : List α} {inner : List Value} {ok okp : Nat → Prop}
    (hrun : (execOp a.eval o).run P W = .ok (.value (.slice (some ⟨W.heap.size, 0, none⟩) xs.length xs.length)) (W.alloc (.cells inner.toArray e)))
    (hp : ∃ x, xs = [x] ∧ inner.length = d.sz ∧ d.M W base okp x inner) (hok : ∀ k, okp k → ok k) (hfresh : ok W.heap.size) (_HB : Below base w0 W) (hbase : base ≤ W.heap.size) (hm : xs.length ≤ 9223372036854775807)
    (h : ∀ v1 w1, Kd.S d e w1 base ok v1 xs → Below W.heap.size W w1 → W.grownBy w1 none → (∃ b, v1.ownBlock = some b ∧ W.heap.size ≤ b) → wpList P ops Q rest (a.put o.dst v1) w1) : wpList P ops Q (o :: rest) a W := by
  obtain ⟨h1, h2⟩ := lit1_rep hp
  refine Kd.S_lits d (w0 := W) base e hgd hd (ok := ok) (fun j k => j = 0 ∧ okp k) hrun h1 h2 (fun i j k hi hj => by rw [hi.1, hj.1]) (fun j k hk => hok k hk.2) hfresh (Below.refl _ _) hbase hm ?_
  exact fun v1 w1 hS _ hg hn => h v1 w1 hS ⟨hg.os, hg.tape, hg.output, hg.size, fun i hi => hg.block i hi (by simp)⟩ hg hn
theorem Kd.S_lit1_step (d : Kd α) {w0 W : World} (base e : Nat) (hw : Region.wanted o (yielded ops a.tmps) = true) {N : Tmp} (hd : o.dst = some N) {xs : List α} {inner : List Value} {ok okp : Nat → Prop}
    (hrun : (execOp a.eval o).run P W = .ok (.value (.slice (some ⟨W.heap.size, 0, none⟩) xs.length xs.length)) (W.alloc (.cells inner.toArray e)))
    (hp : ∃ x, xs = [x] ∧ inner.length = d.sz ∧ d.M W base okp x inner) (hok : ∀ k, okp k → ok k) (hfresh : ok W.heap.size) (_HB : Below base w0 W) (hbase : base ≤ W.heap.size) (hm : xs.length ≤ 9223372036854775807)
    (h : ∀ v1 w1, Kd.S d e w1 base ok v1 xs → Below W.heap.size W w1 → W.grownBy w1 none → (∃ b, v1.ownBlock = some b ∧ W.heap.size ≤ b) → Kc (a.put o.dst v1) w1) :
    if Region.wanted o (yielded ops a.tmps) = true then Oper.wp P o a W Kc Q else Kc (a.put o.dst undef) W := by
  obtain ⟨h1, h2⟩ := lit1_rep hp
  refine Kd.S_lits_step d (w0 := W) base e hw hd (ok := ok) (fun j k => j = 0 ∧ okp k) hrun h1 h2 (fun i j k hi hj => by rw [hi.1, hj.1]) (fun j k hk => hok k hk.2) hfresh (Below.refl _ _) hbase hm ?_
  exact fun v1 w1 hS _ hg hn => h v1 w1 hS ⟨hg.os, hg.tape, hg.output, hg.size, fun i hi => hg.block i hi (by simp)⟩ hg hn
end
section
variable {α : Type} {d : Kd α} {e base n : Nat} {ok : Nat → Prop} {w1 W : World} {u v : Value} {xs : List α}
theorem sizeI (_hb : Below W.heap.size W w1) : ∃ n, Zad (n = W.heap.size) := ⟨_, ⟨rfl⟩⟩
theorem Kd.S_elderI (h : Kd.S d e W base ok u xs) (hbase : ∀ k, v.ownBlock = some k → W.heap.size ≤ k) (hb : Below W.heap.size W w1) (hn : Zad (n = W.heap.size)) : Kd.S d e w1 base (fun k => (ok k ∧ some k ≠ v.ownBlock) ∧ k < n) u xs :=
  Kd.zG (Kd.xB (Kd.S_bound h) hbase hb) (fun k hk => ⟨⟨hk.1.1, hk.2⟩, by have := hk.1.2.2.1; have := hn.out; omega⟩)
theorem Kd.S_newI (h : Kd.S d e w1 W.heap.size ok v xs) (hn : Zad (n = W.heap.size)) : Kd.S d e w1 W.heap.size (fun k => ok k ∧ n ≤ k) v xs :=
  Kd.zG (Kd.S_bound h) (fun k hk => ⟨hk.1, by have := hk.2.1; have := hn.out; omega⟩)
end
section
variable {P : Program} {ops : Array Oper} {o : Oper} {rest : List Oper} {a : Act} {Q : Exit → Act → World → Prop} {Kc : Act → World → Prop} {α : Type}
open Classical in
theorem S_merge {d : Kd α} {e base m c : Nat} {ok okp : Nat → Prop} {W : World} {v : Value} {A : Option Addr} {xs ys : List α} (HO : Kd.S d e W base (fun k => ok k ∧ ¬ okp k) v xs) (HX : Kd.S d e W base okp (.slice A m c) ys) :
    ∃ g, (Kd.tag g d).R e W base ok v xs.zipIdx ∧ Zce (fun p cs => (Kd.tag g d).M W base okp p cs) d.sz W A m (ys.zipIdx xs.length) := by
  obtain ⟨f, HO⟩ := HO
  obtain ⟨f', _, hX⟩ := HX
  obtain ⟨A', c', he, _, hrow⟩ := Zcq.reads hX
  injection he with h1 h2 h3
  subst h1
  rw [List.length_zipIdx] at hrow h2
  rw [h2]
  refine ⟨fun k => if okp k then xs.length + f' k else f k, Kd.zC (Kd.R_tag HO (fun k hk _ => if_neg hk.2)) (fun _ hk => hk.1), by simp, hrow.2.1, fun hn => ?_⟩
  obtain ⟨ad, e1, hc⟩ := hrow.2.2 hn
  refine ⟨ad, e1, fun j p hj => ?_⟩
  rw [List.getElem?_zipIdx] at hj
  obtain ⟨y, hy, rfl⟩ := Option.map_eq_some_iff.1 hj
  obtain ⟨cs, q1, q2, q3⟩ := hc j (y, j) (by rw [List.getElem?_zipIdx, hy]; simp)
  exact ⟨cs, q1, d.M_mono (fun k hk => ⟨hk.1.1, by
    have e2 : f' k = j := hk.2
    show (if okp k then xs.length + f' k else f k) = xs.length + j
    rw [if_pos hk.1.1, e2]⟩) q2, q3⟩
theorem Kd.S_append_rows_step (d : Kd α) {w0 W : World} (base : Nat) (hw : Region.wanted o (yielded ops a.tmps) = true) (s x : Operand) (t e : TypeId) (z : Value) (bytes : Nat)
    (ho : o.op = .call { callee := .builtin .append, args := #[s, x], argTypes := #[t, t] })
    (ht : P.underlying t = some (.slice e)) (hinfo : (P.info? e).map (fun i => (i.zero, i.size, i.bytes)) = some (some z, d.sz, bytes)) (hz : z.cells.size = d.sz) (j : 0 < d.sz) (l : 0 < bytes)
    (v : Value) (xs ys : List α) (A : Option Addr) (m c : Nat) (ok okp : Nat → Prop) (hs : a.eval s = v) (hx : a.eval x = .slice A m c)
    (HO : Kd.S d e W base (fun k => ok k ∧ ¬ okp k) v xs) (HX : Kd.S d e W base okp (.slice A m c) ys) (hokp : ∀ k, okp k → ok k ∧ some k ≠ v.ownBlock) (hfresh : ∀ k, W.heap.size ≤ k → ok k)
    (HB : Below base w0 W) (hbase : base ≤ W.heap.size) (hl : (xs.length + m) * bytes ≤ 140737488355328)
    (h : ∀ v1 w1, Kd.S d e w1 base ok v1 (xs ++ ys) → Below base w0 w1 → W.grownBy w1 v.ownBlock → (v1.ownBlock = v.ownBlock ∨ ∃ b, v1.ownBlock = some b ∧ W.heap.size ≤ b) → Kc (a.put o.dst v1) w1) :
    if Region.wanted o (yielded ops a.tmps) = true then Oper.wp P o a W Kc Q else Kc (a.put o.dst undef) W := by
  obtain ⟨g, h1, h2⟩ := S_merge HO HX
  refine Kd.xQ (Kd.tag g d) base hw s x t e z bytes ho ht hinfo hz j l v _ _ A m c ok okp hs hx h1 h2 (fun _ _ hk => hk) hokp hfresh HB hbase (by rw [List.length_zipIdx]; exact hl) ?_
  intro v1 w1 hr hb hg hat
  refine h v1 w1 ⟨g, ?_⟩ hb hg hat
  rw [List.zipIdx_append, Nat.zero_add]
  exact hr
end
theorem ltge {k n : Nat} (h1 : k < n) (h2 : n ≤ k) : False := by omega
end Go.Proofs.Ytgindgodfcfgkaa.Sh
end M0
section M1
namespace Go.Proofs.Ytgindgodfcfgkaa.P
open Go.RowKit Go.Proofs.Ytgindgodfcfgkaa.Sh Go.Proofs.YtgindgodfcfgkaaW.PrintWords Go.Proofs.YtgindgodfcfgkaaW.PrintLast Go.Proofs.YtgindgodfcfgkaaW.PrintMore
open Kd
attribute [local go_sem] Zcf Zcc Zcn Zcp Zb5 Zb3 Zcd Zcb   -- for this text's walks alone
set_option linter.unusedVariables false
set_option linter.unusedSimpArgs false
def errW : Option Int → Value
  | none => .nilIface
  | some c => .iface 0 (.int .i64 c)
theorem errW_none : errW none = .nilIface := rfl
theorem errW_some (c : Int) : errW (some c) = .iface 0 (.int .i64 c) := rfl
theorem info2 : (Try.prog.info? 2).map (fun i => (i.zero, i.size, i.bytes)) = some (some (.int .i64 0), 1, 8) := by kernel_rfl
theorem info4 : (Try.prog.info? 4).map (fun i => (i.zero, i.size, i.bytes)) = some (some (.bool false), 1, 1) := by kernel_rfl
theorem info5 : (Try.prog.info? 5).map (fun i => (i.zero, i.size, i.bytes)) = some (some (.int .u8 0), 1, 1) := by kernel_rfl
theorem info33 : (Try.prog.info? 33).map (fun i => (i.zero, i.size, i.bytes)) = some (some (.slice none 0 0), 1, 24) := by kernel_rfl
-- the values' own types
def Zah (xs : List (List Int)) (i : Int) : (List Int) := xs.getD i.toNat ([] : List Int)
theorem Zca {w : World} {A : Option Addr} {n : Nat} {xs : List (List Int)} (h : Kd.C (Kd.slice 2 (Kd.int .i64)) w A n xs) (i : Int) (h0 : 0 ≤ i) (h1 : i < n) : ∃ ad A0 c0, A = some ad ∧ w.cell? (ad.add i.toNat) = some (.slice A0 (Zah xs i).length c0) ∧ (Zah xs i).length ≤ c0 ∧ (Kd.int .i64).C w A0 (Zah xs i).length (Zah xs i) := by
  obtain ⟨ad, c, e, _, hK, a⟩ := Kd.C_get h ([] : List Int) i h0 h1
  have hc : ∀ j u, c[j]? = some u → w.cell? (ad.add (i.toNat * 1 + j)) = some u := a
  obtain ⟨A0, c0, rfl, l0, g0⟩ := hK
  exact ⟨ad, A0, c0, e, by have hq := hc 0 _ rfl; rwa [Nat.mul_one, Nat.add_zero] at hq, l0, g0⟩
end Go.Proofs.Ytgindgodfcfgkaa.P
end M1
section M2
namespace Go.Proofs.Ytgindgodfcfgkaa.P
open Go.RowKit Go.Proofs.Ytgindgodfcfgkaa.Sh Go.Proofs.YtgindgodfcfgkaaW.PrintWords Go.Proofs.YtgindgodfcfgkaaW.PrintLast Go.Proofs.YtgindgodfcfgkaaW.PrintMore
open Kd
attribute [local go_sem] Zcf Zcc Zcn Zcp Zb5 Zb3 Zcd Zcb   -- for this text's walks alone
set_option linter.unusedVariables false
set_option linter.unusedSimpArgs false
def Zcx.f (l0 : List Int) (a1 : Int) : Option (Int) := if (wrap64 (a1 - (l0.length : Int))) < 0 then (some (-1)) else (some (wrap64 (a1 - (l0.length : Int))))
theorem Zcx.calls (A0 : Option Addr) (c0 : Nat) (l0 : List Int) (a1 : Int) (r : Int) (w : World) (a : Kd.C (Kd.int .i64) w A0 l0.length l0) (b : l0.length ≤ c0) (h : Zcx.f l0 a1 = some r) :
  Calls Try.prog 80 #[.slice A0 l0.length c0, .int .i64 a1] w fun e w' => e = .returned (.int .i64 r) ∧ Zas w w' := by
 have d := mA a
 have g := mA b
 clear a b
 unfold Zcx.f at h
 have H := h
 clear h
 by_cases c3 : (wrap64 (a1 - (l0.length : Int))) < 0
 ·rw [if_pos c3] at H
  have c := dT c3
  clear c3
  obtain rfl := oI H
  go_enter Try.func80, Try.ntmps80
  go_wp2
  go_ret
  exact ⟨eW, by repeat (first | exact Zas.refl _ | apply Zas.step)⟩
 ·rw [if_neg c3] at H
  have c := dF c3
  clear c3
  obtain rfl := oI H
  go_enter Try.func80, Try.ntmps80
  go_wp2
  go_ret
  exact ⟨eW, by repeat (first | exact Zas.refl _ | apply Zas.step)⟩
def Zbl.l0 : Nat → List (List Int) → Int → Int → Option (Int)
 | 0, _, _, _ => none
 | k + 1, x0, x1, x5 => if x5 < (x0.length : Int) then (if 0 ≤ x5 then ((Zcx.f (Zah x0 x5) x1).bind fun a => (if a < 0 then (some (-1)) else (Zbl.l0 k x0 a (wrap64 (x5 + 1))))) else (none)) else (some x1)
def Zbl.f (k : Nat) (l0 : List (List Int)) (a1 : Int) : Option (Int) := if (wrap64 (a1 - (l0.length : Int))) < 0 then (some (-1)) else (Zbl.l0 k l0 (wrap64 (a1 - (l0.length : Int))) 0)
theorem Zbl.calls (k : Nat) (A0 : Option Addr) (c0 : Nat) (l0 : List (List Int)) (a1 : Int) (r : Int) (w : World) (u : Kd.C (Kd.slice 2 (Kd.int .i64)) w A0 l0.length l0) (v : l0.length ≤ c0) (h : Zbl.f k l0 a1 = some r) :
  Calls Try.prog 38 #[.slice A0 l0.length c0, .int .i64 a1] w fun e w' => e = .returned (.int .i64 r) ∧ Zas w w' := by
 have x := mA u
 have D := mA v
 clear u v
 unfold Zbl.f at h
 have H := h
 clear h
 by_cases c3 : (wrap64 (a1 - (l0.length : Int))) < 0
 ·rw [if_pos c3] at H
  have s := dT c3
  clear c3
  obtain rfl := oI H
  go_enter Try.func38, Try.ntmps38
  go_wp2
  go_ret
  exact ⟨eW, by repeat (first | exact Zas.refl _ | apply Zas.step)⟩
 rw [if_neg c3] at H
 have s := dF c3
 clear c3
 have H' := mA H
 clear H
 go_enter Try.func38, Try.ntmps38
 go_wp2
 go_loopg [1, 5] k (fun kq v1 v5 w' => ∃ (d : Int) (a : Int), v1 = .int .i64 d ∧ v5 = .int .i64 a ∧ Zad (Zbl.l0 kq l0 d a = some r) ∧ Zad (kq ≤ k) ∧ Zas w w')
 case atStart => exact ⟨(wrap64 (a1 - (l0.length : Int))), (0), (eW), (eW), H', ⟨Nat.le_refl _⟩, by repeat (first | exact Zas.refl _ | apply Zas.step)⟩
 case round =>
  clear H'
  try clear p2
  try clear c3
  try clear s
  obtain ⟨d, a, rfl, rfl, HA, HK1, ⟨m1, rfl⟩⟩ := hrel
  cases gk with
  | zero => exact absurd HA.out (by simp [Zbl.l0])
  | succ k1 =>
   have H := HA.out
   clear HA
   simp only [Zbl.l0] at H
   by_cases c4 : a < (l0.length : Int); rotate_left
   ·rw [if_neg c4] at H
    have z := dF c4
    clear c4
    obtain rfl := oI H
    go_wp2
    go_ret
    exact ⟨eW, by repeat (first | exact Zas.refl _ | apply Zas.step)⟩
   rw [if_pos c4] at H
   have z := dT c4
   clear c4
   by_cases c5 : 0 ≤ a; rotate_left
   ·rw [if_neg c5] at H
    exact absurd H (by simp)
   rw [if_pos c5] at H
   have B := dT c5
   clear c5
   replace H := bE H
   obtain ⟨o, y, H⟩ := H
   have A6 := mA y
   clear y
   by_cases c7 : o < 0
   ·rw [if_pos c7] at H
    have A := dT c7
    clear c7
    obtain rfl := oI H
    have g : 0 ≤ (a : Int) := ofD
    have i : a < (l0.length : Int) := ofD
    obtain ⟨t, m, n, p, q, b, c⟩ := Zca x.out a g i
    cases p
    have j := mA c
    have l := mA b
    clear c b
    replace g := eq_true g
    replace i := eq_true i
    go_wp2_with (first | ((with_reducible refine Zat (f := 80) rfl ?_); refine Zbi (some 23) Try.func80 #[.slice m (Zah l0 a).length n, .int .i64 d] ?_; (with_reducible refine (Zcx.calls _ _ (Zah l0 a) d o _ ?side1 ?side2 A6.out).mono ?_); (case side1 => exact cP j.out); (case side2 => exact l.out); rintro e w' ⟨rfl, ⟨nd, rfl⟩⟩; refine ⟨_, rfl, ?_⟩))
    go_ret
    exact ⟨eW, by repeat (first | exact Zas.refl _ | apply Zas.step)⟩
   rw [if_neg c7] at H
   have A := dF c7
   clear c7
   have H' := mA H
   clear H
   have g : 0 ≤ (a : Int) := ofD
   have i : a < (l0.length : Int) := ofD
   obtain ⟨t, m, n, p, q, b, c⟩ := Zca x.out a g i
   cases p
   have j := mA c
   have l := mA b
   clear c b
   replace g := eq_true g
   replace i := eq_true i
   go_wp2_with (first | ((with_reducible refine Zat (f := 80) rfl ?_); refine Zbi (some 23) Try.func80 #[.slice m (Zah l0 a).length n, .int .i64 d] ?_; (with_reducible refine (Zcx.calls _ _ (Zah l0 a) d o _ ?side1 ?side2 A6.out).mono ?_); (case side1 => exact cP j.out); (case side2 => exact l.out); rintro e w' ⟨rfl, ⟨nd, rfl⟩⟩; refine ⟨_, rfl, ?_⟩))
   go_roundg k1
   case measure => have := HK1.out; omega
   case rel => exact ⟨(o), (wrap64 (a + 1)), (eW), (eW), H', ⟨by have := HK1.out; omega⟩, by repeat (first | exact Zas.refl _ | apply Zas.step)⟩
def Zch.f (k : Nat) (c : Int) (d : Int) (e : Int) (b : List (List Int)) (a1 : Int) : Option (Int) := (Zbl.f k b a1).bind fun a => (if a < 0 then (some (-1)) else (some a))
theorem Zch.calls (k : Nat) (g : Int) (i : Int) (j : Int) (c : Option Addr) (d : Nat) (a : List (List Int)) (a1 : Int) (r : Int) (w : World) (m : Kd.C (Kd.slice 2 (Kd.int .i64)) w c a.length a) (n : a.length ≤ d) (h : Zch.f k g i j a a1 = some r) :
  Calls Try.prog 9 #[.agg #[.int .i64 g, .int .i64 i, .int .i64 j, .slice c a.length d], .int .i64 a1] w fun e w' => e = .returned (.int .i64 r) ∧ Below w.heap.size w w' := by
 have W := Try.underlying24
 have o := mA m
 have p := mA n
 clear m n
 have HB := mA (Below.refl w.heap.size w)
 unfold Zch.f at h
 have H := h
 clear h
 replace H := bE H
 obtain ⟨l, v, H⟩ := H
 have A3 := mA v
 clear v
 by_cases c4 : l < 0
 ·rw [if_pos c4] at H
  have x := dT c4
  clear c4
  obtain rfl := oI H
  go_enter Try.func9, Try.ntmps9
  go_wp2_with (first | ((with_reducible refine Zar (N := 2) rfl ?_); refine boxS (N := 2) (cs := #[.int .i64 g, .int .i64 i, .int .i64 j, .slice c a.length d]) (t := 24) ?_; intro q hg w5 hbox hb; have b := mA (hbox); have s := geW (w := w) hg; have u := geW (w := w) hg; replace HB := mA (Zaf (bW) hb); clear hb hbox hg; obtain ⟨y, z, A, B⟩ := Zaz b.out; obtain ⟨D, E, G, I⟩ := frz4 b.out) | ((with_reducible refine Zat (f := 38) rfl ?_); refine Zbi (some 8) Try.func38 #[.slice c a.length d, .int .i64 a1] ?_; (with_reducible refine (Zbl.calls k _ _ a a1 l _ ?side1 ?side2 A3.out).mono ?_); (case side1 => exact cP (zO o.out HB.out)); (case side2 => exact p.out); rintro e w' ⟨rfl, ⟨nd, rfl⟩⟩; refine ⟨_, rfl, ?_⟩))
  go_ret
  exact ⟨eW, bW⟩
 rw [if_neg c4] at H
 have x := dF c4
 clear c4
 obtain rfl := oI H
 go_enter Try.func9, Try.ntmps9
 go_wp2_with (first | ((with_reducible refine Zar (N := 2) rfl ?_); refine boxS (N := 2) (cs := #[.int .i64 g, .int .i64 i, .int .i64 j, .slice c a.length d]) (t := 24) ?_; intro q hg w7 hbox hb; have b := mA (hbox); have s := geW (w := w) hg; have u := geW (w := w) hg; replace HB := mA (Zaf (bW) hb); clear hb hbox hg; obtain ⟨J, K, L, M⟩ := Zaz b.out; obtain ⟨O, P, T, U⟩ := frz4 b.out) | ((with_reducible refine Zat (f := 38) rfl ?_); refine Zbi (some 8) Try.func38 #[.slice c a.length d, .int .i64 a1] ?_; (with_reducible refine (Zbl.calls k _ _ a a1 l _ ?side1 ?side2 A3.out).mono ?_); (case side1 => exact cP (zO o.out HB.out)); (case side2 => exact p.out); rintro e w' ⟨rfl, ⟨nd, rfl⟩⟩; refine ⟨_, rfl, ?_⟩))
 go_ret
 exact ⟨eW, bW⟩
def Zcy.f (a0 : Int) : Option (Int) := if 0 ≤ (IntKind.u64.wrap (a0)) then (some (shl .i64 1 (IntKind.u64.wrap (a0)))) else (none)
theorem Zcy.calls (a0 : Int) (r : Int) (w : World) (h : Zcy.f a0 = some r) :
  Calls Try.prog 90 #[.int .i64 a0] w fun e w' => e = .returned (.int .i64 r) ∧ Zas w w' := by
 unfold Zcy.f at h
 have H := h
 clear h
 obtain ⟨a, d⟩ : ∃ j_ : Int, (IntKind.u64.wrap (a0)) = j_ := ⟨_, rfl⟩
 replace H : (if 0 ≤ (a) then (some (shl .i64 1 (a))) else (none)) = some r := by first | (rw [d] at H; exact H) | (simp only [d] at H ⊢; exact H)
 by_cases c3 : 0 ≤ (a); rotate_left
 ·rw [if_neg c3] at H
  exact absurd H (by simp)
 rw [if_pos c3] at H
 have n := eq_true c3
 have o := dT c3
 clear c3
 obtain ⟨b, c⟩ : ∃ j_ : Int, (shl .i64 1 (a)) = j_ := ⟨_, rfl⟩
 replace H : (some b) = some r := by first | (rw [c] at H; exact H) | (simp only [c] at H ⊢; exact H)
 have g : (IntKind.i64.wrap (1 * 2 ^ min (a).toNat 64)) = b := c
 have i : (a) ≤ 64 → (IntKind.i64.wrap (1 * 2 ^ (a).toNat)) = b := shl_small c
 have j : (IntKind.i64.wrap (2 ^ min (a).toNat 64)) = b := by have h_ := g; rw [Int.one_mul] at h_; exact h_
 have k : (a) ≤ 64 → (IntKind.i64.wrap (2 ^ (a).toNat)) = b := fun hle_ => by have h_ := i hle_; rw [Int.one_mul] at h_; exact h_
 have l : (wrap64 (1 * 2 ^ min (a).toNat 64)) = b := (i64_w _).symm.trans g
 have m : (a) ≤ 64 → (wrap64 (1 * 2 ^ (a).toNat)) = b := fun h_ => (i64_w _).symm.trans (i h_)
 obtain rfl := oI H
 go_enter Try.func90, Try.ntmps90
 go_wp2
 go_ret
 exact ⟨by first | rfl | (simp; done) | (simp only [← d, ← c] <;> (first | rfl | simp)) | (simp [*]; done), by repeat (first | exact Zas.refl _ | apply Zas.step)⟩
def Zcw.f (a0 : Int) : Option (Int) := (Zcy.f a0).bind fun a => (some (wrap64 (a - 1)))
theorem Zcw.calls (a0 : Int) (r : Int) (w : World) (h : Zcw.f a0 = some r) :
  Calls Try.prog 45 #[.int .i64 a0] w fun e w' => e = .returned (.int .i64 r) ∧ Zas w w' := by
 unfold Zcw.f at h
 have H := h
 clear h
 replace H := bE H
 obtain ⟨b, a, H⟩ := H
 have A2 := mA a
 clear a
 obtain rfl := oI H
 go_enter Try.func45, Try.ntmps45
 go_wp2_with (first | ((with_reducible refine Zat (f := 90) rfl ?_); refine Zbi (some 4) Try.func90 #[.int .i64 a0] ?_; (with_reducible refine (Zcy.calls a0 b _ A2.out).mono ?_); rintro e w' ⟨rfl, ⟨nd, rfl⟩⟩; refine ⟨_, rfl, ?_⟩))
 go_ret
 exact ⟨eW, by repeat (first | exact Zas.refl _ | apply Zas.step)⟩
def Zbx.f (b : Int) (c : Int) (d : Int) (a : List (List Int)) : Option (Int) := some (a.length : Int)
theorem Zbx.calls (b : Int) (c : Int) (d : Int) (g : Option Addr) (i : Nat) (a : List (List Int)) (r : Int) (w : World) (j : Kd.C (Kd.slice 2 (Kd.int .i64)) w g a.length a) (k : a.length ≤ i) (h : Zbx.f b c d a = some r) :
  Calls Try.prog 46 #[.agg #[.int .i64 b, .int .i64 c, .int .i64 d, .slice g a.length i]] w fun e w' => e = .returned (.int .i64 r) ∧ Below w.heap.size w w' := by
 have D := Try.underlying26
 have x := mA j
 have y := mA k
 clear j k
 have HB := mA (Below.refl w.heap.size w)
 unfold Zbx.f at h
 have H := h
 clear h
 obtain rfl := oI H
 go_enter Try.func46, Try.ntmps46
 go_wp2_with (first | ((with_reducible refine Zar (N := 1) rfl ?_); refine boxS (N := 1) (cs := #[.int .i64 b, .int .i64 c, .int .i64 d, .slice g a.length i]) (t := 26) ?_; intro z hg w2 hbox hb; have l := mA (hbox); have A := geW (w := w) hg; have B := geW (w := w) hg; replace HB := mA (Zaf (bW) hb); clear hb hbox hg; obtain ⟨m, n, o, p⟩ := Zaz l.out; obtain ⟨q, s, u, v⟩ := frz4 l.out))
 go_ret
 exact ⟨eW, bW⟩
def Zay.f (a0 : Int) (a1 : Int) (a2 : Int) : Option (Bool) := if a0 ≥ a1 then (some (decide (a0 ≤ a2))) else (some false)
theorem Zay.calls (a0 : Int) (a1 : Int) (a2 : Int) (r : Bool) (w : World) (h : Zay.f a0 a1 a2 = some r) :
  Calls Try.prog 81 #[.int .i64 a0, .int .i64 a1, .int .i64 a2] w fun e w' => e = .returned (.bool r) ∧ Zas w w' := by
 unfold Zay.f at h
 have H := h
 clear h
 by_cases c4 : a0 ≥ a1
 ·rw [if_pos c4] at H
  have a : decide (a1 ≤ a0) = true := dT c4
  clear c4
  obtain rfl := oI H
  go_enter Try.func81, Try.ntmps81
  go_wp2
  go_ret
  exact ⟨eW, by repeat (first | exact Zas.refl _ | apply Zas.step)⟩
 ·rw [if_neg c4] at H
  have a : decide (a1 ≤ a0) = false := dF c4
  clear c4
  obtain rfl := oI H
  go_enter Try.func81, Try.ntmps81
  go_wp2
  go_ret
  exact ⟨eW, by repeat (first | exact Zas.refl _ | apply Zas.step)⟩
end Go.Proofs.Ytgindgodfcfgkaa.P
end M2
section M3
namespace Go.Proofs.Ytgindgodfcfgkaa.P
open Go.RowKit Go.Proofs.Ytgindgodfcfgkaa.Sh Go.Proofs.YtgindgodfcfgkaaW.PrintWords Go.Proofs.YtgindgodfcfgkaaW.PrintLast Go.Proofs.YtgindgodfcfgkaaW.PrintMore
open Kd
attribute [local go_sem] Zcf Zcc Zcn Zcp Zb5 Zb3 Zcd Zcb   -- for this text's walks alone
set_option linter.unusedVariables false
set_option linter.unusedSimpArgs false
mutual
def Za2.j0 : Nat → Int → Bool → Int → Int → Int → List (List Int) → Option (Bool)
 | 0, _, _, _, _, _, _ => none
 | k + 1, x3, e, a, b, c, d => if e = true then (some false) else (Za2.l0 k x3 0 a b c d)
def Za2.l0 : Nat → Int → Int → Int → Int → Int → List (List Int) → Option (Bool)
 | 0, _, _, _, _, _, _ => none
 | k + 1, x3, x4, b, c, d, a => if x4 < x3 then (if 0 ≤ x4 then (if x4 < (a.length : Int) then (if ((Zah a x4).length : Int) = b then (Za2.l1 k x3 x4 0 b c d a) else (some false)) else (none)) else (none)) else (some true)
def Za2.l1 : Nat → Int → Int → Int → Int → Int → Int → List (List Int) → Option (Bool)
 | 0, _, _, _, _, _, _, _ => none
 | k + 1, x3, x4, x5, b, c, d, a => if x5 < b then (if 0 ≤ x4 then (if x4 < (a.length : Int) then (if 0 ≤ x5 then (if x5 < ((Zah a x4).length : Int) then ((Zay.f (rd (Zah a x4) x5) (-1) (wrap64 (x3 - 1))).bind fun e => (if e = true then (Za2.l1 k x3 x4 (wrap64 (x5 + 1)) b c d a) else (some false))) else (none)) else (none)) else (none)) else (none)) else (Za2.l0 k x3 (wrap64 (x4 + 1)) b c d a)
end
def Za2.f (k : Nat) (b : Int) (c : Int) (d : Int) (e : List (List Int)) : Option (Bool) := (Zbx.f b c d e).bind fun a => ((Zay.f b 0 8).bind fun g => (if g = true then ((Zay.f a 1 16).bind fun h => (if h = true then ((Zay.f c 0 (wrap64 (a - 1))).bind fun i => (if i = true then ((Zcw.f a).bind fun j => ((Zay.f d 0 j).bind fun l => (Za2.j0 k a (!l) b c d e))) else (Za2.j0 k a true b c d e))) else (Za2.j0 k a true b c d e))) else (Za2.j0 k a true b c d e)))
theorem Za2.calls (k : Nat) (d : Int) (j : Int) (l : Int) (q : Option Addr) (o : Nat) (c : List (List Int)) (r : Bool) (w : World) (a2 : Kd.C (Kd.slice 2 (Kd.int .i64)) w q c.length c) (a3 : c.length ≤ o) (h : Za2.f k d j l c = some r) :
  Calls Try.prog 39 #[.agg #[.int .i64 d, .int .i64 j, .int .i64 l, .slice q c.length o]] w fun e w' => e = .returned (.bool r) ∧ Below w.heap.size w w' := by
 have cv := Try.underlying26
 have z := mA a2
 have aU := mA a3
 clear a2 a3
 have HB := mA (Below.refl w.heap.size w)
 unfold Za2.f at h
 have H := h
 clear h
 replace H := bE H
 obtain ⟨i, bJ, H⟩ := H
 have A2 := mA bJ
 clear bJ
 have bv := mA H
 clear H
 go_enter Try.func39, Try.ntmps39
 go_upto_region 2 with (first | ((with_reducible refine Zar (N := 1) rfl ?_); refine boxS (N := 1) (cs := #[.int .i64 d, .int .i64 j, .int .i64 l, .slice q c.length o]) (t := 26) ?_; intro b hg w4 hbox hb; have a := mA (hbox); have a4 := geW (w := w) hg; have a5 := geW (w := w) hg; replace HB := mA (Zaf (bW) hb); clear hb hbox hg; obtain ⟨B, D, E, G⟩ := Zaz a.out; obtain ⟨I, J, K, L⟩ := frz4 a.out) | (go_at_call 46; (with_reducible refine (Zbx.calls d j l _ _ c i _ ?side1 ?side2 A2.out).mono ?_); (case side1 => exact cP (zO z.out HB.out)); (case side2 => exact aU.out); rintro e w6 ⟨rfl, hb⟩; replace a := mA (blkB a.out hb); replace HB := mA (Zaf (bW) hb); (try clear hb); (try clear hb2); (try clear hk); (try clear hi)))
 repeat (go_quiet (first | ((with_reducible refine Zar (N := 1) rfl ?_); refine boxS (N := 1) (cs := #[.int .i64 d, .int .i64 j, .int .i64 l, .slice q c.length o]) (t := 26) ?_; intro b hg w4 hbox hb; have a := mA (hbox); have a4 := geW (w := w) hg; have a5 := geW (w := w) hg; replace HB := mA (Zaf (bW) hb); clear hb hbox hg; obtain ⟨B, D, E, G⟩ := Zaz a.out; obtain ⟨I, J, K, L⟩ := frz4 a.out) | (go_at_call 46; (with_reducible refine (Zbx.calls d j l _ _ c i _ ?side1 ?side2 A2.out).mono ?_); (case side1 => exact cP (zO z.out HB.out)); (case side2 => exact aU.out); rintro e w6 ⟨rfl, hb⟩; replace a := mA (blkB a.out hb); replace HB := mA (Zaf (bW) hb); (try clear hb); (try clear hb2); (try clear hk); (try clear hi))); go_upto_region 2 with (first | ((with_reducible refine Zar (N := 1) rfl ?_); refine boxS (N := 1) (cs := #[.int .i64 d, .int .i64 j, .int .i64 l, .slice q c.length o]) (t := 26) ?_; intro b hg w4 hbox hb; have a := mA (hbox); have a4 := geW (w := w) hg; have a5 := geW (w := w) hg; replace HB := mA (Zaf (bW) hb); clear hb hbox hg; obtain ⟨B, D, E, G⟩ := Zaz a.out; obtain ⟨I, J, K, L⟩ := frz4 a.out) | (go_at_call 46; (with_reducible refine (Zbx.calls d j l _ _ c i _ ?side1 ?side2 A2.out).mono ?_); (case side1 => exact cP (zO z.out HB.out)); (case side2 => exact aU.out); rintro e w6 ⟨rfl, hb⟩; replace a := mA (blkB a.out hb); replace HB := mA (Zaf (bW) hb); (try clear hb); (try clear hb2); (try clear hk); (try clear hi))))
 (try simp only [Act.put, List.setIfInBounds_toArray, List.set_cons_zero, List.set_cons_succ])
 go_cut [32] (fun v32 wc => ∃ (kq : Nat) (aJ : Bool), v32 = .bool aJ ∧ Zad (Za2.j0 kq i aJ d j l c = some r) ∧ Zad (kq ≤ k) ∧ Zad (wc.heap[b]? = some (.cells #[.int .i64 d, .int .i64 j, .int .i64 l, (.slice q c.length o)] 26 (0, 0))) ∧ Zad (Below w.heap.size w wc))
 case first =>
  have H := bv.out
  clear bv
  replace H := bE H
  obtain ⟨bN, bK, H⟩ := H
  have A7 := mA bK
  clear bK
  by_cases c8 : bN = true; rotate_left
  ·replace c8 := Bool.eq_false_iff.mpr c8
   subst c8
   rw [iF] at H
   have H' := mA H
   clear H
   have X : w6.cell? ⟨b, 0, none⟩ = some (.int .i64 d) := bc a 0
   have Y : w6.cell? ⟨b, 1, none⟩ = some (.int .i64 j) := bc a 1
   have aa : w6.cell? ⟨b, 2, none⟩ = some (.int .i64 l) := bc a 2
   have ab : w6.cell? ⟨b, 3, none⟩ = some (.slice q c.length o) := bc a 3
   have ac := Zae a.out 0
   have ad := Zae a.out 1
   have ae := Zae a.out 2
   have af := Zae a.out 3
   go_wp2_with (first | (go_at_call 81; (with_reducible refine (Zay.calls d 0 8 false _ A7.out).mono ?_); rintro e w' ⟨rfl, ⟨nd, rfl⟩⟩; (try first | exact dwD | exact dwE)))
   repeat (go_quiet (first | (go_at_call 81; (with_reducible refine (Zay.calls d 0 8 false _ A7.out).mono ?_); rintro e w' ⟨rfl, ⟨nd, rfl⟩⟩; (try first | exact dwD | exact dwE))); try go_wp2_with (first | (go_at_call 81; (with_reducible refine (Zay.calls d 0 8 false _ A7.out).mono ?_); rintro e w' ⟨rfl, ⟨nd, rfl⟩⟩; (try first | exact dwD | exact dwE))))
   go_meet
   case rel => exact ⟨_, (true), (eW), H', ⟨by first | omega | exact Nat.le_refl _⟩, ⟨bP a.out⟩, ⟨bW⟩⟩
  subst c8
  rw [if_pos rfl] at H
  replace H := bE H
  obtain ⟨bO, bL, H⟩ := H
  have A9 := mA bL
  clear bL
  by_cases c10 : bO = true; rotate_left
  ·replace c10 := Bool.eq_false_iff.mpr c10
   subst c10
   rw [iF] at H
   have H' := mA H
   clear H
   have ag : w6.cell? ⟨b, 0, none⟩ = some (.int .i64 d) := bc a 0
   have ah : w6.cell? ⟨b, 1, none⟩ = some (.int .i64 j) := bc a 1
   have ai : w6.cell? ⟨b, 2, none⟩ = some (.int .i64 l) := bc a 2
   have aj : w6.cell? ⟨b, 3, none⟩ = some (.slice q c.length o) := bc a 3
   have ak := Zae a.out 0
   have al := Zae a.out 1
   have am := Zae a.out 2
   have an := Zae a.out 3
   go_wp2_with (first | (go_at_call 81; (with_reducible refine (Zay.calls d 0 8 true _ A7.out).mono ?_); rintro e w' ⟨rfl, ⟨nd, rfl⟩⟩; (try first | exact dwD | exact dwE)) | (go_at_call 81; (with_reducible refine (Zay.calls i 1 16 false _ A9.out).mono ?_); rintro e w' ⟨rfl, ⟨nd, rfl⟩⟩; (try first | exact dwD | exact dwE)))
   repeat (go_quiet (first | (go_at_call 81; (with_reducible refine (Zay.calls d 0 8 true _ A7.out).mono ?_); rintro e w' ⟨rfl, ⟨nd, rfl⟩⟩; (try first | exact dwD | exact dwE)) | (go_at_call 81; (with_reducible refine (Zay.calls i 1 16 false _ A9.out).mono ?_); rintro e w' ⟨rfl, ⟨nd, rfl⟩⟩; (try first | exact dwD | exact dwE))); try go_wp2_with (first | (go_at_call 81; (with_reducible refine (Zay.calls d 0 8 true _ A7.out).mono ?_); rintro e w' ⟨rfl, ⟨nd, rfl⟩⟩; (try first | exact dwD | exact dwE)) | (go_at_call 81; (with_reducible refine (Zay.calls i 1 16 false _ A9.out).mono ?_); rintro e w' ⟨rfl, ⟨nd, rfl⟩⟩; (try first | exact dwD | exact dwE))))
   go_meet
   case rel => exact ⟨_, (true), (eW), H', ⟨by first | omega | exact Nat.le_refl _⟩, ⟨bP a.out⟩, ⟨bW⟩⟩
  subst c10
  rw [if_pos rfl] at H
  replace H := bE H
  obtain ⟨bQ, bw, H⟩ := H
  have aQ := mA bw
  clear bw
  by_cases aK : bQ = true; rotate_left
  ·replace aK := Bool.eq_false_iff.mpr aK
   subst aK
   rw [iF] at H
   have H' := mA H
   clear H
   have ao : w6.cell? ⟨b, 0, none⟩ = some (.int .i64 d) := bc a 0
   have ap : w6.cell? ⟨b, 1, none⟩ = some (.int .i64 j) := bc a 1
   have aq : w6.cell? ⟨b, 2, none⟩ = some (.int .i64 l) := bc a 2
   have ar : w6.cell? ⟨b, 3, none⟩ = some (.slice q c.length o) := bc a 3
   have au := Zae a.out 0
   have av := Zae a.out 1
   have aw := Zae a.out 2
   have ax := Zae a.out 3
   go_wp2_with (first | (go_at_call 81; (with_reducible refine (Zay.calls d 0 8 true _ A7.out).mono ?_); rintro e w' ⟨rfl, ⟨nd, rfl⟩⟩; (try first | exact dwD | exact dwE)) | (go_at_call 81; (with_reducible refine (Zay.calls i 1 16 true _ A9.out).mono ?_); rintro e w' ⟨rfl, ⟨nd, rfl⟩⟩; (try first | exact dwD | exact dwE)) | (go_at_call 81; (with_reducible refine (Zay.calls j 0 (wrap64 (i - 1)) false _ aQ.out).mono ?_); rintro e w' ⟨rfl, ⟨nd, rfl⟩⟩; (try first | exact dwD | exact dwE)))
   repeat (go_quiet (first | (go_at_call 81; (with_reducible refine (Zay.calls d 0 8 true _ A7.out).mono ?_); rintro e w' ⟨rfl, ⟨nd, rfl⟩⟩; (try first | exact dwD | exact dwE)) | (go_at_call 81; (with_reducible refine (Zay.calls i 1 16 true _ A9.out).mono ?_); rintro e w' ⟨rfl, ⟨nd, rfl⟩⟩; (try first | exact dwD | exact dwE)) | (go_at_call 81; (with_reducible refine (Zay.calls j 0 (wrap64 (i - 1)) false _ aQ.out).mono ?_); rintro e w' ⟨rfl, ⟨nd, rfl⟩⟩; (try first | exact dwD | exact dwE))); try go_wp2_with (first | (go_at_call 81; (with_reducible refine (Zay.calls d 0 8 true _ A7.out).mono ?_); rintro e w' ⟨rfl, ⟨nd, rfl⟩⟩; (try first | exact dwD | exact dwE)) | (go_at_call 81; (with_reducible refine (Zay.calls i 1 16 true _ A9.out).mono ?_); rintro e w' ⟨rfl, ⟨nd, rfl⟩⟩; (try first | exact dwD | exact dwE)) | (go_at_call 81; (with_reducible refine (Zay.calls j 0 (wrap64 (i - 1)) false _ aQ.out).mono ?_); rintro e w' ⟨rfl, ⟨nd, rfl⟩⟩; (try first | exact dwD | exact dwE))))
   go_meet
   case rel => exact ⟨_, (true), (eW), H', ⟨by first | omega | exact Nat.le_refl _⟩, ⟨bP a.out⟩, ⟨bW⟩⟩
  subst aK
  rw [if_pos rfl] at H
  replace H := bE H
  obtain ⟨ay, bx, H⟩ := H
  have bz := mA bx
  clear bx
  replace H := bE H
  obtain ⟨aV, bA, H⟩ := H
  have bB := mA bA
  clear bA
  have H' := mA H
  clear H
  have az : w6.cell? ⟨b, 0, none⟩ = some (.int .i64 d) := bc a 0
  have aA : w6.cell? ⟨b, 1, none⟩ = some (.int .i64 j) := bc a 1
  have aB : w6.cell? ⟨b, 2, none⟩ = some (.int .i64 l) := bc a 2
  have aC : w6.cell? ⟨b, 3, none⟩ = some (.slice q c.length o) := bc a 3
  have aD := Zae a.out 0
  have aE := Zae a.out 1
  have aF := Zae a.out 2
  have aG := Zae a.out 3
  go_wp2_with (first | (go_at_call 81; (with_reducible refine (Zay.calls d 0 8 true _ A7.out).mono ?_); rintro e w' ⟨rfl, ⟨nd, rfl⟩⟩; (try first | exact dwD | exact dwE)) | (go_at_call 81; (with_reducible refine (Zay.calls i 1 16 true _ A9.out).mono ?_); rintro e w' ⟨rfl, ⟨nd, rfl⟩⟩; (try first | exact dwD | exact dwE)) | (go_at_call 81; (with_reducible refine (Zay.calls j 0 (wrap64 (i - 1)) true _ aQ.out).mono ?_); rintro e w' ⟨rfl, ⟨nd, rfl⟩⟩; (try first | exact dwD | exact dwE)) | (go_at_call 45; (with_reducible refine (Zcw.calls i ay _ bz.out).mono ?_); rintro e w' ⟨rfl, ⟨nd, rfl⟩⟩; (try first | exact dwD | exact dwE)) | (go_at_call 81; (with_reducible refine (Zay.calls l 0 ay aV _ bB.out).mono ?_); rintro e w' ⟨rfl, ⟨nd, rfl⟩⟩; (try first | exact dwD | exact dwE)))
  repeat (go_quiet (first | (go_at_call 81; (with_reducible refine (Zay.calls d 0 8 true _ A7.out).mono ?_); rintro e w' ⟨rfl, ⟨nd, rfl⟩⟩; (try first | exact dwD | exact dwE)) | (go_at_call 81; (with_reducible refine (Zay.calls i 1 16 true _ A9.out).mono ?_); rintro e w' ⟨rfl, ⟨nd, rfl⟩⟩; (try first | exact dwD | exact dwE)) | (go_at_call 81; (with_reducible refine (Zay.calls j 0 (wrap64 (i - 1)) true _ aQ.out).mono ?_); rintro e w' ⟨rfl, ⟨nd, rfl⟩⟩; (try first | exact dwD | exact dwE)) | (go_at_call 45; (with_reducible refine (Zcw.calls i ay _ bz.out).mono ?_); rintro e w' ⟨rfl, ⟨nd, rfl⟩⟩; (try first | exact dwD | exact dwE)) | (go_at_call 81; (with_reducible refine (Zay.calls l 0 ay aV _ bB.out).mono ?_); rintro e w' ⟨rfl, ⟨nd, rfl⟩⟩; (try first | exact dwD | exact dwE))); try go_wp2_with (first | (go_at_call 81; (with_reducible refine (Zay.calls d 0 8 true _ A7.out).mono ?_); rintro e w' ⟨rfl, ⟨nd, rfl⟩⟩; (try first | exact dwD | exact dwE)) | (go_at_call 81; (with_reducible refine (Zay.calls i 1 16 true _ A9.out).mono ?_); rintro e w' ⟨rfl, ⟨nd, rfl⟩⟩; (try first | exact dwD | exact dwE)) | (go_at_call 81; (with_reducible refine (Zay.calls j 0 (wrap64 (i - 1)) true _ aQ.out).mono ?_); rintro e w' ⟨rfl, ⟨nd, rfl⟩⟩; (try first | exact dwD | exact dwE)) | (go_at_call 45; (with_reducible refine (Zcw.calls i ay _ bz.out).mono ?_); rintro e w' ⟨rfl, ⟨nd, rfl⟩⟩; (try first | exact dwD | exact dwE)) | (go_at_call 81; (with_reducible refine (Zay.calls l 0 ay aV _ bB.out).mono ?_); rintro e w' ⟨rfl, ⟨nd, rfl⟩⟩; (try first | exact dwD | exact dwE))))
  go_meet
  case rel => exact ⟨_, (!aV), (eW), H', ⟨by first | omega | exact Nat.le_refl _⟩, ⟨bP a.out⟩, ⟨bW⟩⟩
 case rest =>
  clear bv
  try clear c1
  try clear p2
  try clear c3
  try clear p6
  try clear c8
  try clear c10
  try clear aK
  try clear az
  try clear aA
  try clear aB
  try clear aC
  try clear ao
  try clear ap
  try clear aq
  try clear ar
  try clear ag
  try clear ah
  try clear ai
  try clear aj
  try clear X
  try clear Y
  try clear aa
  try clear ab
  try clear B
  try clear D
  try clear E
  try clear G
  try clear aD
  try clear aE
  try clear aF
  try clear aG
  try clear au
  try clear av
  try clear aw
  try clear ax
  try clear ak
  try clear al
  try clear am
  try clear an
  try clear ac
  try clear ad
  try clear ae
  try clear af
  try clear I
  try clear J
  try clear K
  try clear L
  obtain ⟨kq, aJ, rfl, HA, a6, a, HB⟩ := hcut
  cases kq with
  | zero => exact absurd HA.out (by simp [Za2.j0])
  | succ bM =>
   have H := HA.out
   clear HA
   simp only [Za2.j0] at H
   by_cases aR : aJ = true
   ·subst aR
    rw [if_pos rfl] at H
    obtain rfl := oI H
    go_wp2
    repeat (go_quiet (fail); try go_wp2)
    go_ret
    exact ⟨eW, bW⟩
   replace aR := Bool.eq_false_iff.mpr aR
   subst aR
   rw [iF] at H
   have H' := mA H
   clear H
   go_wp2
   repeat (go_quiet (fail); try go_wp2)
   go_loopg [4] bM (fun kq v4 w' => ∃ (g : Int), v4 = .int .i64 g ∧ Zad (Za2.l0 kq i g d j l c = some r) ∧ Zad (kq ≤ bM) ∧ Zad (w'.heap[b]? = some (.cells #[.int .i64 d, .int .i64 j, .int .i64 l, (.slice q c.length o)] 26 (0, 0))) ∧ Zad (Below w.heap.size w w'))
   case atStart => exact ⟨(0), (eW), H', ⟨Nat.le_refl _⟩, ⟨bP a.out⟩, ⟨bW⟩⟩
   case round =>
    clear H'
    try clear c1
    try clear p2
    try clear c3
    try clear p6
    try clear c8
    try clear c10
    try clear aK
    try clear aR
    try clear az
    try clear aA
    try clear aB
    try clear aC
    try clear ao
    try clear ap
    try clear aq
    try clear ar
    try clear ag
    try clear ah
    try clear ai
    try clear aj
    try clear X
    try clear Y
    try clear aa
    try clear ab
    try clear B
    try clear D
    try clear E
    try clear G
    try clear aD
    try clear aE
    try clear aF
    try clear aG
    try clear au
    try clear av
    try clear aw
    try clear ax
    try clear ak
    try clear al
    try clear am
    try clear an
    try clear ac
    try clear ad
    try clear ae
    try clear af
    try clear I
    try clear J
    try clear K
    try clear L
    try clear p2
    try clear p6
    obtain ⟨g, rfl, HA, a7, a, HB⟩ := hrel
    cases gk with
    | zero => exact absurd HA.out (by simp [Za2.l0])
    | succ k2 =>
     have H := HA.out
     clear HA
     simp only [Za2.l0] at H
     by_cases aL : g < i; rotate_left
     ·rw [if_neg aL] at H
      have a8 := dF aL
      clear aL
      obtain rfl := oI H
      go_wp2
      repeat (go_quiet (fail); try go_wp2)
      go_ret
      exact ⟨eW, bW⟩
     rw [if_pos aL] at H
     have a8 := dT aL
     clear aL
     by_cases aX : 0 ≤ g; rotate_left
     ·rw [if_neg aX] at H
      exact absurd H (by simp)
     rw [if_pos aX] at H
     have bF := dT aX
     clear aX
     by_cases aY : g < (c.length : Int); rotate_left
     ·rw [if_neg aY] at H
      exact absurd H (by simp)
     rw [if_pos aY] at H
     have bG := dT aY
     clear aY
     by_cases aI : ((Zah c g).length : Int) = d; rotate_left
     ·rw [if_neg aI] at H
      have a9 : (((Zah c g).length : Int) == d) = false := beq_eq_false_iff_ne.mpr aI
      have ba : (((Zah c g).length : Int) != d) = true := bne_iff_ne.mpr aI
      obtain rfl := oI H
      have bS : wr.cell? ⟨b, 0, none⟩ = some (.int .i64 d) := bc a 0
      have bT : wr.cell? ⟨b, 1, none⟩ = some (.int .i64 j) := bc a 1
      have bU : wr.cell? ⟨b, 2, none⟩ = some (.int .i64 l) := bc a 2
      have bV : wr.cell? ⟨b, 3, none⟩ = some (.slice q c.length o) := bc a 3
      have bX := Zae a.out 0
      have bY := Zae a.out 1
      have bZ := Zae a.out 2
      have b0 := Zae a.out 3
      have M : 0 ≤ (g : Int) := ofD
      have O : g < (c.length : Int) := ofD
      obtain ⟨A, aM, aN, aZ, n, u, v⟩ := Zca z.out g M O
      cases aZ
      replace n := (HB.out.cell (wB w n)).trans n
      have bj := mA v
      have bk := mA u
      clear v u
      replace M := eq_true M
      replace O := eq_true O
      go_wp2
      repeat (go_quiet (fail); try go_wp2)
      go_ret
      exact ⟨eW, bW⟩
     rw [if_pos aI] at H
     have a9 : (((Zah c g).length : Int) == d) = true := beq_iff_eq.mpr aI
     have ba : (((Zah c g).length : Int) != d) = false := bne_eq_false_iff_eq.mpr aI
     clear aI
     have H' := mA H
     clear H
     have bl : wr.cell? ⟨b, 0, none⟩ = some (.int .i64 d) := bc a 0
     have bm : wr.cell? ⟨b, 1, none⟩ = some (.int .i64 j) := bc a 1
     have bn : wr.cell? ⟨b, 2, none⟩ = some (.int .i64 l) := bc a 2
     have bo : wr.cell? ⟨b, 3, none⟩ = some (.slice q c.length o) := bc a 3
     have bp := Zae a.out 0
     have bq := Zae a.out 1
     have br := Zae a.out 2
     have bs := Zae a.out 3
     have M : 0 ≤ (g : Int) := ofD
     have O : g < (c.length : Int) := ofD
     obtain ⟨A, aM, aN, aZ, n, u, v⟩ := Zca z.out g M O
     cases aZ
     replace n := (HB.out.cell (wB w n)).trans n
     have bj := mA v
     have bk := mA u
     clear v u
     replace M := eq_true M
     replace O := eq_true O
     go_wp2
     repeat (go_quiet (fail); try go_wp2)
     go_loopg [5] k2 (fun kq v5 w' => ∃ (m : Int), v5 = .int .i64 m ∧ Zad (Za2.l1 kq i g m d j l c = some r) ∧ Zad (kq ≤ k2) ∧ Zad (w'.heap[b]? = some (.cells #[.int .i64 d, .int .i64 j, .int .i64 l, (.slice (some A) c.length o)] 26 (0, 0))) ∧ Zad (Below w.heap.size w w'))
     case atStart => exact ⟨(0), (eW), H', ⟨Nat.le_refl _⟩, ⟨bP a.out⟩, ⟨bW⟩⟩
     case round =>
      clear H'
      try clear c1
      try clear p1
      try clear q1
      try clear hx1
      try clear c2
      try clear p2
      try clear c3
      try clear p6
      try clear c8
      try clear c10
      try clear c11
      try clear p11
      try clear q11
      try clear hx11
      try clear aK
      try clear aR
      try clear aL
      try clear a8
      try clear aX
      try clear bF
      try clear aY
      try clear bG
      try clear aI
      try clear a9
      try clear ba
      try clear az
      try clear aA
      try clear aB
      try clear aC
      try clear ao
      try clear ap
      try clear aq
      try clear ar
      try clear ag
      try clear ah
      try clear ai
      try clear aj
      try clear X
      try clear Y
      try clear aa
      try clear ab
      try clear bl
      try clear bm
      try clear bn
      try clear bo
      try clear B
      try clear D
      try clear E
      try clear G
      try clear aD
      try clear aE
      try clear aF
      try clear aG
      try clear au
      try clear av
      try clear aw
      try clear ax
      try clear ak
      try clear al
      try clear am
      try clear an
      try clear ac
      try clear ad
      try clear ae
      try clear af
      try clear bp
      try clear bq
      try clear br
      try clear bs
      try clear I
      try clear J
      try clear K
      try clear L
      try clear n
      try clear M
      try clear p2
      try clear p6
      try clear O
      obtain ⟨m, rfl, HA, bb, a, HB⟩ := hrel
      cases gk with
      | zero => exact absurd HA.out (by simp [Za2.l1])
      | succ k3 =>
       have H := HA.out
       clear HA
       simp only [Za2.l1] at H
       by_cases aS : m < d; rotate_left
       ·rw [if_neg aS] at H
        have bH := dF aS
        clear aS
        have H' := mA H
        clear H
        have b1 : wr.cell? ⟨b, 0, none⟩ = some (.int .i64 d) := bc a 0
        have b2 : wr.cell? ⟨b, 1, none⟩ = some (.int .i64 j) := bc a 1
        have b3 : wr.cell? ⟨b, 2, none⟩ = some (.int .i64 l) := bc a 2
        have b4 : wr.cell? ⟨b, 3, none⟩ = some (.slice (some A) c.length o) := bc a 3
        have b5 := Zae a.out 0
        have b6 := Zae a.out 1
        have b7 := Zae a.out 2
        have b8 := Zae a.out 3
        go_wp2
        repeat (go_quiet (fail); try go_wp2)
        go_roundg k3
        case measure => have := a6.out; have := a7.out; have := bb.out; omega
        case rel => exact ⟨(wrap64 (g + 1)), (eW), H', ⟨by have := a6.out; have := a7.out; have := bb.out; omega⟩, ⟨bP a.out⟩, ⟨bW⟩⟩
       rw [if_pos aS] at H
       have bH := dT aS
       clear aS
       by_cases bd : 0 ≤ g; rotate_left
       ·rw [if_neg bd] at H
        exact absurd H (by simp)
       rw [if_pos bd] at H
       have cq := dT bd
       clear bd
       by_cases bf : g < (c.length : Int); rotate_left
       ·rw [if_neg bf] at H
        exact absurd H (by simp)
       rw [if_pos bf] at H
       have cr := dT bf
       clear bf
       by_cases bg : 0 ≤ m; rotate_left
       ·rw [if_neg bg] at H
        exact absurd H (by simp)
       rw [if_pos bg] at H
       have ct := dT bg
       clear bg
       by_cases bh : m < ((Zah c g).length : Int); rotate_left
       ·rw [if_neg bh] at H
        exact absurd H (by simp)
       rw [if_pos bh] at H
       have cu := dT bh
       clear bh
       replace H := bE H
       obtain ⟨bR, bC, H⟩ := H
       have aT := mA bC
       clear bC
       by_cases bi : bR = true; rotate_left
       ·replace bi := Bool.eq_false_iff.mpr bi
        subst bi
        rw [iF] at H
        obtain rfl := oI H
        have b9 : wr.cell? ⟨b, 0, none⟩ = some (.int .i64 d) := bc a 0
        have ca : wr.cell? ⟨b, 1, none⟩ = some (.int .i64 j) := bc a 1
        have cb : wr.cell? ⟨b, 2, none⟩ = some (.int .i64 l) := bc a 2
        have cc : wr.cell? ⟨b, 3, none⟩ = some (.slice (some A) c.length o) := bc a 3
        have cd := Zae a.out 0
        have ce := Zae a.out 1
        have cf := Zae a.out 2
        have cg := Zae a.out 3
        have P : 0 ≤ (g : Int) := ofD
        have T : g < (c.length : Int) := ofD
        obtain ⟨aW, aO, aP, a0, p, x, y⟩ := Zca z.out g P T
        obtain rfl : A = aW := (by injection a0)
        (try (have bD : aO = aM ∧ aP = aN := (by have e_ := p.symm.trans n; simpa using e_)))
        replace p := (HB.out.cell (wB w p)).trans p
        have aH := mA y
        have bu := mA x
        clear y x
        replace P := eq_true P
        replace T := eq_true T
        have U : 0 ≤ (m : Int) := ofD
        have W : m < ((Zah c g).length : Int) := ofD
        obtain ⟨bI, a1, s⟩ := zL aH.out m U W
        cases a1
        replace s := (HB.out.cell (wB w s)).trans s
        replace U := eq_true U
        replace W := eq_true W
        go_wp2_with (first | (go_at_call 81; (with_reducible refine (Zay.calls (rd (Zah c g) m) (-1) (wrap64 (i - 1)) false _ aT.out).mono ?_); rintro e w' ⟨rfl, ⟨nd, rfl⟩⟩; (try first | exact dwD | exact dwE)))
        repeat (go_quiet (first | (go_at_call 81; (with_reducible refine (Zay.calls (rd (Zah c g) m) (-1) (wrap64 (i - 1)) false _ aT.out).mono ?_); rintro e w' ⟨rfl, ⟨nd, rfl⟩⟩; (try first | exact dwD | exact dwE))); try go_wp2_with (first | (go_at_call 81; (with_reducible refine (Zay.calls (rd (Zah c g) m) (-1) (wrap64 (i - 1)) false _ aT.out).mono ?_); rintro e w' ⟨rfl, ⟨nd, rfl⟩⟩; (try first | exact dwD | exact dwE))))
        go_ret
        exact ⟨eW, bW⟩
       subst bi
       rw [if_pos rfl] at H
       have H' := mA H
       clear H
       have ch : wr.cell? ⟨b, 0, none⟩ = some (.int .i64 d) := bc a 0
       have ci : wr.cell? ⟨b, 1, none⟩ = some (.int .i64 j) := bc a 1
       have cj : wr.cell? ⟨b, 2, none⟩ = some (.int .i64 l) := bc a 2
       have ck : wr.cell? ⟨b, 3, none⟩ = some (.slice (some A) c.length o) := bc a 3
       have cm := Zae a.out 0
       have cn := Zae a.out 1
       have co := Zae a.out 2
       have cp := Zae a.out 3
       have P : 0 ≤ (g : Int) := ofD
       have T : g < (c.length : Int) := ofD
       obtain ⟨aW, aO, aP, a0, p, x, y⟩ := Zca z.out g P T
       obtain rfl : A = aW := (by injection a0)
       (try (have bD : aO = aM ∧ aP = aN := (by have e_ := p.symm.trans n; simpa using e_)))
       replace p := (HB.out.cell (wB w p)).trans p
       have aH := mA y
       have bu := mA x
       clear y x
       replace P := eq_true P
       replace T := eq_true T
       have U : 0 ≤ (m : Int) := ofD
       have W : m < ((Zah c g).length : Int) := ofD
       obtain ⟨bI, a1, s⟩ := zL aH.out m U W
       cases a1
       replace s := (HB.out.cell (wB w s)).trans s
       replace U := eq_true U
       replace W := eq_true W
       go_wp2_with (first | (go_at_call 81; (with_reducible refine (Zay.calls (rd (Zah c g) m) (-1) (wrap64 (i - 1)) true _ aT.out).mono ?_); rintro e w' ⟨rfl, ⟨nd, rfl⟩⟩; (try first | exact dwD | exact dwE)))
       repeat (go_quiet (first | (go_at_call 81; (with_reducible refine (Zay.calls (rd (Zah c g) m) (-1) (wrap64 (i - 1)) true _ aT.out).mono ?_); rintro e w' ⟨rfl, ⟨nd, rfl⟩⟩; (try first | exact dwD | exact dwE))); try go_wp2_with (first | (go_at_call 81; (with_reducible refine (Zay.calls (rd (Zah c g) m) (-1) (wrap64 (i - 1)) true _ aT.out).mono ?_); rintro e w' ⟨rfl, ⟨nd, rfl⟩⟩; (try first | exact dwD | exact dwE))))
       go_roundg k3
       case measure => have := a6.out; have := a7.out; have := bb.out; omega
       case rel => exact ⟨(wrap64 (m + 1)), (eW), H', ⟨by have := a6.out; have := a7.out; have := bb.out; omega⟩, ⟨bP a.out⟩, ⟨bW⟩⟩
end Go.Proofs.Ytgindgodfcfgkaa.P
end M3
