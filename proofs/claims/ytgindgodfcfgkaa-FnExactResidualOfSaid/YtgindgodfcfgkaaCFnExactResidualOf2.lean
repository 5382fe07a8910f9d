import Derived.Laws.StructEq
import Derived.Lib.SliceRun
import Derived.Shelf.Abstract
import Derived.Test.YtgindgodfcfgkaaProg
import Derived.Test.YtgindgodfcfgkaaCFnExactResidualOf1
set_option maxHeartbeats 8000000
set_option maxRecDepth 100000
section M0
namespace Go.Proofs.Ytgindgodfcfgkaa.Sh
open Go.RowKit Go.Proofs.YtgindgodfcfgkaaW.PrintWords Go.Proofs.YtgindgodfcfgkaaW.PrintLast Go.Proofs.YtgindgodfcfgkaaW.PrintMore
open Kd
theorem bW {B : Nat} {w W : World} (h : Below B w W := by repeat (first | (with_reducible first | exact Zad.out (by assumption) | apply Zbe | apply Zbd | apply Za3 | refine Za7 ?_ (Zad.out (by assumption))) | exact Zad.out (by assumption))) : Below B w W := h
theorem kW {w W : World} {S : Nat → Prop} (h : Kept w W S := by repeat (first | (with_reducible first | exact Zad.out (by assumption) | apply Kept.alloc | apply Kept.drewN | apply Kept.drew | refine Kept.setCell ?_ (.inr (Zad.out (by assumption))) _) | exact Zad.out (by assumption))) : Kept w W S := h
theorem ofD {p : Prop} [Decidable p] (h : decide p = true := by first | (with_reducible assumption) | assumption) : p := of_decide_eq_true h
theorem rP {p q : Prop} (h : p) (k : p → q := by intro h_; (with_reducible repeat (first | apply Kd.zD | apply Kd.zE | apply Kd.zA)); exact h_) : q := k h
theorem sP {p q : Prop} (h : p) (k : p → q := by intro h_; (with_reducible repeat (first | apply Kd.zI | apply Kd.zJ | apply Kd.zG)); exact h_) : q := k h
theorem bP {p q : Prop} (h : p) (k : p → q := by intro h_; (with_reducible repeat (first | refine Zac ?_ _ | refine Zab ?_ | refine Zaa ?_ _)); exact h_) : q := k h
theorem cP {p q : Prop} (h : p) (k : p → q := by intro h_; repeat (first | exact h_ | (with_reducible refine Kd.yY ?_ _) | (with_reducible refine Kd.xA ?_ _) | (with_reducible refine Kd.yZ ?_))) : q := k h
theorem eW {α : Type} {a b : α} (h : a = b := by first | rfl | (simp; done) | (simp [*]; done)) : a = b := h
section
variable {P : Program} {ops : Array Oper} {o : Oper} {rest : List Oper} {a : Act} {Q : Exit → Act → World → Prop}
theorem boxS {W : World} {N : Tmp} {cs : Array Value} {t : TypeId}
    (h : ∀ g, g = W.heap.size → ∀ w1, w1.heap[g]? = some (.cells cs t (0, 0)) → Below W.heap.size W w1 → wpList P ops Q rest (a.put o.dst (.pointer (some ⟨g, 0, none⟩))) w1)
    (hd : o.dst = some N := by rfl) (hgd : o.guard = none := by rfl)
    (hrun : (execOp a.eval o).run P W = .ok (.value (.pointer (some ⟨W.heap.size, 0, none⟩))) (W.alloc (.cells cs t (0, 0))) := by first | (go_simp; done) | (go_simp; rfl)) : wpList P ops Q (o :: rest) a W :=
  box_event hgd hd hrun h
theorem Zc2 {W w1 : World} {t : TypeId} {p : Tmp} {v : Operand} (h : ∀ w', w' = w1 → wpList P ops Q rest a w')
    (ho : o.op = .store t (.tmp p) v := by rfl) (hgd : o.guard = none := by rfl) (hN : o.dst = none := by rfl)
    (hrun : (execOp a.eval o).run P W = .ok .skip w1 := by first | (go_simp; done) | (go_simp; rfl)) : wpList P ops Q (o :: rest) a W :=
  Zdk hgd ho hN hrun h
theorem Za2 {w : World} (N : Option Tmp) {f : FuncId} {fn : Func} {as9 : Array Operand} {ts : Array TypeId} (hf : P.funcs[f]? = some fn) (args : Array Value)
    (h : Calls P f args w fun e w' => ∃ v, e = .returned v ∧ wpList P ops Q rest (a.put N v) w')
    (hd : o.dst = N := by rfl) (hg : o.guard = none := by rfl) (hname : (fn.name == "runtime.NumGoroutine") = false := by kernel_rfl) (hb : fn.body.isSome = true := by rfl)
    (hop : o.op = .call { callee := .value (.func f), args := as9, argTypes := ts } := by rfl)
    (hargs : as9.map a.eval = args := by (try simp only [List.map_toArray, List.map_cons, List.map_nil]); first | done | rfl | (simp only [List.length_drop, List.length_take]; rfl)) : wpList P ops Q (o :: rest) a w :=
  goesL_ N hd hg hf hname hb args hop hargs h
end
theorem blkB {w W w1 : World} {g : Nat} {o : Obj} (h : w.heap[g]? = some o) (hb : Below W.heap.size W w1) (k : (w.heap[g]? = some o) → (W.heap[g]? = some o) := by intro h_; (with_reducible repeat (first | refine Zac ?_ _ | refine Zab ?_ | refine Zaa ?_ _)); exact h_) : w1.heap[g]? = some o := Za1 (k h) hb
theorem mA {p : Prop} (h : p) : Zad p := ⟨h⟩
theorem neB {U W : World} {g k : Nat} {o : Obj} (hg : k = W.heap.size) (h : Zad (U.heap[g]? = some o)) (t : U.heap[g]? = some o → W.heap[g]? = some o := by intro h_; (with_reducible repeat (first | refine Zac ?_ _ | refine Zab ?_ | refine Zaa ?_ _)); exact h_) : g ≠ k := by rw [hg]; exact Nat.ne_of_lt (blk_lt (t h.out))
theorem neC {U W : World} {g k : Nat} {o : Obj} (hg : k = W.heap.size) (h : Zad (U.heap[g]? = some o)) (t : U.heap[g]? = some o → W.heap[g]? = some o := by intro h_; (with_reducible repeat (first | refine Zac ?_ _ | refine Zab ?_ | refine Zaa ?_ _)); exact h_) : k ≠ g := by rw [hg]; exact Nat.ne_of_gt (blk_lt (t h.out))
theorem bc {w : World} {g : Nat} {t : TypeId} {cs : Array Value} {v : Value} (h : Zad (w.heap[g]? = some (.cells cs t (0, 0)))) (i : Nat) (e : cs[i]? = some v := by rfl) : w.cell? ⟨g, i, none⟩ = some v := (Zby h.out i).trans e
theorem wB (w : World) {a : Addr} {v : Value} (h : w.cell? a = some v) : a.block < w.heap.size := World.block_lt_of_cell? w _ h
theorem cB {w W : World} {a : Addr} {v : Value} (h : Zad (Below w.heap.size w W)) (x : w.cell? a = some v) : W.cell? a = some v := (h.out.cell (World.block_lt_of_cell? w _ x)).trans x
theorem dT {p : Prop} [Decidable p] (h : p) : decide p = true := decide_eq_true h
theorem dF {p : Prop} [Decidable p] (h : ¬ p) : decide p = false := decide_eq_false h
theorem bE {α β : Type} {o : Option α} {f : α → Option β} {r : β} (h : o.bind f = some r) : ∃ a, o = some a ∧ f a = some r := Option.bind_eq_some_iff.mp h
theorem oI {α : Type} {a b : α} (h : some a = some b) : a = b := Option.some.inj h
theorem dwD {α : Type} {x : α} {w : World} {a b : Nat} : x = x ∧ ∃ n, (w.drewN a).drewN b = w.drewN n := ⟨rfl, _, World.drewN_drewN _ _ _⟩
theorem dwE {α : Type} {x : α} {w : World} {a b c : Nat} : x = x ∧ ∃ n, (w.drewN (a + b)).drewN c = w.drewN (a + n) := ⟨rfl, _, Eq.trans (World.drewN_drewN _ _ _) (congrArg (World.drewN _) (Nat.add_assoc _ _ _))⟩
theorem iF {α : Type} {a b : α} : (if false = true then a else b) = b := if_neg (by decide)
theorem putS (n : Tmp) {P : Program} {ops : Array Oper} {Q : Exit → Act → World → Prop} {md : Region.Mode} {S : World → Prop} {ds : List Nat} {fuel : Nat} {l : Array Bool} {a a' : Act} {w : World} {v : Value} (h : Za5 P md ops Q S ds fuel l a' w) (ha : a.put (some n) v = a' := by (simp only [Act.put, List.setIfInBounds_toArray, List.set_cons_zero, List.set_cons_succ, i64_w, i32_w]; rfl)) : Za5 P md ops Q S ds fuel l (a.put (some n) v) w := norm_ ha h
theorem geW {w W : World} {g : Nat} (hg : g = W.heap.size) (h : Below w.heap.size w W := by repeat (first | (with_reducible first | exact Zad.out (by assumption) | apply Zbe | apply Zbd | apply Za3 | refine Za7 ?_ (Zad.out (by assumption))) | exact Zad.out (by assumption))) : Zad (w.heap.size ≤ g) := ⟨hg ▸ Zan h⟩
theorem cells3 {w : World} {g : Nat} {a b c : Value} {t : TypeId} (h : w.heap[g]? = some (.cells #[a, b, c] t (0, 0))) : w.cell? ⟨g, 0, none⟩ = some a ∧ w.cell? ⟨g, 1, none⟩ = some b ∧ w.cell? ⟨g, 2, none⟩ = some c := by
  refine ⟨?_, ?_, ?_⟩
  · rw [Zby h 0]; rfl
  · rw [Zby h 1]; rfl
  · rw [Zby h 2]; rfl
theorem Zau {w : World} {g : Nat} {a b c d : Value} {t : TypeId} (h : w.heap[g]? = some (.cells #[a, b, c, d] t (0, 0))) : w.cell? ⟨g, 0, none⟩ = some a ∧ w.cell? ⟨g, 1, none⟩ = some b ∧ w.cell? ⟨g, 2, none⟩ = some c ∧ w.cell? ⟨g, 3, none⟩ = some d := by
  refine ⟨?_, ?_, ?_, ?_⟩
  · rw [Zby h 0]; rfl
  · rw [Zby h 1]; rfl
  · rw [Zby h 2]; rfl
  · rw [Zby h 3]; rfl
theorem frz3 {w : World} {g : Nat} {cs : Array Value} {t : TypeId} (h : w.heap[g]? = some (.cells cs t (0, 0))) : w.frozen? ⟨g, 0, none⟩ = false ∧ w.frozen? ⟨g, 1, none⟩ = false ∧ w.frozen? ⟨g, 2, none⟩ = false := ⟨Zae h 0, Zae h 1, Zae h 2⟩
theorem frz4 {w : World} {g : Nat} {cs : Array Value} {t : TypeId} (h : w.heap[g]? = some (.cells cs t (0, 0))) : w.frozen? ⟨g, 0, none⟩ = false ∧ w.frozen? ⟨g, 1, none⟩ = false ∧ w.frozen? ⟨g, 2, none⟩ = false ∧ w.frozen? ⟨g, 3, none⟩ = false := ⟨Zae h 0, Zae h 1, Zae h 2, Zae h 3⟩
section
variable {P : Program} {ops : Array Oper} {Q : Exit → Act → World → Prop} {md : Region.Mode} {S : World → Prop} {ds : List Nat}
theorem Zav {i : Nat} {N : Option Tmp} {oi : Oper} {v : Value} {fuel : Nat} {l : Array Bool} {a : Act} {w : World} {a' : Act} (hc : anyB md ops l (l.setIfInBounds i true) i = true) (h : Za5 P md ops Q S ds fuel (l.setIfInBounds i true) a' w)
    (hi : ops[i]? = some oi := by rfl) (hN : oi.dst = N := by rfl) (hQ : ∀ c a w, Q (.panic c) (a.put oi.dst v) w → Q (.panic c) a w := by exact fun _ _ _ h => h) (hy : Yields P ops oi v a := by (refine Or.inl ⟨by rfl, ?_⟩; intro w'; go_simp; with_reducible rfl))
    (ha : a.put N v = a' := by (simp only [Act.put, List.setIfInBounds_toArray, List.set_cons_zero, List.set_cons_succ, i64_w, i32_w]; rfl)) : Za5 P md ops Q S ds (fuel + 1) l a w := pure_ _ hi hN hc hQ hy ha h
theorem Zbt {i : Nat} {N : Option Tmp} {oi : Oper} {v : Value} {fuel : Nat} {l : Array Bool} {a : Act} {w : World} {a' : Act} (hc : takeB md ops ds l (l.setIfInBounds i true) i = true) (hS : S w) (h : Za5 P md ops Q S ds fuel (l.setIfInBounds i true) a' w)
    (hi : ops[i]? = some oi := by rfl) (hN : oi.dst = N := by rfl) (hQ : ∀ c a w, Q (.panic c) (a.put oi.dst v) w → Q (.panic c) a w := by exact fun _ _ _ h => h) (hy : YieldsIf P ops S oi v a := by (refine Or.inl ⟨by rfl, ?_⟩; intro w' hs_; (repeat (have := hs_.1; replace hs_ := hs_.2)); go_simp; with_reducible rfl))
    (ha : a.put N v = a' := by (simp only [Act.put, List.setIfInBounds_toArray, List.set_cons_zero, List.set_cons_succ, i64_w, i32_w]; rfl)) : Za5 P md ops Q S ds (fuel + 1) l a w := take_ _ hi hN hc hQ hy hS ha h
end
/-- A list without elements lies as9 nil. -/
def NilOf {α : Type} (v : Value) (r : List α) : Prop := r = [] → v = .slice none 0 0
theorem NilOf.cons {α : Type} {v : Value} {r l : List α} {x : α} (h : r = x :: l) : NilOf v r := fun e => by rw [h] at e; cases e
section
variable {P : Program} {ops : Array Oper} {o : Oper} {rest : List Oper} {a : Act} {Q : Exit → Act → World → Prop} {Kc : Act → World → Prop} {α : Type}
theorem own_new {v : Value} {n : Nat} (h : ∃ b, v.ownBlock = some b ∧ n ≤ b) : ∀ k, v.ownBlock = some k → n ≤ k := by
  obtain ⟨b, h1, h2⟩ := h
  intro k hk
  rw [h1] at hk
  injection hk with hk
  omega
theorem lit1_rep {d : Kd α} {W : World} {base : Nat} {okp : Nat → Prop} {xs : List α} {inner : List Value} (hp : ∃ x, xs = [x] ∧ inner.length = d.sz ∧ d.M W base okp x inner) :
    inner.length = xs.length * d.sz ∧ (∀ j x, xs[j]? = some x → d.M W base (fun k => j = 0 ∧ okp k) x ((inner.drop (j * d.sz)).take d.sz)) := by
  obtain ⟨x0, rfl, hl, hM⟩ := hp
  refine ⟨by simp [hl], fun j x hx => ?_⟩
  cases j with
  | zero =>
    simp only [List.getElem?_cons_zero, Option.some.injEq] at hx
    subst hx
    rw [Nat.zero_mul, List.drop_zero, List.take_of_length_le (by omega)]
    exact d.M_mono (fun _ hk => ⟨rfl, hk⟩) hM
  | succ j => simp at hx
theorem Kd.S_lit1 (d : Kd α) {w0 W : World} (base e : Nat) (hgd : o.guard = none) {N : Tmp} (hd : o.dst = some N) {xs : List α} {inner : List Value} {ok okp : Nat → Prop}
    (hrun : (execOp a.eval o).run P W = .ok (.value (.slice (some ⟨W.heap.size, 0, none⟩) xs.length xs.length)) (W.alloc (.cells inner.toArray e)))
    (hp : ∃ x, xs = [x] ∧ inner.length = d.sz ∧ d.M W base okp x inner) (hok : ∀ k, okp k → ok k) (hfresh : ok W.heap.size) (_HB : Below base w0 W) (hbase : base ≤ W.heap.size) (hm : xs.length ≤ 9223372036854775807)
    (h : ∀ v1 w1, Kd.S d e w1 base ok v1 xs → Below W.heap.size W w1 → W.grownBy w1 none → (∃ b, v1.ownBlock = some b ∧ W.heap.size ≤ b) → wpList P ops Q rest (a.put o.dst v1) w1) : wpList P ops Q (o :: rest) a W := by
  obtain ⟨h1, h2⟩ := lit1_rep hp
  refine Kd.S_lits d (w0 := W) base e hgd hd (ok := ok) (fun j k => j = 0 ∧ okp k) hrun h1 h2 (fun i j k hi hj => by rw [hi.1, hj.1]) (fun j k hk => hok k hk.2) hfresh (Below.refl _ _) hbase hm ?_
  exact fun v1 w1 hS _ hg hn => h v1 w1 hS ⟨hg.os, hg.tape, hg.output, hg.size, fun i hi => hg.block i hi (by simp)⟩ hg hn
theorem Kd.S_lit1_step (d : Kd α) {w0 W : World} (base e : Nat) (hw : Region.wanted o (yielded ops a.tmps) = true) {N : Tmp} (hd : o.dst = some N) {xs : List α} {inner : List Value} {ok okp : Nat → Prop}
    (hrun : (execOp a.eval o).run P W = .ok (.value (.slice (some ⟨W.heap.size, 0, none⟩) xs.length xs.length)) (W.alloc (.cells inner.toArray e)))
    (hp : ∃ x, xs = [x] ∧ inner.length = d.sz ∧ d.M W base okp x inner) (hok : ∀ k, okp k → ok k) (hfresh : ok W.heap.size) (_HB : Below base w0 W) (hbase : base ≤ W.heap.size) (hm : xs.length ≤ 9223372036854775807)
    (h : ∀ v1 w1, Kd.S d e w1 base ok v1 xs → Below W.heap.size W w1 → W.grownBy w1 none → (∃ b, v1.ownBlock = some b ∧ W.heap.size ≤ b) → Kc (a.put o.dst v1) w1) :
    if Region.wanted o (yielded ops a.tmps) = true then Oper.wp P o a W Kc Q else Kc (a.put o.dst undef) W := by
  obtain ⟨h1, h2⟩ := lit1_rep hp
  refine Kd.S_lits_step d (w0 := W) base e hw hd (ok := ok) (fun j k => j = 0 ∧ okp k) hrun h1 h2 (fun i j k hi hj => by rw [hi.1, hj.1]) (fun j k hk => hok k hk.2) hfresh (Below.refl _ _) hbase hm ?_
  exact fun v1 w1 hS _ hg hn => h v1 w1 hS ⟨hg.os, hg.tape, hg.output, hg.size, fun i hi => hg.block i hi (by simp)⟩ hg hn
end
section
variable {α : Type} {d : Kd α} {e base n : Nat} {ok : Nat → Prop} {w1 W : World} {u v : Value} {xs : List α}
theorem sizeI (_hb : Below W.heap.size W w1) : ∃ n, Zad (n = W.heap.size) := ⟨_, ⟨rfl⟩⟩
theorem Kd.S_elderI (h : Kd.S d e W base ok u xs) (hbase : ∀ k, v.ownBlock = some k → W.heap.size ≤ k) (hb : Below W.heap.size W w1) (hn : Zad (n = W.heap.size)) : Kd.S d e w1 base (fun k => (ok k ∧ some k ≠ v.ownBlock) ∧ k < n) u xs :=
  Kd.zF (Kd.yK (Kd.S_bound h) hbase hb) (fun k hk => ⟨⟨hk.1.1, hk.2⟩, by have := hk.1.2.2.1; have := hn.out; omega⟩)
theorem Kd.S_newI (h : Kd.S d e w1 W.heap.size ok v xs) (hn : Zad (n = W.heap.size)) : Kd.S d e w1 W.heap.size (fun k => ok k ∧ n ≤ k) v xs :=
  Kd.zF (Kd.S_bound h) (fun k hk => ⟨hk.1, by have := hk.2.1; have := hn.out; omega⟩)
end
section
variable {P : Program} {ops : Array Oper} {o : Oper} {rest : List Oper} {a : Act} {Q : Exit → Act → World → Prop} {Kc : Act → World → Prop} {α : Type}
open Classical in
theorem S_merge {d : Kd α} {e base m c : Nat} {ok okp : Nat → Prop} {W : World} {v : Value} {A : Option Addr} {xs ys : List α} (HO : Kd.S d e W base (fun k => ok k ∧ ¬ okp k) v xs) (HX : Kd.S d e W base okp (.slice A m c) ys) :
    ∃ g, (Kd.tag g d).R e W base ok v xs.zipIdx ∧ Zch (fun p cs => (Kd.tag g d).M W base okp p cs) d.sz W A m (ys.zipIdx xs.length) := by
  obtain ⟨f, HO⟩ := HO
  obtain ⟨f', _, hX⟩ := HX
  obtain ⟨A', c', he, _, hrow⟩ := Zcw.reads hX
  injection he with h1 h2 h3
  subst h1
  rw [List.length_zipIdx] at hrow h2
  rw [h2]
  refine ⟨fun k => if okp k then xs.length + f' k else f k, Kd.zC (Kd.R_tag HO (fun k hk _ => if_neg hk.2)) (fun _ hk => hk.1), by simp, hrow.2.1, fun hn => ?_⟩
  obtain ⟨ad, e1, hc⟩ := hrow.2.2 hn
  refine ⟨ad, e1, fun j p hj => ?_⟩
  rw [List.getElem?_zipIdx] at hj
  obtain ⟨y, hy, rfl⟩ := Option.map_eq_some_iff.1 hj
  obtain ⟨cs, q1, q2, q3⟩ := hc j (y, j) (by rw [List.getElem?_zipIdx, hy]; simp)
  exact ⟨cs, q1, d.M_mono (fun k hk => ⟨hk.1.1, by
    have e2 : f' k = j := hk.2
    show (if okp k then xs.length + f' k else f k) = xs.length + j
    rw [if_pos hk.1.1, e2]⟩) q2, q3⟩
theorem Kd.S_append_rows_step (d : Kd α) {w0 W : World} (base : Nat) (hw : Region.wanted o (yielded ops a.tmps) = true) (s x : Operand) (t e : TypeId) (z : Value) (bytes : Nat)
    (ho : o.op = .call { callee := .builtin .append, args := #[s, x], argTypes := #[t, t] })
    (ht : P.underlying t = some (.slice e)) (hinfo : (P.info? e).map (fun i => (i.zero, i.size, i.bytes)) = some (some z, d.sz, bytes)) (hz : z.cells.size = d.sz) (j : 0 < d.sz) (l : 0 < bytes)
    (v : Value) (xs ys : List α) (A : Option Addr) (m c : Nat) (ok okp : Nat → Prop) (hs : a.eval s = v) (hx : a.eval x = .slice A m c)
    (HO : Kd.S d e W base (fun k => ok k ∧ ¬ okp k) v xs) (HX : Kd.S d e W base okp (.slice A m c) ys) (hokp : ∀ k, okp k → ok k ∧ some k ≠ v.ownBlock) (hfresh : ∀ k, W.heap.size ≤ k → ok k)
    (HB : Below base w0 W) (hbase : base ≤ W.heap.size) (hl : (xs.length + m) * bytes ≤ 140737488355328)
    (h : ∀ v1 w1, Kd.S d e w1 base ok v1 (xs ++ ys) → Below base w0 w1 → W.grownBy w1 v.ownBlock → (v1.ownBlock = v.ownBlock ∨ ∃ b, v1.ownBlock = some b ∧ W.heap.size ≤ b) → Kc (a.put o.dst v1) w1) :
    if Region.wanted o (yielded ops a.tmps) = true then Oper.wp P o a W Kc Q else Kc (a.put o.dst undef) W := by
  obtain ⟨g, h1, h2⟩ := S_merge HO HX
  refine Kd.xW (Kd.tag g d) base hw s x t e z bytes ho ht hinfo hz j l v _ _ A m c ok okp hs hx h1 h2 (fun _ _ hk => hk) hokp hfresh HB hbase (by rw [List.length_zipIdx]; exact hl) ?_
  intro v1 w1 hr hb hg hat
  refine h v1 w1 ⟨g, ?_⟩ hb hg hat
  rw [List.zipIdx_append, Nat.zero_add]
  exact hr
end
theorem ltge {k n : Nat} (h1 : k < n) (h2 : n ≤ k) : False := by omega
end Go.Proofs.Ytgindgodfcfgkaa.Sh
end M0
section M1
namespace Go.Proofs.Ytgindgodfcfgkaa.P
open Go.RowKit Go.Proofs.Ytgindgodfcfgkaa.Sh Go.Proofs.YtgindgodfcfgkaaW.PrintWords Go.Proofs.YtgindgodfcfgkaaW.PrintLast Go.Proofs.YtgindgodfcfgkaaW.PrintMore
open Kd
attribute [local go_sem] Zcc Zcd Zck Zcl Zb2 Zb3 Zce Zcb   -- for this text's walks alone
set_option linter.unusedVariables false
set_option linter.unusedSimpArgs false
def errW : Option Int → Value
  | none => .nilIface
  | some c => .iface 0 (.int .i64 c)
theorem errW_none : errW none = .nilIface := rfl
theorem errW_some (c : Int) : errW (some c) = .iface 0 (.int .i64 c) := rfl
theorem info2 : (Try.prog.info? 2).map (fun i => (i.zero, i.size, i.bytes)) = some (some (.int .i64 0), 1, 8) := by kernel_rfl
theorem info4 : (Try.prog.info? 4).map (fun i => (i.zero, i.size, i.bytes)) = some (some (.bool false), 1, 1) := by kernel_rfl
theorem info5 : (Try.prog.info? 5).map (fun i => (i.zero, i.size, i.bytes)) = some (some (.int .u8 0), 1, 1) := by kernel_rfl
theorem info33 : (Try.prog.info? 33).map (fun i => (i.zero, i.size, i.bytes)) = some (some (.slice none 0 0), 1, 24) := by kernel_rfl
-- the values' own types
def Zah (xs : List (List Int)) (i : Int) : (List Int) := xs.getD i.toNat ([] : List Int)
theorem Zca {w : World} {A : Option Addr} {n : Nat} {xs : List (List Int)} (h : Kd.C (Kd.slice 2 (Kd.int .i64)) w A n xs) (i : Int) (h0 : 0 ≤ i) (h1 : i < n) : ∃ ad A0 c0, A = some ad ∧ w.cell? (ad.add i.toNat) = some (.slice A0 (Zah xs i).length c0) ∧ (Zah xs i).length ≤ c0 ∧ (Kd.int .i64).C w A0 (Zah xs i).length (Zah xs i) := by
  obtain ⟨ad, c, e, _, hK, a⟩ := Kd.C_get h ([] : List Int) i h0 h1
  have hc : ∀ j u, c[j]? = some u → w.cell? (ad.add (i.toNat * 1 + j)) = some u := a
  obtain ⟨A0, c0, rfl, l0, g0⟩ := hK
  exact ⟨ad, A0, c0, e, by have hq := hc 0 _ rfl; rwa [Nat.mul_one, Nat.add_zero] at hq, l0, g0⟩
end Go.Proofs.Ytgindgodfcfgkaa.P
end M1
section M2
namespace Go.Proofs.Ytgindgodfcfgkaa.P
open Go.RowKit Go.Proofs.Ytgindgodfcfgkaa.Sh Go.Proofs.YtgindgodfcfgkaaW.PrintWords Go.Proofs.YtgindgodfcfgkaaW.PrintLast Go.Proofs.YtgindgodfcfgkaaW.PrintMore
open Kd
attribute [local go_sem] Zcc Zcd Zck Zcl Zb2 Zb3 Zce Zcb   -- for this text's walks alone
set_option linter.unusedVariables false
set_option linter.unusedSimpArgs false
def Zc6.f (l0 : List Int) (a1 : Int) : Option (Int) := if (wrap64 (a1 - (l0.length : Int))) < 0 then (some (-1)) else (some (wrap64 (a1 - (l0.length : Int))))
theorem Zc6.calls (A0 : Option Addr) (c0 : Nat) (l0 : List Int) (a1 : Int) (r : Int) (w : World) (a : Kd.C (Kd.int .i64) w A0 l0.length l0) (b : l0.length ≤ c0) (h : Zc6.f l0 a1 = some r) :
  Calls Try.prog 80 #[.slice A0 l0.length c0, .int .i64 a1] w fun e w' => e = .returned (.int .i64 r) ∧ Zas w w' := by
 have d := mA a
 have g := mA b
 clear a b
 unfold Zc6.f at h
 have H := h
 clear h
 by_cases c3 : (wrap64 (a1 - (l0.length : Int))) < 0
 ·rw [if_pos c3] at H
  have c := dT c3
  clear c3
  obtain rfl := oI H
  go_enter Try.func80, Try.ntmps80
  go_wp2
  go_ret
  exact ⟨eW, by repeat (first | exact Zas.refl _ | apply Zas.step)⟩
 ·rw [if_neg c3] at H
  have c := dF c3
  clear c3
  obtain rfl := oI H
  go_enter Try.func80, Try.ntmps80
  go_wp2
  go_ret
  exact ⟨eW, by repeat (first | exact Zas.refl _ | apply Zas.step)⟩
def Zbn.l0 : Nat → List (List Int) → Int → Int → Option (Int)
 | 0, _, _, _ => none
 | k + 1, x0, x1, x5 => if x5 < (x0.length : Int) then (if 0 ≤ x5 then ((Zc6.f (Zah x0 x5) x1).bind fun a => (if a < 0 then (some (-1)) else (Zbn.l0 k x0 a (wrap64 (x5 + 1))))) else (none)) else (some x1)
def Zbn.f (k : Nat) (l0 : List (List Int)) (a1 : Int) : Option (Int) := if (wrap64 (a1 - (l0.length : Int))) < 0 then (some (-1)) else (Zbn.l0 k l0 (wrap64 (a1 - (l0.length : Int))) 0)
theorem Zbn.calls (k : Nat) (A0 : Option Addr) (c0 : Nat) (l0 : List (List Int)) (a1 : Int) (r : Int) (w : World) (u : Kd.C (Kd.slice 2 (Kd.int .i64)) w A0 l0.length l0) (v : l0.length ≤ c0) (h : Zbn.f k l0 a1 = some r) :
  Calls Try.prog 38 #[.slice A0 l0.length c0, .int .i64 a1] w fun e w' => e = .returned (.int .i64 r) ∧ Zas w w' := by
 have x := mA u
 have D := mA v
 clear u v
 unfold Zbn.f at h
 have H := h
 clear h
 by_cases c3 : (wrap64 (a1 - (l0.length : Int))) < 0
 ·rw [if_pos c3] at H
  have s := dT c3
  clear c3
  obtain rfl := oI H
  go_enter Try.func38, Try.ntmps38
  go_wp2
  go_ret
  exact ⟨eW, by repeat (first | exact Zas.refl _ | apply Zas.step)⟩
 rw [if_neg c3] at H
 have s := dF c3
 clear c3
 have H' := mA H
 clear H
 go_enter Try.func38, Try.ntmps38
 go_wp2
 go_loopg [1, 5] k (fun kq v1 v5 w' => ∃ (d : Int) (a : Int), v1 = .int .i64 d ∧ v5 = .int .i64 a ∧ Zad (Zbn.l0 kq l0 d a = some r) ∧ Zad (kq ≤ k) ∧ Zas w w')
 case atStart => exact ⟨(wrap64 (a1 - (l0.length : Int))), (0), (eW), (eW), H', ⟨Nat.le_refl _⟩, by repeat (first | exact Zas.refl _ | apply Zas.step)⟩
 case round =>
  clear H'
  try clear p2
  try clear c3
  try clear s
  obtain ⟨d, a, rfl, rfl, HA, HK1, ⟨m1, rfl⟩⟩ := hrel
  cases gk with
  | zero => exact absurd HA.out (by simp [Zbn.l0])
  | succ k1 =>
   have H := HA.out
   clear HA
   simp only [Zbn.l0] at H
   by_cases c4 : a < (l0.length : Int); rotate_left
   ·rw [if_neg c4] at H
    have z := dF c4
    clear c4
    obtain rfl := oI H
    go_wp2
    go_ret
    exact ⟨eW, by repeat (first | exact Zas.refl _ | apply Zas.step)⟩
   rw [if_pos c4] at H
   have z := dT c4
   clear c4
   by_cases c5 : 0 ≤ a; rotate_left
   ·rw [if_neg c5] at H
    exact absurd H (by simp)
   rw [if_pos c5] at H
   have B := dT c5
   clear c5
   replace H := bE H
   obtain ⟨o, y, H⟩ := H
   have A6 := mA y
   clear y
   by_cases c7 : o < 0
   ·rw [if_pos c7] at H
    have A := dT c7
    clear c7
    obtain rfl := oI H
    have g : 0 ≤ (a : Int) := ofD
    have i : a < (l0.length : Int) := ofD
    obtain ⟨t, m, n, p, q, b, c⟩ := Zca x.out a g i
    cases p
    have j := mA c
    have l := mA b
    clear c b
    replace g := eq_true g
    replace i := eq_true i
    go_wp2_with (first | ((with_reducible refine Zar (f := 80) rfl ?_); refine Za2 (some 23) Try.func80 #[.slice m (Zah l0 a).length n, .int .i64 d] ?_; (with_reducible refine (Zc6.calls _ _ (Zah l0 a) d o _ ?side1 ?side2 A6.out).mono ?_); (case side1 => exact cP j.out); (case side2 => exact l.out); rintro e w' ⟨rfl, ⟨nd, rfl⟩⟩; refine ⟨_, rfl, ?_⟩))
    go_ret
    exact ⟨eW, by repeat (first | exact Zas.refl _ | apply Zas.step)⟩
   rw [if_neg c7] at H
   have A := dF c7
   clear c7
   have H' := mA H
   clear H
   have g : 0 ≤ (a : Int) := ofD
   have i : a < (l0.length : Int) := ofD
   obtain ⟨t, m, n, p, q, b, c⟩ := Zca x.out a g i
   cases p
   have j := mA c
   have l := mA b
   clear c b
   replace g := eq_true g
   replace i := eq_true i
   go_wp2_with (first | ((with_reducible refine Zar (f := 80) rfl ?_); refine Za2 (some 23) Try.func80 #[.slice m (Zah l0 a).length n, .int .i64 d] ?_; (with_reducible refine (Zc6.calls _ _ (Zah l0 a) d o _ ?side1 ?side2 A6.out).mono ?_); (case side1 => exact cP j.out); (case side2 => exact l.out); rintro e w' ⟨rfl, ⟨nd, rfl⟩⟩; refine ⟨_, rfl, ?_⟩))
   go_roundg k1
   case measure => have := HK1.out; omega
   case rel => exact ⟨(o), (wrap64 (a + 1)), (eW), (eW), H', ⟨by have := HK1.out; omega⟩, by repeat (first | exact Zas.refl _ | apply Zas.step)⟩
def Zco.f (k : Nat) (c : Int) (d : Int) (e : Int) (b : List (List Int)) (a1 : Int) : Option (Int) := (Zbn.f k b a1).bind fun a => (if a < 0 then (some (-1)) else (some a))
theorem Zco.calls (k : Nat) (g : Int) (i : Int) (j : Int) (c : Option Addr) (d : Nat) (a : List (List Int)) (a1 : Int) (r : Int) (w : World) (m : Kd.C (Kd.slice 2 (Kd.int .i64)) w c a.length a) (n : a.length ≤ d) (h : Zco.f k g i j a a1 = some r) :
  Calls Try.prog 9 #[.agg #[.int .i64 g, .int .i64 i, .int .i64 j, .slice c a.length d], .int .i64 a1] w fun e w' => e = .returned (.int .i64 r) ∧ Below w.heap.size w w' := by
 have W := Try.underlying24
 have o := mA m
 have p := mA n
 clear m n
 have HB := mA (Below.refl w.heap.size w)
 unfold Zco.f at h
 have H := h
 clear h
 replace H := bE H
 obtain ⟨l, v, H⟩ := H
 have A3 := mA v
 clear v
 by_cases c4 : l < 0
 ·rw [if_pos c4] at H
  have x := dT c4
  clear c4
  obtain rfl := oI H
  go_enter Try.func9, Try.ntmps9
  go_wp2_with (first | ((with_reducible refine Zap (N := 2) rfl ?_); refine boxS (N := 2) (cs := #[.int .i64 g, .int .i64 i, .int .i64 j, .slice c a.length d]) (t := 24) ?_; intro q hg w5 hbox hb; have b := mA (hbox); have s := geW (w := w) hg; have u := geW (w := w) hg; replace HB := mA (Zaf (bW) hb); clear hb hbox hg; obtain ⟨y, z, A, B⟩ := Zau b.out; obtain ⟨D, E, G, I⟩ := frz4 b.out) | ((with_reducible refine Zar (f := 38) rfl ?_); refine Za2 (some 8) Try.func38 #[.slice c a.length d, .int .i64 a1] ?_; (with_reducible refine (Zbn.calls k _ _ a a1 l _ ?side1 ?side2 A3.out).mono ?_); (case side1 => exact cP (zL o.out HB.out)); (case side2 => exact p.out); rintro e w' ⟨rfl, ⟨nd, rfl⟩⟩; refine ⟨_, rfl, ?_⟩))
  go_ret
  exact ⟨eW, bW⟩
 rw [if_neg c4] at H
 have x := dF c4
 clear c4
 obtain rfl := oI H
 go_enter Try.func9, Try.ntmps9
 go_wp2_with (first | ((with_reducible refine Zap (N := 2) rfl ?_); refine boxS (N := 2) (cs := #[.int .i64 g, .int .i64 i, .int .i64 j, .slice c a.length d]) (t := 24) ?_; intro q hg w7 hbox hb; have b := mA (hbox); have s := geW (w := w) hg; have u := geW (w := w) hg; replace HB := mA (Zaf (bW) hb); clear hb hbox hg; obtain ⟨J, K, L, M⟩ := Zau b.out; obtain ⟨O, P, T, U⟩ := frz4 b.out) | ((with_reducible refine Zar (f := 38) rfl ?_); refine Za2 (some 8) Try.func38 #[.slice c a.length d, .int .i64 a1] ?_; (with_reducible refine (Zbn.calls k _ _ a a1 l _ ?side1 ?side2 A3.out).mono ?_); (case side1 => exact cP (zL o.out HB.out)); (case side2 => exact p.out); rintro e w' ⟨rfl, ⟨nd, rfl⟩⟩; refine ⟨_, rfl, ?_⟩))
 go_ret
 exact ⟨eW, bW⟩
def Zc7.f (a0 : Int) : Option (Int) := if 0 ≤ (IntKind.u64.wrap (a0)) then (some (shl .i64 1 (IntKind.u64.wrap (a0)))) else (none)
theorem Zc7.calls (a0 : Int) (r : Int) (w : World) (h : Zc7.f a0 = some r) :
  Calls Try.prog 90 #[.int .i64 a0] w fun e w' => e = .returned (.int .i64 r) ∧ Zas w w' := by
 unfold Zc7.f at h
 have H := h
 clear h
 obtain ⟨a, d⟩ : ∃ j_ : Int, (IntKind.u64.wrap (a0)) = j_ := ⟨_, rfl⟩
 replace H : (if 0 ≤ (a) then (some (shl .i64 1 (a))) else (none)) = some r := by first | (rw [d] at H; exact H) | (simp only [d] at H ⊢; exact H)
 by_cases c3 : 0 ≤ (a); rotate_left
 ·rw [if_neg c3] at H
  exact absurd H (by simp)
 rw [if_pos c3] at H
 have n := eq_true c3
 have o := dT c3
 clear c3
 obtain ⟨b, c⟩ : ∃ j_ : Int, (shl .i64 1 (a)) = j_ := ⟨_, rfl⟩
 replace H : (some b) = some r := by first | (rw [c] at H; exact H) | (simp only [c] at H ⊢; exact H)
 have g : (IntKind.i64.wrap (1 * 2 ^ min (a).toNat 64)) = b := c
 have i : (a) ≤ 64 → (IntKind.i64.wrap (1 * 2 ^ (a).toNat)) = b := shl_small c
 have j : (IntKind.i64.wrap (2 ^ min (a).toNat 64)) = b := by have h_ := g; rw [Int.one_mul] at h_; exact h_
 have k : (a) ≤ 64 → (IntKind.i64.wrap (2 ^ (a).toNat)) = b := fun hle_ => by have h_ := i hle_; rw [Int.one_mul] at h_; exact h_
 have l : (wrap64 (1 * 2 ^ min (a).toNat 64)) = b := (i64_w _).symm.trans g
 have m : (a) ≤ 64 → (wrap64 (1 * 2 ^ (a).toNat)) = b := fun h_ => (i64_w _).symm.trans (i h_)
 obtain rfl := oI H
 go_enter Try.func90, Try.ntmps90
 go_wp2
 go_ret
 exact ⟨by first | rfl | (simp; done) | (simp only [← d, ← c] <;> (first | rfl | simp)) | (simp [*]; done), by repeat (first | exact Zas.refl _ | apply Zas.step)⟩
def Zc4.f (a0 : Int) : Option (Int) := (Zc7.f a0).bind fun a => (some (wrap64 (a - 1)))
theorem Zc4.calls (a0 : Int) (r : Int) (w : World) (h : Zc4.f a0 = some r) :
  Calls Try.prog 45 #[.int .i64 a0] w fun e w' => e = .returned (.int .i64 r) ∧ Zas w w' := by
 unfold Zc4.f at h
 have H := h
 clear h
 replace H := bE H
 obtain ⟨b, a, H⟩ := H
 have A2 := mA a
 clear a
 obtain rfl := oI H
 go_enter Try.func45, Try.ntmps45
 go_wp2_with (first | ((with_reducible refine Zar (f := 90) rfl ?_); refine Za2 (some 4) Try.func90 #[.int .i64 a0] ?_; (with_reducible refine (Zc7.calls a0 b _ A2.out).mono ?_); rintro e w' ⟨rfl, ⟨nd, rfl⟩⟩; refine ⟨_, rfl, ?_⟩))
 go_ret
 exact ⟨eW, by repeat (first | exact Zas.refl _ | apply Zas.step)⟩
def Zb1.f (b : Int) (c : Int) (d : Int) (a : List (List Int)) : Option (Int) := some (a.length : Int)
theorem Zb1.calls (b : Int) (c : Int) (d : Int) (g : Option Addr) (i : Nat) (a : List (List Int)) (r : Int) (w : World) (j : Kd.C (Kd.slice 2 (Kd.int .i64)) w g a.length a) (k : a.length ≤ i) (h : Zb1.f b c d a = some r) :
  Calls Try.prog 46 #[.agg #[.int .i64 b, .int .i64 c, .int .i64 d, .slice g a.length i]] w fun e w' => e = .returned (.int .i64 r) ∧ Below w.heap.size w w' := by
 have D := Try.underlying26
 have x := mA j
 have y := mA k
 clear j k
 have HB := mA (Below.refl w.heap.size w)
 unfold Zb1.f at h
 have H := h
 clear h
 obtain rfl := oI H
 go_enter Try.func46, Try.ntmps46
 go_wp2_with (first | ((with_reducible refine Zap (N := 1) rfl ?_); refine boxS (N := 1) (cs := #[.int .i64 b, .int .i64 c, .int .i64 d, .slice g a.length i]) (t := 26) ?_; intro z hg w2 hbox hb; have l := mA (hbox); have A := geW (w := w) hg; have B := geW (w := w) hg; replace HB := mA (Zaf (bW) hb); clear hb hbox hg; obtain ⟨m, n, o, p⟩ := Zau l.out; obtain ⟨q, s, u, v⟩ := frz4 l.out))
 go_ret
 exact ⟨eW, bW⟩
def Za0.f (a0 : Int) (a1 : Int) (a2 : Int) : Option (Bool) := if a0 ≥ a1 then (some (decide (a0 ≤ a2))) else (some false)
theorem Za0.calls (a0 : Int) (a1 : Int) (a2 : Int) (r : Bool) (w : World) (h : Za0.f a0 a1 a2 = some r) :
  Calls Try.prog 81 #[.int .i64 a0, .int .i64 a1, .int .i64 a2] w fun e w' => e = .returned (.bool r) ∧ Zas w w' := by
 unfold Za0.f at h
 have H := h
 clear h
 by_cases c4 : a0 ≥ a1
 ·rw [if_pos c4] at H
  have a : decide (a1 ≤ a0) = true := dT c4
  clear c4
  obtain rfl := oI H
  go_enter Try.func81, Try.ntmps81
  go_wp2
  go_ret
  exact ⟨eW, by repeat (first | exact Zas.refl _ | apply Zas.step)⟩
 ·rw [if_neg c4] at H
  have a : decide (a1 ≤ a0) = false := dF c4
  clear c4
  obtain rfl := oI H
  go_enter Try.func81, Try.ntmps81
  go_wp2
  go_ret
  exact ⟨eW, by repeat (first | exact Zas.refl _ | apply Zas.step)⟩
end Go.Proofs.Ytgindgodfcfgkaa.P
end M2
section M3
namespace Go.Proofs.Ytgindgodfcfgkaa.P
open Go.RowKit Go.Proofs.Ytgindgodfcfgkaa.Sh Go.Proofs.YtgindgodfcfgkaaW.PrintWords Go.Proofs.YtgindgodfcfgkaaW.PrintLast Go.Proofs.YtgindgodfcfgkaaW.PrintMore
open Kd
attribute [local go_sem] Zcc Zcd Zck Zcl Zb2 Zb3 Zce Zcb   -- for this text's walks alone
set_option linter.unusedVariables false
set_option linter.unusedSimpArgs false
def Zba.l0 : Nat → List Int → List Int → Int → Option (List Int)
 | 0, _, _, _ => none
 | k + 1, x0, x3, x4 => if x4 < (x0.length : Int) then (if 0 ≤ x4 then (if x4 < (x3.length : Int) then (Zba.l0 k x0 (x3.set (x4 : Int).toNat (rd x0 x4)) (wrap64 (x4 + 1))) else (none)) else (none)) else (some x3)
def Zba.f (k : Nat) (l0 : List Int) : Option (List Int) := if 0 ≤ (l0.length : Int) then (if ((l0.length : Int) : Int).toNat ≤ 35184372088832 then (Zba.l0 k l0 (List.replicate ((l0.length : Int) : Int).toNat 0) 0) else (none)) else (none)
theorem Zba.calls (k : Nat) (A0 : Option Addr) (c0 : Nat) (l0 : List Int) (r : List Int) (w : World) (y : Kd.C (Kd.int .i64) w A0 l0.length l0) (z : l0.length ≤ c0) (h : Zba.f k l0 = some r) :
  Calls Try.prog 19 #[.slice A0 l0.length c0] w fun e w' => ∃ A : Value, e = .returned (A) ∧ Kd.R (Kd.int .i64) 2 w' w.heap.size (fun _ => True) A r ∧ Below w.heap.size w w' := by
 have U := mA y
 have af := mA z
 clear y z
 have HB := mA (Below.refl w.heap.size w)
 unfold Zba.f at h
 have H := h
 clear h
 by_cases c2 : 0 ≤ (l0.length : Int); rotate_left
 ·rw [if_neg c2] at H
  exact absurd H (by simp)
 rw [if_pos c2] at H
 have I := eq_true c2
 have J := dT c2
 clear c2
 by_cases c3 : ((l0.length : Int) : Int).toNat ≤ 35184372088832; rotate_left
 ·rw [if_neg c3] at H
  exact absurd H (by simp)
 rw [if_pos c3] at H
 have K := eq_true c3
 have L := dT c3
 clear c3
 obtain ⟨M, g⟩ : ∃ y_ : List Int, y_ = (List.replicate ((l0.length : Int) : Int).toNat 0) := ⟨_, rfl⟩
 rw [← g] at H
 have o := mA g
 clear g
 have H' := mA H
 clear H
 go_enter Try.func19, Try.ntmps19
 go_wp2_with (first | ((with_reducible refine Zap (N := 7) rfl ?_); refine xI (Kd.int .i64) _ 2 rfl (N := 7) rfl 33 _ _ rfl (l0.length : Int) rfl rfl Try.underlying33 (.int .i64 0) 8 info2 rfl (by decide) (by omega) 0 (ok := fun _ => True) (okp := fun _ => True) rfl (fun _ hk => hk) trivial (ofD) (Nat.le_trans (Nat.mul_le_mul_right _ (ofD : (l0.length : Int).toNat ≤ 35184372088832)) (by omega)) (Below.refl _ _) (Nat.le_refl _) ?_; intro O w4 j hb hg_ hnew_; clear hg_ hnew_; (first | rw [← o.out] at j | (simp only [Int.reduceToNat] at j; rw [← o.out] at j)); have v := mA (zV j (Zan (bW))); replace HB := mA (Zaf (bW) hb); clear hb j))
 go_loopg [4] k (fun kq v4 w' => ∃ (b : List Int) (a : Int), v4 = .int .i64 a ∧ Zad (Zba.l0 kq l0 b a = some r) ∧ Zad (kq ≤ k) ∧ Zad (Kd.R (Kd.int .i64) 2 w' w.heap.size (fun _ => True) O b) ∧ Zad (Below w.heap.size w w'))
 case atStart => exact ⟨(M), (0), (eW), H', ⟨Nat.le_refl _⟩, ⟨rP v.out⟩, ⟨bW⟩⟩
 case round =>
  clear H'
  try clear c1
  try clear c2
  try clear I
  try clear J
  try clear p2
  try clear c3
  try clear K
  try clear L
  obtain ⟨b, a, rfl, HA, B, c, HB⟩ := hrel
  cases gk with
  | zero => exact absurd HA.out (by simp [Zba.l0])
  | succ k1 =>
   have H := HA.out
   clear HA
   simp only [Zba.l0] at H
   by_cases c6 : a < (l0.length : Int); rotate_left
   ·rw [if_neg c6] at H
    have P := dF c6
    clear c6
    obtain rfl := oI H
    go_wp2
    go_ret
    exact ⟨_, eW, (rP c.out), bW⟩
   rw [if_pos c6] at H
   have P := dT c6
   clear c6
   by_cases c7 : 0 ≤ a; rotate_left
   ·rw [if_neg c7] at H
    exact absurd H (by simp)
   rw [if_pos c7] at H
   have ad := dT c7
   clear c7
   by_cases c8 : a < (b.length : Int); rotate_left
   ·rw [if_neg c8] at H
    exact absurd H (by simp)
   rw [if_pos c8] at H
   have ae := dT c8
   clear c8
   obtain ⟨q, i⟩ : ∃ y_ : List Int, y_ = (b.set (a : Int).toNat (rd l0 a)) := ⟨_, rfl⟩
   rw [← i] at H
   have x := mA i
   clear i
   have H' := mA H
   clear H
   have l : 0 ≤ (a : Int) := ofD
   have m : a < (l0.length : Int) := ofD
   obtain ⟨aa, T, d⟩ := zO U.out a l m
   cases T
   replace d := (HB.out.cell (wB w d)).trans d
   replace l := eq_true l
   replace m := eq_true m
   have p9 : 0 ≤ (a : Int) := ofD
   have q9 : (a : Int) < ((b.length : Int) : Int) := ofD
   obtain ⟨s, W, D, E, X, ag, G⟩ := yM c.out (by omega)
   (first | cases D | (injection D with ea_ en_ ec_; (first | subst ea_ | (injection ea_ with ea_; subst ea_)); subst ec_; clear en_))
   have Y := mA E
   have ah := mA G
   clear E X G
   obtain ⟨ab, ac⟩ := yF 0 c.out (a : Int) p9 q9
   replace p9 := eq_true p9
   replace q9 := eq_true q9
   have n := yG c.out (a : Int) (rd l0 a)
   go_wp2_with (first | ((with_reducible refine Zbl (t := 2) (p := 20) rfl ?_); refine Zc2 (t := 2) (p := 20) (w1 := (wr.setCell ⟨s, (a : Int).toNat, none⟩ (.int .i64 (rd l0 a)))) ?_; intro u hw; have hg : wr.grownBy u (some s) := (by rw [hw]; exact n.2); have hp_ : Kd.R (Kd.int .i64) 2 u w.heap.size (fun _ => True) (.slice (some ⟨s, 0, none⟩) b.length W) q := (by rw [hw, x.out]; exact n.1); clear n; replace c := mA (hp_); replace HB := mA ((by rw [hw]; exact Za7 (HB.out) Y.out : Below w.heap.size w u)); clear hg hw hp_))
   go_roundg k1
   case measure => have := B.out; omega
   case rel => exact ⟨(q), (wrap64 (a + 1)), (eW), H', ⟨by have := B.out; omega⟩, ⟨rP c.out⟩, ⟨bW⟩⟩
def Zbo.l0 : Nat → List (List Int) → List (List Int) → Int → Option ((List (List Int)))
 | 0, _, _, _ => none
 | k + 1, x0, x3, x4 => if x4 < (x0.length : Int) then (if 0 ≤ x4 then ((Zba.f k (Zah x0 x4)).bind fun a => (if x4 < (x3.length : Int) then (Zbo.l0 k x0 (x3.set (x4 : Int).toNat a) (wrap64 (x4 + 1))) else (none))) else (none)) else (some x3)
def Zbo.f (k : Nat) (l0 : List (List Int)) : Option ((List (List Int))) := if 0 ≤ (l0.length : Int) then (if ((l0.length : Int) : Int).toNat ≤ 11728124029610 then (Zbo.l0 k l0 (List.replicate ((l0.length : Int) : Int).toNat []) 0) else (none)) else (none)
theorem Zbo.calls (k : Nat) (A0 : Option Addr) (c0 : Nat) (l0 : List (List Int)) (r : List (List Int)) (w : World) (ao : Kd.C (Kd.slice 2 (Kd.int .i64)) w A0 l0.length l0) (ap : l0.length ≤ c0) (h : Zbo.f k l0 = some r) :
  Calls Try.prog 41 #[.slice A0 l0.length c0] w fun e w' => ∃ aq : Value, e = .returned (aq) ∧ Kd.S (Kd.slice 2 (Kd.int .i64)) 33 w' w.heap.size (fun _ => True) aq r ∧ Below w.heap.size w w' := by
 have aH := mA ao
 have aW := mA ap
 clear ao ap
 have HB := mA (Below.refl w.heap.size w)
 unfold Zbo.f at h
 have H := h
 clear h
 by_cases c2 : 0 ≤ (l0.length : Int); rotate_left
 ·rw [if_neg c2] at H
  exact absurd H (by simp)
 rw [if_pos c2] at H
 have av := eq_true c2
 have aw := dT c2
 clear c2
 by_cases c3 : ((l0.length : Int) : Int).toNat ≤ 11728124029610; rotate_left
 ·rw [if_neg c3] at H
  exact absurd H (by simp)
 rw [if_pos c3] at H
 have ax := eq_true c3
 have ay := dT c3
 clear c3
 obtain ⟨az, n⟩ : ∃ y_ : List (List Int), y_ = (List.replicate ((l0.length : Int) : Int).toNat []) := ⟨_, rfl⟩
 rw [← n] at H
 have A := mA n
 clear n
 have H' := mA H
 clear H
 go_enter Try.func41, Try.ntmps41
 go_wp2_with (first | ((with_reducible refine Zap (N := 7) rfl ?_); refine Kd.S_make (Kd.slice 2 (Kd.int .i64)) _ 33 rfl (N := 7) rfl 22 _ _ rfl (l0.length : Int) rfl rfl Try.underlying22 (.slice none 0 0) 24 info33 rfl (by decide) (by omega) [] (ok := fun _ => True) (okp := fun _ => True) ⟨_, rfl, yT _ _ _ _ _⟩ (fun _ hk => hk) trivial (ofD) (Nat.le_trans (Nat.mul_le_mul_right _ (ofD : (l0.length : Int).toNat ≤ 11728124029610)) (by omega)) (Below.refl _ _) (Nat.le_refl _) ?_; intro aA w4 u hb hg_ hnew_; clear hg_ hnew_; (first | rw [← A.out] at u | (simp only [Int.reduceToNat] at u; rw [← A.out] at u)); have ak := mA (yR u (Zan (bW))); replace HB := mA (Zaf (bW) hb); clear hb u))
 go_loopg [4] k (fun kq v4 w' => ∃ (c : List (List Int)) (a : Int), v4 = .int .i64 a ∧ Zad (Zbo.l0 kq l0 c a = some r) ∧ Zad (kq ≤ k) ∧ Zad (Kd.S (Kd.slice 2 (Kd.int .i64)) 33 w' w.heap.size (fun _ => True) aA c) ∧ Zad (Below w.heap.size w w'))
 case atStart => exact ⟨(az), (0), (eW), H', ⟨Nat.le_refl _⟩, ⟨sP ak.out⟩, ⟨bW⟩⟩
 case round =>
  clear H'
  try clear c2
  try clear av
  try clear aw
  try clear p2
  try clear c3
  try clear ax
  try clear ay
  try clear c4
  obtain ⟨c, a, rfl, HA, ar, b, HB⟩ := hrel
  cases gk with
  | zero => exact absurd HA.out (by simp [Zbo.l0])
  | succ k1 =>
   have H := HA.out
   clear HA
   simp only [Zbo.l0] at H
   by_cases c6 : a < (l0.length : Int); rotate_left
   ·rw [if_neg c6] at H
    have aB := dF c6
    clear c6
    obtain rfl := oI H
    go_wp2
    go_ret
    exact ⟨_, eW, (sP b.out), bW⟩
   rw [if_pos c6] at H
   have aB := dT c6
   clear c6
   by_cases c7 : 0 ≤ a; rotate_left
   ·rw [if_neg c7] at H
    exact absurd H (by simp)
   rw [if_pos c7] at H
   have aO := dT c7
   clear c7
   replace H := bE H
   obtain ⟨x, au, H⟩ := H
   have A8 := mA au
   clear au
   by_cases c9 : a < (c.length : Int); rotate_left
   ·rw [if_neg c9] at H
    exact absurd H (by simp)
   rw [if_pos c9] at H
   have aP := dT c9
   clear c9
   obtain ⟨K, o⟩ : ∃ y_ : List (List Int), y_ = (c.set (a : Int).toNat x) := ⟨_, rfl⟩
   rw [← o] at H
   have al := mA o
   clear o
   have H' := mA H
   clear H
   have y : 0 ≤ (a : Int) := ofD
   have z : a < (l0.length : Int) := ofD
   obtain ⟨aM, L, M, aC, d, l, m⟩ := Zca aH.out a y z
   cases aC
   replace d := (HB.out.cell (wB w d)).trans d
   have I := mA m
   have J := mA l
   clear m l
   replace y := eq_true y
   replace z := eq_true z
   go_wp2_with (first | ((with_reducible refine Zar (f := 19) rfl ?_); refine Za2 (some 20) Try.func19 #[.slice L (Zah l0 a).length M] ?_; (with_reducible refine (Zba.calls k1 _ _ (Zah l0 a) x _ ?side1 ?side2 A8.out).mono ?_); (case side1 => exact cP (zL I.out HB.out)); (case side2 => exact J.out); rintro e O ⟨q, rfl, P, hb⟩; refine ⟨_, rfl, ?_⟩; replace b := mA (yK (sP b.out) (zT P) hb); have i := mA (zV P (Zan (bW))); replace HB := mA (Zaf (bW) hb); (try clear hb); (try clear hb2); (try clear hk); (try clear hi); (try clear P); have T : 0 ≤ (a : Int) := ofD; have U : (a : Int) < ((c.length : Int) : Int) := ofD; obtain ⟨g, W, X, Y, aD, aQ, aa⟩ := Kd.S_form b.out (by omega); (first | cases X | (injection X with ea_ en_ ec_; (first | subst ea_ | (injection ea_ with ea_; subst ea_)); subst ec_; clear en_)); have aE := mA Y; have aR := mA aa; clear Y aD aa; obtain ⟨_, aS, am, ab, B, D, _, _⟩ := Kd.S_elem b.out [] (a : Int) T U; obtain ⟨aI, rfl, aJ⟩ := ab; have ac := B 0 _ rfl; have ad := D 0; (try simp only [show ((Kd.slice 2 (Kd.int .i64))).sz = 1 from rfl, Nat.mul_one, Nat.add_zero] at ac); (try simp only [show ((Kd.slice 2 (Kd.int .i64))).sz = 1 from rfl, Nat.mul_one, Nat.add_zero] at ad); clear am B D; (try clear ab); replace T := eq_true T; replace U := eq_true U; have n_ := mA (zF (ok' := (fun k_ => some k_ ≠ (q : Value).ownBlock)) b.out (fun k_ hk => hk.2)); clear b; have b := n_; clear n_; have aF := mA (show Kd.S (Kd.slice 2 (Kd.int .i64)) 33 O w.heap.size (fun k_ => ((fun _ => True)) k_ ∧ ¬ ((fun k_ => some k_ = (q : Value).ownBlock)) k_) (.slice (some ⟨g, 0, none⟩) c.length W) c from (by (with_reducible repeat (first | apply zI | apply zJ | apply zG)); exact zF b.out (fun k_ hk => ⟨trivial, fun e_ => hk e_⟩))); obtain ⟨aN, aT, an, ae, E, G, af, ag⟩ := Kd.S_elem aF.out [] (a : Int) (ofD) (by have h_ : (a : Int) < ((c.length : Int) : Int) := ofD; first | exact h_ | (have e_ := (zW b.out).1; omega) | simpa using h_); obtain ⟨aK, rfl, aL⟩ := ae; have s := Kd.S_seg ag (ofD) (by have h_ : (a : Int) < ((c.length : Int) : Int) := ofD; first | exact h_ | (have e_ := (zW b.out).1; omega) | simpa using h_) (seg := [q]) (j := 0) (show 1 ≤ 1 from by decide) (x' := x) (Kd.M_row (zC (xL rfl (zC (ok' := fun k_ => ((fun _ => True)) k_ ∧ k_ ≠ g) (xJ (i.out) (yJ b.out) (by decide)) (fun k_ hk => ⟨trivial, fun e_ => (hk.2) (by rw [e_]; rfl)⟩))) (fun _ h_ => Or.inr (h_)))) (fun _ hk => hk) (fun k_ hk_ => ((zC (ok' := fun k_ => ((fun _ => True)) k_ ∧ k_ ≠ g) (xJ (i.out) (yJ b.out) (by decide)) (fun k_ hk => ⟨trivial, fun e_ => (hk.2) (by rw [e_]; rfl)⟩))).1 k_ hk_.symm); have ah := E 0 _ rfl; (try simp only [show ((Kd.slice 2 (Kd.int .i64))).sz = 1 from rfl, Nat.mul_one, Nat.add_zero] at ah); have ai := G 0; (try simp only [show ((Kd.slice 2 (Kd.int .i64))).sz = 1 from rfl, Nat.mul_one, Nat.add_zero] at ai); clear an E G; (try clear ae); clear af ag; (try simp only [show ((Kd.slice 2 (Kd.int .i64))).sz = 1 from rfl, Nat.mul_one, Nat.add_zero] at s)) | ((with_reducible refine Zbl (t := 33) (p := 21) rfl ?_); refine Zdk (t := 33) (p := 21) (v := ?vo_w13) (w1 := (O.setCell ⟨g, (a : Int).toNat, none⟩ (q))) ?hg ?ho ?hn ?hr ?_; (case ho => rfl); (case hg => rfl); (case hn => rfl); (case hr => first | (go_simp; done) | (go_simp; rfl) | (obtain ⟨aU, aV, aG⟩ := zP (i.out); subst aG; first | (go_simp; done) | (go_simp; rfl))); intro aj hw; have hg : O.grownBy aj (some g) := (by rw [hw]; exact s.2); have hp_ : Kd.S (Kd.slice 2 (Kd.int .i64)) 33 aj w.heap.size (fun _ => True) (.slice (some ⟨g, 0, none⟩) c.length W) K := (by rw [hw, al.out]; exact s.1); clear s; replace b := mA (hp_); replace HB := mA ((by rw [hw]; exact Za7 (HB.out) aE.out : Below w.heap.size w aj)); clear i hg hw hp_))
   go_roundg k1
   case measure => have := ar.out; omega
   case rel => exact ⟨(K), (wrap64 (a + 1)), (eW), H', ⟨by have := ar.out; omega⟩, ⟨sP b.out⟩, ⟨bW⟩⟩
def Zbr.f (k : Nat) (a : Int) (b : Int) (c : Int) (d : List (List Int)) : Option (Int × Int × Int × (List (List Int))) := (Zbo.f k d).bind fun e => (some (a, b, c, e))
theorem Zbr.calls (k : Nat) (d : Int) (j : Int) (n : Int) (r : Option Addr) (s : Nat) (l : List (List Int)) (r1 : Int) (r2 : Int) (r3 : Int) (r4 : List (List Int)) (w : World) (D : Kd.C (Kd.slice 2 (Kd.int .i64)) w r l.length l) (E : l.length ≤ s) (h : Zbr.f k d j n l = some (r1, r2, r3, r4)) :
  Calls Try.prog 11 #[.agg #[.int .i64 d, .int .i64 j, .int .i64 n, .slice r l.length s]] w fun e w' => ∃ M : Value, e = .returned (.agg #[.int .i64 r1, .int .i64 r2, .int .i64 r3, M]) ∧ Kd.S (Kd.slice 2 (Kd.int .i64)) 33 w' w.heap.size (fun _ => True) M r4 ∧ Below w.heap.size w w' := by
 have aK := Try.underlying24
 have aL := Try.underlying26
 have J := mA D
 have K := mA E
 clear D E
 have HB := mA (Below.refl w.heap.size w)
 unfold Zbr.f at h
 have H := h
 clear h
 replace H := bE H
 obtain ⟨u, O, H⟩ := H
 have A2 := mA O
 clear O
 simp only [Option.some.injEq, Prod.mk.injEq] at H
 obtain ⟨rfl, rfl, rfl, rfl⟩ := H
 go_enter Try.func11, Try.ntmps11
 go_wp2_with (first | ((with_reducible refine Zap (N := 1) rfl ?_); refine boxS (N := 1) (cs := #[.int .i64 d, .int .i64 j, .int .i64 n, .slice r l.length s]) (t := 24) ?_; intro L hg w3 hbox hb; have a := mA (hbox); have aE := geW (w := w) hg; have aF := geW (w := w) hg; replace HB := mA (Zaf (bW) hb); clear hb hbox hg) | ((with_reducible refine Zap (N := 2) rfl ?_); refine boxS (N := 2) (cs := #[.int .i64 0, .int .i64 0, .int .i64 0, .slice none 0 0]) (t := 26) ?_; intro q hg w4 hbox hb; have b := mA (hbox); have aG := geW (w := w) hg; have aH := geW (w := w) hg; replace HB := mA (Zaf (bW) hb); have v := mA (neB hg a); have x := mA (neC hg a); replace a := mA (blkB a.out hb); clear hb hbox hg) | ((with_reducible refine Zap (N := 3) rfl ?_); refine boxS (N := 3) (cs := #[.int .i64 0, .int .i64 0, .int .i64 0, .slice none 0 0]) (t := 26) ?_; intro G hg w5 hbox hb; have m := mA (hbox); have aI := geW (w := w) hg; have aJ := geW (w := w) hg; replace HB := mA (Zaf (bW) hb); have i := mA (neB hg a); have y := mA (neC hg a); replace a := mA (blkB a.out hb); have c := mA (neB hg b); have z := mA (neC hg b); replace b := mA (blkB b.out hb); clear hb hbox hg; have aM := v.out; have aN := x.out; have aO := i.out; have aP := y.out; obtain ⟨aw, ax, ay, az⟩ := Zau a.out; obtain ⟨aA, aB, aC, aD⟩ := frz4 a.out; have aQ := z.out; have aR := c.out; obtain ⟨U, W, X, Y⟩ := Zau m.out; obtain ⟨aa, ab, ac, ad⟩ := frz4 m.out) | ((with_reducible refine Zar (f := 41) rfl ?_); refine Za2 (some 15) Try.func41 #[.slice r l.length s] ?_; (with_reducible refine (Zbo.calls k _ _ l u _ ?side1 ?side2 A2.out).mono ?_); (case side1 => exact zL J.out (bW)); (case side2 => exact K.out); rintro e aT ⟨aS, rfl, P, hb⟩; refine ⟨_, rfl, ?_⟩; have I := mA (yR P (Zan (bW))); replace a := mA (Za1 (g := L) (o := .cells #[.int .i64 d, .int .i64 j, .int .i64 n, .slice r l.length s] 24 (0, 0)) (by (with_reducible repeat (first | refine Zac ?_ _ | refine Zab ?_ | refine Zaa ?_ _)); refine Zak ?_ i.out _; (with_reducible repeat (first | refine Zac ?_ _ | refine Zab ?_ | refine Zaa ?_ _)); refine Zak ?_ i.out _; (with_reducible repeat (first | refine Zac ?_ _ | refine Zab ?_ | refine Zaa ?_ _)); refine Zak ?_ i.out _; exact bP a.out) hb); replace b := mA (Za1 (g := q) (o := .cells #[.int .i64 0, .int .i64 0, .int .i64 0, .slice none 0 0] 26 (0, 0)) (by (with_reducible repeat (first | refine Zac ?_ _ | refine Zab ?_ | refine Zaa ?_ _)); refine Zak ?_ c.out _; (with_reducible repeat (first | refine Zac ?_ _ | refine Zab ?_ | refine Zaa ?_ _)); refine Zak ?_ c.out _; (with_reducible repeat (first | refine Zac ?_ _ | refine Zab ?_ | refine Zaa ?_ _)); refine Zak ?_ c.out _; exact bP b.out) hb); replace m := mA (Za1 (g := G) (o := .cells #[.int .i64 d, .int .i64 j, .int .i64 n, .slice none 0 0] 26 (0, 0)) (by (with_reducible repeat (first | refine Zac ?_ _ | refine Zab ?_ | refine Zaa ?_ _)); refine Zao (cs := #[.int .i64 d, .int .i64 j, .int .i64 0, .slice none 0 0]) ?_ 2 _ rfl; (with_reducible repeat (first | refine Zac ?_ _ | refine Zab ?_ | refine Zaa ?_ _)); refine Zao (cs := #[.int .i64 d, .int .i64 0, .int .i64 0, .slice none 0 0]) ?_ 1 _ rfl; (with_reducible repeat (first | refine Zac ?_ _ | refine Zab ?_ | refine Zaa ?_ _)); refine Zao (cs := #[.int .i64 0, .int .i64 0, .int .i64 0, .slice none 0 0]) ?_ 0 _ rfl; exact bP m.out) hb); replace HB := mA (Zaf (bW) hb); (try clear hb); (try clear hb2); (try clear hk); (try clear hi); (try clear P); obtain ⟨A, B, T⟩ := yD I.out; subst T; obtain ⟨ae, af, ag, ah⟩ := Zau m.out; obtain ⟨ai, aj, ak, al⟩ := frz4 m.out; obtain ⟨am, an, ao, ap⟩ := Zau b.out; obtain ⟨aq, ar, au, av⟩ := frz4 b.out))
 refine bodyPost_ret (results_cell_row rfl _ _ q 26 #[.int .i64 d, .int .i64 j, .int .i64 n, .slice A u.length B] (0, 0) _ rfl (by (with_reducible repeat (first | refine Zac ?_ _ | refine Zab ?_ | refine Zaa ?_ _)); refine Zao (cs := #[.int .i64 d, .int .i64 j, .int .i64 n, .slice none 0 0]) ?_ 3 _ rfl; (with_reducible repeat (first | refine Zac ?_ _ | refine Zab ?_ | refine Zaa ?_ _)); refine Zao (cs := #[.int .i64 d, .int .i64 j, .int .i64 0, .slice none 0 0]) ?_ 2 _ rfl; (with_reducible repeat (first | refine Zac ?_ _ | refine Zab ?_ | refine Zaa ?_ _)); refine Zao (cs := #[.int .i64 d, .int .i64 0, .int .i64 0, .slice none 0 0]) ?_ 1 _ rfl; (with_reducible repeat (first | refine Zac ?_ _ | refine Zab ?_ | refine Zaa ?_ _)); refine Zao (cs := #[.int .i64 0, .int .i64 0, .int .i64 0, .slice none 0 0]) ?_ 0 _ rfl; (with_reducible repeat (first | refine Zac ?_ _ | refine Zab ?_ | refine Zaa ?_ _)); refine Zak ?_ c.out _; exact bP b.out) Try.underlying26 rfl (by kernel_rfl)) rfl ?_
 exact ⟨_, eW, by (with_reducible repeat (first | apply zI | apply zJ | apply zG)); exact zF (zB (p := ⟨q, 3, none⟩) (zB (p := ⟨q, 2, none⟩) (zB (p := ⟨q, 1, none⟩) (zB (p := ⟨q, 0, none⟩) (zB (p := ⟨G, 3, none⟩) (zR (zR I.out m.out (by decide)) b.out (by decide)) (fun _ hk => hk.1.2) (.slice A u.length B)) (fun _ hk => hk.2) (.int .i64 d)) (fun _ hk => hk.2) (.int .i64 j)) (fun _ hk => hk.2) (.int .i64 n)) (fun _ hk => hk.2) (.slice A u.length B)) (fun _ hk => trivial), bW⟩
def Zbz.f (l0 : List (List Int)) : Option (Int) := some (l0.length : Int)
theorem Zbz.calls (A0 : Option Addr) (c0 : Nat) (l0 : List (List Int)) (r : Int) (w : World) (a : Kd.C (Kd.slice 2 (Kd.int .i64)) w A0 l0.length l0) (b : l0.length ≤ c0) (h : Zbz.f l0 = some r) :
  Calls Try.prog 59 #[.slice A0 l0.length c0] w fun e w' => e = .returned (.int .i64 r) ∧ Zas w w' := by
 have c := mA a
 have d := mA b
 clear a b
 unfold Zbz.f at h
 have H := h
 clear h
 obtain rfl := oI H
 go_enter Try.func59, Try.ntmps59
 go_wp2
 go_ret
 exact ⟨eW, by repeat (first | exact Zas.refl _ | apply Zas.step)⟩
def Zb7.f (a0 : Int) (a1 : Int) (a2 : Int) : Option (Bool) := if a1 ≤ a0 then (some (decide (a0 ≤ a2))) else (some false)
theorem Zb7.calls (a0 : Int) (a1 : Int) (a2 : Int) (r : Bool) (w : World) (h : Zb7.f a0 a1 a2 = some r) :
  Calls Try.prog 84 #[.int .i64 a0, .int .i64 a1, .int .i64 a2] w fun e w' => e = .returned (.bool r) ∧ Zas w w' := by
 unfold Zb7.f at h
 have H := h
 clear h
 by_cases c4 : a1 ≤ a0
 ·rw [if_pos c4] at H
  have a := dT c4
  clear c4
  obtain rfl := oI H
  go_enter Try.func84, Try.ntmps84
  go_wp2
  go_ret
  exact ⟨eW, by repeat (first | exact Zas.refl _ | apply Zas.step)⟩
 ·rw [if_neg c4] at H
  have a := dF c4
  clear c4
  obtain rfl := oI H
  go_enter Try.func84, Try.ntmps84
  go_wp2
  go_ret
  exact ⟨eW, by repeat (first | exact Zas.refl _ | apply Zas.step)⟩
def Zdf.f (a0 : Int) : Option (Int) := if 0 ≤ a0 then (some (shl .i64 1 a0)) else (none)
theorem Zdf.calls (a0 : Int) (r : Int) (w : World) (h : Zdf.f a0 = some r) :
  Calls Try.prog 71 #[.int .i64 a0] w fun e w' => e = .returned (.int .i64 r) ∧ Zas w w' := by
 unfold Zdf.f at h
 have H := h
 clear h
 by_cases c2 : 0 ≤ a0; rotate_left
 ·rw [if_neg c2] at H
  exact absurd H (by simp)
 rw [if_pos c2] at H
 have l := eq_true c2
 have m := dT c2
 clear c2
 obtain ⟨a, b⟩ : ∃ j_ : Int, (shl .i64 1 a0) = j_ := ⟨_, rfl⟩
 replace H : (some a) = some r := by first | (rw [b] at H; exact H) | (simp only [b] at H ⊢; exact H)
 have c : (IntKind.i64.wrap (1 * 2 ^ min a0.toNat 64)) = a := b
 have d : a0 ≤ 64 → (IntKind.i64.wrap (1 * 2 ^ a0.toNat)) = a := shl_small b
 have g : (IntKind.i64.wrap (2 ^ min a0.toNat 64)) = a := by have h_ := c; rw [Int.one_mul] at h_; exact h_
 have i : a0 ≤ 64 → (IntKind.i64.wrap (2 ^ a0.toNat)) = a := fun hle_ => by have h_ := d hle_; rw [Int.one_mul] at h_; exact h_
 have j : (wrap64 (1 * 2 ^ min a0.toNat 64)) = a := (i64_w _).symm.trans c
 have k : a0 ≤ 64 → (wrap64 (1 * 2 ^ a0.toNat)) = a := fun h_ => (i64_w _).symm.trans (d h_)
 obtain rfl := oI H
 go_enter Try.func71, Try.ntmps71
 go_wp2
 go_ret
 exact ⟨by first | rfl | (simp; done) | (simp only [← b] <;> (first | rfl | simp)) | (simp [*]; done), by repeat (first | exact Zas.refl _ | apply Zas.step)⟩
def Zdd.f (a0 : Int) (a1 : Int) : Option (Bool) := (Zb7.f a1 0 24).bind fun a => (if a = true then ((Zdf.f a1).bind fun b => ((Zb7.f a0 0 (wrap64 (b - 1))).bind fun c => (some c))) else (some false))
theorem Zdd.calls (a0 : Int) (a1 : Int) (r : Bool) (w : World) (h : Zdd.f a0 a1 = some r) :
  Calls Try.prog 85 #[.int .i64 a0, .int .i64 a1] w fun e w' => e = .returned (.bool r) ∧ Zas w w' := by
 unfold Zdd.f at h
 have H := h
 clear h
 replace H := bE H
 obtain ⟨g, b, H⟩ := H
 have A3 := mA b
 clear b
 by_cases c4 : g = true; rotate_left
 ·replace c4 := Bool.eq_false_iff.mpr c4
  subst c4
  rw [iF] at H
  obtain rfl := oI H
  go_enter Try.func85, Try.ntmps85
  go_wp2_with (first | ((with_reducible refine Zar (f := 84) rfl ?_); refine Za2 (some 6) Try.func84 #[.int .i64 a1, .int .i64 0, .int .i64 24] ?_; (with_reducible refine (Zb7.calls a1 0 24 false _ A3.out).mono ?_); rintro e w' ⟨rfl, ⟨nd, rfl⟩⟩; refine ⟨_, rfl, ?_⟩))
  go_ret
  exact ⟨eW, by repeat (first | exact Zas.refl _ | apply Zas.step)⟩
 subst c4
 rw [if_pos rfl] at H
 replace H := bE H
 obtain ⟨a, c, H⟩ := H
 have A5 := mA c
 clear c
 replace H := bE H
 obtain ⟨i, d, H⟩ := H
 have A6 := mA d
 clear d
 obtain rfl := oI H
 go_enter Try.func85, Try.ntmps85
 go_wp2_with (first | ((with_reducible refine Zar (f := 84) rfl ?_); refine Za2 (some 6) Try.func84 #[.int .i64 a1, .int .i64 0, .int .i64 24] ?_; (with_reducible refine (Zb7.calls a1 0 24 true _ A3.out).mono ?_); rintro e w' ⟨rfl, ⟨nd, rfl⟩⟩; refine ⟨_, rfl, ?_⟩) | (go_at_call 71; (with_reducible refine (Zdf.calls a1 a _ A5.out).mono ?_); rintro e w' ⟨rfl, ⟨nd, rfl⟩⟩) | (go_at_call 84; (with_reducible refine (Zb7.calls a0 0 (wrap64 (a - 1)) i _ A6.out).mono ?_); rintro e w' ⟨rfl, ⟨nd, rfl⟩⟩))
 go_ret
 exact ⟨eW, by repeat (first | exact Zas.refl _ | apply Zas.step)⟩
def Zcn.f (l0 : List Int) : Option (Int) := some (l0.length : Int)
theorem Zcn.calls (A0 : Option Addr) (c0 : Nat) (l0 : List Int) (r : Int) (w : World) (a : Kd.C (Kd.int .i64) w A0 l0.length l0) (b : l0.length ≤ c0) (h : Zcn.f l0 = some r) :
  Calls Try.prog 87 #[.slice A0 l0.length c0] w fun e w' => e = .returned (.int .i64 r) ∧ Zas w w' := by
 have c := mA a
 have d := mA b
 clear a b
 unfold Zcn.f at h
 have H := h
 clear h
 obtain rfl := oI H
 go_enter Try.func87, Try.ntmps87
 go_wp2
 go_ret
 exact ⟨eW, by repeat (first | exact Zas.refl _ | apply Zas.step)⟩
end Go.Proofs.Ytgindgodfcfgkaa.P
end M3
