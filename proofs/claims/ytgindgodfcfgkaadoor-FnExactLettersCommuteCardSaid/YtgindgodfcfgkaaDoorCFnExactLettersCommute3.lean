import Derived.Laws.StructEq
import Derived.Lib.SliceRun
import Derived.Shelf.Abstract
import Derived.Shelf.Spec.TrailingZeros
import Derived.Test.YtgindgodfcfgkaaDoorProg
import Derived.Test.YtgindgodfcfgkaaDoorCFnExactLettersCommute2
set_option maxHeartbeats 8000000
set_option maxRecDepth 100000
section M0
namespace Go.Proofs.YtgindgodfcfgkaaDoor.Sh
open Go.RowKit Go.Proofs.YtgindgodfcfgkaaDoorW.PrintWords Go.Proofs.YtgindgodfcfgkaaDoorW.PrintLast Go.Proofs.YtgindgodfcfgkaaDoorW.PrintMore
open Kd
theorem bW {B : Nat} {w W : World} (h : Below B w W := by repeat (first | (with_reducible first | exact Zaa.out (by assumption) | apply Zbk | apply Zbd | apply Za0 | refine Zbs ?_ (Zaa.out (by assumption))) | exact Zaa.out (by assumption))) : Below B w W := h
theorem ofD {p : Prop} [Decidable p] (h : decide p = true := by first | (with_reducible assumption) | assumption) : p := of_decide_eq_true h
theorem rP {p q : Prop} (h : p) (k : p → q := by intro h_; (with_reducible repeat (first | apply Kd.zC | apply Kd.zD | apply Kd.zA)); exact h_) : q := k h
theorem sP {p q : Prop} (h : p) (k : p → q := by intro h_; (with_reducible repeat (first | apply Kd.yD | apply Kd.yE | apply Kd.zW)); exact h_) : q := k h
theorem bP {p q : Prop} (h : p) (k : p → q := by intro h_; (with_reducible repeat (first | refine Zaj ?_ _ | refine Zad ?_ | refine Zaf ?_ _)); exact h_) : q := k h
theorem cP {p q : Prop} (h : p) (k : p → q := by intro h_; repeat (first | exact h_ | (with_reducible refine Kd.yI ?_ _) | (with_reducible refine Kd.yK ?_ _) | (with_reducible refine Kd.yJ ?_))) : q := k h
theorem eW {α : Type} {a b : α} (h : a = b := by first | rfl | (simp; done) | (simp [*]; done)) : a = b := h
section
variable {P : Program} {ops : Array Oper} {o : Oper} {rest : List Oper} {a : Act} {Q : Exit → Act → World → Prop}
theorem boxS {W : World} {N : Tmp} {cs : Array Value} {t : TypeId}
    (h : ∀ g, g = W.heap.size → ∀ w1, w1.heap[g]? = some (.cells cs t (0, 0)) → Below W.heap.size W w1 → wpList P ops Q rest (a.put o.dst (.pointer (some ⟨g, 0, none⟩))) w1)
    (hd : o.dst = some N := by rfl) (hgd : o.guard = none := by rfl)
    (hrun : (execOp a.eval o).run P W = .ok (.value (.pointer (some ⟨W.heap.size, 0, none⟩))) (W.alloc (.cells cs t (0, 0))) := by first | (go_simp; done) | (go_simp; rfl)) : wpList P ops Q (o :: rest) a W :=
  box_event hgd hd hrun h
theorem Zdi {W w1 : World} {t : TypeId} {p : Tmp} {v : Operand} (h : ∀ w', w' = w1 → wpList P ops Q rest a w')
    (ho : o.op = .store t (.tmp p) v := by rfl) (hgd : o.guard = none := by rfl) (hN : o.dst = none := by rfl)
    (hrun : (execOp a.eval o).run P W = .ok .skip w1 := by first | (go_simp; done) | (go_simp; rfl)) : wpList P ops Q (o :: rest) a W :=
  Zdq hgd ho hN hrun h
theorem Zbo {w : World} (N : Option Tmp) {f : FuncId} {fn : Func} {as9 : Array Operand} {ts : Array TypeId} (hf : P.funcs[f]? = some fn) (args : Array Value)
    (h : Calls P f args w fun e w' => ∃ v, e = .returned v ∧ wpList P ops Q rest (a.put N v) w')
    (hd : o.dst = N := by rfl) (hg : o.guard = none := by rfl) (hname : (fn.name == "runtime.NumGoroutine") = false := by kernel_rfl) (hb : fn.body.isSome = true := by rfl)
    (hop : o.op = .call { callee := .value (.func f), args := as9, argTypes := ts } := by rfl)
    (hargs : as9.map a.eval = args := by (try simp only [List.map_toArray, List.map_cons, List.map_nil]); first | done | rfl | (simp only [List.length_drop, List.length_take]; rfl)) : wpList P ops Q (o :: rest) a w :=
  goesL_ N hd hg hf hname hb args hop hargs h
end
theorem blkB {w W w1 : World} {g : Nat} {o : Obj} (h : w.heap[g]? = some o) (hb : Below W.heap.size W w1) (k : (w.heap[g]? = some o) → (W.heap[g]? = some o) := by intro h_; (with_reducible repeat (first | refine Zaj ?_ _ | refine Zad ?_ | refine Zaf ?_ _)); exact h_) : w1.heap[g]? = some o := Zc3 (k h) hb
theorem mA {p : Prop} (h : p) : Zaa p := ⟨h⟩
theorem neB {U W : World} {g k : Nat} {o : Obj} (hg : k = W.heap.size) (h : Zaa (U.heap[g]? = some o)) (t : U.heap[g]? = some o → W.heap[g]? = some o := by intro h_; (with_reducible repeat (first | refine Zaj ?_ _ | refine Zad ?_ | refine Zaf ?_ _)); exact h_) : g ≠ k := by rw [hg]; exact Nat.ne_of_lt (blk_lt (t h.out))
theorem neC {U W : World} {g k : Nat} {o : Obj} (hg : k = W.heap.size) (h : Zaa (U.heap[g]? = some o)) (t : U.heap[g]? = some o → W.heap[g]? = some o := by intro h_; (with_reducible repeat (first | refine Zaj ?_ _ | refine Zad ?_ | refine Zaf ?_ _)); exact h_) : k ≠ g := by rw [hg]; exact Nat.ne_of_gt (blk_lt (t h.out))
theorem bc {w : World} {g : Nat} {t : TypeId} {cs : Array Value} {v : Value} (h : Zaa (w.heap[g]? = some (.cells cs t (0, 0)))) (i : Nat) (e : cs[i]? = some v := by rfl) : w.cell? ⟨g, i, none⟩ = some v := (Zb5 h.out i).trans e
theorem wB (w : World) {a : Addr} {v : Value} (h : w.cell? a = some v) : a.block < w.heap.size := World.block_lt_of_cell? w _ h
theorem cB {w W : World} {a : Addr} {v : Value} (h : Zaa (Below w.heap.size w W)) (x : w.cell? a = some v) : W.cell? a = some v := (h.out.cell (World.block_lt_of_cell? w _ x)).trans x
theorem dT {p : Prop} [Decidable p] (h : p) : decide p = true := decide_eq_true h
theorem dF {p : Prop} [Decidable p] (h : ¬ p) : decide p = false := decide_eq_false h
theorem bE {α β : Type} {o : Option α} {f : α → Option β} {r : β} (h : o.bind f = some r) : ∃ a, o = some a ∧ f a = some r := Option.bind_eq_some_iff.mp h
theorem oI {α : Type} {a b : α} (h : some a = some b) : a = b := Option.some.inj h
theorem dwD {α : Type} {x : α} {w : World} {a b : Nat} : x = x ∧ ∃ n, (w.drewN a).drewN b = w.drewN n := ⟨rfl, _, World.drewN_drewN _ _ _⟩
theorem dwE {α : Type} {x : α} {w : World} {a b c : Nat} : x = x ∧ ∃ n, (w.drewN (a + b)).drewN c = w.drewN (a + n) := ⟨rfl, _, Eq.trans (World.drewN_drewN _ _ _) (congrArg (World.drewN _) (Nat.add_assoc _ _ _))⟩
theorem iF {α : Type} {a b : α} : (if false = true then a else b) = b := if_neg (by decide)
theorem putS (n : Tmp) {P : Program} {ops : Array Oper} {Q : Exit → Act → World → Prop} {md : Region.Mode} {S : World → Prop} {ds : List Nat} {fuel : Nat} {l : Array Bool} {a a' : Act} {w : World} {v : Value} (h : Za7 P md ops Q S ds fuel l a' w) (ha : a.put (some n) v = a' := by (simp only [Act.put, List.setIfInBounds_toArray, List.set_cons_zero, List.set_cons_succ, i64_w, i32_w]; rfl)) : Za7 P md ops Q S ds fuel l (a.put (some n) v) w := norm_ ha h
theorem geW {w W : World} {g : Nat} (hg : g = W.heap.size) (h : Below w.heap.size w W := by repeat (first | (with_reducible first | exact Zaa.out (by assumption) | apply Zbk | apply Zbd | apply Za0 | refine Zbs ?_ (Zaa.out (by assumption))) | exact Zaa.out (by assumption))) : Zaa (w.heap.size ≤ g) := ⟨hg ▸ Zag h⟩
theorem Zc6 {w : World} {g : Nat} {a b : Value} {t : TypeId} (h : w.heap[g]? = some (.cells #[a, b] t (0, 0))) : w.cell? ⟨g, 0, none⟩ = some a ∧ w.cell? ⟨g, 1, none⟩ = some b := by
  refine ⟨?_, ?_⟩
  · rw [Zb5 h 0]; rfl
  · rw [Zb5 h 1]; rfl
theorem cells3 {w : World} {g : Nat} {a b c : Value} {t : TypeId} (h : w.heap[g]? = some (.cells #[a, b, c] t (0, 0))) : w.cell? ⟨g, 0, none⟩ = some a ∧ w.cell? ⟨g, 1, none⟩ = some b ∧ w.cell? ⟨g, 2, none⟩ = some c := by
  refine ⟨?_, ?_, ?_⟩
  · rw [Zb5 h 0]; rfl
  · rw [Zb5 h 1]; rfl
  · rw [Zb5 h 2]; rfl
theorem Zbi {w : World} {g : Nat} {a b c d : Value} {t : TypeId} (h : w.heap[g]? = some (.cells #[a, b, c, d] t (0, 0))) : w.cell? ⟨g, 0, none⟩ = some a ∧ w.cell? ⟨g, 1, none⟩ = some b ∧ w.cell? ⟨g, 2, none⟩ = some c ∧ w.cell? ⟨g, 3, none⟩ = some d := by
  refine ⟨?_, ?_, ?_, ?_⟩
  · rw [Zb5 h 0]; rfl
  · rw [Zb5 h 1]; rfl
  · rw [Zb5 h 2]; rfl
  · rw [Zb5 h 3]; rfl
theorem frz2 {w : World} {g : Nat} {cs : Array Value} {t : TypeId} (h : w.heap[g]? = some (.cells cs t (0, 0))) : w.frozen? ⟨g, 0, none⟩ = false ∧ w.frozen? ⟨g, 1, none⟩ = false := ⟨Zab h 0, Zab h 1⟩
theorem frz3 {w : World} {g : Nat} {cs : Array Value} {t : TypeId} (h : w.heap[g]? = some (.cells cs t (0, 0))) : w.frozen? ⟨g, 0, none⟩ = false ∧ w.frozen? ⟨g, 1, none⟩ = false ∧ w.frozen? ⟨g, 2, none⟩ = false := ⟨Zab h 0, Zab h 1, Zab h 2⟩
theorem frz4 {w : World} {g : Nat} {cs : Array Value} {t : TypeId} (h : w.heap[g]? = some (.cells cs t (0, 0))) : w.frozen? ⟨g, 0, none⟩ = false ∧ w.frozen? ⟨g, 1, none⟩ = false ∧ w.frozen? ⟨g, 2, none⟩ = false ∧ w.frozen? ⟨g, 3, none⟩ = false := ⟨Zab h 0, Zab h 1, Zab h 2, Zab h 3⟩
section
variable {P : Program} {ops : Array Oper} {Q : Exit → Act → World → Prop} {md : Region.Mode} {S : World → Prop} {ds : List Nat}
theorem Zan {i : Nat} {N : Option Tmp} {oi : Oper} {v : Value} {fuel : Nat} {l : Array Bool} {a : Act} {w : World} {a' : Act} (hc : anyB md ops l (l.setIfInBounds i true) i = true) (h : Za7 P md ops Q S ds fuel (l.setIfInBounds i true) a' w)
    (hi : ops[i]? = some oi := by rfl) (hN : oi.dst = N := by rfl) (hQ : ∀ c a w, Q (.panic c) (a.put oi.dst v) w → Q (.panic c) a w := by exact fun _ _ _ h => h) (hy : Yields P ops oi v a := by (refine Or.inl ⟨by rfl, ?_⟩; intro w'; go_simp; with_reducible rfl))
    (ha : a.put N v = a' := by (simp only [Act.put, List.setIfInBounds_toArray, List.set_cons_zero, List.set_cons_succ, i64_w, i32_w]; rfl)) : Za7 P md ops Q S ds (fuel + 1) l a w := pure_ _ hi hN hc hQ hy ha h
theorem Zby {i : Nat} {N : Option Tmp} {oi : Oper} {fuel : Nat} {l : Array Bool} {a : Act} {w : World} {a' : Act} (hc : anyB md ops l (l.setIfInBounds i true) i = true) (h : Za7 P md ops Q S ds fuel (l.setIfInBounds i true) a' w)
    (hi : ops[i]? = some oi := by rfl) (hN : oi.dst = N := by rfl) (hQ : ∀ c a w, Q (.panic c) (a.put oi.dst undef) w → Q (.panic c) a w := by exact fun _ _ _ h => h) (hy : Yields P ops oi undef a := by exact Or.inr ⟨by rfl, rfl⟩)
    (ha : a.put N undef = a' := by (simp only [Act.put, List.setIfInBounds_toArray, List.set_cons_zero, List.set_cons_succ, i64_w, i32_w]; rfl)) : Za7 P md ops Q S ds (fuel + 1) l a w := pure_ _ hi hN hc hQ hy ha h
theorem Za8 {i : Nat} {N : Option Tmp} {oi : Oper} {v : Value} {fuel : Nat} {l : Array Bool} {a : Act} {w : World} {a' : Act} (hc : takeB md ops ds l (l.setIfInBounds i true) i = true) (hS : S w) (h : Za7 P md ops Q S ds fuel (l.setIfInBounds i true) a' w)
    (hi : ops[i]? = some oi := by rfl) (hN : oi.dst = N := by rfl) (hQ : ∀ c a w, Q (.panic c) (a.put oi.dst v) w → Q (.panic c) a w := by exact fun _ _ _ h => h) (hy : YieldsIf P ops S oi v a := by (refine Or.inl ⟨by rfl, ?_⟩; intro w' hs_; (repeat (have := hs_.1; replace hs_ := hs_.2)); go_simp; with_reducible rfl))
    (ha : a.put N v = a' := by (simp only [Act.put, List.setIfInBounds_toArray, List.set_cons_zero, List.set_cons_succ, i64_w, i32_w]; rfl)) : Za7 P md ops Q S ds (fuel + 1) l a w := take_ _ hi hN hc hQ hy hS ha h
end
/-- A list without elements lies as9 nil. -/
def NilOf {α : Type} (v : Value) (r : List α) : Prop := r = [] → v = .slice none 0 0
theorem NilOf.cons {α : Type} {v : Value} {r l : List α} {x : α} (h : r = x :: l) : NilOf v r := fun e => by rw [h] at e; cases e
end Go.Proofs.YtgindgodfcfgkaaDoor.Sh
end M0
section M1
namespace Go.Proofs.YtgindgodfcfgkaaDoor.Sh
open Go.RowKit Go.Proofs.YtgindgodfcfgkaaDoorW.PrintWords Go.Proofs.YtgindgodfcfgkaaDoorW.PrintLast Go.Proofs.YtgindgodfcfgkaaDoorW.PrintMore
open Kd
def Tab (w : World) : Prop := ∀ j, j < Lib.deBruijn64tab.length → w.cell? ⟨0, j, none⟩ = some (.int .u8 (Lib.deBruijn64tab.getD j 0))
theorem Tab.below {w W : World} (hb : Below w.heap.size w W) (h : Tab w) : Tab W := fun j hj => (hb.cell (p := ⟨0, j, none⟩) (World.block_lt_of_cell? w _ (h j hj))).trans (h j hj)
theorem Tab.drewN {w : World} (h : Tab w) (n : Nat) : Tab (w.drewN n) := Tab.below (Zbd (Below.refl _ w) n) h
theorem Tab.drew {w : World} (h : Tab w) : Tab w.drew := Tab.below (Za0 (Below.refl _ w)) h
theorem tabW {w W : World} (h : Tab w) (hb : Below w.heap.size w W := by repeat (first | (with_reducible first | exact Zaa.out (by assumption) | exact Below.refl _ _ | apply Zbk | apply Zbd | apply Za0 | refine Zbs ?_ (Zaa.out (by assumption))) | exact Zaa.out (by assumption))) : Tab W := Tab.below hb h
end Go.Proofs.YtgindgodfcfgkaaDoor.Sh
end M1
section M2
namespace Go.Proofs.YtgindgodfcfgkaaDoor.P
open Go.RowKit Go.Proofs.YtgindgodfcfgkaaDoor.Sh Go.Proofs.YtgindgodfcfgkaaDoorW.PrintWords Go.Proofs.YtgindgodfcfgkaaDoorW.PrintLast Go.Proofs.YtgindgodfcfgkaaDoorW.PrintMore
open Kd
attribute [local go_sem] Zcd Zca Zcn Zcm Zb1 Zb2 Zcc Zce   -- for this text's walks alone
set_option linter.unusedVariables false
set_option linter.unusedSimpArgs false
def errW : Option Int → Value
  | none => .nilIface
  | some c => .iface 0 (.int .i64 c)
theorem errW_none : errW none = .nilIface := rfl
theorem errW_some (c : Int) : errW (some c) = .iface 0 (.int .i64 c) := rfl
theorem info2 : (Tryd.prog.info? 2).map (fun i => (i.zero, i.size, i.bytes)) = some (some (.int .i64 0), 1, 8) := by kernel_rfl
theorem info4 : (Tryd.prog.info? 4).map (fun i => (i.zero, i.size, i.bytes)) = some (some (.bool false), 1, 1) := by kernel_rfl
theorem info5 : (Tryd.prog.info? 5).map (fun i => (i.zero, i.size, i.bytes)) = some (some (.int .u8 0), 1, 1) := by kernel_rfl
theorem info22 : (Tryd.prog.info? 22).map (fun i => (i.zero, i.size, i.bytes)) = some (some (.slice none 0 0), 1, 24) := by kernel_rfl
-- the values' own types
def Zae (xs : List (List Int)) (i : Int) : (List Int) := xs.getD i.toNat ([] : List Int)
theorem Zch {w : World} {A : Option Addr} {n : Nat} {xs : List (List Int)} (h : Kd.C (Kd.slice 2 (Kd.int .i64)) w A n xs) (i : Int) (h0 : 0 ≤ i) (h1 : i < n) : ∃ ad A0 c0, A = some ad ∧ w.cell? (ad.add i.toNat) = some (.slice A0 (Zae xs i).length c0) ∧ (Zae xs i).length ≤ c0 ∧ (Kd.int .i64).C w A0 (Zae xs i).length (Zae xs i) := by
  obtain ⟨ad, c, e, _, hK, a⟩ := Kd.C_get h ([] : List Int) i h0 h1
  have hc : ∀ j u, c[j]? = some u → w.cell? (ad.add (i.toNat * 1 + j)) = some u := a
  obtain ⟨A0, c0, rfl, l0, g0⟩ := hK
  exact ⟨ad, A0, c0, e, by have hq := hc 0 _ rfl; rwa [Nat.mul_one, Nat.add_zero] at hq, l0, g0⟩
structure S34 where
  f0 : Int
  f1 : Int
  f2 : Int
  f3 : (List (List Int))
def z34 : S34 := ⟨(0 : Int), (0 : Int), (0 : Int), ([] : List (List Int))⟩
def k34 : Kd S34 := Kd.iso (Kd.pair (Kd.int .i64) (Kd.pair (Kd.int .i64) (Kd.pair (Kd.int .i64) (Kd.slice 22 (Kd.slice 2 (Kd.int .i64)))))) (fun x : S34 => (x.f0, x.f1, x.f2, x.f3))
theorem k34_open {w : World} {x : S34} {cs : List Value} (h : k34.K w x cs) : ∃ A3 c3, cs = [.int .i64 x.f0, .int .i64 x.f1, .int .i64 x.f2, .slice A3 x.f3.length c3] ∧ x.f3.length ≤ c3 ∧ (Kd.slice 2 (Kd.int .i64)).C w A3 x.f3.length x.f3 := by
  obtain ⟨_, _, rfl, rfl, ⟨_, _, rfl, rfl, ⟨_, _, rfl, rfl, ⟨A3, c3, rfl, l3, g3⟩⟩⟩⟩ := h
  exact ⟨A3, c3, rfl, l3, g3⟩
theorem k34_mk (w : World) (x : S34) {A3 : Option Addr} {c3 : Nat} (l3 : x.f3.length ≤ c3) (g3 : (Kd.slice 2 (Kd.int .i64)).C w A3 x.f3.length x.f3) : k34.K w x [.int .i64 x.f0, .int .i64 x.f1, .int .i64 x.f2, .slice A3 x.f3.length c3] := ⟨[.int .i64 x.f0], [.int .i64 x.f1, .int .i64 x.f2, .slice A3 x.f3.length c3], rfl, rfl, ⟨[.int .i64 x.f1], [.int .i64 x.f2, .slice A3 x.f3.length c3], rfl, rfl, ⟨[.int .i64 x.f2], [.slice A3 x.f3.length c3], rfl, rfl, ⟨A3, c3, rfl, l3, g3⟩⟩⟩⟩
theorem k34_mkF (W : World) (ok : Nat → Prop) (x : S34) {A3 : Option Addr} {c3 : Nat} (l3 : x.f3.length ≤ c3) (g3 : Kd.F (Kd.slice 2 (Kd.int .i64)) W ok A3 x.f3.length x.f3) : Kd.FK k34 W ok x [.int .i64 x.f0, .int .i64 x.f1, .int .i64 x.f2, .slice A3 x.f3.length c3] := fun W2 hW => k34_mk W2 x l3 (g3 W2 hW)
def rd_T34 (xs : List S34) (i : Int) : S34 := xs.getD i.toNat z34
theorem at_T34 {w : World} {A : Option Addr} {n : Nat} {xs : List S34} (h : Kd.C k34 w A n xs) (i : Int) (h0 : 0 ≤ i) (h1 : i < n) : ∃ ad A3 c3, A = some ad ∧ w.cell? (ad.add (i.toNat * 4)) = some (.int .i64 (rd_T34 xs i).f0) ∧ w.cell? ⟨(ad.add (i.toNat * 4)).block, (ad.add (i.toNat * 4)).off + 1, none⟩ = some (.int .i64 (rd_T34 xs i).f1) ∧ w.cell? ⟨(ad.add (i.toNat * 4)).block, (ad.add (i.toNat * 4)).off + 2, none⟩ = some (.int .i64 (rd_T34 xs i).f2) ∧ w.cell? ⟨(ad.add (i.toNat * 4)).block, (ad.add (i.toNat * 4)).off + 3, none⟩ = some (.slice A3 (rd_T34 xs i).f3.length c3) ∧ (rd_T34 xs i).f3.length ≤ c3 ∧ (Kd.slice 2 (Kd.int .i64)).C w A3 (rd_T34 xs i).f3.length (rd_T34 xs i).f3 := by
  obtain ⟨ad, c, e, _, hK, a⟩ := Kd.C_get h z34 i h0 h1
  have hc : ∀ j u, c[j]? = some u → w.cell? (ad.add (i.toNat * 4 + j)) = some u := a
  obtain ⟨A3, c3, rfl, l3, g3⟩ := k34_open hK
  exact ⟨ad, A3, c3, e, hc 0 _ rfl, by rw [← add_field _ _ 1 (by omega)]; exact hc 1 _ rfl, by rw [← add_field _ _ 2 (by omega)]; exact hc 2 _ rfl, by rw [← add_field _ _ 3 (by omega)]; exact hc 3 _ rfl, l3, g3⟩
end Go.Proofs.YtgindgodfcfgkaaDoor.P
end M2
section M3
namespace Go.Proofs.YtgindgodfcfgkaaDoor.P
open Go.RowKit Go.Proofs.YtgindgodfcfgkaaDoor.Sh Go.Proofs.YtgindgodfcfgkaaDoorW.PrintWords Go.Proofs.YtgindgodfcfgkaaDoorW.PrintLast Go.Proofs.YtgindgodfcfgkaaDoorW.PrintMore
open Kd
attribute [local go_sem] Zcd Zca Zcn Zcm Zb1 Zb2 Zcc Zce   -- for this text's walks alone
set_option linter.unusedVariables false
set_option linter.unusedSimpArgs false
def Zcs.f (l0 : List Int) (a1 : Int) : Option (Int) := if (wrap64 (a1 - (l0.length : Int))) < 0 then (some (-1)) else (some (wrap64 (a1 - (l0.length : Int))))
theorem Zcs.calls (A0 : Option Addr) (c0 : Nat) (l0 : List Int) (a1 : Int) (r : Int) (w : World) (a : Kd.C (Kd.int .i64) w A0 l0.length l0) (b : l0.length ≤ c0) (h : Zcs.f l0 a1 = some r) :
  Calls Tryd.prog 15 #[.slice A0 l0.length c0, .int .i64 a1] w fun e w' => e = .returned (.int .i64 r) ∧ Zar w w' := by
 have d := mA a
 have g := mA b
 clear a b
 unfold Zcs.f at h
 have H := h
 clear h
 by_cases c3 : (wrap64 (a1 - (l0.length : Int))) < 0
 ·rw [if_pos c3] at H
  have c := dT c3
  clear c3
  obtain rfl := oI H
  go_enter Tryd.func15, Tryd.ntmps15
  go_wp2
  go_ret
  exact ⟨eW, by repeat (first | exact Zar.refl _ | apply Zar.step)⟩
 ·rw [if_neg c3] at H
  have c := dF c3
  clear c3
  obtain rfl := oI H
  go_enter Tryd.func15, Tryd.ntmps15
  go_wp2
  go_ret
  exact ⟨eW, by repeat (first | exact Zar.refl _ | apply Zar.step)⟩
def Zcv.f (c : Int) (b : List Int) (a1 : Int) : Option (Int) := (Zcs.f b a1).bind fun a => (if a < 0 then (some (-1)) else (some a))
theorem Zcv.calls (g : Int) (c : Option Addr) (d : Nat) (a : List Int) (a1 : Int) (r : Int) (w : World) (j : Kd.C (Kd.int .i64) w c a.length a) (k : a.length ≤ d) (h : Zcv.f g a a1 = some r) :
  Calls Tryd.prog 5 #[.agg #[.int .i64 g, .slice c a.length d], .int .i64 a1] w fun e w' => e = .returned (.int .i64 r) ∧ Below w.heap.size w w' := by
 have E := Tryd.underlying24
 have l := mA j
 have m := mA k
 clear j k
 have HB := mA (Below.refl w.heap.size w)
 unfold Zcv.f at h
 have H := h
 clear h
 replace H := bE H
 obtain ⟨i, q, H⟩ := H
 have A3 := mA q
 clear q
 by_cases c4 : i < 0
 ·rw [if_pos c4] at H
  have s := dT c4
  clear c4
  obtain rfl := oI H
  go_enter Tryd.func5, Tryd.ntmps5
  go_wp2_with (first | ((with_reducible refine Zap (N := 2) rfl ?_); refine boxS (N := 2) (cs := #[.int .i64 g, .slice c a.length d]) (t := 24) ?_; intro n hg w5 hbox hb; have b := mA (hbox); have o := geW (w := w) hg; have p := geW (w := w) hg; replace HB := mA (Zac (bW) hb); clear hb hbox hg; obtain ⟨u, v⟩ := Zc6 b.out; obtain ⟨x, y⟩ := frz2 b.out) | ((with_reducible refine Zav (f := 15) rfl ?_); refine Zbo (some 8) Tryd.func15 #[.slice c a.length d, .int .i64 a1] ?_; (with_reducible refine (Zcs.calls _ _ a a1 i _ ?side1 ?side2 A3.out).mono ?_); (case side1 => exact cP (zF l.out HB.out)); (case side2 => exact m.out); rintro e w' ⟨rfl, ⟨nd, rfl⟩⟩; refine ⟨_, rfl, ?_⟩))
  go_ret
  exact ⟨eW, bW⟩
 rw [if_neg c4] at H
 have s := dF c4
 clear c4
 obtain rfl := oI H
 go_enter Tryd.func5, Tryd.ntmps5
 go_wp2_with (first | ((with_reducible refine Zap (N := 2) rfl ?_); refine boxS (N := 2) (cs := #[.int .i64 g, .slice c a.length d]) (t := 24) ?_; intro n hg w7 hbox hb; have b := mA (hbox); have o := geW (w := w) hg; have p := geW (w := w) hg; replace HB := mA (Zac (bW) hb); clear hb hbox hg; obtain ⟨z, A⟩ := Zc6 b.out; obtain ⟨B, D⟩ := frz2 b.out) | ((with_reducible refine Zav (f := 15) rfl ?_); refine Zbo (some 8) Tryd.func15 #[.slice c a.length d, .int .i64 a1] ?_; (with_reducible refine (Zcs.calls _ _ a a1 i _ ?side1 ?side2 A3.out).mono ?_); (case side1 => exact cP (zF l.out HB.out)); (case side2 => exact m.out); rintro e w' ⟨rfl, ⟨nd, rfl⟩⟩; refine ⟨_, rfl, ?_⟩))
 go_ret
 exact ⟨eW, bW⟩
def Zbt.l0 : Nat → List (List Int) → Int → Int → Option (Int)
 | 0, _, _, _ => none
 | k + 1, x0, x1, x5 => if x5 < (x0.length : Int) then (if 0 ≤ x5 then ((Zcs.f (Zae x0 x5) x1).bind fun a => (if a < 0 then (some (-1)) else (Zbt.l0 k x0 a (wrap64 (x5 + 1))))) else (none)) else (some x1)
def Zbt.f (k : Nat) (l0 : List (List Int)) (a1 : Int) : Option (Int) := if (wrap64 (a1 - (l0.length : Int))) < 0 then (some (-1)) else (Zbt.l0 k l0 (wrap64 (a1 - (l0.length : Int))) 0)
theorem Zbt.calls (k : Nat) (A0 : Option Addr) (c0 : Nat) (l0 : List (List Int)) (a1 : Int) (r : Int) (w : World) (u : Kd.C (Kd.slice 2 (Kd.int .i64)) w A0 l0.length l0) (v : l0.length ≤ c0) (h : Zbt.f k l0 a1 = some r) :
  Calls Tryd.prog 16 #[.slice A0 l0.length c0, .int .i64 a1] w fun e w' => e = .returned (.int .i64 r) ∧ Zar w w' := by
 have x := mA u
 have D := mA v
 clear u v
 unfold Zbt.f at h
 have H := h
 clear h
 by_cases c3 : (wrap64 (a1 - (l0.length : Int))) < 0
 ·rw [if_pos c3] at H
  have s := dT c3
  clear c3
  obtain rfl := oI H
  go_enter Tryd.func16, Tryd.ntmps16
  go_wp2
  go_ret
  exact ⟨eW, by repeat (first | exact Zar.refl _ | apply Zar.step)⟩
 rw [if_neg c3] at H
 have s := dF c3
 clear c3
 have H' := mA H
 clear H
 go_enter Tryd.func16, Tryd.ntmps16
 go_wp2
 go_loopg [1, 5] k (fun kq v1 v5 w' => ∃ (d : Int) (a : Int), v1 = .int .i64 d ∧ v5 = .int .i64 a ∧ Zaa (Zbt.l0 kq l0 d a = some r) ∧ Zaa (kq ≤ k) ∧ Zar w w')
 case atStart => exact ⟨(wrap64 (a1 - (l0.length : Int))), (0), (eW), (eW), H', ⟨Nat.le_refl _⟩, by repeat (first | exact Zar.refl _ | apply Zar.step)⟩
 case round =>
  clear H' s
  obtain ⟨d, a, rfl, rfl, HA, HK1, ⟨m1, rfl⟩⟩ := hrel
  cases gk with
  | zero => exact absurd HA.out (by simp [Zbt.l0])
  | succ k1 =>
   have H := HA.out
   clear HA
   simp only [Zbt.l0] at H
   by_cases c4 : a < (l0.length : Int); rotate_left
   ·rw [if_neg c4] at H
    have z := dF c4
    clear c4
    obtain rfl := oI H
    go_wp2
    go_ret
    exact ⟨eW, by repeat (first | exact Zar.refl _ | apply Zar.step)⟩
   rw [if_pos c4] at H
   have z := dT c4
   clear c4
   by_cases c5 : 0 ≤ a; rotate_left
   ·rw [if_neg c5] at H
    exact absurd H (by simp)
   rw [if_pos c5] at H
   have B := dT c5
   clear c5
   replace H := bE H
   obtain ⟨o, y, H⟩ := H
   have A6 := mA y
   clear y
   by_cases c7 : o < 0
   ·rw [if_pos c7] at H
    have A := dT c7
    clear c7
    obtain rfl := oI H
    have g : 0 ≤ (a : Int) := ofD
    have i : a < (l0.length : Int) := ofD
    obtain ⟨t, m, n, p, q, b, c⟩ := Zch x.out a g i
    cases p
    have j := mA c
    have l := mA b
    clear c b
    replace g := eq_true g
    replace i := eq_true i
    go_wp2_with (first | ((with_reducible refine Zav (f := 15) rfl ?_); refine Zbo (some 23) Tryd.func15 #[.slice m (Zae l0 a).length n, .int .i64 d] ?_; (with_reducible refine (Zcs.calls _ _ (Zae l0 a) d o _ ?side1 ?side2 A6.out).mono ?_); (case side1 => exact cP j.out); (case side2 => exact l.out); rintro e w' ⟨rfl, ⟨nd, rfl⟩⟩; refine ⟨_, rfl, ?_⟩))
    go_ret
    exact ⟨eW, by repeat (first | exact Zar.refl _ | apply Zar.step)⟩
   rw [if_neg c7] at H
   have A := dF c7
   clear c7
   have H' := mA H
   clear H
   have g : 0 ≤ (a : Int) := ofD
   have i : a < (l0.length : Int) := ofD
   obtain ⟨t, m, n, p, q, b, c⟩ := Zch x.out a g i
   cases p
   have j := mA c
   have l := mA b
   clear c b
   replace g := eq_true g
   replace i := eq_true i
   go_wp2_with (first | ((with_reducible refine Zav (f := 15) rfl ?_); refine Zbo (some 23) Tryd.func15 #[.slice m (Zae l0 a).length n, .int .i64 d] ?_; (with_reducible refine (Zcs.calls _ _ (Zae l0 a) d o _ ?side1 ?side2 A6.out).mono ?_); (case side1 => exact cP j.out); (case side2 => exact l.out); rintro e w' ⟨rfl, ⟨nd, rfl⟩⟩; refine ⟨_, rfl, ?_⟩))
   go_roundg k1
   case measure => have := HK1.out; omega
   case rel => exact ⟨(o), (wrap64 (a + 1)), (eW), (eW), H', ⟨by have := HK1.out; omega⟩, by repeat (first | exact Zar.refl _ | apply Zar.step)⟩
def Zcx.f (k : Nat) (c : Int) (d : Int) (e : Int) (b : List (List Int)) (a1 : Int) : Option (Int) := (Zbt.f k b a1).bind fun a => (if a < 0 then (some (-1)) else (some a))
theorem Zcx.calls (k : Nat) (g : Int) (i : Int) (j : Int) (c : Option Addr) (d : Nat) (a : List (List Int)) (a1 : Int) (r : Int) (w : World) (m : Kd.C (Kd.slice 2 (Kd.int .i64)) w c a.length a) (n : a.length ≤ d) (h : Zcx.f k g i j a a1 = some r) :
  Calls Tryd.prog 6 #[.agg #[.int .i64 g, .int .i64 i, .int .i64 j, .slice c a.length d], .int .i64 a1] w fun e w' => e = .returned (.int .i64 r) ∧ Below w.heap.size w w' := by
 have W := Tryd.underlying27
 have o := mA m
 have p := mA n
 clear m n
 have HB := mA (Below.refl w.heap.size w)
 unfold Zcx.f at h
 have H := h
 clear h
 replace H := bE H
 obtain ⟨l, v, H⟩ := H
 have A3 := mA v
 clear v
 by_cases c4 : l < 0
 ·rw [if_pos c4] at H
  have x := dT c4
  clear c4
  obtain rfl := oI H
  go_enter Tryd.func6, Tryd.ntmps6
  go_wp2_with (first | ((with_reducible refine Zap (N := 2) rfl ?_); refine boxS (N := 2) (cs := #[.int .i64 g, .int .i64 i, .int .i64 j, .slice c a.length d]) (t := 27) ?_; intro q hg w5 hbox hb; have b := mA (hbox); have s := geW (w := w) hg; have u := geW (w := w) hg; replace HB := mA (Zac (bW) hb); clear hb hbox hg; obtain ⟨y, z, A, B⟩ := Zbi b.out; obtain ⟨D, E, G, I⟩ := frz4 b.out) | ((with_reducible refine Zav (f := 16) rfl ?_); refine Zbo (some 8) Tryd.func16 #[.slice c a.length d, .int .i64 a1] ?_; (with_reducible refine (Zbt.calls k _ _ a a1 l _ ?side1 ?side2 A3.out).mono ?_); (case side1 => exact cP (zF o.out HB.out)); (case side2 => exact p.out); rintro e w' ⟨rfl, ⟨nd, rfl⟩⟩; refine ⟨_, rfl, ?_⟩))
  go_ret
  exact ⟨eW, bW⟩
 rw [if_neg c4] at H
 have x := dF c4
 clear c4
 obtain rfl := oI H
 go_enter Tryd.func6, Tryd.ntmps6
 go_wp2_with (first | ((with_reducible refine Zap (N := 2) rfl ?_); refine boxS (N := 2) (cs := #[.int .i64 g, .int .i64 i, .int .i64 j, .slice c a.length d]) (t := 27) ?_; intro q hg w7 hbox hb; have b := mA (hbox); have s := geW (w := w) hg; have u := geW (w := w) hg; replace HB := mA (Zac (bW) hb); clear hb hbox hg; obtain ⟨J, K, L, M⟩ := Zbi b.out; obtain ⟨O, P, T, U⟩ := frz4 b.out) | ((with_reducible refine Zav (f := 16) rfl ?_); refine Zbo (some 8) Tryd.func16 #[.slice c a.length d, .int .i64 a1] ?_; (with_reducible refine (Zbt.calls k _ _ a a1 l _ ?side1 ?side2 A3.out).mono ?_); (case side1 => exact cP (zF o.out HB.out)); (case side2 => exact p.out); rintro e w' ⟨rfl, ⟨nd, rfl⟩⟩; refine ⟨_, rfl, ?_⟩))
 go_ret
 exact ⟨eW, bW⟩
def Zbc.f (a0 : Int) (a1 : Int) : Option (Bool) := if 0 ≤ (IntKind.u64.wrap (a1)) then (some ((Go.bits .and .i64 (shr .i64 a0 (IntKind.u64.wrap (a1))) 1) == 1)) else (none)
theorem Zbc.calls (a0 : Int) (a1 : Int) (r : Bool) (w : World) (h : Zbc.f a0 a1 = some r) :
  Calls Tryd.prog 49 #[.int .i64 a0, .int .i64 a1] w fun e w' => e = .returned (.bool r) ∧ Zar w w' := by
 unfold Zbc.f at h
 have H := h
 clear h
 obtain ⟨a, c⟩ : ∃ j_ : Int, (IntKind.u64.wrap (a1)) = j_ := ⟨_, rfl⟩
 replace H : (if 0 ≤ (a) then (some ((Go.bits .and .i64 (shr .i64 a0 (a)) 1) == 1)) else (none)) = some r := by first | (rw [c] at H; exact H) | (simp only [c] at H ⊢; exact H)
 by_cases c4 : 0 ≤ (a); rotate_left
 ·rw [if_neg c4] at H
  exact absurd H (by simp)
 rw [if_pos c4] at H
 have j := eq_true c4
 have k := dT c4
 clear c4
 obtain ⟨d, b⟩ : ∃ j_ : Int, (shr .i64 a0 (a)) = j_ := ⟨_, rfl⟩
 replace H : (some ((Go.bits .and .i64 (d) 1) == 1)) = some r := by first | (rw [b] at H; exact H) | (simp only [b] at H ⊢; exact H)
 have g : (a0 / 2 ^ min (a).toNat 64) = d := b
 have i : (a) ≤ 64 → (a0 / 2 ^ (a).toNat) = d := shr_small b
 obtain rfl := oI H
 go_enter Tryd.func49, Tryd.ntmps49
 go_wp2
 go_ret
 exact ⟨by first | rfl | (simp; done) | (simp only [← c, ← b] <;> (first | rfl | simp)) | (simp [*]; done), by repeat (first | exact Zar.refl _ | apply Zar.step)⟩
def Zau.f (a0 : Int) (a1 : Int) (a2 : Int) : Option (Bool) := if a0 ≥ a1 then (some (decide (a0 ≤ a2))) else (some false)
theorem Zau.calls (a0 : Int) (a1 : Int) (a2 : Int) (r : Bool) (w : World) (h : Zau.f a0 a1 a2 = some r) :
  Calls Tryd.prog 55 #[.int .i64 a0, .int .i64 a1, .int .i64 a2] w fun e w' => e = .returned (.bool r) ∧ Zar w w' := by
 unfold Zau.f at h
 have H := h
 clear h
 by_cases c4 : a0 ≥ a1
 ·rw [if_pos c4] at H
  have a : decide (a1 ≤ a0) = true := dT c4
  clear c4
  obtain rfl := oI H
  go_enter Tryd.func55, Tryd.ntmps55
  go_wp2
  go_ret
  exact ⟨eW, by repeat (first | exact Zar.refl _ | apply Zar.step)⟩
 ·rw [if_neg c4] at H
  have a : decide (a1 ≤ a0) = false := dF c4
  clear c4
  obtain rfl := oI H
  go_enter Tryd.func55, Tryd.ntmps55
  go_wp2
  go_ret
  exact ⟨eW, by repeat (first | exact Zar.refl _ | apply Zar.step)⟩
def Zda.f (a0 : Int) : Option (Int) := if 0 ≤ (IntKind.u64.wrap (a0)) then (some (shl .i64 1 (IntKind.u64.wrap (a0)))) else (none)
theorem Zda.calls (a0 : Int) (r : Int) (w : World) (h : Zda.f a0 = some r) :
  Calls Tryd.prog 70 #[.int .i64 a0] w fun e w' => e = .returned (.int .i64 r) ∧ Zar w w' := by
 unfold Zda.f at h
 have H := h
 clear h
 obtain ⟨a, d⟩ : ∃ j_ : Int, (IntKind.u64.wrap (a0)) = j_ := ⟨_, rfl⟩
 replace H : (if 0 ≤ (a) then (some (shl .i64 1 (a))) else (none)) = some r := by first | (rw [d] at H; exact H) | (simp only [d] at H ⊢; exact H)
 by_cases c3 : 0 ≤ (a); rotate_left
 ·rw [if_neg c3] at H
  exact absurd H (by simp)
 rw [if_pos c3] at H
 have n := eq_true c3
 have o := dT c3
 clear c3
 obtain ⟨b, c⟩ : ∃ j_ : Int, (shl .i64 1 (a)) = j_ := ⟨_, rfl⟩
 replace H : (some b) = some r := by first | (rw [c] at H; exact H) | (simp only [c] at H ⊢; exact H)
 have g : (IntKind.i64.wrap (1 * 2 ^ min (a).toNat 64)) = b := c
 have i : (a) ≤ 64 → (IntKind.i64.wrap (1 * 2 ^ (a).toNat)) = b := shl_small c
 have j : (IntKind.i64.wrap (2 ^ min (a).toNat 64)) = b := by have h_ := g; rw [Int.one_mul] at h_; exact h_
 have k : (a) ≤ 64 → (IntKind.i64.wrap (2 ^ (a).toNat)) = b := fun hle_ => by have h_ := i hle_; rw [Int.one_mul] at h_; exact h_
 have l : (wrap64 (1 * 2 ^ min (a).toNat 64)) = b := (i64_w _).symm.trans g
 have m : (a) ≤ 64 → (wrap64 (1 * 2 ^ (a).toNat)) = b := fun h_ => (i64_w _).symm.trans (i h_)
 obtain rfl := oI H
 go_enter Tryd.func70, Tryd.ntmps70
 go_wp2
 go_ret
 exact ⟨by first | rfl | (simp; done) | (simp only [← d, ← c] <;> (first | rfl | simp)) | (simp [*]; done), by repeat (first | exact Zar.refl _ | apply Zar.step)⟩
def Zb4.f (a0 : Int) : Option (Int) := (Zda.f a0).bind fun a => (some (wrap64 (a - 1)))
theorem Zb4.calls (a0 : Int) (r : Int) (w : World) (h : Zb4.f a0 = some r) :
  Calls Tryd.prog 57 #[.int .i64 a0] w fun e w' => e = .returned (.int .i64 r) ∧ Zar w w' := by
 unfold Zb4.f at h
 have H := h
 clear h
 replace H := bE H
 obtain ⟨b, a, H⟩ := H
 have A2 := mA a
 clear a
 obtain rfl := oI H
 go_enter Tryd.func57, Tryd.ntmps57
 go_wp2_with (first | ((with_reducible refine Zav (f := 70) rfl ?_); refine Zbo (some 4) Tryd.func70 #[.int .i64 a0] ?_; (with_reducible refine (Zda.calls a0 b _ A2.out).mono ?_); rintro e w' ⟨rfl, ⟨nd, rfl⟩⟩; refine ⟨_, rfl, ?_⟩))
 go_ret
 exact ⟨eW, by repeat (first | exact Zar.refl _ | apply Zar.step)⟩
def Zbw.l0 : Nat → Int → List Int → Int → Option (Bool)
 | 0, _, _, _ => none
 | k + 1, x0, x1, x5 => if x5 < (x1.length : Int) then (if 0 ≤ x5 then ((Zb4.f x0).bind fun a => ((Zau.f (rd x1 x5) 0 a).bind fun b => (if b = true then (Zbw.l0 k x0 x1 (wrap64 (x5 + 1))) else (some false)))) else (none)) else (some true)
def Zbw.f (k : Nat) (a0 : Int) (l1 : List Int) : Option (Bool) := Zbw.l0 k a0 l1 0
theorem Zbw.calls (k : Nat) (a0 : Int) (A1 : Option Addr) (c1 : Nat) (l1 : List Int) (r : Bool) (w : World) (l : Kd.C (Kd.int .i64) w A1 l1.length l1) (m : l1.length ≤ c1) (h : Zbw.f k a0 l1 = some r) :
  Calls Tryd.prog 56 #[.int .i64 a0, .slice A1 l1.length c1] w fun e w' => e = .returned (.bool r) ∧ Zar w w' := by
 have n := mA l
 have u := mA m
 clear l m
 unfold Zbw.f at h
 have H := h
 clear h
 have H' := mA H
 clear H
 go_enter Tryd.func56, Tryd.ntmps56
 go_wp2
 repeat (go_quiet (fail); try go_wp2)
 go_loopg [5] k (fun kq v5 w' => ∃ (a : Int), v5 = .int .i64 a ∧ Zaa (Zbw.l0 kq a0 l1 a = some r) ∧ Zaa (kq ≤ k) ∧ Zar w w')
 case atStart => exact ⟨(0), (eW), H', ⟨Nat.le_refl _⟩, by repeat (first | exact Zar.refl _ | apply Zar.step)⟩
 case round =>
  clear H'
  obtain ⟨a, rfl, HA, HK1, ⟨m1, rfl⟩⟩ := hrel
  cases gk with
  | zero => exact absurd HA.out (by simp [Zbw.l0])
  | succ k1 =>
   have H := HA.out
   clear HA
   simp only [Zbw.l0] at H
   by_cases c3 : a < (l1.length : Int); rotate_left
   ·rw [if_neg c3] at H
    have q := dF c3
    clear c3
    obtain rfl := oI H
    go_wp2
    repeat (go_quiet (fail); try go_wp2)
    go_ret
    exact ⟨eW, by repeat (first | exact Zar.refl _ | apply Zar.step)⟩
   rw [if_pos c3] at H
   have q := dT c3
   clear c3
   by_cases c4 : 0 ≤ a; rotate_left
   ·rw [if_neg c4] at H
    exact absurd H (by simp)
   rw [if_pos c4] at H
   have t := dT c4
   clear c4
   replace H := bE H
   obtain ⟨b, o, H⟩ := H
   have A5 := mA o
   clear o
   replace H := bE H
   obtain ⟨s, p, H⟩ := H
   have A6 := mA p
   clear p
   by_cases c7 : s = true; rotate_left
   ·replace c7 := Bool.eq_false_iff.mpr c7
    subst c7
    rw [iF] at H
    obtain rfl := oI H
    have c : 0 ≤ (a : Int) := ofD
    have d : a < (l1.length : Int) := ofD
    obtain ⟨j, g, i⟩ := zI n.out a c d
    cases g
    replace c := eq_true c
    replace d := eq_true d
    go_wp2_with (first | (go_at_call 57; (with_reducible refine (Zb4.calls a0 b _ A5.out).mono ?_); rintro e w' ⟨rfl, ⟨nd, rfl⟩⟩; (try first | exact dwD | exact dwE)) | (go_at_call 55; (with_reducible refine (Zau.calls (rd l1 a) 0 b false _ A6.out).mono ?_); rintro e w' ⟨rfl, ⟨nd, rfl⟩⟩; (try first | exact dwD | exact dwE)))
    repeat (go_quiet (first | (go_at_call 57; (with_reducible refine (Zb4.calls a0 b _ A5.out).mono ?_); rintro e w' ⟨rfl, ⟨nd, rfl⟩⟩; (try first | exact dwD | exact dwE)) | (go_at_call 55; (with_reducible refine (Zau.calls (rd l1 a) 0 b false _ A6.out).mono ?_); rintro e w' ⟨rfl, ⟨nd, rfl⟩⟩; (try first | exact dwD | exact dwE))); try go_wp2_with (first | (go_at_call 57; (with_reducible refine (Zb4.calls a0 b _ A5.out).mono ?_); rintro e w' ⟨rfl, ⟨nd, rfl⟩⟩; (try first | exact dwD | exact dwE)) | (go_at_call 55; (with_reducible refine (Zau.calls (rd l1 a) 0 b false _ A6.out).mono ?_); rintro e w' ⟨rfl, ⟨nd, rfl⟩⟩; (try first | exact dwD | exact dwE))))
    go_ret
    exact ⟨eW, by repeat (first | exact Zar.refl _ | apply Zar.step)⟩
   subst c7
   rw [if_pos rfl] at H
   have H' := mA H
   clear H
   have c : 0 ≤ (a : Int) := ofD
   have d : a < (l1.length : Int) := ofD
   obtain ⟨j, g, i⟩ := zI n.out a c d
   cases g
   replace c := eq_true c
   replace d := eq_true d
   go_wp2_with (first | (go_at_call 57; (with_reducible refine (Zb4.calls a0 b _ A5.out).mono ?_); rintro e w' ⟨rfl, ⟨nd, rfl⟩⟩; (try first | exact dwD | exact dwE)) | (go_at_call 55; (with_reducible refine (Zau.calls (rd l1 a) 0 b true _ A6.out).mono ?_); rintro e w' ⟨rfl, ⟨nd, rfl⟩⟩; (try first | exact dwD | exact dwE)))
   repeat (go_quiet (first | (go_at_call 57; (with_reducible refine (Zb4.calls a0 b _ A5.out).mono ?_); rintro e w' ⟨rfl, ⟨nd, rfl⟩⟩; (try first | exact dwD | exact dwE)) | (go_at_call 55; (with_reducible refine (Zau.calls (rd l1 a) 0 b true _ A6.out).mono ?_); rintro e w' ⟨rfl, ⟨nd, rfl⟩⟩; (try first | exact dwD | exact dwE))); try go_wp2_with (first | (go_at_call 57; (with_reducible refine (Zb4.calls a0 b _ A5.out).mono ?_); rintro e w' ⟨rfl, ⟨nd, rfl⟩⟩; (try first | exact dwD | exact dwE)) | (go_at_call 55; (with_reducible refine (Zau.calls (rd l1 a) 0 b true _ A6.out).mono ?_); rintro e w' ⟨rfl, ⟨nd, rfl⟩⟩; (try first | exact dwD | exact dwE))))
   go_roundg k1
   case measure => have := HK1.out; omega
   case rel => exact ⟨(wrap64 (a + 1)), (eW), H', ⟨by have := HK1.out; omega⟩, by repeat (first | exact Zar.refl _ | apply Zar.step)⟩
end Go.Proofs.YtgindgodfcfgkaaDoor.P
end M3
section M4
namespace Go.Proofs.YtgindgodfcfgkaaDoor.P
open Go.RowKit Go.Proofs.YtgindgodfcfgkaaDoor.Sh Go.Proofs.YtgindgodfcfgkaaDoorW.PrintWords Go.Proofs.YtgindgodfcfgkaaDoorW.PrintLast Go.Proofs.YtgindgodfcfgkaaDoorW.PrintMore
open Kd
attribute [local go_sem] Zcd Zca Zcn Zcm Zb1 Zb2 Zcc Zce   -- for this text's walks alone
set_option linter.unusedVariables false
set_option linter.unusedSimpArgs false
mutual
def Zba.j0 : Nat → Bool → Int → List Int → Option (Bool)
 | 0, _, _, _ => none
 | k + 1, c, a, b => if c = true then (some false) else (Zba.l0 k 0 a b)
def Zba.l0 : Nat → Int → Int → List Int → Option (Bool)
 | 0, _, _, _ => none
 | k + 1, x3, b, a => if x3 < b then (if 0 ≤ x3 then (if x3 < (a.length : Int) then ((Zbc.f (rd a x3) x3).bind fun c => (if c = true then (Zba.l1 k x3 0 b a) else (some false))) else (none)) else (none)) else (some true)
def Zba.l1 : Nat → Int → Int → Int → List Int → Option (Bool)
 | 0, _, _, _, _ => none
 | k + 1, x3, x4, b, a => if x4 < b then (if 0 ≤ x3 then (if x3 < (a.length : Int) then ((Zbc.f (rd a x3) x4).bind fun c => (if 0 ≤ x4 then (if x4 < (a.length : Int) then ((Zbc.f (rd a x4) x3).bind fun d => (if (c != d) = true then (some false) else (Zba.l1 k x3 (wrap64 (x4 + 1)) b a))) else (none)) else (none))) else (none)) else (none)) else (Zba.l0 k (wrap64 (x3 + 1)) b a)
end
def Zba.f (k : Nat) (a : Int) (b : List Int) : Option (Bool) := (Zau.f a 0 8).bind fun c => (if c = true then (if (b.length : Int) = a then ((Zbw.f k a b).bind fun d => (Zba.j0 k (!d) a b)) else (Zba.j0 k true a b)) else (Zba.j0 k true a b))
theorem Zba.calls (k : Nat) (g : Int) (x : Option Addr) (n : Nat) (a : List Int) (r : Bool) (w : World) (aa : Kd.C (Kd.int .i64) w x a.length a) (ab : a.length ≤ n) (h : Zba.f k g a = some r) :
  Calls Tryd.prog 36 #[.agg #[.int .i64 g, .slice x a.length n]] w fun e w' => e = .returned (.bool r) ∧ Below w.heap.size w w' := by
 have bp := Tryd.underlying32
 have o := mA aa
 have T := mA ab
 clear aa ab
 have HB := mA (Below.refl w.heap.size w)
 unfold Zba.f at h
 have H := h
 clear h
 have aw := mA H
 clear H
 go_enter Tryd.func36, Tryd.ntmps36
 go_upto_region 1 with (first | ((with_reducible refine Zap (N := 1) rfl ?_); (try (refine gate_guard (by rfl) ?_; dsimp only)); refine boxS (N := 1) (cs := #[.int .i64 g, .slice x a.length n]) (t := 32) ?_; intro j hg w3 hbox hb; have b := mA (hbox); have ac := geW (w := w) hg; have ad := geW (w := w) hg; replace HB := mA (Zac (bW) hb); clear hb hbox hg))
 repeat (go_quiet (first | ((with_reducible refine Zap (N := 1) rfl ?_); (try (refine gate_guard (by rfl) ?_; dsimp only)); refine boxS (N := 1) (cs := #[.int .i64 g, .slice x a.length n]) (t := 32) ?_; intro j hg w3 hbox hb; have b := mA (hbox); have ac := geW (w := w) hg; have ad := geW (w := w) hg; replace HB := mA (Zac (bW) hb); clear hb hbox hg)); go_upto_region 1 with (first | ((with_reducible refine Zap (N := 1) rfl ?_); (try (refine gate_guard (by rfl) ?_; dsimp only)); refine boxS (N := 1) (cs := #[.int .i64 g, .slice x a.length n]) (t := 32) ?_; intro j hg w3 hbox hb; have b := mA (hbox); have ac := geW (w := w) hg; have ad := geW (w := w) hg; replace HB := mA (Zac (bW) hb); clear hb hbox hg)))
 (try simp only [Act.put, List.setIfInBounds_toArray, List.set_cons_zero, List.set_cons_succ])
 go_cut [24] (fun v24 wc => ∃ (kq : Nat) (I : Bool), v24 = .bool I ∧ Zaa (Zba.j0 kq I g a = some r) ∧ Zaa (kq ≤ k) ∧ Zaa (wc.heap[j]? = some (.cells #[.int .i64 g, (.slice x a.length n)] 32 (0, 0))) ∧ Zaa (Below w.heap.size w wc))
 case first =>
  have H := aw.out
  clear aw
  replace H := bE H
  obtain ⟨aJ, aG, H⟩ := H
  have A4 := mA aG
  clear aG
  by_cases c5 : aJ = true; rotate_left
  ·replace c5 := Bool.eq_false_iff.mpr c5
   subst c5
   rw [iF] at H
   have H' := mA H
   clear H
   have aM : w3.cell? ⟨j, 0, none⟩ = some (.int .i64 g) := bc b 0
   have aN : w3.cell? ⟨j, 1, none⟩ = some (.slice x a.length n) := bc b 1
   have aO := Zab b.out 0
   have aP := Zab b.out 1
   go_wp2_with (first | (go_at_call 55; (with_reducible refine (Zau.calls g 0 8 false _ A4.out).mono ?_); rintro e w' ⟨rfl, ⟨nd, rfl⟩⟩; (try first | exact dwD | exact dwE)))
   repeat (go_quiet (first | (go_at_call 55; (with_reducible refine (Zau.calls g 0 8 false _ A4.out).mono ?_); rintro e w' ⟨rfl, ⟨nd, rfl⟩⟩; (try first | exact dwD | exact dwE))); try go_wp2_with (first | (go_at_call 55; (with_reducible refine (Zau.calls g 0 8 false _ A4.out).mono ?_); rintro e w' ⟨rfl, ⟨nd, rfl⟩⟩; (try first | exact dwD | exact dwE))))
   go_meet
   case rel => exact ⟨_, (true), (eW), H', ⟨by first | omega | exact Nat.le_refl _⟩, ⟨bP b.out⟩, ⟨bW⟩⟩
  subst c5
  rw [if_pos rfl] at H
  by_cases c6 : (a.length : Int) = g; rotate_left
  ·rw [if_neg c6] at H
   have J : ((a.length : Int) == g) = false := beq_eq_false_iff_ne.mpr c6
   have aK : ((a.length : Int) != g) = true := bne_iff_ne.mpr c6
   (first | rw [J] | (simp only [i64_w, i32_w]; rw [J]) | skip)
   have H' := mA H
   clear H
   have ba : w3.cell? ⟨j, 0, none⟩ = some (.int .i64 g) := bc b 0
   have bb : w3.cell? ⟨j, 1, none⟩ = some (.slice x a.length n) := bc b 1
   have bd := Zab b.out 0
   have bf := Zab b.out 1
   go_wp2_with (first | (go_at_call 55; (with_reducible refine (Zau.calls g 0 8 true _ A4.out).mono ?_); rintro e w' ⟨rfl, ⟨nd, rfl⟩⟩; (try first | exact dwD | exact dwE)))
   repeat (go_quiet (first | (go_at_call 55; (with_reducible refine (Zau.calls g 0 8 true _ A4.out).mono ?_); rintro e w' ⟨rfl, ⟨nd, rfl⟩⟩; (try first | exact dwD | exact dwE))); try go_wp2_with (first | (go_at_call 55; (with_reducible refine (Zau.calls g 0 8 true _ A4.out).mono ?_); rintro e w' ⟨rfl, ⟨nd, rfl⟩⟩; (try first | exact dwD | exact dwE))))
   go_meet
   case rel => exact ⟨_, (true), (eW), H', ⟨by first | omega | exact Nat.le_refl _⟩, ⟨bP b.out⟩, ⟨bW⟩⟩
  rw [if_pos c6] at H
  have J : ((a.length : Int) == g) = true := beq_iff_eq.mpr c6
  have aK : ((a.length : Int) != g) = false := bne_eq_false_iff_eq.mpr c6
  clear c6
  (first | rw [J] | (simp only [i64_w, i32_w]; rw [J]) | skip)
  replace H := bE H
  obtain ⟨U, aH, H⟩ := H
  have A7 := mA aH
  clear aH
  have H' := mA H
  clear H
  have bg : w3.cell? ⟨j, 0, none⟩ = some (.int .i64 g) := bc b 0
  have bh : w3.cell? ⟨j, 1, none⟩ = some (.slice x a.length n) := bc b 1
  have bi := Zab b.out 0
  have bj := Zab b.out 1
  go_wp2_with (first | (go_at_call 55; (with_reducible refine (Zau.calls g 0 8 true _ A4.out).mono ?_); rintro e w' ⟨rfl, ⟨nd, rfl⟩⟩; (try first | exact dwD | exact dwE)) | (go_at_call 56; (with_reducible refine (Zbw.calls k g _ _ a U _ ?side1 ?side2 A7.out).mono ?_); (case side1 => exact cP (zF o.out (bW))); (case side2 => exact T.out); rintro e w' ⟨rfl, ⟨nd, rfl⟩⟩; (try first | exact dwD | exact dwE)))
  repeat (go_quiet (first | (go_at_call 55; (with_reducible refine (Zau.calls g 0 8 true _ A4.out).mono ?_); rintro e w' ⟨rfl, ⟨nd, rfl⟩⟩; (try first | exact dwD | exact dwE)) | (go_at_call 56; (with_reducible refine (Zbw.calls k g _ _ a U _ ?side1 ?side2 A7.out).mono ?_); (case side1 => exact cP (zF o.out (bW))); (case side2 => exact T.out); rintro e w' ⟨rfl, ⟨nd, rfl⟩⟩; (try first | exact dwD | exact dwE))); try go_wp2_with (first | (go_at_call 55; (with_reducible refine (Zau.calls g 0 8 true _ A4.out).mono ?_); rintro e w' ⟨rfl, ⟨nd, rfl⟩⟩; (try first | exact dwD | exact dwE)) | (go_at_call 56; (with_reducible refine (Zbw.calls k g _ _ a U _ ?side1 ?side2 A7.out).mono ?_); (case side1 => exact cP (zF o.out (bW))); (case side2 => exact T.out); rintro e w' ⟨rfl, ⟨nd, rfl⟩⟩; (try first | exact dwD | exact dwE))))
  go_meet
  case rel => exact ⟨_, (!U), (eW), H', ⟨by first | omega | exact Nat.le_refl _⟩, ⟨bP b.out⟩, ⟨bW⟩⟩
 case rest =>
  clear aw
  obtain ⟨kq, I, rfl, HA, ae, b, HB⟩ := hcut
  cases kq with
  | zero => exact absurd HA.out (by simp [Zba.j0])
  | succ aI =>
   have H := HA.out
   clear HA
   simp only [Zba.j0] at H
   by_cases af : I = true
   ·subst af
    rw [if_pos rfl] at H
    obtain rfl := oI H
    go_wp2
    repeat (go_quiet (fail); try go_wp2)
    go_ret
    exact ⟨eW, bW⟩
   replace af := Bool.eq_false_iff.mpr af
   subst af
   rw [iF] at H
   have H' := mA H
   clear H
   go_wp2
   repeat (go_quiet (fail); try go_wp2)
   go_loopg [3] aI (fun kq v3 w' => ∃ (c : Int), v3 = .int .i64 c ∧ Zaa (Zba.l0 kq c g a = some r) ∧ Zaa (kq ≤ aI) ∧ Zaa (w'.heap[j]? = some (.cells #[.int .i64 g, (.slice x a.length n)] 32 (0, 0))) ∧ Zaa (Below w.heap.size w w'))
   case atStart => exact ⟨(0), (eW), H', ⟨Nat.le_refl _⟩, ⟨bP b.out⟩, ⟨bW⟩⟩
   case round =>
    clear H'
    obtain ⟨c, rfl, HA, ag, b, HB⟩ := hrel
    cases gk with
    | zero => exact absurd HA.out (by simp [Zba.l0])
    | succ k2 =>
     have H := HA.out
     clear HA
     simp only [Zba.l0] at H
     by_cases K : c < g; rotate_left
     ·rw [if_neg K] at H
      have ah := dF K
      clear K
      obtain rfl := oI H
      have aQ : wr.cell? ⟨j, 0, none⟩ = some (.int .i64 g) := bc b 0
      have aR : wr.cell? ⟨j, 1, none⟩ = some (.slice x a.length n) := bc b 1
      have aS := Zab b.out 0
      have aT := Zab b.out 1
      go_wp2
      repeat (go_quiet (fail); try go_wp2)
      go_ret
      exact ⟨eW, bW⟩
     rw [if_pos K] at H
     have ah := dT K
     clear K
     by_cases ai : 0 ≤ c; rotate_left
     ·rw [if_neg ai] at H
      exact absurd H (by simp)
     rw [if_pos ai] at H
     have aA := dT ai
     clear ai
     by_cases aj : c < (a.length : Int); rotate_left
     ·rw [if_neg aj] at H
      exact absurd H (by simp)
     rw [if_pos aj] at H
     have aB := dT aj
     clear aj
     replace H := bE H
     obtain ⟨aL, ax, H⟩ := H
     have L := mA ax
     clear ax
     by_cases ak : aL = true; rotate_left
     ·replace ak := Bool.eq_false_iff.mpr ak
      subst ak
      rw [iF] at H
      obtain rfl := oI H
      have aU : wr.cell? ⟨j, 0, none⟩ = some (.int .i64 g) := bc b 0
      have aV : wr.cell? ⟨j, 1, none⟩ = some (.slice x a.length n) := bc b 1
      have aW := Zab b.out 0
      have aX := Zab b.out 1
      have A : 0 ≤ (c : Int) := ofD
      have B : c < (a.length : Int) := ofD
      obtain ⟨p, X, q⟩ := zI o.out c A B
      cases X
      replace q := (HB.out.cell (wB w q)).trans q
      replace A := eq_true A
      replace B := eq_true B
      go_wp2_with (first | (go_at_call 49; (with_reducible refine (Zbc.calls (rd a c) c false _ L.out).mono ?_); rintro e w' ⟨rfl, ⟨nd, rfl⟩⟩; (try first | exact dwD | exact dwE)))
      repeat (go_quiet (first | (go_at_call 49; (with_reducible refine (Zbc.calls (rd a c) c false _ L.out).mono ?_); rintro e w' ⟨rfl, ⟨nd, rfl⟩⟩; (try first | exact dwD | exact dwE))); try go_wp2_with (first | (go_at_call 49; (with_reducible refine (Zbc.calls (rd a c) c false _ L.out).mono ?_); rintro e w' ⟨rfl, ⟨nd, rfl⟩⟩; (try first | exact dwD | exact dwE))))
      go_ret
      exact ⟨eW, bW⟩
     subst ak
     rw [if_pos rfl] at H
     have H' := mA H
     clear H
     have aq : wr.cell? ⟨j, 0, none⟩ = some (.int .i64 g) := bc b 0
     have ar : wr.cell? ⟨j, 1, none⟩ = some (.slice x a.length n) := bc b 1
     have au := Zab b.out 0
     have av := Zab b.out 1
     have A : 0 ≤ (c : Int) := ofD
     have B : c < (a.length : Int) := ofD
     obtain ⟨p, X, q⟩ := zI o.out c A B
     cases X
     replace q := (HB.out.cell (wB w q)).trans q
     replace A := eq_true A
     replace B := eq_true B
     go_wp2_with (first | (go_at_call 49; (with_reducible refine (Zbc.calls (rd a c) c true _ L.out).mono ?_); rintro e w' ⟨rfl, ⟨nd, rfl⟩⟩; (try first | exact dwD | exact dwE)))
     repeat (go_quiet (first | (go_at_call 49; (with_reducible refine (Zbc.calls (rd a c) c true _ L.out).mono ?_); rintro e w' ⟨rfl, ⟨nd, rfl⟩⟩; (try first | exact dwD | exact dwE))); try go_wp2_with (first | (go_at_call 49; (with_reducible refine (Zbc.calls (rd a c) c true _ L.out).mono ?_); rintro e w' ⟨rfl, ⟨nd, rfl⟩⟩; (try first | exact dwD | exact dwE))))
     go_loopg [4] k2 (fun kq v4 w' => ∃ (i : Int), v4 = .int .i64 i ∧ Zaa (Zba.l1 kq c i g a = some r) ∧ Zaa (kq ≤ k2) ∧ Zaa (w'.heap[j]? = some (.cells #[.int .i64 g, (.slice (some p) a.length n)] 32 (0, 0))) ∧ Zaa (Below w.heap.size w w'))
     case atStart => exact ⟨(0), (eW), H', ⟨Nat.le_refl _⟩, ⟨bP b.out⟩, ⟨bW⟩⟩
     case round =>
      clear H' ah aA aB aq ar au av q A B
      obtain ⟨i, rfl, HA, al, b, HB⟩ := hrel
      cases gk with
      | zero => exact absurd HA.out (by simp [Zba.l1])
      | succ k3 =>
       have H := HA.out
       clear HA
       simp only [Zba.l1] at H
       by_cases M : i < g; rotate_left
       ·rw [if_neg M] at H
        have aC := dF M
        clear M
        have H' := mA H
        clear H
        have aY : wr.cell? ⟨j, 0, none⟩ = some (.int .i64 g) := bc b 0
        have aZ : wr.cell? ⟨j, 1, none⟩ = some (.slice (some p) a.length n) := bc b 1
        have a0 := Zab b.out 0
        have a1 := Zab b.out 1
        go_wp2
        repeat (go_quiet (fail); try go_wp2)
        go_roundg k3
        case measure => have := ae.out; have := ag.out; have := al.out; omega
        case rel => exact ⟨(wrap64 (c + 1)), (eW), H', ⟨by have := ae.out; have := ag.out; have := al.out; omega⟩, ⟨bP b.out⟩, ⟨bW⟩⟩
       rw [if_pos M] at H
       have aC := dT M
       clear M
       by_cases am : 0 ≤ c; rotate_left
       ·rw [if_neg am] at H
        exact absurd H (by simp)
       rw [if_pos am] at H
       have bk := dT am
       clear am
       by_cases an : c < (a.length : Int); rotate_left
       ·rw [if_neg an] at H
        exact absurd H (by simp)
       rw [if_pos an] at H
       have bl := dT an
       clear an
       replace H := bE H
       obtain ⟨s, ay, H⟩ := H
       have O := mA ay
       clear ay
       by_cases ao : 0 ≤ i; rotate_left
       ·rw [if_neg ao] at H
        exact absurd H (by simp)
       rw [if_pos ao] at H
       have bm := dT ao
       clear ao
       by_cases ap : i < (a.length : Int); rotate_left
       ·rw [if_neg ap] at H
        exact absurd H (by simp)
       rw [if_pos ap] at H
       have bn := dT ap
       clear ap
       replace H := bE H
       obtain ⟨u, az, H⟩ := H
       have P := mA az
       clear az
       by_cases D : (s != u) = true
       ·rw [if_pos D] at H
        have aD : (s != u) = true := D
        (try (have aE : decide (s = u) = false := by simpa using D))
        (try (have aF : (s == u) = false := by simpa using D))
        (try (have bo : ¬ (s = u) := by simpa using D))
        clear D
        obtain rfl := oI H
        have a2 : wr.cell? ⟨j, 0, none⟩ = some (.int .i64 g) := bc b 0
        have a3 : wr.cell? ⟨j, 1, none⟩ = some (.slice (some p) a.length n) := bc b 1
        have a4 := Zab b.out 0
        have a5 := Zab b.out 1
        have E : 0 ≤ (c : Int) := ofD
        have G : c < (a.length : Int) := ofD
        obtain ⟨W, Y, y⟩ := zI o.out c E G
        obtain rfl : p = W := (by injection Y)
        replace y := (HB.out.cell (wB w y)).trans y
        replace E := eq_true E
        replace G := eq_true G
        go_wp2_with (first | (go_at_call 49; (with_reducible refine (Zbc.calls (rd a c) i s _ O.out).mono ?_); rintro e w' ⟨rfl, ⟨nd, rfl⟩⟩; (try first | exact dwD | exact dwE); have l : 0 ≤ (i : Int) := ofD; have m : i < (a.length : Int) := ofD; obtain ⟨v, z, d⟩ := zI o.out i l m; obtain rfl : p = v := (by injection z); replace d := (HB.out.cell (wB w d)).trans d; replace l := eq_true l; replace m := eq_true m) | (go_at_call 49; (with_reducible refine (Zbc.calls (rd a i) c u _ P.out).mono ?_); rintro e w' ⟨rfl, ⟨nd, rfl⟩⟩; (try first | exact dwD | exact dwE)))
        repeat (go_quiet (first | (go_at_call 49; (with_reducible refine (Zbc.calls (rd a c) i s _ O.out).mono ?_); rintro e w' ⟨rfl, ⟨nd, rfl⟩⟩; (try first | exact dwD | exact dwE); have l : 0 ≤ (i : Int) := ofD; have m : i < (a.length : Int) := ofD; obtain ⟨v, z, d⟩ := zI o.out i l m; obtain rfl : p = v := (by injection z); replace d := (HB.out.cell (wB w d)).trans d; replace l := eq_true l; replace m := eq_true m) | (go_at_call 49; (with_reducible refine (Zbc.calls (rd a i) c u _ P.out).mono ?_); rintro e w' ⟨rfl, ⟨nd, rfl⟩⟩; (try first | exact dwD | exact dwE))); try go_wp2_with (first | (go_at_call 49; (with_reducible refine (Zbc.calls (rd a c) i s _ O.out).mono ?_); rintro e w' ⟨rfl, ⟨nd, rfl⟩⟩; (try first | exact dwD | exact dwE); have l : 0 ≤ (i : Int) := ofD; have m : i < (a.length : Int) := ofD; obtain ⟨v, z, d⟩ := zI o.out i l m; obtain rfl : p = v := (by injection z); replace d := (HB.out.cell (wB w d)).trans d; replace l := eq_true l; replace m := eq_true m) | (go_at_call 49; (with_reducible refine (Zbc.calls (rd a i) c u _ P.out).mono ?_); rintro e w' ⟨rfl, ⟨nd, rfl⟩⟩; (try first | exact dwD | exact dwE))))
        go_ret
        exact ⟨eW, bW⟩
       rw [if_neg D] at H
       have aD : (s != u) = false := by simpa using D
       (try (have aE : decide (s = u) = true := by simpa using D))
       (try (have aF : (s == u) = true := by simpa using D))
       clear D
       have H' := mA H
       clear H
       have a6 : wr.cell? ⟨j, 0, none⟩ = some (.int .i64 g) := bc b 0
       have a7 : wr.cell? ⟨j, 1, none⟩ = some (.slice (some p) a.length n) := bc b 1
       have a8 := Zab b.out 0
       have a9 := Zab b.out 1
       have E : 0 ≤ (c : Int) := ofD
       have G : c < (a.length : Int) := ofD
       obtain ⟨W, Y, y⟩ := zI o.out c E G
       obtain rfl : p = W := (by injection Y)
       replace y := (HB.out.cell (wB w y)).trans y
       replace E := eq_true E
       replace G := eq_true G
       go_wp2_with (first | (go_at_call 49; (with_reducible refine (Zbc.calls (rd a c) i s _ O.out).mono ?_); rintro e w' ⟨rfl, ⟨nd, rfl⟩⟩; (try first | exact dwD | exact dwE); have l : 0 ≤ (i : Int) := ofD; have m : i < (a.length : Int) := ofD; obtain ⟨v, z, d⟩ := zI o.out i l m; obtain rfl : p = v := (by injection z); replace d := (HB.out.cell (wB w d)).trans d; replace l := eq_true l; replace m := eq_true m) | (go_at_call 49; (with_reducible refine (Zbc.calls (rd a i) c u _ P.out).mono ?_); rintro e w' ⟨rfl, ⟨nd, rfl⟩⟩; (try first | exact dwD | exact dwE)))
       repeat (go_quiet (first | (go_at_call 49; (with_reducible refine (Zbc.calls (rd a c) i s _ O.out).mono ?_); rintro e w' ⟨rfl, ⟨nd, rfl⟩⟩; (try first | exact dwD | exact dwE); have l : 0 ≤ (i : Int) := ofD; have m : i < (a.length : Int) := ofD; obtain ⟨v, z, d⟩ := zI o.out i l m; obtain rfl : p = v := (by injection z); replace d := (HB.out.cell (wB w d)).trans d; replace l := eq_true l; replace m := eq_true m) | (go_at_call 49; (with_reducible refine (Zbc.calls (rd a i) c u _ P.out).mono ?_); rintro e w' ⟨rfl, ⟨nd, rfl⟩⟩; (try first | exact dwD | exact dwE))); try go_wp2_with (first | (go_at_call 49; (with_reducible refine (Zbc.calls (rd a c) i s _ O.out).mono ?_); rintro e w' ⟨rfl, ⟨nd, rfl⟩⟩; (try first | exact dwD | exact dwE); have l : 0 ≤ (i : Int) := ofD; have m : i < (a.length : Int) := ofD; obtain ⟨v, z, d⟩ := zI o.out i l m; obtain rfl : p = v := (by injection z); replace d := (HB.out.cell (wB w d)).trans d; replace l := eq_true l; replace m := eq_true m) | (go_at_call 49; (with_reducible refine (Zbc.calls (rd a i) c u _ P.out).mono ?_); rintro e w' ⟨rfl, ⟨nd, rfl⟩⟩; (try first | exact dwD | exact dwE))))
       go_roundg k3
       case measure => have := ae.out; have := ag.out; have := al.out; omega
       case rel => exact ⟨(wrap64 (i + 1)), (eW), H', ⟨by have := ae.out; have := ag.out; have := al.out; omega⟩, ⟨bP b.out⟩, ⟨bW⟩⟩
def Zbr.f (b : Int) (c : Int) (d : Int) (a : List (List Int)) : Option (Int) := some (a.length : Int)
theorem Zbr.calls (b : Int) (c : Int) (d : Int) (g : Option Addr) (i : Nat) (a : List (List Int)) (r : Int) (w : World) (j : Kd.C (Kd.slice 2 (Kd.int .i64)) w g a.length a) (k : a.length ≤ i) (h : Zbr.f b c d a = some r) :
  Calls Tryd.prog 48 #[.agg #[.int .i64 b, .int .i64 c, .int .i64 d, .slice g a.length i]] w fun e w' => e = .returned (.int .i64 r) ∧ Below w.heap.size w w' := by
 have D := Tryd.underlying34
 have x := mA j
 have y := mA k
 clear j k
 have HB := mA (Below.refl w.heap.size w)
 unfold Zbr.f at h
 have H := h
 clear h
 obtain rfl := oI H
 go_enter Tryd.func48, Tryd.ntmps48
 go_wp2_with (first | ((with_reducible refine Zap (N := 1) rfl ?_); refine boxS (N := 1) (cs := #[.int .i64 b, .int .i64 c, .int .i64 d, .slice g a.length i]) (t := 34) ?_; intro z hg w2 hbox hb; have l := mA (hbox); have A := geW (w := w) hg; have B := geW (w := w) hg; replace HB := mA (Zac (bW) hb); clear hb hbox hg; obtain ⟨m, n, o, p⟩ := Zbi l.out; obtain ⟨q, s, u, v⟩ := frz4 l.out))
 go_ret
 exact ⟨eW, bW⟩
end Go.Proofs.YtgindgodfcfgkaaDoor.P
end M4
