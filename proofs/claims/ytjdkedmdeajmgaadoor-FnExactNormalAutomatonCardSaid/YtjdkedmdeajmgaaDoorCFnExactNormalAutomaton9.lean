import Derived.Maps.OwnSet
import Derived.WideKeyRuns
import Derived.Test.YtjdkedmdeajmgaaDoorCFnExactNormalAutomaton2
set_option maxHeartbeats 8000000
set_option maxRecDepth 100000
section M0
namespace Go.Proofs.YtjdkedmdeajmgaaDoor.P
open Go.RowKit Go.Proofs.YtjdkedmdeajmgaaDoor.Sh Go.Proofs.YtjdkedmdeajmgaaDoorW.PrintWords Go.Proofs.YtjdkedmdeajmgaaDoorW.PrintLast Go.Proofs.YtjdkedmdeajmgaaDoorW.PrintMore
open Kd
attribute [local go_sem] Zcf Zch Zcv Zcu Zb6 Zb7 Zcg Zce   -- for this text's walks alone
set_option linter.unusedVariables false
set_option linter.unusedSimpArgs false
/-- Where the first element of which p holds lies, or -1. -/
def fidx {α : Type} (p : α → Bool) (l : List α) : Int := match l.findIdx? p with | some i => i | none => -1
theorem fidx_hit {α : Type} {p : α → Bool} {l : List α} {k : Nat} (hk : k < l.length) (h : p l[k] = true) (hb : ∀ j (hj : j < k), p (l[j]'(by omega)) = false) : fidx p l = k := by
  have : l.findIdx? p = some k := by
    rw [List.findIdx?_eq_some_iff_getElem]
    exact ⟨hk, h, fun j hj => by simp [hb j hj]⟩
  unfold fidx; rw [this]
theorem fidx_miss {α : Type} {p : α → Bool} {l : List α} (hb : ∀ j (hj : j < l.length), p l[j] = false) : fidx p l = -1 := by
  have : l.findIdx? p = none := by
    rw [List.findIdx?_eq_none_iff]
    intro x hx
    obtain ⟨j, hj, rfl⟩ := List.getElem_of_mem hx
    exact hb j hj
  unfold fidx; rw [this]
theorem fidx_nonneg {α : Type} (p : α → Bool) (l : List α) : decide (0 ≤ fidx p l) = l.any p := by
  unfold fidx
  cases h : l.findIdx? p with
  | none =>
    rw [List.findIdx?_eq_none_iff] at h
    have : l.any p = false := by rw [List.any_eq_false]; intro x hx; simp [h x hx]
    rw [this]; rfl
  | some i =>
    rw [List.findIdx?_eq_some_iff_getElem] at h
    obtain ⟨hi, hp, _⟩ := h
    have : l.any p = true := List.any_eq_true.2 ⟨_, List.getElem_mem hi, hp⟩
    rw [this]
    show decide (0 ≤ (i : Int)) = true
    simp
theorem rd_get {l : List Int} {k : Nat} (hk : k < l.length) : rd l (k : Int) = l[k] := by
  unfold rd; rw [List.getD_eq_getElem?_getD, Int.toNat_natCast, List.getElem?_eq_getElem hk]; rfl
def mfind {K V : Type} [DecidableEq K] : List (K × V) → K → Nat → Option (Nat × V)
  | [], _, _ => none
  | p :: l, k, i => if k = p.1 then some (i, p.2) else mfind l k (i + 1)
def mget {K V : Type} [DecidableEq K] (z : V) (L : List (K × V)) (k : K) : V := ((mfind L k 0).map (·.2)).getD z
def mhas {K V : Type} [DecidableEq K] (L : List (K × V)) (k : K) : Bool := (mfind L k 0).isSome
def mset {K V : Type} [DecidableEq K] (L : List (K × V)) (k : K) (v : V) : List (K × V) := match mfind L k 0 with
  | some (i, _) => L.set i (k, v)
  | none => L ++ [(k, v)]
def mentry {K V : Type} (eK : K → Value) (eV : V → Value) (p : (K × V) × Nat) : MapEntry := { key := eK p.1.1, val := eV p.1.2, born := p.2 }
def mobj {K V : Type} (eK : K → Value) (eV : V → Value) (L : List (K × V)) : Obj := .map (L.zipIdx.map (mentry eK eV)).toArray L.length
/-- A kind of keys that are told apart at once. -/
structure MKey (K : Type) [DecidableEq K] (eK : K → Value) (d : TypeDesc) : Prop where
  same : ∀ a b, Instr.sameNow d (eK a) (eK b) = some (decide (a = b))
  check : ∀ (P : Program) (t : TypeId) (e : Bool) (a : K) (W : World), P.underlying t = some d → (Instr.checkKey e 10000 t (eK a)).run P W = .ok () W
  bits : ∀ a, Instr.sameBits 10000 (eK a) (eK a) = true
theorem mkey_int (k : IntKind) : MKey Int (Value.int k) (.int k) where
  same a b := by
    simp only [Instr.sameNow, if_true]
    rfl
  check P t e a W h := by
    rw [Instr.checkKey]
    simp [run_underlying h, Result.andThen]
  bits a := by simp [Instr.sameBits]
theorem mkey_str : MKey ByteArray Value.string .string where
  same a b := by
    simp only [Instr.sameNow]
    congr 1
    rw [Bool.eq_iff_iff, MapKept.bytes_beq, decide_eq_true_iff]
  check P t e a W h := by
    rw [Instr.checkKey]
    simp [run_underlying h, Result.andThen]
  bits a := by
    rw [Instr.sameBits]
    exact (MapKept.bytes_beq a a).2 rfl
section
variable {K V : Type} [DecidableEq K] {eK : K → Value} {eV : V → Value} {d : TypeDesc}
theorem mfind_run (hk : MKey K eK d) (k : K) : ∀ (L : List (K × V)) (i j : Nat), Instr.findNow d (eK k) ((L.zipIdx i).map (mentry eK eV)) j = some ((mfind L k j).map fun p => (p.1, eV p.2))
  | [], _, _ => rfl
  | p :: L, i, j => by
    rw [List.zipIdx_cons, List.map_cons, Instr.findNow]
    simp only [mentry]
    rw [hk.same]
    unfold mfind
    by_cases h : k = p.1
    · rw [if_pos h, decide_eq_true h]
      rfl
    · rw [if_neg h, decide_eq_false h]
      exact mfind_run hk k L (i + 1) (j + 1)
theorem mfind_lt (k : K) : ∀ (L : List (K × V)) (j i : Nat) (v : V), mfind L k j = some (i, v) → j ≤ i ∧ L[i - j]? = some (k, v)
  | [], _, _, _, h => by simp [mfind] at h
  | p :: L, j, i, v, h => by
    unfold mfind at h
    by_cases hc : k = p.1
    · rw [if_pos hc] at h
      simp only [Option.some.injEq, Prod.mk.injEq] at h
      obtain ⟨rfl, rfl⟩ := h
      exact ⟨Nat.le_refl _, by simp [hc]⟩
    · rw [if_neg hc] at h
      obtain ⟨h1, h2⟩ := mfind_lt k L (j + 1) i v h
      refine ⟨by omega, ?_⟩
      rw [show i - j = (i - (j + 1)) + 1 by omega, List.getElem?_cons_succ]
      exact h2
variable {P : Program} {W : World} {g : Nat} {L : List (K × V)} {t kt et : TypeId}
theorem mlook_run (hk : MKey K eK d) (hb : W.heap[g]? = some (mobj eK eV L)) (ht : P.underlying t = some (.map kt et)) (hd : P.underlying kt = some d) {z : V} (hz : (zeroValue et).run P W = .ok (eV z) W) (k : K) :
    (Instr.lookup t (.map (some g)) (eK k) true).run P W = .ok (.tuple #[eV (mget z L k), .bool (mhas L k)]) W := by
  have hf := mfind_run hk (eV := eV) k L 0 0
  have hd' : Instr.findNow d (eK k) (L.zipIdx.map (mentry eK eV)).toArray.toList 0 = some ((mfind L k 0).map fun p => (p.1, eV p.2)) := hf
  unfold mget mhas
  cases hm : mfind L k 0 with
  | none =>
    rw [hm] at hd'
    simp only [Option.map_none] at hd'
    simp [Instr.lookup, Instr.findKey, run_underlying ht, run_underlying hd, MapKept.run_getObj_map hb, hk.check P kt _ k W hd, hd', hz, Result.andThen]
  | some p =>
    rw [hm] at hd'
    simp only [Option.map_some] at hd'
    simp [Instr.lookup, Instr.findKey, run_underlying ht, run_underlying hd, MapKept.run_getObj_map hb, hk.check P kt _ k W hd, hd', Result.andThen]
end
section
variable {K V : Type} [DecidableEq K] {eK : K → Value} {eV : V → Value} {d : TypeDesc} {P : Program} {W : World} {g : Nat} {L : List (K × V)} {t kt et : TypeId}
theorem mset_run (hk : MKey K eK d) (hb : W.heap[g]? = some (mobj eK eV L)) (ht : P.underlying t = some (.map kt et)) (hd : P.underlying kt = some d) (k : K) (v : V) :
    (Instr.mapUpdate t (.map (some g)) (eK k) (eV v)).run P W = .ok () (ChangeMaps.setBlock W g (mobj eK eV (mset L k v))) := by
  have hf := mfind_run hk (eV := eV) k L 0 0
  have hd' : Instr.findNow d (eK k) (L.zipIdx.map (mentry eK eV)).toArray.toList 0 = some ((mfind L k 0).map fun p => (p.1, eV p.2)) := hf
  unfold mset
  cases hm : mfind L k 0 with
  | none =>
    rw [hm] at hd'
    simp only [Option.map_none] at hd'
    have e : mobj eK eV (L ++ [(k, v)]) = .map ((L.zipIdx.map (mentry eK eV)).toArray.push { key := eK k, val := eV v, born := L.length }) (L.length + 1) := by
      unfold mobj
      rw [List.zipIdx_append, List.map_append, List.length_append]
      simp [mentry]
    simp only [e]
    simp [Instr.mapUpdate, Instr.findKey, run_underlying ht, run_underlying hd, MapKept.run_getObj_map hb, hk.check P kt _ k W hd, hd', MapKept.run_setObj_map _ hb, Result.andThen, ChangeMaps.setBlock]
  | some p =>
    obtain ⟨i, u⟩ := p
    rw [hm] at hd'
    simp only [Option.map_some] at hd'
    obtain ⟨_, hi⟩ := mfind_lt k L 0 i u hm
    rw [Nat.sub_zero] at hi
    obtain ⟨hil, hie⟩ := List.getElem?_eq_some_iff.1 hi
    have e : mobj eK eV (L.set i (k, v)) = .map ((L.zipIdx.map (mentry eK eV)).toArray.modify i fun e => { e with key := eK k, val := eV v }) L.length := by
      unfold mobj
      rw [List.length_set]
      congr 1
      apply Array.ext_getElem?
      intro j
      simp only [List.getElem?_toArray, Array.getElem?_modify, List.getElem?_map, List.getElem?_zipIdx, List.getElem?_set]
      by_cases hij : i = j
      · subst hij
        simp [hil, mentry]
      · simp [hij]
    have hstay : (Instr.keyThatStays (eK k) (eK k)).run P W = .ok (eK k) W := by
      simp [Instr.keyThatStays, hk.bits]
    simp only [e]
    simp [Instr.mapUpdate, Instr.findKey, run_underlying ht, run_underlying hd, MapKept.run_getObj_map hb, hk.check P kt _ k W hd, hd', hi, show (mentry eK eV ((k, u), i)).key = eK k from rfl, hstay, MapKept.run_setObj_map _ hb, Result.andThen, ChangeMaps.setBlock]
end
section
variable {K V : Type} {eK : K → Value} {eV : V → Value} {d : TypeDesc} {P : Program} {W : World} {t kt et : TypeId}
variable {ops : Array Oper} {o : Oper} {rest : List Oper} {a : Act} {Q : Exit → Act → World → Prop} {Kc : Act → World → Prop}
theorem gate_mset {p k v : Operand} (_ho : o.op = .mapUpdate t p k v) (h : wpList P ops Q (o :: rest) a W) : wpList P ops Q (o :: rest) a W := h
theorem gate_mins {p k v : Operand} (_ho : o.op = .insert t p k v) (h : wpList P ops Q (o :: rest) a W) : wpList P ops Q (o :: rest) a W := h
/-- A map made. -/
theorem mapS (eK : K → Value) (eV : V → Value) {N : Tmp}
    (h : ∀ g, g = W.heap.size → ∀ w1, w1.heap[g]? = some (mobj eK eV ([] : List (K × V))) → Below W.heap.size W w1 → wpList P ops Q rest (a.put o.dst (.map (some g))) w1)
    (ho : o.op = .makeMap t none := by rfl) (_hd : o.dst = some N := by rfl) (hgd : o.guard = none := by rfl) : wpList P ops Q (o :: rest) a W :=
  Kd.event_run hgd (show (execOp a.eval o).run P W = .ok (.value (.map (some W.heap.size))) (W.alloc (.map #[] 0)) by simp [execOp, ho, run_makeMap, Result.andThen]) (h _ rfl _ (blk_new W _) (Zbm (Below.refl _ _) _))
theorem mapS_step (eK : K → Value) (eV : V → Value) (hw : Region.wanted o (yielded ops a.tmps) = true)
    (h : ∀ g, g = W.heap.size → ∀ w1, w1.heap[g]? = some (mobj eK eV ([] : List (K × V))) → Below W.heap.size W w1 → Kc (a.put o.dst (.map (some g))) w1)
    (ho : o.op = .makeMap t none := by rfl) : if Region.wanted o (yielded ops a.tmps) = true then Oper.wp P o a W Kc Q else Kc (a.put o.dst undef) W :=
  event_step hw (show (execOp a.eval o).run P W = .ok (.value (.map (some W.heap.size))) (W.alloc (.map #[] 0)) by simp [execOp, ho, run_makeMap, Result.andThen]) (h _ rfl _ (blk_new W _) (Zbm (Below.refl _ _) _))
theorem mgetS [DecidableEq K] {g : Nat} {L : List (K × V)} (z : V) (k : K) {m x : Operand} (hk : MKey K eK d) (hb : W.heap[g]? = some (mobj eK eV L)) (ht : P.underlying t = some (.map kt et)) (hd : P.underlying kt = some d) (hz : (zeroValue et).run P W = .ok (eV z) W)
    (h : wpList P ops Q rest (a.put o.dst (.tuple #[eV (mget z L k), .bool (mhas L k)])) W)
    (ho : o.op = .lookup t m x true := by rfl) (hgd : o.guard = none := by rfl) (hm : a.eval m = .map (some g) := by first | rfl | (go_simp; done) | (go_simp; rfl)) (hx : a.eval x = eK k := by first | rfl | (go_simp; done) | (go_simp; rfl)) : wpList P ops Q (o :: rest) a W := by
  refine wpList_plain hgd fun K' hK' => ?_
  unfold Oper.wp
  simp [execOp, ho, hm, hx, mlook_run hk hb ht hd hz k, Result.andThen]
  exact hK' _ _ h
theorem mlenS {g : Nat} {L : List (K × V)} {m : Operand} (hb : W.heap[g]? = some (mobj eK eV L)) (ht : P.underlying t = some (.map kt et))
    (h : wpList P ops Q rest (a.put o.dst (.int .i64 (L.length : Int))) W)
    (ho : o.op = .call { callee := .builtin .len, args := #[m], argTypes := #[t] } := by rfl) (hgd : o.guard = none := by rfl) (hm : a.eval m = .map (some g) := by first | rfl | (go_simp; done) | (go_simp; rfl)) : wpList P ops Q (o :: rest) a W := by
  have hrun : (Builtin.len_ #[t] o.type #[.map (some g)]).run P W = .ok (.int .i64 (L.length : Int)) W := by
    simp [Builtin.len_, run_underlying ht, MapKept.run_getObj_map hb, goInt, Result.andThen]
  refine wpList_plain hgd fun K' hK' => ?_
  unfold Oper.wp
  simp [execOp, ho, resolve, invoke, builtin, hm, hrun, Result.andThen]
  exact hK' _ _ h
theorem msetS [DecidableEq K] {g : Nat} {L : List (K × V)} (k : K) (v : V) {m x y : Operand} (hk : MKey K eK d) (hb : W.heap[g]? = some (mobj eK eV L)) (ht : P.underlying t = some (.map kt et)) (hd : P.underlying kt = some d)
    (h : ∀ w2, w2.heap[g]? = some (mobj eK eV (mset L k v)) → W.grownBy w2 (some g) → wpList P ops Q rest a w2)
    (ho : o.op = .mapUpdate t m x y ∨ o.op = .insert t m x y := by first | exact Or.inl rfl | exact Or.inr rfl) (hN : o.dst = none := by rfl) (hgd : o.guard = none := by rfl) (hm : a.eval m = .map (some g) := by first | rfl | (go_simp; done) | (go_simp; rfl)) (hx : a.eval x = eK k := by first | rfl | (go_simp; done) | (go_simp; rfl)) (hy : a.eval y = eV v := by first | rfl | (go_simp; done) | (go_simp; rfl)) : wpList P ops Q (o :: rest) a W := by
  have hrun := mset_run (P := P) (t := t) (kt := kt) (et := et) hk hb ht hd k v
  have h2 := h _ (ChangeMaps.heap_setBlock_same hb _) ⟨rfl, rfl, rfl, by simp [ChangeMaps.setBlock], fun i _ hi => ChangeMaps.heap_setBlock_other hb _ (fun e => hi (by rw [e]))⟩
  refine wpList_plain hgd fun K' hK' => ?_
  unfold Oper.wp
  rcases ho with ho | ho
  · simp [execOp, ho, hm, hx, hy, hrun, Result.andThen]
    show K' (a.put o.dst undef) _
    rw [hN]
    exact hK' _ _ h2
  · simp [execOp, ho, hm, hx, hy, hrun, Result.andThen]
    show K' (a.put o.dst undef) _
    rw [hN]
    exact hK' _ _ h2
theorem msetS_step [DecidableEq K] {g : Nat} {L : List (K × V)} (k : K) (v : V) {m x y : Operand} (hw : Region.wanted o (yielded ops a.tmps) = true) (hk : MKey K eK d) (hb : W.heap[g]? = some (mobj eK eV L)) (ht : P.underlying t = some (.map kt et)) (hd : P.underlying kt = some d)
    (h : ∀ w2, w2.heap[g]? = some (mobj eK eV (mset L k v)) → W.grownBy w2 (some g) → Kc a w2) (hN : o.dst = none := by rfl)
    (ho : o.op = .mapUpdate t m x y ∨ o.op = .insert t m x y := by first | exact Or.inl rfl | exact Or.inr rfl) (hm : a.eval m = .map (some g) := by first | rfl | (go_simp; done) | (go_simp; rfl)) (hx : a.eval x = eK k := by first | rfl | (go_simp; done) | (go_simp; rfl)) (hy : a.eval y = eV v := by first | rfl | (go_simp; done) | (go_simp; rfl)) :
    if Region.wanted o (yielded ops a.tmps) = true then Oper.wp P o a W Kc Q else Kc (a.put o.dst undef) W := by
  have hrun := mset_run (P := P) (t := t) (kt := kt) (et := et) hk hb ht hd k v
  have h2 := h _ (ChangeMaps.heap_setBlock_same hb _) ⟨rfl, rfl, rfl, by simp [ChangeMaps.setBlock], fun i _ hi => ChangeMaps.heap_setBlock_other hb _ (fun e => hi (by rw [e]))⟩
  rw [if_pos hw]
  unfold Oper.wp
  rcases ho with ho | ho
  · simp [execOp, ho, hm, hx, hy, hrun, Result.andThen]
    show Kc (a.put o.dst undef) _
    rw [hN]
    exact h2
  · simp [execOp, ho, hm, hx, hy, hrun, Result.andThen]
    show Kc (a.put o.dst undef) _
    rw [hN]
    exact h2
end
/-- What is held beside a map that is written. -/
theorem Kd.R_mset {α K V : Type} {eK : K → Value} {eV : V → Value} {L : List (K × V)} {dd : Kd α} {e base g : Nat} {ok : Nat → Prop} {v : Value} {xs : List α} {W w2 : World} (h : dd.R e W base ok v xs) (hb : W.heap[g]? = some (mobj eK eV L)) (hg : W.grownBy w2 (some g)) : dd.R e w2 base ok v xs :=
  Kd.zB (Kd.xD (Kd.yY h) (fun k hk => hg.block k hk.2.2.1 (fun e_ => by
    obtain ⟨_, _, _, q, hq, cells, hc⟩ := hk
    injection e_ with e_
    subst e_
    rw [hb] at hc
    cases hc))) (fun _ hk => hk.1)
theorem Kd.S_mset {α K V : Type} {eK : K → Value} {eV : V → Value} {L : List (K × V)} {dd : Kd α} {e base g : Nat} {ok : Nat → Prop} {v : Value} {xs : List α} {W w2 : World} (h : Kd.S dd e W base ok v xs) (hb : W.heap[g]? = some (mobj eK eV L)) (hg : W.grownBy w2 (some g)) : Kd.S dd e w2 base ok v xs :=
  Kd.zG (Kd.S_move (Kd.xF h) (fun k hk => hg.block k hk.2.2.1 (fun e_ => by
    obtain ⟨_, _, _, q, hq, cells, hc⟩ := hk
    injection e_ with e_
    subst e_
    rw [hb] at hc
    cases hc))) (fun _ hk => hk.1)
theorem Kd.R_nem {α K V : Type} {eK : K → Value} {eV : V → Value} {L : List (K × V)} {dd : Kd α} {e base g : Nat} {ok : Nat → Prop} {v : Value} {xs : List α} {w : World} (h : dd.R e w base ok v xs) (hb : w.heap[g]? = some (mobj eK eV L)) : some g ≠ v.ownBlock := by
  intro e_
  obtain ⟨_, inner, ho, _⟩ := h
  obtain ⟨cells, hc⟩ := own_typed ho g e_.symm
  rw [hb] at hc
  cases hc
theorem Kd.S_nem {α K V : Type} {eK : K → Value} {eV : V → Value} {L : List (K × V)} {dd : Kd α} {e base g : Nat} {ok : Nat → Prop} {v : Value} {xs : List α} {w : World} (h : Kd.S dd e w base ok v xs) (hb : w.heap[g]? = some (mobj eK eV L)) : some g ≠ v.ownBlock := Kd.R_nem (Kd.S_R h) hb
theorem Zbt {w : World} {g : Nat} {o : Obj} (h : w.heap[g]? = some o) {p : Addr} (hp : g ≠ p.block) (u : Value) : (w.setCell p u).heap[g]? = some o := (Below.heap_setCell w p u g hp).trans h
theorem cell_mset {K V : Type} {eK : K → Value} {eV : V → Value} {L : List (K × V)} {W w2 : World} {g : Nat} (hg : W.grownBy w2 (some g)) (hb : W.heap[g]? = some (mobj eK eV L)) {p : Addr} {u : Value} (h : W.cell? p = some u) : w2.cell? p = some u :=
  hg.cell h (fun e_ => by
    injection e_ with e_
    unfold World.cell? at h
    rw [e_, hb] at h
    cases h)
def OwnZ (w : World) (base : Nat) (e : TypeId) (size : Nat) (v : Value) (n : Nat) (xs : List Value) : Prop :=
  xs.length = n * size ∧ ((v = .slice none 0 0 ∧ n = 0) ∨ ∃ g cap cur fz, v = .slice (some ⟨g, 0, none⟩) n cap ∧ base ≤ g ∧ w.heap[g]? = some (.cells cur e fz) ∧ (fz = (0, 0) ∨ cur.size ≤ fz.1) ∧ n ≤ cap ∧ cap ≤ maxLen ∧ cur.size = cap * size ∧ cur.toList.take (n * size) = xs)
/-- Elements without rows inside. -/
def Kd.Z {α : Type} (d : Kd α) (e : Nat) (w : World) (base : Nat) (ok : Nat → Prop) (v : Value) (xs : List α) : Prop :=
  (∀ k, v.ownBlock = some k → ok k) ∧ ∃ inner, OwnZ w base e d.sz v xs.length inner ∧ Reps (fun x cs => ∀ w' b' ok', d.M w' b' ok' x cs) d.sz xs inner
section
variable {α : Type} {d : Kd α} {e : Nat} {w W w1 : World} {base : Nat} {ok ok' : Nat → Prop} {v u : Value} {xs : List α}
theorem OwnZ.blk {size n : Nat} {inner : List Value} (h : OwnZ w base e size v n inner) : ∀ k, v.ownBlock = some k → base ≤ k ∧ ∃ cells fz, w.heap[k]? = some (.cells cells e fz) := by
  intro k hk
  rcases h.2 with ⟨rfl, _⟩ | ⟨g, cap, cur, fz, rfl, hg, hh, _⟩
  · simp [Value.ownBlock] at hk
  · have : g = k := by simpa [Value.ownBlock] using hk
    subst this
    exact ⟨hg, cur, fz, hh⟩
theorem OwnZ.move {size n : Nat} {inner : List Value} (h : OwnZ w base e size v n inner) (hm : ∀ k, v.ownBlock = some k → w1.heap[k]? = w.heap[k]?) : OwnZ w1 base e size v n inner := by
  refine ⟨h.1, ?_⟩
  rcases h.2 with h2 | ⟨g, cap, cur, fz, rfl, hg, hh, r⟩
  · exact .inl h2
  · exact .inr ⟨g, cap, cur, fz, rfl, hg, (hm g (by simp [Value.ownBlock])).trans hh, r⟩
theorem Kd.Z_typed (h : Kd.Z d e w base ok v xs) : ∀ k, v.ownBlock = some k → ∃ cells fz, w.heap[k]? = some (.cells cells e fz) := by
  obtain ⟨_, inner, ho, _⟩ := h
  exact fun k hk => (ho.blk k hk).2
theorem Kd.Z_base (h : Kd.Z d e w base ok v xs) : ∀ k, v.ownBlock = some k → base ≤ k := by
  obtain ⟨_, inner, ho, _⟩ := h
  exact fun k hk => (ho.blk k hk).1
theorem Kd.Z_lt (h : Kd.Z d e w base ok v xs) : ∀ k, v.ownBlock = some k → k < w.heap.size := by
  intro k hk
  obtain ⟨cells, fz, hc⟩ := Kd.Z_typed h k hk
  exact blk_lt hc
theorem Kd.Z_mono (h : Kd.Z d e w base ok v xs) (hok : ∀ k, ok k → ok' k) : Kd.Z d e w base ok' v xs := ⟨fun k hk => hok k (h.1 k hk), h.2⟩
theorem Kd.Z_step (h : Kd.Z d e w base ok v xs) (hm : ∀ k, v.ownBlock = some k → w1.heap[k]? = w.heap[k]?) : Kd.Z d e w1 base ok v xs := by
  obtain ⟨h0, inner, ho, hr⟩ := h
  exact ⟨h0, inner, ho.move hm, hr⟩
theorem Kd.Z_below (h : Kd.Z d e w base ok v xs) (hb : Below w.heap.size w w1) : Kd.Z d e w1 base ok v xs := Kd.Z_step h fun k hk => hb.block k (Kd.Z_lt h k hk)
theorem Kd.Z_alloc (h : Kd.Z d e w base ok v xs) (o : Obj) : Kd.Z d e (w.alloc o) base ok v xs := Kd.Z_below h (Zbm (Below.refl _ _) o)
theorem Kd.Z_drew (h : Kd.Z d e w base ok v xs) : Kd.Z d e w.drew base ok v xs := Kd.Z_below h (below_drew (Below.refl _ _))
theorem Kd.Z_drewN (h : Kd.Z d e w base ok v xs) (m : Nat) : Kd.Z d e (w.drewN m) base ok v xs := Kd.Z_below h (Zbr (Below.refl _ _) m)
theorem Kd.Z_lower {base' : Nat} (h : Kd.Z d e w base ok v xs) (hb : base' ≤ base) : Kd.Z d e w base' ok v xs := by
  obtain ⟨h0, inner, ⟨hl, hc⟩, hr⟩ := h
  refine ⟨h0, inner, ⟨hl, ?_⟩, hr⟩
  rcases hc with h2 | ⟨g, cap, cur, fz, hv, hg, r⟩
  · exact .inl h2
  · exact .inr ⟨g, cap, cur, fz, hv, Nat.le_trans hb hg, r⟩
theorem Kd.Z_elder' (h : Kd.Z d e W base ok u xs) (hbase : ∀ k, v.ownBlock = some k → W.heap.size ≤ k) (hb : Below W.heap.size W w1) : Kd.Z d e w1 base (fun k => ok k ∧ some k ≠ v.ownBlock) u xs := by
  have h1 := Kd.Z_below h hb
  exact ⟨fun k hk => ⟨h.1 k hk, fun e_ => by have := hbase k e_.symm; have := Kd.Z_lt h k hk; omega⟩, h1.2⟩
theorem Kd.Z_new' (h : Kd.Z d e w1 W.heap.size ok v xs) (hlt : ∀ k, u.ownBlock = some k → k < W.heap.size) : Kd.Z d e w1 W.heap.size (fun k => ok k ∧ some k ≠ u.ownBlock) v xs :=
  ⟨fun k hk => ⟨h.1 k hk, fun e_ => by have := hlt k e_.symm; have := Kd.Z_base h k hk; omega⟩, h.2⟩
theorem Kd.Z_after {v1 : Value} (h : Kd.Z d e W base (fun k => ok k ∧ some k ≠ v.ownBlock) u xs) (hg : W.grownBy w1 v.ownBlock) (hat : v1.ownBlock = v.ownBlock ∨ ∃ b, v1.ownBlock = some b ∧ W.heap.size ≤ b) : Kd.Z d e w1 base (fun k => ok k ∧ some k ≠ v1.ownBlock) u xs := by
  have h1 := Kd.Z_step (w1 := w1) h fun k hk => hg.block k (Kd.Z_lt h k hk) (h.1 k hk).2
  refine ⟨fun k hk => ⟨(h.1 k hk).1, ?_⟩, h1.2⟩
  rcases hat with hat | ⟨b, hb, hle⟩
  · rw [hat]; exact (h.1 k hk).2
  · rw [hb]
    intro he
    injection he with he
    have := Kd.Z_lt h k hk
    omega
theorem Kd.Z_over' {e' : Nat} (h : Kd.Z d e W base ok u xs) (hty : ∀ k, v.ownBlock = some k → ∃ cells, W.heap[k]? = some (.cells cells e' (0, 0))) (ht : ∀ q, q ∈ e :: d.E → q ≠ e') (hg : W.grownBy w1 v.ownBlock) : Kd.Z d e w1 base ok u xs := by
  refine Kd.Z_step h fun k hk => hg.block k (Kd.Z_lt h k hk) fun he => ?_
  obtain ⟨cells, fz, hc⟩ := Kd.Z_typed h k hk
  obtain ⟨cells', hc'⟩ := hty k he.symm
  rw [hc] at hc'
  injection hc' with hc'
  injection hc' with _ hc'
  exact ht e List.mem_cons_self hc'
theorem Kd.R_overZ' {β : Type} {d' : Kd β} {ys : List β} {e' : Nat} (h : d'.R e W base ok u ys) (hty : ∀ k, v.ownBlock = some k → ∃ cells fz, W.heap[k]? = some (.cells cells e' fz)) (ht : ∀ q, q ∈ e :: d'.E → q ≠ e') (hg : W.grownBy w1 v.ownBlock) : d'.R e w1 base ok u ys := by
  refine Kd.zB (Kd.xD (Kd.yY h) (fun k hk => hg.block k hk.2.2.1 (fun he => ?_))) (fun _ hk => hk.1)
  obtain ⟨_, _, _, q, hq, cells, hc⟩ := hk
  obtain ⟨cells', fz, hc'⟩ := hty k he.symm
  rw [hc] at hc'
  injection hc' with hc'
  injection hc' with _ hc'
  exact ht q hq hc'
theorem Kd.Z_ne (h : Kd.Z d e w base ok v xs) {g t : Nat} {cells : Array Value} (hb : w.heap[g]? = some (.cells cells t (0, 0))) (ht : e ≠ t) : some g ≠ v.ownBlock := by
  intro e_
  obtain ⟨cells, fz, hc⟩ := Kd.Z_typed h g e_.symm
  rw [hb] at hc
  injection hc with hc
  injection hc with _ hc
  exact ht hc.symm
theorem Kd.Z_nem {K V : Type} {eK : K → Value} {eV : V → Value} {L : List (K × V)} {g : Nat} (h : Kd.Z d e w base ok v xs) (hb : w.heap[g]? = some (mobj eK eV L)) : some g ≠ v.ownBlock := by
  intro e_
  obtain ⟨cells, fz, hc⟩ := Kd.Z_typed h g e_.symm
  rw [hb] at hc
  cases hc
theorem Kd.Z_mset {K V : Type} {eK : K → Value} {eV : V → Value} {L : List (K × V)} {g : Nat} {w2 : World} (h : Kd.Z d e W base ok v xs) (hb : W.heap[g]? = some (mobj eK eV L)) (hg : W.grownBy w2 (some g)) : Kd.Z d e w2 base ok v xs :=
  Kd.Z_step h fun k hk => hg.block k (Kd.Z_lt h k hk) fun e_ => Kd.Z_nem h hb (by rw [← e_]; exact hk.symm)
theorem Kd.Z_R (h : d.R e w base ok v xs) (hM : ∀ {w b ok x cs}, d.M w b ok x cs → ∀ w' b' ok', d.M w' b' ok' x cs) : Kd.Z d e w base ok v xs := by
  obtain ⟨h0, inner, ⟨hl, hc⟩, hr⟩ := h
  refine ⟨h0, inner, ⟨hl, ?_⟩, hr.imp_ fun _ _ hp => hM hp⟩
  rcases hc with h2 | ⟨g, cap, cur, hv, hg, hh, r⟩
  · exact .inl h2
  · exact .inr ⟨g, cap, cur, (0, 0), hv, hg, hh, .inl rfl, r⟩
theorem Kd.Z_slice (h : Kd.Z d e w base ok v xs) : ∃ A c, v = .slice A xs.length c := by
  obtain ⟨_, inner, ⟨_, hc⟩, _⟩ := h
  rcases hc with ⟨rfl, hn⟩ | ⟨g, cap, cur, fz, rfl, _⟩
  · exact ⟨none, 0, by rw [hn]⟩
  · exact ⟨_, cap, rfl⟩
theorem Kd.Z_reads' {A : Option Addr} {n c : Nat} (h : Kd.Z d e w base ok (.slice A n c) xs) : n = xs.length ∧ n ≤ c ∧ d.C w A xs.length xs := by
  obtain ⟨_, inner, ⟨hl, hc⟩, hr⟩ := h
  rcases hc with ⟨hv, hn⟩ | ⟨g, cap, cur, fz, hv, hg, hh, hz, hnc, hm, hs, ht⟩
  · injection hv with h1 h2 h3
    subst h1 h2 h3
    exact ⟨hn.symm, Nat.le_refl _, rfl, by omega, fun hp => by omega⟩
  · injection hv with h1 h2 h3
    subst h1 h2 h3
    refine ⟨rfl, hnc, rfl, by simp only [maxLen] at hm; omega, fun hp => ⟨_, rfl, fun j p hj => ?_⟩⟩
    have hjl : j < xs.length := (List.getElem?_eq_some_iff.1 hj).1
    have hMj := hr.2 j p hj
    have hKj : d.K w p ((inner.drop (j * d.sz)).take d.sz) := d.K_of_M (hMj w base ok)
    refine ⟨_, d.K_len hKj, hKj, fun i x hi => ?_⟩
    have hid : i < d.sz := by
      have := (List.getElem?_eq_some_iff.1 hi).1
      rw [List.length_take] at this
      omega
    rw [List.getElem?_take, if_pos hid, List.getElem?_drop, ← ht, List.getElem?_take] at hi
    have hadd : (⟨g, 0, none⟩ : Addr).add (j * d.sz + i) = ⟨g, j * d.sz + i, none⟩ := by unfold Addr.add; split <;> simp_all
    rw [hadd, cell_of_row w g _ cur e fz hh]
    split at hi
    · simpa using hi
    · cases hi
end
theorem storeCells_Z (P : Program) (g o : Nat) (t : TypeId) (fz : Nat × Nat) : ∀ (vs : List Value) (i : Nat) (cur : Array Value) (w : World), w.heap[g]? = some (.cells cur t fz) → (fz = (0, 0) ∨ cur.size ≤ fz.1) → o + i + vs.length ≤ cur.size → (∀ v ∈ vs, v.oneCell' = true) →
    (storeCells ⟨g, o, none⟩ vs i).run P w = .ok () (w.setRow g (cur.toList.take (o + i) ++ vs ++ cur.toList.drop (o + i + vs.length)).toArray)
  | [], i, cur, w, hg, _, _, _ => by
    simp only [storeCells, List.append_nil, List.length_nil, Nat.add_zero, List.take_append_drop, Array.toArray_toList]
    rw [setRow_self w g cur t fz hg]
    rfl
  | v :: rest, i, cur, w, hg, hfz, hl, h1 => by
    have hi : o + i < cur.size := by simp at hl; omega
    have hadd : (⟨g, o, none⟩ : Addr).add i = ⟨g, o + i, none⟩ := by unfold Addr.add; split <;> simp_all
    have hcell : w.cell? ⟨g, o + i, none⟩ = some cur[o + i] := by simp [World.cell?, hg, hi]
    have hfro : w.frozen? ⟨g, o + i, none⟩ = false := by
      obtain ⟨lo, hi'⟩ := fz
      simp only [World.frozen?, hg, Bool.and_eq_false_iff, decide_eq_false_iff_not]
      rcases hfz with hfz | hfz
      · right
        injection hfz with _ h2
        omega
      · left
        simp only at hfz
        omega
    have hst : (store ((⟨g, o, none⟩ : Addr).add i) v).run P w = .ok () (w.setRow g (cur.setIfInBounds (o + i) v)) := by
      rw [hadd, run_store P w _ v _ (h1 v (by simp)), hcell]
      simp [hfro, setCell_eq_setRow w g (o + i) cur t fz v hg]
    have ih := storeCells_Z P g o t fz rest (i + 1) (cur.setIfInBounds (o + i) v) (w.setRow g (cur.setIfInBounds (o + i) v)) (setRow_heap w g cur _ t _ hg) (by simpa using hfz) (by simp at hl ⊢; omega) (fun x hx => h1 x (by simp [hx]))
    simp only [storeCells, Sem.run_bind, hst, Result.andThen_ok, ih, setRow_setRow]
    congr 3
    have e := list_seg_step cur.toList (o + i) v rest (by simp at hl ⊢; omega)
    simpa [Array.toList_setIfInBounds, Nat.add_assoc] using e
theorem append_Z {P : Program} (w : World) (base : Nat) (t ty e : TypeId) (i : TypeInfo) (z : Value) (size bytes : Nat) (ht : P.underlying t = some (.slice e)) (hi : P.info? e = some i) (hz : i.zero = some z)
    (hsize : i.size = size) (hby : i.bytes = bytes) (hzs : z.cells.size = size) (hsz : 0 < size)
    (v : Value) (n : Nat) (xs : List Value) (hown : OwnZ w base e size v n xs)
    (a : Addr) (m c : Nat) (news : List Value) (hl : news.length = m * size) (hnews : ∀ j u, news[j]? = some u → w.cell? (a.add j) = some u) (h1 : ∀ u ∈ news, u.oneCell' = true)
    (b : n + m ≤ maxLen) (hbytes : (n + m) * bytes ≤ 140737488355328) (hbase : base ≤ w.heap.size) :
    ∃ v' w', (Builtin.append_ #[t, t] ty #[v, .slice (some a) m c]).run P w = .ok v' w' ∧ OwnZ w' base e size v' (n + m) (xs ++ news) ∧ w.grownBy w' v.ownBlock ∧ (v'.ownBlock = v.ownBlock ∨ v'.ownBlock = some w.heap.size) := by
  rcases hown.2 with ⟨rfl, rfl⟩ | ⟨g, cap, cur, fz, rfl, hbg, hg, hfz, hnc, hcm, hcs, htake⟩
  · obtain ⟨v', w', h2, ⟨h3, h4⟩, h5, _, h6⟩ := run_append_own_at (P := P) w base t ty e i z size bytes ht hi hz hsize hby hzs hsz (.slice none 0 0) 0 xs ⟨hown.1, .inl ⟨rfl, rfl⟩⟩ a m c news hl hnews h1 b hbytes hbase
    refine ⟨v', w', h2, ⟨h3, ?_⟩, h5, h6⟩
    rcases h4 with h4 | ⟨g, cap, cur, hv, hg, hh, r⟩
    · exact .inl h4
    · exact .inr ⟨g, cap, cur, (0, 0), hv, hg, hh, .inl rfl, r⟩
  · have hxl : xs.length = n * size := hown.1
    have hlen : (xs ++ news).length = (n + m) * size := by rw [List.length_append, hxl, hl, Nat.add_mul]
    have hsmall : n + m ≤ 9223372036854775807 := by simp only [maxLen] at b; omega
    by_cases hroom : n + m ≤ cap
    · have hfit : n * i.size + news.length ≤ cur.size := by rw [hsize, hl, hcs, ← Nat.add_mul]; exact Nat.mul_le_mul_right _ hroom
      have hf := run_firstCells_some (P := P) w i.size m a m c news (by rw [hsize]; exact hl) hnews
      have hst := storeCells_Z P g (n * i.size) e fz news 0 cur w hg hfz (by simpa using hfit) h1
      simp only [Nat.add_zero] at hst
      have hr : (Builtin.append_ #[t, t] ty #[.slice (some ⟨g, 0, none⟩) n cap, .slice (some a) m c]).run P w =
          .ok (.slice (some ⟨g, 0, none⟩) (n + m) cap) (w.setRow g (cur.toList.take (n * i.size) ++ news ++ cur.toList.drop (n * i.size + news.length)).toArray) := by
        simp [Builtin.append_, run_underlying ht, sizeOf, typeInfo, hi, Builtin.lenOf, hroom, hf, Addr.add_lit, hst]
      have hns : (cur.toList.take (n * i.size) ++ news ++ cur.toList.drop (n * i.size + news.length)).toArray.size = cur.size := by
        simp only [List.size_toArray, List.length_append, List.length_take, List.length_drop, Array.length_toList]
        omega
      refine ⟨_, _, hr, ⟨hlen, .inr ⟨g, cap, _, fz, rfl, hbg, setRow_heap w g cur _ e _ hg, by rw [hns]; exact hfz, hroom, hcm, by rw [hns]; exact hcs, ?_⟩⟩, ⟨rfl, rfl, rfl, by simp, fun k _ hk => setRow_other w g k _ (fun e => hk (by simp [Value.ownBlock, e]))⟩, .inl rfl⟩
      rw [hsize, htake, ← hlen]
      exact List.take_left
    · have holds : ∀ j u, xs[j]? = some u → w.cell? ((⟨g, 0, none⟩ : Addr).add j) = some u := by
        intro j u hu
        have hadd : (⟨g, 0, none⟩ : Addr).add j = ⟨g, j, none⟩ := by unfold Addr.add; split <;> simp_all
        rw [hadd, cell_of_row w g j cur e fz hg]
        rw [← htake, List.getElem?_take] at hu
        split at hu
        · simpa using hu
        · cases hu
      have hr := run_append_grow (P := P) w t ty e i z ht hi hz ⟨g, 0, none⟩ n cap xs (by rw [hsize]; exact hxl) holds a m c news (by rw [hsize]; exact hl) hnews (by omega) (by omega) (by rw [hby]; exact growslice_fits (by omega) hbytes)
      have hge := grownCap_ge w (n + m) cap e
      have d : grownCap w (n + m) cap e ≤ maxLen := grownCap_le_maxLen w (n + m) cap e b
      refine ⟨_, _, hr, ⟨hlen, .inr ⟨w.heap.size, _, _, (0, 0), rfl, hbase, heap_alloc_new w.drew _, .inl rfl, hge, d, ?_, ?_⟩⟩, ⟨rfl, rfl, rfl, by simp, fun k hk _ => heap_alloc_old w.drew _ hk⟩, .inr rfl⟩
      · simp only [Array.size_append, List.size_toArray, size_zeroCells, hzs, hxl, hl, ← Nat.add_mul]
        congr 1
        omega
      · simp only [Array.toList_append, List.append_assoc]
        rw [← List.append_assoc, ← hlen]
        exact List.take_left
section
variable {P : Program} {ops : Array Oper} {rest : List Oper} {o : Oper} {a : Act} {Q : Exit → Act → World → Prop} {Kc : Act → World → Prop}
theorem Kd.Z_lit (d : Kd Int) {w0 W : World} (base e : Nat) (hgd : o.guard = none) {N : Tmp} (_hd : o.dst = some N) {xs : List Int} {inner : List Value} {ok okp : Nat → Prop}
    (hrun : (execOp a.eval o).run P W = .ok (.value (.slice (some ⟨W.heap.size, 0, none⟩) xs.length xs.length)) (W.alloc (.cells inner.toArray e)))
    (hrep : Reps (d.M W base okp) d.sz xs inner) (hok : ∀ k, okp k → ok k) (hfresh : ok W.heap.size) (HB : Below base w0 W) (hbase : base ≤ W.heap.size) (hm : xs.length ≤ 9223372036854775807)
    (h : ∀ v1 w1, Kd.Z d e w1 base ok v1 xs → Below base w0 w1 → W.grownBy w1 none → (∃ b, v1.ownBlock = some b ∧ W.heap.size ≤ b) → wpList P ops Q rest (a.put o.dst v1) w1) (hq : d = Kd.int .u8 := by rfl) : wpList P ops Q (o :: rest) a W :=
  Kd.yP d base e hgd _hd hrun hrep hok hfresh HB hbase hm (fun v1 w1 hR => h v1 w1 (Kd.Z_R hR (by subst hq; exact fun h _ _ _ => h)))
theorem Kd.Z_append_rows (d : Kd Int) {Rr : Int → List Value → Prop} {w0 W : World} (base : Nat) (hgd : o.guard = none) (s x : Operand) (t e : TypeId) (z : Value) (bytes : Nat)
    (ho : o.op = .call { callee := .builtin .append, args := #[s, x], argTypes := #[t, t] })
    (ht : P.underlying t = some (.slice e)) (hinfo : (P.info? e).map (fun i => (i.zero, i.size, i.bytes)) = some (some z, d.sz, bytes)) (hz : z.cells.size = d.sz) (l : 0 < d.sz) (r : 0 < bytes)
    (v : Value) (xs ys : List Int) (A : Option Addr) (m c : Nat) (ok okp : Nat → Prop) (hs : a.eval s = v) (hx : a.eval x = .slice A m c)
    (HO : Kd.Z d e W base ok v xs) (HR : Zcp Rr d.sz W A m ys) (hKM : ∀ x cs, Rr x cs → d.M W base okp x cs) (hokp : ∀ k, okp k → ok k ∧ some k ≠ v.ownBlock) (hfresh : ∀ k, W.heap.size ≤ k → ok k)
    (HB : Below base w0 W) (hbase : base ≤ W.heap.size) (hl : (xs.length + m) * bytes ≤ 140737488355328)
    (h : ∀ v1 w1, Kd.Z d e w1 base ok v1 (xs ++ ys) → Below base w0 w1 → W.grownBy w1 v.ownBlock → (v1.ownBlock = v.ownBlock ∨ ∃ b, v1.ownBlock = some b ∧ W.heap.size ≤ b) → wpList P ops Q rest (a.put o.dst v1) w1) (hq : d = Kd.int .u8 := by rfl) :
    wpList P ops Q (o :: rest) a W := by
  obtain ⟨i0, hi, hzz⟩ := Option.map_eq_some_iff.1 hinfo
  simp only [Prod.mk.injEq] at hzz
  obtain ⟨y, B, D⟩ := hzz
  have hm : ys.length = m := HR.1
  have hsz : d.sz = 1 := by rw [hq]; rfl
  have hlen : xs.length + m ≤ 140737488355328 := Nat.le_trans (Nat.le_mul_of_pos_right _ r) hl
  have HO' := HO
  obtain ⟨hok, inner, hown, hr⟩ := HO
  have hMM : ∀ {w b ok x cs}, d.M w b ok x cs → ∀ w' b' ok', d.M w' b' ok' x cs := by subst hq; exact fun h _ _ _ => h
  have hrun : ∃ v1 w1, (Builtin.append_ #[t, t] o.type #[v, .slice A m c]).run P W = .ok v1 w1 ∧ Kd.Z d e w1 base ok v1 (xs ++ ys) ∧ W.grownBy w1 v.ownBlock ∧ (v1.ownBlock = v.ownBlock ∨ ∃ b, v1.ownBlock = some b ∧ W.heap.size ≤ b) := by
    rcases A with _ | ad
    · have h0 : m = 0 := by
        rcases Nat.eq_zero_or_pos m with h0 | h0
        · exact h0
        · obtain ⟨ad, h, _⟩ := HR.2.2 h0
          cases h
      subst h0
      obtain rfl : ys = [] := List.eq_nil_of_length_eq_zero hm
      refine ⟨v, W, ?_, by rw [List.append_nil]; exact HO', World.grownBy.refl W _, .inl rfl⟩
      rcases hown.2 with ⟨rfl, hn⟩ | ⟨g, cap, cur, fz, rfl, _, _, _, hnc, _⟩
      · simp [Builtin.append_, run_underlying ht, sizeOf, typeInfo, hi, Builtin.lenOf, Builtin.firstCells]
      · simp [Builtin.append_, run_underlying ht, sizeOf, typeInfo, hi, Builtin.lenOf, Builtin.firstCells, hnc, storeCells]
    · obtain ⟨news, hnr, hnc⟩ := Zcp.inner_ HR
      have hnM : Reps (d.M W base okp) d.sz ys news := hnr.imp_ (fun p c hp => hKM p c hp)
      have hone : ∀ u ∈ news, u.oneCell' = true := by
        intro u hu
        obtain ⟨q, hq', rfl⟩ := List.mem_iff_getElem.1 hu
        have hql : q / d.sz < ys.length := by
          rw [Nat.div_lt_iff_lt_mul l]
          rw [← hnM.1]
          exact hq'
        have hc := hnM.2 (q / d.sz) _ (List.getElem?_eq_getElem hql)
        refine d.K_one (d.K_of_M hc) _ ?_
        rw [List.mem_iff_getElem?]
        refine ⟨q % d.sz, ?_⟩
        rw [List.getElem?_take, if_pos (Nat.mod_lt _ l), List.getElem?_drop, Nat.mul_comm, Nat.div_add_mod, List.getElem?_eq_getElem hq']
      obtain ⟨v1, w1, hrun, h2, hg, hat⟩ := append_Z (P := P) W base t o.type e i0 z d.sz bytes ht hi y B D hz l v xs.length inner hown ad m c news (by rw [hnM.1, hm]) hnc hone (by simp only [maxLen]; omega) hl hbase
      have hat' : v1.ownBlock = v.ownBlock ∨ ∃ b, v1.ownBlock = some b ∧ W.heap.size ≤ b := by
        rcases hat with hat | hat
        · exact .inl hat
        · exact .inr ⟨_, hat, Nat.le_refl _⟩
      refine ⟨v1, w1, hrun, ⟨fun k hk => ?_, inner ++ news, by rw [List.length_append, hm]; exact h2, ?_⟩, hg, hat'⟩
      · rcases hat' with e1 | ⟨b, e1, E⟩
        · exact hok k (e1 ▸ hk)
        · rw [e1] at hk
          injection hk with hk
          subst hk
          exact hfresh _ E
      · have n : Reps (fun x cs => ∀ w' b' ok', d.M w' b' ok' x cs) d.sz ys news := hnM.imp_ fun _ _ hp => hMM hp
        refine ⟨by rw [List.length_append, List.length_append, hr.1, n.1, Nat.add_mul], fun j p hj => ?_⟩
        rw [hsz, Nat.mul_one]
        have hil : inner.length = xs.length := by rw [hr.1, hsz, Nat.mul_one]
        rcases Nat.lt_or_ge j xs.length with hlt | hge
        · rw [List.getElem?_append_left hlt] at hj
          have h3 := hr.2 j p hj
          rw [hsz, Nat.mul_one] at h3
          rwa [List.drop_append_of_le_length (by omega), List.take_append_of_le_length (by rw [List.length_drop]; omega)]
        · rw [List.getElem?_append_right hge] at hj
          have h3 := n.2 (j - xs.length) p hj
          rw [hsz, Nat.mul_one] at h3
          rw [List.drop_append, List.drop_eq_nil_of_le (by omega), List.nil_append, hil]
          exact h3
  obtain ⟨v1, w1, hrun, h2, hg, hat⟩ := hrun
  refine wpList_plain hgd fun K hK => ?_
  unfold Oper.wp execOp
  simp only [ho, resolve, invoke, builtin, Sem.run_bind, Sem.run_pure, Result.andThen_ok, List.map_toArray, List.map_cons, List.map_nil, hs, hx, hrun]
  exact hK _ _ (h v1 w1 h2 (HB.grown hg hbase (fun k hk => Kd.Z_base HO' k hk)) hg hat)
/-- '[]byte(s)'. -/
theorem Kd.Z_conv_step {W : World} (e : Nat) {N : Tmp} (s : ByteArray) {src dst : TypeId} {x : Operand} (hd : P.underlying dst = some (.slice e)) (hs : P.underlying src = some .string) (he : P.underlying e = some (.int .u8)) (hm : s.size ≤ 140737488355328)
    (h : ∀ v1 w1, Kd.Z (Kd.int .u8) e w1 W.heap.size (fun _ => True) v1 (bytesOf s) → Below W.heap.size W w1 → W.grownBy w1 none → (∃ b, v1.ownBlock = some b ∧ W.heap.size ≤ b) → Kc (a.put o.dst v1) w1)
    (hw : Region.wanted o (yielded ops a.tmps) = true := by rfl) (ho : o.op = .convert src dst x := by rfl) (_hN : o.dst = some N := by rfl) (hx : a.eval x = .string s := by first | rfl | (go_simp; done) | (go_simp; rfl)) :
    if Region.wanted o (yielded ops a.tmps) = true then Oper.wp P o a W Kc Q else Kc (a.put o.dst undef) W := by
  have hr := Lib.run_convert_string_bytes (P := P) W src dst e s hs hd he
  have hge := grownCap_ge W s.size 0 e
  have hcm : grownCap W s.size 0 e ≤ maxLen := grownCap_le_maxLen W s.size 0 e (by simp only [maxLen]; omega)
  have hsz : (Lib.bytesCells W e s).size = grownCap W s.size 0 e := by
    simp only [Lib.bytesCells, Array.size_append, Array.size_map, Array.size_replicate]
    have : s.data.size = s.size := rfl
    omega
  have c : Below W.heap.size W (Lib.bytesWorld W e s) := ⟨rfl, rfl, rfl, by rw [Lib.bytesWorld_size]; omega, fun k hk => Lib.bytesWorld_at_old W e s k hk⟩
  refine event_step hw (show (execOp a.eval o).run P W = .ok (.value (.slice (some ⟨W.heap.size, 0, none⟩) s.size (grownCap W s.size 0 e))) (Lib.bytesWorld W e s) by simp [execOp, ho, hx, hr, Result.andThen]) (h _ _ ⟨fun _ _ => trivial, (bytesOf s).map (Value.int .u8), ?_, ?_⟩ c (grown_of_below c none) ⟨_, rfl, Nat.le_refl _⟩)
  · refine ⟨by simp [Kd.int, Kd.scalar], .inr ⟨W.heap.size, _, _, _, by rw [bytesOf_length], Nat.le_refl _, Lib.bytesWorld_at_new W e s, .inr (Nat.le_refl _), by rw [bytesOf_length]; exact hge, hcm, by rw [hsz]; simp [Kd.int, Kd.scalar], ?_⟩⟩
    rw [bytesOf_length]
    simp only [Lib.bytesCells, Kd.int, Kd.scalar, Nat.mul_one, Array.toList_append, Array.toList_map, bytesOf, List.map_map]
    rw [List.take_append_of_le_length (by rw [List.length_map, Array.length_toList]; exact Nat.le_refl _)]
    rw [List.take_of_length_le (by rw [List.length_map, Array.length_toList]; exact Nat.le_refl _)]
    rfl
  · refine ⟨by simp [Kd.int, Kd.scalar], fun j p hj => ?_⟩
    have hj' : j < (bytesOf s).length := (List.getElem?_eq_some_iff.1 hj).1
    have hp : (bytesOf s)[j] = p := (List.getElem?_eq_some_iff.1 hj).2
    show ∀ (w' : World) (b' : Nat) (ok' : Nat → Prop), (((bytesOf s).map (Value.int .u8)).drop (j * 1)).take 1 = [Value.int .u8 p]
    intro _ _ _
    rw [Nat.mul_one, List.drop_eq_getElem_cons (by simpa using hj')]
    simp [hp]
end
theorem Kd.Z_string {P : Program} {w : World} {src dst e : TypeId} {e' base : Nat} {ok : Nat → Prop} {v : Value} {xs : List Int} (hs : P.underlying src = some (.slice e)) (he : P.underlying e = some (.int .u8)) (hd : P.underlying dst = some .string)
    (h : Kd.Z (Kd.int .u8) e' w base ok v xs) : (convert src dst v).run P w = .ok (.string (strOfNums xs)) w := by
  obtain ⟨A, c, rfl⟩ := Kd.Z_slice h
  exact Kd.C_string hs he hd (Kd.Z_reads' h).2.2
section
variable {K V : Type} [DecidableEq K] {eK : K → Value} {eV : V → Value} {P : Program} {kt : TypeId}
end
section
variable {K V : Type} [DecidableEq K] {eK : K → Value} {eV : V → Value} {P : Program} {W : World} {g : Nat} {L : List (K × V)} {t kt et : TypeId}
end
section
variable {K V : Type} {eK : K → Value} {eV : V → Value} {P : Program} {W : World} {t kt et : TypeId}
variable {ops : Array Oper} {o : Oper} {rest : List Oper} {a : Act} {Q : Exit → Act → World → Prop} {Kc : Act → World → Prop}
end
set_option maxHeartbeats 2000000 in
theorem idxI (g : Nat) (lb : Array Value) (eg : ∀ args w, (callFunc g args).run Tryd.prog w = .ok (.enter g args) w) (p : Int → Bool) (A : Option Addr) (c : Nat) (l : List Int) (w : World) (hr : Kd.C (Kd.int .i64) w A l.length l)
    (hp : ∀ (W : World) (x : Int), x ∈ l → Below w.heap.size w W → Calls Tryd.prog g (#[.int .i64 x] ++ lb) W fun e w' => e = .returned (.bool (p x)) ∧ Below W.heap.size W w') :
    Calls Tryd.prog 168 #[.slice A l.length c, .func (.func g) #[] lb] w fun e w' => e = .returned (.int .i64 (fidx p l)) ∧ Below w.heap.size w w' := by
  have HR := Zac.mk hr
  have hlen : l.length ≤ 9223372036854775807 := hr.2.1
  clear hr
  have HP := Zac.mk hp
  clear hp
  go_enter Tryd.func168, Tryd.ntmps168
  go_wp2
  go_loopg [5, 8] l.length (fun gg _ s8 wr => ∃ kk : Nat, kk ≤ l.length ∧ l.length - kk ≤ gg ∧ s8 = .int .i64 kk ∧ Zac (Below w.heap.size w wr) ∧ Zac (∀ j (hj : j < kk) (hl : j < l.length), p l[j] = false))
  case atStart => exact ⟨0, Nat.zero_le _, by omega, rfl, ⟨Below.refl _ w⟩, ⟨fun j hj => absurd hj (Nat.not_lt_zero _)⟩⟩
  case round =>
    obtain ⟨kk, hkk, hg, rfl, BW, AS⟩ := hrel
    by_cases hlt : kk < l.length
    · have hltz : (kk : Int) < (l.length : Int) := by omega
      have a : 0 ≤ (kk : Int) := by omega
      obtain ⟨ad, e, hx⟩ := Kd.zO HR.out (kk : Int) a hltz
      cases e
      replace hx := (BW.out.cell (World.block_lt_of_cell? w _ hx)).trans hx
      rw [rd_get hlt, Int.toNat_natCast] at hx
      have hcall := HP.out wr l[kk] (List.getElem_mem hlt) BW.out
      cases hq : p l[kk] with
      | true =>
        rw [hq] at hcall
        have HQ := Zac.mk hq
        clear hq
        generalize hy : l[kk] = y at hx hcall
        clear hy
        go_wp2_with (go_at_fn g; refine hcall.mono ?_; rintro e w' ⟨rfl, hb'⟩)
        go_ret
        exact ⟨by rw [fidx_hit hlt HQ.out (fun j hj => AS.out j hj _)]; rfl, Zaf BW.out hb'⟩
      | false =>
        rw [hq] at hcall
        have HQ := Zac.mk hq
        clear hq
        generalize hy : l[kk] = y at hx hcall
        clear hy
        go_wp2_with (go_at_fn g; refine hcall.mono ?_; rintro e w' ⟨rfl, hb'⟩)
        go_roundg (l.length - (kk + 1))
        case measure => omega
        case rel =>
          refine ⟨kk + 1, by omega, by omega, by go_num, ⟨Zaf BW.out hb'⟩, ⟨fun j hj hl => ?_⟩⟩
          by_cases e : j = kk
          · subst e
            exact HQ.out
          · exact AS.out j (by omega) hl
    · have hltz : ¬ (kk : Int) < (l.length : Int) := by omega
      have hke : kk = l.length := by omega
      have HKE := Zac.mk hke
      clear hke
      go_wp2
      go_ret
      exact ⟨by rw [fidx_miss (fun j hj => AS.out j (by have := HKE.out; omega) hj)]; rfl, BW.out⟩
set_option maxHeartbeats 2000000 in
theorem conI (g : Nat) (lb : Array Value) (eg : ∀ args w, (callFunc g args).run Tryd.prog w = .ok (.enter g args) w) (p : Int → Bool) (A : Option Addr) (c : Nat) (l : List Int) (w : World) (hr : Kd.C (Kd.int .i64) w A l.length l)
    (hp : ∀ (W : World) (x : Int), x ∈ l → Below w.heap.size w W → Calls Tryd.prog g (#[.int .i64 x] ++ lb) W fun e w' => e = .returned (.bool (p x)) ∧ Below W.heap.size W w') :
    Calls Tryd.prog 157 #[.slice A l.length c, .func (.func g) #[] lb] w fun e w' => e = .returned (.bool (l.any p)) ∧ Below w.heap.size w w' := by
  have HI := Zac.mk (fun w0 (h0 : w0 = w) => h0 ▸ idxI g lb eg p A c l w hr hp)
  rw [← fidx_nonneg]
  clear hr hp
  go_enter Tryd.func157, Tryd.ntmps157
  go_wp2_with (go_at_call 168; refine (HI.out _ rfl).mono ?_; rintro e w' ⟨rfl, hb'⟩)
  go_ret
  exact ⟨rfl, hb'⟩
theorem allIn_1 (n lo hi : Int) (b1 b2 : Nat) (w : World) (h1 : w.cell? ⟨b1, 0, none⟩ = some (.int .i64 lo)) (h2 : w.cell? ⟨b2, 0, none⟩ = some (.int .i64 hi)) :
    Calls Tryd.prog 158 #[.int .i64 n, .pointer (some ⟨b1, 0, none⟩), .pointer (some ⟨b2, 0, none⟩)] w fun e w' => e = .returned (.bool (!(decide (lo ≤ n) && decide (n ≤ hi)))) ∧ Below w.heap.size w w' := by
  have hf : Zcn.f n lo hi = some (decide (lo ≤ n) && decide (n ≤ hi)) := by
    unfold Zcn.f
    by_cases h : lo ≤ n <;> simp [h]
  have HF := Zac.mk hf
  clear hf
  generalize (decide (lo ≤ n) && decide (n ≤ hi)) = r at HF ⊢
  go_enter Tryd.func158, Tryd.ntmps158
  go_wp2_with (go_at_call 82; refine (Zcn.calls n lo hi r _ HF.out).mono ?_; rintro e w' ⟨rfl, hq⟩)
  go_ret
  exact ⟨rfl, hq.below⟩
def impl_allIn.f (l0 : List Int) (a1 : Int) (a2 : Int) : Option Bool := some (l0.all fun n => decide (a1 ≤ n) && decide (n ≤ a2))
theorem impl_allIn.calls (A0 : Option Addr) (c0 : Nat) (l0 : List Int) (a1 : Int) (a2 : Int) (r : Bool) (w : World) (a : Kd.C (Kd.int .i64) w A0 l0.length l0) (d : l0.length ≤ c0) (h : impl_allIn.f l0 a1 a2 = some r) :
    Calls Tryd.prog 141 #[.slice A0 l0.length c0, .int .i64 a1, .int .i64 a2] w fun e w' => e = .returned (.bool r) ∧ Below w.heap.size w w' := by
  have hany : (l0.any fun n => !(decide (a1 ≤ n) && decide (n ≤ a2))) = !r := by
    unfold impl_allIn.f at h
    rw [← Option.some.inj h, List.not_all_eq_any_not]
  clear h
  have HR := mA a
  clear a
  have HC := fun W A (hA : Kd.C (Kd.int .i64) W A l0.length l0) (b1 b2 : Nat) (h1 : W.cell? ⟨b1, 0, none⟩ = some (.int .i64 a1)) (h2 : W.cell? ⟨b2, 0, none⟩ = some (.int .i64 a2)) (b : b1 < W.heap.size) (c : b2 < W.heap.size) =>
    conI 158 #[.pointer (some ⟨b1, 0, none⟩), .pointer (some ⟨b2, 0, none⟩)] (enters_of Tryd.func158 (by kernel_rfl) rfl) (fun n => !(decide (a1 ≤ n) && decide (n ≤ a2))) A c0 l0 W hA
      (fun W' x _ hb => allIn_1 x a1 a2 b1 b2 W' ((hb.cell (p := ⟨b1, 0, none⟩) b).trans h1) ((hb.cell (p := ⟨b2, 0, none⟩) c).trans h2))
  rw [hany] at HC
  clear hany
  go_enter Tryd.func141, Tryd.ntmps141
  go_wp2_with fail
  refine (HC _ A0 (Kd.C_alloc (Kd.C_alloc HR.out _) _) w.heap.size (w.heap.size + 1) (by go_simp) (by go_simp) (by simp; omega) (by simp)).mono ?_
  rintro e w' ⟨rfl, hb⟩
  go_wp2
  go_ret
  exact ⟨by simp, ((Zbm (Zbm (Below.refl _ w) _) _).trans (hb.mono (by simp; omega)))⟩
def Zdc.f (l0 : List Int) : Option (Bool) := if (l0.length : Int) ≤ 24 then ((Zbw.f l0).bind fun a => ((Zc2.f a).bind fun b => ((impl_allIn.f l0 0 (wrap64 (b - 1))).bind fun c => (some c)))) else (some false)
theorem Zdc.calls (A0 : Option Addr) (c0 : Nat) (l0 : List Int) (r : Bool) (w : World) (c : Kd.C (Kd.int .i64) w A0 l0.length l0) (d : l0.length ≤ c0) (h : Zdc.f l0 = some r) :
  Calls Tryd.prog 116 #[.slice A0 l0.length c0] w fun e w' => e = .returned (.bool r) ∧ Below w.heap.size w w' := by
 have g := mA c
 have i := mA d
 clear c d
 have HB := mA (Below.refl w.heap.size w)
 unfold Zdc.f at h
 have H := h
 clear h
 by_cases c2 : (l0.length : Int) ≤ 24; rotate_left
 ·rw [if_neg c2] at H
  have j := dF c2
  have k : decide (l0.length ≤ 24) = false := decide_eq_false (by omega)
  clear c2
  obtain rfl := oI H
  go_enter Tryd.func116, Tryd.ntmps116
  go_wp2
  go_ret
  exact ⟨eW, bW⟩
 rw [if_pos c2] at H
 have j := dT c2
 have k : decide (l0.length ≤ 24) = true := decide_eq_true (by omega)
 clear c2
 obtain ⟨a, A3, H⟩ := bA H
 obtain ⟨b, A4, H⟩ := bA H
 obtain ⟨l, A5, H⟩ := bA H
 obtain rfl := oI H
 go_enter Tryd.func116, Tryd.ntmps116
 go_wp2_with (first | (go_at_call 115; (with_reducible refine (Zbw.calls _ _ l0 a _ ?side1 ?side2 A3.out).mono ?_); (case side1 => exact cP g.out); (case side2 => exact i.out); rintro e w' ⟨rfl, ⟨nd, rfl⟩⟩) | (go_at_call 103; (with_reducible refine (Zc2.calls a b _ A4.out).mono ?_); rintro e w' ⟨rfl, ⟨nd, rfl⟩⟩) | (go_at_call 141; (with_reducible refine (impl_allIn.calls _ _ l0 0 (wrap64 (b - 1)) l _ ?side1 ?side2 A5.out).mono ?_); (case side1 => exact cP g.out); (case side2 => exact i.out); rintro e w6 ⟨rfl, hb⟩; replace HB := mA (Zaf (bW) hb); (try clear hb); (try clear hb2); (try clear hk); (try clear hi)))
 go_ret
 exact ⟨eW, bW⟩
end Go.Proofs.YtjdkedmdeajmgaaDoor.P
end M0
section M1
namespace Go.Proofs.YtjdkedmdeajmgaaDoor.P
open Go.RowKit Go.Proofs.YtjdkedmdeajmgaaDoor.Sh Go.Proofs.YtjdkedmdeajmgaaDoorW.PrintWords Go.Proofs.YtjdkedmdeajmgaaDoorW.PrintLast Go.Proofs.YtjdkedmdeajmgaaDoorW.PrintMore
open Kd
attribute [local go_sem] Zcf Zch Zcv Zcu Zb6 Zb7 Zcg Zce   -- for this text's walks alone
set_option linter.unusedVariables false
set_option linter.unusedSimpArgs false
def Zda.f (a0 : Int) : Option (Int) := if 0 ≤ a0 ∧ a0 < 18446744073709551616 then some ((Lib.ctz 64 a0.toNat : Nat) : Int) else none
set_option maxHeartbeats 1000000 in
theorem tz_core (x k idx : Nat) (w : World) (a : ((x : Int) == 0) = false)
    (key : IntKind.u64.wrap (bits BinOp.and IntKind.u64 (x : Int) (IntKind.u64.wrap (-(x : Int))) * 285870213051353865) / 288230376151711744 = (idx : Int))
    (hi : idx < 64) (hk : k < 64) (hcell : w.cell? ⟨0, idx, none⟩ = some (.int .u8 k)) :
    Calls Tryd.prog 156 #[.int .u64 x] w fun e w' => e = .returned (.int .i64 k) ∧ w' = w := by
  go_enter Tryd.func156, Tryd.ntmps156
  go_wp2_with (simp only [key])
  go_ret
  exact ⟨rfl, rfl⟩
theorem tz_zero (w : World) : Calls Tryd.prog 156 #[.int .u64 0] w fun e w' => e = .returned (.int .i64 64) ∧ w' = w := by
  go_enter Tryd.func156, Tryd.ntmps156
  go_wp2
  go_ret
  exact ⟨rfl, rfl⟩
theorem Zda.calls (a0 : Int) (r : Int) (w : World) (h : Zda.f a0 = some r) (hTab : Tab w) :
    Calls Tryd.prog 156 #[.int .u64 a0] w fun e w' => e = .returned (.int .i64 r) ∧ Zaw w w' := by
  unfold Zda.f at h
  by_cases hc : 0 ≤ a0 ∧ a0 < 18446744073709551616; rotate_left
  · rw [if_neg hc] at h
    cases h
  rw [if_pos hc] at h
  obtain rfl := Option.some.inj h
  obtain ⟨x, rfl⟩ := Int.eq_ofNat_of_zero_le hc.1
  rw [Int.toNat_natCast]
  have hx : x < 18446744073709551616 := by omega
  by_cases a : x = 0
  · subst a
    refine (tz_zero w).mono ?_
    rintro e w' ⟨rfl, rfl⟩
    exact ⟨rfl, Zaw.refl _⟩
  · obtain ⟨hlow, hk⟩ := Lib.lowest_bit 64 x a hx
    obtain ⟨hi, htab⟩ := Lib.deBruijn64_at _ hk
    have hcell := hTab _ hi
    rw [htab] at hcell
    refine (tz_core x _ _ w (by simp; omega) (tz64_key x _ hx a hlow) hi hk hcell).mono ?_
    rintro e w' ⟨rfl, rfl⟩
    refine ⟨?_, Zaw.refl _⟩
    unfold Lib.ctz
    rw [if_neg a]
def impl_least.f (a0 : Int) : Option (Int) := (Zda.f (IntKind.u64.wrap (a0))).bind fun a => (some a)
theorem impl_least.calls (a0 : Int) (r : Int) (w : World) (h : impl_least.f a0 = some r) (hTab : Tab w) :
  Calls Tryd.prog 138 #[.int .i64 a0] w fun e w' => e = .returned (.int .i64 r) ∧ Zaw w w' := by
 have HTab := mA hTab
 clear hTab
 unfold impl_least.f at h
 have H := h
 clear h
 obtain ⟨a, A2, H⟩ := bA H
 obtain rfl := oI H
 go_enter Tryd.func138, Tryd.ntmps138
 go_wp2_with (first | ((with_reducible refine Zax (f := 156) rfl ?_); refine Zbi (some 5) Tryd.func156 #[.int .u64 (IntKind.u64.wrap (a0))] ?_; (with_reducible refine (Zda.calls (IntKind.u64.wrap (a0)) a _ A2.out (tabW HTab.out)).mono ?_); rintro e w' ⟨rfl, ⟨nd, rfl⟩⟩; refine ⟨_, rfl, ?_⟩))
 go_ret
 exact ⟨eW, by repeat (first | exact Zaw.refl _ | apply Zaw.step)⟩
def Zb3.l0 : Nat → Int → List Int → Option (List Int)
 | 0, _, _ => none
 | k + 1, x0, x3 => if x0 = 0 then (some x3) else ((impl_least.f x0).bind fun a => (if x3.length < 17592186044416 then (Zb3.l0 k (Go.bits .and .i64 x0 (wrap64 (x0 - 1))) (x3 ++ [a])) else (none)))
def Zb3.f (k : Nat) (a0 : Int) : Option (List Int) := Zb3.l0 k a0 (([] : List Int))
theorem Zb3.calls (k : Nat) (a0 : Int) (r : List Int) (w : World) (h : Zb3.f k a0 = some r) (hTab : Tab w) :
  Calls Tryd.prog 102 #[.int .i64 a0] w fun e w' => ∃ q : Value, e = .returned (q) ∧ Kd.R (Kd.int .i64) 2 w' w.heap.size (fun _ => True) q r ∧ Below w.heap.size w w' := by
 have HTab := mA hTab
 clear hTab
 have HB := mA (Below.refl w.heap.size w)
 unfold Zb3.f at h
 have H := h
 clear h
 obtain ⟨n, d⟩ : ∃ y_ : List Int, y_ = (([] : List Int)) := ⟨_, rfl⟩
 replace H : (Zb3.l0 k a0 n) = some r := by rw [d]; with_reducible exact H
 have l := mA d
 clear d
 have H' := mA H
 clear H
 go_enter Tryd.func102, Tryd.ntmps102
 go_wp2_with (first | ((with_reducible refine Zat (N := 4) rfl ?_); refine yP (Kd.int .i64) _ 2 ?hg (N := 4) ?hd (xs := ([] : List Int)) (inner := []) (ok := fun _ => True) (okp := fun _ => True) ?hr ?hp (fun _ hk => hk) trivial (Below.refl _ _) (Nat.le_refl _) (by simp) ?_; (case hd => rfl); (case hg => rfl); (case hr => first | (go_simp; done) | (go_simp; rfl)); (case hp => exact (Reps.none _ _)); intro y w2 i hb hg_ hnew_; clear hg_ hnew_; (first | rw [← l.out] at i | (simp only [Int.reduceToNat] at i; rw [← l.out] at i)); have o := mA (zS i (Zaj (bW))); replace HB := mA (Zaf (bW) hb); clear hb i))
 go_loopg [0, 3] k (fun kq v0 v3 w' => ∃ (a : Int) (c : List Int), v0 = .int .i64 a ∧ Zac (Zb3.l0 kq a c = some r) ∧ Zac (kq ≤ k) ∧ Zac (Kd.R (Kd.int .i64) 2 w' w.heap.size (fun _ => True) v3 c) ∧ Zac (Below w.heap.size w w'))
 case atStart => exact ⟨(a0), (n), (eW), H', ⟨Nat.le_refl _⟩, ⟨rP o.out⟩, ⟨bW⟩⟩
 case round =>
  clear H'
  obtain ⟨a, c, rfl, HA, s, j, HB⟩ := hrel
  cases gk with
  | zero => exact absurd HA.out (by simp [Zb3.l0])
  | succ k1 =>
   have H := HA.out
   clear HA
   simp only [Zb3.l0] at H
   by_cases c4 : a = 0
   ·rw [if_pos c4] at H
    have t : (a == 0) = true := beq_iff_eq.mpr c4
    have u : (a != 0) = false := bne_eq_false_iff_eq.mpr c4
    clear c4
    obtain rfl := oI H
    go_wp2
    go_ret
    exact ⟨_, eW, (rP j.out), bW⟩
   rw [if_neg c4] at H
   have t : (a == 0) = false := beq_eq_false_iff_ne.mpr c4
   have u : (a != 0) = true := bne_iff_ne.mpr c4
   obtain ⟨g, A5, H⟩ := bA H
   by_cases c6 : c.length < 17592186044416; rotate_left
   ·rw [if_neg c6] at H
    exact absurd H (by simp)
   rw [if_pos c6] at H
   have v := mA c6
   clear c6
   obtain ⟨x, m⟩ := nm ((c ++ [g]) : List Int)
   rw [← m.out] at H
   have H' := mA H
   clear H
   go_wp2_with (first | ((with_reducible refine Zax (f := 138) rfl ?_); refine Zbi (some 13) Tryd.func138 #[.int .i64 a] ?_; (with_reducible refine (impl_least.calls a g _ A5.out (tabW HTab.out)).mono ?_); rintro e w' ⟨rfl, ⟨nd, rfl⟩⟩; refine ⟨_, rfl, ?_⟩) | ((with_reducible refine Za6 (b := .append) (xs := #[.tmp 11, .tmp 14]) rfl ?_); at_builtin; refine yO (Kd.int .i64) (w0 := w) w.heap.size rfl (.tmp 11) (.tmp 14) 22 2 (.int .i64 0) 8 rfl Tryd.underlying22 Zci rfl (by decide) (by omega) u3 c g [.int .i64 g] (fun _ => True) (fun _ => False) rfl rfl ?aP (fun _ hk => hk.elim) ?aF ?aO ?aB ?aS ?aL ?_; (case aP => exact rfl); (case aB => exact (bW)); (case aF => exact (fun _ _ => trivial)); (case aO => exact (rP j.out)); (case aS => exact (Zaj (bW))); (case aL => have := v.out; omega); intro z w7 ho hb hg hat; rw [← m.out] at ho; replace HB := mA (hb); have p := mA (ho); clear j ho hb hg hat))
   go_roundg k1
   case measure => have := s.out; omega
   case rel => exact ⟨(Go.bits .and .i64 a (wrap64 (a - 1))), (x), (eW), H', ⟨by have := s.out; omega⟩, ⟨rP p.out⟩, ⟨bW⟩⟩
mutual
def Za2.l0 : Nat → List Int → List Int → Int → Int → Option (List Int)
 | 0, _, _, _, _ => none
 | k + 1, x3, b, d, a => if a < d then (if 0 ≤ a then (if a < (b.length : Int) then ((Zb3.f k (rd b a)).bind fun c => (Za2.l1 k x3 a b d a c (c.length : Int) 0)) else (none)) else (none)) else (some x3)
def Za2.l1 : Nat → List Int → Int → List Int → Int → Int → List Int → Int → Int → Option (List Int)
 | 0, _, _, _, _, _, _, _, _ => none
 | k + 1, x3, x4, c, d, e, b, g, a => if a < g then (if 0 ≤ a then (if a < (b.length : Int) then (if 0 ≤ (rd b a) then (if (rd b a) < (x3.length : Int) then ((Zc2.f x4).bind fun h => (Za2.l1 k (x3.set ((rd b a) : Int).toNat (Go.bits .or .i64 (rd x3 (rd b a)) h)) x4 c d e b g (wrap64 (a + 1)))) else (none)) else (none)) else (none)) else (none)) else (Za2.l0 k x3 c d (wrap64 (e + 1)))
end
def Za2.f (k : Nat) (l0 : List Int) : Option (List Int) := if 0 ≤ (l0.length : Int) then (if ((l0.length : Int) : Int).toNat ≤ 35184372088832 then (Za2.l0 k (List.replicate ((l0.length : Int) : Int).toNat 0) l0 (l0.length : Int) 0) else (none)) else (none)
def Za2.T8 : Bool × List (List Nat × List Nat) := (true, [([], []), ([], []), ([0, 1], [0, 1]), ([2], [2]), ([], []), ([4], [4]), ([3, 5], [3, 5]), ([0, 1, 0, 1, 2, 3, 4, 5, 6], [0, 1]), ([7, 6, 5, 0, 1, 2, 3, 4, 5, 6], [6, 7])])
def Za2.B8 : List Nat := [0, 0, 3, 7, 0, 16, 63, 127, 255]
theorem Za2.tab8 : rtab .any (opsOf Tryd.f117 8) = Za2.T8 := by kernel_rfl
theorem Za2.bits8 : Zcb Za2.T8.2 Za2.B8 = true := by kernel_rfl
theorem Za2.calls (k : Nat) (A0 : Option Addr) (c0 : Nat) (l0 : List Int) (r : List Int) (w : World) (ah : Kd.C (Kd.int .i64) w A0 l0.length l0) (ai : l0.length ≤ c0) (h : Za2.f k l0 = some r) (hTab : Tab w) :
  Calls Tryd.prog 117 #[.slice A0 l0.length c0] w fun e w' => ∃ aj : Value, e = .returned (aj) ∧ Kd.R (Kd.int .i64) 2 w' w.heap.size (fun _ => True) aj r ∧ Below w.heap.size w w' := by
 have HTab := mA hTab
 clear hTab
 have aD := mA ah
 have aX := mA ai
 clear ah ai
 have HB := mA (Below.refl w.heap.size w)
 unfold Za2.f at h
 have H := h
 clear h
 by_cases c2 : 0 ≤ (l0.length : Int); rotate_left
 ·rw [if_neg c2] at H
  exact absurd H (by simp)
 rw [if_pos c2] at H
 have am := eq_true c2
 have an := dT c2
 clear c2
 by_cases c3 : ((l0.length : Int) : Int).toNat ≤ 35184372088832; rotate_left
 ·rw [if_neg c3] at H
  exact absurd H (by simp)
 rw [if_pos c3] at H
 have ao := eq_true c3
 have ap := dT c3
 clear c3
 obtain ⟨aq, q⟩ := nm ((List.replicate ((l0.length : Int) : Int).toNat 0) : List Int)
 rw [← q.out] at H
 have H' := mA H
 clear H
 go_enter Tryd.func117, Tryd.ntmps117
 go_wp2_with (first | ((with_reducible refine Zat (N := 10) rfl ?_); refine xB (Kd.int .i64) _ 2 rfl (N := 10) rfl 22 _ _ rfl (l0.length : Int) rfl rfl Tryd.underlying22 (.int .i64 0) 8 Zci rfl (by decide) (by omega) 0 (ok := fun _ => True) (okp := fun _ => True) rfl (fun _ hk => hk) trivial (ofD) (Nat.le_trans (Nat.mul_le_mul_right _ (ofD : (l0.length : Int).toNat ≤ 35184372088832)) (by omega)) (Below.refl _ _) (Nat.le_refl _) ?_; intro z w4 y hb hg_ hnew_; clear hg_ hnew_; (first | rw [← q.out] at y | (simp only [Int.reduceToNat] at y; rw [← q.out] at y)); have ae := mA (zS y (Zaj (bW))); replace HB := mA (Zaf (bW) hb); clear hb y))
 go_loopg [13] k (fun kq v13 w' => ∃ (s : List Int) (c : Int), v13 = .int .i64 c ∧ Zac (Za2.l0 kq s l0 (l0.length : Int) c = some r) ∧ Zac (kq ≤ k) ∧ Zac (Kd.R (Kd.int .i64) 2 w' w.heap.size (fun _ => True) z s) ∧ Zac (Below w.heap.size w w'))
 case atStart => exact ⟨(aq), (0), (eW), H', ⟨Nat.le_refl _⟩, ⟨rP ae.out⟩, ⟨bW⟩⟩
 case round =>
  clear H' am an ao ap
  obtain ⟨s, c, rfl, HA, I, d, HB⟩ := hrel
  cases gk with
  | zero => exact absurd HA.out (by simp [Za2.l0])
  | succ k1 =>
   have H := HA.out
   clear HA
   simp only [Za2.l0] at H
   by_cases c6 : c < (l0.length : Int); rotate_left
   ·rw [if_neg c6] at H
    have O := dF c6
    clear c6
    obtain rfl := oI H
    go_wp2
    go_ret
    exact ⟨_, eW, (rP d.out), bW⟩
   rw [if_pos c6] at H
   have O := dT c6
   clear c6
   obtain ⟨ar, H⟩ := gE H
   obtain ⟨au, H⟩ := gE H
   obtain ⟨b, A9, H⟩ := bA H
   have H' := mA H
   clear H
   have t : 0 ≤ (c : Int) := ofD
   have u : c < (l0.length : Int) := ofD
   obtain ⟨aK, av, j⟩ := zO aD.out c t u
   cases av
   replace j := (HB.out.cell (wB w j)).trans j
   replace t := eq_true t
   replace u := eq_true u
   go_wp2_with (first | ((with_reducible refine Zax (f := 102) rfl ?_); refine Zbi (some 19) Tryd.func102 #[.int .i64 (rd l0 c)] ?_; (with_reducible refine (Zb3.calls k1 (rd l0 c) b _ A9.out (tabW HTab.out)).mono ?_); rintro e aY ⟨aQ, rfl, P, hb⟩; refine ⟨_, rfl, ?_⟩; have J := mA (zS (yC P (zI (rP d.out))) (Zaj (bW))); replace d := mA (zZ (rP d.out) (zU P) hb); replace HB := mA (Zaf (bW) hb); (try clear hb); (try clear hb2); (try clear hk); (try clear hi); (try clear P); obtain ⟨T, U, aw⟩ := zP J.out; subst aw))
   go_loopg [21] k1 (fun kq v21 w' => ∃ (g : List Int) (a : Int), v21 = .int .i64 a ∧ Zac (Za2.l1 kq g c l0 (l0.length : Int) c b (b.length : Int) a = some r) ∧ Zac (kq ≤ k1) ∧ Zac (Kd.R (Kd.int .i64) 2 w' w.heap.size (fun k_ => some k_ ≠ ((.slice T b.length U) : Value).ownBlock) z g) ∧ Zac (Kd.R (Kd.int .i64) 2 w' w.heap.size (fun k_ => some k_ ≠ (z : Value).ownBlock) (.slice T b.length U) b) ∧ Zac (Below w.heap.size w w'))
   case atStart => exact ⟨(s), (0), (eW), H', ⟨Nat.le_refl _⟩, ⟨by (with_reducible repeat (first | apply zC | apply zD | apply zA)); exact zB d.out (fun _ hk => hk.2)⟩, ⟨by (with_reducible repeat (first | apply zC | apply zD | apply zA)); exact zB J.out (fun _ hk => hk.2)⟩, ⟨bW⟩⟩
   case round =>
    clear H' O ar au j t u
    obtain ⟨g, a, rfl, HA, L, d, l, HB⟩ := hrel
    cases gk with
    | zero => exact absurd HA.out (by simp [Za2.l1])
    | succ k2 =>
     have H := HA.out
     clear HA
     simp only [Za2.l1] at H
     by_cases o : a < (b.length : Int); rotate_left
     ·rw [if_neg o] at H
      have af := dF o
      clear o
      have H' := mA H
      clear H
      go_wp2
      go_roundg k2
      case measure => have := I.out; have := L.out; omega
      case rel => exact ⟨(g), (wrap64 (c + 1)), (eW), H', ⟨by have := I.out; have := L.out; omega⟩, ⟨by (with_reducible repeat (first | apply zC | apply zD | apply zA)); exact zB d.out (fun _ hk => trivial)⟩, ⟨bW⟩⟩
     rw [if_pos o] at H
     have af := dT o
     clear o
     obtain ⟨aL, H⟩ := gE H
     obtain ⟨aM, H⟩ := gE H
     obtain ⟨aN, H⟩ := gE H
     obtain ⟨aO, H⟩ := gE H
     obtain ⟨x, aE, H⟩ := bA H
     obtain ⟨ax, M⟩ := nm ((g.set ((rd b a) : Int).toNat (Go.bits .or .i64 (rd g (rd b a)) x)) : List Int)
     rw [← M.out] at H
     have H' := mA H
     clear H
     have A : 0 ≤ (a : Int) := ofD
     have B : a < (b.length : Int) := ofD
     obtain ⟨aP, ay, aC⟩ := zO (zJ l.out).2.2 a A B
     cases ay
     replace A := eq_true A
     replace B := eq_true B
     try go_wp2
     replace d := mA (zA d.out)
     replace l := mA (zA l.out)
     replace HB := mA (Za1 HB.out)
     obtain ⟨aR, aS, W⟩ := zP d.out
     (first | subst W | (injection W with ak aF al; have aG := ak.symm; have aH := al.symm; clear ak aF al; subst aG; subst aH))
     have D : 0 ≤ ((rd b a) : Int) := ofD
     have E : (rd b a) < (g.length : Int) := ofD
     obtain ⟨ag, az, m⟩ := zO (zJ d.out).2.2 (rd b a) D E
     cases az
     replace D := eq_true D
     replace E := eq_true E
     refine Zck (n := 9) (S := fun w' => w'.cell? (ag.add ((rd b a)).toNat) = some (.int .i64 (rd g (rd b a)))) (ds := [8]) #[false, false, false, false, false, false, false, false, false] (by kernel_rfl) rfl rfl (m) (fun hHeld => ?_); refine Zb5 Za2.tab8 Za2.bits8 (fun HT_ HW_ => ?_)
     generalize wr.drew = w19 at d l HB m hHeld ⊢
     refine Zas (i := 0) (N := some 25) (Zap HT_.out (by kernel_rfl)) ?_
     refine Zas (i := 1) (N := some 26) (Zap HT_.out (by kernel_rfl)) ?_
     refine Zas (i := 2) (N := some 27) (Zap HT_.out (by kernel_rfl)) ?_
     refine Zas (i := 4) (N := some 29) (Zap HT_.out (by kernel_rfl)) ?_
     refine take_ (i := 3) (N := some 28) (v := ?_) (a' := ?_) #[true, true, true, true, true, false, false, false, false] rfl rfl (Za0 HT_.out HW_.out (by kernel_rfl)) (fun _ _ _ h => h) (Or.inl ⟨by rfl, ?_⟩) hHeld ?_ ?_
     rotate_left
     ·intro w' s0
      go_simp
      with_reducible rfl
     rotate_left
     ·simp only [Act.put, List.setIfInBounds_toArray, List.set_cons_zero, List.set_cons_succ, Zcq, i32_w]
      rfl
     refine one_ (i := 5) (N := some 30) #[true, true, true, true, true, true, false, false, false] rfl rfl (Zbe HT_.out (by kernel_rfl)) (by decide) (fun K hK => ?_)
     refine goes_ Tryd.func103 (by kernel_rfl) rfl #[.int .i64 c] (by rfl) rfl rfl (by (try simp only [List.map_toArray, List.map_cons, List.map_nil]); first | done | rfl | (simp only [List.length_drop, List.length_take]; rfl)) ?_
     with_reducible refine (Zc2.calls c x _ aE.out).mono ?_
     rintro e w' ⟨rfl, ⟨nd, rfl⟩⟩
     refine ⟨_, rfl, ?_⟩
     have X : 0 ≤ ((rd b a) : Int) := ofD
     have Y : ((rd b a) : Int) < ((g.length : Int) : Int) := ofD
     obtain ⟨aa, aT, ab, ac, aA, aU, ad⟩ := yK d.out (by omega)
     (first | cases ab | (injection ab with ea_ en_ ec_; (first | subst ea_ | (injection ea_ with ea_; subst ea_)); subst ec_; clear en_))
     have aV := mA ac
     have aW := mA ad
     clear ac aA ad
     (first | simp only [Zcm] at m | skip)
     obtain ⟨aI, aJ⟩ := yF 0 d.out ((rd b a) : Int) X Y
     replace X := eq_true X
     replace Y := eq_true Y
     have G := Kd.R_putn d.out ((rd b a) : Int) (Go.bits .or .i64 (rd g (rd b a)) x)
     rw [← M.out] at G
     have aB := mA G
     clear G
     refine hK.out _ _ (hHeld) (fun hHeld => ?_)
     clear hK K
     refine putS 30 ?_
     refine Zas (i := 6) (N := some 31) (Zap HT_.out (by kernel_rfl)) ?_
     refine Zas (i := 7) (N := some 32) (Zap HT_.out (by kernel_rfl)) ?_
     refine last_ (i := 8) (N := none) #[true, true, true, true, true, true, true, true, true] rfl rfl (Zbe HT_.out (by kernel_rfl)) (by decide) (fun K hK => ?_)
     refine skip_ (w1 := ?_) (by rfl) rfl ?_ ?_
     rotate_left
     ·go_simp
      rfl
     refine hK.out _ _ ?_
     clear hK K
     refine done_ (Zcs HT_.out (by kernel_rfl)) ?_
     try go_wp2
     go_roundg k2
     case measure => have := I.out; have := L.out; omega
     case rel => exact ⟨(ax), (wrap64 (a + 1)), (eW), H', ⟨by have := I.out; have := L.out; omega⟩, ⟨rP aB.out⟩, ⟨by (with_reducible repeat (first | apply zC | apply zD | apply zA)); exact zB (zF (p := ⟨aa, ((rd b a) : Int).toNat, none⟩) (zB l.out (fun k_ hk => (⟨hk, fun e_ => hk (by rw [e_]; rfl)⟩ : _ ∧ k_ ≠ aa))) (fun _ hk => hk.2) (.int .i64 (Go.bits .or .i64 (rd g (rd b a)) x))) (fun _ hk => hk.1)⟩, ⟨bW⟩⟩
end Go.Proofs.YtjdkedmdeajmgaaDoor.P
end M1
