import Derived.Maps.OwnSet
import Derived.Test.YtgindgodfcfgkaaCFnExactResidualOf2
set_option maxHeartbeats 8000000
set_option maxRecDepth 100000
section M0
namespace Go.Proofs.Ytgindgodfcfgkaa.P
open Go.RowKit Go.Proofs.Ytgindgodfcfgkaa.Sh Go.Proofs.YtgindgodfcfgkaaW.PrintWords Go.Proofs.YtgindgodfcfgkaaW.PrintLast Go.Proofs.YtgindgodfcfgkaaW.PrintMore
open Kd
attribute [local go_sem] Zcc Zcd Zck Zcl Zb2 Zb3 Zce Zcb   -- for this text's walks alone
set_option linter.unusedVariables false
set_option linter.unusedSimpArgs false
/-- Where the first element of which p holds lies, or -1. -/
def fidx {α : Type} (p : α → Bool) (l : List α) : Int := match l.findIdx? p with | some i => i | none => -1
theorem fidx_hit {α : Type} {p : α → Bool} {l : List α} {k : Nat} (hk : k < l.length) (h : p l[k] = true) (hb : ∀ j (hj : j < k), p (l[j]'(by omega)) = false) : fidx p l = k := by
  have : l.findIdx? p = some k := by
    rw [List.findIdx?_eq_some_iff_getElem]
    exact ⟨hk, h, fun j hj => by simp [hb j hj]⟩
  unfold fidx; rw [this]
theorem fidx_miss {α : Type} {p : α → Bool} {l : List α} (hb : ∀ j (hj : j < l.length), p l[j] = false) : fidx p l = -1 := by
  have : l.findIdx? p = none := by
    rw [List.findIdx?_eq_none_iff]
    intro x hx
    obtain ⟨j, hj, rfl⟩ := List.getElem_of_mem hx
    exact hb j hj
  unfold fidx; rw [this]
theorem fidx_nonneg {α : Type} (p : α → Bool) (l : List α) : decide (0 ≤ fidx p l) = l.any p := by
  unfold fidx
  cases h : l.findIdx? p with
  | none =>
    rw [List.findIdx?_eq_none_iff] at h
    have : l.any p = false := by rw [List.any_eq_false]; intro x hx; simp [h x hx]
    rw [this]; rfl
  | some i =>
    rw [List.findIdx?_eq_some_iff_getElem] at h
    obtain ⟨hi, hp, _⟩ := h
    have : l.any p = true := List.any_eq_true.2 ⟨_, List.getElem_mem hi, hp⟩
    rw [this]
    show decide (0 ≤ (i : Int)) = true
    simp
theorem rd_get {l : List Int} {k : Nat} (hk : k < l.length) : rd l (k : Int) = l[k] := by
  unfold rd; rw [List.getD_eq_getElem?_getD, Int.toNat_natCast, List.getElem?_eq_getElem hk]; rfl
def mfind {K V : Type} [DecidableEq K] : List (K × V) → K → Nat → Option (Nat × V)
  | [], _, _ => none
  | p :: l, k, i => if k = p.1 then some (i, p.2) else mfind l k (i + 1)
def mget {K V : Type} [DecidableEq K] (z : V) (L : List (K × V)) (k : K) : V := ((mfind L k 0).map (·.2)).getD z
def mhas {K V : Type} [DecidableEq K] (L : List (K × V)) (k : K) : Bool := (mfind L k 0).isSome
def mset {K V : Type} [DecidableEq K] (L : List (K × V)) (k : K) (v : V) : List (K × V) := match mfind L k 0 with
  | some (i, _) => L.set i (k, v)
  | none => L ++ [(k, v)]
def mentry {K V : Type} (eK : K → Value) (eV : V → Value) (p : (K × V) × Nat) : MapEntry := { key := eK p.1.1, val := eV p.1.2, born := p.2 }
def mobj {K V : Type} (eK : K → Value) (eV : V → Value) (L : List (K × V)) : Obj := .map (L.zipIdx.map (mentry eK eV)).toArray L.length
/-- A kind of keys that are told apart at once. -/
structure MKey (K : Type) [DecidableEq K] (eK : K → Value) (d : TypeDesc) : Prop where
  same : ∀ a b, Instr.sameNow d (eK a) (eK b) = some (decide (a = b))
  check : ∀ (P : Program) (t : TypeId) (e : Bool) (a : K) (W : World), P.underlying t = some d → (Instr.checkKey e 10000 t (eK a)).run P W = .ok () W
  bits : ∀ a, Instr.sameBits 10000 (eK a) (eK a) = true
theorem mkey_int (k : IntKind) : MKey Int (Value.int k) (.int k) where
  same a b := by
    simp only [Instr.sameNow, if_true]
    rfl
  check P t e a W h := by
    rw [Instr.checkKey]
    simp [run_underlying h, Result.andThen]
  bits a := by simp [Instr.sameBits]
theorem mkey_str : MKey ByteArray Value.string .string where
  same a b := by
    simp only [Instr.sameNow]
    congr 1
    rw [Bool.eq_iff_iff, MapKept.bytes_beq, decide_eq_true_iff]
  check P t e a W h := by
    rw [Instr.checkKey]
    simp [run_underlying h, Result.andThen]
  bits a := by
    rw [Instr.sameBits]
    exact (MapKept.bytes_beq a a).2 rfl
section
variable {K V : Type} [DecidableEq K] {eK : K → Value} {eV : V → Value} {d : TypeDesc}
theorem mfind_run (hk : MKey K eK d) (k : K) : ∀ (L : List (K × V)) (i j : Nat), Instr.findNow d (eK k) ((L.zipIdx i).map (mentry eK eV)) j = some ((mfind L k j).map fun p => (p.1, eV p.2))
  | [], _, _ => rfl
  | p :: L, i, j => by
    rw [List.zipIdx_cons, List.map_cons, Instr.findNow]
    simp only [mentry]
    rw [hk.same]
    unfold mfind
    by_cases h : k = p.1
    · rw [if_pos h, decide_eq_true h]
      rfl
    · rw [if_neg h, decide_eq_false h]
      exact mfind_run hk k L (i + 1) (j + 1)
theorem mfind_lt (k : K) : ∀ (L : List (K × V)) (j i : Nat) (v : V), mfind L k j = some (i, v) → j ≤ i ∧ L[i - j]? = some (k, v)
  | [], _, _, _, h => by simp [mfind] at h
  | p :: L, j, i, v, h => by
    unfold mfind at h
    by_cases hc : k = p.1
    · rw [if_pos hc] at h
      simp only [Option.some.injEq, Prod.mk.injEq] at h
      obtain ⟨rfl, rfl⟩ := h
      exact ⟨Nat.le_refl _, by simp [hc]⟩
    · rw [if_neg hc] at h
      obtain ⟨h1, h2⟩ := mfind_lt k L (j + 1) i v h
      refine ⟨by omega, ?_⟩
      rw [show i - j = (i - (j + 1)) + 1 by omega, List.getElem?_cons_succ]
      exact h2
variable {P : Program} {W : World} {g : Nat} {L : List (K × V)} {t kt et : TypeId}
theorem mlook_run (hk : MKey K eK d) (hb : W.heap[g]? = some (mobj eK eV L)) (ht : P.underlying t = some (.map kt et)) (hd : P.underlying kt = some d) {z : V} (hz : (zeroValue et).run P W = .ok (eV z) W) (k : K) :
    (Instr.lookup t (.map (some g)) (eK k) true).run P W = .ok (.tuple #[eV (mget z L k), .bool (mhas L k)]) W := by
  have hf := mfind_run hk (eV := eV) k L 0 0
  have hd' : Instr.findNow d (eK k) (L.zipIdx.map (mentry eK eV)).toArray.toList 0 = some ((mfind L k 0).map fun p => (p.1, eV p.2)) := hf
  unfold mget mhas
  cases hm : mfind L k 0 with
  | none =>
    rw [hm] at hd'
    simp only [Option.map_none] at hd'
    simp [Instr.lookup, Instr.findKey, run_underlying ht, run_underlying hd, MapKept.run_getObj_map hb, hk.check P kt _ k W hd, hd', hz, Result.andThen]
  | some p =>
    rw [hm] at hd'
    simp only [Option.map_some] at hd'
    simp [Instr.lookup, Instr.findKey, run_underlying ht, run_underlying hd, MapKept.run_getObj_map hb, hk.check P kt _ k W hd, hd', Result.andThen]
end
section
variable {K V : Type} [DecidableEq K] {eK : K → Value} {eV : V → Value} {d : TypeDesc} {P : Program} {W : World} {g : Nat} {L : List (K × V)} {t kt et : TypeId}
theorem mset_run (hk : MKey K eK d) (hb : W.heap[g]? = some (mobj eK eV L)) (ht : P.underlying t = some (.map kt et)) (hd : P.underlying kt = some d) (k : K) (v : V) :
    (Instr.mapUpdate t (.map (some g)) (eK k) (eV v)).run P W = .ok () (ChangeMaps.setBlock W g (mobj eK eV (mset L k v))) := by
  have hf := mfind_run hk (eV := eV) k L 0 0
  have hd' : Instr.findNow d (eK k) (L.zipIdx.map (mentry eK eV)).toArray.toList 0 = some ((mfind L k 0).map fun p => (p.1, eV p.2)) := hf
  unfold mset
  cases hm : mfind L k 0 with
  | none =>
    rw [hm] at hd'
    simp only [Option.map_none] at hd'
    have e : mobj eK eV (L ++ [(k, v)]) = .map ((L.zipIdx.map (mentry eK eV)).toArray.push { key := eK k, val := eV v, born := L.length }) (L.length + 1) := by
      unfold mobj
      rw [List.zipIdx_append, List.map_append, List.length_append]
      simp [mentry]
    simp only [e]
    simp [Instr.mapUpdate, Instr.findKey, run_underlying ht, run_underlying hd, MapKept.run_getObj_map hb, hk.check P kt _ k W hd, hd', MapKept.run_setObj_map _ hb, Result.andThen, ChangeMaps.setBlock]
  | some p =>
    obtain ⟨i, u⟩ := p
    rw [hm] at hd'
    simp only [Option.map_some] at hd'
    obtain ⟨_, hi⟩ := mfind_lt k L 0 i u hm
    rw [Nat.sub_zero] at hi
    obtain ⟨hil, hie⟩ := List.getElem?_eq_some_iff.1 hi
    have e : mobj eK eV (L.set i (k, v)) = .map ((L.zipIdx.map (mentry eK eV)).toArray.modify i fun e => { e with key := eK k, val := eV v }) L.length := by
      unfold mobj
      rw [List.length_set]
      congr 1
      apply Array.ext_getElem?
      intro j
      simp only [List.getElem?_toArray, Array.getElem?_modify, List.getElem?_map, List.getElem?_zipIdx, List.getElem?_set]
      by_cases hij : i = j
      · subst hij
        simp [hil, mentry]
      · simp [hij]
    have hstay : (Instr.keyThatStays (eK k) (eK k)).run P W = .ok (eK k) W := by
      simp [Instr.keyThatStays, hk.bits]
    simp only [e]
    simp [Instr.mapUpdate, Instr.findKey, run_underlying ht, run_underlying hd, MapKept.run_getObj_map hb, hk.check P kt _ k W hd, hd', hi, show (mentry eK eV ((k, u), i)).key = eK k from rfl, hstay, MapKept.run_setObj_map _ hb, Result.andThen, ChangeMaps.setBlock]
end
section
variable {K V : Type} {eK : K → Value} {eV : V → Value} {d : TypeDesc} {P : Program} {W : World} {t kt et : TypeId}
variable {ops : Array Oper} {o : Oper} {rest : List Oper} {a : Act} {Q : Exit → Act → World → Prop} {Kc : Act → World → Prop}
theorem gate_mset {p k v : Operand} (_ho : o.op = .mapUpdate t p k v) (h : wpList P ops Q (o :: rest) a W) : wpList P ops Q (o :: rest) a W := h
theorem mapS_step (eK : K → Value) (eV : V → Value) (hw : Region.wanted o (yielded ops a.tmps) = true)
    (h : ∀ g, g = W.heap.size → ∀ w1, w1.heap[g]? = some (mobj eK eV ([] : List (K × V))) → Below W.heap.size W w1 → Kc (a.put o.dst (.map (some g))) w1)
    (ho : o.op = .makeMap t none := by rfl) : if Region.wanted o (yielded ops a.tmps) = true then Oper.wp P o a W Kc Q else Kc (a.put o.dst undef) W :=
  event_step hw (show (execOp a.eval o).run P W = .ok (.value (.map (some W.heap.size))) (W.alloc (.map #[] 0)) by simp [execOp, ho, run_makeMap, Result.andThen]) (h _ rfl _ (blk_new W _) (Zbe (Below.refl _ _) _))
theorem mgetS [DecidableEq K] {g : Nat} {L : List (K × V)} (z : V) (k : K) {m x : Operand} (hk : MKey K eK d) (hb : W.heap[g]? = some (mobj eK eV L)) (ht : P.underlying t = some (.map kt et)) (hd : P.underlying kt = some d) (hz : (zeroValue et).run P W = .ok (eV z) W)
    (h : wpList P ops Q rest (a.put o.dst (.tuple #[eV (mget z L k), .bool (mhas L k)])) W)
    (ho : o.op = .lookup t m x true := by rfl) (hgd : o.guard = none := by rfl) (hm : a.eval m = .map (some g) := by first | rfl | (go_simp; done) | (go_simp; rfl)) (hx : a.eval x = eK k := by first | rfl | (go_simp; done) | (go_simp; rfl)) : wpList P ops Q (o :: rest) a W := by
  refine wpList_plain hgd fun K' hK' => ?_
  unfold Oper.wp
  simp [execOp, ho, hm, hx, mlook_run hk hb ht hd hz k, Result.andThen]
  exact hK' _ _ h
theorem mlenS {g : Nat} {L : List (K × V)} {m : Operand} (hb : W.heap[g]? = some (mobj eK eV L)) (ht : P.underlying t = some (.map kt et))
    (h : wpList P ops Q rest (a.put o.dst (.int .i64 (L.length : Int))) W)
    (ho : o.op = .call { callee := .builtin .len, args := #[m], argTypes := #[t] } := by rfl) (hgd : o.guard = none := by rfl) (hm : a.eval m = .map (some g) := by first | rfl | (go_simp; done) | (go_simp; rfl)) : wpList P ops Q (o :: rest) a W := by
  have hrun : (Builtin.len_ #[t] o.type #[.map (some g)]).run P W = .ok (.int .i64 (L.length : Int)) W := by
    simp [Builtin.len_, run_underlying ht, MapKept.run_getObj_map hb, goInt, Result.andThen]
  refine wpList_plain hgd fun K' hK' => ?_
  unfold Oper.wp
  simp [execOp, ho, resolve, invoke, builtin, hm, hrun, Result.andThen]
  exact hK' _ _ h
theorem msetS [DecidableEq K] {g : Nat} {L : List (K × V)} (k : K) (v : V) {m x y : Operand} (hk : MKey K eK d) (hb : W.heap[g]? = some (mobj eK eV L)) (ht : P.underlying t = some (.map kt et)) (hd : P.underlying kt = some d)
    (h : ∀ w2, w2.heap[g]? = some (mobj eK eV (mset L k v)) → W.grownBy w2 (some g) → wpList P ops Q rest a w2)
    (ho : o.op = .mapUpdate t m x y ∨ o.op = .insert t m x y := by first | exact Or.inl rfl | exact Or.inr rfl) (hN : o.dst = none := by rfl) (hgd : o.guard = none := by rfl) (hm : a.eval m = .map (some g) := by first | rfl | (go_simp; done) | (go_simp; rfl)) (hx : a.eval x = eK k := by first | rfl | (go_simp; done) | (go_simp; rfl)) (hy : a.eval y = eV v := by first | rfl | (go_simp; done) | (go_simp; rfl)) : wpList P ops Q (o :: rest) a W := by
  have hrun := mset_run (P := P) (t := t) (kt := kt) (et := et) hk hb ht hd k v
  have h2 := h _ (ChangeMaps.heap_setBlock_same hb _) ⟨rfl, rfl, rfl, by simp [ChangeMaps.setBlock], fun i _ hi => ChangeMaps.heap_setBlock_other hb _ (fun e => hi (by rw [e]))⟩
  refine wpList_plain hgd fun K' hK' => ?_
  unfold Oper.wp
  rcases ho with ho | ho
  · simp [execOp, ho, hm, hx, hy, hrun, Result.andThen]
    show K' (a.put o.dst undef) _
    rw [hN]
    exact hK' _ _ h2
  · simp [execOp, ho, hm, hx, hy, hrun, Result.andThen]
    show K' (a.put o.dst undef) _
    rw [hN]
    exact hK' _ _ h2
theorem msetS_step [DecidableEq K] {g : Nat} {L : List (K × V)} (k : K) (v : V) {m x y : Operand} (hw : Region.wanted o (yielded ops a.tmps) = true) (hk : MKey K eK d) (hb : W.heap[g]? = some (mobj eK eV L)) (ht : P.underlying t = some (.map kt et)) (hd : P.underlying kt = some d)
    (h : ∀ w2, w2.heap[g]? = some (mobj eK eV (mset L k v)) → W.grownBy w2 (some g) → Kc a w2) (hN : o.dst = none := by rfl)
    (ho : o.op = .mapUpdate t m x y ∨ o.op = .insert t m x y := by first | exact Or.inl rfl | exact Or.inr rfl) (hm : a.eval m = .map (some g) := by first | rfl | (go_simp; done) | (go_simp; rfl)) (hx : a.eval x = eK k := by first | rfl | (go_simp; done) | (go_simp; rfl)) (hy : a.eval y = eV v := by first | rfl | (go_simp; done) | (go_simp; rfl)) :
    if Region.wanted o (yielded ops a.tmps) = true then Oper.wp P o a W Kc Q else Kc (a.put o.dst undef) W := by
  have hrun := mset_run (P := P) (t := t) (kt := kt) (et := et) hk hb ht hd k v
  have h2 := h _ (ChangeMaps.heap_setBlock_same hb _) ⟨rfl, rfl, rfl, by simp [ChangeMaps.setBlock], fun i _ hi => ChangeMaps.heap_setBlock_other hb _ (fun e => hi (by rw [e]))⟩
  rw [if_pos hw]
  unfold Oper.wp
  rcases ho with ho | ho
  · simp [execOp, ho, hm, hx, hy, hrun, Result.andThen]
    show Kc (a.put o.dst undef) _
    rw [hN]
    exact h2
  · simp [execOp, ho, hm, hx, hy, hrun, Result.andThen]
    show Kc (a.put o.dst undef) _
    rw [hN]
    exact h2
end
/-- What is held beside a map that is written. -/
theorem Kd.R_mset {α K V : Type} {eK : K → Value} {eV : V → Value} {L : List (K × V)} {dd : Kd α} {e base g : Nat} {ok : Nat → Prop} {v : Value} {xs : List α} {W w2 : World} (h : dd.R e W base ok v xs) (hb : W.heap[g]? = some (mobj eK eV L)) (hg : W.grownBy w2 (some g)) : dd.R e w2 base ok v xs :=
  Kd.zC (Kd.xH (Kd.yW h) (fun k hk => hg.block k hk.2.2.1 (fun e_ => by
    obtain ⟨_, _, _, q, hq, cells, hc⟩ := hk
    injection e_ with e_
    subst e_
    rw [hb] at hc
    cases hc))) (fun _ hk => hk.1)
theorem Kd.S_mset {α K V : Type} {eK : K → Value} {eV : V → Value} {L : List (K × V)} {dd : Kd α} {e base g : Nat} {ok : Nat → Prop} {v : Value} {xs : List α} {W w2 : World} (h : Kd.S dd e W base ok v xs) (hb : W.heap[g]? = some (mobj eK eV L)) (hg : W.grownBy w2 (some g)) : Kd.S dd e w2 base ok v xs :=
  Kd.zF (Kd.S_move (Kd.S_bound h) (fun k hk => hg.block k hk.2.2.1 (fun e_ => by
    obtain ⟨_, _, _, q, hq, cells, hc⟩ := hk
    injection e_ with e_
    subst e_
    rw [hb] at hc
    cases hc))) (fun _ hk => hk.1)
theorem Kd.R_nem {α K V : Type} {eK : K → Value} {eV : V → Value} {L : List (K × V)} {dd : Kd α} {e base g : Nat} {ok : Nat → Prop} {v : Value} {xs : List α} {w : World} (h : dd.R e w base ok v xs) (hb : w.heap[g]? = some (mobj eK eV L)) : some g ≠ v.ownBlock := by
  intro e_
  obtain ⟨_, inner, ho, _⟩ := h
  obtain ⟨cells, hc⟩ := own_typed ho g e_.symm
  rw [hb] at hc
  cases hc
theorem Kd.S_nem {α K V : Type} {eK : K → Value} {eV : V → Value} {L : List (K × V)} {dd : Kd α} {e base g : Nat} {ok : Nat → Prop} {v : Value} {xs : List α} {w : World} (h : Kd.S dd e w base ok v xs) (hb : w.heap[g]? = some (mobj eK eV L)) : some g ≠ v.ownBlock := Kd.R_nem (Kd.S_R h) hb
theorem Zcu {w : World} {g : Nat} {o : Obj} (h : w.heap[g]? = some o) {p : Addr} (hp : g ≠ p.block) (u : Value) : (w.setCell p u).heap[g]? = some o := (Below.heap_setCell w p u g hp).trans h
theorem cell_mset {K V : Type} {eK : K → Value} {eV : V → Value} {L : List (K × V)} {W w2 : World} {g : Nat} (hg : W.grownBy w2 (some g)) (hb : W.heap[g]? = some (mobj eK eV L)) {p : Addr} {u : Value} (h : W.cell? p = some u) : w2.cell? p = some u :=
  hg.cell h (fun e_ => by
    injection e_ with e_
    unfold World.cell? at h
    rw [e_, hb] at h
    cases h)
def OwnZ (w : World) (base : Nat) (e : TypeId) (size : Nat) (v : Value) (n : Nat) (xs : List Value) : Prop :=
  xs.length = n * size ∧ ((v = .slice none 0 0 ∧ n = 0) ∨ ∃ g cap cur fz, v = .slice (some ⟨g, 0, none⟩) n cap ∧ base ≤ g ∧ w.heap[g]? = some (.cells cur e fz) ∧ (fz = (0, 0) ∨ cur.size ≤ fz.1) ∧ n ≤ cap ∧ cap ≤ maxLen ∧ cur.size = cap * size ∧ cur.toList.take (n * size) = xs)
/-- Elements without rows inside. -/
def Kd.Z {α : Type} (d : Kd α) (e : Nat) (w : World) (base : Nat) (ok : Nat → Prop) (v : Value) (xs : List α) : Prop :=
  (∀ k, v.ownBlock = some k → ok k) ∧ ∃ inner, OwnZ w base e d.sz v xs.length inner ∧ Reps (fun x cs => ∀ w' b' ok', d.M w' b' ok' x cs) d.sz xs inner
section
variable {α : Type} {d : Kd α} {e : Nat} {w W w1 : World} {base : Nat} {ok ok' : Nat → Prop} {v u : Value} {xs : List α}
theorem OwnZ.blk {size n : Nat} {inner : List Value} (h : OwnZ w base e size v n inner) : ∀ k, v.ownBlock = some k → base ≤ k ∧ ∃ cells fz, w.heap[k]? = some (.cells cells e fz) := by
  intro k hk
  rcases h.2 with ⟨rfl, _⟩ | ⟨g, cap, cur, fz, rfl, hg, hh, _⟩
  · simp [Value.ownBlock] at hk
  · have : g = k := by simpa [Value.ownBlock] using hk
    subst this
    exact ⟨hg, cur, fz, hh⟩
theorem OwnZ.move {size n : Nat} {inner : List Value} (h : OwnZ w base e size v n inner) (hm : ∀ k, v.ownBlock = some k → w1.heap[k]? = w.heap[k]?) : OwnZ w1 base e size v n inner := by
  refine ⟨h.1, ?_⟩
  rcases h.2 with h2 | ⟨g, cap, cur, fz, rfl, hg, hh, r⟩
  · exact .inl h2
  · exact .inr ⟨g, cap, cur, fz, rfl, hg, (hm g (by simp [Value.ownBlock])).trans hh, r⟩
theorem Kd.Z_typed (h : Kd.Z d e w base ok v xs) : ∀ k, v.ownBlock = some k → ∃ cells fz, w.heap[k]? = some (.cells cells e fz) := by
  obtain ⟨_, inner, ho, _⟩ := h
  exact fun k hk => (ho.blk k hk).2
theorem Kd.Z_base (h : Kd.Z d e w base ok v xs) : ∀ k, v.ownBlock = some k → base ≤ k := by
  obtain ⟨_, inner, ho, _⟩ := h
  exact fun k hk => (ho.blk k hk).1
theorem Kd.Z_lt (h : Kd.Z d e w base ok v xs) : ∀ k, v.ownBlock = some k → k < w.heap.size := by
  intro k hk
  obtain ⟨cells, fz, hc⟩ := Kd.Z_typed h k hk
  exact blk_lt hc
theorem Kd.Z_mono (h : Kd.Z d e w base ok v xs) (hok : ∀ k, ok k → ok' k) : Kd.Z d e w base ok' v xs := ⟨fun k hk => hok k (h.1 k hk), h.2⟩
theorem Kd.Z_step (h : Kd.Z d e w base ok v xs) (hm : ∀ k, v.ownBlock = some k → w1.heap[k]? = w.heap[k]?) : Kd.Z d e w1 base ok v xs := by
  obtain ⟨h0, inner, ho, hr⟩ := h
  exact ⟨h0, inner, ho.move hm, hr⟩
theorem Kd.Z_below (h : Kd.Z d e w base ok v xs) (hb : Below w.heap.size w w1) : Kd.Z d e w1 base ok v xs := Kd.Z_step h fun k hk => hb.block k (Kd.Z_lt h k hk)
theorem Kd.Z_alloc (h : Kd.Z d e w base ok v xs) (o : Obj) : Kd.Z d e (w.alloc o) base ok v xs := Kd.Z_below h (Zbe (Below.refl _ _) o)
theorem Kd.Z_drew (h : Kd.Z d e w base ok v xs) : Kd.Z d e w.drew base ok v xs := Kd.Z_below h (below_drew (Below.refl _ _))
theorem Kd.Z_drewN (h : Kd.Z d e w base ok v xs) (m : Nat) : Kd.Z d e (w.drewN m) base ok v xs := Kd.Z_below h (Zbd (Below.refl _ _) m)
theorem Kd.Z_lower {base' : Nat} (h : Kd.Z d e w base ok v xs) (hb : base' ≤ base) : Kd.Z d e w base' ok v xs := by
  obtain ⟨h0, inner, ⟨hl, hc⟩, hr⟩ := h
  refine ⟨h0, inner, ⟨hl, ?_⟩, hr⟩
  rcases hc with h2 | ⟨g, cap, cur, fz, hv, hg, r⟩
  · exact .inl h2
  · exact .inr ⟨g, cap, cur, fz, hv, Nat.le_trans hb hg, r⟩
theorem Kd.Z_elder' (h : Kd.Z d e W base ok u xs) (hbase : ∀ k, v.ownBlock = some k → W.heap.size ≤ k) (hb : Below W.heap.size W w1) : Kd.Z d e w1 base (fun k => ok k ∧ some k ≠ v.ownBlock) u xs := by
  have h1 := Kd.Z_below h hb
  exact ⟨fun k hk => ⟨h.1 k hk, fun e_ => by have := hbase k e_.symm; have := Kd.Z_lt h k hk; omega⟩, h1.2⟩
theorem Kd.Z_new' (h : Kd.Z d e w1 W.heap.size ok v xs) (hlt : ∀ k, u.ownBlock = some k → k < W.heap.size) : Kd.Z d e w1 W.heap.size (fun k => ok k ∧ some k ≠ u.ownBlock) v xs :=
  ⟨fun k hk => ⟨h.1 k hk, fun e_ => by have := hlt k e_.symm; have := Kd.Z_base h k hk; omega⟩, h.2⟩
theorem Kd.Z_after {v1 : Value} (h : Kd.Z d e W base (fun k => ok k ∧ some k ≠ v.ownBlock) u xs) (hg : W.grownBy w1 v.ownBlock) (hat : v1.ownBlock = v.ownBlock ∨ ∃ b, v1.ownBlock = some b ∧ W.heap.size ≤ b) : Kd.Z d e w1 base (fun k => ok k ∧ some k ≠ v1.ownBlock) u xs := by
  have h1 := Kd.Z_step (w1 := w1) h fun k hk => hg.block k (Kd.Z_lt h k hk) (h.1 k hk).2
  refine ⟨fun k hk => ⟨(h.1 k hk).1, ?_⟩, h1.2⟩
  rcases hat with hat | ⟨b, hb, hle⟩
  · rw [hat]; exact (h.1 k hk).2
  · rw [hb]
    intro he
    injection he with he
    have := Kd.Z_lt h k hk
    omega
theorem Kd.Z_over' {e' : Nat} (h : Kd.Z d e W base ok u xs) (hty : ∀ k, v.ownBlock = some k → ∃ cells, W.heap[k]? = some (.cells cells e' (0, 0))) (ht : ∀ q, q ∈ e :: d.E → q ≠ e') (hg : W.grownBy w1 v.ownBlock) : Kd.Z d e w1 base ok u xs := by
  refine Kd.Z_step h fun k hk => hg.block k (Kd.Z_lt h k hk) fun he => ?_
  obtain ⟨cells, fz, hc⟩ := Kd.Z_typed h k hk
  obtain ⟨cells', hc'⟩ := hty k he.symm
  rw [hc] at hc'
  injection hc' with hc'
  injection hc' with _ hc'
  exact ht e List.mem_cons_self hc'
theorem Kd.R_overZ' {β : Type} {d' : Kd β} {ys : List β} {e' : Nat} (h : d'.R e W base ok u ys) (hty : ∀ k, v.ownBlock = some k → ∃ cells fz, W.heap[k]? = some (.cells cells e' fz)) (ht : ∀ q, q ∈ e :: d'.E → q ≠ e') (hg : W.grownBy w1 v.ownBlock) : d'.R e w1 base ok u ys := by
  refine Kd.zC (Kd.xH (Kd.yW h) (fun k hk => hg.block k hk.2.2.1 (fun he => ?_))) (fun _ hk => hk.1)
  obtain ⟨_, _, _, q, hq, cells, hc⟩ := hk
  obtain ⟨cells', fz, hc'⟩ := hty k he.symm
  rw [hc] at hc'
  injection hc' with hc'
  injection hc' with _ hc'
  exact ht q hq hc'
theorem Kd.Z_ne (h : Kd.Z d e w base ok v xs) {g t : Nat} {cells : Array Value} (hb : w.heap[g]? = some (.cells cells t (0, 0))) (ht : e ≠ t) : some g ≠ v.ownBlock := by
  intro e_
  obtain ⟨cells, fz, hc⟩ := Kd.Z_typed h g e_.symm
  rw [hb] at hc
  injection hc with hc
  injection hc with _ hc
  exact ht hc.symm
theorem Kd.Z_nem {K V : Type} {eK : K → Value} {eV : V → Value} {L : List (K × V)} {g : Nat} (h : Kd.Z d e w base ok v xs) (hb : w.heap[g]? = some (mobj eK eV L)) : some g ≠ v.ownBlock := by
  intro e_
  obtain ⟨cells, fz, hc⟩ := Kd.Z_typed h g e_.symm
  rw [hb] at hc
  cases hc
theorem Kd.Z_mset {K V : Type} {eK : K → Value} {eV : V → Value} {L : List (K × V)} {g : Nat} {w2 : World} (h : Kd.Z d e W base ok v xs) (hb : W.heap[g]? = some (mobj eK eV L)) (hg : W.grownBy w2 (some g)) : Kd.Z d e w2 base ok v xs :=
  Kd.Z_step h fun k hk => hg.block k (Kd.Z_lt h k hk) fun e_ => Kd.Z_nem h hb (by rw [← e_]; exact hk.symm)
theorem Kd.Z_R (h : d.R e w base ok v xs) (hM : ∀ {w b ok x cs}, d.M w b ok x cs → ∀ w' b' ok', d.M w' b' ok' x cs) : Kd.Z d e w base ok v xs := by
  obtain ⟨h0, inner, ⟨hl, hc⟩, hr⟩ := h
  refine ⟨h0, inner, ⟨hl, ?_⟩, hr.imp_ fun _ _ hp => hM hp⟩
  rcases hc with h2 | ⟨g, cap, cur, hv, hg, hh, r⟩
  · exact .inl h2
  · exact .inr ⟨g, cap, cur, (0, 0), hv, hg, hh, .inl rfl, r⟩
theorem Kd.Z_slice (h : Kd.Z d e w base ok v xs) : ∃ A c, v = .slice A xs.length c := by
  obtain ⟨_, inner, ⟨_, hc⟩, _⟩ := h
  rcases hc with ⟨rfl, hn⟩ | ⟨g, cap, cur, fz, rfl, _⟩
  · exact ⟨none, 0, by rw [hn]⟩
  · exact ⟨_, cap, rfl⟩
theorem Kd.Z_reads' {A : Option Addr} {n c : Nat} (h : Kd.Z d e w base ok (.slice A n c) xs) : n = xs.length ∧ n ≤ c ∧ d.C w A xs.length xs := by
  obtain ⟨_, inner, ⟨hl, hc⟩, hr⟩ := h
  rcases hc with ⟨hv, hn⟩ | ⟨g, cap, cur, fz, hv, hg, hh, hz, hnc, hm, hs, ht⟩
  · injection hv with h1 h2 h3
    subst h1 h2 h3
    exact ⟨hn.symm, Nat.le_refl _, rfl, by omega, fun hp => by omega⟩
  · injection hv with h1 h2 h3
    subst h1 h2 h3
    refine ⟨rfl, hnc, rfl, by simp only [maxLen] at hm; omega, fun hp => ⟨_, rfl, fun j p hj => ?_⟩⟩
    have hjl : j < xs.length := (List.getElem?_eq_some_iff.1 hj).1
    have hMj := hr.2 j p hj
    have hKj : d.K w p ((inner.drop (j * d.sz)).take d.sz) := d.K_of_M (hMj w base ok)
    refine ⟨_, d.K_len hKj, hKj, fun i x hi => ?_⟩
    have hid : i < d.sz := by
      have := (List.getElem?_eq_some_iff.1 hi).1
      rw [List.length_take] at this
      omega
    rw [List.getElem?_take, if_pos hid, List.getElem?_drop, ← ht, List.getElem?_take] at hi
    have hadd : (⟨g, 0, none⟩ : Addr).add (j * d.sz + i) = ⟨g, j * d.sz + i, none⟩ := by unfold Addr.add; split <;> simp_all
    rw [hadd, cell_of_row w g _ cur e fz hh]
    split at hi
    · simpa using hi
    · cases hi
end
theorem storeCells_Z (P : Program) (g o : Nat) (t : TypeId) (fz : Nat × Nat) : ∀ (vs : List Value) (i : Nat) (cur : Array Value) (w : World), w.heap[g]? = some (.cells cur t fz) → (fz = (0, 0) ∨ cur.size ≤ fz.1) → o + i + vs.length ≤ cur.size → (∀ v ∈ vs, v.oneCell' = true) →
    (storeCells ⟨g, o, none⟩ vs i).run P w = .ok () (w.setRow g (cur.toList.take (o + i) ++ vs ++ cur.toList.drop (o + i + vs.length)).toArray)
  | [], i, cur, w, hg, _, _, _ => by
    simp only [storeCells, List.append_nil, List.length_nil, Nat.add_zero, List.take_append_drop, Array.toArray_toList]
    rw [setRow_self w g cur t fz hg]
    rfl
  | v :: rest, i, cur, w, hg, hfz, hl, h1 => by
    have hi : o + i < cur.size := by simp at hl; omega
    have hadd : (⟨g, o, none⟩ : Addr).add i = ⟨g, o + i, none⟩ := by unfold Addr.add; split <;> simp_all
    have hcell : w.cell? ⟨g, o + i, none⟩ = some cur[o + i] := by simp [World.cell?, hg, hi]
    have hfro : w.frozen? ⟨g, o + i, none⟩ = false := by
      obtain ⟨lo, hi'⟩ := fz
      simp only [World.frozen?, hg, Bool.and_eq_false_iff, decide_eq_false_iff_not]
      rcases hfz with hfz | hfz
      · right
        injection hfz with _ h2
        omega
      · left
        simp only at hfz
        omega
    have hst : (store ((⟨g, o, none⟩ : Addr).add i) v).run P w = .ok () (w.setRow g (cur.setIfInBounds (o + i) v)) := by
      rw [hadd, run_store P w _ v _ (h1 v (by simp)), hcell]
      simp [hfro, setCell_eq_setRow w g (o + i) cur t fz v hg]
    have ih := storeCells_Z P g o t fz rest (i + 1) (cur.setIfInBounds (o + i) v) (w.setRow g (cur.setIfInBounds (o + i) v)) (setRow_heap w g cur _ t _ hg) (by simpa using hfz) (by simp at hl ⊢; omega) (fun x hx => h1 x (by simp [hx]))
    simp only [storeCells, Sem.run_bind, hst, Result.andThen_ok, ih, setRow_setRow]
    congr 3
    have e := list_seg_step cur.toList (o + i) v rest (by simp at hl ⊢; omega)
    simpa [Array.toList_setIfInBounds, Nat.add_assoc] using e
theorem append_Z {P : Program} (w : World) (base : Nat) (t ty e : TypeId) (i : TypeInfo) (z : Value) (size bytes : Nat) (ht : P.underlying t = some (.slice e)) (hi : P.info? e = some i) (hz : i.zero = some z)
    (hsize : i.size = size) (hby : i.bytes = bytes) (hzs : z.cells.size = size) (hsz : 0 < size)
    (v : Value) (n : Nat) (xs : List Value) (hown : OwnZ w base e size v n xs)
    (a : Addr) (m c : Nat) (news : List Value) (hl : news.length = m * size) (hnews : ∀ j u, news[j]? = some u → w.cell? (a.add j) = some u) (h1 : ∀ u ∈ news, u.oneCell' = true)
    (b : n + m ≤ maxLen) (hbytes : (n + m) * bytes ≤ 140737488355328) (hbase : base ≤ w.heap.size) :
    ∃ v' w', (Builtin.append_ #[t, t] ty #[v, .slice (some a) m c]).run P w = .ok v' w' ∧ OwnZ w' base e size v' (n + m) (xs ++ news) ∧ w.grownBy w' v.ownBlock ∧ (v'.ownBlock = v.ownBlock ∨ v'.ownBlock = some w.heap.size) := by
  rcases hown.2 with ⟨rfl, rfl⟩ | ⟨g, cap, cur, fz, rfl, hbg, hg, hfz, hnc, hcm, hcs, htake⟩
  · obtain ⟨v', w', h2, ⟨h3, h4⟩, h5, _, h6⟩ := run_append_own_at (P := P) w base t ty e i z size bytes ht hi hz hsize hby hzs hsz (.slice none 0 0) 0 xs ⟨hown.1, .inl ⟨rfl, rfl⟩⟩ a m c news hl hnews h1 b hbytes hbase
    refine ⟨v', w', h2, ⟨h3, ?_⟩, h5, h6⟩
    rcases h4 with h4 | ⟨g, cap, cur, hv, hg, hh, r⟩
    · exact .inl h4
    · exact .inr ⟨g, cap, cur, (0, 0), hv, hg, hh, .inl rfl, r⟩
  · have hxl : xs.length = n * size := hown.1
    have hlen : (xs ++ news).length = (n + m) * size := by rw [List.length_append, hxl, hl, Nat.add_mul]
    have hsmall : n + m ≤ 9223372036854775807 := by simp only [maxLen] at b; omega
    by_cases hroom : n + m ≤ cap
    · have hfit : n * i.size + news.length ≤ cur.size := by rw [hsize, hl, hcs, ← Nat.add_mul]; exact Nat.mul_le_mul_right _ hroom
      have hf := run_firstCells_some (P := P) w i.size m a m c news (by rw [hsize]; exact hl) hnews
      have hst := storeCells_Z P g (n * i.size) e fz news 0 cur w hg hfz (by simpa using hfit) h1
      simp only [Nat.add_zero] at hst
      have hr : (Builtin.append_ #[t, t] ty #[.slice (some ⟨g, 0, none⟩) n cap, .slice (some a) m c]).run P w =
          .ok (.slice (some ⟨g, 0, none⟩) (n + m) cap) (w.setRow g (cur.toList.take (n * i.size) ++ news ++ cur.toList.drop (n * i.size + news.length)).toArray) := by
        simp [Builtin.append_, run_underlying ht, sizeOf, typeInfo, hi, Builtin.lenOf, hroom, hf, Addr.add_lit, hst]
      have hns : (cur.toList.take (n * i.size) ++ news ++ cur.toList.drop (n * i.size + news.length)).toArray.size = cur.size := by
        simp only [List.size_toArray, List.length_append, List.length_take, List.length_drop, Array.length_toList]
        omega
      refine ⟨_, _, hr, ⟨hlen, .inr ⟨g, cap, _, fz, rfl, hbg, setRow_heap w g cur _ e _ hg, by rw [hns]; exact hfz, hroom, hcm, by rw [hns]; exact hcs, ?_⟩⟩, ⟨rfl, rfl, rfl, by simp, fun k _ hk => setRow_other w g k _ (fun e => hk (by simp [Value.ownBlock, e]))⟩, .inl rfl⟩
      rw [hsize, htake, ← hlen]
      exact List.take_left
    · have holds : ∀ j u, xs[j]? = some u → w.cell? ((⟨g, 0, none⟩ : Addr).add j) = some u := by
        intro j u hu
        have hadd : (⟨g, 0, none⟩ : Addr).add j = ⟨g, j, none⟩ := by unfold Addr.add; split <;> simp_all
        rw [hadd, cell_of_row w g j cur e fz hg]
        rw [← htake, List.getElem?_take] at hu
        split at hu
        · simpa using hu
        · cases hu
      have hr := run_append_grow (P := P) w t ty e i z ht hi hz ⟨g, 0, none⟩ n cap xs (by rw [hsize]; exact hxl) holds a m c news (by rw [hsize]; exact hl) hnews (by omega) (by omega) (by rw [hby]; exact growslice_fits (by omega) hbytes)
      have hge := grownCap_ge w (n + m) cap e
      have d : grownCap w (n + m) cap e ≤ maxLen := grownCap_le_maxLen w (n + m) cap e b
      refine ⟨_, _, hr, ⟨hlen, .inr ⟨w.heap.size, _, _, (0, 0), rfl, hbase, heap_alloc_new w.drew _, .inl rfl, hge, d, ?_, ?_⟩⟩, ⟨rfl, rfl, rfl, by simp, fun k hk _ => heap_alloc_old w.drew _ hk⟩, .inr rfl⟩
      · simp only [Array.size_append, List.size_toArray, size_zeroCells, hzs, hxl, hl, ← Nat.add_mul]
        congr 1
        omega
      · simp only [Array.toList_append, List.append_assoc]
        rw [← List.append_assoc, ← hlen]
        exact List.take_left
section
variable {P : Program} {ops : Array Oper} {rest : List Oper} {o : Oper} {a : Act} {Q : Exit → Act → World → Prop} {Kc : Act → World → Prop}
theorem Kd.Z_lit (d : Kd Int) {w0 W : World} (base e : Nat) (hgd : o.guard = none) {N : Tmp} (_hd : o.dst = some N) {xs : List Int} {inner : List Value} {ok okp : Nat → Prop}
    (hrun : (execOp a.eval o).run P W = .ok (.value (.slice (some ⟨W.heap.size, 0, none⟩) xs.length xs.length)) (W.alloc (.cells inner.toArray e)))
    (hrep : Reps (d.M W base okp) d.sz xs inner) (hok : ∀ k, okp k → ok k) (hfresh : ok W.heap.size) (HB : Below base w0 W) (hbase : base ≤ W.heap.size) (hm : xs.length ≤ 9223372036854775807)
    (h : ∀ v1 w1, Kd.Z d e w1 base ok v1 xs → Below base w0 w1 → W.grownBy w1 none → (∃ b, v1.ownBlock = some b ∧ W.heap.size ≤ b) → wpList P ops Q rest (a.put o.dst v1) w1) (hq : d = Kd.int .u8 := by rfl) : wpList P ops Q (o :: rest) a W :=
  Kd.yS d base e hgd _hd hrun hrep hok hfresh HB hbase hm (fun v1 w1 hR => h v1 w1 (Kd.Z_R hR (by subst hq; exact fun h _ _ _ => h)))
theorem Kd.Z_append_rows (d : Kd Int) {Rr : Int → List Value → Prop} {w0 W : World} (base : Nat) (hgd : o.guard = none) (s x : Operand) (t e : TypeId) (z : Value) (bytes : Nat)
    (ho : o.op = .call { callee := .builtin .append, args := #[s, x], argTypes := #[t, t] })
    (ht : P.underlying t = some (.slice e)) (hinfo : (P.info? e).map (fun i => (i.zero, i.size, i.bytes)) = some (some z, d.sz, bytes)) (hz : z.cells.size = d.sz) (l : 0 < d.sz) (r : 0 < bytes)
    (v : Value) (xs ys : List Int) (A : Option Addr) (m c : Nat) (ok okp : Nat → Prop) (hs : a.eval s = v) (hx : a.eval x = .slice A m c)
    (HO : Kd.Z d e W base ok v xs) (HR : Zch Rr d.sz W A m ys) (hKM : ∀ x cs, Rr x cs → d.M W base okp x cs) (hokp : ∀ k, okp k → ok k ∧ some k ≠ v.ownBlock) (hfresh : ∀ k, W.heap.size ≤ k → ok k)
    (HB : Below base w0 W) (hbase : base ≤ W.heap.size) (hl : (xs.length + m) * bytes ≤ 140737488355328)
    (h : ∀ v1 w1, Kd.Z d e w1 base ok v1 (xs ++ ys) → Below base w0 w1 → W.grownBy w1 v.ownBlock → (v1.ownBlock = v.ownBlock ∨ ∃ b, v1.ownBlock = some b ∧ W.heap.size ≤ b) → wpList P ops Q rest (a.put o.dst v1) w1) (hq : d = Kd.int .u8 := by rfl) :
    wpList P ops Q (o :: rest) a W := by
  obtain ⟨i0, hi, hzz⟩ := Option.map_eq_some_iff.1 hinfo
  simp only [Prod.mk.injEq] at hzz
  obtain ⟨y, B, D⟩ := hzz
  have hm : ys.length = m := HR.1
  have hsz : d.sz = 1 := by rw [hq]; rfl
  have hlen : xs.length + m ≤ 140737488355328 := Nat.le_trans (Nat.le_mul_of_pos_right _ r) hl
  have HO' := HO
  obtain ⟨hok, inner, hown, hr⟩ := HO
  have hMM : ∀ {w b ok x cs}, d.M w b ok x cs → ∀ w' b' ok', d.M w' b' ok' x cs := by subst hq; exact fun h _ _ _ => h
  have hrun : ∃ v1 w1, (Builtin.append_ #[t, t] o.type #[v, .slice A m c]).run P W = .ok v1 w1 ∧ Kd.Z d e w1 base ok v1 (xs ++ ys) ∧ W.grownBy w1 v.ownBlock ∧ (v1.ownBlock = v.ownBlock ∨ ∃ b, v1.ownBlock = some b ∧ W.heap.size ≤ b) := by
    rcases A with _ | ad
    · have h0 : m = 0 := by
        rcases Nat.eq_zero_or_pos m with h0 | h0
        · exact h0
        · obtain ⟨ad, h, _⟩ := HR.2.2 h0
          cases h
      subst h0
      obtain rfl : ys = [] := List.eq_nil_of_length_eq_zero hm
      refine ⟨v, W, ?_, by rw [List.append_nil]; exact HO', World.grownBy.refl W _, .inl rfl⟩
      rcases hown.2 with ⟨rfl, hn⟩ | ⟨g, cap, cur, fz, rfl, _, _, _, hnc, _⟩
      · simp [Builtin.append_, run_underlying ht, sizeOf, typeInfo, hi, Builtin.lenOf, Builtin.firstCells]
      · simp [Builtin.append_, run_underlying ht, sizeOf, typeInfo, hi, Builtin.lenOf, Builtin.firstCells, hnc, storeCells]
    · obtain ⟨news, hnr, hnc⟩ := Zch.inner_ HR
      have hnM : Reps (d.M W base okp) d.sz ys news := hnr.imp_ (fun p c hp => hKM p c hp)
      have hone : ∀ u ∈ news, u.oneCell' = true := by
        intro u hu
        obtain ⟨q, hq', rfl⟩ := List.mem_iff_getElem.1 hu
        have hql : q / d.sz < ys.length := by
          rw [Nat.div_lt_iff_lt_mul l]
          rw [← hnM.1]
          exact hq'
        have hc := hnM.2 (q / d.sz) _ (List.getElem?_eq_getElem hql)
        refine d.K_one (d.K_of_M hc) _ ?_
        rw [List.mem_iff_getElem?]
        refine ⟨q % d.sz, ?_⟩
        rw [List.getElem?_take, if_pos (Nat.mod_lt _ l), List.getElem?_drop, Nat.mul_comm, Nat.div_add_mod, List.getElem?_eq_getElem hq']
      obtain ⟨v1, w1, hrun, h2, hg, hat⟩ := append_Z (P := P) W base t o.type e i0 z d.sz bytes ht hi y B D hz l v xs.length inner hown ad m c news (by rw [hnM.1, hm]) hnc hone (by simp only [maxLen]; omega) hl hbase
      have hat' : v1.ownBlock = v.ownBlock ∨ ∃ b, v1.ownBlock = some b ∧ W.heap.size ≤ b := by
        rcases hat with hat | hat
        · exact .inl hat
        · exact .inr ⟨_, hat, Nat.le_refl _⟩
      refine ⟨v1, w1, hrun, ⟨fun k hk => ?_, inner ++ news, by rw [List.length_append, hm]; exact h2, ?_⟩, hg, hat'⟩
      · rcases hat' with e1 | ⟨b, e1, E⟩
        · exact hok k (e1 ▸ hk)
        · rw [e1] at hk
          injection hk with hk
          subst hk
          exact hfresh _ E
      · have n : Reps (fun x cs => ∀ w' b' ok', d.M w' b' ok' x cs) d.sz ys news := hnM.imp_ fun _ _ hp => hMM hp
        refine ⟨by rw [List.length_append, List.length_append, hr.1, n.1, Nat.add_mul], fun j p hj => ?_⟩
        rw [hsz, Nat.mul_one]
        have hil : inner.length = xs.length := by rw [hr.1, hsz, Nat.mul_one]
        rcases Nat.lt_or_ge j xs.length with hlt | hge
        · rw [List.getElem?_append_left hlt] at hj
          have h3 := hr.2 j p hj
          rw [hsz, Nat.mul_one] at h3
          rwa [List.drop_append_of_le_length (by omega), List.take_append_of_le_length (by rw [List.length_drop]; omega)]
        · rw [List.getElem?_append_right hge] at hj
          have h3 := n.2 (j - xs.length) p hj
          rw [hsz, Nat.mul_one] at h3
          rw [List.drop_append, List.drop_eq_nil_of_le (by omega), List.nil_append, hil]
          exact h3
  obtain ⟨v1, w1, hrun, h2, hg, hat⟩ := hrun
  refine wpList_plain hgd fun K hK => ?_
  unfold Oper.wp execOp
  simp only [ho, resolve, invoke, builtin, Sem.run_bind, Sem.run_pure, Result.andThen_ok, List.map_toArray, List.map_cons, List.map_nil, hs, hx, hrun]
  exact hK _ _ (h v1 w1 h2 (HB.grown hg hbase (fun k hk => Kd.Z_base HO' k hk)) hg hat)
/-- '[]byte(s)'. -/
theorem Kd.Z_conv_step {W : World} (e : Nat) {N : Tmp} (s : ByteArray) {src dst : TypeId} {x : Operand} (hd : P.underlying dst = some (.slice e)) (hs : P.underlying src = some .string) (he : P.underlying e = some (.int .u8)) (hm : s.size ≤ 140737488355328)
    (h : ∀ v1 w1, Kd.Z (Kd.int .u8) e w1 W.heap.size (fun _ => True) v1 (bytesOf s) → Below W.heap.size W w1 → W.grownBy w1 none → (∃ b, v1.ownBlock = some b ∧ W.heap.size ≤ b) → Kc (a.put o.dst v1) w1)
    (hw : Region.wanted o (yielded ops a.tmps) = true := by rfl) (ho : o.op = .convert src dst x := by rfl) (_hN : o.dst = some N := by rfl) (hx : a.eval x = .string s := by first | rfl | (go_simp; done) | (go_simp; rfl)) :
    if Region.wanted o (yielded ops a.tmps) = true then Oper.wp P o a W Kc Q else Kc (a.put o.dst undef) W := by
  have hr := Lib.run_convert_string_bytes (P := P) W src dst e s hs hd he
  have hge := grownCap_ge W s.size 0 e
  have hcm : grownCap W s.size 0 e ≤ maxLen := grownCap_le_maxLen W s.size 0 e (by simp only [maxLen]; omega)
  have hsz : (Lib.bytesCells W e s).size = grownCap W s.size 0 e := by
    simp only [Lib.bytesCells, Array.size_append, Array.size_map, Array.size_replicate]
    have : s.data.size = s.size := rfl
    omega
  have c : Below W.heap.size W (Lib.bytesWorld W e s) := ⟨rfl, rfl, rfl, by rw [Lib.bytesWorld_size]; omega, fun k hk => Lib.bytesWorld_at_old W e s k hk⟩
  refine event_step hw (show (execOp a.eval o).run P W = .ok (.value (.slice (some ⟨W.heap.size, 0, none⟩) s.size (grownCap W s.size 0 e))) (Lib.bytesWorld W e s) by simp [execOp, ho, hx, hr, Result.andThen]) (h _ _ ⟨fun _ _ => trivial, (bytesOf s).map (Value.int .u8), ?_, ?_⟩ c (grown_of_below c none) ⟨_, rfl, Nat.le_refl _⟩)
  · refine ⟨by simp [Kd.int, Kd.scalar], .inr ⟨W.heap.size, _, _, _, by rw [bytesOf_length], Nat.le_refl _, Lib.bytesWorld_at_new W e s, .inr (Nat.le_refl _), by rw [bytesOf_length]; exact hge, hcm, by rw [hsz]; simp [Kd.int, Kd.scalar], ?_⟩⟩
    rw [bytesOf_length]
    simp only [Lib.bytesCells, Kd.int, Kd.scalar, Nat.mul_one, Array.toList_append, Array.toList_map, bytesOf, List.map_map]
    rw [List.take_append_of_le_length (by rw [List.length_map, Array.length_toList]; exact Nat.le_refl _)]
    rw [List.take_of_length_le (by rw [List.length_map, Array.length_toList]; exact Nat.le_refl _)]
    rfl
  · refine ⟨by simp [Kd.int, Kd.scalar], fun j p hj => ?_⟩
    have hj' : j < (bytesOf s).length := (List.getElem?_eq_some_iff.1 hj).1
    have hp : (bytesOf s)[j] = p := (List.getElem?_eq_some_iff.1 hj).2
    show ∀ (w' : World) (b' : Nat) (ok' : Nat → Prop), (((bytesOf s).map (Value.int .u8)).drop (j * 1)).take 1 = [Value.int .u8 p]
    intro _ _ _
    rw [Nat.mul_one, List.drop_eq_getElem_cons (by simpa using hj')]
    simp [hp]
end
theorem Kd.Z_string {P : Program} {w : World} {src dst e : TypeId} {e' base : Nat} {ok : Nat → Prop} {v : Value} {xs : List Int} (hs : P.underlying src = some (.slice e)) (he : P.underlying e = some (.int .u8)) (hd : P.underlying dst = some .string)
    (h : Kd.Z (Kd.int .u8) e' w base ok v xs) : (convert src dst v).run P w = .ok (.string (strOfNums xs)) w := by
  obtain ⟨A, c, rfl⟩ := Kd.Z_slice h
  exact Kd.C_string hs he hd (Kd.Z_reads' h).2.2
set_option maxHeartbeats 2000000 in
theorem idxI (g : Nat) (lb : Array Value) (eg : ∀ args w, (callFunc g args).run Try.prog w = .ok (.enter g args) w) (p : Int → Bool) (A : Option Addr) (c : Nat) (l : List Int) (w : World) (hr : Kd.C (Kd.int .i64) w A l.length l)
    (hp : ∀ (W : World) (x : Int), x ∈ l → Below w.heap.size w W → Calls Try.prog g (#[.int .i64 x] ++ lb) W fun e w' => e = .returned (.bool (p x)) ∧ Below W.heap.size W w') :
    Calls Try.prog 114 #[.slice A l.length c, .func (.func g) #[] lb] w fun e w' => e = .returned (.int .i64 (fidx p l)) ∧ Below w.heap.size w w' := by
  have HR := Zad.mk hr
  have hlen : l.length ≤ 9223372036854775807 := hr.2.1
  clear hr
  have HP := Zad.mk hp
  clear hp
  go_enter Try.func114, Try.ntmps114
  go_wp2
  go_loopg [5, 8] l.length (fun gg _ s8 wr => ∃ kk : Nat, kk ≤ l.length ∧ l.length - kk ≤ gg ∧ s8 = .int .i64 kk ∧ Zad (Below w.heap.size w wr) ∧ Zad (∀ j (hj : j < kk) (hl : j < l.length), p l[j] = false))
  case atStart => exact ⟨0, Nat.zero_le _, by omega, rfl, ⟨Below.refl _ w⟩, ⟨fun j hj => absurd hj (Nat.not_lt_zero _)⟩⟩
  case round =>
    obtain ⟨kk, hkk, hg, rfl, BW, AS⟩ := hrel
    by_cases hlt : kk < l.length
    · have hltz : (kk : Int) < (l.length : Int) := by omega
      have a : 0 ≤ (kk : Int) := by omega
      obtain ⟨ad, e, hx⟩ := Kd.zO HR.out (kk : Int) a hltz
      cases e
      replace hx := (BW.out.cell (World.block_lt_of_cell? w _ hx)).trans hx
      rw [rd_get hlt, Int.toNat_natCast] at hx
      have hcall := HP.out wr l[kk] (List.getElem_mem hlt) BW.out
      cases hq : p l[kk] with
      | true =>
        rw [hq] at hcall
        have HQ := Zad.mk hq
        clear hq
        generalize hy : l[kk] = y at hx hcall
        clear hy
        go_wp2_with (go_at_fn g; refine hcall.mono ?_; rintro e w' ⟨rfl, hb'⟩)
        go_ret
        exact ⟨by rw [fidx_hit hlt HQ.out (fun j hj => AS.out j hj _)]; rfl, Zaf BW.out hb'⟩
      | false =>
        rw [hq] at hcall
        have HQ := Zad.mk hq
        clear hq
        generalize hy : l[kk] = y at hx hcall
        clear hy
        go_wp2_with (go_at_fn g; refine hcall.mono ?_; rintro e w' ⟨rfl, hb'⟩)
        go_roundg (l.length - (kk + 1))
        case measure => omega
        case rel =>
          refine ⟨kk + 1, by omega, by omega, by go_num, ⟨Zaf BW.out hb'⟩, ⟨fun j hj hl => ?_⟩⟩
          by_cases e : j = kk
          · subst e
            exact HQ.out
          · exact AS.out j (by omega) hl
    · have hltz : ¬ (kk : Int) < (l.length : Int) := by omega
      have hke : kk = l.length := by omega
      have HKE := Zad.mk hke
      clear hke
      go_wp2
      go_ret
      exact ⟨by rw [fidx_miss (fun j hj => AS.out j (by have := HKE.out; omega) hj)]; rfl, BW.out⟩
set_option maxHeartbeats 2000000 in
theorem conI (g : Nat) (lb : Array Value) (eg : ∀ args w, (callFunc g args).run Try.prog w = .ok (.enter g args) w) (p : Int → Bool) (A : Option Addr) (c : Nat) (l : List Int) (w : World) (hr : Kd.C (Kd.int .i64) w A l.length l)
    (hp : ∀ (W : World) (x : Int), x ∈ l → Below w.heap.size w W → Calls Try.prog g (#[.int .i64 x] ++ lb) W fun e w' => e = .returned (.bool (p x)) ∧ Below W.heap.size W w') :
    Calls Try.prog 106 #[.slice A l.length c, .func (.func g) #[] lb] w fun e w' => e = .returned (.bool (l.any p)) ∧ Below w.heap.size w w' := by
  have HI := Zad.mk (fun w0 (h0 : w0 = w) => h0 ▸ idxI g lb eg p A c l w hr hp)
  rw [← fidx_nonneg]
  clear hr hp
  go_enter Try.func106, Try.ntmps106
  go_wp2_with (go_at_call 114; refine (HI.out _ rfl).mono ?_; rintro e w' ⟨rfl, hb'⟩)
  go_ret
  exact ⟨rfl, hb'⟩
theorem allIn_1 (n lo hi : Int) (b1 b2 : Nat) (w : World) (h1 : w.cell? ⟨b1, 0, none⟩ = some (.int .i64 lo)) (h2 : w.cell? ⟨b2, 0, none⟩ = some (.int .i64 hi)) :
    Calls Try.prog 107 #[.int .i64 n, .pointer (some ⟨b1, 0, none⟩), .pointer (some ⟨b2, 0, none⟩)] w fun e w' => e = .returned (.bool (!(decide (lo ≤ n) && decide (n ≤ hi)))) ∧ Below w.heap.size w w' := by
  have hf : Zb7.f n lo hi = some (decide (lo ≤ n) && decide (n ≤ hi)) := by
    unfold Zb7.f
    by_cases h : lo ≤ n <;> simp [h]
  have HF := Zad.mk hf
  clear hf
  generalize (decide (lo ≤ n) && decide (n ≤ hi)) = r at HF ⊢
  go_enter Try.func107, Try.ntmps107
  go_wp2_with (go_at_call 84; refine (Zb7.calls n lo hi r _ HF.out).mono ?_; rintro e w' ⟨rfl, hq⟩)
  go_ret
  exact ⟨rfl, hq.below⟩
def Zdg.f (l0 : List Int) (a1 : Int) (a2 : Int) : Option Bool := some (l0.all fun n => decide (a1 ≤ n) && decide (n ≤ a2))
theorem Zdg.calls (A0 : Option Addr) (c0 : Nat) (l0 : List Int) (a1 : Int) (a2 : Int) (r : Bool) (w : World) (a : Kd.C (Kd.int .i64) w A0 l0.length l0) (d : l0.length ≤ c0) (h : Zdg.f l0 a1 a2 = some r) :
    Calls Try.prog 88 #[.slice A0 l0.length c0, .int .i64 a1, .int .i64 a2] w fun e w' => e = .returned (.bool r) ∧ Below w.heap.size w w' := by
  have hany : (l0.any fun n => !(decide (a1 ≤ n) && decide (n ≤ a2))) = !r := by
    unfold Zdg.f at h
    rw [← Option.some.inj h, List.not_all_eq_any_not]
  clear h
  have HR := mA a
  clear a
  have HC := fun W A (hA : Kd.C (Kd.int .i64) W A l0.length l0) (b1 b2 : Nat) (h1 : W.cell? ⟨b1, 0, none⟩ = some (.int .i64 a1)) (h2 : W.cell? ⟨b2, 0, none⟩ = some (.int .i64 a2)) (b : b1 < W.heap.size) (c : b2 < W.heap.size) =>
    conI 107 #[.pointer (some ⟨b1, 0, none⟩), .pointer (some ⟨b2, 0, none⟩)] (enters_of Try.func107 (by kernel_rfl) rfl) (fun n => !(decide (a1 ≤ n) && decide (n ≤ a2))) A c0 l0 W hA
      (fun W' x _ hb => allIn_1 x a1 a2 b1 b2 W' ((hb.cell (p := ⟨b1, 0, none⟩) b).trans h1) ((hb.cell (p := ⟨b2, 0, none⟩) c).trans h2))
  rw [hany] at HC
  clear hany
  go_enter Try.func88, Try.ntmps88
  go_wp2_with fail
  refine (HC _ A0 (yY (yY HR.out _) _) w.heap.size (w.heap.size + 1) (by go_simp) (by go_simp) (by simp; omega) (by simp)).mono ?_
  rintro e w' ⟨rfl, hb⟩
  go_wp2
  go_ret
  exact ⟨by simp, ((Zbe (Zbe (Below.refl _ w) _) _).trans (hb.mono (by simp; omega)))⟩
theorem rdL_get {l : List (List Int)} {k : Nat} (hk : k < l.length) : Zah l (k : Int) = l[k] := by
  unfold Zah; rw [List.getD_eq_getElem?_getD, Int.toNat_natCast, List.getElem?_eq_getElem hk]; rfl
set_option maxHeartbeats 2000000 in
theorem idxL (g : Nat) (lb : Array Value) (eg : ∀ args w, (callFunc g args).run Try.prog w = .ok (.enter g args) w) (p : List Int → Bool) (A : Option Addr) (c : Nat) (l : List (List Int)) (w : World) (hr : Kd.C (Kd.slice 2 (Kd.int .i64)) w A l.length l)
    (hp : ∀ (W : World) (x : List Int) (A' : Option Addr) (c' : Nat), x ∈ l → Below w.heap.size w W → Kd.C (Kd.int .i64) W A' x.length x → x.length ≤ c' → Calls Try.prog g (#[.slice A' x.length c'] ++ lb) W fun e w' => e = .returned (.bool (p x)) ∧ Below W.heap.size W w') :
    Calls Try.prog 98 #[.slice A l.length c, .func (.func g) #[] lb] w fun e w' => e = .returned (.int .i64 (fidx p l)) ∧ Below w.heap.size w w' := by
  have HR := Zad.mk hr
  have hlen : l.length ≤ 9223372036854775807 := hr.2.1
  clear hr
  have HP := Zad.mk hp
  clear hp
  go_enter Try.func98, Try.ntmps98
  go_wp2
  go_loopg [5, 8] l.length (fun gg _ s8 wr => ∃ kk : Nat, kk ≤ l.length ∧ l.length - kk ≤ gg ∧ s8 = .int .i64 kk ∧ Zad (Below w.heap.size w wr) ∧ Zad (∀ j (hj : j < kk) (hl : j < l.length), p l[j] = false))
  case atStart => exact ⟨0, Nat.zero_le _, by omega, rfl, ⟨Below.refl _ w⟩, ⟨fun j hj => absurd hj (Nat.not_lt_zero _)⟩⟩
  case round =>
    obtain ⟨kk, hkk, hg, rfl, BW, AS⟩ := hrel
    by_cases hlt : kk < l.length
    · have hltz : (kk : Int) < (l.length : Int) := by omega
      have a : 0 ≤ (kk : Int) := by omega
      obtain ⟨ad, A', c', e, hx, hlc, hin⟩ := Zca HR.out (kk : Int) a hltz
      cases e
      replace hx := (BW.out.cell (World.block_lt_of_cell? w _ hx)).trans hx
      rw [rdL_get hlt] at hx hlc hin
      rw [Int.toNat_natCast] at hx
      have hcall := HP.out wr l[kk] A' c' (List.getElem_mem hlt) BW.out (Kd.zL hin BW.out) hlc
      clear hlc hin
      cases hq : p l[kk] with
      | true =>
        rw [hq] at hcall
        have HQ := Zad.mk hq
        clear hq
        generalize hy : l[kk] = y at hx hcall
        clear hy
        go_wp2_with (go_at_fn g; refine hcall.mono ?_; rintro e w' ⟨rfl, hb'⟩)
        go_ret
        exact ⟨by rw [fidx_hit hlt HQ.out (fun j hj => AS.out j hj _)]; rfl, Zaf BW.out hb'⟩
      | false =>
        rw [hq] at hcall
        have HQ := Zad.mk hq
        clear hq
        generalize hy : l[kk] = y at hx hcall
        clear hy
        go_wp2_with (go_at_fn g; refine hcall.mono ?_; rintro e w' ⟨rfl, hb'⟩)
        go_roundg (l.length - (kk + 1))
        case measure => omega
        case rel =>
          refine ⟨kk + 1, by omega, by omega, by go_num, ⟨Zaf BW.out hb'⟩, ⟨fun j hj hl => ?_⟩⟩
          by_cases e : j = kk
          · subst e
            exact HQ.out
          · exact AS.out j (by omega) hl
    · have hltz : ¬ (kk : Int) < (l.length : Int) := by omega
      have hke : kk = l.length := by omega
      have HKE := Zad.mk hke
      clear hke
      go_wp2
      go_ret
      exact ⟨by rw [fidx_miss (fun j hj => AS.out j (by have := HKE.out; omega) hj)]; rfl, BW.out⟩
set_option maxHeartbeats 2000000 in
theorem conL (g : Nat) (lb : Array Value) (eg : ∀ args w, (callFunc g args).run Try.prog w = .ok (.enter g args) w) (p : List Int → Bool) (A : Option Addr) (c : Nat) (l : List (List Int)) (w : World) (hr : Kd.C (Kd.slice 2 (Kd.int .i64)) w A l.length l)
    (hp : ∀ (W : World) (x : List Int) (A' : Option Addr) (c' : Nat), x ∈ l → Below w.heap.size w W → Kd.C (Kd.int .i64) W A' x.length x → x.length ≤ c' → Calls Try.prog g (#[.slice A' x.length c'] ++ lb) W fun e w' => e = .returned (.bool (p x)) ∧ Below W.heap.size W w') :
    Calls Try.prog 62 #[.slice A l.length c, .func (.func g) #[] lb] w fun e w' => e = .returned (.bool (l.any p)) ∧ Below w.heap.size w w' := by
  have HI := Zad.mk (fun w0 (h0 : w0 = w) => h0 ▸ idxL g lb eg p A c l w hr hp)
  rw [← fidx_nonneg]
  clear hr hp
  go_enter Try.func62, Try.ntmps62
  go_wp2_with (go_at_call 98; refine (HI.out _ rfl).mono ?_; rintro e w' ⟨rfl, hb'⟩)
  go_ret
  exact ⟨rfl, hb'⟩
def badRow (L n : Int) (x : List Int) : Bool := !(decide ((x.length : Int) = L)) || !(x.all fun t => decide (-1 ≤ t) && decide (t ≤ n - 1))
set_option maxHeartbeats 2000000 in
theorem IsAutomaton_1 (L n : Int) (hn : 0 ≤ n ∧ n ≤ 9223372036854775807) (b1 b2 : Nat) (A : Option Addr) (c : Nat) (x : List Int) (w : World) (hr : Kd.C (Kd.int .i64) w A x.length x) (hc : x.length ≤ c) (h1 : w.cell? ⟨b1, 0, none⟩ = some (.int .i64 L)) (h2 : w.cell? ⟨b2, 0, none⟩ = some (.int .i64 n)) :
    Calls Try.prog 86 #[.slice A x.length c, .pointer (some ⟨b1, 0, none⟩), .pointer (some ⟨b2, 0, none⟩)] w fun e w' => e = .returned (.bool (badRow L n x)) ∧ Below w.heap.size w w' := by
  have HR := Zad.mk hr
  have HC := Zad.mk hc
  have hlen : x.length ≤ 9223372036854775807 := hr.2.1
  have hf : ∀ r, (x.all fun t => decide (-1 ≤ t) && decide (t ≤ n - 1)) = r → Zdg.f x (-1) (n - 1) = some r := fun r h => by unfold Zdg.f; rw [h]
  have HF := Zad.mk hf
  have hlf : Zcn.f x = some (x.length : Int) := rfl
  have HLF := Zad.mk hlf
  clear hr hc hf hlf
  obtain ⟨b, d⟩ := hn
  by_cases hL : (x.length : Int) = L
  · have hb : badRow L n x = !(x.all fun t => decide (-1 ≤ t) && decide (t ≤ n - 1)) := by unfold badRow; simp [hL]
    rw [hb]
    clear hb
    generalize (x.all fun t => decide (-1 ≤ t) && decide (t ≤ n - 1)) = r at HF ⊢
    have hne : ((x.length : Int) != L) = false := by simp [hL]
    have HL := Zad.mk hL
    clear hL
    have hA := fun W => Zdg.calls A c x (-1) (n - 1) r W
    have hA' := fun W (hb : Below w.heap.size w W) => hA W (Kd.zL HR.out hb) HC.out (HF.out _ rfl)
    clear hA
    have hlA := World.block_lt_of_cell? w _ h1
    have hlB := World.block_lt_of_cell? w _ h2
    have hwr : IntKind.i64.wrap (n - 1) = n - 1 := IntWalk.i64_in _ (by omega)
    go_enter Try.func86, Try.ntmps86
    go_wp2
    go_region_held3 (fun w' => w'.cell? ⟨b1, 0, none⟩ = some (.int .i64 L) ∧ w'.cell? ⟨b2, 0, none⟩ = some (.int .i64 n)) (go_keep)
      (first | (go_at_call 87; refine Calls.mono (Zcn.calls A c x _ _ (by repeat (first | (with_reducible refine Kd.xA ?_ _) | (with_reducible refine Kd.yZ ?_) | exact HR.out)) HC.out HLF.out) ?_; rintro e w' ⟨rfl, ⟨m, rfl⟩⟩) | (go_at_call 88; refine Calls.mono (hA' _ (by repeat (first | apply Zbd | apply Za3 | exact Below.refl _ _))) ?_; rintro e w1 ⟨rfl, a⟩; have k1 := (a.cell (p := ⟨b1, 0, none⟩) (by simpa using hlA)).trans (by simpa using h1); have k2 := (a.cell (p := ⟨b2, 0, none⟩) (by simpa using hlB)).trans (by simpa using h2)))
    go_wp2
    go_ret
    exact ⟨by simp, Zaf (Zbd (Below.refl _ w) _) a⟩
  · have hb : badRow L n x = true := by unfold badRow; simp [hL]
    rw [hb]
    clear hb
    have hne : ((x.length : Int) != L) = true := by simpa using hL
    have HL := Zad.mk hL
    clear hL
    go_enter Try.func86, Try.ntmps86
    go_wp2
    go_quiet ((go_at_call 87; refine Calls.mono (Zcn.calls A c x _ _ (by repeat (first | (with_reducible refine Kd.xA ?_ _) | (with_reducible refine Kd.yZ ?_) | exact HR.out)) HC.out HLF.out) ?_; rintro e w' ⟨rfl, ⟨nd, rfl⟩⟩; (try first | exact ⟨rfl, _, World.drewN_drewN _ _ _⟩ | exact ⟨rfl, _, Eq.trans (World.drewN_drewN _ _ _) (congrArg (World.drewN _) (Nat.add_assoc _ _ _))⟩)))
    go_wp2
    go_ret
    exact ⟨rfl, by repeat (first | apply Zbd | apply Za3 | exact Below.refl _ _)⟩
def inRB (n lo hi : Int) : Bool := decide (lo ≤ n) && decide (n ≤ hi)
theorem inRange_some (n lo hi : Int) : Zb7.f n lo hi = some (inRB n lo hi) := by
  unfold Zb7.f inRB
  by_cases h : lo ≤ n <;> simp [h]
theorem inRange_any (n lo hi : Int) (w : World) : Calls Try.prog 84 #[.int .i64 n, .int .i64 lo, .int .i64 hi] w fun e w' => e = .returned (.bool (inRB n lo hi)) ∧ Zas w w' :=
  Zb7.calls n lo hi _ w (inRange_some n lo hi)
def maskB (F n : Int) : Bool := (Zdd.f F n).getD false
theorem isMask_some (F n : Int) : Zdd.f F n = some (maskB F n) := by
  unfold maskB Zdd.f
  rw [inRange_some]
  simp only [Option.bind_some]
  split
  · rename_i h
    unfold inRB at h
    simp only [Bool.and_eq_true, decide_eq_true_eq] at h
    unfold Zdf.f
    rw [if_pos h.1]
    simp only [Option.bind_some]
    rw [inRange_some]
    rfl
  · rfl
theorem isMask_any (F n : Int) (w : World) : Calls Try.prog 85 #[.int .i64 F, .int .i64 n] w fun e w' => e = .returned (.bool (maskB F n)) ∧ Zas w w' :=
  Zdd.calls F n _ w (isMask_some F n)
def isAut (L S F : Int) (N : List (List Int)) : Bool :=
  inRB L 0 8 && (inRB N.length 1 16 && (inRB S 0 ((N.length : Int) - 1) && (maskB F N.length && !(N.any (badRow L N.length)))))
def Zcz.f (a : Int) (b : Int) (c : Int) (d : List (List Int)) : Option Bool := some (isAut a b c d)
set_option maxHeartbeats 4000000 in
theorem Zcz.calls (b : Int) (g : Int) (i : Int) (c : Option Addr) (d : Nat) (a : List (List Int)) (r : Bool) (w : World) (j : Kd.C (Kd.slice 2 (Kd.int .i64)) w c a.length a) (k : a.length ≤ d) (h : Zcz.f b g i a = some r) :
    Calls Try.prog 42 #[.agg #[.int .i64 b, .int .i64 g, .int .i64 i, .slice c a.length d]] w fun e w' => e = .returned (.bool r) ∧ Below w.heap.size w w' := by
  have hlen : a.length ≤ 9223372036854775807 := j.2.1
  have HR := mA j
  have HCp := mA k
  clear j k
  have hrr : isAut b g i a = r := Option.some.inj h
  clear h
  unfold isAut at hrr
  have HLF := mA (show Zbz.f a = some (a.length : Int) from rfl)
  have hwr : IntKind.i64.wrap ((a.length : Int) - 1) = (a.length : Int) - 1 := IntWalk.i64_in _ (by omega)
  have HCN := fun W A (hA : Kd.C (Kd.slice 2 (Kd.int .i64)) W A a.length a) (b1 b2 : Nat) (h1 : W.cell? ⟨b1, 0, none⟩ = some (.int .i64 b)) (h2 : W.cell? ⟨b2, 0, none⟩ = some (.int .i64 a.length)) (n : b1 < W.heap.size) (o : b2 < W.heap.size) =>
    conL 86 #[.pointer (some ⟨b1, 0, none⟩), .pointer (some ⟨b2, 0, none⟩)] (enters_of Try.func86 (by kernel_rfl) rfl) (badRow b a.length) A d a W hA
      (fun W' x A' c' _ hb hC hc => IsAutomaton_1 b a.length ⟨by omega, by omega⟩ b1 b2 A' c' x W' hC hc ((hb.cell (p := ⟨b1, 0, none⟩) n).trans h1) ((hb.cell (p := ⟨b2, 0, none⟩) o).trans h2))
  generalize q : a.any (badRow b a.length) = q5 at HCN hrr
  clear q
  cases hq1 : inRB b 0 8
  · rw [hq1, Bool.false_and] at hrr
    subst hrr
    clear HCN
    go_enter Try.func42, Try.ntmps42
    go_wp2_with (first | (go_at_call 59; refine Calls.mono (Zbz.calls c d a _ _ (by repeat (first | (with_reducible refine xA ?_ _) | (with_reducible refine yZ ?_) | (with_reducible refine yY ?_ _) | exact HR.out)) HCp.out HLF.out) ?_; rintro e w' ⟨rfl, ⟨nd, rfl⟩⟩) | (go_at_call 84; refine Calls.mono (inRange_any _ _ _ _) ?_; rintro e w' ⟨rfl, ⟨l, rfl⟩⟩) | (go_at_call 85; refine Calls.mono (isMask_any _ _ _) ?_; rintro e w' ⟨rfl, ⟨m, rfl⟩⟩))
    go_ret
    exact ⟨rfl, by repeat (first | apply Zbe | apply Zbd | apply Za3 | exact Below.refl _ _)⟩
  rw [hq1, Bool.true_and] at hrr
  cases hq2 : inRB a.length 1 16
  · rw [hq2, Bool.false_and] at hrr
    subst hrr
    clear HCN
    go_enter Try.func42, Try.ntmps42
    go_wp2_with (first | (go_at_call 59; refine Calls.mono (Zbz.calls c d a _ _ (by repeat (first | (with_reducible refine xA ?_ _) | (with_reducible refine yZ ?_) | (with_reducible refine yY ?_ _) | exact HR.out)) HCp.out HLF.out) ?_; rintro e w' ⟨rfl, ⟨nd, rfl⟩⟩) | (go_at_call 84; refine Calls.mono (inRange_any _ _ _ _) ?_; rintro e w' ⟨rfl, ⟨l, rfl⟩⟩) | (go_at_call 85; refine Calls.mono (isMask_any _ _ _) ?_; rintro e w' ⟨rfl, ⟨m, rfl⟩⟩))
    go_ret
    exact ⟨rfl, by repeat (first | apply Zbe | apply Zbd | apply Za3 | exact Below.refl _ _)⟩
  rw [hq2, Bool.true_and] at hrr
  cases hq3 : inRB g 0 ((a.length : Int) - 1)
  · rw [hq3, Bool.false_and] at hrr
    subst hrr
    clear HCN
    go_enter Try.func42, Try.ntmps42
    go_wp2_with (first | (go_at_call 59; refine Calls.mono (Zbz.calls c d a _ _ (by repeat (first | (with_reducible refine xA ?_ _) | (with_reducible refine yZ ?_) | (with_reducible refine yY ?_ _) | exact HR.out)) HCp.out HLF.out) ?_; rintro e w' ⟨rfl, ⟨nd, rfl⟩⟩) | (go_at_call 84; refine Calls.mono (inRange_any _ _ _ _) ?_; rintro e w' ⟨rfl, ⟨l, rfl⟩⟩) | (go_at_call 85; refine Calls.mono (isMask_any _ _ _) ?_; rintro e w' ⟨rfl, ⟨m, rfl⟩⟩))
    go_ret
    exact ⟨rfl, by repeat (first | apply Zbe | apply Zbd | apply Za3 | exact Below.refl _ _)⟩
  rw [hq3, Bool.true_and] at hrr
  cases hq4 : maskB i a.length
  · rw [hq4, Bool.false_and] at hrr
    subst hrr
    clear HCN
    go_enter Try.func42, Try.ntmps42
    go_wp2_with (first | (go_at_call 59; refine Calls.mono (Zbz.calls c d a _ _ (by repeat (first | (with_reducible refine xA ?_ _) | (with_reducible refine yZ ?_) | (with_reducible refine yY ?_ _) | exact HR.out)) HCp.out HLF.out) ?_; rintro e w' ⟨rfl, ⟨nd, rfl⟩⟩) | (go_at_call 84; refine Calls.mono (inRange_any _ _ _ _) ?_; rintro e w' ⟨rfl, ⟨l, rfl⟩⟩) | (go_at_call 85; refine Calls.mono (isMask_any _ _ _) ?_; rintro e w' ⟨rfl, ⟨m, rfl⟩⟩))
    go_ret
    exact ⟨rfl, by repeat (first | apply Zbe | apply Zbd | apply Za3 | exact Below.refl _ _)⟩
  rw [hq4, Bool.true_and] at hrr
  subst hrr
  go_enter Try.func42, Try.ntmps42
  go_wp2_with (first | (go_at_call 59; refine Calls.mono (Zbz.calls c d a _ _ (by repeat (first | (with_reducible refine xA ?_ _) | (with_reducible refine yZ ?_) | (with_reducible refine yY ?_ _) | exact HR.out)) HCp.out HLF.out) ?_; rintro e w' ⟨rfl, ⟨nd, rfl⟩⟩) | (go_at_call 84; refine Calls.mono (inRange_any _ _ _ _) ?_; rintro e w' ⟨rfl, ⟨l, rfl⟩⟩) | (go_at_call 85; refine Calls.mono (isMask_any _ _ _) ?_; rintro e w' ⟨rfl, ⟨m, rfl⟩⟩))
  refine Calls.mono (HCN _ c (by repeat (first | (with_reducible refine xA ?_ _) | (with_reducible refine yZ ?_) | (with_reducible refine yY ?_ _) | exact HR.out)) w.heap.size (w.heap.size + 1) (by go_simp) (by go_simp) (by simp; omega) (by simp)) ?_
  rintro e w' ⟨rfl, hb⟩
  go_wp2
  go_ret
  exact ⟨by simp, Zaf (by repeat (first | apply Zbe | apply Zbd | apply Za3 | exact Below.refl _ _)) hb⟩
end Go.Proofs.Ytgindgodfcfgkaa.P
end M0
section M1
namespace Go.Proofs.Ytgindgodfcfgkaa.P
open Go.RowKit Go.Proofs.Ytgindgodfcfgkaa.Sh Go.Proofs.YtgindgodfcfgkaaW.PrintWords Go.Proofs.YtgindgodfcfgkaaW.PrintLast Go.Proofs.YtgindgodfcfgkaaW.PrintMore
open Kd
attribute [local go_sem] Zcc Zcd Zck Zcl Zb2 Zb3 Zce Zcb   -- for this text's walks alone
set_option linter.unusedVariables false
set_option linter.unusedSimpArgs false
def impl_has.f (a0 : Int) (a1 : Int) : Option (Bool) := if 0 ≤ a1 then (some ((Go.bits .and .i64 (shr .i64 a0 a1) 1) == 1)) else (none)
theorem impl_has.calls (a0 : Int) (a1 : Int) (r : Bool) (w : World) (h : impl_has.f a0 a1 = some r) :
  Calls Try.prog 89 #[.int .i64 a0, .int .i64 a1] w fun e w' => e = .returned (.bool r) ∧ Zas w w' := by
 unfold impl_has.f at h
 have H := h
 clear h
 by_cases c3 : 0 ≤ a1; rotate_left
 ·rw [if_neg c3] at H
  exact absurd H (by simp)
 rw [if_pos c3] at H
 have g := eq_true c3
 have i := dT c3
 clear c3
 obtain ⟨b, a⟩ : ∃ j_ : Int, (shr .i64 a0 a1) = j_ := ⟨_, rfl⟩
 replace H : (some ((Go.bits .and .i64 (b) 1) == 1)) = some r := by first | (rw [a] at H; exact H) | (simp only [a] at H ⊢; exact H)
 have c : (a0 / 2 ^ min a1.toNat 64) = b := a
 have d : a1 ≤ 64 → (a0 / 2 ^ a1.toNat) = b := shr_small a
 obtain rfl := oI H
 go_enter Try.func89, Try.ntmps89
 go_wp2
 go_ret
 exact ⟨by first | rfl | (simp; done) | (simp only [← a] <;> (first | rfl | simp)) | (simp [*]; done), by repeat (first | exact Zas.refl _ | apply Zas.step)⟩
def Za6.l0 : Nat → Int → Int → Int → Int → Int → List (List Int) → Int → Int → List Bool → List (List Int) → Option (Int × Int × List Bool × (List (List Int)))
 | 0, _, _, _, _, _, _, _, _, _, _ => none
 | k + 1, l, j, g, h, b, i, c, d, a, e => if j < l then ((impl_has.f b j).bind fun m => (if a.length < 140737488355328 then (Za6.l0 k l (wrap64 (j + 1)) g h b i c d (a ++ [m]) e) else (none))) else (some (c, d, a, e))
def Za6.f (k : Nat) (b : Int) (c : Int) (d : Int) (a : List (List Int)) : Option (Int × Int × List Bool × (List (List Int))) := Za6.l0 k (a.length : Int) 0 b c d a b c ([] : List Bool) a
def Za6.T5 : Bool × List (List Nat × List Nat) := (true, [([], []), ([0], [0]), ([], []), ([2], [2]), ([], []), ([3, 4], [3, 4]), ([5], [5]), ([1, 6, 5], [1, 6]), ([0, 1, 2, 3, 4, 5, 6, 7], []), ([8, 7, 7, 0, 1, 2, 3, 4, 5, 6, 7], [7, 8])])
def Za6.B5 : List Nat := [0, 1, 0, 4, 0, 28, 60, 127, 255, 511]
theorem Za6.tab5 : rtab .any (opsOf Try.f43 5) = Za6.T5 := by kernel_rfl
theorem Za6.bits5 : Zda Za6.T5.2 Za6.B5 = true := by kernel_rfl
theorem Za6.calls (k : Nat) (m : Int) (s : Int) (I : Int) (J : Nat → Prop) (z : Option Addr) (A : Nat) (j : List (List Int)) (r1 : Int) (r2 : Int) (r3 : List Bool) (r4 : List (List Int)) (w : World) (aM : Kd.V (Kd.slice 2 (Kd.int .i64)) 33 w w.heap.size (fun k_ => J k_) (.slice z j.length A) j) (h : Za6.f k m s I j = some (r1, r2, r3, r4)) :
  Calls Try.prog 43 #[.agg #[.int .i64 m, .int .i64 s, .int .i64 I, .slice z j.length A]] w fun e w' => ∃ ao aT : Value, e = .returned (.agg #[.int .i64 r1, .int .i64 r2, ao, aT]) ∧ Kd.R Kd.bool 4 w' w.heap.size (fun k_ => (w.heap.size ≤ k_)) ao r3 ∧ Kd.V (Kd.slice 2 (Kd.int .i64)) 33 w' w.heap.size (fun k_ => (J k_ ∨ w.heap.size ≤ k_) ∧ some k_ ≠ (ao : Value).ownBlock) aT r4 ∧ Below w.heap.size w w' := by
 have bF := Try.underlying26
 have bG := Try.underlying63
 have G := mA (show Kd.V (Kd.slice 2 (Kd.int .i64)) 33 w w.heap.size (fun k_ => (J k_ ∨ w.heap.size ≤ k_)) (.slice z j.length A) j from yE aM (fun k_ hk => .inl hk))
 have HB := mA (Below.refl w.heap.size w)
 unfold Za6.f at h
 have H := h
 clear h
 have H' := mA H
 clear H
 go_enter Try.func43, Try.ntmps43
 go_wp2_with (first | ((with_reducible refine Zap (N := 1) rfl ?_); refine boxS (N := 1) (cs := #[.int .i64 m, .int .i64 s, .int .i64 I, .slice z j.length A]) (t := 26) ?_; intro E hg w2 hbox hb; replace G := mA (xM (xS (by (with_reducible repeat (first | apply yP | apply yQ | apply yL)); exact G.out) E (Nat.le_of_eq hg.symm)) hb); have b := mA (hbox); have bp := geW (w := w) hg; have bq := geW (w := w) hg; replace HB := mA (Zaf (bW) hb); clear hb hbox hg) | ((with_reducible refine Zap (N := 2) rfl ?_); refine boxS (N := 2) (cs := #[.int .i64 0, .int .i64 0, .slice none 0 0, .slice none 0 0]) (t := 63) ?_; intro l hg w3 hbox hb; replace G := mA (xM (xS (by (with_reducible repeat (first | apply yP | apply yQ | apply yL)); exact G.out) l (Nat.le_of_eq hg.symm)) hb); have d := mA (hbox); have br := geW (w := w) hg; have bs := geW (w := w) hg; replace HB := mA (Zaf (bW) hb); have P := mA (neB hg b); have T := mA (neC hg b); replace b := mA (blkB b.out hb); clear hb hbox hg; have bH := P.out; have bI := T.out; obtain ⟨ap, aq, ar, au⟩ := Zau b.out; obtain ⟨av, aw, ax, ay⟩ := frz4 b.out) | ((with_reducible refine Zap (N := 3) rfl ?_); refine boxS (N := 3) (cs := #[.int .i64 0, .int .i64 0, .slice none 0 0, .slice none 0 0]) (t := 63) ?_; intro c hg w6 hbox hb; replace G := mA (xM (xS (by (with_reducible repeat (first | apply yP | apply yQ | apply yL)); exact G.out) c (Nat.le_of_eq hg.symm)) hb); have a := mA (hbox); have bu := geW (w := w) hg; have bv := geW (w := w) hg; replace HB := mA (Zaf (bW) hb); have x := mA (neB hg b); have M := mA (neC hg b); replace b := mA (blkB b.out hb); have y := mA (neB hg d); have O := mA (neC hg d); replace d := mA (blkB d.out hb); clear hb hbox hg; have bJ := M.out; have bK := x.out; have bL := O.out; have bM := y.out; obtain ⟨az, aA, aC, aD⟩ := Zau a.out; obtain ⟨aE, aG, aH, aI⟩ := frz4 a.out; obtain ⟨ag, ah, ai, aj⟩ := Zau b.out; obtain ⟨ak, al, am, an⟩ := frz4 b.out))
 go_loopg [15] k (fun kq v15 w' => ∃ (L : Int) (q : List Bool) (u : Value), v15 = .int .i64 L ∧ Zad (Za6.l0 kq (j.length : Int) L m s I j m s q j = some (r1, r2, r3, r4)) ∧ Zad (kq ≤ k) ∧ Zad (Kd.V (Kd.slice 2 (Kd.int .i64)) 33 w' w.heap.size (fun k_ => (J k_ ∨ w.heap.size ≤ k_) ∧ some k_ ≠ (u : Value).ownBlock ∧ k_ ≠ E ∧ k_ ≠ l ∧ k_ ≠ c) (.slice z j.length A) j) ∧ Zad (Kd.R Kd.bool 4 w' w.heap.size (fun k_ => (w.heap.size ≤ k_)) u q) ∧ Zad (Kd.V (Kd.slice 2 (Kd.int .i64)) 33 w' w.heap.size (fun k_ => (J k_ ∨ w.heap.size ≤ k_) ∧ some k_ ≠ (u : Value).ownBlock ∧ k_ ≠ E ∧ k_ ≠ l ∧ k_ ≠ c) (.slice z j.length A) j) ∧ Zad (w'.heap[E]? = some (.cells #[.int .i64 m, .int .i64 s, .int .i64 I, (.slice z j.length A)] 26 (0, 0))) ∧ Zad (w'.heap[l]? = some (.cells #[.int .i64 0, .int .i64 0, (.slice none 0 0), (.slice none 0 0)] 63 (0, 0))) ∧ Zad (w'.heap[c]? = some (.cells #[.int .i64 m, .int .i64 s, u, (.slice z j.length A)] 63 (0, 0))) ∧ Zad (Below w.heap.size w w'))
 case atStart => exact ⟨(0), (([] : List Bool)), (.slice none 0 0), (eW), H', ⟨Nat.le_refl _⟩, ⟨by (with_reducible repeat (first | apply yP | apply yQ | apply yL)); exact yE (yB (p := ⟨c, 3, none⟩) (yB (p := ⟨c, 2, none⟩) (yB (p := ⟨c, 1, none⟩) (yB (p := ⟨c, 0, none⟩) (yE G.out (fun k_ hk => (⟨hk, hk.2⟩ : _ ∧ k_ ≠ c))) (fun _ hk => hk.2) (.int .i64 m)) (fun _ hk => hk.2) (.int .i64 s)) (fun _ hk => hk.2) (.slice none 0 0)) (fun _ hk => hk.2) (.slice z j.length A)) (fun _ hk => ⟨hk.1.1.1.1, ⟨(by simp [Value.ownBlock]), ⟨hk.1.1.1.2, ⟨hk.1.1.2, hk.1.2⟩⟩⟩⟩)⟩, ⟨by first | exact yT _ _ _ _ _ | exact xE _ _ _ _ _ | exact xF _ _ _ _ _ | exact xB _ _ _ _ _ | exact xC _ _ _ _ _⟩, ⟨by (with_reducible repeat (first | apply yP | apply yQ | apply yL)); exact yE (yB (p := ⟨c, 3, none⟩) (yB (p := ⟨c, 2, none⟩) (yB (p := ⟨c, 1, none⟩) (yB (p := ⟨c, 0, none⟩) (yE G.out (fun k_ hk => (⟨hk, hk.2⟩ : _ ∧ k_ ≠ c))) (fun _ hk => hk.2) (.int .i64 m)) (fun _ hk => hk.2) (.int .i64 s)) (fun _ hk => hk.2) (.slice none 0 0)) (fun _ hk => hk.2) (.slice z j.length A)) (fun _ hk => ⟨hk.1.1.1.1, ⟨(by simp [Value.ownBlock]), ⟨hk.1.1.1.2, ⟨hk.1.1.2, hk.1.2⟩⟩⟩⟩)⟩, ⟨by (with_reducible repeat (first | refine Zac ?_ _ | refine Zab ?_ | refine Zaa ?_ _)); refine Zak ?_ x.out _; (with_reducible repeat (first | refine Zac ?_ _ | refine Zab ?_ | refine Zaa ?_ _)); refine Zak ?_ x.out _; (with_reducible repeat (first | refine Zac ?_ _ | refine Zab ?_ | refine Zaa ?_ _)); refine Zak ?_ x.out _; (with_reducible repeat (first | refine Zac ?_ _ | refine Zab ?_ | refine Zaa ?_ _)); refine Zak ?_ x.out _; exact bP b.out⟩, ⟨by (with_reducible repeat (first | refine Zac ?_ _ | refine Zab ?_ | refine Zaa ?_ _)); refine Zak ?_ y.out _; (with_reducible repeat (first | refine Zac ?_ _ | refine Zab ?_ | refine Zaa ?_ _)); refine Zak ?_ y.out _; (with_reducible repeat (first | refine Zac ?_ _ | refine Zab ?_ | refine Zaa ?_ _)); refine Zak ?_ y.out _; (with_reducible repeat (first | refine Zac ?_ _ | refine Zab ?_ | refine Zaa ?_ _)); refine Zak ?_ y.out _; exact bP d.out⟩, ⟨by (with_reducible repeat (first | refine Zac ?_ _ | refine Zab ?_ | refine Zaa ?_ _)); refine Zao (cs := #[.int .i64 m, .int .i64 s, .slice none 0 0, .slice none 0 0]) ?_ 3 _ rfl; (with_reducible repeat (first | refine Zac ?_ _ | refine Zab ?_ | refine Zaa ?_ _)); refine Zao (cs := #[.int .i64 m, .int .i64 s, .slice none 0 0, .slice none 0 0]) ?_ 2 _ rfl; (with_reducible repeat (first | refine Zac ?_ _ | refine Zab ?_ | refine Zaa ?_ _)); refine Zao (cs := #[.int .i64 m, .int .i64 0, .slice none 0 0, .slice none 0 0]) ?_ 1 _ rfl; (with_reducible repeat (first | refine Zac ?_ _ | refine Zab ?_ | refine Zaa ?_ _)); refine Zao (cs := #[.int .i64 0, .int .i64 0, .slice none 0 0, .slice none 0 0]) ?_ 0 _ rfl; exact bP a.out⟩, ⟨bW⟩⟩
 case round =>
  clear H'
  try clear p2
  try clear c4
  try clear c7
  try clear c8
  try clear ag
  try clear ah
  try clear ai
  try clear aj
  try clear ap
  try clear aq
  try clear ar
  try clear au
  try clear az
  try clear aA
  try clear aC
  try clear aD
  try clear ak
  try clear al
  try clear am
  try clear an
  try clear av
  try clear aw
  try clear ax
  try clear ay
  try clear aE
  try clear aG
  try clear aH
  try clear aI
  obtain ⟨L, q, u, rfl, HA, aU, D, r, B, b, d, a, HB⟩ := hrel
  cases gk with
  | zero => exact absurd HA.out (by simp [Za6.l0])
  | succ k1 =>
   have H := HA.out
   clear HA
   simp only [Za6.l0] at H
   by_cases W : L < (j.length : Int); rotate_left
   ·rw [if_neg W] at H
    have aN := dF W
    clear W
    simp only [Option.some.injEq, Prod.mk.injEq] at H
    obtain ⟨rfl, rfl, rfl, rfl⟩ := H
    have bw := M.out
    have bx := x.out
    have bz := O.out
    have bA := y.out
    have aY : wr.cell? ⟨c, 0, none⟩ = some (.int .i64 m) := bc a 0
    have aZ : wr.cell? ⟨c, 1, none⟩ = some (.int .i64 s) := bc a 1
    have a0 : wr.cell? ⟨c, 2, none⟩ = some (u) := bc a 2
    have a1 : wr.cell? ⟨c, 3, none⟩ = some (.slice z j.length A) := bc a 3
    have a2 := Zae a.out 0
    have a3 := Zae a.out 1
    have a4 := Zae a.out 2
    have a5 := Zae a.out 3
    have bB := T.out
    have bC := P.out
    have a6 : wr.cell? ⟨l, 0, none⟩ = some (.int .i64 0) := bc d 0
    have a7 : wr.cell? ⟨l, 1, none⟩ = some (.int .i64 0) := bc d 1
    have a8 : wr.cell? ⟨l, 2, none⟩ = some (.slice none 0 0) := bc d 2
    have a9 : wr.cell? ⟨l, 3, none⟩ = some (.slice none 0 0) := bc d 3
    have ba := Zae d.out 0
    have bb := Zae d.out 1
    have bd := Zae d.out 2
    have bf := Zae d.out 3
    obtain ⟨X, Y, aX⟩ := zP r.out
    subst aX
    go_wp2
    refine bodyPost_ret (results_cell_row rfl _ _ l 63 #[.int .i64 m, .int .i64 s, .slice X q.length Y, .slice z j.length A] (0, 0) _ rfl (by (with_reducible repeat (first | refine Zac ?_ _ | refine Zab ?_ | refine Zaa ?_ _)); refine Zao (cs := #[.int .i64 m, .int .i64 s, .slice X q.length Y, .slice none 0 0]) ?_ 3 _ rfl; (with_reducible repeat (first | refine Zac ?_ _ | refine Zab ?_ | refine Zaa ?_ _)); refine Zao (cs := #[.int .i64 m, .int .i64 s, .slice none 0 0, .slice none 0 0]) ?_ 2 _ rfl; (with_reducible repeat (first | refine Zac ?_ _ | refine Zab ?_ | refine Zaa ?_ _)); refine Zao (cs := #[.int .i64 m, .int .i64 0, .slice none 0 0, .slice none 0 0]) ?_ 1 _ rfl; (with_reducible repeat (first | refine Zac ?_ _ | refine Zab ?_ | refine Zaa ?_ _)); refine Zao (cs := #[.int .i64 0, .int .i64 0, .slice none 0 0, .slice none 0 0]) ?_ 0 _ rfl; exact bP d.out) Try.underlying63 rfl (by kernel_rfl)) rfl ?_
    exact ⟨_, _, eW, by (with_reducible repeat (first | apply zD | apply zE | apply zA)); exact zC (zH (p := ⟨l, 3, none⟩) (zH (p := ⟨l, 2, none⟩) (zH (p := ⟨l, 1, none⟩) (zH (p := ⟨l, 0, none⟩) (zX r.out d.out (by decide)) (fun _ hk => hk.2) (.int .i64 m)) (fun _ hk => hk.2) (.int .i64 s)) (fun _ hk => hk.2) (.slice X q.length Y)) (fun _ hk => hk.2) (.slice z j.length A)) (fun _ hk => hk.1), by (with_reducible repeat (first | apply yP | apply yQ | apply yL)); exact yE (yB (p := ⟨l, 3, none⟩) (yB (p := ⟨l, 2, none⟩) (yB (p := ⟨l, 1, none⟩) (yB (p := ⟨l, 0, none⟩) (yE B.out (fun k_ hk => (⟨hk, hk.2.2.2.1⟩ : _ ∧ k_ ≠ l))) (fun _ hk => hk.2) (.int .i64 m)) (fun _ hk => hk.2) (.int .i64 s)) (fun _ hk => hk.2) (.slice X q.length Y)) (fun _ hk => hk.2) (.slice z j.length A)) (fun _ hk => ⟨hk.1.1, hk.1.2.1⟩), bW⟩
   rw [if_pos W] at H
   have aN := dT W
   clear W
   replace H := bE H
   obtain ⟨aa, aJ, H⟩ := H
   have bk := mA aJ
   clear aJ
   by_cases ae : q.length < 140737488355328; rotate_left
   ·rw [if_neg ae] at H
    exact absurd H (by simp)
   rw [if_pos ae] at H
   have aQ := mA ae
   clear ae
   obtain ⟨U, ab⟩ : ∃ y_ : List Bool, y_ = (q ++ [aa]) := ⟨_, rfl⟩
   rw [← ab] at H
   have aR := mA ab
   clear ab
   have H' := mA H
   clear H
   try go_wp2
   replace D := mA (yL D.out)
   replace r := mA (zA r.out)
   replace B := mA (yL B.out)
   replace b := mA (Zab b.out)
   replace d := mA (Zab d.out)
   replace a := mA (Zab a.out)
   replace HB := mA (Za3 HB.out)
   refine start_ (n := 10) (S := fun w' => w'.cell? ⟨c, 0, none⟩ = some (.int .i64 m) ∧ w'.cell? ⟨c, 1, none⟩ = some (.int .i64 s) ∧ w'.cell? ⟨c, 2, none⟩ = some (u) ∧ w'.cell? ⟨c, 3, none⟩ = some (.slice z j.length A) ∧ w'.cell? ⟨E, 0, none⟩ = some (.int .i64 m) ∧ w'.cell? ⟨E, 1, none⟩ = some (.int .i64 s) ∧ w'.cell? ⟨E, 2, none⟩ = some (.int .i64 I) ∧ w'.cell? ⟨E, 3, none⟩ = some (.slice z j.length A)) (ds := [9]) #[false, false, false, false, false, false, false, false, false, false] (by kernel_rfl) rfl rfl ⟨bc a 0, bc a 1, bc a 2, bc a 3, bc b 0, bc b 1, bc b 2, bc b 3⟩ (fun hHeld => ?_); refine Zc0 Za6.tab5 Za6.bits5 (fun HT_ HW_ => ?_)
   generalize wr.drew = w14 at D r B b d a HB hHeld ⊢
   refine Zav (i := 0) (N := some 18) (Zaw HT_.out (by kernel_rfl)) ?_
   refine Zav (i := 2) (N := some 20) (Zaw HT_.out (by kernel_rfl)) ?_
   refine Zav (i := 4) (N := some 22) (Zaw HT_.out (by kernel_rfl)) ?_
   refine Zbt (i := 1) (N := some 19) (Zbb HT_.out HW_.out (by kernel_rfl)) hHeld ?_
   refine Zbt (i := 3) (N := some 21) (Zbb HT_.out HW_.out (by kernel_rfl)) hHeld ?_
   refine one_ (i := 5) (N := some 23) #[true, true, true, true, true, true, false, false, false, false] rfl rfl (Zb4 HT_.out (by kernel_rfl)) (by decide) (fun K hK => ?_)
   refine goes_ Try.func89 (by kernel_rfl) rfl #[.int .i64 I, .int .i64 L] (by rfl) rfl rfl (by (try simp only [List.map_toArray, List.map_cons, List.map_nil]); first | done | rfl | (simp only [List.length_drop, List.length_take]; rfl)) ?_
   with_reducible refine (impl_has.calls I L aa _ bk.out).mono ?_
   rintro e w' ⟨rfl, ⟨nd, rfl⟩⟩
   refine ⟨_, rfl, ?_⟩
   refine hK.out _ _ ⟨bc a 0, bc a 1, bc a 2, bc a 3, bc b 0, bc b 1, bc b 2, bc b 3⟩ (fun hHeld => ?_)
   clear hK K
   refine putS 23 ?_
   refine one_ (i := 6) (N := some 24) #[true, true, true, true, true, true, true, false, false, false] rfl rfl (Zb4 HT_.out (by kernel_rfl)) (by decide) (fun K hK => ?_)
   refine value_ (w1 := ?_) (v := ?_) (by rfl) rfl ?_ ?_
   rotate_left 2
   ·go_simp
    constructor
    ·rfl
    ·rfl
   refine hK.out _ _ ⟨(Zby (Zaa a.out _) 0).trans rfl, (Zby (Zaa a.out _) 1).trans rfl, (Zby (Zaa a.out _) 2).trans rfl, (Zby (Zaa a.out _) 3).trans rfl, (Zby (Zaa b.out _) 0).trans rfl, (Zby (Zaa b.out _) 1).trans rfl, (Zby (Zaa b.out _) 2).trans rfl, (Zby (Zaa b.out _) 3).trans rfl⟩ (fun hHeld => ?_)
   clear hK K
   refine putS 24 ?_
   refine one_ (i := 7) (N := some 25) #[true, true, true, true, true, true, true, true, false, false] rfl rfl (Zb4 HT_.out (by kernel_rfl)) (by decide) (fun K hK => ?_)
   refine xT Kd.bool (w0 := w) w.heap.size (by rfl) (.tmp 19) (.tmp 24) 61 4 (.bool false) 1 rfl Try.underlying61 info4 rfl (by decide) (by omega) u q aa [.bool aa] (fun k_ => (w.heap.size ≤ k_)) (fun _ => False) rfl rfl ?aP (fun _ hk => hk.elim) ?aF ?aO ?aB ?aS ?aL ?_
   (case aP => exact rfl)
   (case aB => exact (bW))
   (case aF => exact (fun k_ hk => (Nat.le_trans (Zan (bW)) hk)))
   (case aO => exact (rP r.out))
   (case aS => exact (Zan (bW)))
   (case aL => have := aQ.out; omega)
   intro bN bl ho hb hg hat
   rw [← aR.out] at ho
   replace D := mA (Kd.V_afterv (ok := (fun k_ => (J k_ ∨ w.heap.size ≤ k_) ∧ k_ ≠ E ∧ k_ ≠ l ∧ k_ ≠ c)) (by (with_reducible repeat (first | apply yP | apply yQ | apply yL)); exact yE D.out (fun _ hk => ⟨⟨hk.1, ⟨hk.2.2.1, ⟨hk.2.2.2.1, hk.2.2.2.2⟩⟩⟩, hk.2.1⟩)) hg hat)
   replace B := mA (Kd.V_afterv (ok := (fun k_ => (J k_ ∨ w.heap.size ≤ k_) ∧ k_ ≠ E ∧ k_ ≠ l ∧ k_ ≠ c)) (by (with_reducible repeat (first | apply yP | apply yQ | apply yL)); exact yE B.out (fun _ hk => ⟨⟨hk.1, ⟨hk.2.2.1, ⟨hk.2.2.2.1, hk.2.2.2.2⟩⟩⟩, hk.2.1⟩)) hg hat)
   replace b := mA (Zaq (g := E) (o := .cells #[.int .i64 m, .int .i64 s, .int .i64 I, .slice z j.length A] 26 (0, 0)) (bP b.out) hg (zQ r.out b.out (by decide)))
   replace d := mA (Zaq (g := l) (o := .cells #[.int .i64 0, .int .i64 0, .slice none 0 0, .slice none 0 0] 63 (0, 0)) (bP d.out) hg (zQ r.out d.out (by decide)))
   replace a := mA (Zaq (g := c) (o := .cells #[.int .i64 m, .int .i64 s, u, .slice z j.length A] 63 (0, 0)) (bP a.out) hg (zQ r.out a.out (by decide)))
   replace HB := mA (hb)
   have af := mA (ho)
   clear r ho hb hg hat
   obtain ⟨ac, ad, aK⟩ := zP af.out
   (first | subst aK | (injection aK with aV bm aW; have bn := aV.symm; have bo := aW.symm; clear aV bm aW; subst bn; subst bo))
   refine hK.out _ _ ⟨bc a 0, bc a 1, bc a 2, bc a 3, bc b 0, bc b 1, bc b 2, bc b 3⟩ (fun hHeld => ?_)
   clear hK K
   refine putS 25 ?_
   refine Zav (i := 8) (N := some 26) (Zaw HT_.out (by kernel_rfl)) ?_
   refine last_ (i := 9) (N := none) #[true, true, true, true, true, true, true, true, true, true] rfl rfl (Zb4 HT_.out (by kernel_rfl)) (by decide) (fun K hK => ?_)
   have bO : bl.cell? ⟨c, 2, none⟩ = some (u) := bc a 2
   have bD := Zae a.out 2
   have bg := x.out
   have bh := y.out
   have bi := M.out
   have bj := O.out
   refine skip_ (w1 := ?_) (by rfl) rfl ?_ ?_
   rotate_left
   ·go_simp
    rfl
   refine hK.out _ _ ?_
   clear hK K
   refine done_ (done_of HT_.out (by kernel_rfl)) ?_
   try go_wp2
   go_roundg k1
   case measure => have := aU.out; omega
   case rel => exact ⟨(wrap64 (L + 1)), (U), (.slice ac U.length ad), (eW), H', ⟨by have := aU.out; omega⟩, ⟨by (with_reducible repeat (first | apply yP | apply yQ | apply yL)); exact yE (yB (p := ⟨c, 2, none⟩) (yE D.out (fun k_ hk => (⟨hk, hk.1.2.2.2⟩ : _ ∧ k_ ≠ c))) (fun _ hk => hk.2) (.slice ac U.length ad)) (fun _ hk => ⟨hk.1.1.1, ⟨hk.1.2, ⟨hk.1.1.2.1, ⟨hk.1.1.2.2.1, hk.1.1.2.2.2⟩⟩⟩⟩)⟩, ⟨by (with_reducible repeat (first | apply zD | apply zE | apply zA)); exact zC (zH (p := ⟨c, 2, none⟩) (zX af.out a.out (by decide)) (fun _ hk => hk.2) (.slice ac U.length ad)) (fun _ hk => hk.1)⟩, ⟨by (with_reducible repeat (first | apply yP | apply yQ | apply yL)); exact yE (yB (p := ⟨c, 2, none⟩) (yE B.out (fun k_ hk => (⟨hk, hk.1.2.2.2⟩ : _ ∧ k_ ≠ c))) (fun _ hk => hk.2) (.slice ac U.length ad)) (fun _ hk => ⟨hk.1.1.1, ⟨hk.1.2, ⟨hk.1.1.2.1, ⟨hk.1.1.2.2.1, hk.1.1.2.2.2⟩⟩⟩⟩)⟩, ⟨by (with_reducible repeat (first | refine Zac ?_ _ | refine Zab ?_ | refine Zaa ?_ _)); refine Zak ?_ x.out _; exact bP b.out⟩, ⟨by (with_reducible repeat (first | refine Zac ?_ _ | refine Zab ?_ | refine Zaa ?_ _)); refine Zak ?_ y.out _; exact bP d.out⟩, ⟨by (with_reducible repeat (first | refine Zac ?_ _ | refine Zab ?_ | refine Zaa ?_ _)); refine Zao (cs := #[.int .i64 m, .int .i64 s, u, .slice z j.length A]) ?_ 2 _ rfl; exact bP a.out⟩, ⟨bW⟩⟩
def Zb5.f (l0 : List Bool) : Option (List Bool) := if l0.length < 140737488355328 then some l0 else none
theorem Zb5.calls (A0 : Option Addr) (c0 : Nat) (l0 : List Bool) (r : List Bool) (w : World) (a : Kd.C Kd.bool w A0 l0.length l0) (d : l0.length ≤ c0) (h : Zb5.f l0 = some r) :
    Calls Try.prog 91 #[.slice A0 l0.length c0] w fun e w' => ∃ i : Value, e = .returned (i) ∧ Kd.R Kd.bool 4 w' w.heap.size (fun _ => True) i r ∧ Below w.heap.size w w' := by
  unfold Zb5.f at h
  by_cases c2 : l0.length < 140737488355328; rotate_left
  · rw [if_neg c2] at h
    cases h
  rw [if_pos c2] at h
  have k := mA c2
  clear c2
  obtain rfl := Option.some.inj h
  clear h
  have hq := fun (W : World) => Lib.run_eql_slice_nil (P := Try.prog) W 61 4 A0 l0.length c0 0 0 Try.underlying61
  have m := mA a
  have q := mA d
  have HB := mA (Below.refl w.heap.size w)
  cases A0 with
  | none =>
    have hl : l0.length = 0 := by
      by_cases hn : 0 < l0.length
      · obtain ⟨_, e, _⟩ := a.2.2 hn
        cases e
      · omega
    have n : l0 = [] := List.eq_nil_of_length_eq_zero hl
    subst n
    clear hl a d
    have o : ∀ W, (binOp .eql 61 (.slice none 0 c0) (.slice none 0 0)).run Try.prog W = .ok (.bool true) W := hq
    clear hq
    go_enter Try.func91, Try.ntmps91
    go_wp2
    go_ret
    exact ⟨_, rfl, yT _ _ _ _ _, Below.refl _ _⟩
  | some ad =>
    clear a d
    have o : ∀ W, (binOp .eql 61 (.slice (some ad) l0.length c0) (.slice none 0 0)).run Try.prog W = .ok (.bool false) W := hq
    clear hq
    go_enter Try.func91, Try.ntmps91
    go_wp2_with (first | ((with_reducible refine Zap (N := 5) rfl ?_); refine yS Kd.bool _ 4 ?hg (N := 5) ?hd (xs := ([] : List Bool)) (inner := []) (ok := fun _ => True) (okp := fun _ => True) ?hr ?hp (fun _ hk => hk) trivial (Below.refl _ _) (Nat.le_refl _) (by simp) ?_; (case hd => rfl); (case hg => rfl); (case hr => first | (go_simp; done) | (go_simp; rfl)); (case hp => exact (Reps.none _ _)); intro l w3 j hb hg_ hnew_; clear hg_ hnew_; have c := mA (zV j (Zan (by repeat (first | (with_reducible first | exact HB.out | apply Zbe | apply Zbd | apply Za3) | exact HB.out)))); replace HB := mA (Zaf (by repeat (first | (with_reducible first | exact HB.out | apply Zbe | apply Zbd | apply Za3) | exact HB.out)) hb); clear hb j) | ((with_reducible refine Zbp (b := .append) (xs := #[.tmp 5, .tmp 6]) rfl ?_); at_builtin; refine xO Kd.bool (w0 := w) w.heap.size rfl (.tmp 5) (.tmp 6) 61 4 (.bool false) 1 rfl Try.underlying61 info4 rfl (by decide) (by omega) l [] l0 _ _ _ (fun _ => True) (fun _ => False) rfl rfl ?aO ?aR (fun _ _ h => h) (fun _ h => h.elim) ?aF ?aB ?aS ?aL ?_; (case aR => repeat (first | exact (zL m.out HB.out) | (with_reducible refine yY ?_ _) | (with_reducible refine xA ?_ _) | (with_reducible refine yZ ?_))); (case aB => exact (by repeat (first | (with_reducible first | exact HB.out | apply Zbe | apply Zbd | apply Za3) | exact HB.out))); (case aF => exact (fun _ _ => trivial)); (case aO => exact (by (with_reducible repeat (first | apply zD | apply zE | apply zA)); exact c.out)); (case aS => exact (Zan (by repeat (first | (with_reducible first | exact HB.out | apply Zbe | apply Zbd | apply Za3) | exact HB.out)))); (case aL => have := k.out; simp only [List.length_nil]; omega); intro p w5 ho hb hg hat; rw [List.nil_append] at ho; replace HB := mA (hb); have g := mA (ho); clear c ho hb hg hat))
    go_ret
    exact ⟨_, rfl, by (with_reducible repeat (first | apply zD | apply zE | apply zA)); exact g.out, by repeat (first | (with_reducible first | exact HB.out | apply Zbe | apply Zbd | apply Za3) | exact HB.out)⟩
end Go.Proofs.Ytgindgodfcfgkaa.P
end M1
