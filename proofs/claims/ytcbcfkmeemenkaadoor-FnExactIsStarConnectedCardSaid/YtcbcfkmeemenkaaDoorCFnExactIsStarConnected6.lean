import Derived.ArgAppend
import Derived.Below
import Derived.BigQuiet
import Derived.Deep.AppendLies
import Derived.Deep.CutBlock
import Derived.Deep.DeepCutAuto
import Derived.Deep.Draws
import Derived.Deep.LoopGhost
import Derived.Deep.OwnRows
import Derived.Deep.QuietTactic
import Derived.Deep.RegionHeld3
import Derived.KernelRfl
import Derived.Laws.BitsLemmas
import Derived.Laws.BytesArg
import Derived.Laws.IdiomCopy
import Derived.Laws.MakeOwn
import Derived.Laws.OwnMore
import Derived.Laws.Rows
import Derived.Laws.Slices
import Derived.Laws.StructEq
import Derived.Lib.AppendStr
import Derived.Lib.ConvBytes
import Derived.Lib.SliceRun
import Derived.Maps.AppendAt
import Derived.OrdersHeld
import Derived.OwnWalk
import Derived.RowKit
import Derived.RowKit3
import Derived.Shelf.Abstract
import Derived.Shelf.SlicesG.CompactI
import Derived.Shelf.Spec.TrailingZeros
import Derived.Sort.Grow
import Derived.Tactics
import Derived.Test.YtcbcfkmeemenkaaDoorProg
import Derived.WalkKit
import Derived.WideLaws
import Derived.Test.YtcbcfkmeemenkaaDoorCFnExactIsStarConnected2
section M0
namespace Go.Proofs.YtcbcfkmeemenkaaDoor.P
open Go.RowKit Go.Proofs.YtcbcfkmeemenkaaDoor.Sh Go.Proofs.YtcbcfkmeemenkaaDoorW.PrintWords Go.Proofs.YtcbcfkmeemenkaaDoorW.PrintLast Go.Proofs.YtcbcfkmeemenkaaDoorW.PrintMore
attribute [local go_sem] max2_int min2_int max_two min_two max_three min_three max_four min_four   -- for this text's walks alone
set_option linter.unusedVariables false
set_option linter.unusedSimpArgs false
/-! ### slices_Compact_int64_int64: function 45 -/
theorem cmpS_form {e base : Nat} {w : World} {ok : Nat → Prop} {v : Value} {xs : List Int} (h : Kd.R (Kd.int .i64) e w base ok v xs) :
    (∃ A c, v = .slice A 0 c ∧ xs = []) ∨ ∃ g cap cur, v = .slice (some ⟨g, 0, none⟩) xs.length cap ∧ ok g ∧ base ≤ g ∧ w.heap[g]? = some (.cells cur e (0, 0)) ∧ xs.length ≤ cap ∧ cap ≤ maxLen ∧ cur.size = cap ∧ cur.toList.take xs.length = xs.map (Value.int .i64) := by
  obtain ⟨h0, inner, ⟨hl, hcase⟩, hr⟩ := h
  have hl1 : inner.length = xs.length := by have := hr.1; simpa [Kd.int, Kd.scalar] using this
  have hin : inner = xs.map (Value.int .i64) := by
    apply List.ext_getElem?
    intro j
    by_cases hj : j < xs.length
    · have h3 : (inner.drop (j * 1)).take 1 = [Value.int .i64 xs[j]] := hr.2 j xs[j] (List.getElem?_eq_getElem hj)
      have h4 : ((inner.drop (j * 1)).take 1)[0]? = ([Value.int .i64 xs[j]] : List Value)[0]? := by rw [h3]
      rw [List.getElem?_take_of_lt (by omega), List.getElem?_drop] at h4
      rw [List.getElem?_map, List.getElem?_eq_getElem hj]
      simpa using h4
    · rw [List.getElem?_eq_none (by omega), List.getElem?_eq_none (by rw [List.length_map]; omega)]
  subst hin
  rcases hcase with ⟨rfl, hn⟩ | ⟨g, cap, cur, rfl, hg, hh, h1, h2, h3, h4⟩
  · exact .inl ⟨none, 0, rfl, List.eq_nil_of_length_eq_zero hn⟩
  · exact .inr ⟨g, cap, cur, rfl, h0 g rfl, hg, hh, h1, h2, by simpa [Kd.int, Kd.scalar] using h3, by simpa [Kd.int, Kd.scalar] using h4⟩
theorem cmpS_holds {e g cap : Nat} {w : World} {cur : Array Value} {xs : List Int} (hh : w.heap[g]? = some (.cells cur e (0, 0))) (h4 : cur.toList.take xs.length = xs.map (Value.int .i64)) :
    Go.Sort.Holds (Value.int .i64) w g 0 xs.toArray := by
  intro j hj
  have hj' : j < xs.length := by simpa using hj
  have hc : cur[j]? = some (Value.int .i64 xs[j]) := by
    have h5 : (cur.toList.take xs.length)[j]? = (xs.map (Value.int .i64))[j]? := by rw [h4]
    rw [List.getElem?_take_of_lt hj', List.getElem?_map, List.getElem?_eq_getElem hj'] at h5
    simpa using h5
  refine ⟨?_, ?_⟩
  · simp only [World.cell?, hh, Nat.zero_add]
    rw [show (List.toArray xs)[j]! = xs[j] by simp [hj']]
    simpa using hc
  · simp only [World.frozen?, hh]
    simp
theorem cmpS_world {e g n : Nat} {w : World} {cur : Array Value} {ds : List Int} {os : Array Obj} (hh : w.heap[g]? = some (.cells cur e (0, 0))) :
    (Go.Sort.grow (Go.Sort.putRow (Value.int .i64) (Go.Sort.ahead w n) g 0 ds.toArray) os).heap[g]? = some (.cells (Go.Sort.putCells (Value.int .i64) 0 ds.toArray cur) e (0, 0)) := by
  have hg : g < w.heap.size := by
    rcases Nat.lt_or_ge g w.heap.size with h | h
    · exact h
    · rw [Array.getElem?_eq_none h] at hh
      cases hh
  rw [Go.Sort.heap_grow_old _ _ (by simpa using hg)]
  simp only [Go.Sort.putRow, Go.Sort.mapBlock, Array.getElem?_modify, Go.Sort.heap_ahead, if_true, hh, Option.map_some, Go.Sort.onCells]
theorem cmpS_old {g n k : Nat} {w : World} {ds : List Int} {os : Array Obj} (hk : k < w.heap.size) (hne : k ≠ g) :
    (Go.Sort.grow (Go.Sort.putRow (Value.int .i64) (Go.Sort.ahead w n) g 0 ds.toArray) os).heap[k]? = w.heap[k]? := by
  rw [Go.Sort.heap_grow_old _ _ (by simpa using hk)]
  simp only [Go.Sort.putRow, Go.Sort.mapBlock, Array.getElem?_modify, Go.Sort.heap_ahead]
  rw [if_neg (fun h => hne h.symm)]
theorem cmpS_cells {cur : Array Value} {ds : List Int} (h : ds.length ≤ cur.size) : (Go.Sort.putCells (Value.int .i64) 0 ds.toArray cur).toList.take ds.length = ds.map (Value.int .i64) := by
  apply List.ext_getElem?
  intro j
  by_cases hj : j < ds.length
  · rw [List.getElem?_take_of_lt hj, List.getElem?_map, List.getElem?_eq_getElem hj, Array.getElem?_toList]
    simp only [Go.Sort.putCells, Array.getElem?_mapIdx]
    rw [Array.getElem?_eq_getElem (by omega), Option.map_some, if_pos ⟨Nat.zero_le _, by simpa using hj⟩]
    simp [hj]
  · rw [List.getElem?_eq_none (by rw [List.length_take]; omega), List.getElem?_eq_none (by rw [List.length_map]; omega)]
theorem cmpS_back {e base g cap n : Nat} {w : World} {ok : Nat → Prop} {cur : Array Value} {ds ys : List Int} {os : Array Obj} (hok : ok g) (hg : base ≤ g) (hh : w.heap[g]? = some (.cells cur e (0, 0))) (hd : ds.length ≤ cap) (hm : cap ≤ maxLen) (hc : cur.size = cap) (hy : ys = ds.take ys.length) :
    Kd.R (Kd.int .i64) e (Go.Sort.grow (Go.Sort.putRow (Value.int .i64) (Go.Sort.ahead w n) g 0 ds.toArray) os) base ok (.slice (some ⟨g, 0, none⟩) ys.length cap) ys := by
  have hyl : ys.length ≤ ds.length := by
    have := congrArg List.length hy
    rw [List.length_take] at this
    omega
  have h5 := cmpS_cells (cur := cur) (ds := ds) (by omega)
  refine ⟨fun k hk => ?_, ys.map (Value.int .i64), ⟨by simp [Kd.int, Kd.scalar], .inr ⟨g, cap, _, rfl, hg, cmpS_world hh, by omega, hm, by simpa [Kd.int, Kd.scalar, Go.Sort.putCells] using hc, ?_⟩⟩, ?_⟩
  · have : g = k := by simpa [Value.ownBlock] using hk
    subst this
    exact hok
  · have h6 := congrArg (List.take ys.length) h5
    rw [List.take_take, Nat.min_eq_left hyl, ← List.map_take, ← hy] at h6
    simpa [Kd.int, Kd.scalar] using h6
  · refine ⟨by simp [Kd.int, Kd.scalar], fun j p hj => ?_⟩
    have hj' : j < ys.length := (List.getElem?_eq_some_iff.1 hj).1
    have hp : ys[j] = p := (List.getElem?_eq_some_iff.1 hj).2
    show ((ys.map (Value.int .i64)).drop (j * 1)).take 1 = [Value.int .i64 p]
    rw [Nat.mul_one, List.drop_eq_getElem_cons (by simpa using hj')]
    simp [hp]
theorem cmpS_mono {w W : World} {g n : Nat} {ds : List Int} {os : Array Obj} {w0 : World} (hB : Below w0.heap.size w0 w) (hg : w0.heap.size ≤ g) : Below w0.heap.size w0 (Go.Sort.grow (Go.Sort.putRow (Value.int .i64) (Go.Sort.ahead w n) g 0 ds.toArray) os) :=
  ⟨hB.os, hB.tape, hB.output, Nat.le_trans hB.size (by rw [Go.Sort.size_grow, Go.Sort.size_putRow, Go.Sort.heap_ahead]; omega), fun k hk => (cmpS_old (Nat.lt_of_lt_of_le hk hB.size) (by omega)).trans (hB.block k hk)⟩
theorem cmpS_kept {w : World} {g n : Nat} {ds : List Int} {os : Array Obj} {S : Nat → Prop} (hg : S g) : Kept w (Go.Sort.grow (Go.Sort.putRow (Value.int .i64) (Go.Sort.ahead w n) g 0 ds.toArray) os) S :=
  ⟨by rw [Go.Sort.size_grow, Go.Sort.size_putRow, Go.Sort.heap_ahead]; omega, fun k hk hn => cmpS_old hk (fun e => hn (by rw [e]; exact hg))⟩
def cmpS_lay_ren : Go.Shelf.Ren := ⟨fun | 43 => 45 | n => n, fun | 22 => 22 | 23 => 2 | 3 => 3 | 4 => 4 | 0 => 0 | n => n, fun | n => n⟩
theorem cmpS_lay : Go.Proofs.SlLaysN.n43 Tryd.prog cmpS_lay_ren where
  mixed := by kernel_rfl
  f43 := ⟨ "slices.Compact[[]int64,int64]", by decide, Tryd.func45.trans (congrArg some (by kernel_rfl))⟩
  t0 := Tryd.underlying0
  a0 := Tryd.isAgg0
  z0 := Tryd.sizeOf0
  v0 := Tryd.zeroValue0
  t3 := Tryd.underlying3
  a3 := Tryd.isAgg3
  z3 := Tryd.sizeOf3
  v3 := Tryd.zeroValue3
  t4 := Tryd.underlying4
  a4 := Tryd.isAgg4
  z4 := Tryd.sizeOf4
  v4 := Tryd.zeroValue4
  t22 := Tryd.underlying22
  a22 := Tryd.isAgg22
  z22 := Tryd.sizeOf22
  v22 := Tryd.zeroValue22
  t23 := Tryd.underlying2
  a23 := Tryd.isAgg2
  z23 := Tryd.sizeOf2
  v23 := Tryd.zeroValue2
  i23 := by kernel_rfl
def slices_Compact_int64_int64.f (l0 : List Int) : Option (List Int) := if l0.length ≤ 9223372036854775807 then some (Lib.compact l0) else none
theorem slices_Compact_int64_int64.calls (P0_ : Nat → Prop) (u9000_ : Value) (l0 : List Int) (r : List Int) (w0 w : World) (hB : Below w0.heap.size w0 w) (ho0 : Kd.R (Kd.int .i64) 2 w w0.heap.size P0_ u9000_ l0) (h : slices_Compact_int64_int64.f l0 = some r) :
    Calls Tryd.prog 45 #[u9000_] w fun e w' => ∃ v0_ : Value, e = .returned (v0_) ∧ Kd.R (Kd.int .i64) 2 w' w0.heap.size (fun k_ => (P0_ k_ ∨ w.heap.size ≤ k_)) v0_ r ∧ Below w0.heap.size w0 w' ∧ Kept w w' (fun k_ => P0_ k_) := by
  unfold slices_Compact_int64_int64.f at h
  by_cases hc : l0.length ≤ 9223372036854775807
  · rw [if_pos hc] at h
    obtain rfl := Option.some.inj h
    rcases cmpS_form ho0 with ⟨A, c, rfl, rfl⟩ | ⟨g, cap, cur, rfl, hg, hb, hh, h1, h2, h3, h4⟩
    · refine (AnyG.slices_Compact_int_empty cmpS_lay A c w).mono ?_
      rintro e w' ⟨rfl, rfl⟩
      exact ⟨_, rfl, Kd.R_mono ho0 (fun _ hk => .inl hk), hB, Kept.refl _ _⟩
    · refine (AnyG.slices_Compact_int cmpS_lay g 0 cap l0 w (cmpS_holds (cap := cap) hh h4) hc h1).mono ?_
      rintro e w' ⟨rfl, n, rfl⟩
      have hle : (Lib.compact l0).length ≤ l0.length := by
        unfold Lib.compact Lib.compactUpTo
        rw [List.length_map]
        refine Nat.le_trans (List.length_filter_le _ _) ?_
        simp
      have hB2 := cmpS_back (e := 2) (base := w0.heap.size) (n := n) (os := #[]) (ok := fun k_ => (P0_ k_ ∨ w.heap.size ≤ k_)) (ds := Lib.compact l0 ++ List.replicate (l0.length - (Lib.compact l0).length) 0) (ys := Lib.compact l0) (.inl hg) hb hh (by rw [List.length_append, List.length_replicate]; omega) h2 h3 (by rw [List.take_left])
      rw [Go.Sort.grow_empty] at hB2
      refine ⟨_, rfl, hB2, ?_, ?_⟩
      · have := cmpS_mono (g := g) (n := n) (ds := Lib.compact l0 ++ List.replicate (l0.length - (Lib.compact l0).length) 0) (os := #[]) (W := w) hB hb
        rwa [Go.Sort.grow_empty] at this
      · have := cmpS_kept (w := w) (g := g) (n := n) (ds := Lib.compact l0 ++ List.replicate (l0.length - (Lib.compact l0).length) 0) (os := #[]) (S := fun k_ => P0_ k_) hg
        rwa [Go.Sort.grow_empty] at this
  · rw [if_neg hc] at h
    cases h
end Go.Proofs.YtcbcfkmeemenkaaDoor.P
end M0
