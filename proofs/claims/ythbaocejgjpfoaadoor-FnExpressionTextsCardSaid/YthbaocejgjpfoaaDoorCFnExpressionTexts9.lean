import Derived.ArgAppend
import Derived.Below
import Derived.BigQuiet
import Derived.Deep.AppendLies
import Derived.Deep.CutBlock
import Derived.Deep.DeepCutAuto
import Derived.Deep.Draws
import Derived.Deep.LoopGhost
import Derived.Deep.OwnRows
import Derived.Deep.QuietTactic
import Derived.Deep.RegionHeld3
import Derived.KernelRfl
import Derived.Laws.BitsLemmas
import Derived.Laws.BytesArg
import Derived.Laws.IdiomCopy
import Derived.Laws.MakeOwn
import Derived.Laws.OwnMore
import Derived.Laws.Rows
import Derived.Laws.Slices
import Derived.Laws.StructEq
import Derived.Lib.AppendStr
import Derived.Lib.ConvBytes
import Derived.Lib.SliceRun
import Derived.Maps.AppendAt
import Derived.OrdersHeld
import Derived.OwnWalk
import Derived.RowKit
import Derived.RowKit3
import Derived.Shelf.Abstract
import Derived.Shelf.Spec.TrailingZeros
import Derived.Tactics
import Derived.Test.YthbaocejgjpfoaaDoorProg
import Derived.WalkKit
import Derived.WideLaws
import Derived.Test.YthbaocejgjpfoaaDoorCFnExpressionTexts3
section M0
namespace Go.Proofs.YthbaocejgjpfoaaDoor.P
open Go.RowKit Go.Proofs.YthbaocejgjpfoaaDoor.Sh Go.Proofs.YthbaocejgjpfoaaDoorW.PrintWords Go.Proofs.YthbaocejgjpfoaaDoorW.PrintLast Go.Proofs.YthbaocejgjpfoaaDoorW.PrintMore
attribute [local go_sem] max2_int min2_int max_two min_two max_three min_three max_four min_four   -- for this text's walks alone
set_option linter.unusedVariables false
set_option linter.unusedSimpArgs false
/-! ### impl_Alphabet_ties: function 94 -/
/-! ### laws_big: function 49 -/
def laws_big.f (l0 : List Int) : Option (Bool) := some (decide ((l0.length : Int) > 4096))
set_option maxHeartbeats 8000000 in
set_option maxRecDepth 100000 in
theorem laws_big.calls (A0 : Option Addr) (c0 : Nat) (l0 : List Int) (r : Bool) (w : World) (hr0 : Kd.C (Kd.int .u8) w A0 l0.length l0) (hc0 : l0.length ≤ c0) (h : laws_big.f l0 = some r) :
  Calls Tryd.prog 49 #[.slice A0 l0.length c0] w fun e w' => e = .returned (.bool r) ∧ Drawn0 w w' := by
 have HR0 := Aside0.mk hr0
 have HC0 := Aside0.mk hc0
 clear hr0 hc0
 have H : (some (decide ((l0.length : Int) > 4096))) = some r := h
 clear h
 obtain rfl := Option.some.inj H
 go_enter Tryd.func49, Tryd.ntmps49
 go_wp2
 go_ret
 exact ⟨eW, by repeat (first | exact Drawn0.refl _ | apply Drawn0.step)⟩
/-- A state of type 163 at block g of W; what its slices lead to came in by w0. -/
def IsS163 (w0 W : World) (g : Nat) (f0 : List Int) (f1 : Int) (f2 : Int) : Prop := ∃ A0 c0, W.heap[g]? = some (.cells #[.slice A0 f0.length c0, .int .i64 f1, .int .u64 f2] 163 (0, 0)) ∧ w0.heap.size ≤ g ∧ Kd.C (Kd.int .u8) w0 A0 f0.length f0
theorem IsS163.grown {w0 W : World} {g : Nat} {f0 : List Int} {f1 : Int} {f2 : Int} {W1 : World} {row : Option Nat} (h : IsS163 w0 W g f0 f1 f2) (hw : W.grownBy W1 row) (hne : some g ≠ row) : IsS163 w0 W1 g f0 f1 f2 := by
 obtain ⟨A0, c0, hb, hg, hr0⟩ := h
 exact ⟨A0, c0, blk_grown hb hw hne, hg, hr0⟩
theorem IsS163.kept {w0 W : World} {g : Nat} {f0 : List Int} {f1 : Int} {f2 : Int} {W1 : World} {S : Nat → Prop} (h : IsS163 w0 W g f0 f1 f2) (hk : Kept W W1 S) (hne : ¬ S g) : IsS163 w0 W1 g f0 f1 f2 := by
 obtain ⟨A0, c0, hb, hg, hr0⟩ := h
 exact ⟨A0, c0, blk_kept hb hk hne, hg, hr0⟩
theorem IsS163.below {w0 W : World} {g : Nat} {f0 : List Int} {f1 : Int} {f2 : Int} {W1 : World} (h : IsS163 w0 W g f0 f1 f2) (hw : Below W.heap.size W W1) : IsS163 w0 W1 g f0 f1 f2 := h.grown (grown_of_below hw none) (by simp)
theorem IsS163.alloc {w0 W : World} {g : Nat} {f0 : List Int} {f1 : Int} {f2 : Int} (h : IsS163 w0 W g f0 f1 f2) (o : Obj) : IsS163 w0 (W.alloc o) g f0 f1 f2 := h.below (below_alloc (Below.refl _ _) o)
theorem IsS163.drewN {w0 W : World} {g : Nat} {f0 : List Int} {f1 : Int} {f2 : Int} (h : IsS163 w0 W g f0 f1 f2) (m : Nat) : IsS163 w0 (W.drewN m) g f0 f1 f2 := h
theorem IsS163.drew {w0 W : World} {g : Nat} {f0 : List Int} {f1 : Int} {f2 : Int} (h : IsS163 w0 W g f0 f1 f2) : IsS163 w0 W.drew g f0 f1 f2 := h
theorem IsS163.at_ {w0 W : World} {g : Nat} {f0 : List Int} {f1 : Int} {f2 : Int} {w' : World} {m : Nat} (hq : W.drewN m = w') (h : IsS163 w0 W g f0 f1 f2) : IsS163 w0 w' g f0 f1 f2 := by subst hq; exact IsS163.drewN h m
theorem IsS163.apart {w0 W : World} {g : Nat} {f0 : List Int} {f1 : Int} {f2 : Int} {α : Type} {d : Kd α} {e : Nat} {base : Nat} {ok : Nat → Prop} {v : Value} {xs : List α} (h : IsS163 w0 W g f0 f1 f2) (ho : d.R e W base ok v xs) (ht : ∀ q, q ∈ e :: d.E → q ≠ 163) : d.R e W base (fun k => ok k ∧ k ≠ g) v xs := by
 obtain ⟨A0, c0, hb, hg, hr0⟩ := h
 exact Kd.R_types ho hb ht
theorem IsS163.own_ne {w0 W : World} {g : Nat} {f0 : List Int} {f1 : Int} {f2 : Int} {α : Type} {d : Kd α} {e : Nat} {base : Nat} {ok : Nat → Prop} {v : Value} {xs : List α} (h : IsS163 w0 W g f0 f1 f2) (ho : d.R e W base ok v xs) (ht : e ≠ 163) : some g ≠ v.ownBlock := by
 obtain ⟨A0, c0, hb, hg, hr0⟩ := h
 exact Kd.R_ne ho hb ht
theorem IsS163.lt {w0 W : World} {g : Nat} {f0 : List Int} {f1 : Int} {f2 : Int} (h : IsS163 w0 W g f0 f1 f2) : g < W.heap.size := by
 obtain ⟨A0, c0, hb, hg, hr0⟩ := h
 exact blk_lt hb
theorem IsS163.ge {w0 W : World} {g : Nat} {f0 : List Int} {f1 : Int} {f2 : Int} (h : IsS163 w0 W g f0 f1 f2) : w0.heap.size ≤ g := by
 obtain ⟨A0, c0, hb, hg, hr0⟩ := h
 exact hg
theorem IsS163.ne_blk {w0 W : World} {g : Nat} {f0 : List Int} {f1 : Int} {f2 : Int} {a : Nat} {cs : Array Value} {t : TypeId} {fr : Nat × Nat} (h : IsS163 w0 W g f0 f1 f2) (hb2 : W.heap[a]? = some (.cells cs t fr)) (ht : t ≠ 163) : g ≠ a := by
 obtain ⟨A0, c0, hb, hg, hr0⟩ := h
 rintro rfl
 rw [hb] at hb2
 injection hb2 with hb2
 injection hb2 with _ ht2
 exact ht ht2.symm
theorem IsS163.far {w0 W : World} {g : Nat} {f0 : List Int} {f1 : Int} {f2 : Int} {p : Addr} (h : IsS163 w0 W g f0 f1 f2) (hne : g ≠ p.block) (u : Value) : IsS163 w0 (W.setCell p u) g f0 f1 f2 := by
 obtain ⟨A0, c0, hb, hg, hr0⟩ := h
 exact ⟨A0, c0, blk_far hb hne u, hg, hr0⟩
theorem cellS163_0 {W : World} {g : Nat} {A0 : Option Addr} {c0 : Nat} {f0 : List Int} {f1 : Int} {f2 : Int} (h : W.heap[g]? = some (.cells #[.slice A0 f0.length c0, .int .i64 f1, .int .u64 f2] 163 (0, 0))) : W.cell? ⟨g, 0, none⟩ = some (.slice A0 f0.length c0) := (blk_cell h 0).trans rfl
theorem cellS163_1 {W : World} {g : Nat} {A0 : Option Addr} {c0 : Nat} {f0 : List Int} {f1 : Int} {f2 : Int} (h : W.heap[g]? = some (.cells #[.slice A0 f0.length c0, .int .i64 f1, .int .u64 f2] 163 (0, 0))) : W.cell? ⟨g, 1, none⟩ = some (.int .i64 f1) := (blk_cell h 1).trans rfl
theorem IsS163.set_1 {w0 W : World} {g : Nat} {f0 : List Int} {f1 : Int} {f2 : Int} (h : IsS163 w0 W g f0 f1 f2) (x : Int) : IsS163 w0 (W.setCell ⟨g, 1, none⟩ (.int .i64 x)) g f0 x f2 := by
 obtain ⟨A0, c0, hb, hg, hr0⟩ := h
 exact ⟨A0, c0, by simpa using blk_set hb 1 (.int .i64 x), hg, hr0⟩
theorem cellS163_2 {W : World} {g : Nat} {A0 : Option Addr} {c0 : Nat} {f0 : List Int} {f1 : Int} {f2 : Int} (h : W.heap[g]? = some (.cells #[.slice A0 f0.length c0, .int .i64 f1, .int .u64 f2] 163 (0, 0))) : W.cell? ⟨g, 2, none⟩ = some (.int .u64 f2) := (blk_cell h 2).trans rfl
theorem IsS163.set_2 {w0 W : World} {g : Nat} {f0 : List Int} {f1 : Int} {f2 : Int} (h : IsS163 w0 W g f0 f1 f2) (x : Int) : IsS163 w0 (W.setCell ⟨g, 2, none⟩ (.int .u64 x)) g f0 f1 x := by
 obtain ⟨A0, c0, hb, hg, hr0⟩ := h
 exact ⟨A0, c0, by simpa using blk_set hb 2 (.int .u64 x), hg, hr0⟩
/-! ### spec_l01From: function 95 -/
def spec_l01From.l0 : Nat → List Int → Int → List Int → Int → Int → Option (List Int × Int × Int)
 | 0, _, _, _, _, _ => none
 | k + 1, x0, x4, x1058000, x1058001, x1058002 => if x4 < (x0.length : Int) then (if x4 < 4096 then (if 0 ≤ x4 then (spec_l01From.l0 k x0 (wrap64 (x4 + 1)) x1058000 x1058001 (IntKind.u64.wrap ((IntKind.u64.wrap ((IntKind.u64.wrap (x1058002 * 1099511628211)) + (IntKind.u64.wrap (rd x0 x4)))) + 11))) else (none)) else (some (x1058000, x1058001, x1058002))) else (some (x1058000, x1058001, x1058002))
def spec_l01From.f (k : Nat) (l0 : List Int) : Option (List Int × Int × Int) := spec_l01From.l0 k l0 0 l0 0 (IntKind.u64.wrap (9341 + (IntKind.u64.wrap ((l0.length : Int)))))
def spec_l01From.T5 : Bool × List (List Nat × List Nat) := (true, [([], []), ([], []), ([1], [1]), ([2], [2]), ([3], [3]), ([4], [4]), ([], []), ([], []), ([6, 7], [6, 7]), ([8], [8]), ([9], [9]), ([5, 10], [5, 10]), ([11], [11]), ([0, 0, 1, 2, 3, 4, 5, 6, 7, 8, 9, 10, 11, 12], [0]), ([13, 0, 1, 2, 3, 4, 5, 6, 7, 8, 9, 10, 11, 12], [13]), ([14, 12, 0, 1, 2, 3, 4, 5, 6, 7, 8, 9, 10, 11, 12], [12, 14])])
def spec_l01From.B5 : List Nat := [0, 0, 2, 6, 14, 30, 0, 0, 192, 448, 960, 2046, 4094, 8191, 16383, 32767]
theorem spec_l01From.tab5 : rtab .any (opsOf Tryd.f95 5) = spec_l01From.T5 := by kernel_rfl
theorem spec_l01From.bits5 : waitsOk spec_l01From.T5.2 spec_l01From.B5 = true := by kernel_rfl
set_option maxHeartbeats 8000000 in
set_option maxRecDepth 100000 in
theorem spec_l01From.calls (k : Nat) (A0 : Option Addr) (c0 : Nat) (l0 : List Int) (r1 : List Int) (r2 : Int) (r3 : Int) (w0 w : World) (hB : Below w0.heap.size w0 w) (hr0 : Kd.C (Kd.int .u8) w0 A0 l0.length l0) (hc0 : l0.length ≤ c0) (h : spec_l01From.f k l0 = some (r1, r2, r3)) :
  Calls Tryd.prog 95 #[.slice A0 l0.length c0] w fun e w' => ∃ g_ : Nat, e = .returned (.pointer (some ⟨g_, 0, none⟩)) ∧ IsS163 w0 w' g_ r1 r2 r3 ∧ Below w0.heap.size w0 w' ∧ Below w.heap.size w w' := by
 have hu163 := Tryd.underlying163
 have HR0 := Aside0.mk hr0
 have HC0 := Aside0.mk hc0
 clear hr0 hc0
 have HBW := Aside0.mk (Below.refl w.heap.size w)
 have HW0 := Aside0.mk hB.size
 have HB := Aside0.mk hB
 clear hB
 have H : (spec_l01From.l0 k l0 0 l0 0 (IntKind.u64.wrap (9341 + (IntKind.u64.wrap ((l0.length : Int)))))) = some (r1, r2, r3) := h
 clear h
 have H' := Aside0.mk H
 clear H
 go_enter Tryd.func95, Tryd.ntmps95
 go_wp2_with (first | ((with_reducible refine gate_dst (N := 11) rfl ?_); refine box_event ?hg (N := 11) ?hd (cs := #[.slice A0 l0.length c0, .int .i64 0, .int .u64 (IntKind.u64.wrap (9341 + (IntKind.u64.wrap ((l0.length : Int)))))]) (t := 163) ?hr ?_; (case hd => rfl); (case hg => rfl); (case hr => first | (go_simp; done) | (go_simp; rfl)); intro gb1057 hg w2 hbox hb; have n0_ := Aside0.mk (below_step HBW.out hb); have n1_ := Aside0.mk (below_step (bW) hb); have n2_ := Aside0.mk (hbox); have n3_ := Aside0.mk ((by rw [hg]; exact (below_size (by repeat (first | (with_reducible first | exact HBW.out | apply below_alloc | apply pw_below_drewN | apply below_drew1) | exact HBW.out))) : w.heap.size ≤ gb1057)); have n4_ := Aside0.mk ((Nat.le_trans HW0.out (by rw [hg]; exact (below_size (by repeat (first | (with_reducible first | exact HBW.out | apply below_alloc | apply pw_below_drewN | apply below_drew1) | exact HBW.out))) : w.heap.size ≤ gb1057) : w0.heap.size ≤ gb1057)); clear HBW HB; have HBW := n0_; have HB := n1_; have BK1057 := n2_; have GW1057 := n3_; have GE1057 := n4_; clear n0_ n1_ n2_ n3_ n4_ hb hbox hg))
 go_loopg [4] k (fun kq v4 w' => ∃ (x4_1 : Int) (x1058002_1 : Int), v4 = .int .i64 x4_1 ∧ Aside0 (spec_l01From.l0 kq l0 x4_1 l0 0 x1058002_1 = some (r1, r2, r3)) ∧ Aside0 (kq ≤ k) ∧ Aside0 (w'.heap[gb1057]? = some (.cells #[(.slice A0 l0.length c0), .int .i64 0, .int .u64 x1058002_1] 163 (0, 0))) ∧ Aside0 (Below w.heap.size w w') ∧ Aside0 (Below w0.heap.size w0 w'))
 case atStart => exact ⟨(0), (IntKind.u64.wrap (9341 + (IntKind.u64.wrap ((l0.length : Int))))), (eW), H', ⟨Nat.le_refl _⟩, ⟨(bP BK1057.out)⟩, ⟨by repeat (first | (with_reducible first | exact HBW.out | apply below_alloc | apply pw_below_drewN | apply below_drew1 | refine below_set ?_ GW1057.out) | exact HBW.out)⟩, ⟨bW⟩⟩
 case round =>
  clear H'
  try clear p2
  obtain ⟨x4_1, x1058002_1, rfl, HA, HK1, BK1057, HBW, HB⟩ := hrel
  cases gk with
  | zero => exact absurd HA.out (by simp [spec_l01From.l0])
  | succ k1 =>
   have H := HA.out
   clear HA
   simp only [spec_l01From.l0] at H
   by_cases c3 : x4_1 < (l0.length : Int)
   ·rw [if_pos c3] at H
    have c3b0 : decide (x4_1 < (l0.length : Int)) = true := decide_eq_true c3
    clear c3
    by_cases c4 : x4_1 < 4096
    ·rw [if_pos c4] at H
     have c4b0 : decide (x4_1 < 4096) = true := decide_eq_true c4
     clear c4
     by_cases c5 : 0 ≤ x4_1
     ·rw [if_pos c5] at H
      have c5b0 : decide (0 ≤ x4_1) = true := decide_eq_true c5
      clear c5
      have H' := Aside0.mk H
      clear H
      try go_wp2
      have n0_ := Aside0.mk (blk_drew BK1057.out)
      have n1_ := Aside0.mk (below_drew1 HB.out)
      have n2_ := Aside0.mk (below_drew1 HBW.out)
      clear BK1057 HB HBW; have BK1057 := n0_; have HB := n1_; have HBW := n2_; clear n0_ n1_ n2_
      have p1058 : 0 ≤ (x4_1 : Int) := ofD
      have q1058 : x4_1 < (l0.length : Int) := ofD
      obtain ⟨ad1058, e1058, hx1058_0⟩ := Kd.at_int HR0.out x4_1 p1058 q1058
      have hw1058_0 := hx1058_0
      cases e1058
      replace hx1058_0 := pw_cell_below HB.out hx1058_0
      replace p1058 := eq_true p1058
      replace q1058 := eq_true q1058
      refine start_ (n := 16) (S := fun w' => w'.cell? ⟨gb1057, 0, none⟩ = some (.slice (some ad1058) l0.length c0) ∧ w'.cell? ⟨gb1057, 1, none⟩ = some (.int .i64 0) ∧ w'.cell? ⟨gb1057, 2, none⟩ = some (.int .u64 x1058002_1) ∧ w'.cell? (ad1058.add (x4_1).toNat) = some (.int .u8 (rd l0 x4_1))) (ds := [15]) #[false, false, false, false, false, false, false, false, false, false, false, false, false, false, false, false] (by kernel_rfl) rfl rfl ⟨(blk_cell BK1057.out 0).trans rfl, (blk_cell BK1057.out 1).trans rfl, (blk_cell BK1057.out 2).trans rfl, ((HB.out.cell (World.block_lt_of_cell? w0 _ hw1058_0)).trans hw1058_0)⟩ (fun hHeld => ?_); refine with_tabW spec_l01From.tab5 spec_l01From.bits5 (fun HT_ HW_ => ?_)
      generalize wr.drew = w6 at BK1057 HB HBW hx1058_0 hHeld ⊢
      refine pureS (i := 0) (N := some 22) (any_of HT_.out (by kernel_rfl)) ?_
      refine pureS (i := 1) (N := some 23) (any_of HT_.out (by kernel_rfl)) ?_
      refine pureS (i := 2) (N := some 24) (any_of HT_.out (by kernel_rfl)) ?_
      refine pureS (i := 3) (N := some 25) (any_of HT_.out (by kernel_rfl)) ?_
      refine pureS (i := 6) (N := some 28) (any_of HT_.out (by kernel_rfl)) ?_
      refine pureS (i := 7) (N := some 29) (any_of HT_.out (by kernel_rfl)) ?_
      refine pureS (i := 8) (N := some 30) (any_of HT_.out (by kernel_rfl)) ?_
      refine takeS (i := 4) (N := some 26) (take_ofW HT_.out HW_.out (by kernel_rfl)) hHeld ?_
      refine pureS (i := 5) (N := some 27) (any_of HT_.out (by kernel_rfl)) ?_
      refine takeS (i := 9) (N := some 31) (take_ofW HT_.out HW_.out (by kernel_rfl)) hHeld ?_
      refine pureS (i := 10) (N := some 32) (any_of HT_.out (by kernel_rfl)) ?_
      refine pureS (i := 11) (N := some 33) (any_of HT_.out (by kernel_rfl)) ?_
      refine pureS (i := 12) (N := some 34) (any_of HT_.out (by kernel_rfl)) ?_
      refine pureS (i := 13) (N := some 35) (any_of HT_.out (by kernel_rfl)) ?_
      refine pureS (i := 14) (N := some 36) (any_of HT_.out (by kernel_rfl)) ?_
      refine last_ (i := 15) (N := none) #[true, true, true, true, true, true, true, true, true, true, true, true, true, true, true, true] rfl rfl (one_of HT_.out (by kernel_rfl)) (by decide) (fun K hK => ?_)
      have hs7 : w6.cell? ⟨gb1057, 2, none⟩ = some (.int .u64 x1058002_1) := (blk_cell BK1057.out 2).trans rfl
      have hfs7 := blk_frozen BK1057.out 2
      refine skip_ (w1 := ?_) (by rfl) rfl ?_ ?_
      rotate_left
      ·go_simp
       rfl
      refine hK.out _ _ ?_
      clear hK K
      refine done_ (done_of HT_.out (by kernel_rfl)) ?_
      try go_wp2
      go_roundg k1
      case measure => have := HK1.out; omega
      case rel => exact ⟨(wrap64 (x4_1 + 1)), (IntKind.u64.wrap ((IntKind.u64.wrap ((IntKind.u64.wrap (x1058002_1 * 1099511628211)) + (IntKind.u64.wrap (rd l0 x4_1)))) + 11)), (eW), H', ⟨by have := HK1.out; omega⟩, ⟨by (with_reducible repeat (first | refine blk_drewN ?_ _ | refine blk_drew ?_ | refine blk_alloc ?_ _)); refine blk_put (cs := #[.slice (some ad1058) l0.length c0, .int .i64 0, .int .u64 x1058002_1]) ?_ 2 _ rfl; exact bP BK1057.out⟩, ⟨by repeat (first | (with_reducible first | exact HBW.out | apply below_alloc | apply pw_below_drewN | apply below_drew1 | refine below_set ?_ GW1057.out) | exact HBW.out)⟩, ⟨bW⟩⟩
     ·rw [if_neg c5] at H
      exact absurd H (by simp)
    ·rw [if_neg c4] at H
     have c4b0 : decide (x4_1 < 4096) = false := decide_eq_false c4
     clear c4
     simp only [Option.some.injEq, Prod.mk.injEq] at H
     obtain ⟨rfl, rfl, rfl⟩ := H
     go_wp2
     go_ret
     exact ⟨_, rfl, (show IsS163 w0 _ gb1057 l0 0 x1058002_1 from ⟨_, _, (bP BK1057.out), GE1057.out, HR0.out⟩), bW, by repeat (first | (with_reducible first | exact HBW.out | apply below_alloc | apply pw_below_drewN | apply below_drew1 | refine below_set ?_ GW1057.out) | exact HBW.out)⟩
   ·rw [if_neg c3] at H
    have c3b0 : decide (x4_1 < (l0.length : Int)) = false := decide_eq_false c3
    clear c3
    simp only [Option.some.injEq, Prod.mk.injEq] at H
    obtain ⟨rfl, rfl, rfl⟩ := H
    go_wp2
    go_ret
    exact ⟨_, rfl, (show IsS163 w0 _ gb1057 l0 0 x1058002_1 from ⟨_, _, (bP BK1057.out), GE1057.out, HR0.out⟩), bW, by repeat (first | (with_reducible first | exact HBW.out | apply below_alloc | apply pw_below_drewN | apply below_drew1 | refine below_set ?_ GW1057.out) | exact HBW.out)⟩
/-! ### spec_l01Next: function 97 -/
def spec_l01Next.f (s0_0 : List Int) (s0_1 : Int) (s0_2 : Int) (a1 : Int) : Option (Int × Int × Int) := if a1 < 1 then (some (0, s0_1, s0_2)) else (if s0_1 < (s0_0.length : Int) then (if 0 ≤ s0_1 then (if a1 = 0 then (none) else (some (Int.tmod (wrap64 ((wrap64 (Go.bits .and .u64 ((IntKind.u64.wrap ((IntKind.u64.wrap (s0_2 * 6364136223846793005)) + 1442695040888963407)) / 8589934592) 16777215)) + (wrap64 (rd s0_0 s0_1)))) a1, wrap64 (s0_1 + 1), IntKind.u64.wrap ((IntKind.u64.wrap (s0_2 * 6364136223846793005)) + 1442695040888963407)))) else (none)) else (if a1 = 0 then (none) else (some (Int.tmod (wrap64 (Go.bits .and .u64 ((IntKind.u64.wrap ((IntKind.u64.wrap (s0_2 * 6364136223846793005)) + 1442695040888963407)) / 8589934592) 16777215)) a1, s0_1, IntKind.u64.wrap ((IntKind.u64.wrap (s0_2 * 6364136223846793005)) + 1442695040888963407)))))
set_option maxHeartbeats 8000000 in
set_option maxRecDepth 100000 in
theorem spec_l01Next.calls (g : Nat) (s0_0 : List Int) (s0_1 : Int) (s0_2 : Int) (a1 : Int) (r1 : Int) (r2 : Int) (r3 : Int) (w0 w : World) (hI : IsS163 w0 w g s0_0 s0_1 s0_2) (hB : Below w0.heap.size w0 w) (h : spec_l01Next.f s0_0 s0_1 s0_2 a1 = some (r1, r2, r3)) :
  Calls Tryd.prog 97 #[.pointer (some ⟨g, 0, none⟩), .int .i64 a1] w fun e w' => e = .returned (.int .i64 r1) ∧ IsS163 w0 w' g s0_0 r2 r3 ∧ Below w0.heap.size w0 w' ∧ KeepBut w w' g none := by
 have HI0 := Aside0.mk hI
 have HK := Aside0.mk (KeepBut.refl w g none)
 have HL := Aside0.mk hB.size
 clear hI
 have HW0 := Aside0.mk hB.size
 have HB := Aside0.mk hB
 clear hB
 have H : (if a1 < 1 then (some (0, s0_1, s0_2)) else (if s0_1 < (s0_0.length : Int) then (if 0 ≤ s0_1 then (if a1 = 0 then (none) else (some (Int.tmod (wrap64 ((wrap64 (Go.bits .and .u64 ((IntKind.u64.wrap ((IntKind.u64.wrap (s0_2 * 6364136223846793005)) + 1442695040888963407)) / 8589934592) 16777215)) + (wrap64 (rd s0_0 s0_1)))) a1, wrap64 (s0_1 + 1), IntKind.u64.wrap ((IntKind.u64.wrap (s0_2 * 6364136223846793005)) + 1442695040888963407)))) else (none)) else (if a1 = 0 then (none) else (some (Int.tmod (wrap64 (Go.bits .and .u64 ((IntKind.u64.wrap ((IntKind.u64.wrap (s0_2 * 6364136223846793005)) + 1442695040888963407)) / 8589934592) 16777215)) a1, s0_1, IntKind.u64.wrap ((IntKind.u64.wrap (s0_2 * 6364136223846793005)) + 1442695040888963407)))))) = some (r1, r2, r3) := h
 clear h
 by_cases c3 : a1 < 1
 ·rw [if_pos c3] at H
  have c3b0 : decide (a1 < 1) = true := decide_eq_true c3
  clear c3
  simp only [Option.some.injEq, Prod.mk.injEq] at H
  obtain ⟨rfl, rfl, rfl⟩ := H
  go_enter Tryd.func97, Tryd.ntmps97
  go_wp2
  repeat (go_quiet (fail); try go_wp2)
  go_ret
  exact ⟨eW, by repeat (first | (with_reducible first | exact HI0.out | apply IsS163.alloc | apply IsS163.drewN | apply IsS163.drew | apply IsS163.set_1 | apply IsS163.set_2) | exact HI0.out), by repeat (first | (with_reducible first | exact HB.out | apply below_alloc | apply pw_below_drewN | apply below_drew1 | refine below_set ?_ (IsS163.ge HI0.out)) | exact HB.out), by repeat (first | (with_reducible first | exact HK.out | apply KeepBut.set_ | apply keep_drewN | apply keep_drew | apply keep_alloc) | exact HK.out)⟩
 ·rw [if_neg c3] at H
  have c3b0 : decide (a1 < 1) = false := decide_eq_false c3
  clear c3
  by_cases c4 : s0_1 < (s0_0.length : Int)
  ·rw [if_pos c4] at H
   have c4b0 : decide (s0_1 < (s0_0.length : Int)) = true := decide_eq_true c4
   clear c4
   by_cases c5 : 0 ≤ s0_1
   ·rw [if_pos c5] at H
    have c5b0 : decide (0 ≤ s0_1) = true := decide_eq_true c5
    clear c5
    by_cases c6 : a1 = 0
    ·rw [if_pos c6] at H
     exact absurd H (by simp)
    ·rw [if_neg c6] at H
     have c6b0 : (a1 == 0) = false := beq_eq_false_iff_ne.mpr c6
     have c6b1 : (a1 != 0) = true := bne_iff_ne.mpr c6
     simp only [Option.some.injEq, Prod.mk.injEq] at H
     obtain ⟨rfl, rfl, rfl⟩ := H
     obtain ⟨ASz7_0, cSz7_0, HGz7, hgz7, HSz7_0⟩ := HI0.out
     have hcz7_0 := cellS163_0 HGz7
     have hcz7_1 := cellS163_1 HGz7
     have hcz7_2 := cellS163_2 HGz7
     have hfz7_1 := blk_frozen HGz7 1
     have hfz7_2 := blk_frozen HGz7 2
     clear HGz7 hgz7
     have p1059 : 0 ≤ (s0_1 : Int) := ofD
     have q1059 : s0_1 < (s0_0.length : Int) := ofD
     obtain ⟨ad1059, e1059, hx1059_0⟩ := Kd.at_int HSz7_0 s0_1 p1059 q1059
     cases e1059
     have hn1059_0 : ad1059.block ≠ g := Nat.ne_of_lt (Nat.lt_of_lt_of_le (by have := World.block_lt_of_cell? _ _ hx1059_0; first | rwa [add_block] at this | exact this) (IsS163.ge HI0.out))
     replace hx1059_0 := pw_cell_below HB.out hx1059_0
     replace hx1059_0 := (cell_far (p := ⟨g, 2, none⟩) (by first | (rw [add_block]; exact hn1059_0) | (show (Addr.add _ _).block ≠ _; rw [add_block]; exact hn1059_0) | exact hn1059_0) (.int .u64 (IntKind.u64.wrap ((IntKind.u64.wrap (s0_2 * 6364136223846793005)) + 1442695040888963407)))).trans hx1059_0
     (try have hy1059_0 := fun (n_ : Nat) => (show (((w.drewN n_).setCell ⟨g, 2, none⟩ (.int .u64 (IntKind.u64.wrap ((IntKind.u64.wrap (s0_2 * 6364136223846793005)) + 1442695040888963407))))).cell? _ = some _ from hx1059_0))
     clear hn1059_0
     replace p1059 := eq_true p1059
     replace q1059 := eq_true q1059
     go_enter Tryd.func97, Tryd.ntmps97
     go_wp2
     repeat (go_quiet (fail); try go_wp2)
     go_ret
     exact ⟨eW, by repeat (first | (with_reducible first | exact HI0.out | apply IsS163.alloc | apply IsS163.drewN | apply IsS163.drew | apply IsS163.set_1 | apply IsS163.set_2) | exact HI0.out), by repeat (first | (with_reducible first | exact HB.out | apply below_alloc | apply pw_below_drewN | apply below_drew1 | refine below_set ?_ (IsS163.ge HI0.out)) | exact HB.out), by repeat (first | (with_reducible first | exact HK.out | apply KeepBut.set_ | apply keep_drewN | apply keep_drew | apply keep_alloc) | exact HK.out)⟩
   ·rw [if_neg c5] at H
    exact absurd H (by simp)
  ·rw [if_neg c4] at H
   have c4b0 : decide (s0_1 < (s0_0.length : Int)) = false := decide_eq_false c4
   clear c4
   by_cases c8 : a1 = 0
   ·rw [if_pos c8] at H
    exact absurd H (by simp)
   ·rw [if_neg c8] at H
    have c8b0 : (a1 == 0) = false := beq_eq_false_iff_ne.mpr c8
    have c8b1 : (a1 != 0) = true := bne_iff_ne.mpr c8
    simp only [Option.some.injEq, Prod.mk.injEq] at H
    obtain ⟨rfl, rfl, rfl⟩ := H
    obtain ⟨ASz9_0, cSz9_0, HGz9, hgz9, HSz9_0⟩ := HI0.out
    have hcz9_0 := cellS163_0 HGz9
    have hcz9_1 := cellS163_1 HGz9
    have hcz9_2 := cellS163_2 HGz9
    have hfz9_1 := blk_frozen HGz9 1
    have hfz9_2 := blk_frozen HGz9 2
    clear HGz9 hgz9
    go_enter Tryd.func97, Tryd.ntmps97
    go_wp2
    repeat (go_quiet (fail); try go_wp2)
    go_ret
    exact ⟨eW, by repeat (first | (with_reducible first | exact HI0.out | apply IsS163.alloc | apply IsS163.drewN | apply IsS163.drew | apply IsS163.set_1 | apply IsS163.set_2) | exact HI0.out), by repeat (first | (with_reducible first | exact HB.out | apply below_alloc | apply pw_below_drewN | apply below_drew1 | refine below_set ?_ (IsS163.ge HI0.out)) | exact HB.out), by repeat (first | (with_reducible first | exact HK.out | apply KeepBut.set_ | apply keep_drewN | apply keep_drew | apply keep_alloc) | exact HK.out)⟩
/-! ### spec_l02Free: function 162 -/
def spec_l02Free.l0 : Nat → Int → Int → Int → List Int → Option (Int × List Int)
 | 0, _, _, _, _ => none
 | k + 1, x0, x4, x1065000, x1065001 => if x4 < x0 then ((spec_l01One.f x4).bind fun t1065 => (if x1065001.length < 17592186044416 then (spec_l02Free.l0 k x0 (wrap64 (x4 + 1)) x1065000 (x1065001 ++ [t1065])) else (none))) else (some (x1065000, x1065001))
def spec_l02Free.f (k : Nat) (a0 : Int) : Option (Int × List Int) := spec_l02Free.l0 k a0 0 a0 (([] : List Int))
def spec_l02Free.T5 : Bool × List (List Nat × List Nat) := (true, [([], []), ([0], [0]), ([], []), ([2], [2]), ([3], [3]), ([1, 4, 3], [1, 4]), ([0, 1, 2, 3, 4, 5], []), ([6, 5, 5, 0, 1, 2, 3, 4, 5], [5, 6])])
def spec_l02Free.B5 : List Nat := [0, 1, 0, 4, 12, 31, 63, 127]
theorem spec_l02Free.tab5 : rtab .any (opsOf Tryd.f162 5) = spec_l02Free.T5 := by kernel_rfl
theorem spec_l02Free.bits5 : waitsOk spec_l02Free.T5.2 spec_l02Free.B5 = true := by kernel_rfl
set_option maxHeartbeats 8000000 in
set_option maxRecDepth 100000 in
theorem spec_l02Free.calls (k : Nat) (a0 : Int) (r1 : Int) (r2 : List Int) (w : World) (h : spec_l02Free.f k a0 = some (r1, r2)) :
  Calls Tryd.prog 162 #[.int .i64 a0] w fun e w' => ∃ v1_ : Value, e = .returned (.agg #[.int .i64 r1, v1_]) ∧ Kd.R (Kd.int .i64) 2 w' w.heap.size (fun _ => True) v1_ r2 ∧ Below w.heap.size w w' := by
 have hu29 := Tryd.underlying29
 have HB := Aside0.mk (Below.refl w.heap.size w)
 have H : (spec_l02Free.l0 k a0 0 a0 (([] : List Int))) = some (r1, r2) := h
 clear h
 obtain ⟨y1061, hy1061⟩ : ∃ y_ : List Int, y_ = (([] : List Int)) := ⟨_, rfl⟩
 replace H : (spec_l02Free.l0 k a0 0 a0 y1061) = some (r1, r2) := by first | (rw [hy1061]; with_reducible exact H) | (have H2_ := (Option.bind_some _ _).symm.trans H; rw [hy1061]; with_reducible exact H2_) | (have H2_ := (Option.bind_some _ _).symm.trans H; with_reducible exact H2_) | with_reducible exact H | (rw [hy1061]; exact H) | exact H
 have Ny1061 := Aside0.mk hy1061
 clear hy1061
 have H' := Aside0.mk H
 clear H
 go_enter Tryd.func162, Tryd.ntmps162
 go_wp2_with (first | ((with_reducible refine gate_dst (N := 2) rfl ?_); refine boxS (N := 2) (cs := #[.int .i64 0, .slice none 0 0]) (t := 29) ?_; intro gb1060 hg w2 hbox hb; have n0_ := Aside0.mk (below_step (bW) hb); have n1_ := Aside0.mk (hbox); have n2_ := geW (w := w) hg; have n3_ := geW (w := w) hg; clear HB; have HB := n0_; have BK1060 := n1_; have GW1060 := n2_; have GE1060 := n3_; clear n0_ n1_ n2_ n3_ hb hbox hg) | ((with_reducible refine gate_dst (N := 6) rfl ?_); refine Kd.R_lit (Kd.int .i64) _ 2 ?hg (N := 6) ?hd (xs := ([] : List Int)) (inner := []) (ok := fun _ => True) (okp := fun _ => True) ?hr ?hp (fun _ hk => hk) trivial (Below.refl _ _) (Nat.le_refl _) (by simp) ?_; (case hd => rfl); (case hg => rfl); (case hr => first | (go_simp; done) | (go_simp; rfl)); (case hp => exact (Reps.none _ _)); intro v1062 w3 ho4 hb hg_ hnew_; clear hg_ hnew_; (first | rw [← Ny1061.out] at ho4 | (simp only [Int.reduceToNat] at ho4; rw [← Ny1061.out] at ho4)); have n0_ := Aside0.mk (Kd.R_lower ho4 (below_size (bW))); have n1_ := Aside0.mk (blkB BK1060.out hb); have n2_ := Aside0.mk (below_step (bW) hb); clear BK1060 HB; have HO1063 := n0_; have BK1060 := n1_; have HB := n2_; clear n0_ n1_ n2_ hb ho4; obtain ⟨Ao5, co5, eo5⟩ := Kd.R_slice HO1063.out; subst eo5) | ((with_reducible refine gate_dst (N := 3) rfl ?_); refine boxS (N := 3) (cs := #[.int .i64 0, .slice none 0 0]) (t := 29) ?_; intro gb1064 hg w6 hbox hb; have n0_ := Aside0.mk (Kd.R_below (rP HO1063.out) hb); have n1_ := Aside0.mk (blkB BK1060.out hb); have n2_ := Aside0.mk (below_step (bW) hb); have n3_ := Aside0.mk (hbox); have n4_ := geW (w := w) hg; have n5_ := geW (w := w) hg; have n6_ := Aside0.mk ((by rw [hg]; exact Nat.ne_of_lt (blk_lt (g := gb1060) (o := .cells #[.int .i64 0, .slice none 0 0] 29 (0, 0)) (bP BK1060.out)) : gb1060 ≠ gb1064)); have n7_ := Aside0.mk ((by rw [hg]; exact Nat.ne_of_gt (blk_lt (g := gb1060) (o := .cells #[.int .i64 0, .slice none 0 0] 29 (0, 0)) (bP BK1060.out)) : gb1064 ≠ gb1060)); clear HO1063 BK1060 HB; have HO1063 := n0_; have BK1060 := n1_; have HB := n2_; have BK1064 := n3_; have GW1064 := n4_; have GE1064 := n5_; have NB1060_1064 := n6_; have NB1064_1060 := n7_; clear n0_ n1_ n2_ n3_ n4_ n5_ n6_ n7_ hb hbox hg; have hnb7 := NB1064_1060.out; have hnc7 := NB1060_1064.out; obtain ⟨hcz8_0, hcz8_1⟩ := cells2 BK1064.out; obtain ⟨hfz8_0, hfz8_1⟩ := frz2 BK1064.out))
 go_loopg [4] k (fun kq v4 w' => ∃ (x4_1 : Int) (x1065001_1 : List Int) (u1065001 : Value), v4 = .int .i64 x4_1 ∧ Aside0 (spec_l02Free.l0 kq a0 x4_1 a0 x1065001_1 = some (r1, r2)) ∧ Aside0 (kq ≤ k) ∧ Aside0 (Kd.R (Kd.int .i64) 2 w' w.heap.size (fun _ => True) u1065001 x1065001_1) ∧ Aside0 (w'.heap[gb1060]? = some (.cells #[.int .i64 0, (.slice none 0 0)] 29 (0, 0))) ∧ Aside0 (w'.heap[gb1064]? = some (.cells #[.int .i64 a0, u1065001] 29 (0, 0))) ∧ Aside0 (Below w.heap.size w w'))
 case atStart => exact ⟨(0), (y1061), (.slice Ao5 y1061.length co5), (eW), H', ⟨Nat.le_refl _⟩, ⟨by (with_reducible repeat (first | apply Kd.R_alloc | apply Kd.R_drewN | apply Kd.R_drew)); exact Kd.R_mono (Kd.R_far (p := ⟨gb1064, 1, none⟩) (Kd.R_far (p := ⟨gb1064, 0, none⟩) (Kd.R_types HO1063.out BK1064.out (by decide)) (fun _ hk => hk.2) (.int .i64 a0)) (fun _ hk => hk.2) (.slice Ao5 y1061.length co5)) (fun _ hk => trivial)⟩, ⟨by (with_reducible repeat (first | refine blk_drewN ?_ _ | refine blk_drew ?_ | refine blk_alloc ?_ _)); refine blk_far ?_ NB1060_1064.out _; (with_reducible repeat (first | refine blk_drewN ?_ _ | refine blk_drew ?_ | refine blk_alloc ?_ _)); refine blk_far ?_ NB1060_1064.out _; exact bP BK1060.out⟩, ⟨by (with_reducible repeat (first | refine blk_drewN ?_ _ | refine blk_drew ?_ | refine blk_alloc ?_ _)); refine blk_put (cs := #[.int .i64 a0, .slice none 0 0]) ?_ 1 _ rfl; (with_reducible repeat (first | refine blk_drewN ?_ _ | refine blk_drew ?_ | refine blk_alloc ?_ _)); refine blk_put (cs := #[.int .i64 0, .slice none 0 0]) ?_ 0 _ rfl; exact bP BK1064.out⟩, ⟨bW⟩⟩
 case round =>
  clear H'
  try clear c1
  try clear p2
  try clear c7
  try clear hcz8_0
  try clear hcz8_1
  try clear hfz8_0
  try clear hfz8_1
  obtain ⟨x4_1, x1065001_1, u1065001, rfl, HA, HK1, HO_1065001, BK1060, BK1064, HB⟩ := hrel
  cases gk with
  | zero => exact absurd HA.out (by simp [spec_l02Free.l0])
  | succ k1 =>
   have H := HA.out
   clear HA
   simp only [spec_l02Free.l0] at H
   by_cases c9 : x4_1 < a0
   ·rw [if_pos c9] at H
    have c9b0 : decide (x4_1 < a0) = true := decide_eq_true c9
    clear c9
    replace H := Option.bind_eq_some_iff.mp H
    obtain ⟨t1065, A100, H⟩ := H
    replace H : (if x1065001_1.length < 17592186044416 then (spec_l02Free.l0 k1 a0 (wrap64 (x4_1 + 1)) a0 (x1065001_1 ++ [t1065])) else (none)) = some (r1, r2) := H
    have A10 := Aside0.mk A100
    clear A100
    by_cases c11 : x1065001_1.length < 17592186044416
    ·rw [if_pos c11] at H
     have LMc11 := Aside0.mk c11
     clear c11
     obtain ⟨y1066, hy1066⟩ : ∃ y_ : List Int, y_ = (x1065001_1 ++ [t1065]) := ⟨_, rfl⟩
     replace H : (spec_l02Free.l0 k1 a0 (wrap64 (x4_1 + 1)) a0 y1066) = some (r1, r2) := by first | (rw [hy1066]; with_reducible exact H) | (have H2_ := (Option.bind_some _ _).symm.trans H; rw [hy1066]; with_reducible exact H2_) | (have H2_ := (Option.bind_some _ _).symm.trans H; with_reducible exact H2_) | with_reducible exact H | (rw [hy1066]; exact H) | exact H
     have Ny1066 := Aside0.mk hy1066
     clear hy1066
     have H' := Aside0.mk H
     clear H
     try go_wp2
     have n0_ := Aside0.mk (Kd.R_drew HO_1065001.out)
     have n1_ := Aside0.mk (blk_drew BK1060.out)
     have n2_ := Aside0.mk (blk_drew BK1064.out)
     have n3_ := Aside0.mk (below_drew1 HB.out)
     clear HO_1065001 BK1060 BK1064 HB; have HO_1065001 := n0_; have BK1060 := n1_; have BK1064 := n2_; have HB := n3_; clear n0_ n1_ n2_ n3_
     refine start_ (n := 8) (S := fun w' => w'.cell? ⟨gb1064, 0, none⟩ = some (.int .i64 a0) ∧ w'.cell? ⟨gb1064, 1, none⟩ = some (u1065001)) (ds := [7]) #[false, false, false, false, false, false, false, false] (by kernel_rfl) rfl rfl ⟨(blk_cell BK1064.out 0).trans rfl, (blk_cell BK1064.out 1).trans rfl⟩ (fun hHeld => ?_); refine with_tabW spec_l02Free.tab5 spec_l02Free.bits5 (fun HT_ HW_ => ?_)
     generalize wr.drew = w12 at HO_1065001 BK1060 BK1064 HB hHeld ⊢
     refine pureS (i := 0) (N := some 13) (any_of HT_.out (by kernel_rfl)) ?_
     refine pureS (i := 2) (N := some 15) (any_of HT_.out (by kernel_rfl)) ?_
     refine takeS (i := 1) (N := some 14) (take_ofW HT_.out HW_.out (by kernel_rfl)) hHeld ?_
     refine one_ (i := 3) (N := some 16) #[true, true, true, true, false, false, false, false] rfl rfl (one_of HT_.out (by kernel_rfl)) (by decide) (fun K hK => ?_)
     refine goes_ Tryd.func89 (by kernel_rfl) rfl #[.int .i64 x4_1] (by rfl) rfl rfl (by (try simp only [List.map_toArray, List.map_cons, List.map_nil]); first | done | rfl | (simp only [List.length_drop, List.length_take]; rfl)) ?_
     with_reducible refine (spec_l01One.calls x4_1 t1065 _ A10.out).mono ?_
     rintro e w' ⟨rfl, ⟨nd, rfl⟩⟩
     refine ⟨_, rfl, ?_⟩
     refine hK.out _ _ ⟨(blk_cell BK1064.out 0).trans rfl, (blk_cell BK1064.out 1).trans rfl⟩ (fun hHeld => ?_)
     clear hK K
     refine norm_ (a' := ?_) ?_ ?_
     rotate_left
     ·show Act.put _ (some 16) _ = _
      simp only [Act.put, List.setIfInBounds_toArray, List.set_cons_zero, List.set_cons_succ, i64_w, i32_w]
      rfl
     refine one_ (i := 4) (N := some 17) #[true, true, true, true, true, false, false, false] rfl rfl (one_of HT_.out (by kernel_rfl)) (by decide) (fun K hK => ?_)
     refine value_ (w1 := ?_) (v := ?_) (by rfl) rfl ?_ ?_
     rotate_left 2
     ·go_simp
      constructor
      ·rfl
      ·rfl
     refine hK.out _ _ ⟨(blk_cell (blk_alloc BK1064.out _) 0).trans rfl, (blk_cell (blk_alloc BK1064.out _) 1).trans rfl⟩ (fun hHeld => ?_)
     clear hK K
     refine norm_ (a' := ?_) ?_ ?_
     rotate_left
     ·show Act.put _ (some 17) _ = _
      simp only [Act.put, List.setIfInBounds_toArray, List.set_cons_zero, List.set_cons_succ, i64_w, i32_w]
      rfl
     refine one_ (i := 5) (N := some 18) #[true, true, true, true, true, true, false, false] rfl rfl (one_of HT_.out (by kernel_rfl)) (by decide) (fun K hK => ?_)
     refine Kd.R_append_step (Kd.int .i64) (w0 := w) w.heap.size (by rfl) (.tmp 14) (.tmp 17) 22 2 (.int .i64 0) 8 rfl Tryd.underlying22 info2 rfl (by decide) (by omega) u1065001 x1065001_1 t1065 [.int .i64 t1065] (fun _ => True) (fun _ => False) rfl rfl ?aP (fun _ hk => hk.elim) ?aF ?aO ?aB ?aS ?aL ?_
     (case aP => exact rfl)
     (case aB => exact (bW))
     (case aF => exact (fun _ _ => trivial))
     (case aO => exact (rP HO_1065001.out))
     (case aS => exact (below_size (bW)))
     (case aL => have := LMc11.out; omega)
     intro v1067 w13 ho hb hg hat
     rw [← Ny1066.out] at ho
     have n0_ := Aside0.mk (blk_grown (g := gb1060) (o := .cells #[.int .i64 0, .slice none 0 0] 29 (0, 0)) (bP BK1060.out) hg (Kd.R_ne HO_1065001.out BK1060.out (by decide)))
     have n1_ := Aside0.mk (blk_grown (g := gb1064) (o := .cells #[.int .i64 a0, u1065001] 29 (0, 0)) (bP BK1064.out) hg (Kd.R_ne HO_1065001.out BK1064.out (by decide)))
     have n2_ := Aside0.mk (hb)
     have n3_ := Aside0.mk (ho)
     clear BK1060 BK1064 HB HO_1065001; have BK1060 := n0_; have BK1064 := n1_; have HB := n2_; have HO1068 := n3_; clear n0_ n1_ n2_ n3_ ho hb hg hat
     obtain ⟨Ao14, co14, eo14⟩ := Kd.R_slice HO1068.out
     (first | subst eo14 | (injection eo14 with f1_ f2_ f3_; have f4_ := f1_.symm; have f5_ := f3_.symm; clear f1_ f2_ f3_; subst f4_; subst f5_))
     refine hK.out _ _ ⟨(blk_cell BK1064.out 0).trans rfl, (blk_cell BK1064.out 1).trans rfl⟩ (fun hHeld => ?_)
     clear hK K
     refine norm_ (a' := ?_) ?_ ?_
     rotate_left
     ·show Act.put _ (some 18) _ = _
      simp only [Act.put, List.setIfInBounds_toArray, List.set_cons_zero, List.set_cons_succ, i64_w, i32_w]
      rfl
     refine pureS (i := 6) (N := some 19) (any_of HT_.out (by kernel_rfl)) ?_
     refine last_ (i := 7) (N := none) #[true, true, true, true, true, true, true, true] rfl rfl (one_of HT_.out (by kernel_rfl)) (by decide) (fun K hK => ?_)
     have hs15 : w13.cell? ⟨gb1064, 1, none⟩ = some (u1065001) := (blk_cell BK1064.out 1).trans rfl
     have hfs15 := blk_frozen BK1064.out 1
     have hns15_0 := NB1060_1064.out
     have hms15_0 := NB1064_1060.out
     refine skip_ (w1 := ?_) (by rfl) rfl ?_ ?_
     rotate_left
     ·go_simp
      rfl
     refine hK.out _ _ ?_
     clear hK K
     refine done_ (done_of HT_.out (by kernel_rfl)) ?_
     try go_wp2
     go_roundg k1
     case measure => have := HK1.out; omega
     case rel => exact ⟨(wrap64 (x4_1 + 1)), (y1066), (.slice Ao14 y1066.length co14), (eW), H', ⟨by have := HK1.out; omega⟩, ⟨by (with_reducible repeat (first | apply Kd.R_alloc | apply Kd.R_drewN | apply Kd.R_drew)); exact Kd.R_mono (Kd.R_far (p := ⟨gb1064, 1, none⟩) (Kd.R_types HO1068.out BK1064.out (by decide)) (fun _ hk => hk.2) (.slice Ao14 y1066.length co14)) (fun _ hk => trivial)⟩, ⟨by (with_reducible repeat (first | refine blk_drewN ?_ _ | refine blk_drew ?_ | refine blk_alloc ?_ _)); refine blk_far ?_ NB1060_1064.out _; exact bP BK1060.out⟩, ⟨by (with_reducible repeat (first | refine blk_drewN ?_ _ | refine blk_drew ?_ | refine blk_alloc ?_ _)); refine blk_put (cs := #[.int .i64 a0, u1065001]) ?_ 1 _ rfl; exact bP BK1064.out⟩, ⟨bW⟩⟩
    ·rw [if_neg c11] at H
     exact absurd H (by simp)
   ·rw [if_neg c9] at H
    have c9b0 : decide (x4_1 < a0) = false := decide_eq_false c9
    clear c9
    simp only [Option.some.injEq, Prod.mk.injEq] at H
    obtain ⟨rfl, rfl⟩ := H
    have hnb16 := NB1064_1060.out
    have hnc16 := NB1060_1064.out
    have hcz17_0 : wr.cell? ⟨gb1064, 0, none⟩ = some (.int .i64 a0) := (blk_cell BK1064.out 0).trans rfl
    have hcz17_1 : wr.cell? ⟨gb1064, 1, none⟩ = some (u1065001) := (blk_cell BK1064.out 1).trans rfl
    have hfz17_0 := blk_frozen BK1064.out 0
    have hfz17_1 := blk_frozen BK1064.out 1
    have hcz18_0 : wr.cell? ⟨gb1060, 0, none⟩ = some (.int .i64 0) := (blk_cell BK1060.out 0).trans rfl
    have hcz18_1 : wr.cell? ⟨gb1060, 1, none⟩ = some (.slice none 0 0) := (blk_cell BK1060.out 1).trans rfl
    have hfz18_0 := blk_frozen BK1060.out 0
    have hfz18_1 := blk_frozen BK1060.out 1
    obtain ⟨Ao19, co19, eo19⟩ := Kd.R_slice HO_1065001.out
    subst eo19
    go_wp2
    refine bodyPost_ret (results_cell_row rfl _ _ gb1060 29 #[.int .i64 a0, .slice Ao19 x1065001_1.length co19] (0, 0) _ rfl (by (with_reducible repeat (first | refine blk_drewN ?_ _ | refine blk_drew ?_ | refine blk_alloc ?_ _)); refine blk_put (cs := #[.int .i64 a0, .slice none 0 0]) ?_ 1 _ rfl; (with_reducible repeat (first | refine blk_drewN ?_ _ | refine blk_drew ?_ | refine blk_alloc ?_ _)); refine blk_put (cs := #[.int .i64 0, .slice none 0 0]) ?_ 0 _ rfl; exact bP BK1060.out) Tryd.underlying29 rfl (by kernel_rfl)) rfl ?_
    exact ⟨_, eW, by (with_reducible repeat (first | apply Kd.R_alloc | apply Kd.R_drewN | apply Kd.R_drew)); exact Kd.R_mono (Kd.R_far (p := ⟨gb1060, 1, none⟩) (Kd.R_far (p := ⟨gb1060, 0, none⟩) (Kd.R_types HO_1065001.out BK1060.out (by decide)) (fun _ hk => hk.2) (.int .i64 a0)) (fun _ hk => hk.2) (.slice Ao19 x1065001_1.length co19)) (fun _ hk => trivial), bW⟩
/-! ### spec_l01Pick: function 163 -/
def spec_l01Pick.f (s0_0 : List Int) (s0_1 : Int) (s0_2 : Int) (l1 : List Int) : Option (Int × Int × Int) := (spec_l01Next.f s0_0 s0_1 s0_2 (l1.length : Int)).bind fun bt1069 => (if 0 ≤ bt1069.1 then (if bt1069.1 < (l1.length : Int) then (some (rd l1 bt1069.1, bt1069.2.1, bt1069.2.2)) else (none)) else (none))
set_option maxHeartbeats 8000000 in
set_option maxRecDepth 100000 in
theorem spec_l01Pick.calls (g : Nat) (s0_0 : List Int) (s0_1 : Int) (s0_2 : Int) (A1 : Option Addr) (c1 : Nat) (l1 : List Int) (r1 : Int) (r2 : Int) (r3 : Int) (w0 w : World) (hI : IsS163 w0 w g s0_0 s0_1 s0_2) (hB : Below w0.heap.size w0 w) (hr1 : Kd.C (Kd.int .i64) w A1 l1.length l1) (hc1 : l1.length ≤ c1) (hf1 : ∀ ad, A1 = some ad → 0 < l1.length → ad.block ≠ g) (h : spec_l01Pick.f s0_0 s0_1 s0_2 l1 = some (r1, r2, r3)) :
  Calls Tryd.prog 163 #[.pointer (some ⟨g, 0, none⟩), .slice A1 l1.length c1] w fun e w' => e = .returned (.int .i64 r1) ∧ IsS163 w0 w' g s0_0 r2 r3 ∧ Below w0.heap.size w0 w' ∧ KeepBut w w' g none := by
 have HR1 := Aside0.mk hr1
 have HC1 := Aside0.mk hc1
 clear hr1 hc1
 have HI0 := Aside0.mk hI
 have HK := Aside0.mk (KeepBut.refl w g none)
 have HL := Aside0.mk hB.size
 clear hI
 have HW0 := Aside0.mk hB.size
 have HB := Aside0.mk hB
 clear hB
 have H : ((spec_l01Next.f s0_0 s0_1 s0_2 (l1.length : Int)).bind fun bt1069 => (if 0 ≤ bt1069.1 then (if bt1069.1 < (l1.length : Int) then (some (rd l1 bt1069.1, bt1069.2.1, bt1069.2.2)) else (none)) else (none))) = some (r1, r2, r3) := h
 clear h
 replace H := Option.bind_eq_some_iff.mp H
 obtain ⟨⟨t1069, t1070, t1071⟩, A30, H⟩ := H
 replace H : (if 0 ≤ t1069 then (if t1069 < (l1.length : Int) then (some (rd l1 t1069, t1070, t1071)) else (none)) else (none)) = some (r1, r2, r3) := H
 have A3 := Aside0.mk A30
 clear A30
 by_cases c4 : 0 ≤ t1069
 ·rw [if_pos c4] at H
  have c4b0 : decide (0 ≤ t1069) = true := decide_eq_true c4
  clear c4
  by_cases c5 : t1069 < (l1.length : Int)
  ·rw [if_pos c5] at H
   have c5b0 : decide (t1069 < (l1.length : Int)) = true := decide_eq_true c5
   clear c5
   simp only [Option.some.injEq, Prod.mk.injEq] at H
   obtain ⟨rfl, rfl, rfl⟩ := H
   go_enter Tryd.func163, Tryd.ntmps163
   go_wp2_with (first | ((with_reducible refine gate_callee (f := 97) rfl ?_); refine goesS (some 9) Tryd.func97 #[.pointer (some ⟨g, 0, none⟩), .int .i64 (l1.length : Int)] ?_; (with_reducible refine (spec_l01Next.calls g s0_0 s0_1 s0_2 (l1.length : Int) t1069 t1070 t1071 w0 _ ?side1 ?side2 A3.out).mono ?_); (case side1 => repeat (first | (with_reducible first | exact HI0.out | apply IsS163.alloc | apply IsS163.drewN | apply IsS163.drew | apply IsS163.set_1 | apply IsS163.set_2) | exact HI0.out)); (case side2 => repeat (first | (with_reducible first | exact HB.out | apply below_alloc | apply pw_below_drewN | apply below_drew1 | refine below_set ?_ (IsS163.ge HI0.out)) | exact HB.out)); rintro e w6 ⟨rfl, hi, hb, hk⟩; refine ⟨_, rfl, ?_⟩; have n0_ := Aside0.mk (KeepBut.trans (by repeat (first | (with_reducible first | exact HK.out | apply KeepBut.set_ | apply keep_drewN | apply keep_drew | apply keep_alloc) | exact HK.out)) hk (.inl rfl)); have n1_ := Aside0.mk (hb); have n2_ := Aside0.mk (hi); clear HK HB HI0; have HK := n0_; have HB := n1_; have HI0 := n2_; clear n0_ n1_ n2_; (try clear hb); (try clear hb2); (try clear hk); (try clear hi); have p1072 : 0 ≤ (t1069 : Int) := ofD; have q1072 : t1069 < (l1.length : Int) := ofD; obtain ⟨ad1072, e1072, hx1072_0⟩ := Kd.at_int HR1.out t1069 p1072 q1072; cases e1072; replace hx1072_0 := keep_cell HK.out hx1072_0 (by first | (rw [add_block]; exact hf1 _ rfl (by omega)) | exact hf1 _ rfl (by omega) | exact hf1 ad1072 rfl (by omega)); replace p1072 := eq_true p1072; replace q1072 := eq_true q1072))
   go_ret
   exact ⟨eW, by repeat (first | (with_reducible first | exact HI0.out | apply IsS163.alloc | apply IsS163.drewN | apply IsS163.drew | apply IsS163.set_1 | apply IsS163.set_2) | exact HI0.out), by repeat (first | (with_reducible first | exact HB.out | apply below_alloc | apply pw_below_drewN | apply below_drew1 | refine below_set ?_ (IsS163.ge HI0.out)) | exact HB.out), by repeat (first | (with_reducible first | exact HK.out | apply KeepBut.set_ | apply keep_drewN | apply keep_drew | apply keep_alloc) | exact HK.out)⟩
  ·rw [if_neg c5] at H
   exact absurd H (by simp)
 ·rw [if_neg c4] at H
  exact absurd H (by simp)
/-! ### spec_l02Join: function 164 -/
def spec_l02Join.f (a0_0 : Int) (l0_1 : List Int) (a1 : Int) (a2 : Int) : Option (List Int) := if 0 ≤ a1 then (if a1 < (l0_1.length : Int) then ((spec_l01One.f a2).bind fun t1075 => ((some (l0_1.set (a1 : Int).toNat (Go.bits .or .i64 (rd l0_1 a1) t1075) : List Int)).bind fun y1076 => (if 0 ≤ a2 then (if a2 < (l0_1.length : Int) then ((spec_l01One.f a1).bind fun t1078 => (some (y1076.set (a2 : Int).toNat (Go.bits .or .i64 (rd y1076 a2) t1078)))) else (none)) else (none)))) else (none)) else (none)
def spec_l02Join.T1 : Bool × List (List Nat × List Nat) := (true, [([], []), ([0], [0]), ([], []), ([], []), ([3], [3]), ([], []), ([4, 5], [4, 5]), ([6], [6]), ([], []), ([8], [8]), ([7, 9], [7, 9]), ([1, 2, 0, 1, 2, 3, 4, 5, 6, 7, 8, 9, 10], [1, 2]), ([11, 10, 9, 0, 1, 2, 3, 4, 5, 6, 7, 8, 9, 10], [10, 11])])
def spec_l02Join.B1 : List Nat := [0, 1, 0, 0, 8, 0, 56, 120, 0, 256, 1016, 2047, 4095]
theorem spec_l02Join.tab1 : rtab .any (opsOf Tryd.f164 1) = spec_l02Join.T1 := by kernel_rfl
theorem spec_l02Join.bits1 : waitsOk spec_l02Join.T1.2 spec_l02Join.B1 = true := by kernel_rfl
def spec_l02Join.T2 : Bool × List (List Nat × List Nat) := (true, [([], []), ([0], [0]), ([], []), ([], []), ([3], [3]), ([], []), ([4, 5], [4, 5]), ([6], [6]), ([], []), ([8], [8]), ([7, 9], [7, 9]), ([1, 2, 0, 1, 2, 3, 4, 5, 6, 7, 8, 9, 10], [1, 2]), ([11, 10, 9, 0, 1, 2, 3, 4, 5, 6, 7, 8, 9, 10], [10, 11])])
def spec_l02Join.B2 : List Nat := [0, 1, 0, 0, 8, 0, 56, 120, 0, 256, 1016, 2047, 4095]
theorem spec_l02Join.tab2 : rtab .any (opsOf Tryd.f164 2) = spec_l02Join.T2 := by kernel_rfl
theorem spec_l02Join.bits2 : waitsOk spec_l02Join.T2.2 spec_l02Join.B2 = true := by kernel_rfl
set_option maxHeartbeats 8000000 in
set_option maxRecDepth 100000 in
theorem spec_l02Join.calls (a0_0 : Int) (P0_1_ : Nat → Prop) (u9000_ : Value) (l0_1 : List Int) (a1 : Int) (a2 : Int) (r : List Int) (w0 w : World) (hB : Below w0.heap.size w0 w) (ho0_1 : Kd.R (Kd.int .i64) 2 w w0.heap.size P0_1_ u9000_ l0_1) (h : spec_l02Join.f a0_0 l0_1 a1 a2 = some r) :
  Calls Tryd.prog 164 #[.agg #[.int .i64 a0_0, u9000_], .int .i64 a1, .int .i64 a2] w fun e w' => e = .returned (.tuple #[]) ∧ Kd.R (Kd.int .i64) 2 w' w0.heap.size (fun k_ => (P0_1_ k_ ∨ w.heap.size ≤ k_)) u9000_ r ∧ Below w0.heap.size w0 w' ∧ Kept w w' (fun k_ => P0_1_ k_) := by
 have hu29 := Tryd.underlying29
 have HO0_1 := Aside0.mk (show Kd.R (Kd.int .i64) 2 w w0.heap.size (fun k_ => (P0_1_ k_ ∨ w.heap.size ≤ k_)) u9000_ l0_1 from Kd.R_mono ho0_1 (fun k_ hk => (.inl hk)))
 have HK := Aside0.mk (Kept.refl w (fun k_ => P0_1_ k_))
 have HW0 := Aside0.mk hB.size
 have HB := Aside0.mk hB
 clear hB
 have H : (if 0 ≤ a1 then (if a1 < (l0_1.length : Int) then ((spec_l01One.f a2).bind fun t1075 => ((some (l0_1.set (a1 : Int).toNat (Go.bits .or .i64 (rd l0_1 a1) t1075) : List Int)).bind fun y1076 => (if 0 ≤ a2 then (if a2 < (l0_1.length : Int) then ((spec_l01One.f a1).bind fun t1078 => (some (y1076.set (a2 : Int).toNat (Go.bits .or .i64 (rd y1076 a2) t1078)))) else (none)) else (none)))) else (none)) else (none)) = some r := h
 clear h
 by_cases c4 : 0 ≤ a1
 ·rw [if_pos c4] at H
  have c4b0 : decide (0 ≤ a1) = true := decide_eq_true c4
  clear c4
  by_cases c5 : a1 < (l0_1.length : Int)
  ·rw [if_pos c5] at H
   have c5b0 : decide (a1 < (l0_1.length : Int)) = true := decide_eq_true c5
   clear c5
   replace H := Option.bind_eq_some_iff.mp H
   obtain ⟨t1075, A60, H⟩ := H
   replace H : ((some (l0_1.set (a1 : Int).toNat (Go.bits .or .i64 (rd l0_1 a1) t1075) : List Int)).bind fun y1076 => (if 0 ≤ a2 then (if a2 < (l0_1.length : Int) then ((spec_l01One.f a1).bind fun t1078 => (some (y1076.set (a2 : Int).toNat (Go.bits .or .i64 (rd y1076 a2) t1078)))) else (none)) else (none))) = some r := H
   have A6 := Aside0.mk A60
   clear A60
   obtain ⟨y1076, hy1076⟩ : ∃ y_ : List Int, y_ = (l0_1.set (a1 : Int).toNat (Go.bits .or .i64 (rd l0_1 a1) t1075)) := ⟨_, rfl⟩
   replace H : (if 0 ≤ a2 then (if a2 < (l0_1.length : Int) then ((spec_l01One.f a1).bind fun t1078 => (some (y1076.set (a2 : Int).toNat (Go.bits .or .i64 (rd y1076 a2) t1078)))) else (none)) else (none)) = some r := by first | (rw [hy1076]; with_reducible exact H) | (have H2_ := (Option.bind_some _ _).symm.trans H; rw [hy1076]; with_reducible exact H2_) | (have H2_ := (Option.bind_some _ _).symm.trans H; with_reducible exact H2_) | with_reducible exact H | (rw [hy1076]; exact H) | exact H
   have Ny1076 := Aside0.mk hy1076
   clear hy1076
   by_cases c8 : 0 ≤ a2
   ·rw [if_pos c8] at H
    have c8b0 : decide (0 ≤ a2) = true := decide_eq_true c8
    clear c8
    by_cases c9 : a2 < (l0_1.length : Int)
    ·rw [if_pos c9] at H
     have c9b0 : decide (a2 < (l0_1.length : Int)) = true := decide_eq_true c9
     clear c9
     replace H := Option.bind_eq_some_iff.mp H
     obtain ⟨t1078, A100, H⟩ := H
     replace H : (some (y1076.set (a2 : Int).toNat (Go.bits .or .i64 (rd y1076 a2) t1078))) = some r := H
     have A10 := Aside0.mk A100
     clear A100
     obtain ⟨y1079, hy1079⟩ : ∃ y_ : List Int, y_ = (y1076.set (a2 : Int).toNat (Go.bits .or .i64 (rd y1076 a2) t1078)) := ⟨_, rfl⟩
     replace H : (some y1079) = some r := by first | (rw [hy1079]; with_reducible exact H) | (have H2_ := (Option.bind_some _ _).symm.trans H; rw [hy1079]; with_reducible exact H2_) | (have H2_ := (Option.bind_some _ _).symm.trans H; with_reducible exact H2_) | with_reducible exact H | (rw [hy1079]; exact H) | exact H
     have Ny1079 := Aside0.mk hy1079
     clear hy1079
     obtain rfl := Option.some.inj H
     obtain ⟨Ao12, co12, eo12⟩ := Kd.R_slice HO0_1.out
     subst eo12
     go_enter Tryd.func164, Tryd.ntmps164
     try go_wp2_with (first | ((with_reducible refine gate_dst (N := 3) rfl ?_); refine boxS (N := 3) (cs := #[.int .i64 a0_0, .slice Ao12 l0_1.length co12]) (t := 29) ?_; intro gb1073 hg w13 hbox hb; have n0_ := Aside0.mk (Kd.R_below (rP HO0_1.out) hb); have n1_ := Aside0.mk (Kept.below (S := (fun k_ => P0_1_ k_)) (kW) hb); have n2_ := Aside0.mk (below_step (bW) hb); have n3_ := Aside0.mk (hbox); have n4_ := Aside0.mk ((by rw [hg]; exact (by first | exact HK.out.1 | exact (show Kept w _ (fun k_ => P0_1_ k_) from kW).1) : w.heap.size ≤ gb1073)); have n5_ := geW (w := w0) hg; clear HO0_1 HK HB; have HO0_1 := n0_; have HK := n1_; have HB := n2_; have BK1073 := n3_; have GW1073 := n4_; have GE1073 := n5_; clear n0_ n1_ n2_ n3_ n4_ n5_ hb hbox hg))
     have n0_ := Aside0.mk (Kd.R_drew HO0_1.out)
     have n1_ := Aside0.mk (blk_drew BK1073.out)
     have n2_ := Aside0.mk (Kept.drew HK.out)
     have n3_ := Aside0.mk (below_drew1 HB.out)
     clear HO0_1 BK1073 HK HB; have HO0_1 := n0_; have BK1073 := n1_; have HK := n2_; have HB := n3_; clear n0_ n1_ n2_ n3_
     have p1074 : 0 ≤ (a1 : Int) := ofD
     have q1074 : a1 < (l0_1.length : Int) := ofD
     obtain ⟨ad1074, e1074, hx1074_0⟩ := Kd.at_int (Kd.R_reads' HO0_1.out).2.2 a1 p1074 q1074
     cases e1074
     replace p1074 := eq_true p1074
     replace q1074 := eq_true q1074
     refine start_ (n := 13) (S := fun w' => w'.cell? ⟨gb1073, 0, none⟩ = some (.int .i64 a0_0) ∧ w'.cell? ⟨gb1073, 1, none⟩ = some (.slice (some ad1074) l0_1.length co12) ∧ w'.cell? (ad1074.add (a1).toNat) = some (.int .i64 (rd l0_1 a1))) (ds := [12]) #[false, false, false, false, false, false, false, false, false, false, false, false, false] (by kernel_rfl) rfl rfl ⟨(blk_cell BK1073.out 0).trans rfl, (blk_cell BK1073.out 1).trans rfl, hx1074_0⟩ (fun hHeld => ?_); refine with_tabW spec_l02Join.tab1 spec_l02Join.bits1 (fun HT_ HW_ => ?_)
     generalize w13.drew = w14 at HO0_1 BK1073 HK HB hx1074_0 hHeld ⊢
     refine pureS (i := 0) (N := some 6) (any_of HT_.out (by kernel_rfl)) ?_
     refine pureS (i := 2) (N := some 8) (any_of HT_.out (by kernel_rfl)) ?_
     refine pureS (i := 3) (N := some 9) (any_of HT_.out (by kernel_rfl)) ?_
     refine pureS (i := 5) (N := some 11) (any_of HT_.out (by kernel_rfl)) ?_
     refine pureS (i := 8) (N := some 14) (any_of HT_.out (by kernel_rfl)) ?_
     refine takeS (i := 1) (N := some 7) (take_ofW HT_.out HW_.out (by kernel_rfl)) hHeld ?_
     refine takeS (i := 4) (N := some 10) (take_ofW HT_.out HW_.out (by kernel_rfl)) hHeld ?_
     refine pureS (i := 6) (N := some 12) (any_of HT_.out (by kernel_rfl)) ?_
     refine takeS (i := 7) (N := some 13) (take_ofW HT_.out HW_.out (by kernel_rfl)) hHeld ?_
     refine one_ (i := 9) (N := some 15) #[true, true, true, true, true, true, true, true, true, true, false, false, false] rfl rfl (one_of HT_.out (by kernel_rfl)) (by decide) (fun K hK => ?_)
     refine goes_ Tryd.func89 (by kernel_rfl) rfl #[.int .i64 a2] (by rfl) rfl rfl (by (try simp only [List.map_toArray, List.map_cons, List.map_nil]); first | done | rfl | (simp only [List.length_drop, List.length_take]; rfl)) ?_
     with_reducible refine (spec_l01One.calls a2 t1075 _ A6.out).mono ?_
     rintro e w' ⟨rfl, ⟨nd, rfl⟩⟩
     refine ⟨_, rfl, ?_⟩
     have p7 : 0 ≤ (a1 : Int) := ofD
     have q7 : (a1 : Int) < ((l0_1.length : Int) : Int) := ofD
     obtain ⟨go7, co7, eo7, gb7, gl7, cl7, HG7⟩ := Kd.R_form HO0_1.out (by omega)
     (first | cases eo7 | (injection eo7 with ea_ en_ ec_; (first | subst ea_ | (injection ea_ with ea_; subst ea_)); subst ec_; clear en_))
     have GB7 := Aside0.mk gb7
     have GG7 := Aside0.mk HG7
     clear gb7 gl7 HG7
     have HMgo7 := Aside0.mk (show (P0_1_ go7 ∨ w.heap.size ≤ go7) from (HO0_1.out.1 _ rfl))
     (first | simp only [add_plain] at hx1074_0 | skip)
     obtain ⟨hx7_0, hf7_0⟩ := Kd.R_celln 0 HO0_1.out (a1 : Int) p7 q7
     replace p7 := eq_true p7
     replace q7 := eq_true q7
     have HP15 := Kd.R_putn HO0_1.out (a1 : Int) (Go.bits .or .i64 (rd l0_1 a1) t1075)
     rw [← Ny1076.out] at HP15
     have HQ15 := Aside0.mk HP15
     clear HP15
     refine hK.out _ _ ⟨(blk_cell BK1073.out 0).trans rfl, (blk_cell BK1073.out 1).trans rfl, hHeld.2.2⟩ (fun hHeld => ?_)
     clear hK K
     refine norm_ (a' := ?_) ?_ ?_
     rotate_left
     ·show Act.put _ (some 15) _ = _
      simp only [Act.put, List.setIfInBounds_toArray, List.set_cons_zero, List.set_cons_succ, i64_w, i32_w]
      rfl
     refine pureS (i := 10) (N := some 16) (any_of HT_.out (by kernel_rfl)) ?_
     refine pureS (i := 11) (N := some 17) (any_of HT_.out (by kernel_rfl)) ?_
     refine last_ (i := 12) (N := none) #[true, true, true, true, true, true, true, true, true, true, true, true, true] rfl rfl (one_of HT_.out (by kernel_rfl)) (by decide) (fun K hK => ?_)
     refine skip_ (w1 := ?_) (by rfl) rfl ?_ ?_
     rotate_left
     ·go_simp
      rfl
     refine hK.out _ _ ?_
     clear hK K
     refine done_ (done_of HT_.out (by kernel_rfl)) ?_
     try go_wp2
     (repeat rw [World.drewN_drewN]); generalize hqq16_ : World.drewN w14 _ = wqq16; have hbq16_ : Below w14.heap.size w14 wqq16 := (by rw [← hqq16_]; exact pw_below_drewN (Below.refl _ _) _)
     have n0_ := Aside0.mk (Kd.R_below HO0_1.out hbq16_)
     have n1_ := Aside0.mk (blk_below BK1073.out hbq16_)
     have n2_ := Aside0.mk (show Kept w wqq16 (fun k_ => P0_1_ k_) from by rw [← hqq16_]; exact Kept.drewN HK.out _)
     have n3_ := Aside0.mk (show Below w0.heap.size w0 wqq16 from by rw [← hqq16_]; exact pw_below_drewN HB.out _)
     clear HO0_1 BK1073 HK HB; have HO0_1 := n0_; have BK1073 := n1_; have HK := n2_; have HB := n3_; clear n0_ n1_ n2_ n3_
     have n_ := Aside0.mk (show Kd.R (Kd.int .i64) 2 (wqq16.setCell ⟨go7, (a1 : Int).toNat, none⟩ (.int .i64 (Go.bits .or .i64 (rd l0_1 a1) t1075))) _ _ _ _ from by rw [← hqq16_]; exact Kd.R_drewN HQ15.out _); clear HQ15; have HQ15 := n_; clear n_
     clear hqq16_ hbq16_
     have n0_ : Aside0 (Kd.R (Kd.int .i64) 2 (wqq16.setCell ⟨go7, (a1 : Int).toNat, none⟩ (.int .i64 (Go.bits .or .i64 (rd l0_1 a1) t1075))) w0.heap.size (fun k_ => (P0_1_ k_ ∨ w.heap.size ≤ k_)) (.slice (some ⟨go7, 0, none⟩) l0_1.length co12) y1076) := ⟨(rP HQ15.out)⟩
     have n1_ : Aside0 ((wqq16.setCell ⟨go7, (a1 : Int).toNat, none⟩ (.int .i64 (Go.bits .or .i64 (rd l0_1 a1) t1075))).heap[gb1073]? = some (.cells #[.int .i64 a0_0, .slice (some ⟨go7, 0, none⟩) l0_1.length co12] 29 (0, 0))) := ⟨by (with_reducible repeat (first | refine blk_drewN ?_ _ | refine blk_drew ?_ | refine blk_alloc ?_ _)); refine blk_far ?_ (by have h_ := Kd.R_ne HO0_1.out BK1073.out (by decide); intro e_; exact h_ (by rw [e_]; rfl)) _; exact bP BK1073.out⟩
     have n2_ : Aside0 (Kept w (wqq16.setCell ⟨go7, (a1 : Int).toNat, none⟩ (.int .i64 (Go.bits .or .i64 (rd l0_1 a1) t1075))) (fun k_ => P0_1_ k_)) := ⟨by repeat (first | (with_reducible first | exact HK.out | apply Kept.alloc | apply Kept.drewN | apply Kept.drew | refine Kept.setCell ?_ HMgo7.out _ | refine Kept.setCell ?_ (.inr GW1073.out) _) | exact HK.out)⟩
     have n3_ : Aside0 (Below w0.heap.size w0 (wqq16.setCell ⟨go7, (a1 : Int).toNat, none⟩ (.int .i64 (Go.bits .or .i64 (rd l0_1 a1) t1075)))) := ⟨bW⟩
     (try clear HO0_1)
     (try clear BK1073)
     (try clear HK)
     (try clear HB)
     generalize (wqq16.setCell ⟨go7, (a1 : Int).toNat, none⟩ (.int .i64 (Go.bits .or .i64 (rd l0_1 a1) t1075))) = w17 at n0_ n1_ n2_ n3_ ⊢
     have HO0_1 := n0_; have BK1073 := n1_; have HK := n2_; have HB := n3_; clear n0_ n1_ n2_ n3_
     have n0_ := Aside0.mk (Kd.R_drew HO0_1.out)
     have n1_ := Aside0.mk (blk_drew BK1073.out)
     have n2_ := Aside0.mk (Kept.drew HK.out)
     have n3_ := Aside0.mk (below_drew1 HB.out)
     clear HO0_1 BK1073 HK HB; have HO0_1 := n0_; have BK1073 := n1_; have HK := n2_; have HB := n3_; clear n0_ n1_ n2_ n3_
     have p1077 : 0 ≤ (a2 : Int) := ofD
     have q1077 : a2 < (y1076.length : Int) := (by have h_ : (a2 : Int) < ((l0_1.length : Int) : Int) := ofD; first | (have e_ := (Kd.R_reads' HO0_1.out).1; omega) | simpa only [Ny1076.out, List.length_set] using h_)
     have ql1077 : ((a2 : Int) < ((l0_1.length : Int) : Int)) = True := eq_true (ofD)
     obtain ⟨ad1077, e1077, hx1077_0⟩ := Kd.at_int (Kd.R_reads' HO0_1.out).2.2 a2 p1077 q1077
     obtain rfl : (⟨go7, 0, none⟩ : Addr) = ad1077 := (by injection e1077)
     (first | simp only [add_plain] at hx1077_0 | simp only [add_at] at hx1077_0 | simp only [Addr.add, Nat.zero_add] at hx1077_0 | skip)
     replace p1077 := eq_true p1077
     replace q1077 := eq_true q1077
     refine start_ (n := 13) (S := fun w' => w'.cell? ⟨gb1073, 0, none⟩ = some (.int .i64 a0_0) ∧ w'.cell? ⟨gb1073, 1, none⟩ = some (.slice (some ⟨go7, 0, none⟩) l0_1.length co12) ∧ w'.cell? ⟨go7, (a2).toNat, none⟩ = some (.int .i64 (rd y1076 a2))) (ds := [12]) #[false, false, false, false, false, false, false, false, false, false, false, false, false] (by kernel_rfl) rfl rfl ⟨(blk_cell BK1073.out 0).trans rfl, (blk_cell BK1073.out 1).trans rfl, hx1077_0⟩ (fun hHeld => ?_); refine with_tabW spec_l02Join.tab2 spec_l02Join.bits2 (fun HT_ HW_ => ?_)
     generalize w17.drew = w18 at HO0_1 BK1073 HK HB HQ15 hx1077_0 hHeld ⊢
     refine pureS (i := 0) (N := some 18) (any_of HT_.out (by kernel_rfl)) ?_
     refine pureS (i := 2) (N := some 20) (any_of HT_.out (by kernel_rfl)) ?_
     refine pureS (i := 3) (N := some 21) (any_of HT_.out (by kernel_rfl)) ?_
     refine pureS (i := 5) (N := some 23) (any_of HT_.out (by kernel_rfl)) ?_
     refine pureS (i := 8) (N := some 26) (any_of HT_.out (by kernel_rfl)) ?_
     refine takeS (i := 1) (N := some 19) (take_ofW HT_.out HW_.out (by kernel_rfl)) hHeld ?_
     refine takeS (i := 4) (N := some 22) (take_ofW HT_.out HW_.out (by kernel_rfl)) hHeld ?_
     refine pureS (i := 6) (N := some 24) (any_of HT_.out (by kernel_rfl)) ?_
     refine takeS (i := 7) (N := some 25) (take_ofW HT_.out HW_.out (by kernel_rfl)) hHeld ?_
     refine one_ (i := 9) (N := some 27) #[true, true, true, true, true, true, true, true, true, true, false, false, false] rfl rfl (one_of HT_.out (by kernel_rfl)) (by decide) (fun K hK => ?_)
     refine goes_ Tryd.func89 (by kernel_rfl) rfl #[.int .i64 a1] (by rfl) rfl rfl (by (try simp only [List.map_toArray, List.map_cons, List.map_nil]); first | done | rfl | (simp only [List.length_drop, List.length_take]; rfl)) ?_
     with_reducible refine (spec_l01One.calls a1 t1078 _ A10.out).mono ?_
     rintro e w' ⟨rfl, ⟨nd, rfl⟩⟩
     refine ⟨_, rfl, ?_⟩
     have p11 : 0 ≤ (a2 : Int) := ofD
     have q11 : (a2 : Int) < ((l0_1.length : Int) : Int) := ofD
     obtain ⟨hx11_0, hf11_0⟩ := Kd.R_celln 0 HO0_1.out (a2 : Int) p11 q11
     replace p11 := eq_true p11
     replace q11 := eq_true q11
     have HP19 := Kd.R_putn HO0_1.out (a2 : Int) (Go.bits .or .i64 (rd y1076 a2) t1078)
     rw [← Ny1079.out] at HP19
     have HQ19 := Aside0.mk HP19
     clear HP19
     refine hK.out _ _ ⟨(blk_cell BK1073.out 0).trans rfl, (blk_cell BK1073.out 1).trans rfl, hHeld.2.2⟩ (fun hHeld => ?_)
     clear hK K
     refine norm_ (a' := ?_) ?_ ?_
     rotate_left
     ·show Act.put _ (some 27) _ = _
      simp only [Act.put, List.setIfInBounds_toArray, List.set_cons_zero, List.set_cons_succ, i64_w, i32_w]
      rfl
     refine pureS (i := 10) (N := some 28) (any_of HT_.out (by kernel_rfl)) ?_
     refine pureS (i := 11) (N := some 29) (any_of HT_.out (by kernel_rfl)) ?_
     refine last_ (i := 12) (N := none) #[true, true, true, true, true, true, true, true, true, true, true, true, true] rfl rfl (one_of HT_.out (by kernel_rfl)) (by decide) (fun K hK => ?_)
     refine skip_ (w1 := ?_) (by rfl) rfl ?_ ?_
     rotate_left
     ·go_simp
      rfl
     refine hK.out _ _ ?_
     clear hK K
     refine done_ (done_of HT_.out (by kernel_rfl)) ?_
     try go_wp2
     first | go_end0 | ((try simp only [Exit.inBlock, Exit.then]); refine bodyPost_ret (results_none rfl _ _ _) rfl ?_)
     exact ⟨eW, (rP HQ19.out), bW, by repeat (first | (with_reducible first | exact HK.out | apply Kept.alloc | apply Kept.drewN | apply Kept.drew | refine Kept.setCell ?_ HMgo7.out _ | refine Kept.setCell ?_ (.inr GW1073.out) _) | exact HK.out)⟩
    ·rw [if_neg c9] at H
     exact absurd H (by simp)
   ·rw [if_neg c8] at H
    exact absurd H (by simp)
  ·rw [if_neg c5] at H
   exact absurd H (by simp)
 ·rw [if_neg c4] at H
  exact absurd H (by simp)
end Go.Proofs.YthbaocejgjpfoaaDoor.P
end M0
